/-
  Contracts of functions, printed by a program of ours.
-/
import Derived.Test.YtdlminfjdodjoaaGreatL4F1
namespace Go.Proofs.YtdlminfjdodjoaaGreat
open Go.RowKit
set_option maxRecDepth 100000
set_option maxHeartbeats 4000000
open _root_.Go.Proofs.Tryz
def Qaid (x0 : Qau) (k42 : Nat) (k62 : Nat) : Bool ⊕ (Unit) :=
 cond (Qjl (gt (Qdg x0) k42) (gt (Qdg x0) k62)) (Sum.inr ()) (Sum.inl false)
def Qvm (x0 : Qau) (k42 : Nat) : Bool ⊕ (Unit) :=
 cond (Qhz (gt (Qdg x0) k42) x0.Now) (Sum.elim Sum.inl (fun (s : Unit) => Sum.inr ()) (rng (R := Bool) (fun k (_ : Unit) => Qaid x0 k42 k) (k42 - 0) 0 ())) (Sum.inl false)
def Qst (x0 : Qau) (k14 : Nat) : Bool ⊕ (Unit) :=
 cond (decide (4 < ((((gt x0.Segments k14)).length : Nat) : Int))) (Sum.inl false) (Sum.inr ())
def Qji (x0 : Qau) : Bool :=
 cond (Qbk ((x0.Segments.length : Nat) : Int) 1 8) (cond (Qbk x0.Now 0 100000) (Sum.elim id (fun (s1_ : Unit) => Sum.elim id (fun (s : Unit) => true) (rng (R := Bool) (fun k (_ : Unit) => Qvm x0 k) ((Qdg x0).length - 0) 0 ())) (rng (R := Bool) (fun k (_ : Unit) => Qst x0 k) (x0.Segments.length - 0) 0 ())) false) false
theorem Qbay {x0 : Qau} (h : ((x0.Segments.length : Nat) : Int) ≤ 8) (hE : rng (R := Bool) (fun k (_ : Unit) => Qst x0 k) (x0.Segments.length - 0) 0 () = .inr ()) : (x0.Segments.map List.length).sum ≤ 68719476736 := by
 have h1 := Qbcs (w := List.length) (c := 4) (xs := x0.Segments) fun j hj => by
  have h2 := Qaai _ _ hE j (Nat.zero_le _) (by omega)
  unfold Qst at h2
  by_cases h3 : 4 < ((gt x0.Segments j).length : Int)
  ·rw [decide_eq_true h3] at h2; cases h2
  omega
 omega
theorem Qadi : Cb Tryz.prog 121 := ⟨f121, _, func121, rfl, by decide⟩
theorem Qaie (w : World) (z0 : List Value) (x0 : Qau) (r_0 : Qdm.rd w w.heap.size z0 x0) (s_0 : Qgh 68719476736 x0) :
  Calls Tryz.prog 121 #[.agg z0.toArray] w (rB w (Qji x0)) := by
 obtain ⟨v1, rfl, r2⟩ := Qjs r_0
 obtain ⟨m3, A4, c5, rfl, q6, r7⟩ := Qi r2
 have l8 : x0.Segments.length ≤ 68719476736 := s_0.1
 refine ce1 (L := [(0, .agg #[.slice A4 x0.Segments.length c5, iV x0.Now])]) (N := 63) func121 ?_
 refine sr ?_
 refine Qbn rfl (Qk rfl) (by decide) (fun p9 => ?_)
 refine wa (nt' (Qe (sr ?_)))
 refine wv (vf Qbw rfl Qea) ?_
 refine wv (vl 0 0 Qbz) ?_
 refine wv (Qag Qbz) ?_
 refine wcv (Qr Qeh rfl) (fun W hm => Qej W ((x0.Segments.length : Nat) : Int) 1 8) ?_
 refine wv Qbr ?_
 refine wm ?_
 rcases bd (Qbk ((x0.Segments.length : Nat) : Int) 1 8) with g11 | g11
 ·
  have hw := Qeo g11
  refine wg (vf Qbw rfl Qf) (nt g11) ?_
  refine wg (vl 0 1 Qs) (nt g11) ?_
  refine Qcr (Qr Qeh rfl) (fun W hm => Qej W x0.Now 0 100000) (Qcc rfl rfl rfl (bw (nt g11) rfl)) (by decide) ?_
  refine wg Qbr (nt g11) ?_
  refine wv (vpF (nt g11)) ?_
  refine nt' ?_
  rcases bd (Qbk x0.Now 0 100000) with g13 | g13
  ·
   have hw := Qeo g13
   refine Qm rfl (nt g13) ?_
   refine Qp (Qd (Qe (sr (wa (nt' (Qx ?_))))))
   let I1 : It := Qh p9 34 [.slice A4 x0.Segments.length c5, iV x0.Now]
   refine Qbg (S := Unit) (R := Unit) (fun k (_ : Unit) => Qst x0 k) x0.Segments.length 0 () () (fun s => [(1, bp p9), (3, nI s.1)]) (fun s => [I1]) (fun s => True) sl2 trivial ?_
   rintro ⟨k14, ⟨⟩, ⟨⟩⟩ H17 _ _ e e'
   dsimp only at H17 ⊢
   subst e e'
   obtain ⟨hk15, hF16, _⟩ := H17
   refine Qe (sr (wm ?_))
   refine wv (vf Qbw rfl Qea) ?_
   refine wv (vl 0 0 Qbz) ?_
   refine wv (Qag Qbz) ?_
   refine wv Qai ?_
   refine nt' ?_
   rcases dcl k14 x0.Segments.length with ⟨hl18, g19⟩ | ⟨hl18, g19⟩
   ·
    refine Ql rfl g19 ?_
    refine Qp (Qd (Qe (Qx (sr ?_))))
    refine wv (vf Qbw rfl Qea) ?_
    refine wv (vl 0 0 Qbz) ?_
    refine wm ?_
    obtain ⟨a20, rfl, hb21, he22⟩ := q6 (by omega)
    refine wv (vix 1 k14 Qbz Qfl) ?_
    obtain ⟨_, e24, hc23⟩ := he22 k14 _ (Qbs (show k14 < x0.Segments.length from by omega))
    have l25 : (gt x0.Segments k14).length ≤ 68719476736 := (s_0.2 _ (Qak (show k14 < x0.Segments.length from by omega))).1
    obtain ⟨v26, rfl, r27⟩ := e24
    obtain ⟨m28, A29, c30, rfl, q31, r32⟩ := Qi r27
    refine wv (fun W hm => Qaw Qbv rfl rfl ((hm.cell0 (show (a20.add (k14 * 1)).block < w.heap.size from by rw [Qae]; exact hb21.1)).trans (hc23 0 _ rfl))) ?_
    refine wv (Qag Qbv) ?_
    refine wv (fun W hm => Qem rfl rfl) ?_
    refine nt' ?_
    rcases dcd (4 < ((((gt x0.Segments k14)).length : Nat) : Int)) with ⟨h33, g34⟩ | ⟨h33, g34⟩
    ·
     refine Ql rfl g34 ?_
     refine sr (wa (nt' (Qj (Qaa (Qg (Qg (Qaa (Qg ?_))))))))
     exact rtb (h := Qb g11 (Qb g13 (Qbf (nr hF16 (Qb g34 (rfl))) rfl)))
    refine Qm rfl g34 ?_
    refine Qp (Qam (Qd (Qy (wm ?_))))
    refine wv (Qal k14 1 (by omega)) ?_
    refine wa (Qac ?_)
    exact Qan (k14 + 1, (), ()) sl2 idM ⟨(by omega), nx hF16 (Qc g34 (rfl)), trivial⟩ rl
   refine Qm rfl g19 ?_
   refine Qay (Qu (Qu ?_))
   have hE36 := Qbh hl18 hF16
   have HQ := Qbay (by omega) hE36
   refine Qaz (Qd (sr ?_))
   refine wv (fun W hm => Qad (cs := [.slice A4 x0.Segments.length c5, iV x0.Now]) Qbw Qbt rfl rfl (hm.boxCells (n := 0) rfl)) ?_
   refine Qpu (χ := Value) (val := fun x => x) (js := fun x => (Qn (tSl (Qes Qaf w w.heap.size) 163) [x] (Qdg x0) :: [I1])) (Qr Qaol rfl) (fun W hm => Qbcb w.heap.size w [I1] W _ x0 (Qgc r7) s_0 (HQ) hm) (Qk rfl) (by decide) (fun v37 => ?_)
   refine fm 0 ?_
   rintro A38 c39 rfl m40
   refine wa (nt' (Qe (sr (wa (nt' (Qx ?_))))))
   refine Qbg (S := Unit) (R := Unit) (fun k (_ : Unit) => Qvm x0 k) ((Qdg x0).length) 0 () () (fun s => [(1, bp p9), (4, .slice A38 (Qdg x0).length c39), (5, nI s.1)]) (fun s => [iS (Qes Qaf w w.heap.size) 163 A38 c39 (Qdg x0), I1]) (fun s => True) sl3 trivial ?_
   rintro ⟨k42, ⟨⟩, ⟨⟩⟩ H45 _ _ e e'
   dsimp only at H45 ⊢
   subst e e'
   obtain ⟨hk43, hF44, _⟩ := H45
   refine Qe (sr (wm (wm ?_)))
   refine wv (Qag Qbv) ?_
   refine wv Qai ?_
   refine nt' ?_
   rcases dcl k42 ((Qdg x0).length) with ⟨hl46, g47⟩ | ⟨hl46, g47⟩
   ·
    refine Ql rfl g47 ?_
    refine Qp (Qd (Qe (Qx (Qe (Qe ?_)))))
    refine Qpp (n := 0) rfl (by omega) ?_
    rintro g48 rfl
    refine Qabz (T := Qaf) (wb := w) (Bb := w.heap.size) (e := 163) (g := g48) (n := (Qdg x0).length) (c := c39) (xs := (Qdg x0)) (js := [I1]) idM ?_
    rintro ck49 rk50
    refine Qfa (by kernel_rfl) (by kernel_rfl) ?_
    refine qm (qm ?_)
    refine qv (vix 4 k42 Qbv Qbo) ?_
    obtain ⟨_, e51, hc52⟩ := rk50.get (j := k42) (by omega)
    obtain ⟨v53, rfl, r54⟩ := Qgd e51
    obtain ⟨m55, A56, c57, rfl, q58, r59⟩ := Qi r54
    refine qv (fun W hm => Qad (cs := [iV ((gt (Qdg x0) k42).Id), .slice A56 ((gt (Qdg x0) k42).Values).length c57, iV ((gt (Qdg x0) k42).Born), iV ((gt (Qdg x0) k42).Died)]) Qbp Qbo rfl rfl (hm.rowCells (i := 0) rfl hc52)) ?_
    refine qv (vf Qbw rfl Qf) ?_
    refine qv (vl 1 1 Qs) ?_
    refine Qev (Qr Qaom rfl) (fun W hm => Qbcj W _ (gt (Qdg x0) k42) x0.Now (Qgy (x := (gt (Qdg x0) k42)) (hm.rdS0 r59))) (Qk rfl) (by decide) ?_
    refine qv Qbr ?_
    refine nq' ?_
    rcases bd (Qhz (gt (Qdg x0) k42) x0.Now) with g61 | g61
    ·
     refine Qm rfl (nt g61) ?_
     refine Qp (Qd (sr (wa (nt' (Qx ?_)))))
     refine Qdw (fun W hm => Mem.hide rk50 hm) ?_
     refine Qbg (S := Unit) (R := Unit) (fun k (_ : Unit) => Qaid x0 k42 k) k42 0 () () (fun s => [(1, bp p9), (4, .slice (sA g48) (Qdg x0).length c39), (5, nI k42), (6, nI s.1)]) (fun s => [iS (Qes Qaf w w.heap.size) 163 (sA g48) c39 (Qdg x0), I1]) (fun s => True) sl4 trivial ?_
     rintro ⟨k62, ⟨⟩, ⟨⟩⟩ H65 _ _ e e'
     dsimp only at H65 ⊢
     subst e e'
     obtain ⟨hk63, hF64, _⟩ := H65
     refine Qe (sr (wm (wm ?_)))
     refine wv Qai ?_
     refine nt' ?_
     rcases dcl k62 k42 with ⟨hl66, g67⟩ | ⟨hl66, g67⟩
     ·
      refine Ql rfl g67 ?_
      refine Qp (Qd (Qe (Qx (Qe ?_))))
      refine Qabz (T := Qaf) (wb := w) (Bb := w.heap.size) (e := 163) (g := g48) (n := (Qdg x0).length) (c := c39) (xs := (Qdg x0)) (js := [I1]) idM ?_
      rintro ck68 rk69
      refine Qfa (by kernel_rfl) (by kernel_rfl) ?_
      refine qm (qm ?_)
      refine qv (vix 4 k42 Qbv Qbo) ?_
      obtain ⟨_, e70, hc71⟩ := rk69.get (j := k42) (by omega)
      obtain ⟨v72, rfl, r73⟩ := Qgd e70
      obtain ⟨m74, A75, c76, rfl, q77, r78⟩ := Qi r73
      refine qv (fun W hm => Qad (cs := [iV ((gt (Qdg x0) k42).Id), .slice A75 ((gt (Qdg x0) k42).Values).length c76, iV ((gt (Qdg x0) k42).Born), iV ((gt (Qdg x0) k42).Died)]) Qbp Qbo rfl rfl (hm.rowCells (i := 0) rfl hc71)) ?_
      refine qm (qm ?_)
      refine qv (vix 4 k62 Qbv Qbo) ?_
      obtain ⟨_, e79, hc80⟩ := rk69.get (j := k62) (by omega)
      obtain ⟨v81, rfl, r82⟩ := Qgd e79
      obtain ⟨m83, A84, c85, rfl, q86, r87⟩ := Qi r82
      refine qv (fun W hm => Qad (cs := [iV ((gt (Qdg x0) k62).Id), .slice A84 ((gt (Qdg x0) k62).Values).length c85, iV ((gt (Qdg x0) k62).Born), iV ((gt (Qdg x0) k62).Died)]) Qbp Qbo rfl rfl (hm.rowCells (i := 0) rfl hc80)) ?_
      refine Qev (Qr Qaon rfl) (fun W hm => Qbcc W _ (gt (Qdg x0) k42) _ (gt (Qdg x0) k62) (Qgy (x := (gt (Qdg x0) k42)) (hm.rdS0 r78)) (Qgy (x := (gt (Qdg x0) k62)) (hm.rdS0 r87))) (Qk rfl) (by decide) ?_
      refine qv Qbr ?_
      refine nq' ?_
      rcases bd (Qjl (gt (Qdg x0) k42) (gt (Qdg x0) k62)) with g89 | g89
      ·
       refine Qm rfl (nt g89) ?_
       refine Qp (Qam (Qd (Qy (wm ?_))))
       refine wv (Qal k62 1 (by omega)) ?_
       refine wa (Qac ?_)
       refine Qdd (fun W hm => Mem.hide rk69 hm) ?_
       exact Qan (k62 + 1, (), ()) sl4 idM ⟨(by omega), nx hF64 (Qb g89 (rfl)), trivial⟩ rl
      refine Ql rfl (nf g89) ?_
      refine sr (wa (nt' (Qj (Qaa (Qg (Qg (Qaa (Qaa (Qg (Qg (Qaa (Qg ?_))))))))))))
      refine Qdd (fun W hm => Mem.hide rk69 hm) ?_
      exact rtb (h := Qb g11 (Qb g13 (Qar hE36 (Qbf (nr hF44 (Qb g61 (Qbf (nr hF64 (Qc g89 (rfl))) rfl))) rfl))))
     refine Qm rfl g67 ?_
     refine Qay (Qu (Qu ?_))
     have hE91 := Qbh hl66 hF64
     refine Qaz (Qam (Qd (Qy (wm ?_))))
     refine wv (Qal k42 1 (by omega)) ?_
     refine wa (Qac ?_)
     exact Qan (k42 + 1, (), ()) sl3 idM ⟨(by omega), nx hF44 (Qb g61 (Qar hE91 (rfl))), trivial⟩ (show (Qdg x0).length - (k42 + 1) < (Qdg x0).length - k42 from by omega)
    refine Ql rfl (nf g61) ?_
    refine sr (wa (nt' (Qj (Qg (Qaa (Qg (Qg (Qaa (Qg ?_)))))))))
    refine Qdd (fun W hm => Mem.hide rk50 hm) ?_
    exact rtb (h := Qb g11 (Qb g13 (Qar hE36 (Qbf (nr hF44 (Qc g61 (rfl))) rfl))))
   refine Qm rfl g47 ?_
   refine Qay (Qu (Qu ?_))
   have hE93 := Qbh hl46 hF44
   refine Qaz (Qd (sr (wa (nt' (Qj ?_)))))
   exact rtb (h := Qb g11 (Qb g13 (Qar hE36 (Qar hE93 (rfl)))))
  refine Ql rfl (nf g13) ?_
  refine sr (wa (nt' (Qj (Qg ?_))))
  exact rtb (h := Qb g11 (Qc g13 (rfl)))
 refine ws (nf g11) ?_
 refine ws (nf g11) ?_
 refine ws (nf g11) ?_
 refine ws (nf g11) ?_
 refine wv (vpT (nf g11)) ?_
 refine nt' ?_
 refine Ql rfl rfl ?_
 refine sr (wa (nt' (Qj (Qg ?_))))
 exact rtb (h := Qc g11 (rfl))

def Qaib (x0 : (List Int)) (x1 : Int) (k6 : Nat) : Bool ⊕ (Unit) :=
 cond ((gt x0 k6) == x1) (Sum.inl true) (Sum.inr ())
def Qfd (x0 : (List Int)) (x1 : Int) : Bool :=
 Sum.elim id (fun (s : Unit) => false) (rng (R := Bool) (fun k (_ : Unit) => Qaib x0 x1 k) (x0.length - 0) 0 ())
theorem Qtv : Cb Tryz.prog 99 := ⟨f99, _, func99, rfl, by decide⟩
theorem Qvi (w : World) (z0 : Value) (x0 : (List Int)) (x1 : Int) (r_0 : rdS Qa w w.heap.size z0 x0) :
  Calls Tryz.prog 99 #[z0, iV x1] w (rB w (Qfd x0 x1)) := by
 obtain ⟨m1, A2, c3, rfl, q4, r5⟩ := Qi r_0
 refine ce2 (L := [(0, .slice A2 x0.length c3), (1, iV x1)]) (N := 18) func99 ?_
 refine sr (wa (nt' (Qe (sr (wa (nt' (Qx ?_)))))))
 refine Qbg (S := Unit) (R := Unit) (fun k (_ : Unit) => Qaib x0 x1 k) x0.length 0 () () (fun s => [(0, .slice A2 x0.length c3), (1, iV x1), (5, nI s.1)]) (fun s => []) (fun s => True) sl3 trivial ?_
 rintro ⟨k6, ⟨⟩, ⟨⟩⟩ H9 _ _ e e'
 dsimp only at H9 ⊢
 subst e e'
 obtain ⟨hk7, hF8, _⟩ := H9
 refine Qe (sr (wm (wm ?_)))
 refine wv (Qag Qq) ?_
 refine wv Qai ?_
 refine nt' ?_
 rcases dcl k6 x0.length with ⟨hl10, g11⟩ | ⟨hl10, g11⟩
 ·
  refine Ql rfl g11 ?_
  refine Qp (Qd (Qe (Qx (sr (wm (wm ?_))))))
  obtain ⟨a12, rfl, hb13, he14⟩ := q4 (by omega)
  refine wv (vix 1 k6 Qq Qf) ?_
  refine wv (fun W hm => Qaw Qs rfl rfl ((hm.cell0 (show (a12.add (k6 * 1)).block < w.heap.size from by rw [Qae]; exact hb13.1)).trans (Qdr he14 k6 (by omega)))) ?_
  refine wm ?_
  refine wv (fun W hm => Qfe rfl rfl) ?_
  refine nt' ?_
  rcases dce (gt x0 k6) x1 with ⟨h15, g16⟩ | ⟨h15, g16⟩
  ·
   refine Ql rfl g16 ?_
   refine sr (wa (nt' (Qj (Qaa (Qg (Qg (Qaa (Qg ?_))))))))
   exact rtb (h := Qbf (nr hF8 (Qb g16 (rfl))) rfl)
  refine Qm rfl g16 ?_
  refine Qp (Qam (Qd (Qy (wm ?_))))
  refine wv (Qal k6 1 (by omega)) ?_
  refine wa (Qac ?_)
  exact Qan (k6 + 1, (), ()) sl3 idM ⟨(by omega), nx hF8 (Qc g16 (rfl)), trivial⟩ rl
 refine Qm rfl g11 ?_
 refine Qay (Qu (Qu ?_))
 have hE18 := Qbh hl10 hF8
 refine Qaz (Qd (sr (wa (nt' (Qj ?_)))))
 exact rtb (h := Qar hE18 (rfl))

def Qvt (x0 : (List Int)) (k8 : Nat) : Bool ⊕ (Unit) :=
 cond (Qbk (gt x0 k8) 0 2) (cond (Qfd (List.take k8 x0) (gt x0 k8)) (Sum.inl false) (Sum.inr ())) (Sum.inl false)
def Qlc (x0 : (List Int)) : Bool :=
 cond (((x0.length : Nat) : Int) != 3) false (Sum.elim id (fun (s : Unit) => true) (rng (R := Bool) (fun k (_ : Unit) => Qvt x0 k) (x0.length - 0) 0 ()))
theorem Qang : Cb Tryz.prog 120 := ⟨f120, _, func120, rfl, by decide⟩
theorem Qbbu (w : World) (z0 : Value) (x0 : (List Int)) (r_0 : rdS Qa w w.heap.size z0 x0) :
  Calls Tryz.prog 120 #[z0] w (rB w (Qlc x0)) := by
 obtain ⟨m1, A2, c3, rfl, q4, r5⟩ := Qi r_0
 refine ce1 (L := [(0, .slice A2 x0.length c3)]) (N := 29) func120 ?_
 refine sr (wa (nt' (Qe (sr (wm ?_)))))
 refine wv (Qag Qq) ?_
 refine wv Qcj ?_
 refine nt' ?_
 rcases dcn ((x0.length : Nat) : Int) 3 with ⟨h6, g7⟩ | ⟨h6, g7⟩
 ·
  refine Qm rfl g7 ?_
  refine Qp (Qd (Qe (sr (wa (nt' (Qx ?_))))))
  refine Qbg (S := Unit) (R := Unit) (fun k (_ : Unit) => Qvt x0 k) x0.length 0 () () (fun s => [(0, .slice A2 x0.length c3), (3, nI s.1)]) (fun s => []) (fun s => True) sl2 trivial ?_
  rintro ⟨k8, ⟨⟩, ⟨⟩⟩ H11 _ _ e e'
  dsimp only at H11 ⊢
  subst e e'
  obtain ⟨hk9, hF10, _⟩ := H11
  refine Qe (sr (wm (wm ?_)))
  refine wv (Qag Qq) ?_
  refine wv Qai ?_
  refine nt' ?_
  rcases dcl k8 x0.length with ⟨hl12, g13⟩ | ⟨hl12, g13⟩
  ·
   refine Ql rfl g13 ?_
   refine Qp (Qd (Qe (Qx (Qe ?_))))
   refine Qfa (by kernel_rfl) (by kernel_rfl) ?_
   refine qm (qm ?_)
   obtain ⟨a14, rfl, hb15, he16⟩ := q4 (by omega)
   refine qv (vix 1 k8 Qq Qf) ?_
   refine qv (fun W hm => Qaw Qs rfl rfl ((hm.cell0 (show (a14.add (k8 * 1)).block < w.heap.size from by rw [Qae]; exact hb15.1)).trans (Qdr he16 k8 (by omega)))) ?_
   refine Qev (Qr Qeh rfl) (fun W hm => Qej W (gt x0 k8) 0 2) (Qk rfl) (by decide) ?_
   refine qv Qbr ?_
   refine qm ?_
   rcases bd (Qbk (gt x0 k8) 0 2) with g18 | g18
   ·
    have hw := Qeo g18
    refine qg vmv (nt g18) ?_
    refine qg vmv (nt g18) ?_
    have hc21 := Qaza r5
    have r19 := Qazb (k := k8) (by omega) r5
    refine qg (fun W hm => Qbag (k := k8) Qq Qf rfl rfl (by omega)) (nt g18) ?_
    refine qg vmv (nt g18) ?_
    refine qg vmv (nt g18) ?_
    refine qg (vix 1 k8 Qq Qf) (nt g18) ?_
    refine qg (fun W hm => Qaw Qs rfl rfl ((hm.cell0 (show (a14.add (k8 * 1)).block < w.heap.size from by rw [Qae]; exact hb15.1)).trans (Qdr he16 k8 (by omega)))) (nt g18) ?_
    refine Qev (Qr Qtv rfl) (fun W hm => Qvi W _ (List.take k8 x0) (gt x0 k8) (hm.rdS0 r19)) (Qcc rfl rfl rfl (bw (nt g18) rfl)) (by decide) ?_
    refine qv (vpF (nt g18)) ?_
    refine nq' ?_
    rcases bd (Qfd (List.take k8 x0) (gt x0 k8)) with g23 | g23
    ·
     refine Ql rfl g23 ?_
     refine sr (wa (nt' (Qj (Qaa (Qg (Qg (Qaa (Qg ?_))))))))
     exact rtb (h := Qc g7 (Qbf (nr hF10 (Qb g18 (Qb g23 (rfl)))) rfl))
    refine Qm rfl g23 ?_
    refine Qp (Qam (Qd (Qy (wm ?_))))
    refine wv (Qal k8 1 (by omega)) ?_
    refine wa (Qac ?_)
    exact Qan (k8 + 1, (), ()) sl2 idM ⟨(by omega), nx hF10 (Qb g18 (Qc g23 (rfl))), trivial⟩ rl
   refine qs (nf g18) ?_
   refine qs (nf g18) ?_
   refine qs (nf g18) ?_
   refine qs (nf g18) ?_
   refine qs (nf g18) ?_
   refine qs (nf g18) ?_
   refine qs (nf g18) ?_
   refine qs (nf g18) ?_
   refine qv (vpT (nf g18)) ?_
   refine nq' ?_
   refine Ql rfl rfl ?_
   refine sr (wa (nt' (Qj (Qaa (Qg (Qg (Qaa (Qg ?_))))))))
   exact rtb (h := Qc g7 (Qbf (nr hF10 (Qc g18 (rfl))) rfl))
  refine Qm rfl g13 ?_
  refine Qay (Qu (Qu ?_))
  have hE25 := Qbh hl12 hF10
  refine Qaz (Qd (sr (wa (nt' (Qj ?_)))))
  exact rtb (h := Qc g7 (Qar hE25 (rfl)))
 refine Ql rfl g7 ?_
 refine sr (wa (nt' (Qj (Qg ?_))))
 exact rtb (h := Qb g7 (rfl))

def Qjh (x0 : Qcd) : Bool :=
 cond (Qbk x0.Field 0 2) (cond (Qbk x0.Low 0 x0.High) (decide (x0.High ≤ 99)) false) false
theorem Qaoi : Cb Tryz.prog 165 := ⟨f165, _, func165, rfl, by decide⟩
theorem Qbax (w : World) (z0 : List Value) (x0 : Qcd) (r_0 : Qbl.rd w w.heap.size z0 x0) :
  Calls Tryz.prog 165 #[.agg z0.toArray] w (rB w (Qjh x0)) := by
 obtain rfl := Qjo r_0
 refine ce1 (L := [(0, .agg #[iV x0.Field, iV x0.Low, iV x0.High])]) (N := 18) func165 ?_
 refine sr ?_
 refine Qbn rfl (Qk rfl) (by decide) (fun p1 => ?_)
 refine wa (nt' (sr ?_))
 refine wv (vf Qdu rfl Qf) ?_
 refine wv (vl 0 0 Qs) ?_
 refine wcv (Qr Qeh rfl) (fun W hm => Qej W x0.Field 0 2) ?_
 refine wm ?_
 rcases bd (Qbk x0.Field 0 2) with g3 | g3
 ·
  have hw := Qeo g3
  refine wg (vf Qdu rfl Qf) g3 ?_
  refine wg (vl 0 1 Qs) g3 ?_
  refine wg (vf Qdu rfl Qf) g3 ?_
  refine wg (vl 0 2 Qs) g3 ?_
  refine Qcr (Qr Qeh rfl) (fun W hm => Qej W x0.Low 0 x0.High) (Qcc rfl rfl rfl (bw g3 rfl)) (by decide) ?_
  refine wv (vpT g3) ?_
  refine wm ?_
  rcases bd (Qbk x0.Low 0 x0.High) with g5 | g5
  ·
   have hw := Qeo g5
   refine wg (vf Qdu rfl Qf) g5 ?_
   refine wg (vl 0 2 Qs) g5 ?_
   refine wg (fun W hm => Qgw rfl rfl) g5 ?_
   refine wv (vpT g5) ?_
   refine wa (nt' (Qj ?_))
   exact rtb (h := Qb g3 (Qb g5 (rfl)))
  iterate 4 first | refine ws g5 ?_ | refine wv (vpF g5) ?_
  refine wa (nt' (Qj ?_))
  exact rtb (h := Qb g3 (Qc g5 (rfl)))
 iterate 11 first | refine ws g3 ?_ | refine wv (vpF g3) ?_ | refine wm ?_ | refine wk ?_ | refine wv (vpF rfl) ?_
 refine wa (nt' (Qj ?_))
 exact rtb (h := Qc g3 (rfl))

def Qpb (x0 : (List Int)) (k6 : Nat) : Bool ⊕ (Unit) :=
 cond (Qbk (gt x0 k6) 0 2) (Sum.inr ()) (Sum.inl false)
def Qvr (x0 : (List Int)) : Bool :=
 Sum.elim id (fun (s : Unit) => (Qbk ((x0.length : Nat) : Int) 1 3)) (rng (R := Bool) (fun k (_ : Unit) => Qpb x0 k) (x0.length - 0) 0 ())
theorem Qaoj : Cb Tryz.prog 166 := ⟨f166, _, func166, rfl, by decide⟩
theorem Qbbq (w : World) (z0 : Value) (x0 : (List Int)) (r_0 : rdS Qa w w.heap.size z0 x0) :
  Calls Tryz.prog 166 #[z0] w (rB w (Qvr x0)) := by
 obtain ⟨m1, A2, c3, rfl, q4, r5⟩ := Qi r_0
 refine ce1 (L := [(0, .slice A2 x0.length c3)]) (N := 19) func166 ?_
 refine sr (wa (nt' (Qe (sr (wa (nt' (Qx ?_)))))))
 refine Qbg (S := Unit) (R := Unit) (fun k (_ : Unit) => Qpb x0 k) x0.length 0 () () (fun s => [(0, .slice A2 x0.length c3), (3, nI s.1)]) (fun s => []) (fun s => True) sl2 trivial ?_
 rintro ⟨k6, ⟨⟩, ⟨⟩⟩ H9 _ _ e e'
 dsimp only at H9 ⊢
 subst e e'
 obtain ⟨hk7, hF8, _⟩ := H9
 refine Qe (sr (wm (wm ?_)))
 refine wv (Qag Qq) ?_
 refine wv Qai ?_
 refine nt' ?_
 rcases dcl k6 x0.length with ⟨hl10, g11⟩ | ⟨hl10, g11⟩
 ·
  refine Ql rfl g11 ?_
  refine Qp (Qd (Qe (Qx (sr (wm (wm ?_))))))
  obtain ⟨a12, rfl, hb13, he14⟩ := q4 (by omega)
  refine wv (vix 1 k6 Qq Qf) ?_
  refine wv (fun W hm => Qaw Qs rfl rfl ((hm.cell0 (show (a12.add (k6 * 1)).block < w.heap.size from by rw [Qae]; exact hb13.1)).trans (Qdr he14 k6 (by omega)))) ?_
  refine wcv (Qr Qeh rfl) (fun W hm => Qej W (gt x0 k6) 0 2) ?_
  refine wv Qbr ?_
  refine nt' ?_
  rcases bd (Qbk (gt x0 k6) 0 2) with g16 | g16
  ·
   have hw := Qeo g16
   refine Qm rfl (nt g16) ?_
   refine Qp (Qam (Qd (Qy (wm ?_))))
   refine wv (Qal k6 1 (by omega)) ?_
   refine wa (Qac ?_)
   exact Qan (k6 + 1, (), ()) sl2 idM ⟨(by omega), nx hF8 (Qb g16 (rfl)), trivial⟩ rl
  refine Ql rfl (nf g16) ?_
  refine sr (wa (nt' (Qj (Qaa (Qg (Qg (Qaa (Qg ?_))))))))
  exact rtb (h := Qbf (nr hF8 (Qc g16 (rfl))) rfl)
 refine Qm rfl g11 ?_
 refine Qay (Qu (Qu ?_))
 have hE18 := Qbh hl10 hF8
 refine Qaz (Qd (sr (wm ?_)))
 refine wv (Qag Qq) ?_
 refine wcv (Qr Qeh rfl) (fun W hm => Qej W ((x0.length : Nat) : Int) 1 3) ?_
 refine wa (nt' (Qj ?_))
 exact rtb (h := Qar hE18 (rfl))

def Qoc (x0 : Qat) (k16 : Nat) : Bool ⊕ (Unit) :=
 cond (Qjh (gt x0.Conds k16)) (cond (decide (0 < ((k16 : Nat) : Int))) (cond (decide (((gt x0.Conds k16).Field) ≤ ((gt x0.Conds (k16 - 1)).Field))) (Sum.inl false) (Sum.inr ())) (Sum.inr ())) (Sum.inl false)
def Qff (x0 : Qat) : Bool :=
 Sum.elim id (fun (s : Unit) => cond (Qbk x0.Id 0 23) (cond (Qbk x0.Tenant 0 3) (cond (decide (((x0.Conds.length : Nat) : Int) ≤ 3)) (Qvr x0.Out) false) false) false) (rng (R := Bool) (fun k (_ : Unit) => Qoc x0 k) (x0.Conds.length - 0) 0 ())
theorem Qxk : Cb Tryz.prog 110 := ⟨f110, _, func110, rfl, by decide⟩
theorem Qaas (w : World) (z0 : List Value) (x0 : Qat) (r_0 : Qcm.rd w w.heap.size z0 x0) :
  Calls Tryz.prog 110 #[.agg z0.toArray] w (rB w (Qff x0)) := by
 obtain ⟨v1, v3, rfl, r2, r4⟩ := Qiv r_0
 obtain ⟨m5, A6, c7, rfl, q8, r9⟩ := Qi r2
 obtain ⟨m10, A11, c12, rfl, q13, r14⟩ := Qi r4
 refine ce1 (L := [(0, .agg #[iV x0.Id, iV x0.Tenant, .slice A6 x0.Conds.length c7, .slice A11 x0.Out.length c12])]) (N := 57) func110 ?_
 refine sr ?_
 refine Qbn rfl (Qk rfl) (by decide) (fun p15 => ?_)
 refine wa (nt' (Qe (sr (wa (nt' (Qx ?_))))))
 refine Qbg (S := Unit) (R := Unit) (fun k (_ : Unit) => Qoc x0 k) x0.Conds.length 0 () () (fun s => [(1, bp p15), (3, nI s.1)]) (fun s => [Qh p15 58 [iV x0.Id, iV x0.Tenant, .slice A6 x0.Conds.length c7, .slice A11 x0.Out.length c12]]) (fun s => True) sl2 trivial ?_
 rintro ⟨k16, ⟨⟩, ⟨⟩⟩ H19 _ _ e e'
 dsimp only at H19 ⊢
 subst e e'
 obtain ⟨hk17, hF18, _⟩ := H19
 refine Qe (sr (wm ?_))
 refine wv (vf Qbq rfl Qfu) ?_
 refine wv (vl 0 2 Qct) ?_
 refine wv (Qag Qct) ?_
 refine wv Qai ?_
 refine nt' ?_
 rcases dcl k16 x0.Conds.length with ⟨hl20, g21⟩ | ⟨hl20, g21⟩
 ·
  refine Ql rfl g21 ?_
  refine Qp (Qd (Qe (Qx (Qe ?_))))
  refine Qfa (by kernel_rfl) (by kernel_rfl) ?_
  refine qv (vf Qbq rfl Qfu) ?_
  refine qv (vl 0 2 Qct) ?_
  refine qm ?_
  obtain ⟨a22, rfl, hb23, he24⟩ := q8 (by omega)
  refine qv (vix 3 k16 Qct Qds) ?_
  obtain ⟨_, e26, hc25⟩ := he24 k16 _ (Qbs (show k16 < x0.Conds.length from by omega))
  obtain rfl := Qjo e26
  refine qv (fun W hm => Qad (cs := [iV ((gt x0.Conds k16).Field), iV ((gt x0.Conds k16).Low), iV ((gt x0.Conds k16).High)]) Qdu Qds rfl rfl (hm.elCells (show (a22.add (k16 * 3)).block < w.heap.size from by rw [Qae]; exact hb23.1) hc25)) ?_
  refine Qev (Qr Qaoi rfl) (fun W hm => Qbax W _ (gt x0.Conds k16) (Qwd (x := (gt x0.Conds k16)))) (Qk rfl) (by decide) ?_
  refine qv Qbr ?_
  refine qm ?_
  rcases bd (Qjh (gt x0.Conds k16)) with g28 | g28
  ·
   refine qg vmv (nt g28) ?_
   refine qg (fun W hm => Qem rfl rfl) (nt g28) ?_
   refine qg vmv (nt g28) ?_
   rcases dcd (0 < ((k16 : Nat) : Int)) with ⟨h29, g30⟩ | ⟨h29, g30⟩
   ·
    refine qg (vf Qbq rfl Qfu) g30 ?_
    refine qg (vl 0 2 Qct) g30 ?_
    refine qg vmv g30 ?_
    refine qg (vix 3 k16 Qct Qds) g30 ?_
    refine qg (vf Qdu rfl Qf) g30 ?_
    refine qg (fun W hm => Qaw Qs rfl rfl ((hm.cell0 (show ((a22.add (k16 * 3)).add 0).block < w.heap.size from by rw [Qae, Qae]; exact hb23.1)).trans (hc25 0 _ rfl))) g30 ?_
    refine qg (vf Qbq rfl Qfu) g30 ?_
    refine qg (vl 0 2 Qct) g30 ?_
    refine qg vmv g30 ?_
    refine qg (fun W hm => Qkz (p := k16) (q := 1) rfl rfl (by omega) (by omega)) g30 ?_
    refine qg (fun W hm => Qje (sz := 3) (k := k16 - 1) Qct Qds rfl rfl rfl (by omega)) g30 ?_
    refine qg (vf Qdu rfl Qf) g30 ?_
    obtain ⟨_, e32, hc31⟩ := he24 (k16 - 1) _ (Qbs (show (k16 - 1) < x0.Conds.length from by omega))
    obtain rfl := Qjo e32
    refine qg (fun W hm => Qaw Qs rfl rfl ((hm.cell0 (show ((a22.add ((k16 - 1) * 3)).add 0).block < w.heap.size from by rw [Qae, Qae]; exact hb23.1)).trans (hc31 0 _ rfl))) g30 ?_
    refine qg (fun W hm => Qgw rfl rfl) g30 ?_
    refine qg (vpT g30) (nt g28) ?_
    refine qv (vpF (nt g28)) ?_
    refine nq' ?_
    rcases dcd (((gt x0.Conds k16).Field) ≤ ((gt x0.Conds (k16 - 1)).Field)) with ⟨h33, g34⟩ | ⟨h33, g34⟩
    ·
     refine Ql rfl g34 ?_
     refine sr (wa (nt' (Qj (Qaa (Qg (Qg (Qaa (Qg ?_))))))))
     exact rtb (h := Qbf (nr hF18 (Qb g28 (Qb g30 (Qb g34 (rfl))))) rfl)
    refine Qm rfl g34 ?_
    refine Qp (Qam (Qd (Qy (wm ?_))))
    refine wv (Qal k16 1 (by omega)) ?_
    refine wa (Qac ?_)
    exact Qan (k16 + 1, (), ()) sl2 idM ⟨(by omega), nx hF18 (Qb g28 (Qb g30 (Qc g34 (rfl)))), trivial⟩ rl
   refine qs g30 ?_
   refine qs g30 ?_
   refine qs g30 ?_
   refine qs g30 ?_
   refine qs g30 ?_
   refine qs g30 ?_
   refine qs g30 ?_
   refine qs g30 ?_
   refine qs g30 ?_
   refine qs g30 ?_
   refine qs g30 ?_
   refine qs g30 ?_
   refine qs g30 ?_
   refine qs g30 ?_
   refine qg (vpF g30) (nt g28) ?_
   refine qv (vpF (nt g28)) ?_
   refine nq' ?_
   refine Qm rfl rfl ?_
   refine Qp (Qam (Qd (Qy (wm ?_))))
   refine wv (Qal k16 1 (by omega)) ?_
   refine wa (Qac ?_)
   exact Qan (k16 + 1, (), ()) sl2 idM ⟨(by omega), nx hF18 (Qb g28 (Qc g30 (rfl))), trivial⟩ rl
  refine qs (nf g28) ?_
  refine qs (nf g28) ?_
  refine qs (nf g28) ?_
  refine qu ?_
  refine qu ?_
  refine qu ?_
  refine qu ?_
  refine qu ?_
  refine qu ?_
  refine qu ?_
  refine qu ?_
  refine qu ?_
  refine qu ?_
  refine qu ?_
  refine qu ?_
  refine qu ?_
  refine qu ?_
  refine qs (nf g28) ?_
  refine qv (vpT (nf g28)) ?_
  refine nq' ?_
  refine Ql rfl rfl ?_
  refine sr (wa (nt' (Qj (Qaa (Qg (Qg (Qaa (Qg ?_))))))))
  exact rtb (h := Qbf (nr hF18 (Qc g28 (rfl))) rfl)
 refine Qm rfl g21 ?_
 refine Qay (Qu (Qu ?_))
 have hE37 := Qbh hl20 hF18
 refine Qaz (Qd (sr ?_))
 refine wv (vf Qbq rfl Qf) ?_
 refine wv (vl 0 0 Qs) ?_
 refine wcv (Qr Qeh rfl) (fun W hm => Qej W x0.Id 0 23) ?_
 refine wm ?_
 rcases bd (Qbk x0.Id 0 23) with g39 | g39
 ·
  have hw := Qeo g39
  refine wg (vf Qbq rfl Qf) g39 ?_
  refine wg (vl 0 1 Qs) g39 ?_
  refine Qcr (Qr Qeh rfl) (fun W hm => Qej W x0.Tenant 0 3) (Qcc rfl rfl rfl (bw g39 rfl)) (by decide) ?_
  refine wv (vpT g39) ?_
  refine wm ?_
  rcases bd (Qbk x0.Tenant 0 3) with g41 | g41
  ·
   have hw := Qeo g41
   refine wg (vf Qbq rfl Qfu) g41 ?_
   refine wg (vl 0 2 Qct) g41 ?_
   refine wg (Qag Qct) g41 ?_
   refine wg (fun W hm => Qgw rfl rfl) g41 ?_
   refine wv (vpT g41) ?_
   refine wm ?_
   rcases dcd (((x0.Conds.length : Nat) : Int) ≤ 3) with ⟨h42, g43⟩ | ⟨h42, g43⟩
   ·
    refine wg (vf Qbq rfl Qao) g43 ?_
    refine wg (vl 0 3 Qq) g43 ?_
    refine Qcr (Qr Qaoj rfl) (fun W hm => Qbbq W _ x0.Out (hm.rdS0 r14)) (Qcc rfl rfl rfl (bw g43 rfl)) (by decide) ?_
    refine wv (vpT g43) ?_
    refine wa (nt' (Qj ?_))
    exact rtb (h := Qar hE37 (Qb g39 (Qb g41 (Qb g43 (rfl)))))
   iterate 4 first | refine ws g43 ?_ | refine wv (vpF g43) ?_
   refine wa (nt' (Qj ?_))
   exact rtb (h := Qar hE37 (Qb g39 (Qb g41 (Qc g43 (rfl)))))
  iterate 10 first | refine ws g41 ?_ | refine wv (vpF g41) ?_ | refine wm ?_ | refine wk ?_ | refine wv (vpF rfl) ?_
  refine wa (nt' (Qj ?_))
  exact rtb (h := Qar hE37 (Qb g39 (Qc g41 (rfl))))
 iterate 15 first | refine ws g39 ?_ | refine wv (vpF g39) ?_ | refine wm ?_ | refine wk ?_ | refine wv (vpF rfl) ?_
 refine wa (nt' (Qj ?_))
 exact rtb (h := Qar hE37 (Qc g39 (rfl)))

def Qsz (x0 : (List Int)) (x1 : Int) (k6 : Nat) : Bool ⊕ (Unit) :=
 cond (Qbk (gt x0 k6) 0 (IntKind.i64.wrap (x1 - 1))) (cond (decide (0 < ((k6 : Nat) : Int))) (cond (decide ((gt x0 k6) ≤ (gt x0 (k6 - 1)))) (Sum.inl false) (Sum.inr ())) (Sum.inr ())) (Sum.inl false)
def Qqy (x0 : (List Int)) (x1 : Int) : Bool :=
 Sum.elim id (fun (s : Unit) => (decide (0 < ((x0.length : Nat) : Int)))) (rng (R := Bool) (fun k (_ : Unit) => Qsz x0 x1 k) (x0.length - 0) 0 ())
theorem Qaoo : Cb Tryz.prog 180 := ⟨f180, _, func180, rfl, by decide⟩
theorem Qbcq (w : World) (z0 : Value) (x0 : (List Int)) (x1 : Int) (r_0 : rdS Qa w w.heap.size z0 x0) :
  Calls Tryz.prog 180 #[z0, iV x1] w (rB w (Qqy x0 x1)) := by
 obtain ⟨m1, A2, c3, rfl, q4, r5⟩ := Qi r_0
 refine ce2 (L := [(0, .slice A2 x0.length c3), (1, iV x1)]) (N := 39) func180 ?_
 refine sr (wa (nt' (Qe (sr (wa (nt' (Qx ?_)))))))
 refine Qbg (S := Unit) (R := Unit) (fun k (_ : Unit) => Qsz x0 x1 k) x0.length 0 () () (fun s => [(0, .slice A2 x0.length c3), (1, iV x1), (5, nI s.1)]) (fun s => []) (fun s => True) sl3 trivial ?_
 rintro ⟨k6, ⟨⟩, ⟨⟩⟩ H9 _ _ e e'
 dsimp only at H9 ⊢
 subst e e'
 obtain ⟨hk7, hF8, _⟩ := H9
 refine Qe (sr (wm (wm ?_)))
 refine wv (Qag Qq) ?_
 refine wv Qai ?_
 refine nt' ?_
 rcases dcl k6 x0.length with ⟨hl10, g11⟩ | ⟨hl10, g11⟩
 ·
  refine Ql rfl g11 ?_
  refine Qp (Qd (Qe (Qx (Qe ?_))))
  refine Qfa (by kernel_rfl) (by kernel_rfl) ?_
  refine qm (qm ?_)
  obtain ⟨a12, rfl, hb13, he14⟩ := q4 (by omega)
  refine qv (vix 1 k6 Qq Qf) ?_
  refine qv (fun W hm => Qaw Qs rfl rfl ((hm.cell0 (show (a12.add (k6 * 1)).block < w.heap.size from by rw [Qae]; exact hb13.1)).trans (Qdr he14 k6 (by omega)))) ?_
  refine qm ?_
  refine qv (fun W hm => Qik rfl rfl) ?_
  refine Qev (Qr Qeh rfl) (fun W hm => Qej W (gt x0 k6) 0 (IntKind.i64.wrap (x1 - 1))) (Qk rfl) (by decide) ?_
  refine qv Qbr ?_
  refine qm ?_
  rcases bd (Qbk (gt x0 k6) 0 (IntKind.i64.wrap (x1 - 1))) with g16 | g16
  ·
   have hw := Qeo g16
   refine qg vmv (nt g16) ?_
   refine qg (fun W hm => Qem rfl rfl) (nt g16) ?_
   refine qg vmv (nt g16) ?_
   rcases dcd (0 < ((k6 : Nat) : Int)) with ⟨h17, g18⟩ | ⟨h17, g18⟩
   ·
    refine qg vmv g18 ?_
    refine qg vmv g18 ?_
    refine qg (vix 1 k6 Qq Qf) g18 ?_
    refine qg (fun W hm => Qaw Qs rfl rfl ((hm.cell0 (show (a12.add (k6 * 1)).block < w.heap.size from by rw [Qae]; exact hb13.1)).trans (Qdr he14 k6 (by omega)))) g18 ?_
    refine qg vmv g18 ?_
    refine qg vmv g18 ?_
    refine qg (fun W hm => Qkz (p := k6) (q := 1) rfl rfl (by omega) (by omega)) g18 ?_
    refine qg (fun W hm => Qje (sz := 1) (k := k6 - 1) Qq Qf rfl rfl rfl (by omega)) g18 ?_
    refine qg (fun W hm => Qaw Qs rfl rfl ((hm.cell0 (show (a12.add ((k6 - 1) * 1)).block < w.heap.size from by rw [Qae]; exact hb13.1)).trans (Qdr he14 (k6 - 1) (by omega)))) g18 ?_
    refine qg (fun W hm => Qgw rfl rfl) g18 ?_
    refine qg (vpT g18) (nt g16) ?_
    refine qv (vpF (nt g16)) ?_
    refine nq' ?_
    rcases dcd ((gt x0 k6) ≤ (gt x0 (k6 - 1))) with ⟨h19, g20⟩ | ⟨h19, g20⟩
    ·
     refine Ql rfl g20 ?_
     refine sr (wa (nt' (Qj (Qaa (Qg (Qg (Qaa (Qg ?_))))))))
     exact rtb (h := Qbf (nr hF8 (Qb g16 (Qb g18 (Qb g20 (rfl))))) rfl)
    refine Qm rfl g20 ?_
    refine Qp (Qam (Qd (Qy (wm ?_))))
    refine wv (Qal k6 1 (by omega)) ?_
    refine wa (Qac ?_)
    exact Qan (k6 + 1, (), ()) sl3 idM ⟨(by omega), nx hF8 (Qb g16 (Qb g18 (Qc g20 (rfl)))), trivial⟩ rl
   refine qs g18 ?_
   refine qs g18 ?_
   refine qs g18 ?_
   refine qs g18 ?_
   refine qs g18 ?_
   refine qs g18 ?_
   refine qs g18 ?_
   refine qs g18 ?_
   refine qs g18 ?_
   refine qs g18 ?_
   refine qg (vpF g18) (nt g16) ?_
   refine qv (vpF (nt g16)) ?_
   refine nq' ?_
   refine Qm rfl rfl ?_
   refine Qp (Qam (Qd (Qy (wm ?_))))
   refine wv (Qal k6 1 (by omega)) ?_
   refine wa (Qac ?_)
   exact Qan (k6 + 1, (), ()) sl3 idM ⟨(by omega), nx hF8 (Qb g16 (Qc g18 (rfl))), trivial⟩ rl
  refine qs (nf g16) ?_
  refine qs (nf g16) ?_
  refine qs (nf g16) ?_
  refine qu ?_
  refine qu ?_
  refine qu ?_
  refine qu ?_
  refine qu ?_
  refine qu ?_
  refine qu ?_
  refine qu ?_
  refine qu ?_
  refine qu ?_
  refine qs (nf g16) ?_
  refine qv (vpT (nf g16)) ?_
  refine nq' ?_
  refine Ql rfl rfl ?_
  refine sr (wa (nt' (Qj (Qaa (Qg (Qg (Qaa (Qg ?_))))))))
  exact rtb (h := Qbf (nr hF8 (Qc g16 (rfl))) rfl)
 refine Qm rfl g11 ?_
 refine Qay (Qu (Qu ?_))
 have hE23 := Qbh hl10 hF8
 refine Qaz (Qd (sr (wm ?_)))
 refine wv (Qag Qq) ?_
 refine wv (fun W hm => Qem rfl rfl) ?_
 refine wa (nt' (Qj ?_))
 exact rtb (h := Qar hE23 (rfl))

def Qsy (x0 : (List Qab)) (k6 : Nat) : Bool ⊕ (Unit) :=
 cond (Qgn (gt x0 k6)) (Sum.inr ()) (Sum.inl false)
def Qkf (x0 : (List Qab)) : Bool :=
 Sum.elim id (fun (s : Unit) => (decide (((x0.length : Nat) : Int) ≤ 1000))) (rng (R := Bool) (fun k (_ : Unit) => Qsy x0 k) (x0.length - 0) 0 ())
theorem Qadj : Cb Tryz.prog 123 := ⟨f123, _, func123, rfl, by decide⟩
theorem Qaik (w : World) (z0 : Value) (x0 : (List Qab)) (r_0 : rdS Qap w w.heap.size z0 x0) :
  Calls Tryz.prog 123 #[z0] w (rB w (Qkf x0)) := by
 obtain ⟨m1, A2, c3, rfl, q4, r5⟩ := Qi r_0
 refine ce1 (L := [(0, .slice A2 x0.length c3)]) (N := 19) func123 ?_
 refine sr (wa (nt' (Qe (sr (wa (nt' (Qx ?_)))))))
 refine Qbg (S := Unit) (R := Unit) (fun k (_ : Unit) => Qsy x0 k) x0.length 0 () () (fun s => [(0, .slice A2 x0.length c3), (3, nI s.1)]) (fun s => []) (fun s => True) sl2 trivial ?_
 rintro ⟨k6, ⟨⟩, ⟨⟩⟩ H9 _ _ e e'
 dsimp only at H9 ⊢
 subst e e'
 obtain ⟨hk7, hF8, _⟩ := H9
 refine Qe (sr (wm (wm ?_)))
 refine wv (Qag Qci) ?_
 refine wv Qai ?_
 refine nt' ?_
 rcases dcl k6 x0.length with ⟨hl10, g11⟩ | ⟨hl10, g11⟩
 ·
  refine Ql rfl g11 ?_
  refine Qp (Qd (Qe (Qx (sr (wm (wm ?_))))))
  obtain ⟨a12, rfl, hb13, he14⟩ := q4 (by omega)
  refine wv (vix 2 k6 Qci Qcg) ?_
  obtain ⟨_, e18, hc15⟩ := he14 k6 _ (Qbs (show k6 < x0.length from by omega))
  obtain ⟨v16, rfl, r17⟩ := Qin e18
  obtain ⟨m19, A20, c21, rfl, q22, r23⟩ := Qi r17
  refine wv (fun W hm => Qad (cs := [iV ((gt x0 k6).Id), .slice A20 ((gt x0 k6).Values).length c21]) Qdv Qcg rfl rfl (hm.elCells (show (a12.add (k6 * 2)).block < w.heap.size from by rw [Qae]; exact hb13.1) hc15)) ?_
  refine wcv (Qr Qadv rfl) (fun W hm => Qaic W _ (gt x0 k6) (Qjr (x := (gt x0 k6)) (hm.rdS0 r23))) ?_
  refine wv Qbr ?_
  refine nt' ?_
  rcases bd (Qgn (gt x0 k6)) with g25 | g25
  ·
   refine Qm rfl (nt g25) ?_
   refine Qp (Qam (Qd (Qy (wm ?_))))
   refine wv (Qal k6 1 (by omega)) ?_
   refine wa (Qac ?_)
   exact Qan (k6 + 1, (), ()) sl2 idM ⟨(by omega), nx hF8 (Qb g25 (rfl)), trivial⟩ rl
  refine Ql rfl (nf g25) ?_
  refine sr (wa (nt' (Qj (Qaa (Qg (Qg (Qaa (Qg ?_))))))))
  exact rtb (h := Qbf (nr hF8 (Qc g25 (rfl))) rfl)
 refine Qm rfl g11 ?_
 refine Qay (Qu (Qu ?_))
 have hE27 := Qbh hl10 hF8
 refine Qaz (Qd (sr (wm ?_)))
 refine wv (Qag Qci) ?_
 refine wv (fun W hm => Qgw rfl rfl) ?_
 refine wa (nt' (Qj ?_))
 exact rtb (h := Qar hE27 (rfl))

def Qmr (x0 : Qo) (x1 : Qw) : Bool :=
 cond (Qff x1.Query) (cond (Qbk x1.Time 0 x0.Store.Now) (cond (Qqy x1.Todo ((x0.Store.Segments.length : Nat) : Int)) (cond (Qbk x1.Age 0 100000) (cond (Qbk x1.Sent 0 1000) (cond (Qbk x1.Cap 0 32) (Qkf x1.Rows) false) false) false) false) false) false
theorem Qanh : Cb Tryz.prog 122 := ⟨f122, _, func122, rfl, by decide⟩
theorem Qbck (w : World) (z0 : List Value) (x0 : Qo) (z1 : List Value) (x1 : Qw) (r_0 : Qcb.rd w w.heap.size z0 x0) (r_1 : Qah.rd w w.heap.size z1 x1) :
  Calls Tryz.prog 122 #[.agg z0.toArray, .agg z1.toArray] w (rB w (Qmr x0 x1)) := by
 obtain ⟨v1, v3, v5, v7, v9, rfl, r2, r4, r6, r8, r10⟩ := Qia r_0
 obtain ⟨m11, A12, c13, rfl, q14, r15⟩ := Qi r2
 obtain ⟨m16, A17, c18, rfl, q19, r20⟩ := Qi r4
 obtain ⟨m21, A22, c23, rfl, q24, r25⟩ := Qi r6
 obtain ⟨m26, A27, c28, rfl, q29, r30⟩ := Qi r8
 obtain ⟨m31, A32, c33, rfl, q34, r35⟩ := Qi r10
 obtain ⟨v36, v38, v40, v42, rfl, r37, r39, r41, r43⟩ := Qgp r_1
 obtain ⟨m44, A45, c46, rfl, q47, r48⟩ := Qi r37
 obtain ⟨m49, A50, c51, rfl, q52, r53⟩ := Qi r39
 obtain ⟨m54, A55, c56, rfl, q57, r58⟩ := Qi r41
 obtain ⟨m59, A60, c61, rfl, q62, r63⟩ := Qi r43
 refine ce2 (L := [(0, .agg #[.slice A12 x0.Store.Segments.length c13, iV x0.Store.Now, iV x0.Cursor, .slice A17 x0.Order.length c18, .slice A22 x0.Active.length c23, .slice A27 x0.Done.length c28, .slice A32 x0.Ledger.length c33, iV x0.Steps]), (1, .agg #[iV x1.Query.Id, iV x1.Query.Tenant, .slice A45 x1.Query.Conds.length c46, .slice A50 x1.Query.Out.length c51, iV x1.Time, .slice A55 x1.Todo.length c56, iV x1.Age, iV x1.Sent, iV x1.Cap, .slice A60 x1.Rows.length c61])]) (N := 45) func122 ?_
 refine sr ?_
 refine Qbn rfl (Qk rfl) (by decide) (fun p64 => ?_)
 refine Qbn rfl (Qk rfl) (by decide) (fun p65 => ?_)
 refine wa (nt' (sr ?_))
 refine wv (vf Qaj rfl Qbj) ?_
 refine wv (fun W hm => Qad (cs := [iV x1.Query.Id, iV x1.Query.Tenant, .slice A45 x1.Query.Conds.length c46, .slice A50 x1.Query.Out.length c51]) Qbq Qbj rfl rfl (hm.boxPart (n := 0) rfl rfl)) ?_
 refine wcv (Qr Qxk rfl) (fun W hm => Qaas W _ x1.Query (Qhg (x := x1.Query) (hm.rdS0 r48) (hm.rdS0 r53))) ?_
 refine wm ?_
 rcases bd (Qff x1.Query) with g67 | g67
 ·
  refine wg (vf Qaj rfl Qf) g67 ?_
  refine wg (vl 0 4 Qs) g67 ?_
  refine wg (vf Qz rfl Qbt) g67 ?_
  refine wg (fun W hm => Qeb (o := 1) Qbw rfl Qf (by decide) rfl rfl) g67 ?_
  refine wg (vl 1 1 Qs) g67 ?_
  refine Qcr (Qr Qeh rfl) (fun W hm => Qej W x1.Time 0 x0.Store.Now) (Qcc rfl rfl rfl (bw g67 rfl)) (by decide) ?_
  refine wv (vpT g67) ?_
  refine wm ?_
  rcases bd (Qbk x1.Time 0 x0.Store.Now) with g69 | g69
  ·
   have hw := Qeo g69
   refine wg (vf Qaj rfl Qao) g69 ?_
   refine wg (vl 0 5 Qq) g69 ?_
   refine wg (vf Qz rfl Qbt) g69 ?_
   refine wg (fun W hm => Qeb (o := 0) Qbw rfl Qea (by decide) rfl rfl) g69 ?_
   refine wg (vl 1 0 Qbz) g69 ?_
   refine wg (Qag Qbz) g69 ?_
   refine Qcr (Qr Qaoo rfl) (fun W hm => Qbcq W _ x1.Todo ((x0.Store.Segments.length : Nat) : Int) (hm.rdS0 r58)) (Qcc rfl rfl rfl (bw g69 rfl)) (by decide) ?_
   refine wv (vpT g69) ?_
   refine wm ?_
   rcases bd (Qqy x1.Todo ((x0.Store.Segments.length : Nat) : Int)) with g71 | g71
   ·
    refine wg (vf Qaj rfl Qf) g71 ?_
    refine wg (vl 0 6 Qs) g71 ?_
    refine Qcr (Qr Qeh rfl) (fun W hm => Qej W x1.Age 0 100000) (Qcc rfl rfl rfl (bw g71 rfl)) (by decide) ?_
    refine wv (vpT g71) ?_
    refine wm ?_
    rcases bd (Qbk x1.Age 0 100000) with g73 | g73
    ·
     have hw := Qeo g73
     refine wg (vf Qaj rfl Qf) g73 ?_
     refine wg (vl 0 7 Qs) g73 ?_
     refine Qcr (Qr Qeh rfl) (fun W hm => Qej W x1.Sent 0 1000) (Qcc rfl rfl rfl (bw g73 rfl)) (by decide) ?_
     refine wv (vpT g73) ?_
     refine wm ?_
     rcases bd (Qbk x1.Sent 0 1000) with g75 | g75
     ·
      have hw := Qeo g75
      refine wg (vf Qaj rfl Qf) g75 ?_
      refine wg (vl 0 8 Qs) g75 ?_
      refine Qcr (Qr Qeh rfl) (fun W hm => Qej W x1.Cap 0 32) (Qcc rfl rfl rfl (bw g75 rfl)) (by decide) ?_
      refine wv (vpT g75) ?_
      refine wm ?_
      rcases bd (Qbk x1.Cap 0 32) with g77 | g77
      ·
       have hw := Qeo g77
       refine wg (vf Qaj rfl Qdt) g77 ?_
       refine wg (vl 0 9 Qci) g77 ?_
       refine Qcr (Qr Qadj rfl) (fun W hm => Qaik W _ x1.Rows (hm.rdS0 r63)) (Qcc rfl rfl rfl (bw g77 rfl)) (by decide) ?_
       refine wv (vpT g77) ?_
       refine wa (nt' (Qj ?_))
       exact rtb (h := Qb g67 (Qb g69 (Qb g71 (Qb g73 (Qb g75 (Qb g77 (rfl)))))))
      iterate 4 first | refine ws g77 ?_ | refine wv (vpF g77) ?_
      refine wa (nt' (Qj ?_))
      exact rtb (h := Qb g67 (Qb g69 (Qb g71 (Qb g73 (Qb g75 (Qc g77 (rfl)))))))
     iterate 9 first | refine ws g75 ?_ | refine wv (vpF g75) ?_ | refine wm ?_ | refine wk ?_ | refine wv (vpF rfl) ?_
     refine wa (nt' (Qj ?_))
     exact rtb (h := Qb g67 (Qb g69 (Qb g71 (Qb g73 (Qc g75 (rfl))))))
    iterate 14 first | refine ws g73 ?_ | refine wv (vpF g73) ?_ | refine wm ?_ | refine wk ?_ | refine wv (vpF rfl) ?_
    refine wa (nt' (Qj ?_))
    exact rtb (h := Qb g67 (Qb g69 (Qb g71 (Qc g73 (rfl)))))
   iterate 19 first | refine ws g71 ?_ | refine wv (vpF g71) ?_ | refine wm ?_ | refine wk ?_ | refine wv (vpF rfl) ?_
   refine wa (nt' (Qj ?_))
   exact rtb (h := Qb g67 (Qb g69 (Qc g71 (rfl))))
  iterate 28 first | refine ws g69 ?_ | refine wv (vpF g69) ?_ | refine wm ?_ | refine wk ?_ | refine wv (vpF rfl) ?_
  refine wa (nt' (Qj ?_))
  exact rtb (h := Qb g67 (Qc g69 (rfl)))
 iterate 36 first | refine ws g67 ?_ | refine wv (vpF g67) ?_ | refine wm ?_ | refine wk ?_ | refine wv (vpF rfl) ?_
 refine wa (nt' (Qj ?_))
 exact rtb (h := Qc g67 (rfl))

def Qss (x0 : (List Int)) (k6 : Nat) : Bool ⊕ (Unit) :=
 cond (Qbk (gt x0 k6) 0 23) (cond (decide (0 < ((k6 : Nat) : Int))) (cond (decide ((gt x0 k6) ≤ (gt x0 (k6 - 1)))) (Sum.inl false) (Sum.inr ())) (Sum.inr ())) (Sum.inl false)
def Qgx (x0 : (List Int)) : Bool :=
 Sum.elim id (fun (s : Unit) => true) (rng (R := Bool) (fun k (_ : Unit) => Qss x0 k) (x0.length - 0) 0 ())
theorem Qxo : Cb Tryz.prog 182 := ⟨f182, _, func182, rfl, by decide⟩
theorem Qaau (w : World) (z0 : Value) (x0 : (List Int)) (r_0 : rdS Qa w w.heap.size z0 x0) :
  Calls Tryz.prog 182 #[z0] w (rB w (Qgx x0)) := by
 obtain ⟨m1, A2, c3, rfl, q4, r5⟩ := Qi r_0
 refine ce1 (L := [(0, .slice A2 x0.length c3)]) (N := 32) func182 ?_
 refine sr (wa (nt' (Qe (sr (wa (nt' (Qx ?_)))))))
 refine Qbg (S := Unit) (R := Unit) (fun k (_ : Unit) => Qss x0 k) x0.length 0 () () (fun s => [(0, .slice A2 x0.length c3), (3, nI s.1)]) (fun s => []) (fun s => True) sl2 trivial ?_
 rintro ⟨k6, ⟨⟩, ⟨⟩⟩ H9 _ _ e e'
 dsimp only at H9 ⊢
 subst e e'
 obtain ⟨hk7, hF8, _⟩ := H9
 refine Qe (sr (wm (wm ?_)))
 refine wv (Qag Qq) ?_
 refine wv Qai ?_
 refine nt' ?_
 rcases dcl k6 x0.length with ⟨hl10, g11⟩ | ⟨hl10, g11⟩
 ·
  refine Ql rfl g11 ?_
  refine Qp (Qd (Qe (Qx (Qe ?_))))
  refine Qfa (by kernel_rfl) (by kernel_rfl) ?_
  refine qm (qm ?_)
  obtain ⟨a12, rfl, hb13, he14⟩ := q4 (by omega)
  refine qv (vix 1 k6 Qq Qf) ?_
  refine qv (fun W hm => Qaw Qs rfl rfl ((hm.cell0 (show (a12.add (k6 * 1)).block < w.heap.size from by rw [Qae]; exact hb13.1)).trans (Qdr he14 k6 (by omega)))) ?_
  refine Qev (Qr Qeh rfl) (fun W hm => Qej W (gt x0 k6) 0 23) (Qk rfl) (by decide) ?_
  refine qv Qbr ?_
  refine qm ?_
  rcases bd (Qbk (gt x0 k6) 0 23) with g16 | g16
  ·
   have hw := Qeo g16
   refine qg vmv (nt g16) ?_
   refine qg (fun W hm => Qem rfl rfl) (nt g16) ?_
   refine qg vmv (nt g16) ?_
   rcases dcd (0 < ((k6 : Nat) : Int)) with ⟨h17, g18⟩ | ⟨h17, g18⟩
   ·
    refine qg vmv g18 ?_
    refine qg vmv g18 ?_
    refine qg (vix 1 k6 Qq Qf) g18 ?_
    refine qg (fun W hm => Qaw Qs rfl rfl ((hm.cell0 (show (a12.add (k6 * 1)).block < w.heap.size from by rw [Qae]; exact hb13.1)).trans (Qdr he14 k6 (by omega)))) g18 ?_
    refine qg vmv g18 ?_
    refine qg vmv g18 ?_
    refine qg (fun W hm => Qkz (p := k6) (q := 1) rfl rfl (by omega) (by omega)) g18 ?_
    refine qg (fun W hm => Qje (sz := 1) (k := k6 - 1) Qq Qf rfl rfl rfl (by omega)) g18 ?_
    refine qg (fun W hm => Qaw Qs rfl rfl ((hm.cell0 (show (a12.add ((k6 - 1) * 1)).block < w.heap.size from by rw [Qae]; exact hb13.1)).trans (Qdr he14 (k6 - 1) (by omega)))) g18 ?_
    refine qg (fun W hm => Qgw rfl rfl) g18 ?_
    refine qg (vpT g18) (nt g16) ?_
    refine qv (vpF (nt g16)) ?_
    refine nq' ?_
    rcases dcd ((gt x0 k6) ≤ (gt x0 (k6 - 1))) with ⟨h19, g20⟩ | ⟨h19, g20⟩
    ·
     refine Ql rfl g20 ?_
     refine sr (wa (nt' (Qj (Qaa (Qg (Qg (Qaa (Qg ?_))))))))
     exact rtb (h := Qbf (nr hF8 (Qb g16 (Qb g18 (Qb g20 (rfl))))) rfl)
    refine Qm rfl g20 ?_
    refine Qp (Qam (Qd (Qy (wm ?_))))
    refine wv (Qal k6 1 (by omega)) ?_
    refine wa (Qac ?_)
    exact Qan (k6 + 1, (), ()) sl2 idM ⟨(by omega), nx hF8 (Qb g16 (Qb g18 (Qc g20 (rfl)))), trivial⟩ rl
   refine qs g18 ?_
   refine qs g18 ?_
   refine qs g18 ?_
   refine qs g18 ?_
   refine qs g18 ?_
   refine qs g18 ?_
   refine qs g18 ?_
   refine qs g18 ?_
   refine qs g18 ?_
   refine qs g18 ?_
   refine qg (vpF g18) (nt g16) ?_
   refine qv (vpF (nt g16)) ?_
   refine nq' ?_
   refine Qm rfl rfl ?_
   refine Qp (Qam (Qd (Qy (wm ?_))))
   refine wv (Qal k6 1 (by omega)) ?_
   refine wa (Qac ?_)
   exact Qan (k6 + 1, (), ()) sl2 idM ⟨(by omega), nx hF8 (Qb g16 (Qc g18 (rfl))), trivial⟩ rl
  refine qs (nf g16) ?_
  refine qs (nf g16) ?_
  refine qs (nf g16) ?_
  refine qu ?_
  refine qu ?_
  refine qu ?_
  refine qu ?_
  refine qu ?_
  refine qu ?_
  refine qu ?_
  refine qu ?_
  refine qu ?_
  refine qu ?_
  refine qs (nf g16) ?_
  refine qv (vpT (nf g16)) ?_
  refine nq' ?_
  refine Ql rfl rfl ?_
  refine sr (wa (nt' (Qj (Qaa (Qg (Qg (Qaa (Qg ?_))))))))
  exact rtb (h := Qbf (nr hF8 (Qc g16 (rfl))) rfl)
 refine Qm rfl g11 ?_
 refine Qay (Qu (Qu ?_))
 have hE23 := Qbh hl10 hF8
 refine Qaz (Qd (sr (wa (nt' (Qj ?_)))))
 exact rtb (h := Qar hE23 (rfl))

def Qoy (x0 : Qbc) (k37 : Nat) : Bool ⊕ (Unit) :=
 cond (Qbk (gt x0.Tenants k37) 0 3) (cond (Qbk (gt x0.Rows k37) 0 x0.Base) (Sum.inr ()) (Sum.inl false)) (Sum.inl false)
def Qlw (x0 : Qbc) : Bool :=
 cond (Qgx x0.Ids) (cond (((x0.Ids.length : Nat) : Int) == 0) false (cond (decide (8 < ((x0.Ids.length : Nat) : Int))) false (cond (((x0.Tenants.length : Nat) : Int) != ((x0.Ids.length : Nat) : Int)) false (cond (((x0.Rows.length : Nat) : Int) != ((x0.Ids.length : Nat) : Int)) false (cond (Qbk x0.Segment 0 7) (cond (Qbk x0.Base 0 4) (Sum.elim id (fun (s : Unit) => true) (rng (R := Bool) (fun k (_ : Unit) => Qoy x0 k) (x0.Ids.length - 0) 0 ())) false) false))))) false
theorem Qani : Cb Tryz.prog 124 := ⟨f124, _, func124, rfl, by decide⟩
theorem Qbaw (w : World) (z0 : List Value) (x0 : Qbc) (r_0 : Qaq.rd w w.heap.size z0 x0) :
  Calls Tryz.prog 124 #[.agg z0.toArray] w (rB w (Qlw x0)) := by
 obtain ⟨v1, v3, v5, rfl, r2, r4, r6⟩ := Qjn r_0
 obtain ⟨m7, A8, c9, rfl, q10, r11⟩ := Qi r2
 obtain ⟨m12, A13, c14, rfl, q15, r16⟩ := Qi r4
 obtain ⟨m17, A18, c19, rfl, q20, r21⟩ := Qi r6
 refine ce1 (L := [(0, .agg #[iV x0.Segment, iV x0.Base, .slice A8 x0.Ids.length c9, .slice A13 x0.Tenants.length c14, .slice A18 x0.Rows.length c19])]) (N := 69) func124 ?_
 refine sr ?_
 refine Qbn rfl (Qk rfl) (by decide) (fun p22 => ?_)
 refine wa (nt' (sr ?_))
 refine wv (vf Qby rfl Qao) ?_
 refine wv (vl 0 2 Qq) ?_
 refine wv (Qag Qq) ?_
 refine wa (nt' (Qe (sr ?_)))
 refine wv (vf Qby rfl Qao) ?_
 refine wv (vl 0 2 Qq) ?_
 refine wcv (Qr Qxo rfl) (fun W hm => Qaau W _ x0.Ids (hm.rdS0 r11)) ?_
 refine wv Qbr ?_
 refine wm ?_
 rcases bd (Qgx x0.Ids) with g24 | g24
 ·
  refine wg vmv (nt g24) ?_
  refine wg (fun W hm => Qfe rfl rfl) (nt g24) ?_
  refine wv (vpF (nt g24)) ?_
  refine wm ?_
  rcases dce ((x0.Ids.length : Nat) : Int) 0 with ⟨h25, g26⟩ | ⟨h25, g26⟩
  ·
   iterate 29 first | refine ws g26 ?_ | refine wv (vpT g26) ?_ | refine wm ?_ | refine wk ?_ | refine wv (vpT rfl) ?_
   refine nt' ?_
   refine Ql rfl rfl ?_
   refine sr (wa (nt' (Qj (Qg ?_))))
   exact rtb (h := Qb g24 (Qb g26 (rfl)))
  refine wg vmv g26 ?_
  refine wg (fun W hm => Qem rfl rfl) g26 ?_
  refine wv (vpF g26) ?_
  refine wm ?_
  rcases dcd (8 < ((x0.Ids.length : Nat) : Int)) with ⟨h27, g28⟩ | ⟨h27, g28⟩
  ·
   iterate 25 first | refine ws g28 ?_ | refine wv (vpT g28) ?_ | refine wm ?_ | refine wk ?_ | refine wv (vpT rfl) ?_
   refine nt' ?_
   refine Ql rfl rfl ?_
   refine sr (wa (nt' (Qj (Qg ?_))))
   exact rtb (h := Qb g24 (Qc g26 (Qb g28 (rfl))))
  refine wg (vf Qby rfl Qao) g28 ?_
  refine wg (vl 0 3 Qq) g28 ?_
  refine wg (Qag Qq) g28 ?_
  refine wg vmv g28 ?_
  refine wg Qcj g28 ?_
  refine wv (vpF g28) ?_
  refine wm ?_
  rcases dcn ((x0.Tenants.length : Nat) : Int) ((x0.Ids.length : Nat) : Int) with ⟨h29, g30⟩ | ⟨h29, g30⟩
  ·
   refine wg (vf Qby rfl Qao) g30 ?_
   refine wg (vl 0 4 Qq) g30 ?_
   refine wg (Qag Qq) g30 ?_
   refine wg vmv g30 ?_
   refine wg Qcj g30 ?_
   refine wv (vpF g30) ?_
   refine wm ?_
   rcases dcn ((x0.Rows.length : Nat) : Int) ((x0.Ids.length : Nat) : Int) with ⟨h31, g32⟩ | ⟨h31, g32⟩
   ·
    refine wg (vf Qby rfl Qf) g32 ?_
    refine wg (vl 0 0 Qs) g32 ?_
    refine Qcr (Qr Qeh rfl) (fun W hm => Qej W x0.Segment 0 7) (Qcc rfl rfl rfl (bw g32 rfl)) (by decide) ?_
    refine wg Qbr g32 ?_
    refine wv (vpF g32) ?_
    refine wm ?_
    rcases bd (Qbk x0.Segment 0 7) with g34 | g34
    ·
     have hw := Qeo g34
     refine wg (vf Qby rfl Qf) (nt g34) ?_
     refine wg (vl 0 1 Qs) (nt g34) ?_
     refine Qcr (Qr Qeh rfl) (fun W hm => Qej W x0.Base 0 4) (Qcc rfl rfl rfl (bw (nt g34) rfl)) (by decide) ?_
     refine wg Qbr (nt g34) ?_
     refine wv (vpF (nt g34)) ?_
     refine nt' ?_
     rcases bd (Qbk x0.Base 0 4) with g36 | g36
     ·
      have hw := Qeo g36
      refine Qm rfl (nt g36) ?_
      refine Qp (Qd (Qe (sr (wa (nt' (Qx ?_))))))
      refine Qbg (S := Unit) (R := Unit) (fun k (_ : Unit) => Qoy x0 k) x0.Ids.length 0 () () (fun s => [(1, bp p22), (3, nI x0.Ids.length), (4, nI s.1)]) (fun s => [Qh p22 102 [iV x0.Segment, iV x0.Base, .slice A8 x0.Ids.length c9, .slice A13 x0.Tenants.length c14, .slice A18 x0.Rows.length c19]]) (fun s => True) sl3 trivial ?_
      rintro ⟨k37, ⟨⟩, ⟨⟩⟩ H40 _ _ e e'
      dsimp only at H40 ⊢
      subst e e'
      obtain ⟨hk38, hF39, _⟩ := H40
      refine Qe (sr (wm (wm ?_)))
      refine wv Qai ?_
      refine nt' ?_
      rcases dcl k37 x0.Ids.length with ⟨hl41, g42⟩ | ⟨hl41, g42⟩
      ·
       refine Ql rfl g42 ?_
       refine Qp (Qd (Qe (Qx (Qe ?_))))
       refine Qfa (by kernel_rfl) (by kernel_rfl) ?_
       refine qv (vf Qby rfl Qao) ?_
       refine qv (vl 0 3 Qq) ?_
       refine qm ?_
       obtain ⟨a43, rfl, hb44, he45⟩ := q15 (by omega)
       refine qv (vix 1 k37 Qq Qf) ?_
       refine qv (fun W hm => Qaw Qs rfl rfl ((hm.cell0 (show (a43.add (k37 * 1)).block < w.heap.size from by rw [Qae]; exact hb44.1)).trans (Qdr he45 k37 (by omega)))) ?_
       refine Qev (Qr Qeh rfl) (fun W hm => Qej W (gt x0.Tenants k37) 0 3) (Qk rfl) (by decide) ?_
       refine qv Qbr ?_
       refine qm ?_
       rcases bd (Qbk (gt x0.Tenants k37) 0 3) with g47 | g47
       ·
        have hw := Qeo g47
        refine qg (vf Qby rfl Qao) (nt g47) ?_
        refine qg (vl 0 4 Qq) (nt g47) ?_
        refine qg vmv (nt g47) ?_
        obtain ⟨a48, rfl, hb49, he50⟩ := q20 (by omega)
        refine qg (vix 1 k37 Qq Qf) (nt g47) ?_
        refine qg (fun W hm => Qaw Qs rfl rfl ((hm.cell0 (show (a48.add (k37 * 1)).block < w.heap.size from by rw [Qae]; exact hb49.1)).trans (Qdr he50 k37 (by omega)))) (nt g47) ?_
        refine qg (vf Qby rfl Qf) (nt g47) ?_
        refine qg (vl 0 1 Qs) (nt g47) ?_
        refine Qev (Qr Qeh rfl) (fun W hm => Qej W (gt x0.Rows k37) 0 x0.Base) (Qcc rfl rfl rfl (bw (nt g47) rfl)) (by decide) ?_
        refine qg Qbr (nt g47) ?_
        refine qv (vpF (nt g47)) ?_
        refine nq' ?_
        rcases bd (Qbk (gt x0.Rows k37) 0 x0.Base) with g52 | g52
        ·
         have hw := Qeo g52
         refine Qm rfl (nt g52) ?_
         refine Qp (Qam (Qd (Qy (wm ?_))))
         refine wv (Qal k37 1 (by omega)) ?_
         refine wa (Qac ?_)
         exact Qan (k37 + 1, (), ()) sl3 idM ⟨(by omega), nx hF39 (Qb g47 (Qb g52 (rfl))), trivial⟩ rl
        refine Ql rfl (nf g52) ?_
        refine sr (wa (nt' (Qj (Qaa (Qg (Qg (Qaa (Qg ?_))))))))
        exact rtb (h := Qb g24 (Qc g26 (Qc g28 (Qc g30 (Qc g32 (Qb g34 (Qb g36 (Qbf (nr hF39 (Qb g47 (Qc g52 (rfl)))) rfl))))))))
       refine qs (nf g47) ?_
       refine qs (nf g47) ?_
       refine qs (nf g47) ?_
       refine qs (nf g47) ?_
       refine qs (nf g47) ?_
       refine qs (nf g47) ?_
       refine qs (nf g47) ?_
       refine qs (nf g47) ?_
       refine qs (nf g47) ?_
       refine qv (vpT (nf g47)) ?_
       refine nq' ?_
       refine Ql rfl rfl ?_
       refine sr (wa (nt' (Qj (Qaa (Qg (Qg (Qaa (Qg ?_))))))))
       exact rtb (h := Qb g24 (Qc g26 (Qc g28 (Qc g30 (Qc g32 (Qb g34 (Qb g36 (Qbf (nr hF39 (Qc g47 (rfl))) rfl))))))))
      refine Qm rfl g42 ?_
      refine Qay (Qu (Qu ?_))
      have hE54 := Qbh hl41 hF39
      refine Qaz (Qd (sr (wa (nt' (Qj ?_)))))
      exact rtb (h := Qb g24 (Qc g26 (Qc g28 (Qc g30 (Qc g32 (Qb g34 (Qb g36 (Qar hE54 (rfl)))))))))
     refine Ql rfl (nf g36) ?_
     refine sr (wa (nt' (Qj (Qg ?_))))
     exact rtb (h := Qb g24 (Qc g26 (Qc g28 (Qc g30 (Qc g32 (Qb g34 (Qc g36 (rfl))))))))
    refine ws (nf g34) ?_
    refine ws (nf g34) ?_
    refine ws (nf g34) ?_
    refine ws (nf g34) ?_
    refine wv (vpT (nf g34)) ?_
    refine nt' ?_
    refine Ql rfl rfl ?_
    refine sr (wa (nt' (Qj (Qg ?_))))
    exact rtb (h := Qb g24 (Qc g26 (Qc g28 (Qc g30 (Qc g32 (Qc g34 (rfl)))))))
   iterate 11 first | refine ws g32 ?_ | refine wv (vpT g32) ?_ | refine wm ?_ | refine wk ?_ | refine wv (vpT rfl) ?_
   refine nt' ?_
   refine Ql rfl rfl ?_
   refine sr (wa (nt' (Qj (Qg ?_))))
   exact rtb (h := Qb g24 (Qc g26 (Qc g28 (Qc g30 (Qb g32 (rfl))))))
  iterate 18 first | refine ws g30 ?_ | refine wv (vpT g30) ?_ | refine wm ?_ | refine wk ?_ | refine wv (vpT rfl) ?_
  refine nt' ?_
  refine Ql rfl rfl ?_
  refine sr (wa (nt' (Qj (Qg ?_))))
  exact rtb (h := Qb g24 (Qc g26 (Qc g28 (Qb g30 (rfl)))))
 refine ws (nf g24) ?_
 refine ws (nf g24) ?_
 iterate 31 first | refine wv (vpT (nf g24)) ?_ | refine wm ?_ | refine wk ?_ | refine wv (vpT rfl) ?_
 refine nt' ?_
 refine Ql rfl rfl ?_
 refine sr (wa (nt' (Qj (Qg ?_))))
 exact rtb (h := Qc g24 (rfl))

theorem Qbeg {x : Qbc} (h : Qlw x = true) : 1 ≤ x.Ids.length ∧ x.Tenants.length = x.Ids.length ∧ x.Rows.length = x.Ids.length := by
  unfold Qlw at h
  cases h1 : Qgx x.Ids <;> rw [h1] at h
  · cases h
  by_cases h2 : ((x.Ids.length : Nat) : Int) = 0
  · rw [beq_iff_eq.2 h2] at h
    cases h
  by_cases h3 : ((x.Tenants.length : Nat) : Int) = ((x.Ids.length : Nat) : Int)
  · by_cases h4 : ((x.Rows.length : Nat) : Int) = ((x.Ids.length : Nat) : Int)
    · omega
    rw [bne_iff_ne.2 h4] at h
    revert h
    cases (((x.Ids.length : Nat) : Int) == 0) <;> cases decide (8 < ((x.Ids.length : Nat) : Int)) <;> cases (((x.Tenants.length : Nat) : Int) != ((x.Ids.length : Nat) : Int)) <;> intro h <;> cases h
  rw [bne_iff_ne.2 h3] at h
  revert h
  cases (((x.Ids.length : Nat) : Int) == 0) <;> cases decide (8 < ((x.Ids.length : Nat) : Int)) <;> intro h <;> cases h

def Qvk (x0 : Qo) (k188 : Nat) : Bool ⊕ (Unit) :=
 cond (Qlw (gt x0.Ledger k188)) (Sum.inr ()) (Sum.inl false)
def Qqq (x0 : Qo) (k142 : Nat) : Bool ⊕ (Unit) :=
 cond (Qff ((gt x0.Done k142).Query)) (cond (Qbk ((gt x0.Done k142).Time) 0 x0.Store.Now) (cond (Qbk ((gt x0.Done k142).Steps) 0 100000) (cond (Qkf ((gt x0.Done k142).Rows)) (Sum.inr ()) (Sum.inl false)) (Sum.inl false)) (Sum.inl false)) (Sum.inl false)
def Qsr (x0 : Qo) (k56 : Nat) : Bool ⊕ (Unit) :=
 cond (Qmr x0 (gt x0.Active k56)) (cond (decide (0 < ((k56 : Nat) : Int))) (cond (decide (((gt x0.Active k56).Query.Id) ≤ ((gt x0.Active (k56 - 1)).Query.Id))) (Sum.inl false) (Sum.inr ())) (Sum.inr ())) (Sum.inl false)
def Qhv (x0 : Qo) : Bool :=
 cond (Qji x0.Store) (cond (Qbk x0.Cursor 0 (IntKind.i64.wrap (((x0.Store.Segments.length : Nat) : Int) - 1))) (cond (Qlc x0.Order) (cond (decide (8 < ((x0.Active.length : Nat) : Int))) false (cond (Qbk x0.Steps 0 100000) (cond (decide (1000 < ((x0.Done.length : Nat) : Int))) false (cond (decide (1000 < ((x0.Ledger.length : Nat) : Int))) false (Sum.elim id (fun (s1_ : Unit) => Sum.elim id (fun (s2_ : Unit) => Sum.elim id (fun (s : Unit) => true) (rng (R := Bool) (fun k (_ : Unit) => Qvk x0 k) (x0.Ledger.length - 0) 0 ())) (rng (R := Bool) (fun k (_ : Unit) => Qqq x0 k) (x0.Done.length - 0) 0 ())) (rng (R := Bool) (fun k (_ : Unit) => Qsr x0 k) (x0.Active.length - 0) 0 ())))) false)) false) false) false
theorem Qtu : Cb Tryz.prog 44 := ⟨f44, _, func44, rfl, by decide⟩
theorem Qvl (w : World) (z0 : List Value) (x0 : Qo) (r_0 : Qcb.rd w w.heap.size z0 x0) (s_0 : Qen 68719476736 x0) :
  Calls Tryz.prog 44 #[.agg z0.toArray] w (rB w (Qhv x0)) := by
 obtain ⟨v1, v3, v5, v7, v9, rfl, r2, r4, r6, r8, r10⟩ := Qia r_0
 obtain ⟨m11, A12, c13, rfl, q14, r15⟩ := Qi r2
 obtain ⟨m16, A17, c18, rfl, q19, r20⟩ := Qi r4
 obtain ⟨m21, A22, c23, rfl, q24, r25⟩ := Qi r6
 obtain ⟨m26, A27, c28, rfl, q29, r30⟩ := Qi r8
 obtain ⟨m31, A32, c33, rfl, q34, r35⟩ := Qi r10
 have l36 : x0.Store.Segments.length ≤ 68719476736 := s_0.1.1
 have l37 := s_0.2.1
 have l38 := s_0.2.2.1.1
 have l39 := s_0.2.2.2.1.1
 have l40 := s_0.2.2.2.2.1
 refine ce1 (L := [(0, .agg #[.slice A12 x0.Store.Segments.length c13, iV x0.Store.Now, iV x0.Cursor, .slice A17 x0.Order.length c18, .slice A22 x0.Active.length c23, .slice A27 x0.Done.length c28, .slice A32 x0.Ledger.length c33, iV x0.Steps])]) (N := 140) func44 ?_
 refine sr ?_
 refine Qbn rfl (Qk rfl) (by decide) (fun p41 => ?_)
 refine wa (nt' (Qe (sr ?_)))
 refine wv (vf Qz rfl Qbt) ?_
 refine wv (fun W hm => Qad (cs := [.slice A12 x0.Store.Segments.length c13, iV x0.Store.Now]) Qbw Qbt rfl rfl (hm.boxPart (n := 0) rfl rfl)) ?_
 refine wcv (Qr Qadi rfl) (fun W hm => Qaie W _ x0.Store (Qgc (x := x0.Store) (hm.rdS0 r15)) s_0.1) ?_
 refine wv Qbr ?_
 refine wm ?_
 rcases bd (Qji x0.Store) with g43 | g43
 ·
  refine wg (vf Qz rfl Qf) (nt g43) ?_
  refine wg (vl 0 2 Qs) (nt g43) ?_
  refine wg (vf Qz rfl Qbt) (nt g43) ?_
  refine wg (fun W hm => Qeb (o := 0) Qbw rfl Qea (by decide) rfl rfl) (nt g43) ?_
  refine wg (vl 0 0 Qbz) (nt g43) ?_
  refine wg (Qag Qbz) (nt g43) ?_
  refine wg (fun W hm => Qik rfl rfl) (nt g43) ?_
  refine Qcr (Qr Qeh rfl) (fun W hm => Qej W x0.Cursor 0 (IntKind.i64.wrap (((x0.Store.Segments.length : Nat) : Int) - 1))) (Qcc rfl rfl rfl (bw (nt g43) rfl)) (by decide) ?_
  refine wg Qbr (nt g43) ?_
  refine wv (vpF (nt g43)) ?_
  refine wm ?_
  rcases bd (Qbk x0.Cursor 0 (IntKind.i64.wrap (((x0.Store.Segments.length : Nat) : Int) - 1))) with g45 | g45
  ·
   have hw := Qeo g45
   rw [Qwm (by omega)] at hw
   refine wg (vf Qz rfl Qao) (nt g45) ?_
   refine wg (vl 0 3 Qq) (nt g45) ?_
   refine Qcr (Qr Qang rfl) (fun W hm => Qbbu W _ x0.Order (hm.rdS0 r20)) (Qcc rfl rfl rfl (bw (nt g45) rfl)) (by decide) ?_
   refine wg Qbr (nt g45) ?_
   refine wv (vpF (nt g45)) ?_
   refine wm ?_
   rcases bd (Qlc x0.Order) with g47 | g47
   ·
    refine wg (vf Qz rfl Qcw) (nt g47) ?_
    refine wg (vl 0 4 Qax) (nt g47) ?_
    refine wg (Qag Qax) (nt g47) ?_
    refine wg (fun W hm => Qem rfl rfl) (nt g47) ?_
    refine wv (vpF (nt g47)) ?_
    refine wm ?_
    rcases dcd (8 < ((x0.Active.length : Nat) : Int)) with ⟨h48, g49⟩ | ⟨h48, g49⟩
    ·
     iterate 17 first | refine ws g49 ?_ | refine wv (vpT g49) ?_ | refine wm ?_ | refine wk ?_ | refine wv (vpT rfl) ?_
     refine nt' ?_
     refine Ql rfl rfl ?_
     refine sr (wa (nt' (Qj (Qg ?_))))
     exact rtb (h := Qb g43 (Qb g45 (Qb g47 (Qb g49 (rfl)))))
    refine wg (vf Qz rfl Qf) g49 ?_
    refine wg (vl 0 7 Qs) g49 ?_
    refine Qcr (Qr Qeh rfl) (fun W hm => Qej W x0.Steps 0 100000) (Qcc rfl rfl rfl (bw g49 rfl)) (by decide) ?_
    refine wg Qbr g49 ?_
    refine wv (vpF g49) ?_
    refine wm ?_
    rcases bd (Qbk x0.Steps 0 100000) with g51 | g51
    ·
     have hw := Qeo g51
     refine wg (vf Qz rfl Qek) (nt g51) ?_
     refine wg (vl 0 5 Qch) (nt g51) ?_
     refine wg (Qag Qch) (nt g51) ?_
     refine wg (fun W hm => Qem rfl rfl) (nt g51) ?_
     refine wv (vpF (nt g51)) ?_
     refine wm ?_
     rcases dcd (1000 < ((x0.Done.length : Nat) : Int)) with ⟨h52, g53⟩ | ⟨h52, g53⟩
     ·
      iterate 5 first | refine ws g53 ?_ | refine wv (vpT g53) ?_
      refine nt' ?_
      refine Ql rfl rfl ?_
      refine sr (wa (nt' (Qj (Qg ?_))))
      exact rtb (h := Qb g43 (Qb g45 (Qb g47 (Qc g49 (Qb g51 (Qb g53 (rfl)))))))
     refine wg (vf Qz rfl Qfg) g53 ?_
     refine wg (vl 0 6 Qcx) g53 ?_
     refine wg (Qag Qcx) g53 ?_
     refine wg (fun W hm => Qem rfl rfl) g53 ?_
     refine wv (vpF g53) ?_
     refine nt' ?_
     rcases dcd (1000 < ((x0.Ledger.length : Nat) : Int)) with ⟨h54, g55⟩ | ⟨h54, g55⟩
     ·
      refine Ql rfl g55 ?_
      refine sr (wa (nt' (Qj (Qg ?_))))
      exact rtb (h := Qb g43 (Qb g45 (Qb g47 (Qc g49 (Qb g51 (Qc g53 (Qb g55 (rfl))))))))
     refine Qm rfl g55 ?_
     refine Qp (Qd (Qe (sr (wa (nt' (Qx ?_))))))
     let K1 : List Value := [.slice A12 x0.Store.Segments.length c13, iV x0.Store.Now, iV x0.Cursor, .slice A17 x0.Order.length c18, .slice A22 x0.Active.length c23, .slice A27 x0.Done.length c28, .slice A32 x0.Ledger.length c33, iV x0.Steps]
     refine Qbg (S := Unit) (R := Unit) (fun k (_ : Unit) => Qsr x0 k) x0.Active.length 0 () () (fun s => [(1, bp p41), (3, nI s.1)]) (fun s => [Qh p41 39 K1]) (fun s => True) sl2 trivial ?_
     rintro ⟨k56, ⟨⟩, ⟨⟩⟩ H59 _ _ e e'
     dsimp only at H59 ⊢
     subst e e'
     obtain ⟨hk57, hF58, _⟩ := H59
     refine Qe (sr (wm ?_))
     refine wv (vf Qz rfl Qcw) ?_
     refine wv (vl 0 4 Qax) ?_
     refine wv (Qag Qax) ?_
     refine wv Qai ?_
     refine nt' ?_
     rcases dcl k56 x0.Active.length with ⟨hl60, g61⟩ | ⟨hl60, g61⟩
     ·
      refine Ql rfl g61 ?_
      refine Qp (Qd (Qe (Qx (Qe ?_))))
      refine Qfa (by kernel_rfl) (by kernel_rfl) ?_
      refine qv (fun W hm => Qad (cs := K1) Qz Qbd rfl rfl (hm.boxCells (n := 0) rfl)) ?_
      refine qv (vf Qz rfl Qcw) ?_
      refine qv (vl 0 4 Qax) ?_
      refine qm ?_
      obtain ⟨a62, rfl, hb63, he64⟩ := q24 (by omega)
      refine qv (vix 10 k56 Qax Qbe) ?_
      obtain ⟨_, e74, hc65⟩ := he64 k56 _ (Qbs (show k56 < x0.Active.length from by omega))
      obtain ⟨v66, v68, v70, v72, rfl, r67, r69, r71, r73⟩ := Qgp e74
      have l75 := (s_0.2.2.1.2 _ (Qak (show k56 < x0.Active.length from by omega))).1.1
      have l76 := (s_0.2.2.1.2 _ (Qak (show k56 < x0.Active.length from by omega))).1.2
      have l77 := (s_0.2.2.1.2 _ (Qak (show k56 < x0.Active.length from by omega))).2.1
      have l78 := (s_0.2.2.1.2 _ (Qak (show k56 < x0.Active.length from by omega))).2.2.1
      obtain ⟨m79, A80, c81, rfl, q82, r83⟩ := Qi r67
      obtain ⟨m84, A85, c86, rfl, q87, r88⟩ := Qi r69
      obtain ⟨m89, A90, c91, rfl, q92, r93⟩ := Qi r71
      obtain ⟨m94, A95, c96, rfl, q97, r98⟩ := Qi r73
      refine qv (fun W hm => Qad (cs := [iV ((gt x0.Active k56).Query.Id), iV ((gt x0.Active k56).Query.Tenant), .slice A80 ((gt x0.Active k56).Query.Conds).length c81, .slice A85 ((gt x0.Active k56).Query.Out).length c86, iV ((gt x0.Active k56).Time), .slice A90 ((gt x0.Active k56).Todo).length c91, iV ((gt x0.Active k56).Age), iV ((gt x0.Active k56).Sent), iV ((gt x0.Active k56).Cap), .slice A95 ((gt x0.Active k56).Rows).length c96]) Qaj Qbe rfl rfl (hm.elCells (show (a62.add (k56 * 10)).block < w.heap.size from by rw [Qae]; exact hb63.1) hc65)) ?_
      refine Qev (Qr Qanh rfl) (fun W hm => Qbck W _ x0 _ (gt x0.Active k56) (Qep (x := x0) (hm.rdS0 r15) (hm.rdS0 r20) (hm.rdS0 r25) (hm.rdS0 r30) (hm.rdS0 r35)) (Qrb (x := (gt x0.Active k56)) (hm.rdS0 r83) (hm.rdS0 r88) (hm.rdS0 r93) (hm.rdS0 r98))) (Qk rfl) (by decide) ?_
      refine qv Qbr ?_
      refine qm ?_
      rcases bd (Qmr x0 (gt x0.Active k56)) with g100 | g100
      ·
       refine qg vmv (nt g100) ?_
       refine qg (fun W hm => Qem rfl rfl) (nt g100) ?_
       refine qg vmv (nt g100) ?_
       rcases dcd (0 < ((k56 : Nat) : Int)) with ⟨h101, g102⟩ | ⟨h101, g102⟩
       ·
        refine qg (vf Qz rfl Qcw) g102 ?_
        refine qg (vl 0 4 Qax) g102 ?_
        refine qg vmv g102 ?_
        refine qg (vix 10 k56 Qax Qbe) g102 ?_
        refine qg (vf Qaj rfl Qbj) g102 ?_
        refine qg (fun W hm => Qeb (o := 0) Qbq rfl Qf (by decide) rfl rfl) g102 ?_
        refine qg (fun W hm => Qaw Qs rfl rfl ((hm.cell0 (show ((a62.add (k56 * 10)).add 0).block < w.heap.size from by rw [Qae, Qae]; exact hb63.1)).trans (hc65 0 _ rfl))) g102 ?_
        refine qg (vf Qz rfl Qcw) g102 ?_
        refine qg (vl 0 4 Qax) g102 ?_
        refine qg vmv g102 ?_
        refine qg (fun W hm => Qkz (p := k56) (q := 1) rfl rfl (by omega) (by omega)) g102 ?_
        refine qg (fun W hm => Qje (sz := 10) (k := k56 - 1) Qax Qbe rfl rfl rfl (by omega)) g102 ?_
        refine qg (vf Qaj rfl Qbj) g102 ?_
        refine qg (fun W hm => Qeb (o := 0) Qbq rfl Qf (by decide) rfl rfl) g102 ?_
        obtain ⟨_, e112, hc103⟩ := he64 (k56 - 1) _ (Qbs (show (k56 - 1) < x0.Active.length from by omega))
        obtain ⟨v104, v106, v108, v110, rfl, r105, r107, r109, r111⟩ := Qgp e112
        have l113 := (s_0.2.2.1.2 _ (Qak (show (k56 - 1) < x0.Active.length from by omega))).1.1
        have l114 := (s_0.2.2.1.2 _ (Qak (show (k56 - 1) < x0.Active.length from by omega))).1.2
        have l115 := (s_0.2.2.1.2 _ (Qak (show (k56 - 1) < x0.Active.length from by omega))).2.1
        have l116 := (s_0.2.2.1.2 _ (Qak (show (k56 - 1) < x0.Active.length from by omega))).2.2.1
        obtain ⟨m117, A118, c119, rfl, q120, r121⟩ := Qi r105
        obtain ⟨m122, A123, c124, rfl, q125, r126⟩ := Qi r107
        obtain ⟨m127, A128, c129, rfl, q130, r131⟩ := Qi r109
        obtain ⟨m132, A133, c134, rfl, q135, r136⟩ := Qi r111
        refine qg (fun W hm => Qaw Qs rfl rfl ((hm.cell0 (show ((a62.add ((k56 - 1) * 10)).add 0).block < w.heap.size from by rw [Qae, Qae]; exact hb63.1)).trans (hc103 0 _ rfl))) g102 ?_
        refine qg (fun W hm => Qgw rfl rfl) g102 ?_
        refine qg (vpT g102) (nt g100) ?_
        refine qv (vpF (nt g100)) ?_
        refine nq' ?_
        rcases dcd (((gt x0.Active k56).Query.Id) ≤ ((gt x0.Active (k56 - 1)).Query.Id)) with ⟨h137, g138⟩ | ⟨h137, g138⟩
        ·
         refine Ql rfl g138 ?_
         refine sr (wa (nt' (Qj (Qaa (Qg (Qg (Qaa (Qg ?_))))))))
         exact rtb (h := Qb g43 (Qb g45 (Qb g47 (Qc g49 (Qb g51 (Qc g53 (Qc g55 (Qbf (nr hF58 (Qb g100 (Qb g102 (Qb g138 (rfl))))) rfl))))))))
        refine Qm rfl g138 ?_
        refine Qp (Qam (Qd (Qy (wm ?_))))
        refine wv (Qal k56 1 (by omega)) ?_
        refine wa (Qac ?_)
        exact Qan (k56 + 1, (), ()) sl2 idM ⟨(by omega), nx hF58 (Qb g100 (Qb g102 (Qc g138 (rfl)))), trivial⟩ rl
       refine qs g102 ?_
       refine qs g102 ?_
       refine qs g102 ?_
       refine qs g102 ?_
       refine qs g102 ?_
       refine qs g102 ?_
       refine qs g102 ?_
       refine qs g102 ?_
       refine qs g102 ?_
       refine qs g102 ?_
       refine qs g102 ?_
       refine qs g102 ?_
       refine qs g102 ?_
       refine qs g102 ?_
       refine qs g102 ?_
       refine qs g102 ?_
       refine qg (vpF g102) (nt g100) ?_
       refine qv (vpF (nt g100)) ?_
       refine nq' ?_
       refine Qm rfl rfl ?_
       refine Qp (Qam (Qd (Qy (wm ?_))))
       refine wv (Qal k56 1 (by omega)) ?_
       refine wa (Qac ?_)
       exact Qan (k56 + 1, (), ()) sl2 idM ⟨(by omega), nx hF58 (Qb g100 (Qc g102 (rfl))), trivial⟩ rl
      refine qs (nf g100) ?_
      refine qs (nf g100) ?_
      refine qs (nf g100) ?_
      refine qu ?_
      refine qu ?_
      refine qu ?_
      refine qu ?_
      refine qu ?_
      refine qu ?_
      refine qu ?_
      refine qu ?_
      refine qu ?_
      refine qu ?_
      refine qu ?_
      refine qu ?_
      refine qu ?_
      refine qu ?_
      refine qu ?_
      refine qu ?_
      refine qs (nf g100) ?_
      refine qv (vpT (nf g100)) ?_
      refine nq' ?_
      refine Ql rfl rfl ?_
      refine sr (wa (nt' (Qj (Qaa (Qg (Qg (Qaa (Qg ?_))))))))
      exact rtb (h := Qb g43 (Qb g45 (Qb g47 (Qc g49 (Qb g51 (Qc g53 (Qc g55 (Qbf (nr hF58 (Qc g100 (rfl))) rfl))))))))
     refine Qm rfl g61 ?_
     refine Qay (Qu (Qu ?_))
     have hE141 := Qbh hl60 hF58
     refine Qaz (Qd (Qe (sr (wa (nt' (Qx ?_))))))
     refine Qbg (S := Unit) (R := Unit) (fun k (_ : Unit) => Qqq x0 k) x0.Done.length 0 () () (fun s => [(1, bp p41), (4, nI s.1)]) (fun s => [Qh p41 39 K1]) (fun s => True) sl2 trivial ?_
     rintro ⟨k142, ⟨⟩, ⟨⟩⟩ H145 _ _ e e'
     dsimp only at H145 ⊢
     subst e e'
     obtain ⟨hk143, hF144, _⟩ := H145
     refine Qe (sr (wm ?_))
     refine wv (vf Qz rfl Qek) ?_
     refine wv (vl 0 5 Qch) ?_
     refine wv (Qag Qch) ?_
     refine wv Qai ?_
     refine nt' ?_
     rcases dcl k142 x0.Done.length with ⟨hl146, g147⟩ | ⟨hl146, g147⟩
     ·
      refine Ql rfl g147 ?_
      refine Qp (Qd (Qe (Qx (sr ?_))))
      refine wv (vf Qz rfl Qek) ?_
      refine wv (vl 0 5 Qch) ?_
      refine wm ?_
      obtain ⟨a148, rfl, hb149, he150⟩ := q29 (by omega)
      refine wv (vix 7 k142 Qch Qcq) ?_
      obtain ⟨_, e158, hc151⟩ := he150 k142 _ (Qbs (show k142 < x0.Done.length from by omega))
      obtain ⟨v152, v154, v156, rfl, r153, r155, r157⟩ := Qlz e158
      have l159 := (s_0.2.2.2.1.2 _ (Qak (show k142 < x0.Done.length from by omega))).1.1
      have l160 := (s_0.2.2.2.1.2 _ (Qak (show k142 < x0.Done.length from by omega))).1.2
      have l161 := (s_0.2.2.2.1.2 _ (Qak (show k142 < x0.Done.length from by omega))).2.1
      obtain ⟨m162, A163, c164, rfl, q165, r166⟩ := Qi r153
      obtain ⟨m167, A168, c169, rfl, q170, r171⟩ := Qi r155
      obtain ⟨m172, A173, c174, rfl, q175, r176⟩ := Qi r157
      let K2 : List Value := [iV ((gt x0.Done k142).Query.Id), iV ((gt x0.Done k142).Query.Tenant), .slice A163 ((gt x0.Done k142).Query.Conds).length c164, .slice A168 ((gt x0.Done k142).Query.Out).length c169, iV ((gt x0.Done k142).Time), iV ((gt x0.Done k142).Steps), .slice A173 ((gt x0.Done k142).Rows).length c174]
      refine wv (fun W hm => Qad (cs := K2) Qda Qcq rfl rfl (hm.elCells (show (a148.add (k142 * 7)).block < w.heap.size from by rw [Qae]; exact hb149.1) hc151)) ?_
      refine Qbm Qcq rfl (Qk rfl) (by decide) (fun p177 => ?_)
      refine sb 0 K2 [Qh p41 39 [.slice A12 x0.Store.Segments.length c13, iV x0.Store.Now, iV x0.Cursor, .slice A17 x0.Order.length c18, .slice A22 x0.Active.length c23, .slice (some a148) x0.Done.length c28, .slice A32 x0.Ledger.length c33, iV x0.Steps]] idM Qcq ?_
      refine nt' (sr ?_)
      refine wv (vf Qda rfl Qbj) ?_
      refine wv (fun W hm => Qad (cs := [iV ((gt x0.Done k142).Query.Id), iV ((gt x0.Done k142).Query.Tenant), .slice A163 ((gt x0.Done k142).Query.Conds).length c164, .slice A168 ((gt x0.Done k142).Query.Out).length c169]) Qbq Qbj rfl rfl (hm.boxPart (n := 0) rfl rfl)) ?_
      refine wcv (Qr Qxk rfl) (fun W hm => Qaas W _ ((gt x0.Done k142).Query) (Qhg (x := ((gt x0.Done k142).Query)) (hm.rdS0 r166) (hm.rdS0 r171))) ?_
      refine wv Qbr ?_
      refine wm ?_
      rcases bd (Qff ((gt x0.Done k142).Query)) with g179 | g179
      ·
       refine wg (vf Qda rfl Qf) (nt g179) ?_
       refine wg (vl 0 4 Qs) (nt g179) ?_
       refine wg (vf Qz rfl Qbt) (nt g179) ?_
       refine wg (fun W hm => Qeb (o := 1) Qbw rfl Qf (by decide) rfl rfl) (nt g179) ?_
       refine wg (vl 1 1 Qs) (nt g179) ?_
       refine Qcr (Qr Qeh rfl) (fun W hm => Qej W ((gt x0.Done k142).Time) 0 x0.Store.Now) (Qcc rfl rfl rfl (bw (nt g179) rfl)) (by decide) ?_
       refine wg Qbr (nt g179) ?_
       refine wv (vpF (nt g179)) ?_
       refine wm ?_
       rcases bd (Qbk ((gt x0.Done k142).Time) 0 x0.Store.Now) with g181 | g181
       ·
        have hw := Qeo g181
        refine wg (vf Qda rfl Qf) (nt g181) ?_
        refine wg (vl 0 5 Qs) (nt g181) ?_
        refine Qcr (Qr Qeh rfl) (fun W hm => Qej W ((gt x0.Done k142).Steps) 0 100000) (Qcc rfl rfl rfl (bw (nt g181) rfl)) (by decide) ?_
        refine wg Qbr (nt g181) ?_
        refine wv (vpF (nt g181)) ?_
        refine wm ?_
        rcases bd (Qbk ((gt x0.Done k142).Steps) 0 100000) with g183 | g183
        ·
         have hw := Qeo g183
         refine wg (vf Qda rfl Qdt) (nt g183) ?_
         refine wg (vl 0 6 Qci) (nt g183) ?_
         refine Qcr (Qr Qadj rfl) (fun W hm => Qaik W _ ((gt x0.Done k142).Rows) (hm.rdS0 r176)) (Qcc rfl rfl rfl (bw (nt g183) rfl)) (by decide) ?_
         refine wg Qbr (nt g183) ?_
         refine wv (vpF (nt g183)) ?_
         refine nt' ?_
         rcases bd (Qkf ((gt x0.Done k142).Rows)) with g185 | g185
         ·
          refine Qm rfl (nt g185) ?_
          refine Qp (Qam (Qd (Qy (wm ?_))))
          refine wv (Qal k142 1 (by omega)) ?_
          refine wa (Qac ?_)
          exact Qan (k142 + 1, (), ()) sl2 (pk [1]) ⟨(by omega), nx hF144 (Qb g179 (Qb g181 (Qb g183 (Qb g185 (rfl))))), trivial⟩ rl
         refine Ql rfl (nf g185) ?_
         refine sr (wa (nt' (Qj (Qaa (Qg (Qg (Qaa (Qg ?_))))))))
         exact rtb (h := Qb g43 (Qb g45 (Qb g47 (Qc g49 (Qb g51 (Qc g53 (Qc g55 (Qar hE141 (Qbf (nr hF144 (Qb g179 (Qb g181 (Qb g183 (Qc g185 (rfl)))))) rfl)))))))))
        refine ws (nf g183) ?_
        refine ws (nf g183) ?_
        refine ws (nf g183) ?_
        refine ws (nf g183) ?_
        refine wv (vpT (nf g183)) ?_
        refine nt' ?_
        refine Ql rfl rfl ?_
        refine sr (wa (nt' (Qj (Qaa (Qg (Qg (Qaa (Qg ?_))))))))
        exact rtb (h := Qb g43 (Qb g45 (Qb g47 (Qc g49 (Qb g51 (Qc g53 (Qc g55 (Qar hE141 (Qbf (nr hF144 (Qb g179 (Qb g181 (Qc g183 (rfl))))) rfl)))))))))
       refine ws (nf g181) ?_
       refine ws (nf g181) ?_
       refine ws (nf g181) ?_
       refine ws (nf g181) ?_
       iterate 7 first | refine wv (vpT (nf g181)) ?_ | refine wm ?_ | refine wk ?_ | refine wv (vpT rfl) ?_
       refine nt' ?_
       refine Ql rfl rfl ?_
       refine sr (wa (nt' (Qj (Qaa (Qg (Qg (Qaa (Qg ?_))))))))
       exact rtb (h := Qb g43 (Qb g45 (Qb g47 (Qc g49 (Qb g51 (Qc g53 (Qc g55 (Qar hE141 (Qbf (nr hF144 (Qb g179 (Qc g181 (rfl)))) rfl)))))))))
      refine ws (nf g179) ?_
      refine ws (nf g179) ?_
      refine ws (nf g179) ?_
      refine ws (nf g179) ?_
      refine ws (nf g179) ?_
      refine ws (nf g179) ?_
      refine ws (nf g179) ?_
      iterate 13 first | refine wv (vpT (nf g179)) ?_ | refine wm ?_ | refine wk ?_ | refine wv (vpT rfl) ?_
      refine nt' ?_
      refine Ql rfl rfl ?_
      refine sr (wa (nt' (Qj (Qaa (Qg (Qg (Qaa (Qg ?_))))))))
      exact rtb (h := Qb g43 (Qb g45 (Qb g47 (Qc g49 (Qb g51 (Qc g53 (Qc g55 (Qar hE141 (Qbf (nr hF144 (Qc g179 (rfl))) rfl)))))))))
     refine Qm rfl g147 ?_
     refine Qay (Qu (Qu ?_))
     have hE187 := Qbh hl146 hF144
     refine Qaz (Qd (Qe (sr (wa (nt' (Qx ?_))))))
     refine Qbg (S := Unit) (R := Unit) (fun k (_ : Unit) => Qvk x0 k) x0.Ledger.length 0 () () (fun s => [(1, bp p41), (6, nI s.1)]) (fun s => [Qh p41 39 K1]) (fun s => True) sl2 trivial ?_
     rintro ⟨k188, ⟨⟩, ⟨⟩⟩ H191 _ _ e e'
     dsimp only at H191 ⊢
     subst e e'
     obtain ⟨hk189, hF190, _⟩ := H191
     refine Qe (sr (wm ?_))
     refine wv (vf Qz rfl Qfg) ?_
     refine wv (vl 0 6 Qcx) ?_
     refine wv (Qag Qcx) ?_
     refine wv Qai ?_
     refine nt' ?_
     rcases dcl k188 x0.Ledger.length with ⟨hl192, g193⟩ | ⟨hl192, g193⟩
     ·
      refine Ql rfl g193 ?_
      refine Qp (Qd (Qe (Qx (sr ?_))))
      refine wv (vf Qz rfl Qfg) ?_
      refine wv (vl 0 6 Qcx) ?_
      refine wm ?_
      obtain ⟨a194, rfl, hb195, he196⟩ := q34 (by omega)
      refine wv (vix 5 k188 Qcx Qcs) ?_
      obtain ⟨_, e204, hc197⟩ := he196 k188 _ (Qbs (show k188 < x0.Ledger.length from by omega))
      obtain ⟨v198, v200, v202, rfl, r199, r201, r203⟩ := Qjn e204
      have l205 := (s_0.2.2.2.2.2 _ (Qak (show k188 < x0.Ledger.length from by omega))).1
      have l206 := (s_0.2.2.2.2.2 _ (Qak (show k188 < x0.Ledger.length from by omega))).2.1
      have l207 := (s_0.2.2.2.2.2 _ (Qak (show k188 < x0.Ledger.length from by omega))).2.2
      obtain ⟨m208, A209, c210, rfl, q211, r212⟩ := Qi r199
      obtain ⟨m213, A214, c215, rfl, q216, r217⟩ := Qi r201
      obtain ⟨m218, A219, c220, rfl, q221, r222⟩ := Qi r203
      refine wv (fun W hm => Qad (cs := [iV ((gt x0.Ledger k188).Segment), iV ((gt x0.Ledger k188).Base), .slice A209 ((gt x0.Ledger k188).Ids).length c210, .slice A214 ((gt x0.Ledger k188).Tenants).length c215, .slice A219 ((gt x0.Ledger k188).Rows).length c220]) Qby Qcs rfl rfl (hm.elCells (show (a194.add (k188 * 5)).block < w.heap.size from by rw [Qae]; exact hb195.1) hc197)) ?_
      refine wcv (Qr Qani rfl) (fun W hm => Qbaw W _ (gt x0.Ledger k188) (Qrc (x := (gt x0.Ledger k188)) (hm.rdS0 r212) (hm.rdS0 r217) (hm.rdS0 r222))) ?_
      refine wv Qbr ?_
      refine nt' ?_
      rcases bd (Qlw (gt x0.Ledger k188)) with g224 | g224
      ·
       refine Qm rfl (nt g224) ?_
       refine Qp (Qam (Qd (Qy (wm ?_))))
       refine wv (Qal k188 1 (by omega)) ?_
       refine wa (Qac ?_)
       exact Qan (k188 + 1, (), ()) sl2 idM ⟨(by omega), nx hF190 (Qb g224 (rfl)), trivial⟩ rl
      refine Ql rfl (nf g224) ?_
      refine sr (wa (nt' (Qj (Qaa (Qg (Qg (Qaa (Qg ?_))))))))
      exact rtb (h := Qb g43 (Qb g45 (Qb g47 (Qc g49 (Qb g51 (Qc g53 (Qc g55 (Qar hE141 (Qar hE187 (Qbf (nr hF190 (Qc g224 (rfl))) rfl))))))))))
     refine Qm rfl g193 ?_
     refine Qay (Qu (Qu ?_))
     have hE226 := Qbh hl192 hF190
     refine Qaz (Qd (sr (wa (nt' (Qj ?_)))))
     exact rtb (h := Qb g43 (Qb g45 (Qb g47 (Qc g49 (Qb g51 (Qc g53 (Qc g55 (Qar hE141 (Qar hE187 (Qar hE226 (rfl)))))))))))
    refine ws (nf g51) ?_
    refine ws (nf g51) ?_
    refine ws (nf g51) ?_
    refine ws (nf g51) ?_
    iterate 7 first | refine wv (vpT (nf g51)) ?_ | refine wm ?_ | refine wk ?_ | refine wv (vpT rfl) ?_
    refine nt' ?_
    refine Ql rfl rfl ?_
    refine sr (wa (nt' (Qj (Qg ?_))))
    exact rtb (h := Qb g43 (Qb g45 (Qb g47 (Qc g49 (Qc g51 (rfl))))))
   refine ws (nf g47) ?_
   refine ws (nf g47) ?_
   refine ws (nf g47) ?_
   refine ws (nf g47) ?_
   iterate 19 first | refine wv (vpT (nf g47)) ?_ | refine wm ?_ | refine wk ?_ | refine wv (vpT rfl) ?_
   refine nt' ?_
   refine Ql rfl rfl ?_
   refine sr (wa (nt' (Qj (Qg ?_))))
   exact rtb (h := Qb g43 (Qb g45 (Qc g47 (rfl))))
  refine ws (nf g45) ?_
  refine ws (nf g45) ?_
  refine ws (nf g45) ?_
  refine ws (nf g45) ?_
  iterate 25 first | refine wv (vpT (nf g45)) ?_ | refine wm ?_ | refine wk ?_ | refine wv (vpT rfl) ?_
  refine nt' ?_
  refine Ql rfl rfl ?_
  refine sr (wa (nt' (Qj (Qg ?_))))
  exact rtb (h := Qb g43 (Qc g45 (rfl)))
 refine ws (nf g43) ?_
 refine ws (nf g43) ?_
 refine ws (nf g43) ?_
 refine ws (nf g43) ?_
 refine ws (nf g43) ?_
 refine ws (nf g43) ?_
 refine ws (nf g43) ?_
 refine ws (nf g43) ?_
 refine ws (nf g43) ?_
 iterate 31 first | refine wv (vpT (nf g43)) ?_ | refine wm ?_ | refine wk ?_ | refine wv (vpT rfl) ?_
 refine nt' ?_
 refine Ql rfl rfl ?_
 refine sr (wa (nt' (Qj (Qg ?_))))
 exact rtb (h := Qc g43 (rfl))

def Qvj (x0 : Qo) (x1 : Int) : Bool :=
 cond (Qhv x0) (cond (Qbk x1 0 (IntKind.i64.wrap (((x0.Active.length : Nat) : Int) - 1))) (cond (((gt x0.Active (x1.toNat)).Cap) == 0) true (decide (((gt x0.Active (x1.toNat)).Sent) < ((gt x0.Active (x1.toNat)).Cap)))) false) false
theorem cb98 : Cb Tryz.prog 98 := ⟨f98, _, func98, rfl, by decide⟩
theorem Qbav (w : World) (z0 : List Value) (x0 : Qo) (x1 : Int) (r_0 : Qcb.rd w w.heap.size z0 x0) (s_0 : Qen 68719476736 x0) :
  Calls Tryz.prog 98 #[.agg z0.toArray, iV x1] w (rB w (Qvj x0 x1)) := by
 obtain ⟨v1, v3, v5, v7, v9, rfl, r2, r4, r6, r8, r10⟩ := Qia r_0
 obtain ⟨m11, A12, c13, rfl, q14, r15⟩ := Qi r2
 obtain ⟨m16, A17, c18, rfl, q19, r20⟩ := Qi r4
 obtain ⟨m21, A22, c23, rfl, q24, r25⟩ := Qi r6
 obtain ⟨m26, A27, c28, rfl, q29, r30⟩ := Qi r8
 obtain ⟨m31, A32, c33, rfl, q34, r35⟩ := Qi r10
 have l36 : x0.Store.Segments.length ≤ 68719476736 := s_0.1.1
 have l37 := s_0.2.1
 have l38 := s_0.2.2.1.1
 have l39 := s_0.2.2.2.1.1
 have l40 := s_0.2.2.2.2.1
 refine ce2 (L := [(0, .agg #[.slice A12 x0.Store.Segments.length c13, iV x0.Store.Now, iV x0.Cursor, .slice A17 x0.Order.length c18, .slice A22 x0.Active.length c23, .slice A27 x0.Done.length c28, .slice A32 x0.Ledger.length c33, iV x0.Steps]), (1, iV x1)]) (N := 33) func98 ?_
 refine sr ?_
 refine Qbn rfl (Qk rfl) (by decide) (fun p41 => ?_)
 refine wa (nt' (Qe (sr ?_)))
 refine wv (fun W hm => Qad (cs := [.slice A12 x0.Store.Segments.length c13, iV x0.Store.Now, iV x0.Cursor, .slice A17 x0.Order.length c18, .slice A22 x0.Active.length c23, .slice A27 x0.Done.length c28, .slice A32 x0.Ledger.length c33, iV x0.Steps]) Qz Qbd rfl rfl (hm.boxCells (n := 0) rfl)) ?_
 refine wcv (Qr Qtu rfl) (fun W hm => Qvl W _ x0 (Qep (x := x0) (hm.rdS0 r15) (hm.rdS0 r20) (hm.rdS0 r25) (hm.rdS0 r30) (hm.rdS0 r35)) s_0) ?_
 refine wv Qbr ?_
 refine wm ?_
 rcases bd (Qhv x0) with g43 | g43
 ·
  refine wg vmv (nt g43) ?_
  refine wg (vf Qz rfl Qcw) (nt g43) ?_
  refine wg (vl 0 4 Qax) (nt g43) ?_
  refine wg (Qag Qax) (nt g43) ?_
  refine wg (fun W hm => Qik rfl rfl) (nt g43) ?_
  refine Qcr (Qr Qeh rfl) (fun W hm => Qej W x1 0 (IntKind.i64.wrap (((x0.Active.length : Nat) : Int) - 1))) (Qcc rfl rfl rfl (bw (nt g43) rfl)) (by decide) ?_
  refine wg Qbr (nt g43) ?_
  refine wv (vpF (nt g43)) ?_
  refine nt' ?_
  rcases bd (Qbk x1 0 (IntKind.i64.wrap (((x0.Active.length : Nat) : Int) - 1))) with g45 | g45
  ·
   have hw := Qeo g45
   rw [Qwm (by omega)] at hw
   refine Qm rfl (nt g45) ?_
   refine Qp (Qd (sr ?_))
   refine wv (vf Qz rfl Qcw) ?_
   refine wv (vl 0 4 Qax) ?_
   refine wm ?_
   obtain ⟨a46, rfl, hb47, he48⟩ := q24 (by omega)
   refine wv (fun W hm => Qgl (sz := 10) (k := x1) Qax Qbe rfl rfl rfl (by omega) (by omega)) ?_
   obtain ⟨_, e58, hc49⟩ := he48 (x1.toNat) _ (Qbs (show (x1.toNat) < x0.Active.length from by omega))
   obtain ⟨v50, v52, v54, v56, rfl, r51, r53, r55, r57⟩ := Qgp e58
   have l59 := (s_0.2.2.1.2 _ (Qak (show (x1.toNat) < x0.Active.length from by omega))).1.1
   have l60 := (s_0.2.2.1.2 _ (Qak (show (x1.toNat) < x0.Active.length from by omega))).1.2
   have l61 := (s_0.2.2.1.2 _ (Qak (show (x1.toNat) < x0.Active.length from by omega))).2.1
   have l62 := (s_0.2.2.1.2 _ (Qak (show (x1.toNat) < x0.Active.length from by omega))).2.2.1
   obtain ⟨m63, A64, c65, rfl, q66, r67⟩ := Qi r51
   obtain ⟨m68, A69, c70, rfl, q71, r72⟩ := Qi r53
   obtain ⟨m73, A74, c75, rfl, q76, r77⟩ := Qi r55
   obtain ⟨m78, A79, c80, rfl, q81, r82⟩ := Qi r57
   let K1 : List Value := [iV ((gt x0.Active (x1.toNat)).Query.Id), iV ((gt x0.Active (x1.toNat)).Query.Tenant), .slice A64 ((gt x0.Active (x1.toNat)).Query.Conds).length c65, .slice A69 ((gt x0.Active (x1.toNat)).Query.Out).length c70, iV ((gt x0.Active (x1.toNat)).Time), .slice A74 ((gt x0.Active (x1.toNat)).Todo).length c75, iV ((gt x0.Active (x1.toNat)).Age), iV ((gt x0.Active (x1.toNat)).Sent), iV ((gt x0.Active (x1.toNat)).Cap), .slice A79 ((gt x0.Active (x1.toNat)).Rows).length c80]
   refine wv (fun W hm => Qad (cs := K1) Qaj Qbe rfl rfl (hm.elCells (show (a46.add ((x1.toNat) * 10)).block < w.heap.size from by rw [Qae]; exact hb47.1) hc49)) ?_
   refine Qbm Qbe rfl (Qk rfl) (by decide) (fun p83 => ?_)
   refine sb 0 K1 [Qh p41 39 [.slice A12 x0.Store.Segments.length c13, iV x0.Store.Now, iV x0.Cursor, .slice A17 x0.Order.length c18, .slice (some a46) x0.Active.length c23, .slice A27 x0.Done.length c28, .slice A32 x0.Ledger.length c33, iV x0.Steps]] idM Qbe ?_
   refine nt' (sr ?_)
   refine wv (vf Qaj rfl Qf) ?_
   refine wv (vl 0 8 Qs) ?_
   refine wv (fun W hm => Qfe rfl rfl) ?_
   refine wm ?_
   rcases dce ((gt x0.Active (x1.toNat)).Cap) 0 with ⟨h84, g85⟩ | ⟨h84, g85⟩
   ·
    iterate 6 first | refine ws g85 ?_ | refine wv (vpT g85) ?_
    refine wa (nt' (Qj ?_))
    exact rtb (h := Qb g43 (Qb g45 (Qb g85 (rfl))))
   refine wg (vf Qaj rfl Qf) g85 ?_
   refine wg (vl 0 7 Qs) g85 ?_
   refine wg (vf Qaj rfl Qf) g85 ?_
   refine wg (vl 0 8 Qs) g85 ?_
   refine wg Qai g85 ?_
   refine wv (vpF g85) ?_
   refine wa (nt' (Qj ?_))
   exact rtb (h := Qb g43 (Qb g45 (Qc g85 (rfl))))
  refine Ql rfl (nf g45) ?_
  refine sr (wa (nt' (Qj (Qg ?_))))
  exact rtb (h := Qb g43 (Qc g45 (rfl)))
 refine ws (nf g43) ?_
 refine ws (nf g43) ?_
 refine ws (nf g43) ?_
 refine ws (nf g43) ?_
 refine ws (nf g43) ?_
 refine ws (nf g43) ?_
 refine ws (nf g43) ?_
 refine wv (vpT (nf g43)) ?_
 refine nt' ?_
 refine Ql rfl rfl ?_
 refine sr (wa (nt' (Qj (Qg ?_))))
 exact rtb (h := Qc g43 (rfl))

def Qvn (x0 : Qo) (k44 : Nat) (d45 : (List Int)) : (List Int) ⊕ (((List Int)) ⊕ ((List Int))) :=
 cond (Qhv x0) (cond (Qvj x0 ((k44 : Nat) : Int)) (cond (Qfd ((gt x0.Active k44).Todo) x0.Cursor) (Sum.inr (Sum.inr (d45 ++ [(gt x0.Active k44).Query.Id]))) (Sum.inr (Sum.inr d45))) (Sum.inr (Sum.inr d45))) (Sum.inr (Sum.inl d45))
def Qba (x0 : Qo) : (List Int) :=
 Sum.elim id (fun (s : (List Int)) => s) (Qdo (R := (List Int)) (fun k (s : (List Int)) => Qvn x0 k s) (x0.Active.length - 0) 0 [])
theorem cb25 : Cb Tryz.prog 25 := ⟨f25, _, func25, rfl, by decide⟩
theorem Qbbb (w : World) (z0 : List Value) (x0 : Qo) (r_0 : Qcb.rd w w.heap.size z0 x0) (s_0 : Qen 68719476736 x0) :
  Calls Tryz.prog 25 #[.agg z0.toArray] w (rL w (tSl Qa 3) (Qba x0)) := by
 obtain ⟨v1, v3, v5, v7, v9, rfl, r2, r4, r6, r8, r10⟩ := Qia r_0
 obtain ⟨m11, A12, c13, rfl, q14, r15⟩ := Qi r2
 obtain ⟨m16, A17, c18, rfl, q19, r20⟩ := Qi r4
 obtain ⟨m21, A22, c23, rfl, q24, r25⟩ := Qi r6
 obtain ⟨m26, A27, c28, rfl, q29, r30⟩ := Qi r8
 obtain ⟨m31, A32, c33, rfl, q34, r35⟩ := Qi r10
 have l36 : x0.Store.Segments.length ≤ 68719476736 := s_0.1.1
 have l37 := s_0.2.1
 have l38 := s_0.2.2.1.1
 have l39 := s_0.2.2.2.1.1
 have l40 := s_0.2.2.2.2.1
 refine ce1 (L := [(0, .agg #[.slice A12 x0.Store.Segments.length c13, iV x0.Store.Now, iV x0.Cursor, .slice A17 x0.Order.length c18, .slice A22 x0.Active.length c23, .slice A27 x0.Done.length c28, .slice A32 x0.Ledger.length c33, iV x0.Steps])]) (N := 42) func25 ?_
 refine sr ?_
 refine Qbn rfl (Qk rfl) (by decide) (fun p41 => ?_)
 refine wa (nt' (sr ?_))
 refine Qcf (E := Qa) Qq Qf (Qk rfl) (by decide) (fun p42 => ?_)
 refine wa (nt' (Qe (sr (wa (nt' ?_)))))
 let F1 := fun k (s : (List Int)) => Qvn x0 k s
 let K2 : List Value := [.slice A12 x0.Store.Segments.length c13, iV x0.Store.Now, iV x0.Cursor, .slice A17 x0.Order.length c18, .slice A22 x0.Active.length c23, .slice A27 x0.Done.length c28, .slice A32 x0.Ledger.length c33, iV x0.Steps]
 refine Qlj (σ := ((List Int)) × (Option Addr × Nat)) (fun s => [(3, .slice s.2.1 s.1.length s.2.2)]) (fun s => [iS Qa 3 s.2.1 s.2.2 s.1, Qh p41 39 K2]) (fun s => Qdo (R := (List Int)) F1 (x0.Active.length - 0) 0 [] = Sum.inr s.1) ?_ ?_
 ·
  refine Qx ?_
  refine Qth (S := (List Int)) (R := Option Addr × Nat) F1 x0.Active.length 0 [] ((sA p42), 0) (fun s => [(1, bp p41), (3, .slice s.2.2.1 s.2.1.length s.2.2.2), (4, nI s.1)]) (fun s => [iS Qa 3 s.2.2.1 s.2.2.2 s.2.1, Qh p41 39 K2]) (fun s => s.2.1.length ≤ 0 + s.1) sl3 (Nat.le_refl _) ?_
  rintro ⟨k44, d45, ⟨A46, c47⟩⟩ H50 _ _ e e'
  dsimp only at H50 ⊢
  subst e e'
  obtain ⟨hk48, hF49, hi51⟩ := H50
  refine Qe (sr (wm ?_))
  refine wv (vf Qz rfl Qcw) ?_
  refine wv (vl 1 4 Qax) ?_
  refine wv (Qag Qax) ?_
  refine wv Qai ?_
  refine wm ?_
  rcases dcl k44 x0.Active.length with ⟨hl52, g53⟩ | ⟨hl52, g53⟩
  ·
   refine wg (fun W hm => Qad (cs := K2) Qz Qbd rfl rfl (hm.boxCells (n := 1) rfl)) g53 ?_
   refine Qcr (Qr Qtu rfl) (fun W hm => Qvl W _ x0 (Qep (x := x0) (hm.rdS0 r15) (hm.rdS0 r20) (hm.rdS0 r25) (hm.rdS0 r30) (hm.rdS0 r35)) s_0) (Qcc rfl rfl rfl (bw g53 rfl)) (by decide) ?_
   refine wv (vpT g53) ?_
   refine nt' ?_
   rcases bd (Qhv x0) with g55 | g55
   ·
    refine Ql rfl g55 ?_
    refine Qp (Qd (Qe (Qx (Qe ?_))))
    refine Qfa (by kernel_rfl) (by kernel_rfl) ?_
    refine qv (fun W hm => Qad (cs := K2) Qz Qbd rfl rfl (hm.boxCells (n := 1) rfl)) ?_
    refine qm ?_
    refine Qev (Qr cb98 rfl) (fun W hm => Qbav W _ x0 ((k44 : Nat) : Int) (Qep (x := x0) (hm.rdS0 r15) (hm.rdS0 r20) (hm.rdS0 r25) (hm.rdS0 r30) (hm.rdS0 r35)) s_0) (Qk rfl) (by decide) ?_
    refine qm ?_
    rcases bd (Qvj x0 ((k44 : Nat) : Int)) with g57 | g57
    ·
     refine qg (vf Qz rfl Qcw) g57 ?_
     refine qg (vl 1 4 Qax) g57 ?_
     refine qg vmv g57 ?_
     obtain ⟨a58, rfl, hb59, he60⟩ := q24 (by omega)
     refine qg (vix 10 k44 Qax Qbe) g57 ?_
     refine qg (vf Qaj rfl Qao) g57 ?_
     obtain ⟨_, e70, hc61⟩ := he60 k44 _ (Qbs (show k44 < x0.Active.length from by omega))
     obtain ⟨v62, v64, v66, v68, rfl, r63, r65, r67, r69⟩ := Qgp e70
     have l71 := (s_0.2.2.1.2 _ (Qak (show k44 < x0.Active.length from by omega))).1.1
     have l72 := (s_0.2.2.1.2 _ (Qak (show k44 < x0.Active.length from by omega))).1.2
     have l73 := (s_0.2.2.1.2 _ (Qak (show k44 < x0.Active.length from by omega))).2.1
     have l74 := (s_0.2.2.1.2 _ (Qak (show k44 < x0.Active.length from by omega))).2.2.1
     obtain ⟨m75, A76, c77, rfl, q78, r79⟩ := Qi r63
     obtain ⟨m80, A81, c82, rfl, q83, r84⟩ := Qi r65
     obtain ⟨m85, A86, c87, rfl, q88, r89⟩ := Qi r67
     obtain ⟨m90, A91, c92, rfl, q93, r94⟩ := Qi r69
     refine qg (fun W hm => Qaw Qq rfl rfl ((hm.cell0 (show ((a58.add (k44 * 10)).add 5).block < w.heap.size from by rw [Qae, Qae]; exact hb59.1)).trans (hc61 5 _ rfl))) g57 ?_
     refine qg (vf Qz rfl Qf) g57 ?_
     refine qg (vl 1 2 Qs) g57 ?_
     refine Qev (Qr Qtv rfl) (fun W hm => Qvi W _ ((gt x0.Active k44).Todo) x0.Cursor (hm.rdS0 r89)) (Qcc rfl rfl rfl (bw g57 rfl)) (by decide) ?_
     refine qv (vpT g57) ?_
     refine nq' ?_
     rcases bd (Qfd ((gt x0.Active k44).Todo) x0.Cursor) with g96 | g96
     ·
      refine Ql rfl g96 ?_
      refine Qy (wm ?_)
      refine wv (vf Qz rfl Qcw) ?_
      refine wv (vl 1 4 Qax) ?_
      refine wm ?_
      refine wv (vix 10 k44 Qax Qbe) ?_
      refine wv (vf Qaj rfl Qbj) ?_
      refine wv (fun W hm => Qeb (o := 0) Qbq rfl Qf (by decide) rfl rfl) ?_
      refine wv (fun W hm => Qaw Qs rfl rfl ((hm.cell0 (show ((a58.add (k44 * 10)).add 0).block < w.heap.size from by rw [Qae, Qae]; exact hb59.1)).trans (hc61 0 _ rfl))) ?_
      refine Qde (cs := [iV ((gt x0.Active k44).Query.Id)]) Qq Qf rfl (by decide) (by decide) rfl (by kernel_rfl) (Qk rfl) (by decide) (fun p97 => ?_)
      refine ap1 Qa 3 (.slice A46 d45.length c47) d45 ((gt x0.Active k44).Query.Id) [] [Qh p41 39 [.slice A12 x0.Store.Segments.length c13, iV x0.Store.Now, iV x0.Cursor, .slice A17 x0.Order.length c18, .slice (some a58) x0.Active.length c23, .slice A27 x0.Done.length c28, .slice A32 x0.Ledger.length c33, iV x0.Steps]] [iV ((gt x0.Active k44).Query.Id)] idM (fun _ _ hs => by cases (Sep.nil hs); exact (Qhq Qck Qhr)) Qq Qf (show (d45.length + 1) * 8 ≤ 140737488355328 from by omega) (fun v98 => ?_)
      refine fm 0 ?_
      rintro A99 c100 rfl m101
      refine wa (Qac (Qam (Qd (Qy (wm ?_)))))
      refine wv (Qal k44 1 (by omega)) ?_
      refine wa (Qac ?_)
      exact Qan (k44 + 1, (d45 ++ [(gt x0.Active k44).Query.Id]), (A99, c100)) sl3 idM ⟨(by omega), nxb hF49 (Qb g55 (Qb g57 (Qb g96 (rfl)))), (show (d45 ++ [(gt x0.Active k44).Query.Id]).length ≤ 0 + (k44 + 1) from by first | omega | (simp only [List.length_append, List.length_cons, List.length_nil] at *; omega))⟩ rl
     refine Qm rfl g96 ?_
     refine Qp (Qam (Qd (Qy (wm ?_))))
     refine wv (Qal k44 1 (by omega)) ?_
     refine wa (Qac ?_)
     exact Qan (k44 + 1, d45, (A46, c47)) sl3 idM ⟨(by omega), nxb hF49 (Qb g55 (Qb g57 (Qc g96 (rfl)))), (show d45.length ≤ 0 + (k44 + 1) from by first | omega | (simp only [List.length_append, List.length_cons, List.length_nil] at *; omega))⟩ rl
    refine qs g57 ?_
    refine qs g57 ?_
    refine qs g57 ?_
    refine qs g57 ?_
    refine qs g57 ?_
    refine qs g57 ?_
    refine qs g57 ?_
    refine qs g57 ?_
    refine qs g57 ?_
    refine qv (vpF g57) ?_
    refine nq' ?_
    refine Qm rfl rfl ?_
    refine Qp (Qam (Qd (Qy (wm ?_))))
    refine wv (Qal k44 1 (by omega)) ?_
    refine wa (Qac ?_)
    exact Qan (k44 + 1, d45, (A46, c47)) sl3 idM ⟨(by omega), nxb hF49 (Qb g55 (Qc g57 (rfl))), (show d45.length ≤ 0 + (k44 + 1) from by first | omega | (simp only [List.length_append, List.length_cons, List.length_nil] at *; omega))⟩ rl
   refine Qm rfl g55 ?_
   refine Qay (Qu (Qu (Qaz ?_)))
   exact Qfh (d45, (A46, c47)) (Qbu rfl Qgo) idM (nbb hF49 (Qc g55 (rfl)))
  refine ws g53 ?_
  refine ws g53 ?_
  refine wv (vpF g53) ?_
  refine nt' ?_
  refine Qm rfl rfl ?_
  refine Qay (Qu (Qu (Qaz ?_)))
  have hE107 := Qva hl52 hF49
  exact Qfh (d45, (A46, c47)) (Qbu rfl Qgo) idM hE107
 rintro ⟨d45, ⟨A46, c47⟩⟩ H109
 dsimp only at H109
 show QM 42 _ _ _ .normal [(3, .slice A46 d45.length c47)] [iS Qa 3 A46 c47 d45, Qh p41 39 K2]
 refine Qd (sr (wm (wa (nt' (Qj ?_)))))
 have he110 := (show Qba x0 = d45 from Qar H109 (rfl))
 refine Qcu rfl (Qdl rfl) (fun W hm => ⟨.slice A46 d45.length c47, ?_, ?_⟩)
 ·first | rw [he110] | rfl
 rw [he110]; exact (hm.pick [0] (by decide))

def Qgj (x0 : Qo) (x1 : Int) (k7 : Nat) : Int ⊕ (Unit) :=
 cond (((gt x0.Active k7).Query.Id) == x1) (Sum.inl ((k7 : Nat) : Int)) (Sum.inr ())
def Qdh (x0 : Qo) (x1 : Int) : Int :=
 Sum.elim id (fun (s : Unit) => (-1)) (rng (R := Int) (fun k (_ : Unit) => Qgj x0 x1 k) (x0.Active.length - 0) 0 ())
theorem cb28 : Cb Tryz.prog 28 := ⟨f28, _, func28, rfl, by decide⟩
theorem Qahy (w : World) (a0_0 a0_1 a0_2 a0_3 a0_4 a0_5 a0_6 a0_7 : Value) (x0 : Qo) (x1 : Int) (r_0_4 : rdS Qah w w.heap.size a0_4 x0.Active) :
  Calls Tryz.prog 28 #[.agg #[a0_0, a0_1, a0_2, a0_3, a0_4, a0_5, a0_6, a0_7], iV x1] w (rI w (Qdh x0 x1)) := by
 obtain ⟨m1, A2, c3, rfl, q4, r5⟩ := Qi r_0_4
 refine ce2 (L := [(0, .agg #[a0_0, a0_1, a0_2, a0_3, .slice A2 x0.Active.length c3, a0_5, a0_6, a0_7]), (1, iV x1)]) (N := 23) func28 ?_
 refine sr ?_
 refine Qbn rfl (Qk rfl) (by decide) (fun p6 => ?_)
 refine wa (nt' (Qe (sr (wa (nt' (Qx ?_))))))
 refine Qbg (S := Unit) (R := Unit) (fun k (_ : Unit) => Qgj x0 x1 k) x0.Active.length 0 () () (fun s => [(1, iV x1), (2, bp p6), (5, nI s.1)]) (fun s => [Qh p6 39 [a0_0, a0_1, a0_2, a0_3, .slice A2 x0.Active.length c3, a0_5, a0_6, a0_7]]) (fun s => True) sl3 trivial ?_
 rintro ⟨k7, ⟨⟩, ⟨⟩⟩ H10 _ _ e e'
 dsimp only at H10 ⊢
 subst e e'
 obtain ⟨hk8, hF9, _⟩ := H10
 refine Qe (sr (wm ?_))
 refine wv (vf Qz rfl Qcw) ?_
 refine wv (vl 0 4 Qax) ?_
 refine wv (Qag Qax) ?_
 refine wv Qai ?_
 refine nt' ?_
 rcases dcl k7 x0.Active.length with ⟨hl11, g12⟩ | ⟨hl11, g12⟩
 ·
  refine Ql rfl g12 ?_
  refine Qp (Qd (Qe (Qx (sr ?_))))
  refine wv (vf Qz rfl Qcw) ?_
  refine wv (vl 0 4 Qax) ?_
  refine wm ?_
  obtain ⟨a13, rfl, hb14, he15⟩ := q4 (by omega)
  refine wv (vix 10 k7 Qax Qbe) ?_
  refine wv (vf Qaj rfl Qbj) ?_
  refine wv (fun W hm => Qeb (o := 0) Qbq rfl Qf (by decide) rfl rfl) ?_
  obtain ⟨_, e25, hc16⟩ := he15 k7 _ (Qbs (show k7 < x0.Active.length from by omega))
  obtain ⟨v17, v19, v21, v23, rfl, r18, r20, r22, r24⟩ := Qgp e25
  obtain ⟨m26, A27, c28, rfl, q29, r30⟩ := Qi r18
  obtain ⟨m31, A32, c33, rfl, q34, r35⟩ := Qi r20
  obtain ⟨m36, A37, c38, rfl, q39, r40⟩ := Qi r22
  obtain ⟨m41, A42, c43, rfl, q44, r45⟩ := Qi r24
  refine wv (fun W hm => Qaw Qs rfl rfl ((hm.cell0 (show ((a13.add (k7 * 10)).add 0).block < w.heap.size from by rw [Qae, Qae]; exact hb14.1)).trans (hc16 0 _ rfl))) ?_
  refine wm ?_
  refine wv (fun W hm => Qfe rfl rfl) ?_
  refine nt' ?_
  rcases dce ((gt x0.Active k7).Query.Id) x1 with ⟨h46, g47⟩ | ⟨h46, g47⟩
  ·
   refine Ql rfl g47 ?_
   refine sr (wm (wa (nt' (Qj (Qaa (Qg (Qg (Qaa (Qg ?_)))))))))
   exact rti (h := Qbf (nr hF9 (Qb g47 (rfl))) rfl)
  refine Qm rfl g47 ?_
  refine Qp (Qam (Qd (Qy (wm ?_))))
  refine wv (Qal k7 1 (by omega)) ?_
  refine wa (Qac ?_)
  exact Qan (k7 + 1, (), ()) sl3 idM ⟨(by omega), nx hF9 (Qc g47 (rfl)), trivial⟩ rl
 refine Qm rfl g12 ?_
 refine Qay (Qu (Qu ?_))
 have hE49 := Qbh hl11 hF9
 refine Qaz (Qd (sr (wa (nt' (Qj ?_)))))
 exact rti (h := Qar hE49 (rfl))

def Qaaq (x0 : (List Qat)) (k6 : Nat) : Bool ⊕ (Unit) :=
 cond (Qff (gt x0 k6)) (cond (decide (0 < ((k6 : Nat) : Int))) (cond (decide (((gt x0 k6).Id) ≤ ((gt x0 (k6 - 1)).Id))) (Sum.inl false) (Sum.inr ())) (Sum.inr ())) (Sum.inl false)
def Qgi (x0 : (List Qat)) : Bool :=
 Sum.elim id (fun (s : Unit) => (decide (((x0.length : Nat) : Int) ≤ 24))) (rng (R := Bool) (fun k (_ : Unit) => Qaaq x0 k) (x0.length - 0) 0 ())
theorem Qxq : Cb Tryz.prog 211 := ⟨f211, _, func211, rfl, by decide⟩
theorem Qaar (w : World) (z0 : Value) (x0 : (List Qat)) (r_0 : rdS Qcm w w.heap.size z0 x0) :
  Calls Tryz.prog 211 #[z0] w (rB w (Qgi x0)) := by
 obtain ⟨m1, A2, c3, rfl, q4, r5⟩ := Qi r_0
 refine ce1 (L := [(0, .slice A2 x0.length c3)]) (N := 37) func211 ?_
 refine sr (wa (nt' (Qe (sr (wa (nt' (Qx ?_)))))))
 refine Qbg (S := Unit) (R := Unit) (fun k (_ : Unit) => Qaaq x0 k) x0.length 0 () () (fun s => [(0, .slice A2 x0.length c3), (3, nI s.1)]) (fun s => []) (fun s => True) sl2 trivial ?_
 rintro ⟨k6, ⟨⟩, ⟨⟩⟩ H9 _ _ e e'
 dsimp only at H9 ⊢
 subst e e'
 obtain ⟨hk7, hF8, _⟩ := H9
 refine Qe (sr (wm (wm ?_)))
 refine wv (Qag Qhp) ?_
 refine wv Qai ?_
 refine nt' ?_
 rcases dcl k6 x0.length with ⟨hl10, g11⟩ | ⟨hl10, g11⟩
 ·
  refine Ql rfl g11 ?_
  refine Qp (Qd (Qe (Qx (Qe ?_))))
  refine Qfa (by kernel_rfl) (by kernel_rfl) ?_
  refine qm (qm ?_)
  obtain ⟨a12, rfl, hb13, he14⟩ := q4 (by omega)
  refine qv (vix 4 k6 Qhp Qbj) ?_
  obtain ⟨_, e20, hc15⟩ := he14 k6 _ (Qbs (show k6 < x0.length from by omega))
  obtain ⟨v16, v18, rfl, r17, r19⟩ := Qiv e20
  obtain ⟨m21, A22, c23, rfl, q24, r25⟩ := Qi r17
  obtain ⟨m26, A27, c28, rfl, q29, r30⟩ := Qi r19
  refine qv (fun W hm => Qad (cs := [iV ((gt x0 k6).Id), iV ((gt x0 k6).Tenant), .slice A22 ((gt x0 k6).Conds).length c23, .slice A27 ((gt x0 k6).Out).length c28]) Qbq Qbj rfl rfl (hm.elCells (show (a12.add (k6 * 4)).block < w.heap.size from by rw [Qae]; exact hb13.1) hc15)) ?_
  refine Qev (Qr Qxk rfl) (fun W hm => Qaas W _ (gt x0 k6) (Qhg (x := (gt x0 k6)) (hm.rdS0 r25) (hm.rdS0 r30))) (Qk rfl) (by decide) ?_
  refine qv Qbr ?_
  refine qm ?_
  rcases bd (Qff (gt x0 k6)) with g32 | g32
  ·
   refine qg vmv (nt g32) ?_
   refine qg (fun W hm => Qem rfl rfl) (nt g32) ?_
   refine qg vmv (nt g32) ?_
   rcases dcd (0 < ((k6 : Nat) : Int)) with ⟨h33, g34⟩ | ⟨h33, g34⟩
   ·
    refine qg vmv g34 ?_
    refine qg vmv g34 ?_
    refine qg (vix 4 k6 Qhp Qbj) g34 ?_
    refine qg (vf Qbq rfl Qf) g34 ?_
    refine qg (fun W hm => Qaw Qs rfl rfl ((hm.cell0 (show ((a12.add (k6 * 4)).add 0).block < w.heap.size from by rw [Qae, Qae]; exact hb13.1)).trans (hc15 0 _ rfl))) g34 ?_
    refine qg vmv g34 ?_
    refine qg vmv g34 ?_
    refine qg (fun W hm => Qkz (p := k6) (q := 1) rfl rfl (by omega) (by omega)) g34 ?_
    refine qg (fun W hm => Qje (sz := 4) (k := k6 - 1) Qhp Qbj rfl rfl rfl (by omega)) g34 ?_
    refine qg (vf Qbq rfl Qf) g34 ?_
    obtain ⟨_, e40, hc35⟩ := he14 (k6 - 1) _ (Qbs (show (k6 - 1) < x0.length from by omega))
    obtain ⟨v36, v38, rfl, r37, r39⟩ := Qiv e40
    obtain ⟨m41, A42, c43, rfl, q44, r45⟩ := Qi r37
    obtain ⟨m46, A47, c48, rfl, q49, r50⟩ := Qi r39
    refine qg (fun W hm => Qaw Qs rfl rfl ((hm.cell0 (show ((a12.add ((k6 - 1) * 4)).add 0).block < w.heap.size from by rw [Qae, Qae]; exact hb13.1)).trans (hc35 0 _ rfl))) g34 ?_
    refine qg (fun W hm => Qgw rfl rfl) g34 ?_
    refine qg (vpT g34) (nt g32) ?_
    refine qv (vpF (nt g32)) ?_
    refine nq' ?_
    rcases dcd (((gt x0 k6).Id) ≤ ((gt x0 (k6 - 1)).Id)) with ⟨h51, g52⟩ | ⟨h51, g52⟩
    ·
     refine Ql rfl g52 ?_
     refine sr (wa (nt' (Qj (Qaa (Qg (Qg (Qaa (Qg ?_))))))))
     exact rtb (h := Qbf (nr hF8 (Qb g32 (Qb g34 (Qb g52 (rfl))))) rfl)
    refine Qm rfl g52 ?_
    refine Qp (Qam (Qd (Qy (wm ?_))))
    refine wv (Qal k6 1 (by omega)) ?_
    refine wa (Qac ?_)
    exact Qan (k6 + 1, (), ()) sl2 idM ⟨(by omega), nx hF8 (Qb g32 (Qb g34 (Qc g52 (rfl)))), trivial⟩ rl
   refine qs g34 ?_
   refine qs g34 ?_
   refine qs g34 ?_
   refine qs g34 ?_
   refine qs g34 ?_
   refine qs g34 ?_
   refine qs g34 ?_
   refine qs g34 ?_
   refine qs g34 ?_
   refine qs g34 ?_
   refine qs g34 ?_
   refine qs g34 ?_
   refine qg (vpF g34) (nt g32) ?_
   refine qv (vpF (nt g32)) ?_
   refine nq' ?_
   refine Qm rfl rfl ?_
   refine Qp (Qam (Qd (Qy (wm ?_))))
   refine wv (Qal k6 1 (by omega)) ?_
   refine wa (Qac ?_)
   exact Qan (k6 + 1, (), ()) sl2 idM ⟨(by omega), nx hF8 (Qb g32 (Qc g34 (rfl))), trivial⟩ rl
  refine qs (nf g32) ?_
  refine qs (nf g32) ?_
  refine qs (nf g32) ?_
  refine qu ?_
  refine qu ?_
  refine qu ?_
  refine qu ?_
  refine qu ?_
  refine qu ?_
  refine qu ?_
  refine qu ?_
  refine qu ?_
  refine qu ?_
  refine qu ?_
  refine qu ?_
  refine qs (nf g32) ?_
  refine qv (vpT (nf g32)) ?_
  refine nq' ?_
  refine Ql rfl rfl ?_
  refine sr (wa (nt' (Qj (Qaa (Qg (Qg (Qaa (Qg ?_))))))))
  exact rtb (h := Qbf (nr hF8 (Qc g32 (rfl))) rfl)
 refine Qm rfl g11 ?_
 refine Qay (Qu (Qu ?_))
 have hE55 := Qbh hl10 hF8
 refine Qaz (Qd (sr (wm ?_)))
 refine wv (Qag Qhp) ?_
 refine wv (fun W hm => Qgw rfl rfl) ?_
 refine wa (nt' (Qj ?_))
 exact rtb (h := Qar hE55 (rfl))

def Qabf (x0 : (List Qat)) (k9 : Nat) (d10 : (List Qat)) : (List Qat) ⊕ ((List Qat)) :=
 Sum.inr (d10 ++ [(gt x0 k9)])
def Qvu (x0 : (List Qat)) : (List Qat) :=
 Sum.elim id (fun (s : (List Qat)) => s) (rng (R := (List Qat)) (fun k (s : (List Qat)) => Qabf x0 k s) (x0.length - 0) 0 [])
theorem Qape : Cb Tryz.prog 212 := ⟨f212, _, func212, rfl, by decide⟩
theorem Qbbw (w : World) (z0 : Value) (x0 : (List Qat)) (r_0 : rdS Qcm w w.heap.size z0 x0) (s_0 : (x0.length ≤ 68719476736 ∧ ∀ y ∈ x0, Qfy 68719476736 y)) :
  Calls Tryz.prog 212 #[z0] w (rL w (tSl Qcm 58) (Qvu x0)) := by
 obtain ⟨m1, A2, c3, rfl, q4, r5⟩ := Qi r_0
 have l6 : x0.length ≤ 68719476736 := s_0.1
 refine ce1 (L := [(0, .slice A2 x0.length c3)]) (N := 23) func212 ?_
 refine sr (wa (nt' (sr ?_)))
 refine Qcf (E := Qcm) Qhp Qbj (Qk rfl) (by decide) (fun p7 => ?_)
 refine wa (nt' (Qe (sr (wa (nt' (Qx ?_))))))
 refine Qbg (S := (List Qat)) (R := Option Addr × Nat) (fun k (s : (List Qat)) => Qabf x0 k s) x0.length 0 [] ((sA p7), 0) (fun s => [(0, .slice A2 x0.length c3), (3, .slice s.2.2.1 s.2.1.length s.2.2.2), (4, nI s.1)]) (fun s => [iS Qcm 58 s.2.2.1 s.2.2.2 s.2.1]) (fun s => s.2.1.length ≤ 0 + s.1) sl3 (Nat.le_refl _) ?_
 rintro ⟨k9, d10, ⟨A11, c12⟩⟩ H15 _ _ e e'
 dsimp only at H15 ⊢
 subst e e'
 obtain ⟨hk13, hF14, hi16⟩ := H15
 refine Qe (sr (wm (wm ?_)))
 refine wv (Qag Qhp) ?_
 refine wv Qai ?_
 refine nt' ?_
 rcases dcl k9 x0.length with ⟨hl17, g18⟩ | ⟨hl17, g18⟩
 ·
  refine Ql rfl g18 ?_
  refine Qp (Qd (Qe (Qx (sr (wm (wm ?_))))))
  obtain ⟨a19, rfl, hb20, he21⟩ := q4 (by omega)
  refine wv (vix 4 k9 Qhp Qbj) ?_
  obtain ⟨_, e27, hc22⟩ := he21 k9 _ (Qbs (show k9 < x0.length from by omega))
  obtain ⟨v23, v25, rfl, r24, r26⟩ := Qiv e27
  have l28 := (s_0.2 _ (Qak (show k9 < x0.length from by omega))).1
  have l29 := (s_0.2 _ (Qak (show k9 < x0.length from by omega))).2
  obtain ⟨m30, A31, c32, rfl, q33, r34⟩ := Qi r24
  obtain ⟨m35, A36, c37, rfl, q38, r39⟩ := Qi r26
  refine wv (fun W hm => Qad (cs := [iV ((gt x0 k9).Id), iV ((gt x0 k9).Tenant), .slice A31 ((gt x0 k9).Conds).length c32, .slice A36 ((gt x0 k9).Out).length c37]) Qbq Qbj rfl rfl (hm.elCells (show (a19.add (k9 * 4)).block < w.heap.size from by rw [Qae]; exact hb20.1) hc22)) ?_
  refine wcs Qcm (gt x0 k9) (Qr Qxl rfl) (fun W hm => Qabg W _ (gt x0 k9) (Qhg (x := (gt x0 k9)) (hm.rdS0 r34) (hm.rdS0 r39)) (s_0.2 _ (Qak (show k9 < x0.length from by omega)))) (fun z40 => ?_)
  refine Qpf ?_
  rintro ⟨v41, v42⟩ rfl
  refine fm 0 ?_
  rintro A43 c44 rfl m45
  refine fm 1 ?_
  rintro A47 c48 rfl m49
  refine Qbm Qbj rfl (Qk rfl) (by decide) (fun p51 => ?_)
  let K1 : List Value := [iV ((gt x0 k9).Id), iV ((gt x0 k9).Tenant), .slice A43 ((gt x0 k9).Conds).length c44, .slice A47 ((gt x0 k9).Out).length c48]
  refine sb 0 K1 [iS Qbl 180 A43 c44 ((gt x0 k9).Conds), iS Qa 3 A47 c48 ((gt x0 k9).Out), iS Qcm 58 A11 c12 d10] idM Qbj ?_
  refine nt' (Qy (wm ?_))
  refine wv (fun W hm => Qad (cs := K1) Qbq Qbj rfl rfl (hm.boxCells (n := 0) rfl)) ?_
  refine Qde (cs := K1) Qhp Qbj rfl (by decide) (by decide) rfl (by kernel_rfl) (Qk rfl) (by decide) (fun p52 => ?_)
  refine ap1 Qcm 58 (.slice A11 d10.length c12) d10 (gt x0 k9) [iS Qbl 180 A43 c44 ((gt x0 k9).Conds), iS Qa 3 A47 c48 ((gt x0 k9).Out)] [Qh p51 58 K1] K1 (pk [0, 4, 2, 3, 1]) (fun _ _ hs => Els.single (Qwk (x := (gt x0 k9)) hs)) Qhp Qbj (show (d10.length + 1) * 64 ≤ 140737488355328 from by omega) (fun v53 => ?_)
  refine fm 0 ?_
  rintro A54 c55 rfl m56
  refine wa (Qac (Qam (Qd (Qy (wm ?_)))))
  refine wv (Qal k9 1 (by omega)) ?_
  refine wa (Qac ?_)
  exact Qan (k9 + 1, (d10 ++ [(gt x0 k9)]), (A54, c55)) sl3 (pk [0]) ⟨(by omega), nx hF14 (rfl), (show (d10 ++ [(gt x0 k9)]).length ≤ 0 + (k9 + 1) from by first | omega | (simp only [List.length_append, List.length_cons, List.length_nil] at *; omega))⟩ rl
 refine Qm rfl g18 ?_
 refine Qay (Qu (Qu ?_))
 have hE59 := Qbh hl17 hF14
 refine Qaz (Qd (sr (wm (wa (nt' (Qj ?_))))))
 have he60 := (show Qvu x0 = d10 from Qar hE59 (rfl))
 refine Qcu rfl (Qdl rfl) (fun W hm => ⟨.slice A11 d10.length c12, ?_, ?_⟩)
 ·first | rw [he60] | rfl
 rw [he60]; exact hm
theorem Qbby (x0 : (List Qat)) : Qvu x0 = x0 := by
 unfold Qvu; rw [Qjc (xs := x0) (b := fun k s => Qabf x0 k s) (fun _ _ => rfl)]; rfl
theorem Qbbx (w : World) (z0 : Value) (x0 : (List Qat)) (r_0 : rdS Qcm w w.heap.size z0 x0) (s_0 : (x0.length ≤ 68719476736 ∧ ∀ y ∈ x0, Qfy 68719476736 y)) :
  Calls Tryz.prog 212 #[z0] w (rL w (tSl Qcm 58) x0) := by
 have h := Qbbw w z0 x0 r_0 s_0
 rw [Qbby] at h
 exact h

def Qabe (x0 : Qat) (x1 : Int) (x2 : Int) (k16 : Nat) : Bool ⊕ (Unit) :=
 cond (((gt x0.Conds k16).Field) == x1) (cond (Qbk x2 ((gt x0.Conds k16).Low) ((gt x0.Conds k16).High)) (Sum.inr ()) (Sum.inl false)) (Sum.inr ())
def Qjk (x0 : Qat) (x1 : Int) (x2 : Int) : Bool :=
 Sum.elim id (fun (s : Unit) => true) (rng (R := Bool) (fun k (_ : Unit) => Qabe x0 x1 x2 k) (x0.Conds.length - 0) 0 ())
theorem Qaps : Cb Tryz.prog 229 := ⟨f229, _, func229, rfl, by decide⟩
theorem Qbbr (w : World) (z0 : List Value) (x0 : Qat) (x1 : Int) (x2 : Int) (r_0 : Qcm.rd w w.heap.size z0 x0) :
  Calls Tryz.prog 229 #[.agg z0.toArray, iV x1, iV x2] w (rB w (Qjk x0 x1 x2)) := by
 obtain ⟨v1, v3, rfl, r2, r4⟩ := Qiv r_0
 obtain ⟨m5, A6, c7, rfl, q8, r9⟩ := Qi r2
 obtain ⟨m10, A11, c12, rfl, q13, r14⟩ := Qi r4
 refine ce3 (L := [(0, .agg #[iV x0.Id, iV x0.Tenant, .slice A6 x0.Conds.length c7, .slice A11 x0.Out.length c12]), (1, iV x1), (2, iV x2)]) (N := 40) func229 ?_
 refine sr ?_
 refine Qbn rfl (Qk rfl) (by decide) (fun p15 => ?_)
 refine wa (nt' (Qe (sr (wa (nt' (Qx ?_))))))
 refine Qbg (S := Unit) (R := Unit) (fun k (_ : Unit) => Qabe x0 x1 x2 k) x0.Conds.length 0 () () (fun s => [(1, iV x1), (2, iV x2), (3, bp p15), (7, nI s.1)]) (fun s => [Qh p15 58 [iV x0.Id, iV x0.Tenant, .slice A6 x0.Conds.length c7, .slice A11 x0.Out.length c12]]) (fun s => True) sl4 trivial ?_
 rintro ⟨k16, ⟨⟩, ⟨⟩⟩ H19 _ _ e e'
 dsimp only at H19 ⊢
 subst e e'
 obtain ⟨hk17, hF18, _⟩ := H19
 refine Qe (sr (wm ?_))
 refine wv (vf Qbq rfl Qfu) ?_
 refine wv (vl 0 2 Qct) ?_
 refine wv (Qag Qct) ?_
 refine wv Qai ?_
 refine nt' ?_
 rcases dcl k16 x0.Conds.length with ⟨hl20, g21⟩ | ⟨hl20, g21⟩
 ·
  refine Ql rfl g21 ?_
  refine Qp (Qd (Qe (Qx (Qe ?_))))
  refine Qfa (by kernel_rfl) (by kernel_rfl) ?_
  refine qv (vf Qbq rfl Qfu) ?_
  refine qv (vl 0 2 Qct) ?_
  refine qm ?_
  obtain ⟨a22, rfl, hb23, he24⟩ := q8 (by omega)
  refine qv (vix 3 k16 Qct Qds) ?_
  refine qv (vf Qdu rfl Qf) ?_
  obtain ⟨_, e26, hc25⟩ := he24 k16 _ (Qbs (show k16 < x0.Conds.length from by omega))
  obtain rfl := Qjo e26
  refine qv (fun W hm => Qaw Qs rfl rfl ((hm.cell0 (show ((a22.add (k16 * 3)).add 0).block < w.heap.size from by rw [Qae, Qae]; exact hb23.1)).trans (hc25 0 _ rfl))) ?_
  refine qm ?_
  refine qv (fun W hm => Qfe rfl rfl) ?_
  refine qm ?_
  rcases dce ((gt x0.Conds k16).Field) x1 with ⟨h27, g28⟩ | ⟨h27, g28⟩
  ·
   refine qg vmv g28 ?_
   refine qg (vf Qbq rfl Qfu) g28 ?_
   refine qg (vl 0 2 Qct) g28 ?_
   refine qg vmv g28 ?_
   refine qg (vix 3 k16 Qct Qds) g28 ?_
   refine qg (vf Qdu rfl Qf) g28 ?_
   refine qg (fun W hm => Qaw Qs rfl rfl ((hm.cell0 (show ((a22.add (k16 * 3)).add 1).block < w.heap.size from by rw [Qae, Qae]; exact hb23.1)).trans (hc25 1 _ rfl))) g28 ?_
   refine qg (vf Qbq rfl Qfu) g28 ?_
   refine qg (vl 0 2 Qct) g28 ?_
   refine qg vmv g28 ?_
   refine qg (vix 3 k16 Qct Qds) g28 ?_
   refine qg (vf Qdu rfl Qf) g28 ?_
   refine qg (fun W hm => Qaw Qs rfl rfl ((hm.cell0 (show ((a22.add (k16 * 3)).add 2).block < w.heap.size from by rw [Qae, Qae]; exact hb23.1)).trans (hc25 2 _ rfl))) g28 ?_
   refine Qev (Qr Qeh rfl) (fun W hm => Qej W x2 ((gt x0.Conds k16).Low) ((gt x0.Conds k16).High)) (Qcc rfl rfl rfl (bw g28 rfl)) (by decide) ?_
   refine qg Qbr g28 ?_
   refine qv (vpT g28) ?_
   refine nq' ?_
   rcases bd (Qbk x2 ((gt x0.Conds k16).Low) ((gt x0.Conds k16).High)) with g30 | g30
   ·
    have hw := Qeo g30
    refine Qm rfl (nt g30) ?_
    refine Qp (Qam (Qd (Qy (wm ?_))))
    refine wv (Qal k16 1 (by omega)) ?_
    refine wa (Qac ?_)
    exact Qan (k16 + 1, (), ()) sl4 idM ⟨(by omega), nx hF18 (Qb g28 (Qb g30 (rfl))), trivial⟩ rl
   refine Ql rfl (nf g30) ?_
   refine sr (wa (nt' (Qj (Qaa (Qg (Qg (Qaa (Qg ?_))))))))
   exact rtb (h := Qbf (nr hF18 (Qb g28 (Qc g30 (rfl)))) rfl)
  refine qs g28 ?_
  refine qs g28 ?_
  refine qs g28 ?_
  refine qs g28 ?_
  refine qs g28 ?_
  refine qs g28 ?_
  refine qs g28 ?_
  refine qs g28 ?_
  refine qs g28 ?_
  refine qs g28 ?_
  refine qs g28 ?_
  refine qs g28 ?_
  refine qs g28 ?_
  refine qs g28 ?_
  refine qs g28 ?_
  refine qv (vpF g28) ?_
  refine nq' ?_
  refine Qm rfl rfl ?_
  refine Qp (Qam (Qd (Qy (wm ?_))))
  refine wv (Qal k16 1 (by omega)) ?_
  refine wa (Qac ?_)
  exact Qan (k16 + 1, (), ()) sl4 idM ⟨(by omega), nx hF18 (Qc g28 (rfl)), trivial⟩ rl
 refine Qm rfl g21 ?_
 refine Qay (Qu (Qu ?_))
 have hE33 := Qbh hl20 hF18
 refine Qaz (Qd (sr (wa (nt' (Qj ?_)))))
 exact rtb (h := Qar hE33 (rfl))

def Qoz (x0 : (List Qat)) (x1 : Int) (x2 : Int) (k9 : Nat) (d10 : (List Int)) : (List Int) ⊕ (((List Int)) ⊕ ((List Int))) :=
 cond (Qgi x0) (cond (Qbk x1 0 2) (cond (Qbk x2 0 99) (cond (Qjk (gt x0 k9) x1 x2) (Sum.inr (Sum.inr (d10 ++ [(gt x0 k9).Id]))) (Sum.inr (Sum.inr d10))) (Sum.inr (Sum.inl d10))) (Sum.inr (Sum.inl d10))) (Sum.inr (Sum.inl d10))
def Qeg (x0 : (List Qat)) (x1 : Int) (x2 : Int) : (List Int) :=
 Sum.elim id (fun (s : (List Int)) => s) (Qdo (R := (List Int)) (fun k (s : (List Int)) => Qoz x0 x1 x2 k s) (x0.length - 0) 0 [])
theorem Qapp : Cb Tryz.prog 225 := ⟨f225, _, func225, rfl, by decide⟩
theorem Qbbf (w : World) (z0 : Value) (x0 : (List Qat)) (x1 : Int) (x2 : Int) (r_0 : rdS Qcm w w.heap.size z0 x0) (s_0 : (x0.length ≤ 68719476736 ∧ ∀ y ∈ x0, Qfy 68719476736 y)) :
  Calls Tryz.prog 225 #[z0, iV x1, iV x2] w (rL w (tSl Qa 3) (Qeg x0 x1 x2)) := by
 obtain ⟨m1, A2, c3, rfl, q4, r5⟩ := Qi r_0
 have l6 : x0.length ≤ 68719476736 := s_0.1
 refine ce3 (L := [(0, .slice A2 x0.length c3), (1, iV x1), (2, iV x2)]) (N := 44) func225 ?_
 refine sr (wa (nt' (sr ?_)))
 refine Qcf (E := Qa) Qq Qf (Qk rfl) (by decide) (fun p7 => ?_)
 refine wa (nt' (Qe (sr (wa (nt' ?_)))))
 let F1 := fun k (s : (List Int)) => Qoz x0 x1 x2 k s
 refine Qlj (σ := ((List Int)) × (Option Addr × Nat)) (fun s => [(7, .slice s.2.1 s.1.length s.2.2)]) (fun s => [iS Qa 3 s.2.1 s.2.2 s.1]) (fun s => Qdo (R := (List Int)) F1 (x0.length - 0) 0 [] = Sum.inr s.1) ?_ ?_
 ·
  refine Qx ?_
  refine Qth (S := (List Int)) (R := Option Addr × Nat) F1 x0.length 0 [] ((sA p7), 0) (fun s => [(0, .slice A2 x0.length c3), (1, iV x1), (2, iV x2), (7, .slice s.2.2.1 s.2.1.length s.2.2.2), (8, nI s.1)]) (fun s => [iS Qa 3 s.2.2.1 s.2.2.2 s.2.1]) (fun s => s.2.1.length ≤ 0 + s.1) sl5 (Nat.le_refl _) ?_
  rintro ⟨k9, d10, ⟨A11, c12⟩⟩ H15 _ _ e e'
  dsimp only at H15 ⊢
  subst e e'
  obtain ⟨hk13, hF14, hi16⟩ := H15
  refine Qe (sr (wm (wm ?_)))
  refine wv (Qag Qhp) ?_
  refine wv Qai ?_
  refine wm ?_
  rcases dcl k9 x0.length with ⟨hl17, g18⟩ | ⟨hl17, g18⟩
  ·
   refine wg vmv g18 ?_
   refine Qcr (Qr Qxq rfl) (fun W hm => Qaar W _ x0 (hm.rdS0 r5)) (Qcc rfl rfl rfl (bw g18 rfl)) (by decide) ?_
   refine wv (vpT g18) ?_
   refine wm ?_
   rcases bd (Qgi x0) with g20 | g20
   ·
    refine wg vmv g20 ?_
    refine Qcr (Qr Qeh rfl) (fun W hm => Qej W x1 0 2) (Qcc rfl rfl rfl (bw g20 rfl)) (by decide) ?_
    refine wv (vpT g20) ?_
    refine wm ?_
    rcases bd (Qbk x1 0 2) with g22 | g22
    ·
     have hw := Qeo g22
     refine wg vmv g22 ?_
     refine Qcr (Qr Qeh rfl) (fun W hm => Qej W x2 0 99) (Qcc rfl rfl rfl (bw g22 rfl)) (by decide) ?_
     refine wv (vpT g22) ?_
     refine nt' ?_
     rcases bd (Qbk x2 0 99) with g24 | g24
     ·
      have hw := Qeo g24
      refine Ql rfl g24 ?_
      refine Qp (Qd (Qe (Qx (sr (wm (wm ?_))))))
      obtain ⟨a25, rfl, hb26, he27⟩ := q4 (by omega)
      refine wv (vix 4 k9 Qhp Qbj) ?_
      obtain ⟨_, e33, hc28⟩ := he27 k9 _ (Qbs (show k9 < x0.length from by omega))
      obtain ⟨v29, v31, rfl, r30, r32⟩ := Qiv e33
      have l34 := (s_0.2 _ (Qak (show k9 < x0.length from by omega))).1
      have l35 := (s_0.2 _ (Qak (show k9 < x0.length from by omega))).2
      obtain ⟨m36, A37, c38, rfl, q39, r40⟩ := Qi r30
      obtain ⟨m41, A42, c43, rfl, q44, r45⟩ := Qi r32
      refine wv (fun W hm => Qad (cs := [iV ((gt x0 k9).Id), iV ((gt x0 k9).Tenant), .slice A37 ((gt x0 k9).Conds).length c38, .slice A42 ((gt x0 k9).Out).length c43]) Qbq Qbj rfl rfl (hm.elCells (show (a25.add (k9 * 4)).block < w.heap.size from by rw [Qae]; exact hb26.1) hc28)) ?_
      refine wm (wm ?_)
      refine wcv (Qr Qaps rfl) (fun W hm => Qbbr W _ (gt x0 k9) x1 x2 (Qhg (x := (gt x0 k9)) (hm.rdS0 r40) (hm.rdS0 r45))) ?_
      refine nt' ?_
      rcases bd (Qjk (gt x0 k9) x1 x2) with g47 | g47
      ·
       refine Ql rfl g47 ?_
       refine Qy ?_
       iterate 3 refine wm ?_
       refine wv (vix 4 k9 Qhp Qbj) ?_
       refine wv (vf Qbq rfl Qf) ?_
       refine wv (fun W hm => Qaw Qs rfl rfl ((hm.cell0 (show ((a25.add (k9 * 4)).add 0).block < w.heap.size from by rw [Qae, Qae]; exact hb26.1)).trans (hc28 0 _ rfl))) ?_
       refine Qde (cs := [iV ((gt x0 k9).Id)]) Qq Qf rfl (by decide) (by decide) rfl (by kernel_rfl) (Qk rfl) (by decide) (fun p48 => ?_)
       refine ap1 Qa 3 (.slice A11 d10.length c12) d10 ((gt x0 k9).Id) [] [] [iV ((gt x0 k9).Id)] idM (fun _ _ hs => by cases (Sep.nil hs); exact (Qhq Qck Qhr)) Qq Qf (show (d10.length + 1) * 8 ≤ 140737488355328 from by omega) (fun v49 => ?_)
       refine fm 0 ?_
       rintro A50 c51 rfl m52
       refine wa (Qac (Qam (Qd (Qy (wm ?_)))))
       refine wv (Qal k9 1 (by omega)) ?_
       refine wa (Qac ?_)
       exact Qan (k9 + 1, (d10 ++ [(gt x0 k9).Id]), (A50, c51)) sl5 idM ⟨(by omega), nxb hF14 (Qb g20 (Qb g22 (Qb g24 (Qb g47 (rfl))))), (show (d10 ++ [(gt x0 k9).Id]).length ≤ 0 + (k9 + 1) from by first | omega | (simp only [List.length_append, List.length_cons, List.length_nil] at *; omega))⟩ rl
      refine Qm rfl g47 ?_
      refine Qp (Qam (Qd (Qy (wm ?_))))
      refine wv (Qal k9 1 (by omega)) ?_
      refine wa (Qac ?_)
      exact Qan (k9 + 1, d10, (A11, c12)) sl5 idM ⟨(by omega), nxb hF14 (Qb g20 (Qb g22 (Qb g24 (Qc g47 (rfl))))), (show d10.length ≤ 0 + (k9 + 1) from by first | omega | (simp only [List.length_append, List.length_cons, List.length_nil] at *; omega))⟩ rl
     refine Qm rfl g24 ?_
     refine Qay (Qu (Qu (Qaz ?_)))
     exact Qfh (d10, (A11, c12)) (Qbu rfl Qgo) idM (nbb hF14 (Qb g20 (Qb g22 (Qc g24 (rfl)))))
    refine ws g22 ?_
    refine ws g22 ?_
    refine wv (vpF g22) ?_
    refine nt' ?_
    refine Qm rfl rfl ?_
    refine Qay (Qu (Qu (Qaz ?_)))
    exact Qfh (d10, (A11, c12)) (Qbu rfl Qgo) idM (nbb hF14 (Qb g20 (Qc g22 (rfl))))
   iterate 7 first | refine ws g20 ?_ | refine wv (vpF g20) ?_ | refine wm ?_ | refine wk ?_ | refine wv (vpF rfl) ?_
   refine nt' ?_
   refine Qm rfl rfl ?_
   refine Qay (Qu (Qu (Qaz ?_)))
   exact Qfh (d10, (A11, c12)) (Qbu rfl Qgo) idM (nbb hF14 (Qc g20 (rfl)))
  iterate 11 first | refine ws g18 ?_ | refine wv (vpF g18) ?_ | refine wm ?_ | refine wk ?_ | refine wv (vpF rfl) ?_
  refine nt' ?_
  refine Qm rfl rfl ?_
  refine Qay (Qu (Qu (Qaz ?_)))
  have hE59 := Qva hl17 hF14
  exact Qfh (d10, (A11, c12)) (Qbu rfl Qgo) idM hE59
 rintro ⟨d10, ⟨A11, c12⟩⟩ H61
 dsimp only at H61
 show QM 44 _ _ _ .normal [(7, .slice A11 d10.length c12)] [iS Qa 3 A11 c12 d10]
 refine Qd (sr (wm (wa (nt' (Qj ?_)))))
 have he62 := (show Qeg x0 x1 x2 = d10 from Qar H61 (rfl))
 refine Qcu rfl (Qdl rfl) (fun W hm => ⟨.slice A11 d10.length c12, ?_, ?_⟩)
 ·first | rw [he62] | rfl
 rw [he62]; exact hm

def Qabb (x0 : (List Int)) (x1 : (List Int)) (k13 : Nat) : Bool ⊕ (Unit) :=
 cond ((gt x0 k13) != (gt x1 k13)) (Sum.inl false) (Sum.inr ())
def Qpa (x0 : (List Int)) (x1 : (List Int)) : Bool :=
 cond (((x0.length : Nat) : Int) != ((x1.length : Nat) : Int)) false (Sum.elim id (fun (s : Unit) => true) (rng (R := Bool) (fun k (_ : Unit) => Qabb x0 x1 k) (x0.length - 0) 0 ()))
theorem cb93 : Cb Tryz.prog 93 := ⟨f93, _, func93, rfl, by decide⟩
theorem Qbbn (w : World) (z0 : Value) (x0 : (List Int)) (z1 : Value) (x1 : (List Int)) (r_0 : rdS Qa w w.heap.size z0 x0) (r_1 : rdS Qa w w.heap.size z1 x1) :
  Calls Tryz.prog 93 #[z0, z1] w (rB w (Qpa x0 x1)) := by
 obtain ⟨m1, A2, c3, rfl, q4, r5⟩ := Qi r_0
 obtain ⟨m6, A7, c8, rfl, q9, r10⟩ := Qi r_1
 refine ce2 (L := [(0, .slice A2 x0.length c3), (1, .slice A7 x1.length c8)]) (N := 26) func93 ?_
 refine sr (wa (nt' (Qe (sr (wm ?_)))))
 refine wv (Qag Qq) ?_
 refine wm ?_
 refine wv (Qag Qq) ?_
 refine wv Qcj ?_
 refine nt' ?_
 rcases dcn ((x0.length : Nat) : Int) ((x1.length : Nat) : Int) with ⟨h11, g12⟩ | ⟨h11, g12⟩
 ·
  refine Qm rfl g12 ?_
  refine Qp (Qd (Qe (sr (wa (nt' (Qx ?_))))))
  refine Qbg (S := Unit) (R := Unit) (fun k (_ : Unit) => Qabb x0 x1 k) x0.length 0 () () (fun s => [(0, .slice A2 x0.length c3), (1, .slice A7 x1.length c8), (5, nI s.1)]) (fun s => []) (fun s => True) sl3 trivial ?_
  rintro ⟨k13, ⟨⟩, ⟨⟩⟩ H16 _ _ e e'
  dsimp only at H16 ⊢
  subst e e'
  obtain ⟨hk14, hF15, _⟩ := H16
  refine Qe (sr (wm (wm ?_)))
  refine wv (Qag Qq) ?_
  refine wv Qai ?_
  refine nt' ?_
  rcases dcl k13 x0.length with ⟨hl17, g18⟩ | ⟨hl17, g18⟩
  ·
   refine Ql rfl g18 ?_
   refine Qp (Qd (Qe (Qx (Qe ?_))))
   refine Qfa (by kernel_rfl) (by kernel_rfl) ?_
   refine qm (qm ?_)
   obtain ⟨a19, rfl, hb20, he21⟩ := q4 (by omega)
   refine qv (vix 1 k13 Qq Qf) ?_
   refine qv (fun W hm => Qaw Qs rfl rfl ((hm.cell0 (show (a19.add (k13 * 1)).block < w.heap.size from by rw [Qae]; exact hb20.1)).trans (Qdr he21 k13 (by omega)))) ?_
   refine qm (qm ?_)
   obtain ⟨a22, rfl, hb23, he24⟩ := q9 (by omega)
   refine qv (vix 1 k13 Qq Qf) ?_
   refine qv (fun W hm => Qaw Qs rfl rfl ((hm.cell0 (show (a22.add (k13 * 1)).block < w.heap.size from by rw [Qae]; exact hb23.1)).trans (Qdr he24 k13 (by omega)))) ?_
   refine qv Qcj ?_
   refine nq' ?_
   rcases dcn (gt x0 k13) (gt x1 k13) with ⟨h25, g26⟩ | ⟨h25, g26⟩
   ·
    refine Qm rfl g26 ?_
    refine Qp (Qam (Qd (Qy (wm ?_))))
    refine wv (Qal k13 1 (by omega)) ?_
    refine wa (Qac ?_)
    exact Qan (k13 + 1, (), ()) sl3 idM ⟨(by omega), nx hF15 (Qc g26 (rfl)), trivial⟩ rl
   refine Ql rfl g26 ?_
   refine sr (wa (nt' (Qj (Qaa (Qg (Qg (Qaa (Qg ?_))))))))
   exact rtb (h := Qc g12 (Qbf (nr hF15 (Qb g26 (rfl))) rfl))
  refine Qm rfl g18 ?_
  refine Qay (Qu (Qu ?_))
  have hE28 := Qbh hl17 hF15
  refine Qaz (Qd (sr (wa (nt' (Qj ?_)))))
  exact rtb (h := Qc g12 (Qar hE28 (rfl)))
 refine Ql rfl g12 ?_
 refine sr (wa (nt' (Qj (Qg ?_))))
 exact rtb (h := Qb g12 (rfl))

def Qod (x0 : (List Qat)) (x1 : Int) (k13 : Nat) (d14 : (List Qcp)) : (List Qcp) ⊕ ((List Qcp)) :=
 cond (decide (0 < ((d14.length : Nat) : Int))) (cond (Qpa ((gt d14 (d14.length - 1)).Set) (Qeg x0 x1 ((k13 : Nat) : Int))) (Sum.inr (d14.set (d14.length - 1) (⟨(gt d14 (d14.length - 1)).From, ((k13 : Nat) : Int), (gt d14 (d14.length - 1)).Set⟩ : Qcp))) (Sum.inr (d14 ++ [(⟨((k13 : Nat) : Int), ((k13 : Nat) : Int), (Qeg x0 x1 ((k13 : Nat) : Int))⟩ : Qcp)]))) (Sum.inr (d14 ++ [(⟨((k13 : Nat) : Int), ((k13 : Nat) : Int), (Qeg x0 x1 ((k13 : Nat) : Int))⟩ : Qcp)]))
def Qdz (x0 : (List Qat)) (x1 : Int) : (List Qcp) :=
 cond (Qgi x0) (cond (Qbk x1 0 2) (Sum.elim id (fun (s : (List Qcp)) => s) (rng (R := (List Qcp)) (fun k (s : (List Qcp)) => Qod x0 x1 k s) (100 - 0) 0 [])) []) []
theorem Qapf : Cb Tryz.prog 213 := ⟨f213, _, func213, rfl, by decide⟩
theorem Qbbe (w : World) (z0 : Value) (x0 : (List Qat)) (x1 : Int) (r_0 : rdS Qcm w w.heap.size z0 x0) (s_0 : (x0.length ≤ 68719476736 ∧ ∀ y ∈ x0, Qfy 68719476736 y)) :
  Calls Tryz.prog 213 #[z0, iV x1] w (rL w (tSl Qet 238) (Qdz x0 x1)) := by
 obtain ⟨m1, A2, c3, rfl, q4, r5⟩ := Qi r_0
 have l6 : x0.length ≤ 68719476736 := s_0.1
 refine ce2 (L := [(0, .slice A2 x0.length c3), (1, iV x1)]) (N := 55) func213 ?_
 refine sr (wa (nt' (sr ?_)))
 refine Qcf (E := Qet) Qju type238 (Qk rfl) (by decide) (fun p7 => ?_)
 refine wa (nt' (Qe (sr (wm ?_))))
 refine wcv (Qr Qxq rfl) (fun W hm => Qaar W _ x0 (hm.rdS0 r5)) ?_
 refine wv Qbr ?_
 refine wm ?_
 rcases bd (Qgi x0) with g10 | g10
 ·
  refine wg vmv (nt g10) ?_
  refine Qcr (Qr Qeh rfl) (fun W hm => Qej W x1 0 2) (Qcc rfl rfl rfl (bw (nt g10) rfl)) (by decide) ?_
  refine wg Qbr (nt g10) ?_
  refine wv (vpF (nt g10)) ?_
  refine nt' ?_
  rcases bd (Qbk x1 0 2) with g12 | g12
  ·
   have hw := Qeo g12
   refine Qm rfl (nt g12) ?_
   refine Qp (Qd (Qe (sr (wa (nt' (Qx ?_))))))
   refine Qbg (S := (List Qcp)) (R := Option Addr × Nat) (fun k (s : (List Qcp)) => Qod x0 x1 k s) 100 0 [] ((sA p7), 0) (fun s => [(0, .slice A2 x0.length c3), (1, iV x1), (5, .slice s.2.2.1 s.2.1.length s.2.2.2), (6, nI s.1)]) (fun s => [iS Qet 238 s.2.2.1 s.2.2.2 s.2.1]) (fun s => s.2.1.length ≤ 0 + s.1) sl4 (Nat.le_refl _) ?_
   rintro ⟨k13, d14, ⟨A15, c16⟩⟩ H19 _ _ e e'
   dsimp only at H19 ⊢
   subst e e'
   obtain ⟨hk17, hF18, hi20⟩ := H19
   refine Qe (sr (wm ?_))
   refine wv (fun W hm => Qgw rfl rfl) ?_
   refine nt' ?_
   by_cases hl21 : k13 < 100
   ·have g22 : (decide (((k13 : Nat) : Int) ≤ 99)) = true := decide_eq_true (by omega)
    refine Ql rfl g22 ?_
    refine Qp (Qd (Qe (Qx (sr ?_))))
    iterate 3 refine wm ?_
    refine wcl (tSl Qa 3) (Qeg x0 x1 ((k13 : Nat) : Int)) (Qr Qapp rfl) (fun W hm => Qbbf W _ x0 x1 ((k13 : Nat) : Int) (hm.rdS0 r5) s_0) (fun z23 => ?_)
    refine fm 0 ?_
    rintro A24 c25 rfl m26
    refine wa (nt' (sr (wm ?_)))
    refine wv (Qag Qju) ?_
    refine wa (nt' (sr (wm ?_)))
    refine wv (fun W hm => Qem rfl rfl) ?_
    refine wm ?_
    rcases dcd (0 < ((d14.length : Nat) : Int)) with ⟨h28, g29⟩ | ⟨h28, g29⟩
    ·
     refine wg vmv g29 ?_
     refine wg vmv g29 ?_
     refine wg (fun W hm => Qkz (p := d14.length) (q := 1) rfl rfl (by omega) (by omega)) g29 ?_
     refine Qhy (n := 1) rfl (by omega) ?_
     rintro g30 rfl
     refine wg (fun W hm => Qje (sz := 3) (k := d14.length - 1) Qju type238 rfl rfl rfl (by omega)) g29 ?_
     refine wg (vf underlying238 rfl Qao) g29 ?_
     let I4 : It := iS Qa 3 A24 c25 (Qeg x0 x1 ((k13 : Nat) : Int))
     refine Qjx (E := Qet) (e := 238) (A := (sA g30)) (n := d14.length) (c := c16) (xs := d14) (k := (d14.length - 1)) (js := [I4]) (by omega) (pk [1, 0]) (fun ck31 => ?_)
     refine Qbdu ?_
     rintro v32 rfl
     refine fm 0 ?_
     rintro A33 c34 rfl m35
     refine wg (fun W hm => Qaw Qq rfl rfl (hm.focCells (i := 1) rfl rfl 2 _ rfl)) g29 ?_
     refine wg vmv g29 ?_
     refine Qcr (Qr cb93 rfl) (fun W hm => Qbbn W _ ((gt d14 (d14.length - 1)).Set) _ (Qeg x0 x1 ((k13 : Nat) : Int)) (hm.rdSI (n := 0) rfl) (hm.rdSI (n := 2) rfl)) (Qcc rfl rfl rfl (bw g29 rfl)) (by decide) ?_
     refine wv (vpT g29) ?_
     refine nt' ?_
     rcases bd (Qpa ((gt d14 (d14.length - 1)).Set) (Qeg x0 x1 ((k13 : Nat) : Int))) with g38 | g38
     ·
      refine Ql rfl g38 ?_
      refine Qy (wm (wm ?_))
      refine wv (fun W hm => Qkz (p := d14.length) (q := 1) rfl rfl (by omega) (by omega)) ?_
      refine wm ?_
      refine wv (fun W hm => Qje (sz := 3) (k := d14.length - 1) Qju type238 rfl rfl rfl (by omega)) ?_
      refine wv (vf underlying238 rfl Qf) ?_
      let K1 : List Value := [iV ((gt d14 (d14.length - 1)).From), nI k13, .slice A33 ((gt d14 (d14.length - 1)).Set).length c34]
      refine sf 1 3 K1 [iS Qa 3 A33 c34 ((gt d14 (d14.length - 1)).Set), I4] (pk [1, 0, 2]) Qf ?_
      refine Qac (Qam (Qd (Qy (wm ?_))))
      refine wv (Qal k13 1 (by omega)) ?_
      refine wa (Qac ?_)
      refine Qdd (fun W hm => Mem.unfocus (Mem.join (is := [iS Qa 3 A33 c34 ((gt d14 (d14.length - 1)).Set)]) (js := (Qdf Qet 238 (sA g30) d14.length c16 d14 (d14.length - 1) K1 :: [I4])) (fun _ _ hs => Qwl (x := (⟨(gt d14 (d14.length - 1)).From, ((k13 : Nat) : Int), (gt d14 (d14.length - 1)).Set⟩ : Qcp)) hs) (hm.pick [1, 0, 2] (by decide)))) ?_
      have hl39 : d14.length = (d14.set (d14.length - 1) (⟨(gt d14 (d14.length - 1)).From, ((k13 : Nat) : Int), (gt d14 (d14.length - 1)).Set⟩ : Qcp)).length := by first | rfl | exact List.length_set.symm
      generalize ix40h : d14.length - 1 = ix40
      rw [show d14.length = (d14.set ix40 (⟨(gt d14 ix40).From, ((k13 : Nat) : Int), (gt d14 ix40).Set⟩ : Qcp)).length from List.length_set.symm]
      subst ix40h
      exact Qan (k13 + 1, (d14.set (d14.length - 1) (⟨(gt d14 (d14.length - 1)).From, ((k13 : Nat) : Int), (gt d14 (d14.length - 1)).Set⟩ : Qcp)), ((sA g30), c16)) sl4 (pk [0]) ⟨(by omega), nx hF18 (Qb g29 (Qb g38 (rfl))), (show (d14.set (d14.length - 1) (⟨(gt d14 (d14.length - 1)).From, ((k13 : Nat) : Int), (gt d14 (d14.length - 1)).Set⟩ : Qcp)).length ≤ 0 + (k13 + 1) from by first | omega | (simp only [List.length_append, List.length_cons, List.length_nil] at *; omega))⟩ rl
     refine Qm rfl g38 ?_
     refine Qy ?_
     iterate 4 refine wm ?_
     let K2 : List Value := [nI k13, nI k13, .slice A24 (Qeg x0 x1 ((k13 : Nat) : Int)).length c25]
     refine wv (fun W hm => Qef (cs := K2) rfl (by kernel_rfl)) ?_
     refine Qde (cs := K2) Qju type238 rfl (by decide) (by decide) rfl (by kernel_rfl) (Qk rfl) (by decide) (fun p42 => ?_)
     refine Qkj (fun W hm => Mem.unfocus0 (Mem.join (is := [iS Qa 3 A33 c34 ((gt d14 (d14.length - 1)).Set)]) (js := (Qdf Qet 238 (sA g30) d14.length c16 d14 (d14.length - 1) [iV ((gt d14 (d14.length - 1)).From), iV ((gt d14 (d14.length - 1)).To), .slice A33 ((gt d14 (d14.length - 1)).Set).length c34] :: [Qh p42 238 K2, I4])) (fun _ _ hs => Qwl (x := (gt d14 (d14.length - 1))) hs) (hm.pick [1, 2, 0, 3] (by decide)))) ?_
     refine ap1 Qet 238 (.slice (sA g30) d14.length c16) d14 (⟨((k13 : Nat) : Int), ((k13 : Nat) : Int), (Qeg x0 x1 ((k13 : Nat) : Int))⟩ : Qcp) [I4] [] K2 (pk [1, 0, 2]) (fun _ _ hs => Els.single (Qwl (x := (⟨((k13 : Nat) : Int), ((k13 : Nat) : Int), (Qeg x0 x1 ((k13 : Nat) : Int))⟩ : Qcp)) hs)) Qju type238 (show (d14.length + 1) * 40 ≤ 140737488355328 from by omega) (fun v43 => ?_)
     refine fm 0 ?_
     rintro A44 c45 rfl m46
     refine wa (Qac (Qam (Qd (Qy (wm ?_)))))
     refine wv (Qal k13 1 (by omega)) ?_
     refine wa (Qac ?_)
     exact Qan (k13 + 1, (d14 ++ [(⟨((k13 : Nat) : Int), ((k13 : Nat) : Int), (Qeg x0 x1 ((k13 : Nat) : Int))⟩ : Qcp)]), (A44, c45)) sl4 idM ⟨(by omega), nx hF18 (Qb g29 (Qc g38 (rfl))), (show (d14 ++ [(⟨((k13 : Nat) : Int), ((k13 : Nat) : Int), (Qeg x0 x1 ((k13 : Nat) : Int))⟩ : Qcp)]).length ≤ 0 + (k13 + 1) from by first | omega | (simp only [List.length_append, List.length_cons, List.length_nil] at *; omega))⟩ rl
    iterate 9 first | refine ws g29 ?_ | refine wv (vpF g29) ?_
    refine nt' ?_
    refine Qm rfl rfl ?_
    refine Qy ?_
    iterate 4 refine wm ?_
    let K3 : List Value := [nI k13, nI k13, .slice A24 (Qeg x0 x1 ((k13 : Nat) : Int)).length c25]
    refine wv (fun W hm => Qef (cs := K3) rfl (by kernel_rfl)) ?_
    refine Qde (cs := K3) Qju type238 rfl (by decide) (by decide) rfl (by kernel_rfl) (Qk rfl) (by decide) (fun p49 => ?_)
    refine ap1 Qet 238 (.slice A15 d14.length c16) d14 (⟨((k13 : Nat) : Int), ((k13 : Nat) : Int), (Qeg x0 x1 ((k13 : Nat) : Int))⟩ : Qcp) [iS Qa 3 A24 c25 (Qeg x0 x1 ((k13 : Nat) : Int))] [] K3 (pk [0, 2, 1]) (fun _ _ hs => Els.single (Qwl (x := (⟨((k13 : Nat) : Int), ((k13 : Nat) : Int), (Qeg x0 x1 ((k13 : Nat) : Int))⟩ : Qcp)) hs)) Qju type238 (show (d14.length + 1) * 40 ≤ 140737488355328 from by omega) (fun v50 => ?_)
    refine fm 0 ?_
    rintro A51 c52 rfl m53
    refine wa (Qac (Qam (Qd (Qy (wm ?_)))))
    refine wv (Qal k13 1 (by omega)) ?_
    refine wa (Qac ?_)
    exact Qan (k13 + 1, (d14 ++ [(⟨((k13 : Nat) : Int), ((k13 : Nat) : Int), (Qeg x0 x1 ((k13 : Nat) : Int))⟩ : Qcp)]), (A51, c52)) sl4 idM ⟨(by omega), nx hF18 (Qc g29 (rfl)), (show (d14 ++ [(⟨((k13 : Nat) : Int), ((k13 : Nat) : Int), (Qeg x0 x1 ((k13 : Nat) : Int))⟩ : Qcp)]).length ≤ 0 + (k13 + 1) from by first | omega | (simp only [List.length_append, List.length_cons, List.length_nil] at *; omega))⟩ rl
   have g22 : (decide (((k13 : Nat) : Int) ≤ 99)) = false := decide_eq_false (by omega)
   refine Qm rfl g22 ?_
   refine Qay (Qu (Qu ?_))
   have hE56 := Qbh hl21 hF18
   refine Qaz (Qd (sr (wm (wa (nt' (Qj ?_))))))
   have he57 := (show Qdz x0 x1 = d14 from Qb g10 (Qb g12 (Qar hE56 (rfl))))
   refine Qcu rfl (Qdl rfl) (fun W hm => ⟨.slice A15 d14.length c16, ?_, ?_⟩)
   ·first | rw [he57] | rfl
   rw [he57]; exact hm
  refine Ql rfl (nf g12) ?_
  refine sr (wm (wa (nt' (Qj (Qg ?_)))))
  have he58 := (show Qdz x0 x1 = [] from Qb g10 (Qc g12 (rfl)))
  refine Qcu rfl (Qdl rfl) (fun W hm => ⟨.slice (sA p7) 0 0, ?_, ?_⟩)
  ·first | rw [he58] | rfl
  rw [he58]; exact hm
 refine ws (nf g10) ?_
 refine ws (nf g10) ?_
 refine ws (nf g10) ?_
 refine wv (vpT (nf g10)) ?_
 refine nt' ?_
 refine Ql rfl rfl ?_
 refine sr (wm (wa (nt' (Qj (Qg ?_)))))
 have he59 := (show Qdz x0 x1 = [] from Qc g10 (rfl))
 refine Qcu rfl (Qdl rfl) (fun W hm => ⟨.slice (sA p7) 0 0, ?_, ?_⟩)
 ·first | rw [he59] | rfl
 rw [he59]; exact hm

def Qahx (x0 : (List Qat)) (k16 : Nat) (d19 : (List (List Qcp))) : Qgq ⊕ ((List (List Qcp))) :=
 Sum.inr (d19 ++ [(Qdz x0 ((k16 : Nat) : Int))])
def Qfc (x0 : (List Qat)) : Qgq :=
 cond (Qgi x0) (Sum.elim id (fun (s : (List (List Qcp))) => (⟨x0, s⟩ : Qgq)) (rng (R := Qgq) (fun k (s : (List (List Qcp))) => Qahx x0 k s) (3 - 0) 0 [])) (⟨[], []⟩ : Qgq)
theorem Qaor : Cb Tryz.prog 189 := ⟨f189, _, func189, rfl, by decide⟩
theorem Qbas (w : World) (z0 : Value) (x0 : (List Qat)) (r_0 : rdS Qcm w w.heap.size z0 x0) (s_0 : (x0.length ≤ 68719476736 ∧ ∀ y ∈ x0, Qfy 68719476736 y)) :
  Calls Tryz.prog 189 #[z0] w (rO w Qmu (Qfc x0)) := by
 obtain ⟨m1, A2, c3, rfl, q4, r5⟩ := Qi r_0
 have l6 : x0.length ≤ 68719476736 := s_0.1
 refine ce1 (L := [(0, .slice A2 x0.length c3)]) (N := 25) func189 ?_
 refine sr ?_
 refine Qbm type204 rfl (Qk rfl) (by decide) (fun p7 => ?_)
 refine nt' (Qe (sr (wm ?_)))
 refine wcv (Qr Qxq rfl) (fun W hm => Qaar W _ x0 (hm.rdS0 r5)) ?_
 refine wv Qbr ?_
 refine nt' ?_
 rcases bd (Qgi x0) with g9 | g9
 ·
  refine Qm rfl (nt g9) ?_
  refine Qp (Qd (sr (wm ?_)))
  refine wcl (tSl Qcm 58) x0 (Qr Qape rfl) (fun W hm => Qbbx W _ x0 (hm.rdS0 r5) s_0) (fun z10 => ?_)
  refine fm 0 ?_
  rintro A11 c12 rfl m13
  refine wv (fun W hm => Qef (cs := [.slice A11 x0.length c12, .slice none 0 0]) rfl (by kernel_rfl)) ?_
  refine Qbm type204 rfl (Qk rfl) (by decide) (fun p15 => ?_)
  let I2 : It := Qh p7 204 [.slice none 0 0, .slice none 0 0]
  let J4 : List It := [iS Qcm 58 A11 c12 x0, I2]
  refine sb 0 [.slice A11 x0.length c12, .slice none 0 0] J4 idM type204 ?_
  refine nt' (Qe (sr (wa (nt' (Qx ?_)))))
  refine Qdw (fun W hm => (hm.addNil (E := (tSl Qet 238)) (e := 225)).last) ?_
  refine Qbg (S := (List (List Qcp))) (R := Option Addr × Nat) (fun k (s : (List (List Qcp))) => Qahx x0 k s) 3 0 [] (none, 0) (fun s => [(0, .slice A2 x0.length c3), (2, bp p7), (3, bp p15), (4, nI s.1)]) (fun s => [Qh p15 204 [.slice A11 x0.length c12, .slice s.2.2.1 s.2.1.length s.2.2.2], iS Qcm 58 A11 c12 x0, I2, iS (tSl Qet 238) 225 s.2.2.1 s.2.2.2 s.2.1]) (fun s => s.2.1.length ≤ 0 + s.1) sl4 (Nat.le_refl _) ?_
  rintro ⟨k16, d19, ⟨A20, c21⟩⟩ H24 _ _ e e'
  dsimp only at H24 ⊢
  subst e e'
  obtain ⟨hk22, hF23, hi25⟩ := H24
  refine Qe (sr (wm ?_))
  refine wv Qai ?_
  refine nt' ?_
  by_cases hl26 : k16 < 3
  ·have g27 : (decide (((k16 : Nat) : Int) < 3)) = true := decide_eq_true (by omega)
   refine Ql rfl g27 ?_
   refine Qp (Qd (Qe (Qx ?_)))
   let I3 : It := Qh p15 204 [.slice A11 x0.length c12, .slice A20 d19.length c21]
   refine rd2 9 [8] (s := J4) (s2 := (I3 :: J4)) (pk [1, 2]) (pk [0, 1, 2]) ?_
   refine qtD 9 0 1 rfl (vf Qpi rfl type202) ?_
   refine qtD 9 1 3 rfl (vl 0 1 Qre) ?_
   refine qtD 9 2 7 rfl vmv ?_
   refine qtD 9 3 15 rfl vmv ?_
   refine qoD 9 4 31 rfl ?_
   refine wcl (tSl Qet 238) (Qdz x0 ((k16 : Nat) : Int)) (Qr Qapf rfl) (fun W hm => Qbbe W _ x0 ((k16 : Nat) : Int) (hm.rdS0 r5) s_0) (fun z28 => ?_)
   refine fm 0 ?_
   rintro A29 c30 rfl m31
   refine qnD (pk [2, 3]) (pk [1, 2, 3]) ?_
   refine qoD 9 5 63 rfl ?_
   let K1 : List Value := [.slice A29 (Qdz x0 ((k16 : Nat) : Int)).length c30]
   refine Qde (cs := K1) Qre type225 rfl (by decide) (by decide) rfl (by kernel_rfl) (Qk rfl) (by decide) (fun p33 => ?_)
   refine qnD (pk [3, 4]) (pk [2, 3, 4]) ?_
   refine qoD 9 6 127 rfl ?_
   refine ap1 (tSl Qet 238) 225 (.slice A20 d19.length c21) d19 (Qdz x0 ((k16 : Nat) : Int)) [iS Qet 238 A29 c30 (Qdz x0 ((k16 : Nat) : Int))] (I3 :: J4) K1 (pk [0, 5, 1, 2, 3, 4]) (fun _ _ hs => Els.single (Sep.one hs)) Qre type225 (show (d19.length + 1) * 24 ≤ 140737488355328 from by omega) (fun v34 => ?_)
   refine fm 0 ?_
   rintro A35 c36 rfl m37
   refine qnD (pk [2, 3]) (pk [1, 2, 3]) ?_
   refine qtD 9 7 255 rfl (vf Qpi rfl type202) ?_
   refine qoD 9 8 511 rfl ?_
   refine sb 1 [.slice A11 x0.length c12, .slice A35 (d19 ++ [(Qdz x0 ((k16 : Nat) : Int))]).length c36] (iS (tSl Qet 238) 225 A35 c36 (d19 ++ [(Qdz x0 ((k16 : Nat) : Int))]) :: J4) (pk [1, 0, 2, 3]) type202 ?_
   refine qxD (pk [2, 3]) ?_
   refine Qed (by kernel_rfl) ?_
   refine Qam (Qd (Qy (wm ?_)))
   refine wv (Qal k16 1 (by omega)) ?_
   refine wa (Qac ?_)
   exact Qan (k16 + 1, (d19 ++ [(Qdz x0 ((k16 : Nat) : Int))]), (A35, c36)) sl4 (pk [0, 2, 3, 1]) ⟨(by omega), nx hF23 (rfl), (show (d19 ++ [(Qdz x0 ((k16 : Nat) : Int))]).length ≤ 0 + (k16 + 1) from by first | omega | (simp only [List.length_append, List.length_cons, List.length_nil] at *; omega))⟩ rl
  have g27 : (decide (((k16 : Nat) : Int) < 3)) = false := decide_eq_false (by omega)
  refine Qm rfl g27 ?_
  refine Qay (Qu (Qu ?_))
  have hE40 := Qbh hl26 hF23
  refine Qaz (Qd (sr ?_))
  refine wv (fun W hm => Qad (cs := [.slice A11 x0.length c12, .slice A20 d19.length c21]) Qpi type204 rfl rfl (hm.boxCells (n := 0) rfl)) ?_
  let J5 : List It := [iS Qcm 58 A11 c12 x0, iS (tSl Qet 238) 225 A20 c21 d19]
  refine sb 0 [.slice A11 x0.length c12, .slice A20 d19.length c21] (Qh p15 204 [.slice A11 x0.length c12, .slice A20 d19.length c21] :: J5) (pk [2, 0, 1, 3]) type204 ?_
  refine nt' (Qj ?_)
  have he41 := (show Qfc x0 = (⟨x0, d19⟩ : Qgq) from Qb g9 (Qar hE40 (rfl)))
  refine Qcu rfl (Qdp (n := 0) rfl rfl Qpi type204 rfl) (fun W hm => ⟨[.slice A11 x0.length c12, .slice A20 d19.length c21], ?_, ?_⟩)
  ·first | rw [he41] | rfl
  rw [he41]; exact Mem.join (is := J5) (js := []) (fun _ _ hs => Qais (x := (⟨x0, d19⟩ : Qgq)) hs) (hm.pick [2, 3] (by decide))
 refine Ql rfl (nf g9) ?_
 refine sr ?_
 refine wv (fun W hm => Qef (cs := [.slice none 0 0, .slice none 0 0]) rfl (by kernel_rfl)) ?_
 refine sb 0 [.slice none 0 0, .slice none 0 0] [] idM type204 ?_
 refine nt' (Qj (Qg ?_))
 refine Qdd (fun W hm => hm.addNil (E := Qcm) (e := 58)) ?_
 refine Qdd (fun W hm => hm.addNil (E := (tSl Qet 238)) (e := 225)) ?_
 have he44 := (show Qfc x0 = (⟨[], []⟩ : Qgq) from Qc g9 (rfl))
 refine Qcu rfl (Qdp (n := 2) rfl rfl Qpi type204 rfl) (fun W hm => ⟨[.slice none 0 0, .slice none 0 0], ?_, ?_⟩)
 ·first | rw [he44] | rfl
 rw [he44]; exact Mem.join (is := [Qn (tSl Qcm 58) [.slice none 0 0] [], Qn (tSl (tSl Qet 238) 225) [.slice none 0 0] []]) (js := []) (fun _ _ hs => Qais (x := (⟨[], []⟩ : Qgq)) hs) (hm.pick [1, 0] (by decide))

def Qvs (x0 : (List Qat)) (k9 : Nat) (d10 : (List Int)) : (List Int) ⊕ ((List Int)) :=
 Sum.inr (d10 ++ [(gt x0 k9).Id])
def Qkd (x0 : (List Qat)) : (List Int) :=
 Sum.elim id (fun (s : (List Int)) => s) (rng (R := (List Int)) (fun k (s : (List Int)) => Qvs x0 k s) (x0.length - 0) 0 [])
theorem Qapg : Cb Tryz.prog 214 := ⟨f214, _, func214, rfl, by decide⟩
theorem Qbbs (w : World) (z0 : Value) (x0 : (List Qat)) (r_0 : rdS Qcm w w.heap.size z0 x0) (s_0 : (x0.length ≤ 68719476736 ∧ ∀ y ∈ x0, Qfy 68719476736 y)) :
  Calls Tryz.prog 214 #[z0] w (rL w (tSl Qa 3) (Qkd x0)) := by
 obtain ⟨m1, A2, c3, rfl, q4, r5⟩ := Qi r_0
 have l6 : x0.length ≤ 68719476736 := s_0.1
 refine ce1 (L := [(0, .slice A2 x0.length c3)]) (N := 21) func214 ?_
 refine sr (wa (nt' (sr ?_)))
 refine Qcf (E := Qa) Qq Qf (Qk rfl) (by decide) (fun p7 => ?_)
 refine wa (nt' (Qe (sr (wa (nt' (Qx ?_))))))
 refine Qbg (S := (List Int)) (R := Option Addr × Nat) (fun k (s : (List Int)) => Qvs x0 k s) x0.length 0 [] ((sA p7), 0) (fun s => [(0, .slice A2 x0.length c3), (3, .slice s.2.2.1 s.2.1.length s.2.2.2), (4, nI s.1)]) (fun s => [iS Qa 3 s.2.2.1 s.2.2.2 s.2.1]) (fun s => s.2.1.length ≤ 0 + s.1) sl3 (Nat.le_refl _) ?_
 rintro ⟨k9, d10, ⟨A11, c12⟩⟩ H15 _ _ e e'
 dsimp only at H15 ⊢
 subst e e'
 obtain ⟨hk13, hF14, hi16⟩ := H15
 refine Qe (sr (wm (wm ?_)))
 refine wv (Qag Qhp) ?_
 refine wv Qai ?_
 refine nt' ?_
 rcases dcl k9 x0.length with ⟨hl17, g18⟩ | ⟨hl17, g18⟩
 ·
  refine Ql rfl g18 ?_
  refine Qp (Qd (Qe (Qx (Qy ?_))))
  iterate 3 refine wm ?_
  obtain ⟨a19, rfl, hb20, he21⟩ := q4 (by omega)
  refine wv (vix 4 k9 Qhp Qbj) ?_
  refine wv (vf Qbq rfl Qf) ?_
  obtain ⟨_, e27, hc22⟩ := he21 k9 _ (Qbs (show k9 < x0.length from by omega))
  obtain ⟨v23, v25, rfl, r24, r26⟩ := Qiv e27
  have l28 := (s_0.2 _ (Qak (show k9 < x0.length from by omega))).1
  have l29 := (s_0.2 _ (Qak (show k9 < x0.length from by omega))).2
  obtain ⟨m30, A31, c32, rfl, q33, r34⟩ := Qi r24
  obtain ⟨m35, A36, c37, rfl, q38, r39⟩ := Qi r26
  refine wv (fun W hm => Qaw Qs rfl rfl ((hm.cell0 (show ((a19.add (k9 * 4)).add 0).block < w.heap.size from by rw [Qae, Qae]; exact hb20.1)).trans (hc22 0 _ rfl))) ?_
  refine Qde (cs := [iV ((gt x0 k9).Id)]) Qq Qf rfl (by decide) (by decide) rfl (by kernel_rfl) (Qk rfl) (by decide) (fun p40 => ?_)
  refine ap1 Qa 3 (.slice A11 d10.length c12) d10 ((gt x0 k9).Id) [] [] [iV ((gt x0 k9).Id)] idM (fun _ _ hs => by cases (Sep.nil hs); exact (Qhq Qck Qhr)) Qq Qf (show (d10.length + 1) * 8 ≤ 140737488355328 from by omega) (fun v41 => ?_)
  refine fm 0 ?_
  rintro A42 c43 rfl m44
  refine wa (Qac (Qam (Qd (Qy (wm ?_)))))
  refine wv (Qal k9 1 (by omega)) ?_
  refine wa (Qac ?_)
  exact Qan (k9 + 1, (d10 ++ [(gt x0 k9).Id]), (A42, c43)) sl3 idM ⟨(by omega), nx hF14 (rfl), (show (d10 ++ [(gt x0 k9).Id]).length ≤ 0 + (k9 + 1) from by first | omega | (simp only [List.length_append, List.length_cons, List.length_nil] at *; omega))⟩ rl
 refine Qm rfl g18 ?_
 refine Qay (Qu (Qu ?_))
 have hE47 := Qbh hl17 hF14
 refine Qaz (Qd (sr (wm (wa (nt' (Qj ?_))))))
 have he48 := (show Qkd x0 = d10 from Qar hE47 (rfl))
 refine Qcu rfl (Qdl rfl) (fun W hm => ⟨.slice A11 d10.length c12, ?_, ?_⟩)
 ·first | rw [he48] | rfl
 rw [he48]; exact hm

def Qlv (x0 : (List Qcp)) (x1 : Int) (k7 : Nat) : (List Int) ⊕ (Unit) :=
 cond (Qbk x1 ((gt x0 k7).From) ((gt x0 k7).To)) (Sum.inl ((gt x0 k7).Set)) (Sum.inr ())
def Qfz (x0 : (List Qcp)) (x1 : Int) : (List Int) :=
 Sum.elim id (fun (s : Unit) => []) (rng (R := (List Int)) (fun k (_ : Unit) => Qlv x0 x1 k) (x0.length - 0) 0 ())
theorem Qaef : Cb Tryz.prog 215 := ⟨f215, _, func215, rfl, by decide⟩
theorem Qaia (w : World) (z0 : Value) (x0 : (List Qcp)) (x1 : Int) (r_0 : rdS Qet w w.heap.size z0 x0) (s_0 : (x0.length ≤ 68719476736 ∧ ∀ y ∈ x0, Qvg 68719476736 y)) :
  Calls Tryz.prog 215 #[z0, iV x1] w (rL w (tSl Qa 3) (Qfz x0 x1)) := by
 obtain ⟨m1, A2, c3, rfl, q4, r5⟩ := Qi r_0
 have l6 : x0.length ≤ 68719476736 := s_0.1
 refine ce2 (L := [(0, .slice A2 x0.length c3), (1, iV x1)]) (N := 32) func215 ?_
 refine sr (wa (nt' (Qe (sr (wa (nt' (Qx ?_)))))))
 refine Qbg (S := Unit) (R := Unit) (fun k (_ : Unit) => Qlv x0 x1 k) x0.length 0 () () (fun s => [(0, .slice A2 x0.length c3), (1, iV x1), (5, nI s.1)]) (fun s => []) (fun s => True) sl3 trivial ?_
 rintro ⟨k7, ⟨⟩, ⟨⟩⟩ H10 _ _ e e'
 dsimp only at H10 ⊢
 subst e e'
 obtain ⟨hk8, hF9, _⟩ := H10
 refine Qe (sr (wm (wm ?_)))
 refine wv (Qag Qju) ?_
 refine wv Qai ?_
 refine nt' ?_
 rcases dcl k7 x0.length with ⟨hl11, g12⟩ | ⟨hl11, g12⟩
 ·
  refine Ql rfl g12 ?_
  refine Qp (Qd (Qe (Qx (Qe ?_))))
  refine Qfa (by kernel_rfl) (by kernel_rfl) ?_
  refine qm (qm (qm ?_))
  obtain ⟨a13, rfl, hb14, he15⟩ := q4 (by omega)
  refine qv (vix 3 k7 Qju type238) ?_
  refine qv (vf underlying238 rfl Qf) ?_
  obtain ⟨_, e19, hc16⟩ := he15 k7 _ (Qbs (show k7 < x0.length from by omega))
  obtain ⟨v17, rfl, r18⟩ := Qbdt e19
  have l20 : ((gt x0 k7).Set).length ≤ 68719476736 := (s_0.2 _ (Qak (show k7 < x0.length from by omega)))
  obtain ⟨m21, A22, c23, rfl, q24, r25⟩ := Qi r18
  refine qv (fun W hm => Qaw Qs rfl rfl ((hm.cell0 (show ((a13.add (k7 * 3)).add 0).block < w.heap.size from by rw [Qae, Qae]; exact hb14.1)).trans (hc16 0 _ rfl))) ?_
  refine qm (qm ?_)
  refine qv (vix 3 k7 Qju type238) ?_
  refine qv (vf underlying238 rfl Qf) ?_
  refine qv (fun W hm => Qaw Qs rfl rfl ((hm.cell0 (show ((a13.add (k7 * 3)).add 1).block < w.heap.size from by rw [Qae, Qae]; exact hb14.1)).trans (hc16 1 _ rfl))) ?_
  refine Qev (Qr Qeh rfl) (fun W hm => Qej W x1 ((gt x0 k7).From) ((gt x0 k7).To)) (Qk rfl) (by decide) ?_
  refine nq' ?_
  rcases bd (Qbk x1 ((gt x0 k7).From) ((gt x0 k7).To)) with g27 | g27
  ·
   have hw := Qeo g27
   refine Ql rfl g27 ?_
   refine sr ?_
   refine Qcf (E := Qa) Qq Qf (Qk rfl) (by decide) (fun p28 => ?_)
   refine wm (wm ?_)
   refine wv (vix 3 k7 Qju type238) ?_
   refine wv (vf underlying238 rfl Qao) ?_
   refine wv (fun W hm => Qaw Qq rfl rfl ((hm.cell0 (show ((a13.add (k7 * 3)).add 2).block < w.heap.size from by rw [Qae, Qae]; exact hb14.1)).trans (hc16 2 _ rfl))) ?_
   refine apR Qa Qa 3 (.slice (sA p28) 0 0) [] ((gt x0 k7).Set) [] idM (fun W hm => Qdi Qcv (hm.rdS0 r25)) Qq Qf (show (0 + ((gt x0 k7).Set).length) * 8 ≤ 140737488355328 from by omega) (fun v30 => ?_)
   refine fm 0 ?_
   rintro A31 c32 rfl m33
   refine wa (nt' (Qj (Qaa (Qg (Qg (Qaa (Qg ?_)))))))
   have he35 := (show Qfz x0 x1 = (gt x0 k7).Set from Qbf (nr hF9 (Qb g27 (rfl))) rfl)
   refine Qcu rfl (Qdl rfl) (fun W hm => ⟨.slice A31 ((gt x0 k7).Set).length c32, ?_, ?_⟩)
   ·first | rw [he35] | rfl
   rw [he35]; exact hm
  refine Qm rfl g27 ?_
  refine Qp (Qam (Qd (Qy (wm ?_))))
  refine wv (Qal k7 1 (by omega)) ?_
  refine wa (Qac ?_)
  exact Qan (k7 + 1, (), ()) sl3 idM ⟨(by omega), nx hF9 (Qc g27 (rfl)), trivial⟩ rl
 refine Qm rfl g12 ?_
 refine Qay (Qu (Qu ?_))
 have hE37 := Qbh hl11 hF9
 refine Qaz (Qd (sr ?_))
 refine Qcf (E := Qa) Qq Qf (Qk rfl) (by decide) (fun p38 => ?_)
 refine wa (nt' (Qj ?_))
 have he40 := (show Qfz x0 x1 = [] from Qar hE37 (rfl))
 refine Qcu rfl (Qdl rfl) (fun W hm => ⟨.slice (sA p38) 0 0, ?_, ?_⟩)
 ·first | rw [he40] | rfl
 rw [he40]; exact hm

def Qsu (x0 : (List Int)) (x1 : (List Int)) (k15 : Nat) (d16 : (List Int)) : (List Int) ⊕ (((List Int)) ⊕ ((List Int))) :=
 cond (Qgx x0) (cond (Qgx x1) (cond (Qfd x1 (gt x0 k15)) (Sum.inr (Sum.inr (d16 ++ [(gt x0 k15)]))) (Sum.inr (Sum.inr d16))) (Sum.inr (Sum.inl d16))) (Sum.inr (Sum.inl d16))
def Qla (x0 : (List Int)) (x1 : (List Int)) : (List Int) :=
 Sum.elim id (fun (s : (List Int)) => s) (Qdo (R := (List Int)) (fun k (s : (List Int)) => Qsu x0 x1 k s) (x0.length - 0) 0 [])
theorem Qaph : Cb Tryz.prog 216 := ⟨f216, _, func216, rfl, by decide⟩
theorem Qbaz (w : World) (z0 : Value) (x0 : (List Int)) (z1 : Value) (x1 : (List Int)) (r_0 : rdS Qa w w.heap.size z0 x0) (r_1 : rdS Qa w w.heap.size z1 x1) (s_0 : x0.length ≤ 68719476736) (s_1 : x1.length ≤ 68719476736) :
  Calls Tryz.prog 216 #[z0, z1] w (rL w (tSl Qa 3) (Qla x0 x1)) := by
 obtain ⟨m1, A2, c3, rfl, q4, r5⟩ := Qi r_0
 obtain ⟨m6, A7, c8, rfl, q9, r10⟩ := Qi r_1
 have l11 : x0.length ≤ 68719476736 := s_0
 have l12 : x1.length ≤ 68719476736 := s_1
 refine ce2 (L := [(0, .slice A2 x0.length c3), (1, .slice A7 x1.length c8)]) (N := 36) func216 ?_
 refine sr (wa (nt' (sr ?_)))
 refine Qcf (E := Qa) Qq Qf (Qk rfl) (by decide) (fun p13 => ?_)
 refine wa (nt' (Qe (sr (wa (nt' ?_)))))
 let F1 := fun k (s : (List Int)) => Qsu x0 x1 k s
 refine Qlj (σ := ((List Int)) × (Option Addr × Nat)) (fun s => [(5, .slice s.2.1 s.1.length s.2.2)]) (fun s => [iS Qa 3 s.2.1 s.2.2 s.1]) (fun s => Qdo (R := (List Int)) F1 (x0.length - 0) 0 [] = Sum.inr s.1) ?_ ?_
 ·
  refine Qx ?_
  refine Qth (S := (List Int)) (R := Option Addr × Nat) F1 x0.length 0 [] ((sA p13), 0) (fun s => [(0, .slice A2 x0.length c3), (1, .slice A7 x1.length c8), (5, .slice s.2.2.1 s.2.1.length s.2.2.2), (6, nI s.1)]) (fun s => [iS Qa 3 s.2.2.1 s.2.2.2 s.2.1]) (fun s => s.2.1.length ≤ 0 + s.1) sl4 (Nat.le_refl _) ?_
  rintro ⟨k15, d16, ⟨A17, c18⟩⟩ H21 _ _ e e'
  dsimp only at H21 ⊢
  subst e e'
  obtain ⟨hk19, hF20, hi22⟩ := H21
  refine Qe (sr (wm (wm ?_)))
  refine wv (Qag Qq) ?_
  refine wv Qai ?_
  refine wm ?_
  rcases dcl k15 x0.length with ⟨hl23, g24⟩ | ⟨hl23, g24⟩
  ·
   refine wg vmv g24 ?_
   refine Qcr (Qr Qxo rfl) (fun W hm => Qaau W _ x0 (hm.rdS0 r5)) (Qcc rfl rfl rfl (bw g24 rfl)) (by decide) ?_
   refine wv (vpT g24) ?_
   refine wm ?_
   rcases bd (Qgx x0) with g26 | g26
   ·
    refine wg vmv g26 ?_
    refine Qcr (Qr Qxo rfl) (fun W hm => Qaau W _ x1 (hm.rdS0 r10)) (Qcc rfl rfl rfl (bw g26 rfl)) (by decide) ?_
    refine wv (vpT g26) ?_
    refine nt' ?_
    rcases bd (Qgx x1) with g28 | g28
    ·
     refine Ql rfl g28 ?_
     refine Qp (Qd (Qe (Qx (sr ?_))))
     iterate 3 refine wm ?_
     obtain ⟨a29, rfl, hb30, he31⟩ := q4 (by omega)
     refine wv (vix 1 k15 Qq Qf) ?_
     refine wv (fun W hm => Qaw Qs rfl rfl ((hm.cell0 (show (a29.add (k15 * 1)).block < w.heap.size from by rw [Qae]; exact hb30.1)).trans (Qdr he31 k15 (by omega)))) ?_
     refine wcv (Qr Qtv rfl) (fun W hm => Qvi W _ x1 (gt x0 k15) (hm.rdS0 r10)) ?_
     refine nt' ?_
     rcases bd (Qfd x1 (gt x0 k15)) with g33 | g33
     ·
      refine Ql rfl g33 ?_
      refine Qy ?_
      iterate 3 refine wm ?_
      refine wv (vix 1 k15 Qq Qf) ?_
      refine wv (fun W hm => Qaw Qs rfl rfl ((hm.cell0 (show (a29.add (k15 * 1)).block < w.heap.size from by rw [Qae]; exact hb30.1)).trans (Qdr he31 k15 (by omega)))) ?_
      refine Qde (cs := [iV (gt x0 k15)]) Qq Qf rfl (by decide) (by decide) rfl (by kernel_rfl) (Qk rfl) (by decide) (fun p34 => ?_)
      refine ap1 Qa 3 (.slice A17 d16.length c18) d16 (gt x0 k15) [] [] [iV (gt x0 k15)] idM (fun _ _ hs => by cases (Sep.nil hs); exact (Qhq Qck Qhr)) Qq Qf (show (d16.length + 1) * 8 ≤ 140737488355328 from by omega) (fun v35 => ?_)
      refine fm 0 ?_
      rintro A36 c37 rfl m38
      refine wa (Qac (Qam (Qd (Qy (wm ?_)))))
      refine wv (Qal k15 1 (by omega)) ?_
      refine wa (Qac ?_)
      exact Qan (k15 + 1, (d16 ++ [(gt x0 k15)]), (A36, c37)) sl4 idM ⟨(by omega), nxb hF20 (Qb g26 (Qb g28 (Qb g33 (rfl)))), (show (d16 ++ [(gt x0 k15)]).length ≤ 0 + (k15 + 1) from by first | omega | (simp only [List.length_append, List.length_cons, List.length_nil] at *; omega))⟩ rl
     refine Qm rfl g33 ?_
     refine Qp (Qam (Qd (Qy (wm ?_))))
     refine wv (Qal k15 1 (by omega)) ?_
     refine wa (Qac ?_)
     exact Qan (k15 + 1, d16, (A17, c18)) sl4 idM ⟨(by omega), nxb hF20 (Qb g26 (Qb g28 (Qc g33 (rfl)))), (show d16.length ≤ 0 + (k15 + 1) from by first | omega | (simp only [List.length_append, List.length_cons, List.length_nil] at *; omega))⟩ rl
    refine Qm rfl g28 ?_
    refine Qay (Qu (Qu (Qaz ?_)))
    exact Qfh (d16, (A17, c18)) (Qbu rfl Qgo) idM (nbb hF20 (Qb g26 (Qc g28 (rfl))))
   refine ws g26 ?_
   refine ws g26 ?_
   refine wv (vpF g26) ?_
   refine nt' ?_
   refine Qm rfl rfl ?_
   refine Qay (Qu (Qu (Qaz ?_)))
   exact Qfh (d16, (A17, c18)) (Qbu rfl Qgo) idM (nbb hF20 (Qc g26 (rfl)))
  iterate 7 first | refine ws g24 ?_ | refine wv (vpF g24) ?_ | refine wm ?_ | refine wk ?_ | refine wv (vpF rfl) ?_
  refine nt' ?_
  refine Qm rfl rfl ?_
  refine Qay (Qu (Qu (Qaz ?_)))
  have hE44 := Qva hl23 hF20
  exact Qfh (d16, (A17, c18)) (Qbu rfl Qgo) idM hE44
 rintro ⟨d16, ⟨A17, c18⟩⟩ H46
 dsimp only at H46
 show QM 36 _ _ _ .normal [(5, .slice A17 d16.length c18)] [iS Qa 3 A17 c18 d16]
 refine Qd (sr (wm (wa (nt' (Qj ?_)))))
 have he47 := (show Qla x0 x1 = d16 from Qar H46 (rfl))
 refine Qcu rfl (Qdl rfl) (fun W hm => ⟨.slice A17 d16.length c18, ?_, ?_⟩)
 ·first | rw [he47] | rfl
 rw [he47]; exact hm

theorem Qaaj {R S : Type} {b : Nat → S → R ⊕ S} {b' : Nat → S → R ⊕ (S ⊕ S)} (h : ∀ j s, b' j s = Sum.elim Sum.inl (fun s => Sum.inr (Sum.inr s)) (b j s)) : ∀ m k s, Qdo b' m k s = rng b m k s
  | 0, _, _ => rfl
  | m + 1, k, s => by
    rw [Qdo, rng, h]
    cases b k s with
    | inl r => rfl
    | inr s' => exact Qaaj h m (k + 1) s'
theorem Qaih (x y : List Int) : Qla x y = cond (Qgx x && Qgx y) (x.filter fun z => Qfd y z) [] := by
  unfold Qla
  cases hx : Qgx x with
  | false => rw [Qaak (fun j s => by unfold Qsu; rw [hx]; rfl)]; rfl
  | true =>
    cases hy : Qgx y with
    | false => rw [Qaak (fun j s => by unfold Qsu; rw [hx, hy]; rfl)]; rfl
    | true =>
      rw [Qaaj (b := fun k d => cond (Qfd y (gt x k)) (Sum.inr (d ++ [gt x k])) (Sum.inr d)) (fun j s => by unfold Qsu; rw [hx, hy, cond_true, cond_true]; cases Qfd y (gt x j) <;> rfl)]
      rw [Qgv (xs := x) (f := fun d z => cond (Qfd y z) (d ++ [z]) d) (b := fun k d => cond (Qfd y (gt x k)) (Sum.inr (d ++ [gt x k])) (Sum.inr d)) (fun j s _ => by cases Qfd y (gt x j) <;> rfl), Qaet]
      rfl
theorem Qaev : ∀ (l : List Qat) (d : List Int), (l.foldl (fun d q => d ++ [q.Id]) d).length = d.length + l.length
  | [], _ => rfl
  | q :: l, d => by
    have h := Qaev l (d ++ [q.Id])
    simp only [List.length_append, List.length_cons, List.length_nil] at h ⊢
    rw [List.foldl_cons, h]
    omega
theorem Qbbt (l : List Qat) : (Qkd l).length ≤ l.length := by
  unfold Qkd
  rw [Qgv (xs := l) (f := fun d q => d ++ [q.Id]) (b := fun k s => Qvs l k s) (fun _ _ _ => rfl)]
  have h := Qaev l []
  show (l.foldl (fun d q => d ++ [q.Id]) []).length ≤ _
  rw [h]
  simp
theorem Qbat {B : Nat} {l : List Qcp} (h : ∀ z ∈ l, Qvg B z) (v : Int) : (Qfz l v).length ≤ B := by
  unfold Qfz
  rcases Qsp (P := fun (r : List Int) => r.length ≤ B) (n := l.length) (b := fun k (_ : Unit) => Qlv l v k) (fun j hj => by
    show (∃ r, Qlv l v j = _ ∧ _) ∨ Qlv l v j = _
    unfold Qlv
    cases Qbk v (gt l j).From (gt l j).To
    · exact .inr rfl
    exact .inl ⟨_, rfl, h _ (Qak hj)⟩) (l.length - 0) 0 (by omega) with ⟨r, h1, h2⟩ | h1
  · rw [h1]; exact h2
  rw [h1]; exact Nat.zero_le _
theorem Qbba (x y : List Int) : (Qla x y).length ≤ x.length := by
  rw [Qaih]
  cases (Qgx x && Qgx y)
  · exact Nat.zero_le _
  exact List.length_filter_le _ _
def Qpc (x0 : Qgq) (x1 : Qab) (x2 : (List Int)) (k38 : Nat) (d39 : (List Int)) (s42 : Int) : ((List Int) × Int) ⊕ (((List Int) × Int) ⊕ ((List Int) × Int)) :=
 cond (decide (0 < ((d39.length : Nat) : Int))) (Sum.inr (Sum.inr ((Qla d39 (Qfz (gt x0.Fields ((gt x2 k38).toNat)) (gt x1.Values ((gt x2 k38).toNat)))), (IntKind.i64.wrap ((IntKind.i64.wrap (s42 + 1)) + (if (((Qfz (gt x0.Fields ((gt x2 k38).toNat)) (gt x1.Values ((gt x2 k38).toNat))).length : Nat) : Int) < ((d39.length : Nat) : Int) then (((Qfz (gt x0.Fields ((gt x2 k38).toNat)) (gt x1.Values ((gt x2 k38).toNat))).length : Nat) : Int) else ((d39.length : Nat) : Int))))))) (Sum.inr (Sum.inl (d39, s42)))
def Qke (x0 : Qgq) (x1 : Qab) (x2 : (List Int)) : ((List Int) × Int) :=
 Sum.elim id (fun (s : (List Int) × Int) => (s.1, s.2)) (Qdo (R := ((List Int) × Int)) (fun k (s : (List Int) × Int) => Qpc x0 x1 x2 k s.1 s.2) (x2.length - 0) 0 ((Qkd x0.Queries), 0))
theorem Qaos : Cb Tryz.prog 190 := ⟨f190, _, func190, rfl, by decide⟩
theorem Qbbv (w : World) (z0 : List Value) (x0 : Qgq) (z1 : List Value) (x1 : Qab) (z2 : Value) (x2 : (List Int)) (r_0 : Qmu.rd w w.heap.size z0 x0) (r_1 : Qap.rd w w.heap.size z1 x1) (r_2 : rdS Qa w w.heap.size z2 x2) (s_0 : Qvf 68719476736 x0) (s_1 : Qgm 68719476736 x1) (s_2 : x2.length ≤ 68719476736) (hf : x0.Fields.length = 3) (hv : x1.Values.length = 3) (ho : ∀ y ∈ x2, 0 ≤ y ∧ y ≤ 2) :
  Calls Tryz.prog 190 #[.agg z0.toArray, .agg z1.toArray, z2] w fun e w' => ∃ v : Value, e = .returned (.tuple #[v, iV ((Qke x0 x1 x2).2)]) ∧ Mem w.heap.size w [Qn (tSl Qa 3) [v] (Qke x0 x1 x2).1] w' := by
 obtain ⟨v1, v3, rfl, r2, r4⟩ := Qbdb r_0
 obtain ⟨m5, A6, c7, rfl, q8, r9⟩ := Qi r2
 obtain ⟨m10, A11, c12, rfl, q13, r14⟩ := Qi r4
 obtain ⟨v15, rfl, r16⟩ := Qin r_1
 obtain ⟨m17, A18, c19, rfl, q20, r21⟩ := Qi r16
 obtain ⟨m22, A23, c24, rfl, q25, r26⟩ := Qi r_2
 have l27 := s_0.1.1
 have l28 := s_0.2.1
 have l29 : x1.Values.length ≤ 68719476736 := s_1
 have l30 : x2.length ≤ 68719476736 := s_2
 refine ce3 (L := [(0, .agg #[.slice A6 x0.Queries.length c7, .slice A11 x0.Fields.length c12]), (1, .agg #[iV x1.Id, .slice A18 x1.Values.length c19]), (2, .slice A23 x2.length c24)]) (N := 56) func190 ?_
 refine sr ?_
 refine Qbn rfl (Qk rfl) (by decide) (fun p31 => ?_)
 refine Qbn rfl (Qk rfl) (by decide) (fun p32 => ?_)
 refine wa (wa (nt' (sr ?_)))
 refine wv (vf Qpi rfl type201) ?_
 refine wv (vl 1 0 Qhp) ?_
 refine wcl (tSl Qa 3) (Qkd x0.Queries) (Qr Qapg rfl) (fun W hm => Qbbs W _ x0.Queries (hm.rdS0 r9) s_0.1) (fun z33 => ?_)
 have ha := Qbbt x0.Queries
 refine fm 0 ?_
 rintro A34 c35 rfl m36
 refine wa (nt' (sr (wa (nt' (Qe (sr (wa (nt' ?_))))))))
 let F1 := fun k (s : (List Int) × Int) => Qpc x0 x1 x2 k s.1 s.2
 let K2 : List Value := [.slice A6 x0.Queries.length c7, .slice A11 x0.Fields.length c12]
 let I4 : It := Qh p32 70 [iV x1.Id, .slice A18 x1.Values.length c19]
 refine Qlj (σ := ((List Int) × Int) × (Option Addr × Nat)) (fun s => [(8, .slice s.2.1 s.1.1.length s.2.2), (9, iV s.1.2)]) (fun s => [iS Qa 3 s.2.1 s.2.2 s.1.1, I4, Qh p31 204 K2]) (fun s => Qdo (R := ((List Int) × Int)) F1 (x2.length - 0) 0 ((Qkd x0.Queries), 0) = Sum.inr s.1) ?_ ?_
 ·
  refine Qx ?_
  refine Qth (S := (List Int) × Int) (R := Option Addr × Nat) F1 x2.length 0 ((Qkd x0.Queries), 0) (A34, c35) (fun s => [(2, .slice A23 x2.length c24), (3, bp p31), (4, bp p32), (8, .slice s.2.2.1 s.2.1.1.length s.2.2.2), (9, iV s.2.1.2), (10, nI s.1)]) (fun s => [iS Qa 3 s.2.2.1 s.2.2.2 s.2.1.1, I4, Qh p31 204 K2]) (fun s => s.2.1.1.length ≤ 68719476736) sl6 (by have := s_0.1.1; dsimp only; omega) ?_
  rintro ⟨k38, ⟨d39, s42⟩, ⟨A40, c41⟩⟩ H45 _ _ e e'
  dsimp only at H45 ⊢
  subst e e'
  obtain ⟨hk43, hF44, hi46⟩ := H45
  refine Qe (sr (wm (wm ?_)))
  refine wv (Qag Qq) ?_
  refine wv Qai ?_
  refine wm ?_
  rcases dcl k38 x2.length with ⟨hl47, g48⟩ | ⟨hl47, g48⟩
  ·
   have hq := ho _ (Qak (show k38 < x2.length from by omega))
   refine wg vmv g48 ?_
   refine wg (Qag Qq) g48 ?_
   refine wg (fun W hm => Qem rfl rfl) g48 ?_
   refine wv (vpT g48) ?_
   refine nt' ?_
   rcases dcd (0 < ((d39.length : Nat) : Int)) with ⟨h49, g50⟩ | ⟨h49, g50⟩
   ·
    refine Ql rfl g50 ?_
    refine Qp (Qd (Qe (Qx (Qe ?_))))
    obtain ⟨a51, rfl, hb52, he53⟩ := q25 (by omega)
    obtain ⟨a54, rfl, hb55, he56⟩ := q13 (by omega)
    obtain ⟨_, e58, hc57⟩ := he56 ((gt x2 k38).toNat) _ (Qbs (show ((gt x2 k38).toNat) < x0.Fields.length from by omega))
    have l59 : (gt x0.Fields ((gt x2 k38).toNat)).length ≤ 68719476736 := (s_0.2.2 _ (Qak (show ((gt x2 k38).toNat) < x0.Fields.length from by omega))).1
    obtain ⟨v60, rfl, r61⟩ := e58
    obtain ⟨m62, A63, c64, rfl, q65, r66⟩ := Qi r61
    obtain ⟨a67, rfl, hb68, he69⟩ := q20 (by omega)
    let K3 : List Value := [.slice A6 x0.Queries.length c7, .slice (some a54) x0.Fields.length c12]
    let I5 : It := Qh p32 70 [iV x1.Id, .slice (some a67) x1.Values.length c19]
    refine Qlj (σ := Option Addr × Nat) (fun s => [(2, .slice (some a51) x2.length c24), (3, bp p31), (4, bp p32), (8, .slice A40 d39.length c41), (9, iV s42), (10, nI k38), (11, .slice s.1 (Qfz (gt x0.Fields ((gt x2 k38).toNat)) (gt x1.Values ((gt x2 k38).toNat))).length s.2)]) (fun s => [iS Qa 3 s.1 s.2 (Qfz (gt x0.Fields ((gt x2 k38).toNat)) (gt x1.Values ((gt x2 k38).toNat))), iS Qa 3 A40 c41 d39, I5, Qh p31 204 K3]) (fun _ => True) ?_ ?_
    ·
     refine rb 18 (s := [iS Qa 3 A40 c41 d39]) (pk [0]) ?_
     refine qt 18 0 1 rfl (vf Qpi rfl type202) ?_
     refine qt 18 2 5 rfl vmv ?_
     refine qt 18 3 13 rfl vmv ?_
     refine qt 18 4 29 rfl (vix 1 k38 Qq Qf) ?_
     refine qt 18 5 61 rfl (fun W hm => Qaw Qs rfl rfl ((hm.cell0 (show (a51.add (k38 * 1)).block < w.heap.size from by rw [Qae]; exact hb52.1)).trans (Qdr he53 k38 (by omega)))) ?_
     refine qt 18 8 317 rfl (vf Qdv rfl Qao) ?_
     refine qt 18 10 1341 rfl vmv ?_
     refine qt 18 11 3389 rfl vmv ?_
     refine qt 18 12 7485 rfl (vix 1 k38 Qq Qf) ?_
     refine qt 18 13 15677 rfl (fun W hm => Qaw Qs rfl rfl ((hm.cell0 (show (a51.add (k38 * 1)).block < w.heap.size from by rw [Qae]; exact hb52.1)).trans (Qdr he53 k38 (by omega)))) ?_
     refine qa [1, 9] ?_
     refine qc 18 15679 rfl ?_ ?_
     ·
      refine wv (vl 2 1 Qre) ?_
      refine qn (pk [0]) ?_
      refine qt 18 6 15743 rfl (fun W hm => Qgl (sz := 1) (k := (gt x2 k38)) Qre type225 rfl rfl rfl (by omega) (by omega)) ?_
      refine qt 18 7 15871 rfl (fun W hm => Qaw Qju rfl rfl ((hm.cell0 (show (a54.add (((gt x2 k38).toNat) * 1)).block < w.heap.size from by rw [Qae]; exact hb55.1)).trans (hc57 0 _ rfl))) ?_
      refine qo 18 9 16383 rfl ?_
      refine wv (vl 1 1 Qq) ?_
      refine qn (pk [0]) ?_
      refine qt 18 14 32767 rfl (fun W hm => Qgl (sz := 1) (k := (gt x2 k38)) Qq Qf rfl rfl rfl (by omega) (by omega)) ?_
      refine qt 18 15 65535 rfl (fun W hm => Qaw Qs rfl rfl ((hm.cell0 (show (a67.add (((gt x2 k38).toNat) * 1)).block < w.heap.size from by rw [Qae]; exact hb68.1)).trans (Qdr he69 ((gt x2 k38).toNat) (by omega)))) ?_
      refine qo 18 16 131071 rfl ?_
      refine wcl (tSl Qa 3) (Qfz (gt x0.Fields ((gt x2 k38).toNat)) (gt x1.Values ((gt x2 k38).toNat))) (Qr Qaef rfl) (fun W hm => Qaia W _ (gt x0.Fields ((gt x2 k38).toNat)) (gt x1.Values ((gt x2 k38).toNat)) (hm.rdS0 r66) (s_0.2.2 _ (Qak (show ((gt x2 k38).toNat) < x0.Fields.length from by omega)))) (fun z75 => ?_)
      refine fm 0 ?_
      rintro A76 c77 rfl m78
      refine qn (pk [1]) ?_
      refine qt 18 17 262143 rfl (fun W hm => Qjd rfl) ?_
      refine Qed (by kernel_rfl) ?_
      exact Qfh (A76, c77) sl7 idM trivial
     refine qc 18 16189 rfl ?_ ?_
     ·
      refine wv (vl 1 1 Qq) ?_
      refine qn (pk [0]) ?_
      refine qt 18 14 32573 rfl (fun W hm => Qgl (sz := 1) (k := (gt x2 k38)) Qq Qf rfl rfl rfl (by omega) (by omega)) ?_
      refine qt 18 15 65341 rfl (fun W hm => Qaw Qs rfl rfl ((hm.cell0 (show (a67.add (((gt x2 k38).toNat) * 1)).block < w.heap.size from by rw [Qae]; exact hb68.1)).trans (Qdr he69 ((gt x2 k38).toNat) (by omega)))) ?_
      refine qo 18 1 65343 rfl ?_
      refine wv (vl 2 1 Qre) ?_
      refine qn (pk [0]) ?_
      refine qt 18 6 65407 rfl (fun W hm => Qgl (sz := 1) (k := (gt x2 k38)) Qre type225 rfl rfl rfl (by omega) (by omega)) ?_
      refine qt 18 7 65535 rfl (fun W hm => Qaw Qju rfl rfl ((hm.cell0 (show (a54.add (((gt x2 k38).toNat) * 1)).block < w.heap.size from by rw [Qae]; exact hb55.1)).trans (hc57 0 _ rfl))) ?_
      refine qo 18 16 131071 rfl ?_
      refine wcl (tSl Qa 3) (Qfz (gt x0.Fields ((gt x2 k38).toNat)) (gt x1.Values ((gt x2 k38).toNat))) (Qr Qaef rfl) (fun W hm => Qaia W _ (gt x0.Fields ((gt x2 k38).toNat)) (gt x1.Values ((gt x2 k38).toNat)) (hm.rdS0 r66) (s_0.2.2 _ (Qak (show ((gt x2 k38).toNat) < x0.Fields.length from by omega)))) (fun z80 => ?_)
      refine fm 0 ?_
      rintro A81 c82 rfl m83
      refine qn (pk [1]) ?_
      refine qt 18 17 262143 rfl (fun W hm => Qjd rfl) ?_
      refine Qed (by kernel_rfl) ?_
      exact Qfh (A81, c82) sl7 idM trivial
     exact Qtk
    rintro ⟨A71, c72⟩ -
    show QM 56 _ _ _ .normal [(2, .slice (some a51) x2.length c24), (3, bp p31), (4, bp p32), (8, .slice A40 d39.length c41), (9, iV s42), (10, nI k38), (11, .slice A71 (Qfz (gt x0.Fields ((gt x2 k38).toNat)) (gt x1.Values ((gt x2 k38).toNat))).length c72)] [iS Qa 3 A71 c72 (Qfz (gt x0.Fields ((gt x2 k38).toNat)) (gt x1.Values ((gt x2 k38).toNat))), iS Qa 3 A40 c41 d39, I5, Qh p31 204 K3]
    refine Qnd (n := 0) rfl ?_
    intro m85 m86
    refine Qd (sr (wm ?_))
    refine wv Qcy ?_
    refine wm ?_
    refine wv (Qag Qq) ?_
    refine wm ?_
    refine wv (Qag Qq) ?_
    refine wv (fun W hm => Qbab rfl rfl) ?_
    refine wv Qcy ?_
    refine wa (nt' (Qy (wm (wm ?_))))
    refine wcl (tSl Qa 3) (Qla d39 (Qfz (gt x0.Fields ((gt x2 k38).toNat)) (gt x1.Values ((gt x2 k38).toNat)))) (Qr Qaph rfl) (fun W hm => Qbaz W _ d39 _ (Qfz (gt x0.Fields ((gt x2 k38).toNat)) (gt x1.Values ((gt x2 k38).toNat))) (hm.rdSI (n := 1) rfl) (hm.rdSI (n := 0) rfl) (show _ ≤ 68719476736 from by omega) (Qbat (s_0.2.2 _ (Qak (by omega))).2 _)) (fun z87 => ?_)
    refine fm 0 ?_
    rintro A88 c89 rfl m90
    refine wa (Qac (Qam (Qd (Qy (wm ?_)))))
    refine wv (Qal k38 1 (by omega)) ?_
    refine wa (Qac ?_)
    exact Qan (k38 + 1, ((Qla d39 (Qfz (gt x0.Fields ((gt x2 k38).toNat)) (gt x1.Values ((gt x2 k38).toNat)))), (IntKind.i64.wrap ((IntKind.i64.wrap (s42 + 1)) + (if (((Qfz (gt x0.Fields ((gt x2 k38).toNat)) (gt x1.Values ((gt x2 k38).toNat))).length : Nat) : Int) < ((d39.length : Nat) : Int) then (((Qfz (gt x0.Fields ((gt x2 k38).toNat)) (gt x1.Values ((gt x2 k38).toNat))).length : Nat) : Int) else ((d39.length : Nat) : Int))))), (A88, c89)) sl6 (pk [0, 3, 4]) ⟨(by omega), nxb hF44 (Qb g50 (rfl)), (show (Qla d39 (Qfz (gt x0.Fields ((gt x2 k38).toNat)) (gt x1.Values ((gt x2 k38).toNat)))).length ≤ 68719476736 from by exact Nat.le_trans (Qbba _ _) hi46)⟩ rl
   refine Qm rfl g50 ?_
   refine Qay (Qu (Qu (Qaz ?_)))
   exact Qfh ((d39, s42), (A40, c41)) sl2 idM (nbb hF44 (Qc g50 (rfl)))
  iterate 4 first | refine ws g48 ?_ | refine wv (vpF g48) ?_
  refine nt' ?_
  refine Qm rfl rfl ?_
  refine Qay (Qu (Qu (Qaz ?_)))
  have hE94 := Qva hl47 hF44
  exact Qfh ((d39, s42), (A40, c41)) sl2 idM hE94
 rintro ⟨⟨d39, s42⟩, ⟨A40, c41⟩⟩ H96
 dsimp only at H96
 show QM 56 _ _ _ .normal [(8, .slice A40 d39.length c41), (9, iV s42)] [iS Qa 3 A40 c41 d39, I4, Qh p31 204 K2]
 refine Qd (sr (wm (wm (wa (wa (nt' (Qj ?_)))))))
 have he97 := (show Qke x0 x1 x2 = (d39, s42) from Qar H96 (rfl))
 refine Qic rfl (Qdl rfl) (Qdl rfl) (fun W hm => ⟨.slice A40 d39.length c41, ?_, ?_⟩)
 ·first | rw [he97] | rfl
  try rfl
 rw [he97]; exact (hm.pick [0] (by decide))

def Qqr (x0 : Qt) (x1 : Int) : Bool :=
 cond (decide (x0.Born ≤ x1)) (cond (x0.Died == (-1)) true (decide (x1 < x0.Died))) false
theorem Qadz : Cb Tryz.prog 191 := ⟨f191, _, func191, rfl, by decide⟩
theorem Qaig (w : World) (z0 : List Value) (x0 : Qt) (x1 : Int) (r_0 : Qaf.rd w w.heap.size z0 x0) :
  Calls Tryz.prog 191 #[.agg z0.toArray, iV x1] w (rB w (Qqr x0 x1)) := by
 obtain ⟨v1, rfl, r2⟩ := Qgd r_0
 obtain ⟨m3, A4, c5, rfl, q6, r7⟩ := Qi r2
 refine ce2 (L := [(0, .agg #[iV x0.Id, .slice A4 x0.Values.length c5, iV x0.Born, iV x0.Died]), (1, iV x1)]) (N := 20) func191 ?_
 refine sr ?_
 refine Qbn rfl (Qk rfl) (by decide) (fun p8 => ?_)
 refine wa (nt' (sr ?_))
 refine wv (vf Qbp rfl Qf) ?_
 refine wv (vl 0 2 Qs) ?_
 refine wm ?_
 refine wv (fun W hm => Qgw rfl rfl) ?_
 refine wm ?_
 rcases dcd (x0.Born ≤ x1) with ⟨h9, g10⟩ | ⟨h9, g10⟩
 ·
  refine wg (vf Qbp rfl Qf) g10 ?_
  refine wg (vl 0 3 Qs) g10 ?_
  refine wg (fun W hm => Qfe rfl rfl) g10 ?_
  refine wg vmv g10 ?_
  rcases dce x0.Died (-1) with ⟨h11, g12⟩ | ⟨h11, g12⟩
  ·
   iterate 4 refine ws g12 ?_
   refine wg (vpT g12) g10 ?_
   refine wv (vpT g10) ?_
   refine wa (nt' (Qj ?_))
   exact rtb (h := Qb g10 (Qb g12 (rfl)))
  refine wg (vf Qbp rfl Qf) g12 ?_
  refine wg (vl 0 3 Qs) g12 ?_
  refine wg vmv g12 ?_
  refine wg (fun W hm => Qem rfl rfl) g12 ?_
  refine wg (vpF g12) g10 ?_
  refine wv (vpT g10) ?_
  refine wa (nt' (Qj ?_))
  exact rtb (h := Qb g10 (Qc g12 (rfl)))
 iterate 10 first | refine ws g10 ?_ | refine wu ?_ | refine wv (vpF g10) ?_
 refine wa (nt' (Qj ?_))
 exact rtb (h := Qc g10 (rfl))

def Qvq (x0 : (List Int)) (x1 : Int) (k9 : Nat) (d10 : (List Int)) : (List Int) ⊕ ((List Int)) :=
 cond ((gt x0 k9) != x1) (Sum.inr (d10 ++ [(gt x0 k9)])) (Sum.inr d10)
def Qlx (x0 : (List Int)) (x1 : Int) : (List Int) :=
 Sum.elim id (fun (s : (List Int)) => s) (rng (R := (List Int)) (fun k (s : (List Int)) => Qvq x0 x1 k s) (x0.length - 0) 0 [])
theorem Qaot : Cb Tryz.prog 192 := ⟨f192, _, func192, rfl, by decide⟩
theorem Qbbm (w : World) (z0 : Value) (x0 : (List Int)) (x1 : Int) (r_0 : rdS Qa w w.heap.size z0 x0) (s_0 : x0.length ≤ 68719476736) :
  Calls Tryz.prog 192 #[z0, iV x1] w (rL w (tSl Qa 3) (Qlx x0 x1)) := by
 obtain ⟨m1, A2, c3, rfl, q4, r5⟩ := Qi r_0
 have l6 : x0.length ≤ 68719476736 := s_0
 refine ce2 (L := [(0, .slice A2 x0.length c3), (1, iV x1)]) (N := 28) func192 ?_
 refine sr (wa (nt' (sr ?_)))
 refine Qcf (E := Qa) Qq Qf (Qk rfl) (by decide) (fun p7 => ?_)
 refine wa (nt' (Qe (sr (wa (nt' (Qx ?_))))))
 refine Qbg (S := (List Int)) (R := Option Addr × Nat) (fun k (s : (List Int)) => Qvq x0 x1 k s) x0.length 0 [] ((sA p7), 0) (fun s => [(0, .slice A2 x0.length c3), (1, iV x1), (5, .slice s.2.2.1 s.2.1.length s.2.2.2), (6, nI s.1)]) (fun s => [iS Qa 3 s.2.2.1 s.2.2.2 s.2.1]) (fun s => s.2.1.length ≤ 0 + s.1) sl4 (Nat.le_refl _) ?_
 rintro ⟨k9, d10, ⟨A11, c12⟩⟩ H15 _ _ e e'
 dsimp only at H15 ⊢
 subst e e'
 obtain ⟨hk13, hF14, hi16⟩ := H15
 refine Qe (sr (wm (wm ?_)))
 refine wv (Qag Qq) ?_
 refine wv Qai ?_
 refine nt' ?_
 rcases dcl k9 x0.length with ⟨hl17, g18⟩ | ⟨hl17, g18⟩
 ·
  refine Ql rfl g18 ?_
  refine Qp (Qd (Qe (Qx (sr (wm (wm ?_))))))
  obtain ⟨a19, rfl, hb20, he21⟩ := q4 (by omega)
  refine wv (vix 1 k9 Qq Qf) ?_
  refine wv (fun W hm => Qaw Qs rfl rfl ((hm.cell0 (show (a19.add (k9 * 1)).block < w.heap.size from by rw [Qae]; exact hb20.1)).trans (Qdr he21 k9 (by omega)))) ?_
  refine wm ?_
  refine wv Qcj ?_
  refine nt' ?_
  rcases dcn (gt x0 k9) x1 with ⟨h22, g23⟩ | ⟨h22, g23⟩
  ·
   refine Qm rfl g23 ?_
   refine Qp (Qam (Qd (Qy (wm ?_))))
   refine wv (Qal k9 1 (by omega)) ?_
   refine wa (Qac ?_)
   exact Qan (k9 + 1, d10, (A11, c12)) sl4 idM ⟨(by omega), nx hF14 (Qc g23 (rfl)), (show d10.length ≤ 0 + (k9 + 1) from by first | omega | (simp only [List.length_append, List.length_cons, List.length_nil] at *; omega))⟩ rl
  refine Ql rfl g23 ?_
  refine Qy ?_
  iterate 3 refine wm ?_
  refine wv (vix 1 k9 Qq Qf) ?_
  refine wv (fun W hm => Qaw Qs rfl rfl ((hm.cell0 (show (a19.add (k9 * 1)).block < w.heap.size from by rw [Qae]; exact hb20.1)).trans (Qdr he21 k9 (by omega)))) ?_
  refine Qde (cs := [iV (gt x0 k9)]) Qq Qf rfl (by decide) (by decide) rfl (by kernel_rfl) (Qk rfl) (by decide) (fun p25 => ?_)
  refine ap1 Qa 3 (.slice A11 d10.length c12) d10 (gt x0 k9) [] [] [iV (gt x0 k9)] idM (fun _ _ hs => by cases (Sep.nil hs); exact (Qhq Qck Qhr)) Qq Qf (show (d10.length + 1) * 8 ≤ 140737488355328 from by omega) (fun v26 => ?_)
  refine fm 0 ?_
  rintro A27 c28 rfl m29
  refine wa (Qac (Qam (Qd (Qy (wm ?_)))))
  refine wv (Qal k9 1 (by omega)) ?_
  refine wa (Qac ?_)
  exact Qan (k9 + 1, (d10 ++ [(gt x0 k9)]), (A27, c28)) sl4 idM ⟨(by omega), nx hF14 (Qb g23 (rfl)), (show (d10 ++ [(gt x0 k9)]).length ≤ 0 + (k9 + 1) from by first | omega | (simp only [List.length_append, List.length_cons, List.length_nil] at *; omega))⟩ rl
 refine Qm rfl g18 ?_
 refine Qay (Qu (Qu ?_))
 have hE32 := Qbh hl17 hF14
 refine Qaz (Qd (sr (wm (wa (nt' (Qj ?_))))))
 have he33 := (show Qlx x0 x1 = d10 from Qar hE32 (rfl))
 refine Qcu rfl (Qdl rfl) (fun W hm => ⟨.slice A11 d10.length c12, ?_, ?_⟩)
 ·first | rw [he33] | rfl
 rw [he33]; exact hm

def Qcz (x0 : Int) (x1 : Int) (x2 : Int) : Bool :=
 cond (decide (x1 ≤ x0)) (decide (x0 ≤ x2)) false
theorem Qfn : Cb Tryz.prog 101 := ⟨f101, _, func101, rfl, by decide⟩
theorem Qfo (w : World) (x0 : Int) (x1 : Int) (x2 : Int) :
  Calls Tryz.prog 101 #[iV x0, iV x1, iV x2] w (rB w (Qcz x0 x1 x2)) := by
 refine ce3 (L := [(0, iV x0), (1, iV x1), (2, iV x2)]) (N := 15) func101 ?_
 refine sr (wa (nt' (sr (wm (wm ?_)))))
 refine wv (fun W hm => Qlu rfl rfl) ?_
 refine wm ?_
 rcases dcd (x1 ≤ x0) with ⟨h1, g2⟩ | ⟨h1, g2⟩
 ·
  refine wg vmv g2 ?_
  refine wg vmv g2 ?_
  refine wg (fun W hm => Qgw rfl rfl) g2 ?_
  refine wv (vpT g2) ?_
  refine wa (nt' (Qj ?_))
  exact rtb (h := Qb g2 (rfl))
 refine ws g2 ?_
 refine ws g2 ?_
 refine ws g2 ?_
 refine wv (vpF g2) ?_
 refine wa (nt' (Qj ?_))
 exact rtb (h := Qc g2 (rfl))

theorem Qgf {x a b : Int} (h : Qcz x a b = true) : a ≤ x ∧ x ≤ b := by
  unfold Qcz at h
  by_cases h1 : a ≤ x
  · rw [decide_eq_true h1] at h
    exact ⟨h1, of_decide_eq_true h⟩
  rw [decide_eq_false h1] at h
  cases h
theorem Qus (x a b : Int) : Qcz x a b = decide (a ≤ x ∧ x ≤ b) := by
  unfold Qcz
  by_cases h1 : a ≤ x
  · by_cases h2 : x ≤ b
    · simp [h1, h2]
    simp [h1, h2]
  simp [h1]

def Que (x0 : (List Int)) (k6 : Nat) : Bool ⊕ (Unit) :=
 cond (decide ((gt x0 k6) < 0)) (Sum.inl false) (cond (decide (24 ≤ (gt x0 k6))) (Sum.inl false) (cond (decide (0 < ((k6 : Nat) : Int))) (cond (decide ((gt x0 k6) ≤ (gt x0 (k6 - 1)))) (Sum.inl false) (Sum.inr ())) (Sum.inr ())))
def Qqa (x0 : (List Int)) : Bool :=
 Sum.elim id (fun (s : Unit) => true) (rng (R := Bool) (fun k (_ : Unit) => Que x0 k) (x0.length - 0) 0 ())
theorem Qaoh : Cb Tryz.prog 163 := ⟨f163, _, func163, rfl, by decide⟩
theorem Qasr (w : World) (z0 : Value) (x0 : (List Int)) (r_0 : rdS Qa w w.heap.size z0 x0) :
  Calls Tryz.prog 163 #[z0] w (rB w (Qqa x0)) := by
 obtain ⟨m1, A2, c3, rfl, q4, r5⟩ := Qi r_0
 refine ce1 (L := [(0, .slice A2 x0.length c3)]) (N := 32) func163 ?_
 refine sr (wa (nt' (Qe (sr (wm ?_)))))
 refine wv (Qag Qq) ?_
 refine wm (nt' (Qx ?_))
 refine Qbg (S := Unit) (R := Unit) (fun k (_ : Unit) => Que x0 k) x0.length 0 () () (fun s => [(0, .slice A2 x0.length c3), (5, .slice A2 x0.length c3), (6, nI x0.length), (7, nI s.1)]) (fun s => []) (fun s => True) sl4 trivial ?_
 rintro ⟨k6, ⟨⟩, ⟨⟩⟩ H9 _ _ e e'
 dsimp only at H9 ⊢
 subst e e'
 obtain ⟨hk7, hF8, _⟩ := H9
 refine sr ?_
 refine wv Qai ?_
 refine nt' (Qe ?_)
 rcases dcl k6 x0.length with ⟨hl10, g11⟩ | ⟨hl10, g11⟩
 ·
  refine Ql rfl g11 ?_
  refine Qp (Qd (Qe (Qx (sr (wm ?_)))))
  obtain ⟨a12, rfl, hb13, he14⟩ := q4 (by omega)
  refine wv (vix 1 k6 Qq Qf) ?_
  refine wv (fun W hm => Qaw Qs rfl rfl ((hm.cell0 (show (a12.add (k6 * 1)).block < w.heap.size from by rw [Qae]; exact hb13.1)).trans (Qdr he14 k6 (by omega)))) ?_
  refine wa (wa (nt' (sr (wm ?_))))
  refine wv Qai ?_
  refine wm ?_
  rcases dcd ((gt x0 k6) < 0) with ⟨h15, g16⟩ | ⟨h15, g16⟩
  ·
   iterate 16 first | refine ws g16 ?_ | refine wv (vpT g16) ?_ | refine wm ?_ | refine wk ?_ | refine wu ?_ | refine wv (vpT rfl) ?_
   refine nt' ?_
   refine Ql rfl rfl ?_
   refine sr (wa (nt' (Qj (Qaa (Qg (Qg (Qaa (Qg ?_))))))))
   exact rtb (h := Qbf (nr hF8 (Qb g16 (rfl))) rfl)
  refine wg vmv g16 ?_
  refine wg (fun W hm => Qlu rfl rfl) g16 ?_
  refine wv (vpF g16) ?_
  refine wm ?_
  rcases dcd (24 ≤ (gt x0 k6)) with ⟨h17, g18⟩ | ⟨h17, g18⟩
  ·
   iterate 12 first | refine ws g18 ?_ | refine wu ?_ | refine wv (vpT g18) ?_
   refine nt' ?_
   refine Ql rfl rfl ?_
   refine sr (wa (nt' (Qj (Qaa (Qg (Qg (Qaa (Qg ?_))))))))
   exact rtb (h := Qbf (nr hF8 (Qc g16 (Qb g18 (rfl)))) rfl)
  refine wg vmv g18 ?_
  refine wg (fun W hm => Qem rfl rfl) g18 ?_
  refine wg vmv g18 ?_
  rcases dcd (0 < ((k6 : Nat) : Int)) with ⟨h19, g20⟩ | ⟨h19, g20⟩
  ·
   refine wg vmv g20 ?_
   refine wg vmv g20 ?_
   refine wg (fun W hm => Qkz (p := k6) (q := 1) rfl rfl (by omega) (by omega)) g20 ?_
   refine wg (fun W hm => Qje (sz := 1) (k := k6 - 1) Qq Qf rfl rfl rfl (by omega)) g20 ?_
   refine wg (fun W hm => Qaw Qs rfl rfl ((hm.cell0 (show (a12.add ((k6 - 1) * 1)).block < w.heap.size from by rw [Qae]; exact hb13.1)).trans (Qdr he14 (k6 - 1) (by omega)))) g20 ?_
   refine wg vmv g20 ?_
   refine wg (fun W hm => Qlu rfl rfl) g20 ?_
   refine wg (vpT g20) g18 ?_
   refine wv (vpF g18) ?_
   refine nt' ?_
   rcases dcd ((gt x0 k6) ≤ (gt x0 (k6 - 1))) with ⟨h21, g22⟩ | ⟨h21, g22⟩
   ·
    refine Ql rfl g22 ?_
    refine sr (wa (nt' (Qj (Qaa (Qg (Qg (Qaa (Qg ?_))))))))
    exact rtb (h := Qbf (nr hF8 (Qc g16 (Qc g18 (Qb g20 (Qb g22 (rfl)))))) rfl)
   refine Qm rfl g22 ?_
   refine Qp (Qam (Qd (Qy ?_)))
   refine wv (Qal k6 1 (by omega)) ?_
   refine wm (Qac ?_)
   exact Qan (k6 + 1, (), ()) sl4 idM ⟨(by omega), nx hF8 (Qc g16 (Qc g18 (Qb g20 (Qc g22 (rfl))))), trivial⟩ rl
  iterate 7 refine ws g20 ?_
  refine wg (vpF g20) g18 ?_
  refine wv (vpF g18) ?_
  refine nt' ?_
  refine Qm rfl rfl ?_
  refine Qp (Qam (Qd (Qy ?_)))
  refine wv (Qal k6 1 (by omega)) ?_
  refine wm (Qac ?_)
  exact Qan (k6 + 1, (), ()) sl4 idM ⟨(by omega), nx hF8 (Qc g16 (Qc g18 (Qc g20 (rfl)))), trivial⟩ rl
 refine Qm rfl g11 ?_
 refine Qay (Qu (Qu ?_))
 have hE25 := Qbh hl10 hF8
 refine Qaz (Qd (sr (wa (nt' (Qj ?_)))))
 exact rtb (h := Qar hE25 (rfl))

def Qya (x0 : Qbc) (k31 : Nat) : Bool ⊕ (Unit) :=
 cond (Qcz (gt x0.Tenants k31) 0 3) (cond (Qcz (gt x0.Rows k31) 0 x0.Base) (Sum.inr ()) (Sum.inl false)) (Sum.inl false)
def Qol (x0 : Qbc) : Bool :=
 cond (Qqa x0.Ids) (cond (Qcz ((x0.Ids.length : Nat) : Int) 1 8) (cond (((x0.Tenants.length : Nat) : Int) != ((x0.Ids.length : Nat) : Int)) false (cond (((x0.Rows.length : Nat) : Int) != ((x0.Ids.length : Nat) : Int)) false (Sum.elim id (fun (s : Unit) => cond (Qcz x0.Segment 0 7) (Qcz x0.Base 0 4) false) (rng (R := Bool) (fun k (_ : Unit) => Qya x0 k) (x0.Ids.length - 0) 0 ())))) false) false
theorem Qand : Cb Tryz.prog 106 := ⟨f106, _, func106, rfl, by decide⟩
theorem Qasp (w : World) (z0 : List Value) (x0 : Qbc) (r_0 : Qaq.rd w w.heap.size z0 x0) :
  Calls Tryz.prog 106 #[.agg z0.toArray] w (rB w (Qol x0)) := by
 obtain ⟨v1, v3, v5, rfl, r2, r4, r6⟩ := Qjn r_0
 obtain ⟨m7, A8, c9, rfl, q10, r11⟩ := Qi r2
 obtain ⟨m12, A13, c14, rfl, q15, r16⟩ := Qi r4
 obtain ⟨m17, A18, c19, rfl, q20, r21⟩ := Qi r6
 refine ce1 (L := [(0, .agg #[iV x0.Segment, iV x0.Base, .slice A8 x0.Ids.length c9, .slice A13 x0.Tenants.length c14, .slice A18 x0.Rows.length c19])]) (N := 64) func106 ?_
 refine sr ?_
 refine Qbn rfl (Qk rfl) (by decide) (fun p22 => ?_)
 refine wa (nt' (sr ?_))
 refine wv (vf Qby rfl Qao) ?_
 refine wv (vl 0 2 Qq) ?_
 refine wv (Qag Qq) ?_
 refine wa (nt' (Qe (sr ?_)))
 refine wv (vf Qby rfl Qao) ?_
 refine wv (vl 0 2 Qq) ?_
 refine wcv (Qr Qaoh rfl) (fun W hm => Qasr W _ x0.Ids (hm.rdS0 r11)) ?_
 refine wv Qbr ?_
 refine wm ?_
 rcases bd (Qqa x0.Ids) with g24 | g24
 ·
  refine wg vmv (nt g24) ?_
  refine Qcr (Qr Qfn rfl) (fun W hm => Qfo W ((x0.Ids.length : Nat) : Int) 1 8) (Qcc rfl rfl rfl (bw (nt g24) rfl)) (by decide) ?_
  refine wg Qbr (nt g24) ?_
  refine wv (vpF (nt g24)) ?_
  refine wm ?_
  rcases bd (Qcz ((x0.Ids.length : Nat) : Int) 1 8) with g26 | g26
  ·
   have hw := Qgf g26
   refine wg (vf Qby rfl Qao) (nt g26) ?_
   refine wg (vl 0 3 Qq) (nt g26) ?_
   refine wg (Qag Qq) (nt g26) ?_
   refine wg vmv (nt g26) ?_
   refine wg Qcj (nt g26) ?_
   refine wv (vpF (nt g26)) ?_
   refine wm ?_
   rcases dcn ((x0.Tenants.length : Nat) : Int) ((x0.Ids.length : Nat) : Int) with ⟨h27, g28⟩ | ⟨h27, g28⟩
   ·
    refine wg (vf Qby rfl Qao) g28 ?_
    refine wg (vl 0 4 Qq) g28 ?_
    refine wg (Qag Qq) g28 ?_
    refine wg vmv g28 ?_
    refine wg Qcj g28 ?_
    refine wv (vpF g28) ?_
    refine nt' ?_
    rcases dcn ((x0.Rows.length : Nat) : Int) ((x0.Ids.length : Nat) : Int) with ⟨h29, g30⟩ | ⟨h29, g30⟩
    ·
     refine Qm rfl g30 ?_
     refine Qp (Qd (Qe (sr ?_)))
     refine wv (vf Qby rfl Qao) ?_
     refine wv (vl 0 2 Qq) ?_
     refine wv (Qag Qq) ?_
     refine wm (nt' (Qx ?_))
     refine Qbg (S := Unit) (R := Unit) (fun k (_ : Unit) => Qya x0 k) x0.Ids.length 0 () () (fun s => [(1, bp p22), (33, nI x0.Ids.length), (34, nI s.1)]) (fun s => [Qh p22 102 [iV x0.Segment, iV x0.Base, .slice A8 x0.Ids.length c9, .slice A13 x0.Tenants.length c14, .slice A18 x0.Rows.length c19]]) (fun s => True) sl3 trivial ?_
     rintro ⟨k31, ⟨⟩, ⟨⟩⟩ H34 _ _ e e'
     dsimp only at H34 ⊢
     subst e e'
     obtain ⟨hk32, hF33, _⟩ := H34
     refine sr ?_
     refine wv Qai ?_
     refine nt' (Qe ?_)
     rcases dcl k31 x0.Ids.length with ⟨hl35, g36⟩ | ⟨hl35, g36⟩
     ·
      refine Ql rfl g36 ?_
      refine Qp (Qd (Qe (Qx (sr (wm (wa (nt' (Qe ?_))))))))
      refine Qfa (by kernel_rfl) (by kernel_rfl) ?_
      refine qv (vf Qby rfl Qao) ?_
      refine qv (vl 0 3 Qq) ?_
      refine qm ?_
      obtain ⟨a37, rfl, hb38, he39⟩ := q15 (by omega)
      refine qv (vix 1 k31 Qq Qf) ?_
      refine qv (fun W hm => Qaw Qs rfl rfl ((hm.cell0 (show (a37.add (k31 * 1)).block < w.heap.size from by rw [Qae]; exact hb38.1)).trans (Qdr he39 k31 (by omega)))) ?_
      refine Qev (Qr Qfn rfl) (fun W hm => Qfo W (gt x0.Tenants k31) 0 3) (Qk rfl) (by decide) ?_
      refine qv Qbr ?_
      refine qm ?_
      rcases bd (Qcz (gt x0.Tenants k31) 0 3) with g41 | g41
      ·
       have hw := Qgf g41
       refine qg (vf Qby rfl Qao) (nt g41) ?_
       refine qg (vl 0 4 Qq) (nt g41) ?_
       refine qg vmv (nt g41) ?_
       obtain ⟨a42, rfl, hb43, he44⟩ := q20 (by omega)
       refine qg (vix 1 k31 Qq Qf) (nt g41) ?_
       refine qg (fun W hm => Qaw Qs rfl rfl ((hm.cell0 (show (a42.add (k31 * 1)).block < w.heap.size from by rw [Qae]; exact hb43.1)).trans (Qdr he44 k31 (by omega)))) (nt g41) ?_
       refine qg (vf Qby rfl Qf) (nt g41) ?_
       refine qg (vl 0 1 Qs) (nt g41) ?_
       refine Qev (Qr Qfn rfl) (fun W hm => Qfo W (gt x0.Rows k31) 0 x0.Base) (Qcc rfl rfl rfl (bw (nt g41) rfl)) (by decide) ?_
       refine qg Qbr (nt g41) ?_
       refine qv (vpF (nt g41)) ?_
       refine nq' ?_
       rcases bd (Qcz (gt x0.Rows k31) 0 x0.Base) with g46 | g46
       ·
        have hw := Qgf g46
        refine Qm rfl (nt g46) ?_
        refine Qp (Qam (Qd (Qy ?_)))
        refine wv (Qal k31 1 (by omega)) ?_
        refine wm (Qac ?_)
        exact Qan (k31 + 1, (), ()) sl3 idM ⟨(by omega), nx hF33 (Qb g41 (Qb g46 (rfl))), trivial⟩ rl
       refine Ql rfl (nf g46) ?_
       refine sr (wa (nt' (Qj (Qaa (Qg (Qg (Qaa (Qg ?_))))))))
       exact rtb (h := Qb g24 (Qb g26 (Qc g28 (Qc g30 (Qbf (nr hF33 (Qb g41 (Qc g46 (rfl)))) rfl)))))
      refine qs (nf g41) ?_
      refine qs (nf g41) ?_
      refine qs (nf g41) ?_
      refine qs (nf g41) ?_
      refine qs (nf g41) ?_
      refine qs (nf g41) ?_
      refine qs (nf g41) ?_
      refine qs (nf g41) ?_
      refine qs (nf g41) ?_
      refine qv (vpT (nf g41)) ?_
      refine nq' ?_
      refine Ql rfl rfl ?_
      refine sr (wa (nt' (Qj (Qaa (Qg (Qg (Qaa (Qg ?_))))))))
      exact rtb (h := Qb g24 (Qb g26 (Qc g28 (Qc g30 (Qbf (nr hF33 (Qc g41 (rfl))) rfl)))))
     refine Qm rfl g36 ?_
     refine Qay (Qu (Qu ?_))
     have hE48 := Qbh hl35 hF33
     refine Qaz (Qd (sr ?_))
     refine wv (vf Qby rfl Qf) ?_
     refine wv (vl 0 0 Qs) ?_
     refine wcv (Qr Qfn rfl) (fun W hm => Qfo W x0.Segment 0 7) ?_
     refine wm ?_
     rcases bd (Qcz x0.Segment 0 7) with g50 | g50
     ·
      have hw := Qgf g50
      refine wg (vf Qby rfl Qf) g50 ?_
      refine wg (vl 0 1 Qs) g50 ?_
      refine Qcr (Qr Qfn rfl) (fun W hm => Qfo W x0.Base 0 4) (Qcc rfl rfl rfl (bw g50 rfl)) (by decide) ?_
      refine wv (vpT g50) ?_
      refine wa (nt' (Qj ?_))
      exact rtb (h := Qb g24 (Qb g26 (Qc g28 (Qc g30 (Qar hE48 (Qb g50 (rfl)))))))
     iterate 4 first | refine ws g50 ?_ | refine wv (vpF g50) ?_
     refine wa (nt' (Qj ?_))
     exact rtb (h := Qb g24 (Qb g26 (Qc g28 (Qc g30 (Qar hE48 (Qc g50 (rfl)))))))
    refine Ql rfl g30 ?_
    refine sr (wa (nt' (Qj (Qg ?_))))
    exact rtb (h := Qb g24 (Qb g26 (Qc g28 (Qb g30 (rfl)))))
   iterate 6 first | refine ws g28 ?_ | refine wv (vpT g28) ?_
   refine nt' ?_
   refine Ql rfl rfl ?_
   refine sr (wa (nt' (Qj (Qg ?_))))
   exact rtb (h := Qb g24 (Qb g26 (Qb g28 (rfl))))
  refine ws (nf g26) ?_
  refine ws (nf g26) ?_
  refine ws (nf g26) ?_
  refine ws (nf g26) ?_
  refine ws (nf g26) ?_
  iterate 8 first | refine wv (vpT (nf g26)) ?_ | refine wm ?_ | refine wk ?_ | refine wv (vpT rfl) ?_
  refine nt' ?_
  refine Ql rfl rfl ?_
  refine sr (wa (nt' (Qj (Qg ?_))))
  exact rtb (h := Qb g24 (Qc g26 (rfl)))
 refine ws (nf g24) ?_
 refine ws (nf g24) ?_
 refine ws (nf g24) ?_
 iterate 15 first | refine wv (vpT (nf g24)) ?_ | refine wm ?_ | refine wk ?_ | refine wv (vpT rfl) ?_
 refine nt' ?_
 refine Ql rfl rfl ?_
 refine sr (wa (nt' (Qj (Qg ?_))))
 exact rtb (h := Qc g24 (rfl))

theorem Qbef {x : Qbc} (h : Qol x = true) : 1 ≤ x.Ids.length ∧ x.Tenants.length = x.Ids.length ∧ x.Rows.length = x.Ids.length := by
  unfold Qol Qcz at h
  cases h1 : Qqa x.Ids <;> rw [h1] at h
  · cases h
  by_cases h2 : 1 ≤ ((x.Ids.length : Nat) : Int)
  · by_cases h3 : ((x.Tenants.length : Nat) : Int) = ((x.Ids.length : Nat) : Int)
    · by_cases h4 : ((x.Rows.length : Nat) : Int) = ((x.Ids.length : Nat) : Int)
      · omega
      rw [bne_iff_ne.2 h4] at h
      revert h
      cases decide (1 ≤ ((x.Ids.length : Nat) : Int)) <;> cases decide (((x.Ids.length : Nat) : Int) ≤ 8) <;> cases (((x.Tenants.length : Nat) : Int) != ((x.Ids.length : Nat) : Int)) <;> intro h <;> cases h
    rw [bne_iff_ne.2 h3] at h
    revert h
    cases decide (1 ≤ ((x.Ids.length : Nat) : Int)) <;> cases decide (((x.Ids.length : Nat) : Int) ≤ 8) <;> intro h <;> cases h
  rw [decide_eq_false h2] at h
  cases h

def Qqf (x0 : Int) : Bool :=
 (Qcz x0 0 2)
theorem Qadt : Cb Tryz.prog 161 := ⟨f161, _, func161, rfl, by decide⟩
theorem Qafp (w : World) (x0 : Int) :
  Calls Tryz.prog 161 #[iV x0] w (rB w (Qqf x0)) := by
 refine ce1 (L := [(0, iV x0)]) (N := 5) func161 ?_
 refine sr (wa (nt' (sr (wm ?_))))
 refine wcv (Qr Qfn rfl) (fun W hm => Qfo W x0 0 2) ?_
 refine wa (nt' (Qj ?_))
 exact rtb (h := rfl)

def Qge (x0 : Qt) (x1 : Int) : Bool :=
 cond (decide (x0.Born ≤ x1)) (cond (x0.Died == (-1)) true (decide (x1 < x0.Died))) false
theorem Qtt : Cb Tryz.prog 141 := ⟨f141, _, func141, rfl, by decide⟩
theorem Quh (w : World) (z0 : List Value) (x0 : Qt) (x1 : Int) (r_0 : Qaf.rd w w.heap.size z0 x0) :
  Calls Tryz.prog 141 #[.agg z0.toArray, iV x1] w (rB w (Qge x0 x1)) := by
 obtain ⟨v1, rfl, r2⟩ := Qgd r_0
 obtain ⟨m3, A4, c5, rfl, q6, r7⟩ := Qi r2
 refine ce2 (L := [(0, .agg #[iV x0.Id, .slice A4 x0.Values.length c5, iV x0.Born, iV x0.Died]), (1, iV x1)]) (N := 20) func141 ?_
 refine sr ?_
 refine Qbn rfl (Qk rfl) (by decide) (fun p8 => ?_)
 refine wa (nt' (sr ?_))
 refine wv (vf Qbp rfl Qf) ?_
 refine wv (vl 0 2 Qs) ?_
 refine wm ?_
 refine wv (fun W hm => Qgw rfl rfl) ?_
 refine wm ?_
 rcases dcd (x0.Born ≤ x1) with ⟨h9, g10⟩ | ⟨h9, g10⟩
 ·
  refine wg (vf Qbp rfl Qf) g10 ?_
  refine wg (vl 0 3 Qs) g10 ?_
  refine wg (fun W hm => Qfe rfl rfl) g10 ?_
  refine wg vmv g10 ?_
  rcases dce x0.Died (-1) with ⟨h11, g12⟩ | ⟨h11, g12⟩
  ·
   iterate 4 refine ws g12 ?_
   refine wg (vpT g12) g10 ?_
   refine wv (vpT g10) ?_
   refine wa (nt' (Qj ?_))
   exact rtb (h := Qb g10 (Qb g12 (rfl)))
  refine wg (vf Qbp rfl Qf) g12 ?_
  refine wg (vl 0 3 Qs) g12 ?_
  refine wg vmv g12 ?_
  refine wg (fun W hm => Qem rfl rfl) g12 ?_
  refine wg (vpF g12) g10 ?_
  refine wv (vpT g10) ?_
  refine wa (nt' (Qj ?_))
  exact rtb (h := Qb g10 (Qc g12 (rfl)))
 iterate 10 first | refine ws g10 ?_ | refine wu ?_ | refine wv (vpF g10) ?_
 refine wa (nt' (Qj ?_))
 exact rtb (h := Qc g10 (rfl))

def Qix (x0 : Qt) (x1 : Qt) : Bool :=
 cond (Qge x0 x1.Born) true (Qge x1 x0.Born)
theorem Qads : Cb Tryz.prog 159 := ⟨f159, _, func159, rfl, by decide⟩
theorem Qafr (w : World) (z0 : List Value) (x0 : Qt) (z1 : List Value) (x1 : Qt) (r_0 : Qaf.rd w w.heap.size z0 x0) (r_1 : Qaf.rd w w.heap.size z1 x1) :
  Calls Tryz.prog 159 #[.agg z0.toArray, .agg z1.toArray] w (rB w (Qix x0 x1)) := by
 obtain ⟨v1, rfl, r2⟩ := Qgd r_0
 obtain ⟨m3, A4, c5, rfl, q6, r7⟩ := Qi r2
 obtain ⟨v8, rfl, r9⟩ := Qgd r_1
 obtain ⟨m10, A11, c12, rfl, q13, r14⟩ := Qi r9
 refine ce2 (L := [(0, .agg #[iV x0.Id, .slice A4 x0.Values.length c5, iV x0.Born, iV x0.Died]), (1, .agg #[iV x1.Id, .slice A11 x1.Values.length c12, iV x1.Born, iV x1.Died])]) (N := 15) func159 ?_
 refine sr ?_
 refine Qbn rfl (Qk rfl) (by decide) (fun p15 => ?_)
 refine Qbn rfl (Qk rfl) (by decide) (fun p16 => ?_)
 refine wa (nt' (sr ?_))
 refine wv (fun W hm => Qad (cs := [iV x0.Id, .slice A4 x0.Values.length c5, iV x0.Born, iV x0.Died]) Qbp Qbo rfl rfl (hm.boxCells (n := 1) rfl)) ?_
 refine wv (vf Qbp rfl Qf) ?_
 refine wv (vl 0 2 Qs) ?_
 refine wcv (Qr Qtt rfl) (fun W hm => Quh W _ x0 x1.Born (Qgy (x := x0) (hm.rdS0 r7))) ?_
 refine wm ?_
 rcases bd (Qge x0 x1.Born) with g18 | g18
 ·
  iterate 5 first | refine ws g18 ?_ | refine wv (vpT g18) ?_
  refine wa (nt' (Qj ?_))
  exact rtb (h := Qb g18 (rfl))
 refine wg (fun W hm => Qad (cs := [iV x1.Id, .slice A11 x1.Values.length c12, iV x1.Born, iV x1.Died]) Qbp Qbo rfl rfl (hm.boxCells (n := 0) rfl)) g18 ?_
 refine wg (vf Qbp rfl Qf) g18 ?_
 refine wg (vl 1 2 Qs) g18 ?_
 refine Qcr (Qr Qtt rfl) (fun W hm => Quh W _ x1 x0.Born (Qgy (x := x1) (hm.rdS0 r14))) (Qcc rfl rfl rfl (bw g18 rfl)) (by decide) ?_
 refine wv (vpF g18) ?_
 refine wa (nt' (Qj ?_))
 exact rtb (h := Qc g18 (rfl))

def Qyr (x0 : (List Int)) : (List Int) :=
 x0
theorem Qkl : Cb Tryz.prog 119 := ⟨f119, _, func119, rfl, by decide⟩
theorem Qatq (w : World) (z0 : Value) (x0 : (List Int)) (r_0 : rdS Qa w w.heap.size z0 x0) (s_0 : x0.length ≤ 68719476736) :
  Calls Tryz.prog 119 #[z0] w (rL w (tSl Qa 3) (Qyr x0)) := by
 obtain ⟨m1, A2, c3, rfl, q4, r5⟩ := Qi r_0
 have l6 : x0.length ≤ 68719476736 := s_0
 refine ce1 (L := [(0, .slice A2 x0.length c3)]) (N := 6) func119 ?_
 refine sr (wa (nt' (sr ?_)))
 refine Qcf (E := Qa) Qq Qf (Qk rfl) (by decide) (fun p7 => ?_)
 refine wm ?_
 refine apR Qa Qa 3 (.slice (sA p7) 0 0) [] x0 [] idM (fun W hm => Qdi Qcv (hm.rdS0 r5)) Qq Qf (show (0 + x0.length) * 8 ≤ 140737488355328 from by omega) (fun v9 => ?_)
 refine fm 0 ?_
 rintro A10 c11 rfl m12
 refine wa (nt' (Qj ?_))
 have he14 := (show Qyr x0 = x0 from rfl)
 refine Qcu rfl (Qdl rfl) (fun W hm => ⟨.slice A10 x0.length c11, ?_, ?_⟩)
 ·first | rw [he14] | rfl
 rw [he14]; exact hm
theorem Qatr (x0 : (List Int)) : Qyr x0 = x0 := by
 rfl
theorem Qko (w : World) (z0 : Value) (x0 : (List Int)) (r_0 : rdS Qa w w.heap.size z0 x0) (s_0 : x0.length ≤ 68719476736) :
  Calls Tryz.prog 119 #[z0] w (rL w (tSl Qa 3) x0) := by
 have h := Qatq w z0 x0 r_0 s_0
 rw [Qatr] at h
 exact h

def Qhb (x0 : Qt) : Qab :=
 (⟨x0.Id, x0.Values⟩ : Qab)
theorem Qadm : Cb Tryz.prog 142 := ⟨f142, _, func142, rfl, by decide⟩
theorem Qaft (w : World) (z0 : List Value) (x0 : Qt) (r_0 : Qaf.rd w w.heap.size z0 x0) (s_0 : Qhu 68719476736 x0) :
  Calls Tryz.prog 142 #[.agg z0.toArray] w (rO w Qap (Qhb x0)) := by
 obtain ⟨v1, rfl, r2⟩ := Qgd r_0
 obtain ⟨m3, A4, c5, rfl, q6, r7⟩ := Qi r2
 have l8 : x0.Values.length ≤ 68719476736 := s_0
 refine ce1 (L := [(0, .agg #[iV x0.Id, .slice A4 x0.Values.length c5, iV x0.Born, iV x0.Died])]) (N := 9) func142 ?_
 refine sr ?_
 refine Qbn rfl (Qk rfl) (by decide) (fun p9 => ?_)
 refine Qbm Qcg rfl (Qk rfl) (by decide) (fun p10 => ?_)
 refine nt' (Qe ?_)
 let K1 : List Value := [iV x0.Id, .slice A4 x0.Values.length c5, iV x0.Born, iV x0.Died]
 refine rd2 7 [6] (s := [Qh p9 163 K1]) (s2 := [Qh p10 70 [iV 0, .slice none 0 0], Qh p9 163 K1]) (pk [1]) idM ?_
 refine qtD 7 0 1 rfl (vf Qbp rfl Qf) ?_
 refine qtD 7 1 3 rfl (vl 1 0 Qs) ?_
 refine qtD 7 2 7 rfl (vf Qbp rfl Qao) ?_
 refine qtD 7 3 15 rfl (vl 1 1 Qq) ?_
 refine qoD 7 4 31 rfl ?_
 refine wcl (tSl Qa 3) x0.Values (Qr Qkl rfl) (fun W hm => Qko W _ x0.Values (hm.rdS0 r7) s_0) (fun z11 => ?_)
 refine fm 0 ?_
 rintro A12 c13 rfl m14
 refine qnD (pk [2]) (pk [1, 2]) ?_
 refine qtD 7 5 63 rfl (fun W hm => Qef (cs := [iV x0.Id, .slice A12 x0.Values.length c13]) rfl (by kernel_rfl)) ?_
 refine qoD 7 6 127 rfl ?_
 refine sb 0 [iV x0.Id, .slice A12 x0.Values.length c13] [iS Qa 3 A12 c13 x0.Values, Qh p9 163 K1] (pk [1, 0, 2]) Qcg ?_
 refine qxD (pk [2]) ?_
 refine Qed (by kernel_rfl) ?_
 refine Qd (Qj ?_)
 have he16 := (show Qhb x0 = (⟨x0.Id, x0.Values⟩ : Qab) from rfl)
 refine Qcu rfl (Qdp (n := 0) rfl rfl Qdv Qcg rfl) (fun W hm => ⟨[iV x0.Id, .slice A12 x0.Values.length c13], ?_, ?_⟩)
 ·first | rw [he16] | rfl
 rw [he16]; exact Mem.join (is := [iS Qa 3 A12 c13 x0.Values]) (js := []) (fun _ _ hs => Qjq (x := (⟨x0.Id, x0.Values⟩ : Qab)) hs) (hm.pick [1] (by decide))

def Qafg (x0 : Qab) (k9 : Nat) : Bool ⊕ (Unit) :=
 cond (Qcz (gt x0.Values k9) 0 99) (Sum.inr ()) (Sum.inl false)
def Qml (x0 : Qab) : Bool :=
 Sum.elim id (fun (s : Unit) => cond (Qcz x0.Id 0 999) (((x0.Values.length : Nat) : Int) == 3) false) (rng (R := Bool) (fun k (_ : Unit) => Qafg x0 k) (x0.Values.length - 0) 0 ())
theorem Qxn : Cb Tryz.prog 143 := ⟨f143, _, func143, rfl, by decide⟩
theorem Qye (w : World) (z0 : List Value) (x0 : Qab) (r_0 : Qap.rd w w.heap.size z0 x0) :
  Calls Tryz.prog 143 #[.agg z0.toArray] w (rB w (Qml x0)) := by
 obtain ⟨v1, rfl, r2⟩ := Qin r_0
 obtain ⟨m3, A4, c5, rfl, q6, r7⟩ := Qi r2
 refine ce1 (L := [(0, .agg #[iV x0.Id, .slice A4 x0.Values.length c5])]) (N := 25) func143 ?_
 refine sr ?_
 refine Qbn rfl (Qk rfl) (by decide) (fun p8 => ?_)
 refine wa (nt' (Qe (sr ?_)))
 refine wv (vf Qdv rfl Qao) ?_
 refine wv (vl 0 1 Qq) ?_
 refine wv (Qag Qq) ?_
 refine wm (nt' (Qx ?_))
 refine Qbg (S := Unit) (R := Unit) (fun k (_ : Unit) => Qafg x0 k) x0.Values.length 0 () () (fun s => [(1, bp p8), (6, .slice A4 x0.Values.length c5), (7, nI x0.Values.length), (8, nI s.1)]) (fun s => [Qh p8 70 [iV x0.Id, .slice A4 x0.Values.length c5]]) (fun s => True) sl4 trivial ?_
 rintro ⟨k9, ⟨⟩, ⟨⟩⟩ H12 _ _ e e'
 dsimp only at H12 ⊢
 subst e e'
 obtain ⟨hk10, hF11, _⟩ := H12
 refine sr ?_
 refine wv Qai ?_
 refine nt' (Qe ?_)
 rcases dcl k9 x0.Values.length with ⟨hl13, g14⟩ | ⟨hl13, g14⟩
 ·
  refine Ql rfl g14 ?_
  refine Qp (Qd (Qe (Qx (sr ?_))))
  obtain ⟨a15, rfl, hb16, he17⟩ := q6 (by omega)
  refine wv (vix 1 k9 Qq Qf) ?_
  refine wv (fun W hm => Qaw Qs rfl rfl ((hm.cell0 (show (a15.add (k9 * 1)).block < w.heap.size from by rw [Qae]; exact hb16.1)).trans (Qdr he17 k9 (by omega)))) ?_
  refine wa (nt' (sr (wm ?_)))
  refine wcv (Qr Qfn rfl) (fun W hm => Qfo W (gt x0.Values k9) 0 99) ?_
  refine wv Qbr ?_
  refine nt' ?_
  rcases bd (Qcz (gt x0.Values k9) 0 99) with g19 | g19
  ·
   have hw := Qgf g19
   refine Qm rfl (nt g19) ?_
   refine Qp (Qam (Qd (Qy ?_)))
   refine wv (Qal k9 1 (by omega)) ?_
   refine wm (Qac ?_)
   exact Qan (k9 + 1, (), ()) sl4 idM ⟨(by omega), nx hF11 (Qb g19 (rfl)), trivial⟩ rl
  refine Ql rfl (nf g19) ?_
  refine sr (wa (nt' (Qj (Qaa (Qg (Qg (Qaa (Qg ?_))))))))
  exact rtb (h := Qbf (nr hF11 (Qc g19 (rfl))) rfl)
 refine Qm rfl g14 ?_
 refine Qay (Qu (Qu ?_))
 have hE21 := Qbh hl13 hF11
 refine Qaz (Qd (sr ?_))
 refine wv (vf Qdv rfl Qf) ?_
 refine wv (vl 0 0 Qs) ?_
 refine wcv (Qr Qfn rfl) (fun W hm => Qfo W x0.Id 0 999) ?_
 refine wm ?_
 rcases bd (Qcz x0.Id 0 999) with g23 | g23
 ·
  have hw := Qgf g23
  refine wg (vf Qdv rfl Qao) g23 ?_
  refine wg (vl 0 1 Qq) g23 ?_
  refine wg (Qag Qq) g23 ?_
  refine wg (fun W hm => Qfe rfl rfl) g23 ?_
  refine wv (vpT g23) ?_
  refine wa (nt' (Qj ?_))
  exact rtb (h := Qar hE21 (Qb g23 (rfl)))
 iterate 5 first | refine ws g23 ?_ | refine wv (vpF g23) ?_
 refine wa (nt' (Qj ?_))
 exact rtb (h := Qar hE21 (Qc g23 (rfl)))

end Go.Proofs.YtdlminfjdodjoaaGreat
