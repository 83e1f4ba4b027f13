/-
  Contracts of functions, printed by a program of ours.
-/
import Derived.Test.YtdlminfjdodjoaaGreatL4F2
namespace Go.Proofs.YtdlminfjdodjoaaGreat
open Go.RowKit
set_option maxRecDepth 100000
set_option maxHeartbeats 4000000
open _root_.Go.Proofs.Tryz
def Qrq (x0 : Qau) (k16 : Nat) (k41 : Nat) (d42 : (List Qt)) (k77 : Nat) : Bool ⊕ (Unit) :=
 cond (((gt (gt x0.Segments k16) k41).Id) == ((gt d42 k77).Id)) (cond (Qix (gt (gt x0.Segments k16) k41) (gt d42 k77)) (Sum.inl false) (Sum.inr ())) (Sum.inr ())
def Qyf (x0 : Qau) (k16 : Nat) (k41 : Nat) (d42 : (List Qt)) (k112 : Nat) : Bool ⊕ (Unit) :=
 cond (((gt (gt x0.Segments k16) k41).Id) == ((gt d42 k112).Id)) (cond (Qix (gt (gt x0.Segments k16) k41) (gt d42 k112)) (Sum.inl false) (Sum.inr ())) (Sum.inr ())
def Qug (x0 : Qau) (k16 : Nat) (k41 : Nat) (d42 : (List Qt)) : Bool ⊕ ((List Qt)) :=
 cond (Qml (Qhb (gt (gt x0.Segments k16) k41))) (cond (Qcz ((gt (gt x0.Segments k16) k41).Born) 0 x0.Now) (cond (((gt (gt x0.Segments k16) k41).Died) != (-1)) (cond (Qcz ((gt (gt x0.Segments k16) k41).Died) (IntKind.i64.wrap (((gt (gt x0.Segments k16) k41).Born) + 1)) x0.Now) (Sum.elim Sum.inl (fun (s : Unit) => Sum.inr (d42 ++ [(gt (gt x0.Segments k16) k41)])) (rng (R := Bool) (fun k (_ : Unit) => Qyf x0 k16 k41 d42 k) (d42.length - 0) 0 ())) (Sum.inl false)) (Sum.elim Sum.inl (fun (s : Unit) => Sum.inr (d42 ++ [(gt (gt x0.Segments k16) k41)])) (rng (R := Bool) (fun k (_ : Unit) => Qrq x0 k16 k41 d42 k) (d42.length - 0) 0 ()))) (Sum.inl false)) (Sum.inl false)
def Quf (x0 : Qau) (k16 : Nat) (d17 : (List Qt)) : Bool ⊕ ((List Qt)) :=
 cond (decide (4 < ((((gt x0.Segments k16)).length : Nat) : Int))) (Sum.inl false) (Sum.elim Sum.inl (fun (s : (List Qt)) => Sum.inr s) (rng (R := Bool) (fun k (s : (List Qt)) => Qug x0 k16 k s) (((gt x0.Segments k16)).length - 0) 0 d17))
def Qlr (x0 : Qau) : Bool :=
 cond (Qcz ((x0.Segments.length : Nat) : Int) 1 8) (cond (Qcz x0.Now 0 100000) (Sum.elim id (fun (s : (List Qt)) => true) (rng (R := Bool) (fun k (s : (List Qt)) => Quf x0 k s) (x0.Segments.length - 0) 0 [])) false) false
theorem Qadf : Cb Tryz.prog 100 := ⟨f100, _, func100, rfl, by decide⟩
theorem Qafh (w : World) (z0 : List Value) (x0 : Qau) (r_0 : Qdm.rd w w.heap.size z0 x0) (s_0 : Qgh 68719476736 x0) :
  Calls Tryz.prog 100 #[.agg z0.toArray] w (rB w (Qlr x0)) := by
 obtain ⟨v1, rfl, r2⟩ := Qjs r_0
 obtain ⟨m3, A4, c5, rfl, q6, r7⟩ := Qi r2
 have l8 : x0.Segments.length ≤ 68719476736 := s_0.1
 refine ce1 (L := [(0, .agg #[.slice A4 x0.Segments.length c5, iV x0.Now])]) (N := 89) func100 ?_
 refine sr ?_
 refine Qbn rfl (Qk rfl) (by decide) (fun p9 => ?_)
 refine wa (nt' (Qe (sr ?_)))
 refine wv (vf Qbw rfl Qea) ?_
 refine wv (vl 0 0 Qbz) ?_
 refine wv (Qag Qbz) ?_
 refine wcv (Qr Qfn rfl) (fun W hm => Qfo W ((x0.Segments.length : Nat) : Int) 1 8) ?_
 refine wv Qbr ?_
 refine wm ?_
 rcases bd (Qcz ((x0.Segments.length : Nat) : Int) 1 8) with g11 | g11
 ·
  have hw := Qgf g11
  refine wg (vf Qbw rfl Qf) (nt g11) ?_
  refine wg (vl 0 1 Qs) (nt g11) ?_
  refine Qcr (Qr Qfn rfl) (fun W hm => Qfo W x0.Now 0 100000) (Qcc rfl rfl rfl (bw (nt g11) rfl)) (by decide) ?_
  refine wg Qbr (nt g11) ?_
  refine wv (vpF (nt g11)) ?_
  refine nt' ?_
  rcases bd (Qcz x0.Now 0 100000) with g13 | g13
  ·
   have hw := Qgf g13
   refine Qm rfl (nt g13) ?_
   refine Qp (Qd (sr ?_))
   refine Qcf (E := (Qes Qaf w w.heap.size)) Qbv Qbo (Qk rfl) (by decide) (fun p14 => ?_)
   refine wa (nt' (Qe (sr ?_)))
   refine wv (vf Qbw rfl Qea) ?_
   refine wv (vl 1 0 Qbz) ?_
   refine wv (Qag Qbz) ?_
   refine wm (nt' (Qx ?_))
   refine Qbg (S := (List Qt)) (R := Option Addr × Nat) (fun k (s : (List Qt)) => Quf x0 k s) x0.Segments.length 0 [] ((sA p14), 0) (fun s => [(1, bp p9), (3, .slice s.2.2.1 s.2.1.length s.2.2.2), (23, .slice A4 x0.Segments.length c5), (24, nI x0.Segments.length), (25, nI s.1)]) (fun s => [iS (Qes Qaf w w.heap.size) 163 s.2.2.1 s.2.2.2 s.2.1, Qh p9 34 [.slice A4 x0.Segments.length c5, iV x0.Now]]) (fun s => s.2.1.length ≤ 0 + 4 * s.1) sl5 (Nat.le_refl _) ?_
   rintro ⟨k16, d17, ⟨A18, c19⟩⟩ H22 _ _ e e'
   dsimp only at H22 ⊢
   subst e e'
   obtain ⟨hk20, hF21, hi23⟩ := H22
   refine sr ?_
   refine wv Qai ?_
   refine nt' (Qe ?_)
   rcases dcl k16 x0.Segments.length with ⟨hl24, g25⟩ | ⟨hl24, g25⟩
   ·
    refine Ql rfl g25 ?_
    refine Qp (Qd (Qe (Qx (sr ?_))))
    obtain ⟨a26, rfl, hb27, he28⟩ := q6 (by omega)
    refine wv (vix 1 k16 Qbz Qfl) ?_
    obtain ⟨_, e30, hc29⟩ := he28 k16 _ (Qbs (show k16 < x0.Segments.length from by omega))
    have l31 : (gt x0.Segments k16).length ≤ 68719476736 := (s_0.2 _ (Qak (show k16 < x0.Segments.length from by omega))).1
    obtain ⟨v32, rfl, r33⟩ := e30
    obtain ⟨m34, A35, c36, rfl, q37, r38⟩ := Qi r33
    refine wv (fun W hm => Qaw Qbv rfl rfl ((hm.cell0 (show (a26.add (k16 * 1)).block < w.heap.size from by rw [Qae]; exact hb27.1)).trans (hc29 0 _ rfl))) ?_
    refine wa (nt' (Qe (sr (wm ?_))))
    refine wv (Qag Qbv) ?_
    refine wv (fun W hm => Qem rfl rfl) ?_
    refine nt' ?_
    rcases dcd (4 < ((((gt x0.Segments k16)).length : Nat) : Int)) with ⟨h39, g40⟩ | ⟨h39, g40⟩
    ·
     refine Ql rfl g40 ?_
     refine sr (wa (nt' (Qj (Qg (Qaa (Qg (Qg (Qaa (Qg ?_)))))))))
     exact rtb (h := Qb g11 (Qb g13 (Qbf (nr hF21 (Qb g40 (rfl))) rfl)))
    refine Qm rfl g40 ?_
    refine Qp (Qd (sr (wm ?_)))
    refine wv (Qag Qbv) ?_
    refine wm (nt' (Qx ?_))
    let I4 : It := Qh p9 34 [.slice (some a26) x0.Segments.length c5, iV x0.Now]
    refine Qbg (S := (List Qt)) (R := Option Addr × Nat) (fun k (s : (List Qt)) => Qug x0 k16 k s) (((gt x0.Segments k16)).length) 0 d17 (A18, c19) (fun s => [(1, bp p9), (3, .slice s.2.2.1 s.2.1.length s.2.2.2), (23, .slice (some a26) x0.Segments.length c5), (24, nI x0.Segments.length), (25, nI k16), (32, .slice A35 ((gt x0.Segments k16)).length c36), (33, nI (((gt x0.Segments k16)).length)), (34, nI s.1)]) (fun s => [iS (Qes Qaf w w.heap.size) 163 s.2.2.1 s.2.2.2 s.2.1, I4]) (fun s => s.2.1.length ≤ d17.length + s.1) sl8 (Nat.le_refl _) ?_
    rintro ⟨k41, d42, ⟨A43, c44⟩⟩ H47 _ _ e e'
    dsimp only at H47 ⊢
    subst e e'
    obtain ⟨hk45, hF46, hi48⟩ := H47
    refine sr ?_
    refine wv Qai ?_
    refine nt' (Qe ?_)
    rcases dcl k41 (((gt x0.Segments k16)).length) with ⟨hl49, g50⟩ | ⟨hl49, g50⟩
    ·
     refine Ql rfl g50 ?_
     refine Qp (Qd (Qe (Qx (sr ?_))))
     obtain ⟨a51, rfl, hb52, he53⟩ := q37 (by omega)
     refine wv (vix 4 k41 Qbv Qbo) ?_
     obtain ⟨_, e57, hc54⟩ := he53 k41 _ (Qbs (show k41 < ((gt x0.Segments k16)).length from by omega))
     obtain ⟨v55, rfl, r56⟩ := Qgd e57
     have l58 : ((gt (gt x0.Segments k16) k41).Values).length ≤ 68719476736 := ((s_0.2 _ (Qak (show k16 < x0.Segments.length from by omega))).2 _ (Qak (show k41 < ((gt x0.Segments k16)).length from by omega)))
     obtain ⟨m59, A60, c61, rfl, q62, r63⟩ := Qi r56
     let K1 : List Value := [iV ((gt (gt x0.Segments k16) k41).Id), .slice A60 ((gt (gt x0.Segments k16) k41).Values).length c61, iV ((gt (gt x0.Segments k16) k41).Born), iV ((gt (gt x0.Segments k16) k41).Died)]
     refine wv (fun W hm => Qad (cs := K1) Qbp Qbo rfl rfl (hm.elCells (show (a51.add (k41 * 4)).block < w.heap.size from by rw [Qae]; exact hb52.1) hc54)) ?_
     refine Qbm Qbo rfl (Qk rfl) (by decide) (fun p64 => ?_)
     let I5 : It := iS (Qes Qaf w w.heap.size) 163 A43 c44 d42
     refine sb 0 K1 [I5, I4] idM Qbo ?_
     refine nt' (Qe (sr ?_))
     refine wv (fun W hm => Qad (cs := K1) Qbp Qbo rfl rfl (hm.boxCells (n := 0) rfl)) ?_
     refine wcs Qap (Qhb (gt (gt x0.Segments k16) k41)) (Qr Qadm rfl) (fun W hm => Qaft W _ (gt (gt x0.Segments k16) k41) (Qgy (x := (gt (gt x0.Segments k16) k41)) (hm.rdS0 r63)) ((s_0.2 _ (Qak (show k16 < x0.Segments.length from by omega))).2 _ (Qak (show k41 < ((gt x0.Segments k16)).length from by omega)))) (fun z65 => ?_)
     refine Qmv ?_
     rintro v66 rfl
     refine fm 0 ?_
     rintro A67 c68 rfl m69
     refine wcv (Qr Qxn rfl) (fun W hm => Qye W _ (Qhb (gt (gt x0.Segments k16) k41)) (Qjr (x := (Qhb (gt (gt x0.Segments k16) k41))) (hm.rdSI (n := 0) rfl))) ?_
     refine wv Qbr ?_
     refine wm ?_
     rcases bd (Qml (Qhb (gt (gt x0.Segments k16) k41))) with g72 | g72
     ·
      refine wg (vf Qbp rfl Qf) (nt g72) ?_
      refine wg (vl 1 2 Qs) (nt g72) ?_
      refine wg (vf Qbw rfl Qf) (nt g72) ?_
      refine wg (vl 3 1 Qs) (nt g72) ?_
      refine Qcr (Qr Qfn rfl) (fun W hm => Qfo W ((gt (gt x0.Segments k16) k41).Born) 0 x0.Now) (Qcc rfl rfl rfl (bw (nt g72) rfl)) (by decide) ?_
      refine wg Qbr (nt g72) ?_
      refine wv (vpF (nt g72)) ?_
      refine wm ?_
      rcases bd (Qcz ((gt (gt x0.Segments k16) k41).Born) 0 x0.Now) with g74 | g74
      ·
       have hw := Qgf g74
       refine wg (vf Qbp rfl Qf) (nt g74) ?_
       refine wg (vl 1 3 Qs) (nt g74) ?_
       refine wg Qcj (nt g74) ?_
       refine wg vmv (nt g74) ?_
       rcases dcn ((gt (gt x0.Segments k16) k41).Died) (-1) with ⟨h75, g76⟩ | ⟨h75, g76⟩
       ·
        iterate 9 refine ws g76 ?_
        refine wg (vpF g76) (nt g74) ?_
        refine wv (vpF (nt g74)) ?_
        refine nt' ?_
        refine Qm rfl rfl ?_
        refine Qp (Qd (Qe (sr (wm ?_))))
        refine wv (Qag Qbv) ?_
        refine wm (nt' (Qx ?_))
        let I6 : It := iS Qa 3 A67 c68 ((Qhb (gt (gt x0.Segments k16) k41)).Values)
        refine Qbg (S := Unit) (R := Unit) (fun k (_ : Unit) => Qrq x0 k16 k41 d42 k) d42.length 0 () () (fun s => [(1, bp p9), (3, .slice A43 d42.length c44), (7, bp p64), (23, .slice (some a26) x0.Segments.length c5), (24, nI x0.Segments.length), (25, nI k16), (32, .slice (some a51) ((gt x0.Segments k16)).length c36), (33, nI (((gt x0.Segments k16)).length)), (34, nI k41), (66, .slice A43 d42.length c44), (67, nI d42.length), (68, nI s.1)]) (fun s => [I6, Qh p64 163 K1, I5, I4]) (fun s => True) Qkc trivial ?_
        rintro ⟨k77, ⟨⟩, ⟨⟩⟩ H80 _ _ e e'
        dsimp only at H80 ⊢
        subst e e'
        obtain ⟨hk78, hF79, _⟩ := H80
        refine sr ?_
        refine wv Qai ?_
        refine nt' (Qe ?_)
        rcases dcl k77 d42.length with ⟨hl81, g82⟩ | ⟨hl81, g82⟩
        ·
         refine Ql rfl g82 ?_
         refine Qp (Qd (Qe (Qx (sr ?_))))
         refine Qhy (n := 2) rfl (by omega) ?_
         rintro g83 rfl
         refine wv (vix 4 k77 Qbv Qbo) ?_
         refine Qacu (T := Qaf) (wb := w) (Bb := w.heap.size) (e := 163) (g := g83) (n := d42.length) (c := c44) (xs := d42) (js := [I6, Qh p64 163 K1, I4]) (pk [2, 0, 1, 3]) ?_
         rintro ck84 rk85
         obtain ⟨_, e86, hc87⟩ := rk85.get (j := k77) (by omega)
         obtain ⟨v88, rfl, r89⟩ := Qgd e86
         obtain ⟨m90, A91, c92, rfl, q93, r94⟩ := Qi r89
         let K2 : List Value := [iV ((gt d42 k77).Id), .slice A91 ((gt d42 k77).Values).length c92, iV ((gt d42 k77).Born), iV ((gt d42 k77).Died)]
         refine wv (fun W hm => Qad (cs := K2) Qbp Qbo rfl rfl (hm.rowCells (i := 0) rfl hc87)) ?_
         refine Qbm Qbo rfl (Qk rfl) (by decide) (fun p95 => ?_)
         refine sb 0 K2 [Qh g83 163 ck84, I6, Qh p64 163 K1, I4] idM Qbo ?_
         refine nt' (sr ?_)
         refine wv (vf Qbp rfl Qf) ?_
         refine wv (vl 3 0 Qs) ?_
         refine wv (vf Qbp rfl Qf) ?_
         refine wv (vl 0 0 Qs) ?_
         refine wv (fun W hm => Qfe rfl rfl) ?_
         refine wm ?_
         rcases dce ((gt (gt x0.Segments k16) k41).Id) ((gt d42 k77).Id) with ⟨h96, g97⟩ | ⟨h96, g97⟩
         ·
          refine wg (fun W hm => Qad (cs := K1) Qbp Qbo rfl rfl (hm.boxCells (n := 3) rfl)) g97 ?_
          refine wg (fun W hm => Qad (cs := K2) Qbp Qbo rfl rfl (hm.boxCells (n := 0) rfl)) g97 ?_
          refine Qcr (Qr Qads rfl) (fun W hm => Qafr W _ (gt (gt x0.Segments k16) k41) _ (gt d42 k77) (Qgy (x := (gt (gt x0.Segments k16) k41)) (hm.rdS0 r63)) (Qgy (x := (gt d42 k77)) (hm.rdS0 r94))) (Qcc rfl rfl rfl (bw g97 rfl)) (by decide) ?_
          refine wv (vpT g97) ?_
          refine nt' ?_
          rcases bd (Qix (gt (gt x0.Segments k16) k41) (gt d42 k77)) with g99 | g99
          ·
           refine Ql rfl g99 ?_
           refine sr (wa (nt' (Qj (Qaa (Qg (Qg (Qaa (Qg (Qaa (Qg (Qg (Qaa (Qaa (Qg (Qg (Qaa (Qg ?_)))))))))))))))))
           refine Qdd (fun W hm => Mem.hide rk85 (hm.pick [1, 0, 2, 3, 4] (by decide))) ?_
           exact rtb (h := Qb g11 (Qb g13 (Qbf (nr hF21 (Qc g40 (Qbf (nr hF46 (Qb g72 (Qb g74 (Qc g76 (Qbf (nr hF79 (Qb g97 (Qb g99 (rfl)))) rfl))))) rfl))) rfl)))
          refine Qm rfl g99 ?_
          refine Qp (Qam (Qd (Qy ?_)))
          refine wv (Qal k77 1 (by omega)) ?_
          refine wm (Qac ?_)
          refine Qdd (fun W hm => Mem.hide rk85 (hm.pick [1, 0, 2, 3, 4] (by decide))) ?_
          exact Qan (k77 + 1, (), ()) Qkc (pk [2, 3, 0, 4]) ⟨(by omega), nx hF79 (Qb g97 (Qc g99 (rfl))), trivial⟩ rl
         iterate 4 first | refine ws g97 ?_ | refine wv (vpF g97) ?_
         refine nt' ?_
         refine Qm rfl rfl ?_
         refine Qp (Qam (Qd (Qy ?_)))
         refine wv (Qal k77 1 (by omega)) ?_
         refine wm (Qac ?_)
         refine Qdd (fun W hm => Mem.hide rk85 (hm.pick [1, 0, 2, 3, 4] (by decide))) ?_
         exact Qan (k77 + 1, (), ()) Qkc (pk [2, 3, 0, 4]) ⟨(by omega), nx hF79 (Qc g97 (rfl)), trivial⟩ rl
        refine Qm rfl g82 ?_
        refine Qay (Qu (Qu ?_))
        have hE102 := Qbh hl81 hF79
        refine Qaz (Qd (Qy (wm ?_)))
        refine wv (fun W hm => Qad (cs := K1) Qbp Qbo rfl rfl (hm.boxCells (n := 1) rfl)) ?_
        refine Qde (cs := K1) Qbv Qbo rfl (by decide) (by decide) rfl (by kernel_rfl) (Qk rfl) (by decide) (fun p103 => ?_)
        refine ap1 (Qes Qaf w w.heap.size) 163 (.slice A43 d42.length c44) d42 (gt (gt x0.Segments k16) k41) [] [I6, Qh p64 163 K1, I4] K1 (pk [0, 3, 1, 2, 4]) (fun _ _ hs => by cases (Sep.nil hs); exact (Qhq (E := (Qes Qaf w w.heap.size)) (L1 := []) ⟨rfl, (Qgy r63)⟩ Qhr)) Qbv Qbo (show (d42.length + 1) * 48 ≤ 140737488355328 from by omega) (fun v104 => ?_)
        refine fm 0 ?_
        rintro A105 c106 rfl m107
        refine wa (Qac (Qam (Qd (Qy ?_))))
        refine wv (Qal k41 1 (by omega)) ?_
        refine wm (Qac ?_)
        exact Qan (k41 + 1, (d42 ++ [(gt (gt x0.Segments k16) k41)]), (A105, c106)) sl8 (pk [0, 3]) ⟨(by omega), nx hF46 (Qb g72 (Qb g74 (Qc g76 (Qar hE102 (rfl))))), (show (d42 ++ [(gt (gt x0.Segments k16) k41)]).length ≤ d17.length + (k41 + 1) from by first | omega | (simp only [List.length_append, List.length_cons, List.length_nil] at *; omega))⟩ (show ((gt x0.Segments k16)).length - (k41 + 1) < ((gt x0.Segments k16)).length - k41 from by omega)
       refine wg (vf Qbp rfl Qf) g76 ?_
       refine wg (vl 1 3 Qs) g76 ?_
       refine wg (vf Qbp rfl Qf) g76 ?_
       refine wg (vl 1 2 Qs) g76 ?_
       refine wg Qcy g76 ?_
       refine wg (vf Qbw rfl Qf) g76 ?_
       refine wg (vl 3 1 Qs) g76 ?_
       refine Qcr (Qr Qfn rfl) (fun W hm => Qfo W ((gt (gt x0.Segments k16) k41).Died) (IntKind.i64.wrap (((gt (gt x0.Segments k16) k41).Born) + 1)) x0.Now) (Qcc rfl rfl rfl (bw g76 rfl)) (by decide) ?_
       refine wg Qbr g76 ?_
       refine wg (vpT g76) (nt g74) ?_
       refine wv (vpF (nt g74)) ?_
       refine nt' ?_
       rcases bd (Qcz ((gt (gt x0.Segments k16) k41).Died) (IntKind.i64.wrap (((gt (gt x0.Segments k16) k41).Born) + 1)) x0.Now) with g111 | g111
       ·
        have hw := Qgf g111
        refine Qm rfl (nt g111) ?_
        refine Qp (Qd (Qe (sr (wm ?_))))
        refine wv (Qag Qbv) ?_
        refine wm (nt' (Qx ?_))
        let I7 : It := iS Qa 3 A67 c68 ((Qhb (gt (gt x0.Segments k16) k41)).Values)
        refine Qbg (S := Unit) (R := Unit) (fun k (_ : Unit) => Qyf x0 k16 k41 d42 k) d42.length 0 () () (fun s => [(1, bp p9), (3, .slice A43 d42.length c44), (7, bp p64), (23, .slice (some a26) x0.Segments.length c5), (24, nI x0.Segments.length), (25, nI k16), (32, .slice (some a51) ((gt x0.Segments k16)).length c36), (33, nI (((gt x0.Segments k16)).length)), (34, nI k41), (66, .slice A43 d42.length c44), (67, nI d42.length), (68, nI s.1)]) (fun s => [I7, Qh p64 163 K1, I5, I4]) (fun s => True) Qkc trivial ?_
        rintro ⟨k112, ⟨⟩, ⟨⟩⟩ H115 _ _ e e'
        dsimp only at H115 ⊢
        subst e e'
        obtain ⟨hk113, hF114, _⟩ := H115
        refine sr ?_
        refine wv Qai ?_
        refine nt' (Qe ?_)
        rcases dcl k112 d42.length with ⟨hl116, g117⟩ | ⟨hl116, g117⟩
        ·
         refine Ql rfl g117 ?_
         refine Qp (Qd (Qe (Qx (sr ?_))))
         refine Qhy (n := 2) rfl (by omega) ?_
         rintro g118 rfl
         refine wv (vix 4 k112 Qbv Qbo) ?_
         refine Qacu (T := Qaf) (wb := w) (Bb := w.heap.size) (e := 163) (g := g118) (n := d42.length) (c := c44) (xs := d42) (js := [I7, Qh p64 163 K1, I4]) (pk [2, 0, 1, 3]) ?_
         rintro ck119 rk120
         obtain ⟨_, e121, hc122⟩ := rk120.get (j := k112) (by omega)
         obtain ⟨v123, rfl, r124⟩ := Qgd e121
         obtain ⟨m125, A126, c127, rfl, q128, r129⟩ := Qi r124
         let K3 : List Value := [iV ((gt d42 k112).Id), .slice A126 ((gt d42 k112).Values).length c127, iV ((gt d42 k112).Born), iV ((gt d42 k112).Died)]
         refine wv (fun W hm => Qad (cs := K3) Qbp Qbo rfl rfl (hm.rowCells (i := 0) rfl hc122)) ?_
         refine Qbm Qbo rfl (Qk rfl) (by decide) (fun p130 => ?_)
         refine sb 0 K3 [Qh g118 163 ck119, I7, Qh p64 163 K1, I4] idM Qbo ?_
         refine nt' (sr ?_)
         refine wv (vf Qbp rfl Qf) ?_
         refine wv (vl 3 0 Qs) ?_
         refine wv (vf Qbp rfl Qf) ?_
         refine wv (vl 0 0 Qs) ?_
         refine wv (fun W hm => Qfe rfl rfl) ?_
         refine wm ?_
         rcases dce ((gt (gt x0.Segments k16) k41).Id) ((gt d42 k112).Id) with ⟨h131, g132⟩ | ⟨h131, g132⟩
         ·
          refine wg (fun W hm => Qad (cs := K1) Qbp Qbo rfl rfl (hm.boxCells (n := 3) rfl)) g132 ?_
          refine wg (fun W hm => Qad (cs := K3) Qbp Qbo rfl rfl (hm.boxCells (n := 0) rfl)) g132 ?_
          refine Qcr (Qr Qads rfl) (fun W hm => Qafr W _ (gt (gt x0.Segments k16) k41) _ (gt d42 k112) (Qgy (x := (gt (gt x0.Segments k16) k41)) (hm.rdS0 r63)) (Qgy (x := (gt d42 k112)) (hm.rdS0 r129))) (Qcc rfl rfl rfl (bw g132 rfl)) (by decide) ?_
          refine wv (vpT g132) ?_
          refine nt' ?_
          rcases bd (Qix (gt (gt x0.Segments k16) k41) (gt d42 k112)) with g134 | g134
          ·
           refine Ql rfl g134 ?_
           refine sr (wa (nt' (Qj (Qaa (Qg (Qg (Qaa (Qg (Qaa (Qg (Qg (Qaa (Qaa (Qg (Qg (Qaa (Qg ?_)))))))))))))))))
           refine Qdd (fun W hm => Mem.hide rk120 (hm.pick [1, 0, 2, 3, 4] (by decide))) ?_
           exact rtb (h := Qb g11 (Qb g13 (Qbf (nr hF21 (Qc g40 (Qbf (nr hF46 (Qb g72 (Qb g74 (Qb g76 (Qb g111 (Qbf (nr hF114 (Qb g132 (Qb g134 (rfl)))) rfl)))))) rfl))) rfl)))
          refine Qm rfl g134 ?_
          refine Qp (Qam (Qd (Qy ?_)))
          refine wv (Qal k112 1 (by omega)) ?_
          refine wm (Qac ?_)
          refine Qdd (fun W hm => Mem.hide rk120 (hm.pick [1, 0, 2, 3, 4] (by decide))) ?_
          exact Qan (k112 + 1, (), ()) Qkc (pk [2, 3, 0, 4]) ⟨(by omega), nx hF114 (Qb g132 (Qc g134 (rfl))), trivial⟩ rl
         iterate 4 first | refine ws g132 ?_ | refine wv (vpF g132) ?_
         refine nt' ?_
         refine Qm rfl rfl ?_
         refine Qp (Qam (Qd (Qy ?_)))
         refine wv (Qal k112 1 (by omega)) ?_
         refine wm (Qac ?_)
         refine Qdd (fun W hm => Mem.hide rk120 (hm.pick [1, 0, 2, 3, 4] (by decide))) ?_
         exact Qan (k112 + 1, (), ()) Qkc (pk [2, 3, 0, 4]) ⟨(by omega), nx hF114 (Qc g132 (rfl)), trivial⟩ rl
        refine Qm rfl g117 ?_
        refine Qay (Qu (Qu ?_))
        have hE137 := Qbh hl116 hF114
        refine Qaz (Qd (Qy (wm ?_)))
        refine wv (fun W hm => Qad (cs := K1) Qbp Qbo rfl rfl (hm.boxCells (n := 1) rfl)) ?_
        refine Qde (cs := K1) Qbv Qbo rfl (by decide) (by decide) rfl (by kernel_rfl) (Qk rfl) (by decide) (fun p138 => ?_)
        refine ap1 (Qes Qaf w w.heap.size) 163 (.slice A43 d42.length c44) d42 (gt (gt x0.Segments k16) k41) [] [I7, Qh p64 163 K1, I4] K1 (pk [0, 3, 1, 2, 4]) (fun _ _ hs => by cases (Sep.nil hs); exact (Qhq (E := (Qes Qaf w w.heap.size)) (L1 := []) ⟨rfl, (Qgy r63)⟩ Qhr)) Qbv Qbo (show (d42.length + 1) * 48 ≤ 140737488355328 from by omega) (fun v139 => ?_)
        refine fm 0 ?_
        rintro A140 c141 rfl m142
        refine wa (Qac (Qam (Qd (Qy ?_))))
        refine wv (Qal k41 1 (by omega)) ?_
        refine wm (Qac ?_)
        exact Qan (k41 + 1, (d42 ++ [(gt (gt x0.Segments k16) k41)]), (A140, c141)) sl8 (pk [0, 3]) ⟨(by omega), nx hF46 (Qb g72 (Qb g74 (Qb g76 (Qb g111 (Qar hE137 (rfl)))))), (show (d42 ++ [(gt (gt x0.Segments k16) k41)]).length ≤ d17.length + (k41 + 1) from by first | omega | (simp only [List.length_append, List.length_cons, List.length_nil] at *; omega))⟩ (show ((gt x0.Segments k16)).length - (k41 + 1) < ((gt x0.Segments k16)).length - k41 from by omega)
       refine Ql rfl (nf g111) ?_
       refine sr (wa (nt' (Qj (Qg (Qaa (Qg (Qg (Qaa (Qaa (Qg (Qg (Qaa (Qg ?_)))))))))))))
       exact rtb (h := Qb g11 (Qb g13 (Qbf (nr hF21 (Qc g40 (Qbf (nr hF46 (Qb g72 (Qb g74 (Qb g76 (Qc g111 (rfl)))))) rfl))) rfl)))
      refine ws (nf g74) ?_
      refine ws (nf g74) ?_
      refine ws (nf g74) ?_
      refine ws (nf g74) ?_
      iterate 9 refine wu ?_
      refine ws (nf g74) ?_
      refine wv (vpT (nf g74)) ?_
      refine nt' ?_
      refine Ql rfl rfl ?_
      refine sr (wa (nt' (Qj (Qg (Qaa (Qg (Qg (Qaa (Qaa (Qg (Qg (Qaa (Qg ?_)))))))))))))
      exact rtb (h := Qb g11 (Qb g13 (Qbf (nr hF21 (Qc g40 (Qbf (nr hF46 (Qb g72 (Qc g74 (rfl)))) rfl))) rfl)))
     refine ws (nf g72) ?_
     refine ws (nf g72) ?_
     refine ws (nf g72) ?_
     refine ws (nf g72) ?_
     refine ws (nf g72) ?_
     refine ws (nf g72) ?_
     iterate 17 first | refine wv (vpT (nf g72)) ?_ | refine wm ?_ | refine wk ?_ | refine wu ?_ | refine wv (vpT rfl) ?_
     refine nt' ?_
     refine Ql rfl rfl ?_
     refine sr (wa (nt' (Qj (Qg (Qaa (Qg (Qg (Qaa (Qaa (Qg (Qg (Qaa (Qg ?_)))))))))))))
     exact rtb (h := Qb g11 (Qb g13 (Qbf (nr hF21 (Qc g40 (Qbf (nr hF46 (Qc g72 (rfl))) rfl))) rfl)))
    refine Qm rfl g50 ?_
    refine Qay (Qu (Qu ?_))
    have hE145 := Qbh hl49 hF46
    refine Qaz (Qam (Qd (Qy ?_)))
    refine wv (Qal k16 1 (by omega)) ?_
    refine wm (Qac ?_)
    exact Qan (k16 + 1, d42, (A43, c44)) sl5 idM ⟨(by omega), nx hF21 (Qc g40 (Qar hE145 (rfl))), (show d42.length ≤ 0 + 4 * (k16 + 1) from by first | omega | (simp only [List.length_append, List.length_cons, List.length_nil] at *; omega))⟩ rl
   refine Qm rfl g25 ?_
   refine Qay (Qu (Qu ?_))
   have hE147 := Qbh hl24 hF21
   refine Qaz (Qd (sr (wa (nt' (Qj ?_)))))
   exact rtb (h := Qb g11 (Qb g13 (Qar hE147 (rfl))))
  refine Ql rfl (nf g13) ?_
  refine sr (wa (nt' (Qj (Qg ?_))))
  exact rtb (h := Qb g11 (Qc g13 (rfl)))
 refine ws (nf g11) ?_
 refine ws (nf g11) ?_
 refine ws (nf g11) ?_
 refine ws (nf g11) ?_
 refine wv (vpT (nf g11)) ?_
 refine nt' ?_
 refine Ql rfl rfl ?_
 refine sr (wa (nt' (Qj (Qg ?_))))
 exact rtb (h := Qc g11 (rfl))

def Qrp (x0 : Qcd) : Bool :=
 cond (Qqf x0.Field) (cond (decide (0 ≤ x0.Low)) (cond (decide (x0.Low ≤ x0.High)) (decide (x0.High ≤ 99)) false) false) false
theorem Qaof : Cb Tryz.prog 160 := ⟨f160, _, func160, rfl, by decide⟩
theorem Qasq (w : World) (z0 : List Value) (x0 : Qcd) (r_0 : Qbl.rd w w.heap.size z0 x0) :
  Calls Tryz.prog 160 #[.agg z0.toArray] w (rB w (Qrp x0)) := by
 obtain rfl := Qjo r_0
 refine ce1 (L := [(0, .agg #[iV x0.Field, iV x0.Low, iV x0.High])]) (N := 23) func160 ?_
 refine sr ?_
 refine Qbn rfl (Qk rfl) (by decide) (fun p1 => ?_)
 refine wa (nt' (sr ?_))
 refine wv (vf Qdu rfl Qf) ?_
 refine wv (vl 0 0 Qs) ?_
 refine wcv (Qr Qadt rfl) (fun W hm => Qafp W x0.Field) ?_
 refine wm ?_
 rcases bd (Qqf x0.Field) with g3 | g3
 ·
  refine wg (vf Qdu rfl Qf) g3 ?_
  refine wg (vl 0 1 Qs) g3 ?_
  refine wg (fun W hm => Qlu rfl rfl) g3 ?_
  refine wv (vpT g3) ?_
  refine wm ?_
  rcases dcd (0 ≤ x0.Low) with ⟨h4, g5⟩ | ⟨h4, g5⟩
  ·
   refine wg (vf Qdu rfl Qf) g5 ?_
   refine wg (vl 0 1 Qs) g5 ?_
   refine wg (vf Qdu rfl Qf) g5 ?_
   refine wg (vl 0 2 Qs) g5 ?_
   refine wg (fun W hm => Qgw rfl rfl) g5 ?_
   refine wv (vpT g5) ?_
   refine wm ?_
   rcases dcd (x0.Low ≤ x0.High) with ⟨h6, g7⟩ | ⟨h6, g7⟩
   ·
    refine wg (vf Qdu rfl Qf) g7 ?_
    refine wg (vl 0 2 Qs) g7 ?_
    refine wg (fun W hm => Qgw rfl rfl) g7 ?_
    refine wv (vpT g7) ?_
    refine wa (nt' (Qj ?_))
    exact rtb (h := Qb g3 (Qb g5 (Qb g7 (rfl))))
   iterate 4 first | refine ws g7 ?_ | refine wv (vpF g7) ?_
   refine wa (nt' (Qj ?_))
   exact rtb (h := Qb g3 (Qb g5 (Qc g7 (rfl))))
  iterate 11 first | refine ws g5 ?_ | refine wv (vpF g5) ?_ | refine wm ?_ | refine wk ?_ | refine wv (vpF rfl) ?_
  refine wa (nt' (Qj ?_))
  exact rtb (h := Qb g3 (Qc g5 (rfl)))
 iterate 16 first | refine ws g3 ?_ | refine wv (vpF g3) ?_ | refine wm ?_ | refine wk ?_ | refine wv (vpF rfl) ?_
 refine wa (nt' (Qj ?_))
 exact rtb (h := Qc g3 (rfl))

def Qyc (x0 : Qat) (k45 : Nat) : Bool ⊕ (Unit) :=
 cond (Qqf (gt x0.Out k45)) (Sum.inr ()) (Sum.inl false)
def Qud (x0 : Qat) (k22 : Nat) : Bool ⊕ (Unit) :=
 cond (Qrp (gt x0.Conds k22)) (cond (decide (0 < ((k22 : Nat) : Int))) (cond (decide (((gt x0.Conds k22).Field) ≤ ((gt x0.Conds (k22 - 1)).Field))) (Sum.inl false) (Sum.inr ())) (Sum.inr ())) (Sum.inl false)
def Qmk (x0 : Qat) : Bool :=
 cond (Qcz x0.Id 0 23) (cond (Qcz x0.Tenant 0 3) (cond (decide (3 < ((x0.Conds.length : Nat) : Int))) false (Sum.elim id (fun (s1_ : Unit) => Sum.elim id (fun (s : Unit) => (Qcz ((x0.Out.length : Nat) : Int) 1 3)) (rng (R := Bool) (fun k (_ : Unit) => Qyc x0 k) (x0.Out.length - 0) 0 ())) (rng (R := Bool) (fun k (_ : Unit) => Qud x0 k) (x0.Conds.length - 0) 0 ()))) false) false
theorem Qxj : Cb Tryz.prog 104 := ⟨f104, _, func104, rfl, by decide⟩
theorem Qyd (w : World) (z0 : List Value) (x0 : Qat) (r_0 : Qcm.rd w w.heap.size z0 x0) :
  Calls Tryz.prog 104 #[.agg z0.toArray] w (rB w (Qmk x0)) := by
 obtain ⟨v1, v3, rfl, r2, r4⟩ := Qiv r_0
 obtain ⟨m5, A6, c7, rfl, q8, r9⟩ := Qi r2
 obtain ⟨m10, A11, c12, rfl, q13, r14⟩ := Qi r4
 refine ce1 (L := [(0, .agg #[iV x0.Id, iV x0.Tenant, .slice A6 x0.Conds.length c7, .slice A11 x0.Out.length c12])]) (N := 66) func104 ?_
 refine sr ?_
 refine Qbn rfl (Qk rfl) (by decide) (fun p15 => ?_)
 refine wa (nt' (Qe (sr ?_)))
 refine wv (vf Qbq rfl Qf) ?_
 refine wv (vl 0 0 Qs) ?_
 refine wcv (Qr Qfn rfl) (fun W hm => Qfo W x0.Id 0 23) ?_
 refine wv Qbr ?_
 refine wm ?_
 rcases bd (Qcz x0.Id 0 23) with g17 | g17
 ·
  have hw := Qgf g17
  refine wg (vf Qbq rfl Qf) (nt g17) ?_
  refine wg (vl 0 1 Qs) (nt g17) ?_
  refine Qcr (Qr Qfn rfl) (fun W hm => Qfo W x0.Tenant 0 3) (Qcc rfl rfl rfl (bw (nt g17) rfl)) (by decide) ?_
  refine wg Qbr (nt g17) ?_
  refine wv (vpF (nt g17)) ?_
  refine wm ?_
  rcases bd (Qcz x0.Tenant 0 3) with g19 | g19
  ·
   have hw := Qgf g19
   refine wg (vf Qbq rfl Qfu) (nt g19) ?_
   refine wg (vl 0 2 Qct) (nt g19) ?_
   refine wg (Qag Qct) (nt g19) ?_
   refine wg (fun W hm => Qem rfl rfl) (nt g19) ?_
   refine wv (vpF (nt g19)) ?_
   refine nt' ?_
   rcases dcd (3 < ((x0.Conds.length : Nat) : Int)) with ⟨h20, g21⟩ | ⟨h20, g21⟩
   ·
    refine Ql rfl g21 ?_
    refine sr (wa (nt' (Qj (Qg ?_))))
    exact rtb (h := Qb g17 (Qb g19 (Qb g21 (rfl))))
   refine Qm rfl g21 ?_
   refine Qp (Qd (Qe (sr ?_)))
   refine wv (vf Qbq rfl Qfu) ?_
   refine wv (vl 0 2 Qct) ?_
   refine wv (Qag Qct) ?_
   refine wm (nt' (Qx ?_))
   let K1 : List Value := [iV x0.Id, iV x0.Tenant, .slice A6 x0.Conds.length c7, .slice A11 x0.Out.length c12]
   refine Qbg (S := Unit) (R := Unit) (fun k (_ : Unit) => Qud x0 k) x0.Conds.length 0 () () (fun s => [(1, bp p15), (24, .slice A6 x0.Conds.length c7), (25, nI x0.Conds.length), (26, nI s.1)]) (fun s => [Qh p15 58 K1]) (fun s => True) sl4 trivial ?_
   rintro ⟨k22, ⟨⟩, ⟨⟩⟩ H25 _ _ e e'
   dsimp only at H25 ⊢
   subst e e'
   obtain ⟨hk23, hF24, _⟩ := H25
   refine sr ?_
   refine wv Qai ?_
   refine nt' (Qe ?_)
   rcases dcl k22 x0.Conds.length with ⟨hl26, g27⟩ | ⟨hl26, g27⟩
   ·
    refine Ql rfl g27 ?_
    refine Qp (Qd (Qe (Qx (sr (wm ?_)))))
    obtain ⟨a28, rfl, hb29, he30⟩ := q8 (by omega)
    refine wv (vix 3 k22 Qct Qds) ?_
    obtain ⟨_, e32, hc31⟩ := he30 k22 _ (Qbs (show k22 < x0.Conds.length from by omega))
    obtain rfl := Qjo e32
    let K2 : List Value := [iV ((gt x0.Conds k22).Field), iV ((gt x0.Conds k22).Low), iV ((gt x0.Conds k22).High)]
    refine wv (fun W hm => Qad (cs := K2) Qdu Qds rfl rfl (hm.elCells (show (a28.add (k22 * 3)).block < w.heap.size from by rw [Qae]; exact hb29.1) hc31)) ?_
    refine Qbm Qds rfl (Qk rfl) (by decide) (fun p33 => ?_)
    refine wa ?_
    refine sb 0 K2 [Qh p15 58 [iV x0.Id, iV x0.Tenant, .slice (some a28) x0.Conds.length c7, .slice A11 x0.Out.length c12]] idM Qds ?_
    refine nt' (Qe ?_)
    refine Qfa (by kernel_rfl) (by kernel_rfl) ?_
    refine qv (fun W hm => Qad (cs := K2) Qdu Qds rfl rfl (hm.boxCells (n := 0) rfl)) ?_
    refine Qev (Qr Qaof rfl) (fun W hm => Qasq W _ (gt x0.Conds k22) (Qwd (x := (gt x0.Conds k22)))) (Qk rfl) (by decide) ?_
    refine qv Qbr ?_
    refine qm ?_
    rcases bd (Qrp (gt x0.Conds k22)) with g35 | g35
    ·
     refine qg vmv (nt g35) ?_
     refine qg (fun W hm => Qem rfl rfl) (nt g35) ?_
     refine qg vmv (nt g35) ?_
     rcases dcd (0 < ((k22 : Nat) : Int)) with ⟨h36, g37⟩ | ⟨h36, g37⟩
     ·
      refine qg (vf Qbq rfl Qfu) g37 ?_
      refine qg (vl 1 2 Qct) g37 ?_
      refine qg vmv g37 ?_
      refine qg (fun W hm => Qkz (p := k22) (q := 1) rfl rfl (by omega) (by omega)) g37 ?_
      refine qg (fun W hm => Qje (sz := 3) (k := k22 - 1) Qct Qds rfl rfl rfl (by omega)) g37 ?_
      refine qg (vf Qdu rfl Qf) g37 ?_
      obtain ⟨_, e39, hc38⟩ := he30 (k22 - 1) _ (Qbs (show (k22 - 1) < x0.Conds.length from by omega))
      obtain rfl := Qjo e39
      refine qg (fun W hm => Qaw Qs rfl rfl ((hm.cell0 (show ((a28.add ((k22 - 1) * 3)).add 0).block < w.heap.size from by rw [Qae, Qae]; exact hb29.1)).trans (hc38 0 _ rfl))) g37 ?_
      refine qg (vf Qdu rfl Qf) g37 ?_
      refine qg (vl 0 0 Qs) g37 ?_
      refine qg (fun W hm => Qlu rfl rfl) g37 ?_
      refine qg (vpT g37) (nt g35) ?_
      refine qv (vpF (nt g35)) ?_
      refine nq' ?_
      rcases dcd (((gt x0.Conds k22).Field) ≤ ((gt x0.Conds (k22 - 1)).Field)) with ⟨h40, g41⟩ | ⟨h40, g41⟩
      ·
       refine Ql rfl g41 ?_
       refine sr (wa (nt' (Qj (Qaa (Qg (Qg (Qaa (Qg ?_))))))))
       exact rtb (h := Qb g17 (Qb g19 (Qc g21 (Qbf (nr hF24 (Qb g35 (Qb g37 (Qb g41 (rfl))))) rfl))))
      refine Qm rfl g41 ?_
      refine Qp (Qam (Qd (Qy ?_)))
      refine wv (Qal k22 1 (by omega)) ?_
      refine wm (Qac ?_)
      exact Qan (k22 + 1, (), ()) sl4 (pk [1]) ⟨(by omega), nx hF24 (Qb g35 (Qb g37 (Qc g41 (rfl)))), trivial⟩ rl
     refine qs g37 ?_
     refine qs g37 ?_
     refine qs g37 ?_
     refine qs g37 ?_
     refine qs g37 ?_
     refine qs g37 ?_
     refine qs g37 ?_
     refine qs g37 ?_
     refine qs g37 ?_
     refine qs g37 ?_
     refine qg (vpF g37) (nt g35) ?_
     refine qv (vpF (nt g35)) ?_
     refine nq' ?_
     refine Qm rfl rfl ?_
     refine Qp (Qam (Qd (Qy ?_)))
     refine wv (Qal k22 1 (by omega)) ?_
     refine wm (Qac ?_)
     exact Qan (k22 + 1, (), ()) sl4 (pk [1]) ⟨(by omega), nx hF24 (Qb g35 (Qc g37 (rfl))), trivial⟩ rl
    refine qs (nf g35) ?_
    refine qs (nf g35) ?_
    refine qs (nf g35) ?_
    refine qu ?_
    refine qu ?_
    refine qu ?_
    refine qu ?_
    refine qu ?_
    refine qu ?_
    refine qu ?_
    refine qu ?_
    refine qu ?_
    refine qu ?_
    refine qs (nf g35) ?_
    refine qv (vpT (nf g35)) ?_
    refine nq' ?_
    refine Ql rfl rfl ?_
    refine sr (wa (nt' (Qj (Qaa (Qg (Qg (Qaa (Qg ?_))))))))
    exact rtb (h := Qb g17 (Qb g19 (Qc g21 (Qbf (nr hF24 (Qc g35 (rfl))) rfl))))
   refine Qm rfl g27 ?_
   refine Qay (Qu (Qu ?_))
   have hE44 := Qbh hl26 hF24
   refine Qaz (Qd (Qe (sr ?_)))
   refine wv (vf Qbq rfl Qao) ?_
   refine wv (vl 0 3 Qq) ?_
   refine wv (Qag Qq) ?_
   refine wm (nt' (Qx ?_))
   refine Qbg (S := Unit) (R := Unit) (fun k (_ : Unit) => Qyc x0 k) x0.Out.length 0 () () (fun s => [(1, bp p15), (52, .slice A11 x0.Out.length c12), (53, nI x0.Out.length), (54, nI s.1)]) (fun s => [Qh p15 58 K1]) (fun s => True) sl4 trivial ?_
   rintro ⟨k45, ⟨⟩, ⟨⟩⟩ H48 _ _ e e'
   dsimp only at H48 ⊢
   subst e e'
   obtain ⟨hk46, hF47, _⟩ := H48
   refine sr ?_
   refine wv Qai ?_
   refine nt' (Qe ?_)
   rcases dcl k45 x0.Out.length with ⟨hl49, g50⟩ | ⟨hl49, g50⟩
   ·
    refine Ql rfl g50 ?_
    refine Qp (Qd (Qe (Qx (sr ?_))))
    obtain ⟨a51, rfl, hb52, he53⟩ := q13 (by omega)
    refine wv (vix 1 k45 Qq Qf) ?_
    refine wv (fun W hm => Qaw Qs rfl rfl ((hm.cell0 (show (a51.add (k45 * 1)).block < w.heap.size from by rw [Qae]; exact hb52.1)).trans (Qdr he53 k45 (by omega)))) ?_
    refine wa (nt' (sr (wm ?_)))
    refine wcv (Qr Qadt rfl) (fun W hm => Qafp W (gt x0.Out k45)) ?_
    refine wv Qbr ?_
    refine nt' ?_
    rcases bd (Qqf (gt x0.Out k45)) with g55 | g55
    ·
     refine Qm rfl (nt g55) ?_
     refine Qp (Qam (Qd (Qy ?_)))
     refine wv (Qal k45 1 (by omega)) ?_
     refine wm (Qac ?_)
     exact Qan (k45 + 1, (), ()) sl4 idM ⟨(by omega), nx hF47 (Qb g55 (rfl)), trivial⟩ rl
    refine Ql rfl (nf g55) ?_
    refine sr (wa (nt' (Qj (Qaa (Qg (Qg (Qaa (Qg ?_))))))))
    exact rtb (h := Qb g17 (Qb g19 (Qc g21 (Qar hE44 (Qbf (nr hF47 (Qc g55 (rfl))) rfl)))))
   refine Qm rfl g50 ?_
   refine Qay (Qu (Qu ?_))
   have hE57 := Qbh hl49 hF47
   refine Qaz (Qd (sr ?_))
   refine wv (vf Qbq rfl Qao) ?_
   refine wv (vl 0 3 Qq) ?_
   refine wv (Qag Qq) ?_
   refine wcv (Qr Qfn rfl) (fun W hm => Qfo W ((x0.Out.length : Nat) : Int) 1 3) ?_
   refine wa (nt' (Qj ?_))
   exact rtb (h := Qb g17 (Qb g19 (Qc g21 (Qar hE44 (Qar hE57 (rfl))))))
  refine ws (nf g19) ?_
  refine ws (nf g19) ?_
  refine ws (nf g19) ?_
  refine ws (nf g19) ?_
  refine wv (vpT (nf g19)) ?_
  refine nt' ?_
  refine Ql rfl rfl ?_
  refine sr (wa (nt' (Qj (Qg ?_))))
  exact rtb (h := Qb g17 (Qc g19 (rfl)))
 refine ws (nf g17) ?_
 refine ws (nf g17) ?_
 refine ws (nf g17) ?_
 refine ws (nf g17) ?_
 iterate 7 first | refine wv (vpT (nf g17)) ?_ | refine wm ?_ | refine wk ?_ | refine wv (vpT rfl) ?_
 refine nt' ?_
 refine Ql rfl rfl ?_
 refine sr (wa (nt' (Qj (Qg ?_))))
 exact rtb (h := Qc g17 (rfl))

def Qyj (x0 : (List Qab)) (k6 : Nat) : Bool ⊕ (Unit) :=
 cond (Qml (gt x0 k6)) (Sum.inr ()) (Sum.inl false)
def Qyk (x0 : (List Qab)) : Bool :=
 Sum.elim id (fun (s : Unit) => true) (rng (R := Bool) (fun k (_ : Unit) => Qyj x0 k) (x0.length - 0) 0 ())
theorem Qaog : Cb Tryz.prog 162 := ⟨f162, _, func162, rfl, by decide⟩
theorem Qate (w : World) (z0 : Value) (x0 : (List Qab)) (r_0 : rdS Qap w w.heap.size z0 x0) :
  Calls Tryz.prog 162 #[z0] w (rB w (Qyk x0)) := by
 obtain ⟨m1, A2, c3, rfl, q4, r5⟩ := Qi r_0
 refine ce1 (L := [(0, .slice A2 x0.length c3)]) (N := 15) func162 ?_
 refine sr (wa (nt' (Qe (sr (wm ?_)))))
 refine wv (Qag Qci) ?_
 refine wm (nt' (Qx ?_))
 refine Qbg (S := Unit) (R := Unit) (fun k (_ : Unit) => Qyj x0 k) x0.length 0 () () (fun s => [(5, .slice A2 x0.length c3), (6, nI x0.length), (7, nI s.1)]) (fun s => []) (fun s => True) sl3 trivial ?_
 rintro ⟨k6, ⟨⟩, ⟨⟩⟩ H9 _ _ e e'
 dsimp only at H9 ⊢
 subst e e'
 obtain ⟨hk7, hF8, _⟩ := H9
 refine sr ?_
 refine wv Qai ?_
 refine nt' (Qe ?_)
 rcases dcl k6 x0.length with ⟨hl10, g11⟩ | ⟨hl10, g11⟩
 ·
  refine Ql rfl g11 ?_
  refine Qp (Qd (Qe (Qx (sr ?_))))
  obtain ⟨a12, rfl, hb13, he14⟩ := q4 (by omega)
  refine wv (vix 2 k6 Qci Qcg) ?_
  obtain ⟨_, e18, hc15⟩ := he14 k6 _ (Qbs (show k6 < x0.length from by omega))
  obtain ⟨v16, rfl, r17⟩ := Qin e18
  obtain ⟨m19, A20, c21, rfl, q22, r23⟩ := Qi r17
  let K1 : List Value := [iV ((gt x0 k6).Id), .slice A20 ((gt x0 k6).Values).length c21]
  refine wv (fun W hm => Qad (cs := K1) Qdv Qcg rfl rfl (hm.elCells (show (a12.add (k6 * 2)).block < w.heap.size from by rw [Qae]; exact hb13.1) hc15)) ?_
  refine Qbm Qcg rfl (Qk rfl) (by decide) (fun p24 => ?_)
  refine sb 0 K1 [] idM Qcg ?_
  refine nt' (sr ?_)
  refine wv (fun W hm => Qad (cs := K1) Qdv Qcg rfl rfl (hm.boxCells (n := 0) rfl)) ?_
  refine wcv (Qr Qxn rfl) (fun W hm => Qye W _ (gt x0 k6) (Qjr (x := (gt x0 k6)) (hm.rdS0 r23))) ?_
  refine wv Qbr ?_
  refine nt' ?_
  rcases bd (Qml (gt x0 k6)) with g26 | g26
  ·
   refine Qm rfl (nt g26) ?_
   refine Qp (Qam (Qd (Qy ?_)))
   refine wv (Qal k6 1 (by omega)) ?_
   refine wm (Qac ?_)
   exact Qan (k6 + 1, (), ()) sl3 (pk []) ⟨(by omega), nx hF8 (Qb g26 (rfl)), trivial⟩ rl
  refine Ql rfl (nf g26) ?_
  refine sr (wa (nt' (Qj (Qaa (Qg (Qg (Qaa (Qg ?_))))))))
  exact rtb (h := Qbf (nr hF8 (Qc g26 (rfl))) rfl)
 refine Qm rfl g11 ?_
 refine Qay (Qu (Qu ?_))
 have hE28 := Qbh hl10 hF8
 refine Qaz (Qd (sr (wa (nt' (Qj ?_)))))
 exact rtb (h := Qar hE28 (rfl))

def Qqh (x0 : (List Qab)) : Bool :=
 cond (decide (((x0.length : Nat) : Int) ≤ 1000)) (Qyk x0) false
theorem Qadg : Cb Tryz.prog 105 := ⟨f105, _, func105, rfl, by decide⟩
theorem Qafs (w : World) (z0 : Value) (x0 : (List Qab)) (r_0 : rdS Qap w w.heap.size z0 x0) :
  Calls Tryz.prog 105 #[z0] w (rB w (Qqh x0)) := by
 obtain ⟨m1, A2, c3, rfl, q4, r5⟩ := Qi r_0
 refine ce1 (L := [(0, .slice A2 x0.length c3)]) (N := 10) func105 ?_
 refine sr (wa (nt' (sr (wm ?_))))
 refine wv (Qag Qci) ?_
 refine wv (fun W hm => Qgw rfl rfl) ?_
 refine wm ?_
 rcases dcd (((x0.length : Nat) : Int) ≤ 1000) with ⟨h6, g7⟩ | ⟨h6, g7⟩
 ·
  refine wg vmv g7 ?_
  refine Qcr (Qr Qaog rfl) (fun W hm => Qate W _ x0 (hm.rdS0 r5)) (Qcc rfl rfl rfl (bw g7 rfl)) (by decide) ?_
  refine wv (vpT g7) ?_
  refine wa (nt' (Qj ?_))
  exact rtb (h := Qb g7 (rfl))
 refine ws g7 ?_
 refine ws g7 ?_
 refine wv (vpF g7) ?_
 refine wa (nt' (Qj ?_))
 exact rtb (h := Qc g7 (rfl))

def Qyi (x0 : Qau) (x1 : Qw) (k38 : Nat) : Bool ⊕ (Unit) :=
 cond (Qcz (gt x1.Todo k38) 0 (IntKind.i64.wrap (((x0.Segments.length : Nat) : Int) - 1))) (cond (decide (0 < ((k38 : Nat) : Int))) (cond (decide ((gt x1.Todo k38) ≤ (gt x1.Todo (k38 - 1)))) (Sum.inl false) (Sum.inr ())) (Sum.inr ())) (Sum.inl false)
def Qrt (x0 : Qau) (x1 : Qw) : Bool :=
 Sum.elim id (fun (s : Unit) => cond (decide (0 < ((x1.Todo.length : Nat) : Int))) (cond (Qmk x1.Query) (cond (Qcz x1.Time 0 x0.Now) (cond (Qcz x1.Age 0 100000) (cond (Qcz x1.Sent 0 1000) (cond (Qcz x1.Cap 0 32) (Qqh x1.Rows) false) false) false) false) false) false) (rng (R := Bool) (fun k (_ : Unit) => Qyi x0 x1 k) (x1.Todo.length - 0) 0 ())
theorem Qanc : Cb Tryz.prog 103 := ⟨f103, _, func103, rfl, by decide⟩
theorem Qatc (w : World) (z0 : List Value) (x0 : Qau) (z1 : List Value) (x1 : Qw) (r_0 : Qdm.rd w w.heap.size z0 x0) (r_1 : Qah.rd w w.heap.size z1 x1) :
  Calls Tryz.prog 103 #[.agg z0.toArray, .agg z1.toArray] w (rB w (Qrt x0 x1)) := by
 obtain ⟨v1, rfl, r2⟩ := Qjs r_0
 obtain ⟨m3, A4, c5, rfl, q6, r7⟩ := Qi r2
 obtain ⟨v8, v10, v12, v14, rfl, r9, r11, r13, r15⟩ := Qgp r_1
 obtain ⟨m16, A17, c18, rfl, q19, r20⟩ := Qi r9
 obtain ⟨m21, A22, c23, rfl, q24, r25⟩ := Qi r11
 obtain ⟨m26, A27, c28, rfl, q29, r30⟩ := Qi r13
 obtain ⟨m31, A32, c33, rfl, q34, r35⟩ := Qi r15
 refine ce2 (L := [(0, .agg #[.slice A4 x0.Segments.length c5, iV x0.Now]), (1, .agg #[iV x1.Query.Id, iV x1.Query.Tenant, .slice A17 x1.Query.Conds.length c18, .slice A22 x1.Query.Out.length c23, iV x1.Time, .slice A27 x1.Todo.length c28, iV x1.Age, iV x1.Sent, iV x1.Cap, .slice A32 x1.Rows.length c33])]) (N := 73) func103 ?_
 refine sr ?_
 refine Qbn rfl (Qk rfl) (by decide) (fun p36 => ?_)
 refine Qbn rfl (Qk rfl) (by decide) (fun p37 => ?_)
 refine wa (nt' (Qe (sr ?_)))
 refine wv (vf Qaj rfl Qao) ?_
 refine wv (vl 0 5 Qq) ?_
 refine wv (Qag Qq) ?_
 refine wm (nt' (Qx ?_))
 refine Qbg (S := Unit) (R := Unit) (fun k (_ : Unit) => Qyi x0 x1 k) x1.Todo.length 0 () () (fun s => [(2, bp p36), (3, bp p37), (8, .slice A27 x1.Todo.length c28), (9, nI x1.Todo.length), (10, nI s.1)]) (fun s => [Qh p37 61 [iV x1.Query.Id, iV x1.Query.Tenant, .slice A17 x1.Query.Conds.length c18, .slice A22 x1.Query.Out.length c23, iV x1.Time, .slice A27 x1.Todo.length c28, iV x1.Age, iV x1.Sent, iV x1.Cap, .slice A32 x1.Rows.length c33], Qh p36 34 [.slice A4 x0.Segments.length c5, iV x0.Now]]) (fun s => True) sl5 trivial ?_
 rintro ⟨k38, ⟨⟩, ⟨⟩⟩ H41 _ _ e e'
 dsimp only at H41 ⊢
 subst e e'
 obtain ⟨hk39, hF40, _⟩ := H41
 refine sr ?_
 refine wv Qai ?_
 refine nt' (Qe ?_)
 rcases dcl k38 x1.Todo.length with ⟨hl42, g43⟩ | ⟨hl42, g43⟩
 ·
  refine Ql rfl g43 ?_
  refine Qp (Qd (Qe (Qx (sr (wm ?_)))))
  obtain ⟨a44, rfl, hb45, he46⟩ := q29 (by omega)
  refine wv (vix 1 k38 Qq Qf) ?_
  refine wv (fun W hm => Qaw Qs rfl rfl ((hm.cell0 (show (a44.add (k38 * 1)).block < w.heap.size from by rw [Qae]; exact hb45.1)).trans (Qdr he46 k38 (by omega)))) ?_
  refine wa (wa (nt' (sr (wm ?_))))
  refine wv (vf Qbw rfl Qea) ?_
  refine wv (vl 1 0 Qbz) ?_
  refine wv (Qag Qbz) ?_
  refine wv (fun W hm => Qik rfl rfl) ?_
  refine wcv (Qr Qfn rfl) (fun W hm => Qfo W (gt x1.Todo k38) 0 (IntKind.i64.wrap (((x0.Segments.length : Nat) : Int) - 1))) ?_
  refine wv Qbr ?_
  refine wm ?_
  rcases bd (Qcz (gt x1.Todo k38) 0 (IntKind.i64.wrap (((x0.Segments.length : Nat) : Int) - 1))) with g48 | g48
  ·
   have hw := Qgf g48
   rw [Qwm (by omega)] at hw
   refine wg vmv (nt g48) ?_
   refine wg (fun W hm => Qem rfl rfl) (nt g48) ?_
   refine wg vmv (nt g48) ?_
   rcases dcd (0 < ((k38 : Nat) : Int)) with ⟨h49, g50⟩ | ⟨h49, g50⟩
   ·
    refine wg (vf Qaj rfl Qao) g50 ?_
    refine wg (vl 0 5 Qq) g50 ?_
    refine wg vmv g50 ?_
    refine wg (fun W hm => Qkz (p := k38) (q := 1) rfl rfl (by omega) (by omega)) g50 ?_
    refine wg (fun W hm => Qje (sz := 1) (k := k38 - 1) Qq Qf rfl rfl rfl (by omega)) g50 ?_
    refine wg (fun W hm => Qaw Qs rfl rfl ((hm.cell0 (show (a44.add ((k38 - 1) * 1)).block < w.heap.size from by rw [Qae]; exact hb45.1)).trans (Qdr he46 (k38 - 1) (by omega)))) g50 ?_
    refine wg vmv g50 ?_
    refine wg (fun W hm => Qlu rfl rfl) g50 ?_
    refine wg (vpT g50) (nt g48) ?_
    refine wv (vpF (nt g48)) ?_
    refine nt' ?_
    rcases dcd ((gt x1.Todo k38) ≤ (gt x1.Todo (k38 - 1))) with ⟨h51, g52⟩ | ⟨h51, g52⟩
    ·
     refine Ql rfl g52 ?_
     refine sr (wa (nt' (Qj (Qaa (Qg (Qg (Qaa (Qg ?_))))))))
     exact rtb (h := Qbf (nr hF40 (Qb g48 (Qb g50 (Qb g52 (rfl))))) rfl)
    refine Qm rfl g52 ?_
    refine Qp (Qam (Qd (Qy ?_)))
    refine wv (Qal k38 1 (by omega)) ?_
    refine wm (Qac ?_)
    exact Qan (k38 + 1, (), ()) sl5 idM ⟨(by omega), nx hF40 (Qb g48 (Qb g50 (Qc g52 (rfl)))), trivial⟩ rl
   iterate 8 refine ws g50 ?_
   refine wg (vpF g50) (nt g48) ?_
   refine wv (vpF (nt g48)) ?_
   refine nt' ?_
   refine Qm rfl rfl ?_
   refine Qp (Qam (Qd (Qy ?_)))
   refine wv (Qal k38 1 (by omega)) ?_
   refine wm (Qac ?_)
   exact Qan (k38 + 1, (), ()) sl5 idM ⟨(by omega), nx hF40 (Qb g48 (Qc g50 (rfl))), trivial⟩ rl
  refine ws (nf g48) ?_
  refine ws (nf g48) ?_
  refine ws (nf g48) ?_
  iterate 8 refine wu ?_
  refine ws (nf g48) ?_
  refine wv (vpT (nf g48)) ?_
  refine nt' ?_
  refine Ql rfl rfl ?_
  refine sr (wa (nt' (Qj (Qaa (Qg (Qg (Qaa (Qg ?_))))))))
  exact rtb (h := Qbf (nr hF40 (Qc g48 (rfl))) rfl)
 refine Qm rfl g43 ?_
 refine Qay (Qu (Qu ?_))
 have hE55 := Qbh hl42 hF40
 refine Qaz (Qd (sr ?_))
 refine wv (vf Qaj rfl Qao) ?_
 refine wv (vl 0 5 Qq) ?_
 refine wv (Qag Qq) ?_
 refine wv (fun W hm => Qem rfl rfl) ?_
 refine wm ?_
 rcases dcd (0 < ((x1.Todo.length : Nat) : Int)) with ⟨h56, g57⟩ | ⟨h56, g57⟩
 ·
  refine wg (vf Qaj rfl Qbj) g57 ?_
  refine wg (fun W hm => Qad (cs := [iV x1.Query.Id, iV x1.Query.Tenant, .slice A17 x1.Query.Conds.length c18, .slice A22 x1.Query.Out.length c23]) Qbq Qbj rfl rfl (hm.boxPart (n := 0) rfl rfl)) g57 ?_
  refine Qcr (Qr Qxj rfl) (fun W hm => Qyd W _ x1.Query (Qhg (x := x1.Query) (hm.rdS0 r20) (hm.rdS0 r25))) (Qcc rfl rfl rfl (bw g57 rfl)) (by decide) ?_
  refine wv (vpT g57) ?_
  refine wm ?_
  rcases bd (Qmk x1.Query) with g59 | g59
  ·
   refine wg (vf Qaj rfl Qf) g59 ?_
   refine wg (vl 0 4 Qs) g59 ?_
   refine wg (vf Qbw rfl Qf) g59 ?_
   refine wg (vl 1 1 Qs) g59 ?_
   refine Qcr (Qr Qfn rfl) (fun W hm => Qfo W x1.Time 0 x0.Now) (Qcc rfl rfl rfl (bw g59 rfl)) (by decide) ?_
   refine wv (vpT g59) ?_
   refine wm ?_
   rcases bd (Qcz x1.Time 0 x0.Now) with g61 | g61
   ·
    have hw := Qgf g61
    refine wg (vf Qaj rfl Qf) g61 ?_
    refine wg (vl 0 6 Qs) g61 ?_
    refine Qcr (Qr Qfn rfl) (fun W hm => Qfo W x1.Age 0 100000) (Qcc rfl rfl rfl (bw g61 rfl)) (by decide) ?_
    refine wv (vpT g61) ?_
    refine wm ?_
    rcases bd (Qcz x1.Age 0 100000) with g63 | g63
    ·
     have hw := Qgf g63
     refine wg (vf Qaj rfl Qf) g63 ?_
     refine wg (vl 0 7 Qs) g63 ?_
     refine Qcr (Qr Qfn rfl) (fun W hm => Qfo W x1.Sent 0 1000) (Qcc rfl rfl rfl (bw g63 rfl)) (by decide) ?_
     refine wv (vpT g63) ?_
     refine wm ?_
     rcases bd (Qcz x1.Sent 0 1000) with g65 | g65
     ·
      have hw := Qgf g65
      refine wg (vf Qaj rfl Qf) g65 ?_
      refine wg (vl 0 8 Qs) g65 ?_
      refine Qcr (Qr Qfn rfl) (fun W hm => Qfo W x1.Cap 0 32) (Qcc rfl rfl rfl (bw g65 rfl)) (by decide) ?_
      refine wv (vpT g65) ?_
      refine wm ?_
      rcases bd (Qcz x1.Cap 0 32) with g67 | g67
      ·
       have hw := Qgf g67
       refine wg (vf Qaj rfl Qdt) g67 ?_
       refine wg (vl 0 9 Qci) g67 ?_
       refine Qcr (Qr Qadg rfl) (fun W hm => Qafs W _ x1.Rows (hm.rdS0 r35)) (Qcc rfl rfl rfl (bw g67 rfl)) (by decide) ?_
       refine wv (vpT g67) ?_
       refine wa (nt' (Qj ?_))
       exact rtb (h := Qar hE55 (Qb g57 (Qb g59 (Qb g61 (Qb g63 (Qb g65 (Qb g67 (rfl))))))))
      iterate 4 first | refine ws g67 ?_ | refine wv (vpF g67) ?_
      refine wa (nt' (Qj ?_))
      exact rtb (h := Qar hE55 (Qb g57 (Qb g59 (Qb g61 (Qb g63 (Qb g65 (Qc g67 (rfl))))))))
     iterate 9 first | refine ws g65 ?_ | refine wv (vpF g65) ?_ | refine wm ?_ | refine wk ?_ | refine wv (vpF rfl) ?_
     refine wa (nt' (Qj ?_))
     exact rtb (h := Qar hE55 (Qb g57 (Qb g59 (Qb g61 (Qb g63 (Qc g65 (rfl)))))))
    iterate 14 first | refine ws g63 ?_ | refine wv (vpF g63) ?_ | refine wm ?_ | refine wk ?_ | refine wv (vpF rfl) ?_
    refine wa (nt' (Qj ?_))
    exact rtb (h := Qar hE55 (Qb g57 (Qb g59 (Qb g61 (Qc g63 (rfl))))))
   iterate 19 first | refine ws g61 ?_ | refine wv (vpF g61) ?_ | refine wm ?_ | refine wk ?_ | refine wv (vpF rfl) ?_
   refine wa (nt' (Qj ?_))
   exact rtb (h := Qar hE55 (Qb g57 (Qb g59 (Qc g61 (rfl)))))
  iterate 26 first | refine ws g59 ?_ | refine wv (vpF g59) ?_ | refine wm ?_ | refine wk ?_ | refine wv (vpF rfl) ?_
  refine wa (nt' (Qj ?_))
  exact rtb (h := Qar hE55 (Qb g57 (Qc g59 (rfl))))
 iterate 31 first | refine ws g57 ?_ | refine wv (vpF g57) ?_ | refine wm ?_ | refine wk ?_ | refine wv (vpF rfl) ?_
 refine wa (nt' (Qj ?_))
 exact rtb (h := Qar hE55 (Qc g57 (rfl)))

def Qafn (x0 : (List Int)) (x1 : Int) (k6 : Nat) : Bool ⊕ (Unit) :=
 cond ((gt x0 k6) == x1) (Sum.inl true) (Sum.inr ())
def Qhs (x0 : (List Int)) (x1 : Int) : Bool :=
 Sum.elim id (fun (s : Unit) => false) (rng (R := Bool) (fun k (_ : Unit) => Qafn x0 x1 k) (x0.length - 0) 0 ())
theorem cb91 : Cb Tryz.prog 91 := ⟨f91, _, func91, rfl, by decide⟩
theorem Qafo (w : World) (z0 : Value) (x0 : (List Int)) (x1 : Int) (r_0 : rdS Qa w w.heap.size z0 x0) :
  Calls Tryz.prog 91 #[z0, iV x1] w (rB w (Qhs x0 x1)) := by
 obtain ⟨m1, A2, c3, rfl, q4, r5⟩ := Qi r_0
 refine ce2 (L := [(0, .slice A2 x0.length c3), (1, iV x1)]) (N := 17) func91 ?_
 refine sr (wa (nt' (Qe (sr (wm ?_)))))
 refine wv (Qag Qq) ?_
 refine wm (nt' (Qx ?_))
 refine Qbg (S := Unit) (R := Unit) (fun k (_ : Unit) => Qafn x0 x1 k) x0.length 0 () () (fun s => [(1, iV x1), (7, .slice A2 x0.length c3), (8, nI x0.length), (9, nI s.1)]) (fun s => []) (fun s => True) sl4 trivial ?_
 rintro ⟨k6, ⟨⟩, ⟨⟩⟩ H9 _ _ e e'
 dsimp only at H9 ⊢
 subst e e'
 obtain ⟨hk7, hF8, _⟩ := H9
 refine sr ?_
 refine wv Qai ?_
 refine nt' (Qe ?_)
 rcases dcl k6 x0.length with ⟨hl10, g11⟩ | ⟨hl10, g11⟩
 ·
  refine Ql rfl g11 ?_
  refine Qp (Qd (Qe (Qx (sr ?_))))
  obtain ⟨a12, rfl, hb13, he14⟩ := q4 (by omega)
  refine wv (vix 1 k6 Qq Qf) ?_
  refine wv (fun W hm => Qaw Qs rfl rfl ((hm.cell0 (show (a12.add (k6 * 1)).block < w.heap.size from by rw [Qae]; exact hb13.1)).trans (Qdr he14 k6 (by omega)))) ?_
  refine wa (nt' (sr (wm (wm ?_))))
  refine wv (fun W hm => Qfe rfl rfl) ?_
  refine nt' ?_
  rcases dce (gt x0 k6) x1 with ⟨h15, g16⟩ | ⟨h15, g16⟩
  ·
   refine Ql rfl g16 ?_
   refine sr (wa (nt' (Qj (Qaa (Qg (Qg (Qaa (Qg ?_))))))))
   exact rtb (h := Qbf (nr hF8 (Qb g16 (rfl))) rfl)
  refine Qm rfl g16 ?_
  refine Qp (Qam (Qd (Qy ?_)))
  refine wv (Qal k6 1 (by omega)) ?_
  refine wm (Qac ?_)
  exact Qan (k6 + 1, (), ()) sl4 idM ⟨(by omega), nx hF8 (Qc g16 (rfl)), trivial⟩ rl
 refine Qm rfl g11 ?_
 refine Qay (Qu (Qu ?_))
 have hE18 := Qbh hl10 hF8
 refine Qaz (Qd (sr (wa (nt' (Qj ?_)))))
 exact rtb (h := Qar hE18 (rfl))

def Qafq (x0 : (List Int)) (k6 : Nat) : Bool ⊕ (Unit) :=
 cond (Qhs x0 ((k6 : Nat) : Int)) (Sum.inr ()) (Sum.inl false)
def Qqg (x0 : (List Int)) : Bool :=
 Sum.elim id (fun (s : Unit) => (((x0.length : Nat) : Int) == 3)) (rng (R := Bool) (fun k (_ : Unit) => Qafq x0 k) (3 - 0) 0 ())
theorem Qanb : Cb Tryz.prog 102 := ⟨f102, _, func102, rfl, by decide⟩
theorem Qaud (w : World) (z0 : Value) (x0 : (List Int)) (r_0 : rdS Qa w w.heap.size z0 x0) :
  Calls Tryz.prog 102 #[z0] w (rB w (Qqg x0)) := by
 obtain ⟨m1, A2, c3, rfl, q4, r5⟩ := Qi r_0
 refine ce1 (L := [(0, .slice A2 x0.length c3)]) (N := 15) func102 ?_
 refine sr (wa (nt' (Qe (sr (wa (nt' (Qx ?_)))))))
 refine Qbg (S := Unit) (R := Unit) (fun k (_ : Unit) => Qafq x0 k) 3 0 () () (fun s => [(0, .slice A2 x0.length c3), (3, nI s.1)]) (fun s => []) (fun s => True) sl2 trivial ?_
 rintro ⟨k6, ⟨⟩, ⟨⟩⟩ H9 _ _ e e'
 dsimp only at H9 ⊢
 subst e e'
 obtain ⟨hk7, hF8, _⟩ := H9
 refine Qe (sr (wm ?_))
 refine wv Qai ?_
 refine nt' ?_
 by_cases hl10 : k6 < 3
 ·have g11 : (decide (((k6 : Nat) : Int) < 3)) = true := decide_eq_true (by omega)
  refine Ql rfl g11 ?_
  refine Qp (Qd (Qe (Qx (sr (wm (wm ?_))))))
  refine wcv (Qr cb91 rfl) (fun W hm => Qafo W _ x0 ((k6 : Nat) : Int) (hm.rdS0 r5)) ?_
  refine wv Qbr ?_
  refine nt' ?_
  rcases bd (Qhs x0 ((k6 : Nat) : Int)) with g13 | g13
  ·
   refine Qm rfl (nt g13) ?_
   refine Qp (Qam (Qd (Qy (wm ?_))))
   refine wv (Qal k6 1 (by omega)) ?_
   refine wa (Qac ?_)
   exact Qan (k6 + 1, (), ()) sl2 idM ⟨(by omega), nx hF8 (Qb g13 (rfl)), trivial⟩ rl
  refine Ql rfl (nf g13) ?_
  refine sr (wa (nt' (Qj (Qaa (Qg (Qg (Qaa (Qg ?_))))))))
  exact rtb (h := Qbf (nr hF8 (Qc g13 (rfl))) rfl)
 have g11 : (decide (((k6 : Nat) : Int) < 3)) = false := decide_eq_false (by omega)
 refine Qm rfl g11 ?_
 refine Qay (Qu (Qu ?_))
 have hE15 := Qbh hl10 hF8
 refine Qaz (Qd (sr (wm ?_)))
 refine wv (Qag Qq) ?_
 refine wv (fun W hm => Qfe rfl rfl) ?_
 refine wa (nt' (Qj ?_))
 exact rtb (h := Qar hE15 (rfl))

def Quc (x0 : Qo) (k189 : Nat) : Bool ⊕ (Unit) :=
 cond (Qol (gt x0.Ledger k189)) (Sum.inr ()) (Sum.inl false)
def Qub (x0 : Qo) (k143 : Nat) : Bool ⊕ (Unit) :=
 cond (Qmk ((gt x0.Done k143).Query)) (cond (Qcz ((gt x0.Done k143).Time) 0 x0.Store.Now) (cond (Qcz ((gt x0.Done k143).Steps) 0 100000) (cond (Qqh ((gt x0.Done k143).Rows)) (Sum.inr ()) (Sum.inl false)) (Sum.inl false)) (Sum.inl false)) (Sum.inl false)
def Qua (x0 : Qo) (k56 : Nat) : Bool ⊕ (Unit) :=
 cond (Qrt x0.Store (gt x0.Active k56)) (cond (decide (0 < ((k56 : Nat) : Int))) (cond (decide (((gt x0.Active k56).Query.Id) ≤ ((gt x0.Active (k56 - 1)).Query.Id))) (Sum.inl false) (Sum.inr ())) (Sum.inr ())) (Sum.inl false)
def Qiq (x0 : Qo) : Bool :=
 cond (Qlr x0.Store) (cond (Qcz x0.Cursor 0 (IntKind.i64.wrap (((x0.Store.Segments.length : Nat) : Int) - 1))) (cond (Qqg x0.Order) (cond (Qcz x0.Steps 0 100000) (cond (decide (8 < ((x0.Active.length : Nat) : Int))) false (cond (decide (1000 < ((x0.Done.length : Nat) : Int))) false (cond (decide (1000 < ((x0.Ledger.length : Nat) : Int))) false (Sum.elim id (fun (s1_ : Unit) => Sum.elim id (fun (s2_ : Unit) => Sum.elim id (fun (s : Unit) => true) (rng (R := Bool) (fun k (_ : Unit) => Quc x0 k) (x0.Ledger.length - 0) 0 ())) (rng (R := Bool) (fun k (_ : Unit) => Qub x0 k) (x0.Done.length - 0) 0 ())) (rng (R := Bool) (fun k (_ : Unit) => Qua x0 k) (x0.Active.length - 0) 0 ()))))) false) false) false) false
theorem Qxr : Cb Tryz.prog 27 := ⟨f27, _, func27, rfl, by decide⟩
theorem Qyb (w : World) (z0 : List Value) (x0 : Qo) (r_0 : Qcb.rd w w.heap.size z0 x0) (s_0 : Qen 68719476736 x0) :
  Calls Tryz.prog 27 #[.agg z0.toArray] w (rB w (Qiq x0)) := by
 obtain ⟨v1, v3, v5, v7, v9, rfl, r2, r4, r6, r8, r10⟩ := Qia r_0
 obtain ⟨m11, A12, c13, rfl, q14, r15⟩ := Qi r2
 obtain ⟨m16, A17, c18, rfl, q19, r20⟩ := Qi r4
 obtain ⟨m21, A22, c23, rfl, q24, r25⟩ := Qi r6
 obtain ⟨m26, A27, c28, rfl, q29, r30⟩ := Qi r8
 obtain ⟨m31, A32, c33, rfl, q34, r35⟩ := Qi r10
 have l36 : x0.Store.Segments.length ≤ 68719476736 := s_0.1.1
 have l37 := s_0.2.1
 have l38 := s_0.2.2.1.1
 have l39 := s_0.2.2.2.1.1
 have l40 := s_0.2.2.2.2.1
 refine ce1 (L := [(0, .agg #[.slice A12 x0.Store.Segments.length c13, iV x0.Store.Now, iV x0.Cursor, .slice A17 x0.Order.length c18, .slice A22 x0.Active.length c23, .slice A27 x0.Done.length c28, .slice A32 x0.Ledger.length c33, iV x0.Steps])]) (N := 128) func27 ?_
 refine sr ?_
 refine Qbn rfl (Qk rfl) (by decide) (fun p41 => ?_)
 refine wa (nt' (Qe (sr ?_)))
 refine wv (vf Qz rfl Qbt) ?_
 let K1 : List Value := [.slice A12 x0.Store.Segments.length c13, iV x0.Store.Now]
 refine wv (fun W hm => Qad (cs := K1) Qbw Qbt rfl rfl (hm.boxPart (n := 0) rfl rfl)) ?_
 refine wcv (Qr Qadf rfl) (fun W hm => Qafh W _ x0.Store (Qgc (x := x0.Store) (hm.rdS0 r15)) s_0.1) ?_
 refine wv Qbr ?_
 refine wm ?_
 rcases bd (Qlr x0.Store) with g43 | g43
 ·
  refine wg (vf Qz rfl Qf) (nt g43) ?_
  refine wg (vl 0 2 Qs) (nt g43) ?_
  refine wg (vf Qz rfl Qbt) (nt g43) ?_
  refine wg (fun W hm => Qeb (o := 0) Qbw rfl Qea (by decide) rfl rfl) (nt g43) ?_
  refine wg (vl 0 0 Qbz) (nt g43) ?_
  refine wg (Qag Qbz) (nt g43) ?_
  refine wg (fun W hm => Qik rfl rfl) (nt g43) ?_
  refine Qcr (Qr Qfn rfl) (fun W hm => Qfo W x0.Cursor 0 (IntKind.i64.wrap (((x0.Store.Segments.length : Nat) : Int) - 1))) (Qcc rfl rfl rfl (bw (nt g43) rfl)) (by decide) ?_
  refine wg Qbr (nt g43) ?_
  refine wv (vpF (nt g43)) ?_
  refine wm ?_
  rcases bd (Qcz x0.Cursor 0 (IntKind.i64.wrap (((x0.Store.Segments.length : Nat) : Int) - 1))) with g45 | g45
  ·
   have hw := Qgf g45
   rw [Qwm (by omega)] at hw
   refine wg (vf Qz rfl Qao) (nt g45) ?_
   refine wg (vl 0 3 Qq) (nt g45) ?_
   refine Qcr (Qr Qanb rfl) (fun W hm => Qaud W _ x0.Order (hm.rdS0 r20)) (Qcc rfl rfl rfl (bw (nt g45) rfl)) (by decide) ?_
   refine wg Qbr (nt g45) ?_
   refine wv (vpF (nt g45)) ?_
   refine wm ?_
   rcases bd (Qqg x0.Order) with g47 | g47
   ·
    refine wg (vf Qz rfl Qf) (nt g47) ?_
    refine wg (vl 0 7 Qs) (nt g47) ?_
    refine Qcr (Qr Qfn rfl) (fun W hm => Qfo W x0.Steps 0 100000) (Qcc rfl rfl rfl (bw (nt g47) rfl)) (by decide) ?_
    refine wg Qbr (nt g47) ?_
    refine wv (vpF (nt g47)) ?_
    refine nt' ?_
    rcases bd (Qcz x0.Steps 0 100000) with g49 | g49
    ·
     have hw := Qgf g49
     refine Qm rfl (nt g49) ?_
     refine Qp (Qd (Qe (sr ?_)))
     refine wv (vf Qz rfl Qcw) ?_
     refine wv (vl 0 4 Qax) ?_
     refine wv (Qag Qax) ?_
     refine wv (fun W hm => Qem rfl rfl) ?_
     refine wm ?_
     rcases dcd (8 < ((x0.Active.length : Nat) : Int)) with ⟨h50, g51⟩ | ⟨h50, g51⟩
     ·
      iterate 11 first | refine ws g51 ?_ | refine wv (vpT g51) ?_ | refine wm ?_ | refine wk ?_ | refine wv (vpT rfl) ?_
      refine nt' ?_
      refine Ql rfl rfl ?_
      refine sr (wa (nt' (Qj (Qg ?_))))
      exact rtb (h := Qb g43 (Qb g45 (Qb g47 (Qb g49 (Qb g51 (rfl))))))
     refine wg (vf Qz rfl Qek) g51 ?_
     refine wg (vl 0 5 Qch) g51 ?_
     refine wg (Qag Qch) g51 ?_
     refine wg (fun W hm => Qem rfl rfl) g51 ?_
     refine wv (vpF g51) ?_
     refine wm ?_
     rcases dcd (1000 < ((x0.Done.length : Nat) : Int)) with ⟨h52, g53⟩ | ⟨h52, g53⟩
     ·
      iterate 5 first | refine ws g53 ?_ | refine wv (vpT g53) ?_
      refine nt' ?_
      refine Ql rfl rfl ?_
      refine sr (wa (nt' (Qj (Qg ?_))))
      exact rtb (h := Qb g43 (Qb g45 (Qb g47 (Qb g49 (Qc g51 (Qb g53 (rfl)))))))
     refine wg (vf Qz rfl Qfg) g53 ?_
     refine wg (vl 0 6 Qcx) g53 ?_
     refine wg (Qag Qcx) g53 ?_
     refine wg (fun W hm => Qem rfl rfl) g53 ?_
     refine wv (vpF g53) ?_
     refine nt' ?_
     rcases dcd (1000 < ((x0.Ledger.length : Nat) : Int)) with ⟨h54, g55⟩ | ⟨h54, g55⟩
     ·
      refine Ql rfl g55 ?_
      refine sr (wa (nt' (Qj (Qg ?_))))
      exact rtb (h := Qb g43 (Qb g45 (Qb g47 (Qb g49 (Qc g51 (Qc g53 (Qb g55 (rfl))))))))
     refine Qm rfl g55 ?_
     refine Qp (Qd (Qe (sr ?_)))
     refine wv (vf Qz rfl Qcw) ?_
     refine wv (vl 0 4 Qax) ?_
     refine wv (Qag Qax) ?_
     refine wm (nt' (Qx ?_))
     let K2 : List Value := [.slice A12 x0.Store.Segments.length c13, iV x0.Store.Now, iV x0.Cursor, .slice A17 x0.Order.length c18, .slice A22 x0.Active.length c23, .slice A27 x0.Done.length c28, .slice A32 x0.Ledger.length c33, iV x0.Steps]
     refine Qbg (S := Unit) (R := Unit) (fun k (_ : Unit) => Qua x0 k) x0.Active.length 0 () () (fun s => [(1, bp p41), (53, .slice A22 x0.Active.length c23), (54, nI x0.Active.length), (55, nI s.1)]) (fun s => [Qh p41 39 K2]) (fun s => True) sl4 trivial ?_
     rintro ⟨k56, ⟨⟩, ⟨⟩⟩ H59 _ _ e e'
     dsimp only at H59 ⊢
     subst e e'
     obtain ⟨hk57, hF58, _⟩ := H59
     refine sr ?_
     refine wv Qai ?_
     refine nt' (Qe ?_)
     rcases dcl k56 x0.Active.length with ⟨hl60, g61⟩ | ⟨hl60, g61⟩
     ·
      refine Ql rfl g61 ?_
      refine Qp (Qd (Qe (Qx (sr (wm ?_)))))
      obtain ⟨a62, rfl, hb63, he64⟩ := q24 (by omega)
      refine wv (vix 10 k56 Qax Qbe) ?_
      obtain ⟨_, e74, hc65⟩ := he64 k56 _ (Qbs (show k56 < x0.Active.length from by omega))
      obtain ⟨v66, v68, v70, v72, rfl, r67, r69, r71, r73⟩ := Qgp e74
      have l75 := (s_0.2.2.1.2 _ (Qak (show k56 < x0.Active.length from by omega))).1.1
      have l76 := (s_0.2.2.1.2 _ (Qak (show k56 < x0.Active.length from by omega))).1.2
      have l77 := (s_0.2.2.1.2 _ (Qak (show k56 < x0.Active.length from by omega))).2.1
      have l78 := (s_0.2.2.1.2 _ (Qak (show k56 < x0.Active.length from by omega))).2.2.1
      obtain ⟨m79, A80, c81, rfl, q82, r83⟩ := Qi r67
      obtain ⟨m84, A85, c86, rfl, q87, r88⟩ := Qi r69
      obtain ⟨m89, A90, c91, rfl, q92, r93⟩ := Qi r71
      obtain ⟨m94, A95, c96, rfl, q97, r98⟩ := Qi r73
      let K3 : List Value := [iV ((gt x0.Active k56).Query.Id), iV ((gt x0.Active k56).Query.Tenant), .slice A80 ((gt x0.Active k56).Query.Conds).length c81, .slice A85 ((gt x0.Active k56).Query.Out).length c86, iV ((gt x0.Active k56).Time), .slice A90 ((gt x0.Active k56).Todo).length c91, iV ((gt x0.Active k56).Age), iV ((gt x0.Active k56).Sent), iV ((gt x0.Active k56).Cap), .slice A95 ((gt x0.Active k56).Rows).length c96]
      refine wv (fun W hm => Qad (cs := K3) Qaj Qbe rfl rfl (hm.elCells (show (a62.add (k56 * 10)).block < w.heap.size from by rw [Qae]; exact hb63.1) hc65)) ?_
      refine Qbm Qbe rfl (Qk rfl) (by decide) (fun p99 => ?_)
      refine wa ?_
      refine sb 0 K3 [Qh p41 39 [.slice A12 x0.Store.Segments.length c13, iV x0.Store.Now, iV x0.Cursor, .slice A17 x0.Order.length c18, .slice (some a62) x0.Active.length c23, .slice A27 x0.Done.length c28, .slice A32 x0.Ledger.length c33, iV x0.Steps]] idM Qbe ?_
      refine nt' (Qe ?_)
      refine Qfa (by kernel_rfl) (by kernel_rfl) ?_
      refine qv (vf Qz rfl Qbt) ?_
      refine qv (fun W hm => Qad (cs := K1) Qbw Qbt rfl rfl (hm.boxPart (n := 1) rfl rfl)) ?_
      refine qv (fun W hm => Qad (cs := K3) Qaj Qbe rfl rfl (hm.boxCells (n := 0) rfl)) ?_
      refine Qev (Qr Qanc rfl) (fun W hm => Qatc W _ x0.Store _ (gt x0.Active k56) (Qgc (x := x0.Store) (hm.rdS0 r15)) (Qrb (x := (gt x0.Active k56)) (hm.rdS0 r83) (hm.rdS0 r88) (hm.rdS0 r93) (hm.rdS0 r98))) (Qk rfl) (by decide) ?_
      refine qv Qbr ?_
      refine qm ?_
      rcases bd (Qrt x0.Store (gt x0.Active k56)) with g101 | g101
      ·
       refine qg vmv (nt g101) ?_
       refine qg (fun W hm => Qem rfl rfl) (nt g101) ?_
       refine qg vmv (nt g101) ?_
       rcases dcd (0 < ((k56 : Nat) : Int)) with ⟨h102, g103⟩ | ⟨h102, g103⟩
       ·
        refine qg (vf Qz rfl Qcw) g103 ?_
        refine qg (vl 1 4 Qax) g103 ?_
        refine qg vmv g103 ?_
        refine qg (fun W hm => Qkz (p := k56) (q := 1) rfl rfl (by omega) (by omega)) g103 ?_
        refine qg (fun W hm => Qje (sz := 10) (k := k56 - 1) Qax Qbe rfl rfl rfl (by omega)) g103 ?_
        refine qg (vf Qaj rfl Qbj) g103 ?_
        refine qg (fun W hm => Qeb (o := 0) Qbq rfl Qf (by decide) rfl rfl) g103 ?_
        obtain ⟨_, e113, hc104⟩ := he64 (k56 - 1) _ (Qbs (show (k56 - 1) < x0.Active.length from by omega))
        obtain ⟨v105, v107, v109, v111, rfl, r106, r108, r110, r112⟩ := Qgp e113
        have l114 := (s_0.2.2.1.2 _ (Qak (show (k56 - 1) < x0.Active.length from by omega))).1.1
        have l115 := (s_0.2.2.1.2 _ (Qak (show (k56 - 1) < x0.Active.length from by omega))).1.2
        have l116 := (s_0.2.2.1.2 _ (Qak (show (k56 - 1) < x0.Active.length from by omega))).2.1
        have l117 := (s_0.2.2.1.2 _ (Qak (show (k56 - 1) < x0.Active.length from by omega))).2.2.1
        obtain ⟨m118, A119, c120, rfl, q121, r122⟩ := Qi r106
        obtain ⟨m123, A124, c125, rfl, q126, r127⟩ := Qi r108
        obtain ⟨m128, A129, c130, rfl, q131, r132⟩ := Qi r110
        obtain ⟨m133, A134, c135, rfl, q136, r137⟩ := Qi r112
        refine qg (fun W hm => Qaw Qs rfl rfl ((hm.cell0 (show ((a62.add ((k56 - 1) * 10)).add 0).block < w.heap.size from by rw [Qae, Qae]; exact hb63.1)).trans (hc104 0 _ rfl))) g103 ?_
        refine qg (vf Qaj rfl Qbj) g103 ?_
        refine qg (fun W hm => Qeb (o := 0) Qbq rfl Qf (by decide) rfl rfl) g103 ?_
        refine qg (vl 0 0 Qs) g103 ?_
        refine qg (fun W hm => Qlu rfl rfl) g103 ?_
        refine qg (vpT g103) (nt g101) ?_
        refine qv (vpF (nt g101)) ?_
        refine nq' ?_
        rcases dcd (((gt x0.Active k56).Query.Id) ≤ ((gt x0.Active (k56 - 1)).Query.Id)) with ⟨h138, g139⟩ | ⟨h138, g139⟩
        ·
         refine Ql rfl g139 ?_
         refine sr (wa (nt' (Qj (Qaa (Qg (Qg (Qaa (Qg ?_))))))))
         exact rtb (h := Qb g43 (Qb g45 (Qb g47 (Qb g49 (Qc g51 (Qc g53 (Qc g55 (Qbf (nr hF58 (Qb g101 (Qb g103 (Qb g139 (rfl))))) rfl))))))))
        refine Qm rfl g139 ?_
        refine Qp (Qam (Qd (Qy ?_)))
        refine wv (Qal k56 1 (by omega)) ?_
        refine wm (Qac ?_)
        exact Qan (k56 + 1, (), ()) sl4 (pk [1]) ⟨(by omega), nx hF58 (Qb g101 (Qb g103 (Qc g139 (rfl)))), trivial⟩ rl
       refine qs g103 ?_
       refine qs g103 ?_
       refine qs g103 ?_
       refine qs g103 ?_
       refine qs g103 ?_
       refine qs g103 ?_
       refine qs g103 ?_
       refine qs g103 ?_
       refine qs g103 ?_
       refine qs g103 ?_
       refine qs g103 ?_
       refine qs g103 ?_
       refine qg (vpF g103) (nt g101) ?_
       refine qv (vpF (nt g101)) ?_
       refine nq' ?_
       refine Qm rfl rfl ?_
       refine Qp (Qam (Qd (Qy ?_)))
       refine wv (Qal k56 1 (by omega)) ?_
       refine wm (Qac ?_)
       exact Qan (k56 + 1, (), ()) sl4 (pk [1]) ⟨(by omega), nx hF58 (Qb g101 (Qc g103 (rfl))), trivial⟩ rl
      refine qs (nf g101) ?_
      refine qs (nf g101) ?_
      refine qs (nf g101) ?_
      refine qu ?_
      refine qu ?_
      refine qu ?_
      refine qu ?_
      refine qu ?_
      refine qu ?_
      refine qu ?_
      refine qu ?_
      refine qu ?_
      refine qu ?_
      refine qu ?_
      refine qu ?_
      refine qs (nf g101) ?_
      refine qv (vpT (nf g101)) ?_
      refine nq' ?_
      refine Ql rfl rfl ?_
      refine sr (wa (nt' (Qj (Qaa (Qg (Qg (Qaa (Qg ?_))))))))
      exact rtb (h := Qb g43 (Qb g45 (Qb g47 (Qb g49 (Qc g51 (Qc g53 (Qc g55 (Qbf (nr hF58 (Qc g101 (rfl))) rfl))))))))
     refine Qm rfl g61 ?_
     refine Qay (Qu (Qu ?_))
     have hE142 := Qbh hl60 hF58
     refine Qaz (Qd (Qe (sr ?_)))
     refine wv (vf Qz rfl Qek) ?_
     refine wv (vl 0 5 Qch) ?_
     refine wv (Qag Qch) ?_
     refine wm (nt' (Qx ?_))
     refine Qbg (S := Unit) (R := Unit) (fun k (_ : Unit) => Qub x0 k) x0.Done.length 0 () () (fun s => [(1, bp p41), (85, .slice A27 x0.Done.length c28), (86, nI x0.Done.length), (87, nI s.1)]) (fun s => [Qh p41 39 K2]) (fun s => True) sl4 trivial ?_
     rintro ⟨k143, ⟨⟩, ⟨⟩⟩ H146 _ _ e e'
     dsimp only at H146 ⊢
     subst e e'
     obtain ⟨hk144, hF145, _⟩ := H146
     refine sr ?_
     refine wv Qai ?_
     refine nt' (Qe ?_)
     rcases dcl k143 x0.Done.length with ⟨hl147, g148⟩ | ⟨hl147, g148⟩
     ·
      refine Ql rfl g148 ?_
      refine Qp (Qd (Qe (Qx (sr ?_))))
      obtain ⟨a149, rfl, hb150, he151⟩ := q29 (by omega)
      refine wv (vix 7 k143 Qch Qcq) ?_
      obtain ⟨_, e159, hc152⟩ := he151 k143 _ (Qbs (show k143 < x0.Done.length from by omega))
      obtain ⟨v153, v155, v157, rfl, r154, r156, r158⟩ := Qlz e159
      have l160 := (s_0.2.2.2.1.2 _ (Qak (show k143 < x0.Done.length from by omega))).1.1
      have l161 := (s_0.2.2.2.1.2 _ (Qak (show k143 < x0.Done.length from by omega))).1.2
      have l162 := (s_0.2.2.2.1.2 _ (Qak (show k143 < x0.Done.length from by omega))).2.1
      obtain ⟨m163, A164, c165, rfl, q166, r167⟩ := Qi r154
      obtain ⟨m168, A169, c170, rfl, q171, r172⟩ := Qi r156
      obtain ⟨m173, A174, c175, rfl, q176, r177⟩ := Qi r158
      let K4 : List Value := [iV ((gt x0.Done k143).Query.Id), iV ((gt x0.Done k143).Query.Tenant), .slice A164 ((gt x0.Done k143).Query.Conds).length c165, .slice A169 ((gt x0.Done k143).Query.Out).length c170, iV ((gt x0.Done k143).Time), iV ((gt x0.Done k143).Steps), .slice A174 ((gt x0.Done k143).Rows).length c175]
      refine wv (fun W hm => Qad (cs := K4) Qda Qcq rfl rfl (hm.elCells (show (a149.add (k143 * 7)).block < w.heap.size from by rw [Qae]; exact hb150.1) hc152)) ?_
      refine Qbm Qcq rfl (Qk rfl) (by decide) (fun p178 => ?_)
      refine sb 0 K4 [Qh p41 39 [.slice A12 x0.Store.Segments.length c13, iV x0.Store.Now, iV x0.Cursor, .slice A17 x0.Order.length c18, .slice A22 x0.Active.length c23, .slice (some a149) x0.Done.length c28, .slice A32 x0.Ledger.length c33, iV x0.Steps]] idM Qcq ?_
      refine nt' (sr ?_)
      refine wv (vf Qda rfl Qbj) ?_
      refine wv (fun W hm => Qad (cs := [iV ((gt x0.Done k143).Query.Id), iV ((gt x0.Done k143).Query.Tenant), .slice A164 ((gt x0.Done k143).Query.Conds).length c165, .slice A169 ((gt x0.Done k143).Query.Out).length c170]) Qbq Qbj rfl rfl (hm.boxPart (n := 0) rfl rfl)) ?_
      refine wcv (Qr Qxj rfl) (fun W hm => Qyd W _ ((gt x0.Done k143).Query) (Qhg (x := ((gt x0.Done k143).Query)) (hm.rdS0 r167) (hm.rdS0 r172))) ?_
      refine wv Qbr ?_
      refine wm ?_
      rcases bd (Qmk ((gt x0.Done k143).Query)) with g180 | g180
      ·
       refine wg (vf Qda rfl Qf) (nt g180) ?_
       refine wg (vl 0 4 Qs) (nt g180) ?_
       refine wg (vf Qz rfl Qbt) (nt g180) ?_
       refine wg (fun W hm => Qeb (o := 1) Qbw rfl Qf (by decide) rfl rfl) (nt g180) ?_
       refine wg (vl 1 1 Qs) (nt g180) ?_
       refine Qcr (Qr Qfn rfl) (fun W hm => Qfo W ((gt x0.Done k143).Time) 0 x0.Store.Now) (Qcc rfl rfl rfl (bw (nt g180) rfl)) (by decide) ?_
       refine wg Qbr (nt g180) ?_
       refine wv (vpF (nt g180)) ?_
       refine wm ?_
       rcases bd (Qcz ((gt x0.Done k143).Time) 0 x0.Store.Now) with g182 | g182
       ·
        have hw := Qgf g182
        refine wg (vf Qda rfl Qf) (nt g182) ?_
        refine wg (vl 0 5 Qs) (nt g182) ?_
        refine Qcr (Qr Qfn rfl) (fun W hm => Qfo W ((gt x0.Done k143).Steps) 0 100000) (Qcc rfl rfl rfl (bw (nt g182) rfl)) (by decide) ?_
        refine wg Qbr (nt g182) ?_
        refine wv (vpF (nt g182)) ?_
        refine wm ?_
        rcases bd (Qcz ((gt x0.Done k143).Steps) 0 100000) with g184 | g184
        ·
         have hw := Qgf g184
         refine wg (vf Qda rfl Qdt) (nt g184) ?_
         refine wg (vl 0 6 Qci) (nt g184) ?_
         refine Qcr (Qr Qadg rfl) (fun W hm => Qafs W _ ((gt x0.Done k143).Rows) (hm.rdS0 r177)) (Qcc rfl rfl rfl (bw (nt g184) rfl)) (by decide) ?_
         refine wg Qbr (nt g184) ?_
         refine wv (vpF (nt g184)) ?_
         refine nt' ?_
         rcases bd (Qqh ((gt x0.Done k143).Rows)) with g186 | g186
         ·
          refine Qm rfl (nt g186) ?_
          refine Qp (Qam (Qd (Qy ?_)))
          refine wv (Qal k143 1 (by omega)) ?_
          refine wm (Qac ?_)
          exact Qan (k143 + 1, (), ()) sl4 (pk [1]) ⟨(by omega), nx hF145 (Qb g180 (Qb g182 (Qb g184 (Qb g186 (rfl))))), trivial⟩ rl
         refine Ql rfl (nf g186) ?_
         refine sr (wa (nt' (Qj (Qaa (Qg (Qg (Qaa (Qg ?_))))))))
         exact rtb (h := Qb g43 (Qb g45 (Qb g47 (Qb g49 (Qc g51 (Qc g53 (Qc g55 (Qar hE142 (Qbf (nr hF145 (Qb g180 (Qb g182 (Qb g184 (Qc g186 (rfl)))))) rfl)))))))))
        refine ws (nf g184) ?_
        refine ws (nf g184) ?_
        refine ws (nf g184) ?_
        refine ws (nf g184) ?_
        refine wv (vpT (nf g184)) ?_
        refine nt' ?_
        refine Ql rfl rfl ?_
        refine sr (wa (nt' (Qj (Qaa (Qg (Qg (Qaa (Qg ?_))))))))
        exact rtb (h := Qb g43 (Qb g45 (Qb g47 (Qb g49 (Qc g51 (Qc g53 (Qc g55 (Qar hE142 (Qbf (nr hF145 (Qb g180 (Qb g182 (Qc g184 (rfl))))) rfl)))))))))
       refine ws (nf g182) ?_
       refine ws (nf g182) ?_
       refine ws (nf g182) ?_
       refine ws (nf g182) ?_
       iterate 7 first | refine wv (vpT (nf g182)) ?_ | refine wm ?_ | refine wk ?_ | refine wv (vpT rfl) ?_
       refine nt' ?_
       refine Ql rfl rfl ?_
       refine sr (wa (nt' (Qj (Qaa (Qg (Qg (Qaa (Qg ?_))))))))
       exact rtb (h := Qb g43 (Qb g45 (Qb g47 (Qb g49 (Qc g51 (Qc g53 (Qc g55 (Qar hE142 (Qbf (nr hF145 (Qb g180 (Qc g182 (rfl)))) rfl)))))))))
      refine ws (nf g180) ?_
      refine ws (nf g180) ?_
      refine ws (nf g180) ?_
      refine ws (nf g180) ?_
      refine ws (nf g180) ?_
      refine ws (nf g180) ?_
      refine ws (nf g180) ?_
      iterate 13 first | refine wv (vpT (nf g180)) ?_ | refine wm ?_ | refine wk ?_ | refine wv (vpT rfl) ?_
      refine nt' ?_
      refine Ql rfl rfl ?_
      refine sr (wa (nt' (Qj (Qaa (Qg (Qg (Qaa (Qg ?_))))))))
      exact rtb (h := Qb g43 (Qb g45 (Qb g47 (Qb g49 (Qc g51 (Qc g53 (Qc g55 (Qar hE142 (Qbf (nr hF145 (Qc g180 (rfl))) rfl)))))))))
     refine Qm rfl g148 ?_
     refine Qay (Qu (Qu ?_))
     have hE188 := Qbh hl147 hF145
     refine Qaz (Qd (Qe (sr ?_)))
     refine wv (vf Qz rfl Qfg) ?_
     refine wv (vl 0 6 Qcx) ?_
     refine wv (Qag Qcx) ?_
     refine wm (nt' (Qx ?_))
     refine Qbg (S := Unit) (R := Unit) (fun k (_ : Unit) => Quc x0 k) x0.Ledger.length 0 () () (fun s => [(118, .slice A32 x0.Ledger.length c33), (119, nI x0.Ledger.length), (120, nI s.1)]) (fun s => [Qh p41 39 K2]) (fun s => True) sl3 trivial ?_
     rintro ⟨k189, ⟨⟩, ⟨⟩⟩ H192 _ _ e e'
     dsimp only at H192 ⊢
     subst e e'
     obtain ⟨hk190, hF191, _⟩ := H192
     refine sr ?_
     refine wv Qai ?_
     refine nt' (Qe ?_)
     rcases dcl k189 x0.Ledger.length with ⟨hl193, g194⟩ | ⟨hl193, g194⟩
     ·
      refine Ql rfl g194 ?_
      refine Qp (Qd (Qe (Qx (sr ?_))))
      obtain ⟨a195, rfl, hb196, he197⟩ := q34 (by omega)
      refine wv (vix 5 k189 Qcx Qcs) ?_
      obtain ⟨_, e205, hc198⟩ := he197 k189 _ (Qbs (show k189 < x0.Ledger.length from by omega))
      obtain ⟨v199, v201, v203, rfl, r200, r202, r204⟩ := Qjn e205
      have l206 := (s_0.2.2.2.2.2 _ (Qak (show k189 < x0.Ledger.length from by omega))).1
      have l207 := (s_0.2.2.2.2.2 _ (Qak (show k189 < x0.Ledger.length from by omega))).2.1
      have l208 := (s_0.2.2.2.2.2 _ (Qak (show k189 < x0.Ledger.length from by omega))).2.2
      obtain ⟨m209, A210, c211, rfl, q212, r213⟩ := Qi r200
      obtain ⟨m214, A215, c216, rfl, q217, r218⟩ := Qi r202
      obtain ⟨m219, A220, c221, rfl, q222, r223⟩ := Qi r204
      let K5 : List Value := [iV ((gt x0.Ledger k189).Segment), iV ((gt x0.Ledger k189).Base), .slice A210 ((gt x0.Ledger k189).Ids).length c211, .slice A215 ((gt x0.Ledger k189).Tenants).length c216, .slice A220 ((gt x0.Ledger k189).Rows).length c221]
      refine wv (fun W hm => Qad (cs := K5) Qby Qcs rfl rfl (hm.elCells (show (a195.add (k189 * 5)).block < w.heap.size from by rw [Qae]; exact hb196.1) hc198)) ?_
      refine Qbm Qcs rfl (Qk rfl) (by decide) (fun p224 => ?_)
      refine sb 0 K5 [Qh p41 39 [.slice A12 x0.Store.Segments.length c13, iV x0.Store.Now, iV x0.Cursor, .slice A17 x0.Order.length c18, .slice A22 x0.Active.length c23, .slice A27 x0.Done.length c28, .slice (some a195) x0.Ledger.length c33, iV x0.Steps]] idM Qcs ?_
      refine nt' (sr ?_)
      refine wv (fun W hm => Qad (cs := K5) Qby Qcs rfl rfl (hm.boxCells (n := 0) rfl)) ?_
      refine wcv (Qr Qand rfl) (fun W hm => Qasp W _ (gt x0.Ledger k189) (Qrc (x := (gt x0.Ledger k189)) (hm.rdS0 r213) (hm.rdS0 r218) (hm.rdS0 r223))) ?_
      refine wv Qbr ?_
      refine nt' ?_
      rcases bd (Qol (gt x0.Ledger k189)) with g226 | g226
      ·
       refine Qm rfl (nt g226) ?_
       refine Qp (Qam (Qd (Qy ?_)))
       refine wv (Qal k189 1 (by omega)) ?_
       refine wm (Qac ?_)
       exact Qan (k189 + 1, (), ()) sl3 (pk [1]) ⟨(by omega), nx hF191 (Qb g226 (rfl)), trivial⟩ rl
      refine Ql rfl (nf g226) ?_
      refine sr (wa (nt' (Qj (Qaa (Qg (Qg (Qaa (Qg ?_))))))))
      exact rtb (h := Qb g43 (Qb g45 (Qb g47 (Qb g49 (Qc g51 (Qc g53 (Qc g55 (Qar hE142 (Qar hE188 (Qbf (nr hF191 (Qc g226 (rfl))) rfl))))))))))
     refine Qm rfl g194 ?_
     refine Qay (Qu (Qu ?_))
     have hE228 := Qbh hl193 hF191
     refine Qaz (Qd (sr (wa (nt' (Qj ?_)))))
     exact rtb (h := Qb g43 (Qb g45 (Qb g47 (Qb g49 (Qc g51 (Qc g53 (Qc g55 (Qar hE142 (Qar hE188 (Qar hE228 (rfl)))))))))))
    refine Ql rfl (nf g49) ?_
    refine sr (wa (nt' (Qj (Qg ?_))))
    exact rtb (h := Qb g43 (Qb g45 (Qb g47 (Qc g49 (rfl)))))
   refine ws (nf g47) ?_
   refine ws (nf g47) ?_
   refine ws (nf g47) ?_
   refine ws (nf g47) ?_
   refine wv (vpT (nf g47)) ?_
   refine nt' ?_
   refine Ql rfl rfl ?_
   refine sr (wa (nt' (Qj (Qg ?_))))
   exact rtb (h := Qb g43 (Qb g45 (Qc g47 (rfl))))
  refine ws (nf g45) ?_
  refine ws (nf g45) ?_
  refine ws (nf g45) ?_
  refine ws (nf g45) ?_
  iterate 7 first | refine wv (vpT (nf g45)) ?_ | refine wm ?_ | refine wk ?_ | refine wv (vpT rfl) ?_
  refine nt' ?_
  refine Ql rfl rfl ?_
  refine sr (wa (nt' (Qj (Qg ?_))))
  exact rtb (h := Qb g43 (Qc g45 (rfl)))
 refine ws (nf g43) ?_
 refine ws (nf g43) ?_
 refine ws (nf g43) ?_
 refine ws (nf g43) ?_
 refine ws (nf g43) ?_
 refine ws (nf g43) ?_
 refine ws (nf g43) ?_
 refine ws (nf g43) ?_
 refine ws (nf g43) ?_
 iterate 13 first | refine wv (vpT (nf g43)) ?_ | refine wm ?_ | refine wk ?_ | refine wv (vpT rfl) ?_
 refine nt' ?_
 refine Ql rfl rfl ?_
 refine sr (wa (nt' (Qj (Qg ?_))))
 exact rtb (h := Qc g43 (rfl))

def Qno (x0 : Qw) : Bool :=
 cond (x0.Cap == 0) true (decide (x0.Sent < x0.Cap))
theorem cb90 : Cb Tryz.prog 90 := ⟨f90, _, func90, rfl, by decide⟩
theorem Qaub (w : World) (z0 : List Value) (x0 : Qw) (r_0 : Qah.rd w w.heap.size z0 x0) :
  Calls Tryz.prog 90 #[.agg z0.toArray] w (rB w (Qno x0)) := by
 obtain ⟨v1, v3, v5, v7, rfl, r2, r4, r6, r8⟩ := Qgp r_0
 obtain ⟨m9, A10, c11, rfl, q12, r13⟩ := Qi r2
 obtain ⟨m14, A15, c16, rfl, q17, r18⟩ := Qi r4
 obtain ⟨m19, A20, c21, rfl, q22, r23⟩ := Qi r6
 obtain ⟨m24, A25, c26, rfl, q27, r28⟩ := Qi r8
 refine ce1 (L := [(0, .agg #[iV x0.Query.Id, iV x0.Query.Tenant, .slice A10 x0.Query.Conds.length c11, .slice A15 x0.Query.Out.length c16, iV x0.Time, .slice A20 x0.Todo.length c21, iV x0.Age, iV x0.Sent, iV x0.Cap, .slice A25 x0.Rows.length c26])]) (N := 13) func90 ?_
 refine sr ?_
 refine Qbn rfl (Qk rfl) (by decide) (fun p29 => ?_)
 refine wa (nt' (sr ?_))
 refine wv (vf Qaj rfl Qf) ?_
 refine wv (vl 0 8 Qs) ?_
 refine wv (fun W hm => Qfe rfl rfl) ?_
 refine wm ?_
 rcases dce x0.Cap 0 with ⟨h30, g31⟩ | ⟨h30, g31⟩
 ·
  iterate 6 first | refine ws g31 ?_ | refine wv (vpT g31) ?_
  refine wa (nt' (Qj ?_))
  exact rtb (h := Qb g31 (rfl))
 refine wg (vf Qaj rfl Qf) g31 ?_
 refine wg (vl 0 8 Qs) g31 ?_
 refine wg (vf Qaj rfl Qf) g31 ?_
 refine wg (vl 0 7 Qs) g31 ?_
 refine wg (fun W hm => Qem rfl rfl) g31 ?_
 refine wv (vpF g31) ?_
 refine wa (nt' (Qj ?_))
 exact rtb (h := Qc g31 (rfl))

def Qnn (x0 : Qo) (k46 : Nat) (d47 : (List Int)) : (List Int) ⊕ ((List Int)) :=
 cond (Qno (gt x0.Active k46)) (cond (Qhs ((gt x0.Active k46).Todo) x0.Cursor) (Sum.inr (d47 ++ [(gt x0.Active k46).Query.Id])) (Sum.inr d47)) (Sum.inr d47)
def Qce (x0 : Qo) : (List Int) :=
 cond (Qiq x0) (Sum.elim id (fun (s : (List Int)) => s) (rng (R := (List Int)) (fun k (s : (List Int)) => Qnn x0 k s) (x0.Active.length - 0) 0 [])) []
theorem cb22 : Cb Tryz.prog 22 := ⟨f22, _, func22, rfl, by decide⟩
theorem Qasv (w : World) (z0 : List Value) (x0 : Qo) (r_0 : Qcb.rd w w.heap.size z0 x0) (s_0 : Qen 68719476736 x0) :
  Calls Tryz.prog 22 #[.agg z0.toArray] w (rL w (tSl Qa 3) (Qce x0)) := by
 obtain ⟨v1, v3, v5, v7, v9, rfl, r2, r4, r6, r8, r10⟩ := Qia r_0
 obtain ⟨m11, A12, c13, rfl, q14, r15⟩ := Qi r2
 obtain ⟨m16, A17, c18, rfl, q19, r20⟩ := Qi r4
 obtain ⟨m21, A22, c23, rfl, q24, r25⟩ := Qi r6
 obtain ⟨m26, A27, c28, rfl, q29, r30⟩ := Qi r8
 obtain ⟨m31, A32, c33, rfl, q34, r35⟩ := Qi r10
 have l36 : x0.Store.Segments.length ≤ 68719476736 := s_0.1.1
 have l37 := s_0.2.1
 have l38 := s_0.2.2.1.1
 have l39 := s_0.2.2.2.1.1
 have l40 := s_0.2.2.2.2.1
 refine ce1 (L := [(0, .agg #[.slice A12 x0.Store.Segments.length c13, iV x0.Store.Now, iV x0.Cursor, .slice A17 x0.Order.length c18, .slice A22 x0.Active.length c23, .slice A27 x0.Done.length c28, .slice A32 x0.Ledger.length c33, iV x0.Steps])]) (N := 35) func22 ?_
 refine sr ?_
 refine Qbn rfl (Qk rfl) (by decide) (fun p41 => ?_)
 refine wa (nt' (sr ?_))
 refine Qcf (E := Qa) Qq Qf (Qk rfl) (by decide) (fun p42 => ?_)
 refine wa (nt' (Qe (sr ?_)))
 let K1 : List Value := [.slice A12 x0.Store.Segments.length c13, iV x0.Store.Now, iV x0.Cursor, .slice A17 x0.Order.length c18, .slice A22 x0.Active.length c23, .slice A27 x0.Done.length c28, .slice A32 x0.Ledger.length c33, iV x0.Steps]
 refine wv (fun W hm => Qad (cs := K1) Qz Qbd rfl rfl (hm.boxCells (n := 1) rfl)) ?_
 refine wcv (Qr Qxr rfl) (fun W hm => Qyb W _ x0 (Qep (x := x0) (hm.rdS0 r15) (hm.rdS0 r20) (hm.rdS0 r25) (hm.rdS0 r30) (hm.rdS0 r35)) s_0) ?_
 refine wv Qbr ?_
 refine nt' ?_
 rcases bd (Qiq x0) with g45 | g45
 ·
  refine Qm rfl (nt g45) ?_
  refine Qp (Qd (Qe (sr ?_)))
  refine wv (vf Qz rfl Qcw) ?_
  refine wv (vl 1 4 Qax) ?_
  refine wv (Qag Qax) ?_
  refine wm (nt' (Qx ?_))
  refine Qbg (S := (List Int)) (R := Option Addr × Nat) (fun k (s : (List Int)) => Qnn x0 k s) x0.Active.length 0 [] ((sA p42), 0) (fun s => [(1, bp p41), (3, .slice s.2.2.1 s.2.1.length s.2.2.2), (12, .slice A22 x0.Active.length c23), (13, nI x0.Active.length), (14, nI s.1)]) (fun s => [iS Qa 3 s.2.2.1 s.2.2.2 s.2.1, Qh p41 39 K1]) (fun s => s.2.1.length ≤ 0 + s.1) sl5 (Nat.le_refl _) ?_
  rintro ⟨k46, d47, ⟨A48, c49⟩⟩ H52 _ _ e e'
  dsimp only at H52 ⊢
  subst e e'
  obtain ⟨hk50, hF51, hi53⟩ := H52
  refine sr ?_
  refine wv Qai ?_
  refine nt' (Qe ?_)
  rcases dcl k46 x0.Active.length with ⟨hl54, g55⟩ | ⟨hl54, g55⟩
  ·
   refine Ql rfl g55 ?_
   refine Qp (Qd (Qe (Qx (sr ?_))))
   obtain ⟨a56, rfl, hb57, he58⟩ := q24 (by omega)
   refine wv (vix 10 k46 Qax Qbe) ?_
   obtain ⟨_, e68, hc59⟩ := he58 k46 _ (Qbs (show k46 < x0.Active.length from by omega))
   obtain ⟨v60, v62, v64, v66, rfl, r61, r63, r65, r67⟩ := Qgp e68
   have l69 := (s_0.2.2.1.2 _ (Qak (show k46 < x0.Active.length from by omega))).1.1
   have l70 := (s_0.2.2.1.2 _ (Qak (show k46 < x0.Active.length from by omega))).1.2
   have l71 := (s_0.2.2.1.2 _ (Qak (show k46 < x0.Active.length from by omega))).2.1
   have l72 := (s_0.2.2.1.2 _ (Qak (show k46 < x0.Active.length from by omega))).2.2.1
   obtain ⟨m73, A74, c75, rfl, q76, r77⟩ := Qi r61
   obtain ⟨m78, A79, c80, rfl, q81, r82⟩ := Qi r63
   obtain ⟨m83, A84, c85, rfl, q86, r87⟩ := Qi r65
   obtain ⟨m88, A89, c90, rfl, q91, r92⟩ := Qi r67
   let K2 : List Value := [iV ((gt x0.Active k46).Query.Id), iV ((gt x0.Active k46).Query.Tenant), .slice A74 ((gt x0.Active k46).Query.Conds).length c75, .slice A79 ((gt x0.Active k46).Query.Out).length c80, iV ((gt x0.Active k46).Time), .slice A84 ((gt x0.Active k46).Todo).length c85, iV ((gt x0.Active k46).Age), iV ((gt x0.Active k46).Sent), iV ((gt x0.Active k46).Cap), .slice A89 ((gt x0.Active k46).Rows).length c90]
   refine wv (fun W hm => Qad (cs := K2) Qaj Qbe rfl rfl (hm.elCells (show (a56.add (k46 * 10)).block < w.heap.size from by rw [Qae]; exact hb57.1) hc59)) ?_
   refine Qbm Qbe rfl (Qk rfl) (by decide) (fun p93 => ?_)
   let K3 : List Value := [.slice A12 x0.Store.Segments.length c13, iV x0.Store.Now, iV x0.Cursor, .slice A17 x0.Order.length c18, .slice (some a56) x0.Active.length c23, .slice A27 x0.Done.length c28, .slice A32 x0.Ledger.length c33, iV x0.Steps]
   refine sb 0 K2 [iS Qa 3 A48 c49 d47, Qh p41 39 K3] idM Qbe ?_
   refine nt' (sr ?_)
   refine wv (fun W hm => Qad (cs := K2) Qaj Qbe rfl rfl (hm.boxCells (n := 0) rfl)) ?_
   refine wcv (Qr cb90 rfl) (fun W hm => Qaub W _ (gt x0.Active k46) (Qrb (x := (gt x0.Active k46)) (hm.rdS0 r77) (hm.rdS0 r82) (hm.rdS0 r87) (hm.rdS0 r92))) ?_
   refine wm ?_
   rcases bd (Qno (gt x0.Active k46)) with g95 | g95
   ·
    refine wg (vf Qaj rfl Qao) g95 ?_
    refine wg (vl 0 5 Qq) g95 ?_
    refine wg (vf Qz rfl Qf) g95 ?_
    refine wg (vl 2 2 Qs) g95 ?_
    refine Qcr (Qr cb91 rfl) (fun W hm => Qafo W _ ((gt x0.Active k46).Todo) x0.Cursor (hm.rdS0 r87)) (Qcc rfl rfl rfl (bw g95 rfl)) (by decide) ?_
    refine wv (vpT g95) ?_
    refine nt' ?_
    rcases bd (Qhs ((gt x0.Active k46).Todo) x0.Cursor) with g97 | g97
    ·
     refine Ql rfl g97 ?_
     refine Qy (wm ?_)
     refine wv (vf Qaj rfl Qbj) ?_
     refine wv (fun W hm => Qeb (o := 0) Qbq rfl Qf (by decide) rfl rfl) ?_
     refine wv (vl 0 0 Qs) ?_
     refine Qde (cs := [iV ((gt x0.Active k46).Query.Id)]) Qq Qf rfl (by decide) (by decide) rfl (by kernel_rfl) (Qk rfl) (by decide) (fun p98 => ?_)
     refine ap1 Qa 3 (.slice A48 d47.length c49) d47 ((gt x0.Active k46).Query.Id) [] [Qh p93 61 K2, Qh p41 39 K3] [iV ((gt x0.Active k46).Query.Id)] (pk [0, 2, 1, 3]) (fun _ _ hs => by cases (Sep.nil hs); exact (Qhq Qck Qhr)) Qq Qf (show (d47.length + 1) * 8 ≤ 140737488355328 from by omega) (fun v99 => ?_)
     refine fm 0 ?_
     rintro A100 c101 rfl m102
     refine wa (Qac (Qam (Qd (Qy ?_))))
     refine wv (Qal k46 1 (by omega)) ?_
     refine wm (Qac ?_)
     exact Qan (k46 + 1, (d47 ++ [(gt x0.Active k46).Query.Id]), (A100, c101)) sl5 (pk [0, 2]) ⟨(by omega), nx hF51 (Qb g95 (Qb g97 (rfl))), (show (d47 ++ [(gt x0.Active k46).Query.Id]).length ≤ 0 + (k46 + 1) from by first | omega | (simp only [List.length_append, List.length_cons, List.length_nil] at *; omega))⟩ rl
    refine Qm rfl g97 ?_
    refine Qp (Qam (Qd (Qy ?_)))
    refine wv (Qal k46 1 (by omega)) ?_
    refine wm (Qac ?_)
    exact Qan (k46 + 1, d47, (A48, c49)) sl5 (pk [1, 2]) ⟨(by omega), nx hF51 (Qb g95 (Qc g97 (rfl))), (show d47.length ≤ 0 + (k46 + 1) from by first | omega | (simp only [List.length_append, List.length_cons, List.length_nil] at *; omega))⟩ rl
   iterate 6 first | refine ws g95 ?_ | refine wv (vpF g95) ?_
   refine nt' ?_
   refine Qm rfl rfl ?_
   refine Qp (Qam (Qd (Qy ?_)))
   refine wv (Qal k46 1 (by omega)) ?_
   refine wm (Qac ?_)
   exact Qan (k46 + 1, d47, (A48, c49)) sl5 (pk [1, 2]) ⟨(by omega), nx hF51 (Qc g95 (rfl)), (show d47.length ≤ 0 + (k46 + 1) from by first | omega | (simp only [List.length_append, List.length_cons, List.length_nil] at *; omega))⟩ rl
  refine Qm rfl g55 ?_
  refine Qay (Qu (Qu ?_))
  have hE107 := Qbh hl54 hF51
  refine Qaz (Qd (sr (wm (wa (nt' (Qj ?_))))))
  have he108 := (show Qce x0 = d47 from Qb g45 (Qar hE107 (rfl)))
  refine Qcu rfl (Qdl rfl) (fun W hm => ⟨.slice A48 d47.length c49, ?_, ?_⟩)
  ·first | rw [he108] | rfl
  rw [he108]; exact (hm.pick [0] (by decide))
 refine Ql rfl (nf g45) ?_
 refine sr (wm (wa (nt' (Qj (Qg ?_)))))
 have he109 := (show Qce x0 = [] from Qc g45 (rfl))
 refine Qcu rfl (Qdl rfl) (fun W hm => ⟨.slice (sA p42) 0 0, ?_, ?_⟩)
 ·first | rw [he109] | rfl
 rw [he109]; exact (hm.pick [0] (by decide))

theorem Qahh {n : Nat} {b : Nat → Unit → Bool ⊕ Unit} (h : ∀ j, b j () = .inr () ∨ b j () = .inl false) : ∀ m k, rng b m k () = .inr () ∨ rng b m k () = .inl false
  | 0, _ => .inl rfl
  | m + 1, k => by
    rcases h k with h1 | h1
    · rw [rng, h1]; exact Qahh (n := n) h m (k + 1)
    right; rw [rng, h1]; rfl
theorem Qbdy (x a b : Int) : Qcz x a b = Qbk x a b := rfl
theorem Qalb (x : List Int) (k : Nat) : Que x k = Qss x k := by
  unfold Que Qss Qbk
  by_cases h1 : gt x k < 0
  · have h2 : ¬ 0 ≤ gt x k := by omega
    simp only [decide_eq_true h1, decide_eq_false h2, cond_true, cond_false]
  have h2 : 0 ≤ gt x k := by omega
  by_cases h3 : 24 ≤ gt x k
  · have h4 : ¬ gt x k ≤ 23 := by omega
    simp only [decide_eq_false h1, decide_eq_true h2, decide_eq_true h3, decide_eq_false h4, cond_true, cond_false]
  have h4 : gt x k ≤ 23 := by omega
  simp only [decide_eq_false h1, decide_eq_true h2, decide_eq_false h3, decide_eq_true h4, cond_true, cond_false]
theorem Qald (x : List Int) : Qqa x = Qgx x := by
  unfold Qqa Qgx
  simp only [Qalb]
theorem Qakx (x : Qbc) (k : Nat) : Qya x k = Qoy x k := rfl
theorem Qaky (x : Qbc) (k : Nat) : Qoy x k = .inr () ∨ Qoy x k = .inl false := by
  unfold Qoy
  cases Qbk (gt x.Tenants k) 0 3 <;> cases Qbk (gt x.Rows k) 0 x.Base <;> simp
theorem Qakz (x : Qbc) : Qol x = Qlw x := by
  unfold Qol Qlw
  rw [Qald]
  simp only [Qakx, Qbdy]
  have h8 : Qbk ((x.Ids.length : Nat) : Int) 1 8 = cond (((x.Ids.length : Nat) : Int) == 0) false (cond (decide (8 < ((x.Ids.length : Nat) : Int))) false true) := by
    unfold Qbk
    by_cases h1 : ((x.Ids.length : Nat) : Int) = 0
    · rw [beq_iff_eq.2 h1, decide_eq_false (show ¬ 1 ≤ ((x.Ids.length : Nat) : Int) by omega)]; rfl
    rw [beq_eq_false_iff_ne.2 h1, decide_eq_true (show 1 ≤ ((x.Ids.length : Nat) : Int) by omega)]
    by_cases h2 : 8 < ((x.Ids.length : Nat) : Int)
    · rw [decide_eq_true h2, decide_eq_false (show ¬ ((x.Ids.length : Nat) : Int) ≤ 8 by omega)]; rfl
    rw [decide_eq_false h2, decide_eq_true (show ((x.Ids.length : Nat) : Int) ≤ 8 by omega)]; rfl
  rw [h8]
  have hr := Qahh (n := 0) (b := fun k (_ : Unit) => Qoy x k) (Qaky x) (x.Ids.length - 0) 0
  rcases hr with hr | hr <;> rw [hr] <;> cases Qgx x.Ids <;> cases (((x.Ids.length : Nat) : Int) == 0) <;> cases (decide (8 < ((x.Ids.length : Nat) : Int))) <;>
    cases (((x.Tenants.length : Nat) : Int) != ((x.Ids.length : Nat) : Int)) <;> cases (((x.Rows.length : Nat) : Int) != ((x.Ids.length : Nat) : Int)) <;> cases Qbk x.Segment 0 7 <;> cases Qbk x.Base 0 4 <;> rfl
theorem Qauh (x : Int) : Qqf x = Qbk x 0 2 := rfl
def okS (now : Int) (seen : List Qt) (v : Qt) : Bool := Qhz v now && seen.all fun w => Qjl v w
def okI (now : Int) (seen : List Qt) (v : Qt) : Bool := Qhz v now && seen.all fun w => !(v.Id == w.Id && Qix v w)
def Qew (ok : List Qt → Qt → Bool) : List Qt → List Qt → Bool
  | _, [] => true
  | seen, v :: l => ok seen v && Qew ok (seen ++ [v]) l
theorem Qaho (ok : List Qt → Qt → Bool) : ∀ (s t seen : List Qt), Qew ok seen (s ++ t) = (Qew ok seen s && Qew ok (seen ++ s) t)
  | [], t, seen => by simp [Qew]
  | v :: s, t, seen => by
    show (ok seen v && Qew ok (seen ++ [v]) (s ++ t)) = _
    rw [Qaho ok s t]
    simp [Qew, Bool.and_assoc]
theorem Qaem (ok : List Qt → Qt → Bool) : ∀ (l seen : List Qt), Qlp (fun d v => ok d v) (fun d v => d ++ [v]) l seen = cond (Qew ok seen l) (some (seen ++ l)) none
  | [], seen => by simp [Qlp, Qew]
  | v :: l, seen => by
    rw [Qlp, Qaem ok l]
    show _ = cond (ok seen v && Qew ok (seen ++ [v]) l) _ _
    cases ok seen v <;> simp
theorem Qxd (v : Qt) (now : Int) : Qhz v now = (Qgn (⟨v.Id, v.Values⟩ : Qab) && decide (0 ≤ v.Born ∧ v.Born ≤ now) && (v.Died == (-1) || decide (IntKind.i64.wrap (v.Born + 1) ≤ v.Died ∧ v.Died ≤ now))) := by
  unfold Qhz
  rw [Qft, Qft]
  cases Qgn (⟨v.Id, v.Values⟩ : Qab) <;> cases decide (0 ≤ v.Born ∧ v.Born ≤ now) <;> cases v.Died == (-1) <;> rfl
theorem Qatb (x : Qau) (i j : Nat) (d : List Qt) : rng (R := Bool) (fun k (_ : Unit) => Qrq x i j d k) (d.length - 0) 0 () = cond (d.all fun w => !((gt (gt x.Segments i) j).Id == w.Id && Qix (gt (gt x.Segments i) j) w)) (.inr ()) (.inl false) :=
  Qqp fun k _ => by
    unfold Qrq
    cases (gt (gt x.Segments i) j).Id == (gt d k).Id <;> cases Qix (gt (gt x.Segments i) j) (gt d k) <;> rfl
theorem Qata (x : Qau) (i j : Nat) (d : List Qt) : Qug x i j d = cond (okI x.Now d (gt (gt x.Segments i) j)) (.inr (d ++ [gt (gt x.Segments i) j])) (.inl false) := by
  have h4 : (fun k (_ : Unit) => Qyf x i j d k) = fun k (_ : Unit) => Qrq x i j d k := rfl
  unfold Qug okI
  rw [h4, Qatb, Qxd, Qus, Qus]
  have hr : Qml (Qhb (gt (gt x.Segments i) j)) = Qgn (⟨(gt (gt x.Segments i) j).Id, (gt (gt x.Segments i) j).Values⟩ : Qab) := rfl
  rw [hr]
  have hn : ((gt (gt x.Segments i) j).Died != (-1)) = !((gt (gt x.Segments i) j).Died == (-1)) := rfl
  rw [hn]
  cases Qgn (⟨(gt (gt x.Segments i) j).Id, (gt (gt x.Segments i) j).Values⟩ : Qab) <;> cases decide (0 ≤ (gt (gt x.Segments i) j).Born ∧ (gt (gt x.Segments i) j).Born ≤ x.Now) <;> cases (gt (gt x.Segments i) j).Died == (-1) <;>
    cases decide (IntKind.i64.wrap ((gt (gt x.Segments i) j).Born + 1) ≤ (gt (gt x.Segments i) j).Died ∧ (gt (gt x.Segments i) j).Died ≤ x.Now) <;> cases (d.all fun w => !((gt (gt x.Segments i) j).Id == w.Id && Qix (gt (gt x.Segments i) j) w)) <;> rfl
theorem Qasz (x : Qau) (i : Nat) (d : List Qt) : Quf x i d = cond (decide ((gt x.Segments i).length ≤ 4) && Qew (okI x.Now) d (gt x.Segments i)) (.inr (d ++ gt x.Segments i)) (.inl false) := by
  unfold Quf
  rw [Qahi (xs := gt x.Segments i) (r := false) (c := fun d v => okI x.Now d v) (f := fun d v => d ++ [v]) (fun j s _ => Qata x i j s), Qaem]
  by_cases h : (gt x.Segments i).length ≤ 4
  · rw [decide_eq_true h, decide_eq_false (show ¬ 4 < ((gt x.Segments i).length : Int) by omega)]
    cases Qew (okI x.Now) d (gt x.Segments i) <;> rfl
  rw [decide_eq_false h, decide_eq_true (show 4 < ((gt x.Segments i).length : Int) by omega)]
  rfl
theorem Qaen (ok : List Qt → Qt → Bool) : ∀ (l : List (List Qt)) (d : List Qt), Qlp (fun d s => decide (s.length ≤ 4) && Qew ok d s) (fun d s => d ++ s) l d = cond (l.all (fun s => decide (s.length ≤ 4)) && Qew ok d l.flatten) (some (d ++ l.flatten)) none
  | [], d => by simp [Qlp, Qew]
  | s :: l, d => by
    rw [Qlp, Qaen ok l, List.flatten_cons, Qaho, List.all_cons]
    cases decide (s.length ≤ 4) <;> cases Qew ok d s <;> cases l.all (fun s => decide (s.length ≤ 4)) <;> simp
def Qqz (ok : List Qt → Qt → Bool) (x : Qau) : Bool := decide (1 ≤ (x.Segments.length : Int) ∧ (x.Segments.length : Int) ≤ 8) && decide (0 ≤ x.Now ∧ x.Now ≤ 100000) && x.Segments.all (fun s => decide (s.length ≤ 4)) && Qew ok [] x.Segments.flatten
theorem Qass (x : Qau) : Qlr x = Qqz (okI x.Now) x := by
  unfold Qlr Qqz
  rw [Qahi (xs := x.Segments) (r := false) (c := fun d s => decide (s.length ≤ 4) && Qew (okI x.Now) d s) (f := fun d s => d ++ s) (fun j s _ => Qasz x j s), Qaen, Qus, Qus]
  cases decide (1 ≤ (x.Segments.length : Int) ∧ (x.Segments.length : Int) ≤ 8) <;> cases decide (0 ≤ x.Now ∧ x.Now ≤ 100000) <;> cases x.Segments.all (fun s => decide (s.length ≤ 4)) <;> cases Qew (okI x.Now) [] x.Segments.flatten <;> rfl
theorem Qaeu {α : Type} : ∀ (l : List (List α)) (d : List α), l.foldl (fun d s => d ++ s) d = d ++ l.flatten
  | [], d => by simp
  | s :: l, d => by rw [List.foldl_cons, Qaeu l]; simp
theorem Qaul (x : Qau) : Qdg x = x.Segments.flatten := by
  unfold Qdg
  rw [Qgv (xs := x.Segments) (f := fun d s => d ++ s) (b := fun k s => Qabi x k s) (fun j s _ => rfl), Qaeu]
  rfl
theorem Qbah (now : Int) (l : List Qt) (b : Nat → Unit → Bool ⊕ Unit) (hb : ∀ i, i < l.length → b i () = cond (okS now (l.take i) (gt l i)) (.inr ()) (.inl false)) : rng b (l.length - 0) 0 () = cond (Qew (okS now) [] l) (.inr ()) (.inl false) := by
  have h : ∀ m k, m + k = l.length → rng b m k () = cond (Qew (okS now) (l.take k) (l.drop k)) (.inr ()) (.inl false) := by
    intro m
    induction m with
    | zero => intro k hk; rw [rng, List.drop_of_length_le (by omega)]; rfl
    | succ m ih =>
      intro k hk
      have hlt : k < l.length := by omega
      rw [rng, hb k hlt, List.drop_eq_getElem_cons hlt, ← Qdn hlt]
      show _ = cond (okS now (l.take k) (gt l k) && Qew (okS now) (l.take k ++ [gt l k]) (l.drop (k + 1))) _ _
      have ht : l.take k ++ [gt l k] = l.take (k + 1) := by rw [List.take_add_one, List.getElem?_eq_getElem hlt, ← Qdn hlt]; rfl
      rw [ht]
      cases okS now (l.take k) (gt l k) with
      | true => exact ih (k + 1) (by omega)
      | false => rfl
  have := h (l.length - 0) 0 (by omega)
  simpa using this
theorem Qaif (x : Qau) : Qji x = Qqz (okS x.Now) x := by
  unfold Qji Qqz
  rw [Qqp (xs := x.Segments) (r := false) (p := fun s => decide (s.length ≤ 4)) (fun j _ => by
    unfold Qst
    by_cases h : (gt x.Segments j).length ≤ 4
    · rw [decide_eq_true h, decide_eq_false (show ¬ 4 < ((gt x.Segments j).length : Int) by omega)]; rfl
    rw [decide_eq_false h, decide_eq_true (show 4 < ((gt x.Segments j).length : Int) by omega)]; rfl)]
  rw [Qbah x.Now (Qdg x) _ (fun i hi => by
    show Qvm x i = _
    unfold Qvm okS
    rw [Qazp (xs := Qdg x) (Nat.le_of_lt hi), Qqp (xs := (Qdg x).take i) (r := false) (p := fun w => Qjl (gt (Qdg x) i) w) (fun k hk => by
      rw [List.length_take] at hk
      rw [Qask (by omega)]
      rfl)]
    cases Qhz (gt (Qdg x) i) x.Now <;> cases ((Qdg x).take i).all (fun w => Qjl (gt (Qdg x) i) w) <;> rfl), Qaul, Qft, Qft]
  cases decide (1 ≤ (x.Segments.length : Int) ∧ (x.Segments.length : Int) ≤ 8) <;> cases decide (0 ≤ x.Now ∧ x.Now ≤ 100000) <;> cases x.Segments.all (fun s => decide (s.length ≤ 4)) <;> cases Qew (okS x.Now) [] x.Segments.flatten <;> rfl
theorem Qacs {v : Qt} {now : Int} (hn : now ≤ 100000) (h : Qhz v now = true) : 0 ≤ v.Born ∧ v.Born ≤ now ∧ (v.Died = -1 ∨ (v.Born + 1 ≤ v.Died ∧ v.Died ≤ now)) := by
  rw [Qxd] at h
  simp only [Bool.and_eq_true, Bool.or_eq_true, decide_eq_true_eq, beq_iff_eq] at h
  obtain ⟨⟨_, h1, h2⟩, h3⟩ := h
  rw [Qeu (by omega) (by omega)] at h3
  exact ⟨h1, h2, h3⟩
theorem Qact (v : Qt) (t : Int) : Qge v t = decide (v.Born ≤ t ∧ (v.Died = -1 ∨ t < v.Died)) := by
  unfold Qge
  by_cases h1 : v.Born ≤ t <;> by_cases h2 : v.Died = -1 <;> by_cases h3 : t < v.Died <;> simp [h1, h2, h3]
theorem Qajt (v w : Qt) : Qjl v w = decide (v.Id ≠ w.Id ∨ (v.Died ≠ -1 ∧ v.Died ≤ w.Born) ∨ (w.Died ≠ -1 ∧ w.Died ≤ v.Born)) := by
  unfold Qjl
  by_cases h1 : v.Id = w.Id <;> by_cases h2 : v.Died = -1 <;> by_cases h3 : w.Died = -1 <;> by_cases h4 : v.Died ≤ w.Born <;> simp [h1, h2, h3, h4] <;> (try rw [h2] at h4) <;> (try simp_all) <;> (try rfl)
theorem Qadb {v w : Qt} {now : Int} (hn : now ≤ 100000) (hv : Qhz v now = true) (hw : Qhz w now = true) : Qjl v w = !(v.Id == w.Id && Qix v w) := by
  obtain ⟨a1, a2, a3⟩ := Qacs hn hv
  obtain ⟨b1, b2, b3⟩ := Qacs hn hw
  have hm : Qix v w = decide ((v.Born ≤ w.Born ∧ (v.Died = -1 ∨ w.Born < v.Died)) ∨ (w.Born ≤ v.Born ∧ (w.Died = -1 ∨ v.Born < w.Died))) := by
    unfold Qix
    rw [Qact, Qact]
    by_cases h1 : (v.Born ≤ w.Born ∧ (v.Died = -1 ∨ w.Born < v.Died)) <;> by_cases h2 : (w.Born ≤ v.Born ∧ (w.Died = -1 ∨ v.Born < w.Died)) <;> simp [h1, h2]
  rw [hm, Qajt]
  have hb : (v.Id == w.Id) = decide (v.Id = w.Id) := by by_cases h : v.Id = w.Id <;> simp [h]
  rw [hb, ← Bool.decide_and, ← decide_not]
  apply decide_eq_decide.2
  omega
theorem Qahq {now : Int} (hn : now ≤ 100000) : ∀ (l seen : List Qt), (∀ w ∈ seen, Qhz w now = true) → Qew (okI now) seen l = Qew (okS now) seen l
  | [], _, _ => rfl
  | v :: l, seen, hs => by
    show (okI now seen v && Qew (okI now) (seen ++ [v]) l) = (okS now seen v && Qew (okS now) (seen ++ [v]) l)
    unfold okI okS
    cases hv : Qhz v now with
    | false => rfl
    | true =>
      have e : (seen.all fun w => !(v.Id == w.Id && Qix v w)) = seen.all fun w => Qjl v w := by
        rw [Bool.eq_iff_iff, List.all_eq_true, List.all_eq_true]
        exact ⟨fun h w hw => by rw [Qadb hn hv (hs w hw)]; exact h w hw, fun h w hw => by rw [← Qadb hn hv (hs w hw)]; exact h w hw⟩
      have ih := Qahq hn l (seen ++ [v]) (fun w hw => by
        rcases List.mem_append.1 hw with h | h
        · exact hs w h
        rw [List.mem_singleton.1 h]; exact hv)
      unfold okI okS at ih
      rw [e, ih]
theorem Qws (x : Qau) : Qlr x = Qji x := by
  rw [Qass, Qaif]
  unfold Qqz
  by_cases h : 0 ≤ x.Now ∧ x.Now ≤ 100000
  · rw [Qahq h.2 _ [] (fun w hw => by cases hw)]
  rw [decide_eq_false h, Bool.and_false, Bool.false_and]
  rfl
theorem Qabu : Qcz = Qbk := rfl
theorem Qala (x : Qcd) : Qrp x = Qjh x := by
  unfold Qrp Qjh
  rw [Qauh, Qft x.Low]
  simp only [Qpy, Bool.decide_and, Bool.and_assoc]
theorem Qwr (x : Qat) : Qmk x = Qff x := by
  unfold Qmk Qff Qvr
  have h1 : (fun k (_ : Unit) => Qud x k) = fun k (_ : Unit) => Qoc x k := by
    funext k u; unfold Qud Qoc; rw [Qala]
  have h2 : (fun k (_ : Unit) => Qyc x k) = fun k (_ : Unit) => Qpb x.Out k := rfl
  rw [h1, h2]
  rw [Qjb (b := fun k (_ : Unit) => Qoc x k) (p := fun k => Qoc x k == .inr ()) (r := false) (fun k _ => by
    unfold Qoc
    cases Qjh (gt x.Conds k) <;> cases decide (0 < ((k : Nat) : Int)) <;> cases decide ((gt x.Conds k).Field ≤ (gt x.Conds (k - 1)).Field) <;> rfl)]
  rw [Qjb (b := fun k (_ : Unit) => Qpb x.Out k) (p := fun k => Qpb x.Out k == .inr ()) (r := false) (fun k _ => by
    unfold Qpb
    cases Qbk (gt x.Out k) 0 2 <;> rfl)]
  simp only [Qabu, Qtw, Qpy, Qxs, Qaqx, Bool.not_not]
  ac_rfl
theorem Qada (x : List Qab) : Qqh x = Qkf x := by
  unfold Qqh Qkf Qyk
  have h1 : (fun k (_ : Unit) => Qyj x k) = fun k (_ : Unit) => Qsy x k := rfl
  rw [h1, Qjb (p := fun k => Qsy x k == .inr ()) (r := false) (fun k _ => by
    unfold Qsy
    cases Qgn (gt x k) <;> rfl)]
  simp only [Qtw, Qpy, Bool.and_true]
  ac_rfl
theorem Qamt (e : Qo) (x : Qw) : Qrt e.Store x = Qmr e x := by
  unfold Qrt Qmr Qqy
  have h1 : (fun k (_ : Unit) => Qyi e.Store x k) = fun k (_ : Unit) => Qsz x.Todo ((e.Store.Segments.length : Nat) : Int) k := rfl
  rw [h1, Qjb (p := fun k => Qsz x.Todo ((e.Store.Segments.length : Nat) : Int) k == .inr ()) (r := false) (fun k _ => by
    unfold Qsz
    cases Qbk (gt x.Todo k) 0 (IntKind.i64.wrap (((e.Store.Segments.length : Nat) : Int) - 1)) <;> cases decide (0 < ((k : Nat) : Int)) <;> cases decide (gt x.Todo k ≤ gt x.Todo (k - 1)) <;> rfl)]
  rw [Qwr, Qada]
  simp only [Qabu, Qtw, Qpy]
  ac_rfl
theorem Qxx (x : List Int) (i : Int) : Qhs x i = x.any fun y => y == i := by
  unfold Qhs
  rw [Quz (p := fun y => y == i) (r := true) (fun j _ => rfl)]
  cases x.any fun y => y == i <;> rfl
theorem Qauj (x a b : Int) : Qbk x a b = (decide (a ≤ x) && decide (x ≤ b)) := by
  unfold Qbk
  rw [Qpy]
theorem Qafu (x : List Int) : Qqg x = Qlc x := by
  unfold Qqg Qlc
  rw [Qjb (n := 3) (p := fun k => Qhs x k) (r := false) (fun k _ => rfl)]
  rw [Qjb (p := fun k => Qbk (gt x k) 0 2 && !Qfd (List.take k x) (gt x k)) (r := false) (fun k _ => by
    unfold Qvt
    cases Qbk (gt x k) 0 2 <;> cases Qfd (List.take k x) (gt x k) <;> rfl)]
  have hm : ∀ (y : List Int) (i : Int), Qfd y i = y.any fun z => z == i := Qxx
  by_cases h : x.length = 3
  · match x, h with
    | [a, b, c], _ =>
      simp only [Qxx, hm, Qauj]
      have h3 : List.range 3 = [0, 1, 2] := rfl
      have h8 : [a, b, c].length = 3 := rfl
      have e0 : gt [a, b, c] 0 = a := rfl
      have e1 : gt [a, b, c] 1 = b := rfl
      have e2 : gt [a, b, c] 2 = c := rfl
      rw [h8, h3]
      simp only [List.all_cons, List.all_nil]
      rw [e0, e1, e2]
      simp only [List.any_cons, List.any_nil, List.take]
      simp only [Qtw, Qxs, Bool.and_true, Bool.or_false, Bool.not_false]
      rw [Bool.eq_iff_iff]
      simp only [Bool.and_eq_true, Bool.or_eq_true, beq_iff_eq, decide_eq_true_eq, Bool.not_eq_true', Bool.or_eq_false_iff, beq_eq_false_iff_ne, bne, ne_eq]
      have h4 : ((3 : Nat) : Int) = 3 := rfl
      have h5 : ((0 : Nat) : Int) = 0 := rfl
      have h6 : ((1 : Nat) : Int) = 1 := rfl
      have h7 : ((2 : Nat) : Int) = 2 := rfl
      simp only [h4, h5, h6, h7, beq_self_eq_true, Bool.not_true, and_true, true_and]
      constructor <;> intro h <;> omega
  have h1 : (((x.length : Nat) : Int) == 3) = false := beq_eq_false_iff_ne.2 (by omega)
  have h2 : (((x.length : Nat) : Int) != 3) = true := bne_iff_ne.2 (by omega)
  rw [h1, h2]
  cases (List.range 3).all fun k => Qhs x k <;> rfl
theorem Qrg (x : Qo) : Qiq x = Qhv x := by
  unfold Qiq Qhv
  have h1 : (fun k (_ : Unit) => Qua x k) = fun k (_ : Unit) => Qsr x k := by
    funext k u; unfold Qua Qsr; rw [Qamt]
  have h2 : (fun k (_ : Unit) => Qub x k) = fun k (_ : Unit) => Qqq x k := by
    funext k u; unfold Qub Qqq; rw [Qwr, Qada]; rfl
  have h3 : (fun k (_ : Unit) => Quc x k) = fun k (_ : Unit) => Qvk x k := by
    funext k u; unfold Quc Qvk; rw [Qakz]
  rw [h1, h2, h3, Qws, Qafu]
  generalize Sum.elim id _ (rng (R := Bool) (fun k (_ : Unit) => Qsr x k) (x.Active.length - 0) 0 ()) = t
  simp only [Qabu, Qpy, Qxs]
  ac_rfl
theorem Qace (x : Qo) (hl : x.Active.length ≤ 9223372036854775807) : Qce x = Qba x := by
  unfold Qce Qba
  rw [Qrg]
  cases h : Qhv x with
  | false =>
    rw [Qaak (fun j s => by unfold Qvn; rw [h]; rfl)]
    rfl
  | true =>
    rw [Qahk (n := x.Active.length) (b := fun k s => Qnn x k s) (fun j s hj => by
      unfold Qvn Qnn Qvj Qno
      have hw : IntKind.i64.wrap (((x.Active.length : Nat) : Int) - 1) = ((x.Active.length : Nat) : Int) - 1 := Qeu (by omega) (by omega)
      have hi : Qbk ((j : Nat) : Int) 0 (IntKind.i64.wrap (((x.Active.length : Nat) : Int) - 1)) = true := by
        rw [Qft, hw]
        exact decide_eq_true (by omega)
      have hm : Qhs (gt x.Active j).Todo x.Cursor = Qfd (gt x.Active j).Todo x.Cursor := rfl
      rw [h, hi, hm, Int.toNat_natCast]
      cases (gt x.Active j).Cap == 0 <;> cases decide ((gt x.Active j).Sent < (gt x.Active j).Cap) <;> cases Qfd (gt x.Active j).Todo x.Cursor <;> rfl) _ _ _ (by omega)]
    rfl
theorem Qaav {x : List Int} (h : Qlc x = true) : ∀ y ∈ x, 0 ≤ y ∧ y ≤ 2 := by
  unfold Qlc at h
  rw [Qjb (p := fun k => Qbk (gt x k) 0 2 && !Qfd (List.take k x) (gt x k)) (r := false) (fun k _ => by
    unfold Qvt
    cases Qbk (gt x k) 0 2 <;> cases Qfd (List.take k x) (gt x k) <;> rfl)] at h
  intro y hy
  obtain ⟨k, hk, rfl⟩ := List.getElem_of_mem hy
  rw [← Qdn hk]
  cases ha : (List.range x.length).all (fun k => Qbk (gt x k) 0 2 && !Qfd (List.take k x) (gt x k)) with
  | false =>
    rw [ha] at h
    cases hl : (((x.length : Nat) : Int) != 3) <;> rw [hl] at h <;> cases h
  | true =>
    have h2 := List.all_eq_true.1 ha k (List.mem_range.2 hk)
    cases h3 : Qbk (gt x k) 0 2 with
    | false => rw [h3] at h2; cases h2
    | true => exact Qeo h3
theorem Qahz (x : Qo) (i : Int) : Qdh x i < ((x.Active.length : Nat) : Int) := by
  unfold Qdh
  rcases Qsp (P := fun (r : Int) => r < ((x.Active.length : Nat) : Int)) (n := x.Active.length) (b := fun k (_ : Unit) => Qgj x i k) (fun j hj => by
    show (∃ r, Qgj x i j = _ ∧ _) ∨ Qgj x i j = _
    unfold Qgj
    cases (gt x.Active j).Query.Id == i
    · exact .inr rfl
    exact .inl ⟨_, rfl, by omega⟩) (x.Active.length - 0) 0 (by omega) with ⟨r, e, hp⟩ | e
  · rw [e]; exact hp
  rw [e]; show (-1 : Int) < _; omega
theorem Qahp (now : Int) : ∀ (l seen : List Qt), Qew (okS now) seen l = true ↔ (∀ v ∈ l, Qhz v now = true) ∧ (∀ v ∈ l, ∀ w ∈ seen, Qjl v w = true) ∧ l.Pairwise (fun a b => Qjl b a = true)
  | [], seen => by simp [Qew]
  | v :: l, seen => by
    have ih := Qahp now l (seen ++ [v])
    show (okS now seen v && Qew (okS now) (seen ++ [v]) l) = true ↔ _
    rw [Bool.and_eq_true, ih]
    unfold okS
    rw [Bool.and_eq_true, List.all_eq_true, List.pairwise_cons]
    constructor
    · rintro ⟨⟨a, b⟩, c, d, e⟩
      refine ⟨fun w hw => ?_, fun w hw y hy => ?_, fun w hw => d w hw v (by simp), e⟩
      · rcases List.mem_cons.1 hw with rfl | h
        · exact a
        exact c w h
      rcases List.mem_cons.1 hw with rfl | h
      · exact b y hy
      exact d w h y (List.mem_append_left _ hy)
    rintro ⟨a, b, c, d⟩
    refine ⟨⟨a v (by simp), fun y hy => b v (by simp) y hy⟩, fun w hw => a w (List.mem_cons_of_mem _ hw), fun w hw y hy => ?_, d⟩
    rcases List.mem_append.1 hy with h | h
    · exact b w (List.mem_cons_of_mem _ hw) y h
    rw [List.mem_singleton.1 h]; exact c w hw
def Sto (x : Qau) : Prop := (1 ≤ x.Segments.length ∧ x.Segments.length ≤ 8) ∧ (0 ≤ x.Now ∧ x.Now ≤ 100000) ∧ (∀ s ∈ x.Segments, s.length ≤ 4) ∧ (∀ v ∈ x.Segments.flatten, Qhz v x.Now = true) ∧ x.Segments.flatten.Pairwise (fun a b => Qjl b a = true)
theorem Qki (x : Qau) : Qji x = true ↔ Sto x := by
  rw [Qaif]
  unfold Qqz Sto
  simp only [Bool.and_eq_true, decide_eq_true_eq, List.all_eq_true, Qahp]
  constructor
  · rintro ⟨⟨⟨a, b⟩, c⟩, d, _, e⟩; exact ⟨by omega, b, c, d, e⟩
  rintro ⟨a, b, c, d, e⟩; exact ⟨⟨⟨by omega, b⟩, c⟩, d, fun _ _ w hw => (by cases hw), e⟩
theorem Qpr (r : Qab) : Qgn r = true ↔ (∀ z ∈ r.Values, 0 ≤ z ∧ z ≤ 99) ∧ (0 ≤ r.Id ∧ r.Id ≤ 999) ∧ r.Values.length = 3 := by
  unfold Qgn
  rw [Qqp (xs := r.Values) (p := fun z => decide (0 ≤ z ∧ z ≤ 99)) (r := false) (fun k _ => by
    unfold Qaat
    rw [Qft]), Qft]
  have e : (r.Values.all fun z => decide (0 ≤ z ∧ z ≤ 99)) = true ↔ ∀ z ∈ r.Values, 0 ≤ z ∧ z ≤ 99 := by simp only [List.all_eq_true, decide_eq_true_eq]
  rw [← e]
  cases (r.Values.all fun z => decide (0 ≤ z ∧ z ≤ 99)) with
  | false => exact ⟨fun h => (by cases h), fun h => (by cases h.1)⟩
  | true =>
    show cond (decide (0 ≤ r.Id ∧ r.Id ≤ 999)) (((r.Values.length : Nat) : Int) == 3) false = true ↔ _
    by_cases h1 : 0 ≤ r.Id ∧ r.Id ≤ 999
    · rw [decide_eq_true h1, cond_true, beq_iff_eq]
      exact ⟨fun h => ⟨rfl, h1, by omega⟩, fun h => by omega⟩
    rw [decide_eq_false h1]
    exact ⟨fun h => (by cases h), fun h => absurd h.2.1 h1⟩
theorem Qacr {v : Qt} {now : Int} (hn : now ≤ 100000) : Qhz v now = true ↔ Qgn (⟨v.Id, v.Values⟩ : Qab) = true ∧ 0 ≤ v.Born ∧ v.Born ≤ now ∧ (v.Died = -1 ∨ (v.Born + 1 ≤ v.Died ∧ v.Died ≤ now)) := by
  rw [Qxd]
  simp only [Bool.and_eq_true, Bool.or_eq_true, decide_eq_true_eq, beq_iff_eq]
  constructor
  · rintro ⟨⟨a, b, c⟩, d⟩
    rw [Qeu (by omega) (by omega)] at d
    exact ⟨a, b, c, d⟩
  rintro ⟨a, b, c, d⟩
  rw [Qeu (by omega) (by omega)]
  exact ⟨⟨a, b, c⟩, d⟩
def Qsn (l : List Qat) (k : Nat) : Bool := !decide (0 < ((k : Nat) : Int)) || !decide ((gt l k).Id ≤ (gt l (k - 1)).Id)
theorem Qaek {α : Type} [Inhabited α] {g : α → Int} {l : List α} (h : ∀ k, 0 < k → k < l.length → g (gt l (k - 1)) < g (gt l k)) : l.Pairwise (fun a b => g a < g b) := by
  have hc : ∀ c i, i + c + 1 < l.length → g (gt l i) < g (gt l (i + c + 1)) := fun c => by
    induction c with
    | zero => intro i hi; exact h (i + 1) (by omega) hi
    | succ c ih =>
      intro i hi
      have a := ih i (by omega)
      have b := h (i + (c + 1) + 1) (by omega) hi
      rw [show i + (c + 1) + 1 - 1 = i + c + 1 by omega] at b
      omega
  rw [List.pairwise_iff_getElem]
  intro i j hi hj hij
  have := hc (j - i - 1) i (by omega)
  rw [show i + (j - i - 1) + 1 = j by omega, Qdn hi, Qdn hj] at this
  exact this
theorem Qwy {l : List Qat} (h : Qgi l = true) : l.length ≤ 24 ∧ (∀ q ∈ l, Qff q = true) ∧ l.Pairwise (fun a b => a.Id < b.Id) := by
  unfold Qgi at h
  rw [Qjb (p := fun k => Qff (gt l k) && Qsn l k) (r := false) (fun k _ => by
    unfold Qaaq Qsn
    cases Qff (gt l k) <;> cases decide (0 < ((k : Nat) : Int)) <;> cases decide ((gt l k).Id ≤ (gt l (k - 1)).Id) <;> rfl)] at h
  have ha : (List.range l.length).all (fun k => Qff (gt l k) && Qsn l k) = true ∧ decide (((l.length : Nat) : Int) ≤ 24) = true := by
    revert h
    cases (List.range l.length).all (fun k => Qff (gt l k) && Qsn l k) with
    | true => intro h; exact ⟨rfl, h⟩
    | false => intro h; cases h
  obtain ⟨ha, hl⟩ := ha
  rw [decide_eq_true_eq] at hl
  rw [List.all_eq_true] at ha
  refine ⟨by omega, fun q hq => ?_, Qaek (g := fun q : Qat => q.Id) fun k k0 k1 => ?_⟩
  · obtain ⟨i, hi, rfl⟩ := List.mem_iff_getElem.1 hq
    have := ha i (List.mem_range.2 hi)
    rw [Bool.and_eq_true] at this
    rw [← Qdn hi]; exact this.1
  have := ha k (List.mem_range.2 k1)
  rw [Bool.and_eq_true] at this
  have h2 := this.2
  unfold Qsn at h2
  rw [decide_eq_true (show (0 : Int) < ((k : Nat) : Int) by omega), Bool.not_true, Bool.false_or, Bool.not_eq_true', decide_eq_false_iff_not] at h2
  omega
theorem Qvb {R S : Type} {b : Nat → S → R ⊕ (S ⊕ S)} {n : Nat} {P : Nat → S → Prop} {Q : S → Prop} (h : ∀ k s, k < n → P k s → (∃ s', b k s = .inr (.inr s') ∧ P (k + 1) s') ∨ ∃ s', b k s = .inr (.inl s') ∧ Q s') : ∀ m k s, m + k = n → P k s → ∃ s', Qdo b m k s = .inr s' ∧ (Q s' ∨ P n s')
  | 0, k, s, e, hp => ⟨s, rfl, .inr (by rw [show n = k by omega]; exact hp)⟩
  | m + 1, k, s, e, hp => by
    rcases h k s (by omega) hp with ⟨s', h1, h2⟩ | ⟨s', h1, h2⟩
    · obtain ⟨s'', h3, h4⟩ := Qvb h m (k + 1) s' (by omega) h2
      exact ⟨s'', by rw [Qdo, h1]; exact h3, h4⟩
    exact ⟨s', by rw [Qdo, h1]; rfl, .inl h2⟩
theorem Qals {l : List Qat} {n : Int} (h : ((l.length : Nat) : Int) ≤ n ∧ ∀ q ∈ l, q.Conds.length ≤ 3 ∧ q.Out.length ≤ 3) (hn : n ≤ 100) : l.length ≤ 68719476736 ∧ ∀ z ∈ l, Qfy 68719476736 z := ⟨by omega, fun z hz => ⟨by have := (h.2 z hz).1; omega, by have := (h.2 z hz).2; omega⟩⟩
theorem Qacm (l : List Qat) (f v : Int) : (Qeg l f v).length ≤ l.length := by
  unfold Qeg
  obtain ⟨s', e, h⟩ := Qvb (R := List Int) (b := fun k (s : List Int) => Qoz l f v k s) (n := l.length) (P := fun k s => s.length ≤ k) (Q := fun s => s.length ≤ l.length) (fun k s hk hs => by
    have happ : ∀ y, (s ++ [y]).length ≤ k + 1 := fun y => by rw [List.length_append]; show s.length + 1 ≤ k + 1; omega
    show (∃ s', Qoz l f v k s = .inr (.inr s') ∧ _) ∨ ∃ s', Qoz l f v k s = .inr (.inl s') ∧ _
    unfold Qoz
    cases Qgi l with
    | false => exact .inr ⟨_, rfl, by omega⟩
    | true =>
    cases Qbk f 0 2 with
    | false => exact .inr ⟨_, rfl, by omega⟩
    | true =>
    cases Qbk v 0 99 with
    | false => exact .inr ⟨_, rfl, by omega⟩
    | true =>
    cases Qjk (gt l k) f v with
    | true => exact .inl ⟨_, rfl, happ _⟩
    | false => exact .inl ⟨_, rfl, by omega⟩) (l.length - 0) 0 [] (by omega) (Nat.zero_le _)
  rw [e]
  exact h.elim id id
theorem Qamh (l : List Qat) (f : Int) : (Qdz l f).length ≤ 100 ∧ ∀ s ∈ Qdz l f, s.Set.length ≤ l.length := by
  unfold Qdz
  cases Qgi l with
  | false => exact ⟨Nat.zero_le _, fun s hs => by cases hs⟩
  | true =>
  cases Qbk f 0 2 with
  | false => exact ⟨Nat.zero_le _, fun s hs => by cases hs⟩
  | true =>
  obtain ⟨d, e, h⟩ := Qky (R := List Qcp) (body := fun k (s : List Qcp) => Qod l f k s) (n := 100) (fun k d => d.length ≤ k ∧ ∀ s ∈ d, s.Set.length ≤ l.length) (fun k d _ ⟨h1, h2⟩ => by
    have happ : ∀ y : Qcp, y.Set.length ≤ l.length → (d ++ [y]).length ≤ k + 1 ∧ ∀ s ∈ d ++ [y], s.Set.length ≤ l.length := fun y hy => ⟨by rw [List.length_append]; show d.length + 1 ≤ k + 1; omega, fun s hs => by
      rcases List.mem_append.1 hs with h | h
      · exact h2 s h
      rw [List.mem_singleton.1 h]; exact hy⟩
    show ∃ s', Qod l f k d = .inr s' ∧ _
    unfold Qod
    by_cases h0 : 0 < d.length
    · rw [decide_eq_true (show (0 : Int) < ((d.length : Nat) : Int) by omega), cond_true]
      cases Qpa ((gt d (d.length - 1)).Set) (Qeg l f ((k : Nat) : Int)) with
      | true =>
        refine ⟨_, rfl, by rw [List.length_set]; omega, fun s hs => ?_⟩
        rcases List.mem_or_eq_of_mem_set hs with h | rfl
        · exact h2 s h
        exact h2 (gt d (d.length - 1)) (Qak (by omega))
      | false => exact ⟨_, rfl, happ _ (Qacm _ _ _)⟩
    rw [decide_eq_false (show ¬ (0 : Int) < ((d.length : Nat) : Int) by omega), cond_false]
    exact ⟨_, rfl, happ _ (Qacm _ _ _)⟩) (100 - 0) 0 [] (by omega) ⟨Nat.zero_le _, fun s hs => by cases hs⟩
  rw [e]
  exact h
theorem Qajz (l : List Qat) : Qfc l = ⟨[], []⟩ ∨ Qfc l = ⟨l, [Qdz l 0, Qdz l 1, Qdz l 2]⟩ := by
  unfold Qfc
  cases Qgi l with
  | false => exact .inl rfl
  | true => exact .inr rfl
theorem Qaka {l : List Qat} {n : Int} (h : ((l.length : Nat) : Int) ≤ n ∧ ∀ q ∈ l, q.Conds.length ≤ 3 ∧ q.Out.length ≤ 3) (hn : n ≤ 100) : Qvf 68719476736 (Qfc l) := by
  rcases Qajz l with e | e
  · rw [e]; exact ⟨⟨Nat.zero_le _, fun z hz => by cases hz⟩, Nat.zero_le _, fun z hz => by cases hz⟩
  rw [e]
  have hs : ∀ f, (Qdz l f).length ≤ 68719476736 ∧ ∀ z ∈ Qdz l f, Qvg 68719476736 z := fun f => by
    obtain ⟨h1, h2⟩ := Qamh l f
    exact ⟨by omega, fun z hz => by have := h2 z hz; show z.Set.length ≤ _; omega⟩
  refine ⟨Qals h hn, (by show 3 ≤ 68719476736; decide), fun z hz => ?_⟩
  rcases List.mem_cons.1 hz with rfl | hz
  · exact hs 0
  rcases List.mem_cons.1 hz with rfl | hz
  · exact hs 1
  rcases List.mem_cons.1 hz with rfl | hz
  · exact hs 2
  cases hz
def QOk (q : Qat) : Prop := (0 ≤ q.Id ∧ q.Id ≤ 23) ∧ (0 ≤ q.Tenant ∧ q.Tenant ≤ 3) ∧ (∀ c ∈ q.Conds, (0 ≤ c.Field ∧ c.Field ≤ 2) ∧ (0 ≤ c.Low ∧ c.Low ≤ c.High) ∧ c.High ≤ 99) ∧ q.Conds.Pairwise (fun a b => a.Field < b.Field) ∧ q.Conds.length ≤ 3 ∧ (∀ o ∈ q.Out, 0 ≤ o ∧ o ≤ 2) ∧ 1 ≤ q.Out.length ∧ q.Out.length ≤ 3
theorem Qtx {a b : Bool} : cond a b false = true ↔ a = true ∧ b = true := by cases a <;> simp
theorem Qara {a b : Bool} : cond a false b = true ↔ a = false ∧ b = true := by cases a <;> simp
theorem Qpv {α : Type} [Inhabited α] {xs : List α} {p : α → Bool} {b : Nat → Unit → Bool ⊕ Unit} (hb : ∀ j, j < xs.length → b j () = cond (p (gt xs j)) (.inr ()) (.inl false)) {X : Bool} : Sum.elim id (fun (_ : Unit) => X) (rng b (xs.length - 0) 0 ()) = true ↔ (∀ a ∈ xs, p a = true) ∧ X = true := by
  rw [Qqp hb]
  cases h : xs.all p with
  | true => exact ⟨fun hx => ⟨List.all_eq_true.1 h, hx⟩, fun hx => hx.2⟩
  | false =>
    refine ⟨fun hx => (by cases hx), fun hx => ?_⟩
    rw [List.all_eq_true.2 hx.1] at h; cases h
theorem Qsq {α : Type} [Inhabited α] {xs : List α} {p : α → Bool} {g : α → Int} {b : Nat → Unit → Bool ⊕ Unit} (hb : ∀ j, j < xs.length → b j () = cond (p (gt xs j)) (cond (decide (0 < ((j : Nat) : Int))) (cond (decide (g (gt xs j) ≤ g (gt xs (j - 1)))) (.inl false) (.inr ())) (.inr ())) (.inl false)) {X : Bool} : Sum.elim id (fun (_ : Unit) => X) (rng b (xs.length - 0) 0 ()) = true ↔ ((∀ a ∈ xs, p a = true) ∧ xs.Pairwise (fun a b => g a < g b)) ∧ X = true := by
  rw [Qjb (p := fun k => p (gt xs k) && (!decide (0 < ((k : Nat) : Int)) || !decide (g (gt xs k) ≤ g (gt xs (k - 1))))) (r := false) (fun k hk => by
    rw [hb k hk]
    cases p (gt xs k) <;> cases decide (0 < ((k : Nat) : Int)) <;> cases decide (g (gt xs k) ≤ g (gt xs (k - 1))) <;> rfl)]
  have key : (List.range xs.length).all (fun k => p (gt xs k) && (!decide (0 < ((k : Nat) : Int)) || !decide (g (gt xs k) ≤ g (gt xs (k - 1))))) = true ↔ ((∀ a ∈ xs, p a = true) ∧ xs.Pairwise (fun a b => g a < g b)) := by
    rw [List.all_eq_true]
    constructor
    · intro ha
      refine ⟨fun q hq => ?_, Qaek (g := g) fun k k0 k1 => ?_⟩
      · obtain ⟨i, hi, rfl⟩ := List.mem_iff_getElem.1 hq
        have := ha i (List.mem_range.2 hi)
        rw [Bool.and_eq_true] at this
        rw [← Qdn hi]; exact this.1
      have := ha k (List.mem_range.2 k1)
      rw [Bool.and_eq_true] at this
      have h2 := this.2
      rw [decide_eq_true (show (0 : Int) < ((k : Nat) : Int) by omega), Bool.not_true, Bool.false_or, Bool.not_eq_true', decide_eq_false_iff_not] at h2
      omega
    rintro ⟨h1, h2⟩ k hk
    have hk := List.mem_range.1 hk
    rw [Bool.and_eq_true]
    refine ⟨h1 _ (Qak hk), ?_⟩
    by_cases h0 : 0 < k
    · rw [decide_eq_false (show ¬ g (gt xs k) ≤ g (gt xs (k - 1)) by
        have := List.pairwise_iff_getElem.1 h2 (k - 1) k (by omega) hk (by omega)
        rw [Qdn hk, Qdn (by omega)]
        omega)]
      simp
    rw [decide_eq_false (show ¬ (0 : Int) < ((k : Nat) : Int) by omega)]
    rfl
  rw [← key]
  cases (List.range xs.length).all (fun k => p (gt xs k) && (!decide (0 < ((k : Nat) : Int)) || !decide (g (gt xs k) ≤ g (gt xs (k - 1))))) with
  | true => exact ⟨fun hx => ⟨rfl, hx⟩, fun hx => hx.2⟩
  | false => exact ⟨fun hx => (by cases hx), fun hx => (by cases hx.1)⟩
def Qto (n : Nat) (l : List Int) : Prop := (∀ y ∈ l, 0 ≤ y ∧ y < ((n : Nat) : Int)) ∧ l.Pairwise (fun a b => a < b) ∧ 0 < l.length
def Qtl (l : List Qab) : Prop := (∀ r ∈ l, Qgn r = true) ∧ l.length ≤ 1000
def Qwn (s : Qau) (a : Qw) : Prop := Qff a.Query = true ∧ (0 ≤ a.Time ∧ a.Time ≤ s.Now) ∧ Qto s.Segments.length a.Todo ∧ (0 ≤ a.Age ∧ a.Age ≤ 100000) ∧ (0 ≤ a.Sent ∧ a.Sent ≤ 1000) ∧ (0 ≤ a.Cap ∧ a.Cap ≤ 32) ∧ Qtl a.Rows
def Qakp (s : Qau) (f : Qav) : Prop := Qff f.Query = true ∧ (0 ≤ f.Time ∧ f.Time ≤ s.Now) ∧ (0 ≤ f.Steps ∧ f.Steps ≤ 100000) ∧ Qtl f.Rows
structure Eng (x : Qo) : Prop where
  st : Qji x.Store = true
  cur : 0 ≤ x.Cursor ∧ x.Cursor < ((x.Store.Segments.length : Nat) : Int)
  ord : Qlc x.Order = true
  al : x.Active.length ≤ 8
  stp : 0 ≤ x.Steps ∧ x.Steps ≤ 100000
  dl : x.Done.length ≤ 1000
  ll : x.Ledger.length ≤ 1000
  act : ∀ a ∈ x.Active, Qwn x.Store a
  srt : x.Active.Pairwise (fun a b => a.Query.Id < b.Query.Id)
  fin : ∀ f ∈ x.Done, Qakp x.Store f
  led : ∀ c ∈ x.Ledger, Qlw c = true
theorem Qwt (l : List Qab) : Qkf l = true ↔ Qtl l := by
  unfold Qkf Qtl
  rw [Qpv (p := Qgn) (fun _ _ => rfl), decide_eq_true_iff]
  constructor <;> rintro ⟨h1, h2⟩ <;> exact ⟨h1, by omega⟩
theorem Qamn {n : Nat} (l : List Int) (hn : n ≤ 1000) : Qqy l ((n : Nat) : Int) = true ↔ Qto n l := by
  unfold Qqy Qto
  rw [Qsq (p := fun y => Qbk y 0 (IntKind.i64.wrap (((n : Nat) : Int) - 1))) (g := id) (fun _ _ => rfl), decide_eq_true_iff]
  rw [Qeu (by omega) (by omega)]
  simp only [Qft, decide_eq_true_iff, id]
  constructor
  · rintro ⟨⟨h1, h2⟩, h3⟩; exact ⟨fun y hy => by have := h1 y hy; omega, h2, by omega⟩
  rintro ⟨h1, h2, h3⟩; exact ⟨⟨fun y hy => by have := h1 y hy; omega, h2⟩, by omega⟩
theorem Qabw (x : Qo) (a : Qw) (h : x.Store.Segments.length ≤ 1000) : Qmr x a = true ↔ Qwn x.Store a := by
  unfold Qmr Qwn
  simp only [Qtx, Qft, decide_eq_true_iff, Qwt, Qamn _ h]
theorem Qpq (x : Qo) : Qhv x = true ↔ Eng x := by
  unfold Qhv
  simp only [Qtx, Qara, Qft, decide_eq_true_iff, decide_eq_false_iff_not]
  constructor
  · rintro ⟨h1, h2, h3, h4, h5, h6, h7, h8⟩
    have hs := ((Qki _).1 h1).1
    rw [Qeu (by omega) (by omega)] at h2
    rw [Qsq (p := Qmr x) (g := fun a => a.Query.Id) (fun _ _ => rfl), Qpv (p := fun f => Qff f.Query && Qbk f.Time 0 x.Store.Now && Qbk f.Steps 0 100000 && Qkf f.Rows) (fun j _ => by
      unfold Qqq
      cases Qff (gt x.Done j).Query <;> cases Qbk (gt x.Done j).Time 0 x.Store.Now <;> cases Qbk (gt x.Done j).Steps 0 100000 <;> cases Qkf (gt x.Done j).Rows <;> rfl), Qpv (p := Qlw) (fun _ _ => rfl)] at h8
    obtain ⟨⟨h9, h10⟩, h11, h12, _⟩ := h8
    exact ⟨h1, by omega, h3, by omega, h5, by omega, by omega, fun a ha => (Qabw x a (by omega)).1 (h9 a ha), h10, fun f hf => by
      have := h11 f hf
      simp only [Bool.and_eq_true, Qft, decide_eq_true_iff, Qwt] at this
      exact ⟨this.1.1.1, this.1.1.2, this.1.2, this.2⟩, h12⟩
  intro h
  have hs := ((Qki _).1 h.st).1
  have hcur := h.cur; have hal := h.al; have hdl := h.dl; have hll := h.ll
  rw [Qeu (by omega) (by omega)]
  rw [Qsq (p := Qmr x) (g := fun a => a.Query.Id) (fun _ _ => rfl), Qpv (p := fun f => Qff f.Query && Qbk f.Time 0 x.Store.Now && Qbk f.Steps 0 100000 && Qkf f.Rows) (fun j _ => by
    unfold Qqq
    cases Qff (gt x.Done j).Query <;> cases Qbk (gt x.Done j).Time 0 x.Store.Now <;> cases Qbk (gt x.Done j).Steps 0 100000 <;> cases Qkf (gt x.Done j).Rows <;> rfl), Qpv (p := Qlw) (fun _ _ => rfl)]
  refine ⟨h.st, by omega, h.ord, by omega, h.stp, by omega, by omega, ⟨fun a ha => (Qabw x a (by omega)).2 (h.act a ha), h.srt⟩, fun f hf => ?_, h.led, rfl⟩
  simp only [Bool.and_eq_true, Qft, decide_eq_true_iff, Qwt]
  have := h.fin f hf
  exact ⟨⟨⟨this.1, this.2.1⟩, this.2.2.1⟩, this.2.2.2⟩
theorem Qaju {l : List Qat} (h1 : ∀ q ∈ l, Qff q = true) (h2 : l.Pairwise (fun a b => a.Id < b.Id)) (h3 : l.length ≤ 24) : Qgi l = true := by
  unfold Qgi
  rw [Qsq (p := Qff) (g := fun q => q.Id) (fun _ _ => rfl)]
  exact ⟨⟨h1, h2⟩, decide_eq_true (by omega)⟩
theorem Qaby {l : List Qat} (hq : Qgi l = true) : Qfc l = ⟨l, [Qdz l 0, Qdz l 1, Qdz l 2]⟩ := by
  unfold Qfc
  rw [hq]
  rfl
theorem Qafa {α : Type} [Inhabited α] {xs : List α} {i : Nat} (h : ¬ i < xs.length) : gt xs i = default := by
  unfold gt
  rw [List.getD_eq_getElem?_getD, List.getElem?_eq_none (by omega)]
  rfl
theorem Qafb {α : Type} [Inhabited α] {P : α → Prop} {d : List α} {k : Nat} {y : α} (h : ∀ i, P (gt d i)) (hy : P y) : ∀ i, P (gt (d.set k y) i) := fun i => by
  by_cases hi : i = k
  · subst hi
    by_cases hl : i < d.length
    · have e : gt (d.set i y) i = y := by unfold gt; rw [List.getD_eq_getElem?_getD, List.getElem?_set_self hl]; rfl
      rw [e]; exact hy
    have e : d.set i y = d := List.set_eq_of_length_le (by omega)
    rw [e]; exact h i
  have e : gt (d.set k y) i = gt d i := by unfold gt; rw [List.getD_eq_getElem?_getD, List.getD_eq_getElem?_getD, List.getElem?_set_ne (fun e => hi e.symm)]
  rw [e]; exact h i
theorem Qahw : ∀ (l : List Int) (a b : Int), l.Pairwise (fun x y => x < y) → (∀ y ∈ l, a ≤ y ∧ y < b) → l.length ≤ (b - a).toNat
  | [], _, _, _, _ => Nat.zero_le _
  | x :: l, a, b, h, hb => by
    rw [List.pairwise_cons] at h
    have h0 := hb x (List.mem_cons_self ..)
    have := Qahw l (x + 1) b h.2 fun y hy => ⟨by have := h.1 y hy; omega, (hb y (List.mem_cons_of_mem _ hy)).2⟩
    rw [List.length_cons]
    omega
theorem Qacq {n : Nat} {l : List Int} (h : Qto n l) : l.length ≤ n := by
  have := Qahw l 0 n h.2.1 (fun y hy => h.1 y hy)
  omega
theorem Qacn {x : Qo} (h : Eng x) (i : Nat) : (gt x.Active i).Todo.length ≤ 8 ∧ (gt x.Active i).Rows.length ≤ 1000 + 4 * 0 := by
  by_cases hi : i < x.Active.length
  · have ha := h.act _ (Qak hi)
    have hs := ((Qki _).1 h.st).1
    have h1 := Qacq ha.2.2.1
    have h2 := ha.2.2.2.2.2.2.2
    omega
  rw [Qafa hi]
  exact ⟨Nat.zero_le _, Nat.zero_le _⟩
def Qnz (c : Int) (a : Qw) : Bool := Qno a && Qhs a.Todo c
theorem Qacd (x : Qo) : Qce x = cond (Qiq x) ((x.Active.filter (Qnz x.Cursor)).map fun a => a.Query.Id) [] := by
  unfold Qce
  rw [Qgv (xs := x.Active) (f := fun d a => cond (Qnz x.Cursor a) (d ++ [a.Query.Id]) d) (b := fun k s => Qnn x k s) (fun j s _ => by
      unfold Qnn Qnz
      cases Qno (gt x.Active j) <;> cases Qhs (gt x.Active j).Todo x.Cursor <;> rfl), Qlq]
  rfl
theorem Qwq {q : Qat} (h : Qff q = true) : QOk q := by
  unfold Qff at h
  rw [Qsq (p := Qjh) (g := fun c => c.Field) (fun _ _ => rfl)] at h
  obtain ⟨⟨h1, h2⟩, h3⟩ := h
  unfold Qvr at h3
  simp only [Qtx, Qft, decide_eq_true_iff] at h3
  obtain ⟨h4, h5, h6, h7⟩ := h3
  rw [Qpv (p := fun o => decide (0 ≤ o ∧ o ≤ 2)) (fun k _ => by unfold Qpb; rw [Qft])] at h7
  obtain ⟨h8, h9⟩ := h7
  rw [decide_eq_true_iff] at h9
  refine ⟨h4, h5, fun c hc => ?_, h2, by omega, fun o ho => of_decide_eq_true (h8 o ho), by omega, by omega⟩
  have := h1 c hc
  unfold Qjh at this
  simp only [Qtx, Qft, decide_eq_true_iff] at this
  exact this
theorem Qakq {x y : Qo} (h : x.Active.map (fun a => a.Query.Id) = y.Active.map (fun a => a.Query.Id)) (i : Int) : Qdh x i = Qdh y i := by
  have hl : x.Active.length = y.Active.length := by have := congrArg List.length h; simpa using this
  unfold Qdh
  rw [hl]
  have e : ∀ m k, m + k = y.Active.length → rng (R := Int) (fun k (_ : Unit) => Qgj x i k) m k () = rng (R := Int) (fun k (_ : Unit) => Qgj y i k) m k () := by
    intro m
    induction m with
    | zero => intro k _; rfl
    | succ m ih =>
      intro k hk
      have hb : Qgj x i k = Qgj y i k := by
        unfold Qgj
        have h2 : (x.Active.map fun a => a.Query.Id)[k]? = (y.Active.map fun a => a.Query.Id)[k]? := by rw [h]
        rw [List.getElem?_map, List.getElem?_map, Qbs (show k < x.Active.length by omega), Qbs (show k < y.Active.length by omega)] at h2
        have h3 : (gt x.Active k).Query.Id = (gt y.Active k).Query.Id := Option.some.inj h2
        rw [h3]
      rw [rng, rng, hb]
      cases Qgj y i k with
      | inl r => rfl
      | inr u => exact ih (k + 1) (by omega)
  rw [e _ _ (by omega)]
theorem Qtj {x : Qo} (hs : x.Active.Pairwise (fun a b => a.Query.Id < b.Query.Id)) {i : Nat} (hi : i < x.Active.length) : Qdh x (gt x.Active i).Query.Id = ((i : Nat) : Int) := by
  unfold Qdh
  have hne : ∀ j, j < i → (gt x.Active j).Query.Id ≠ (gt x.Active i).Query.Id := fun j hj => by
    have := List.pairwise_iff_getElem.1 hs j i (by omega) hi hj
    rw [Qdn (by omega), Qdn hi]
    omega
  have e : ∀ m k, m + k = x.Active.length → k ≤ i → rng (R := Int) (fun k (_ : Unit) => Qgj x (gt x.Active i).Query.Id k) m k () = .inl ((i : Nat) : Int) := by
    intro m
    induction m with
    | zero => intro k h1 h2; omega
    | succ m ih =>
      intro k h1 h2
      rw [rng]
      show Sum.elim _ _ (Qgj x (gt x.Active i).Query.Id k) = _
      unfold Qgj
      by_cases hk : k = i
      · subst hk
        rw [beq_self_eq_true]; rfl
      rw [beq_eq_false_iff_ne.2 (hne k (by omega))]
      exact ih (k + 1) (by omega) (by omega)
  rw [e _ _ (by omega) (Nat.zero_le _)]
  rfl
def Qfv (x : Qo) (ids : List Int) : List Qat := ids.map fun y => (gt x.Active (Qdh x y).toNat).Query
theorem Qacl {x : Qo} {ids : List Int} {k : Nat} (h : k < ids.length) : Qfv x (ids.take (k + 1)) = Qfv x (ids.take k) ++ [(gt x.Active (Qdh x (gt ids k)).toNat).Query] := by
  unfold Qfv
  rw [List.take_add_one, Qbs h, List.map_append]
  rfl
theorem Qame {B : Nat} {x : Qo} (h : Qen B x) {ids : List Int} (hl : ids.length ≤ B) : (Qfv x ids).length ≤ B ∧ ∀ y ∈ Qfv x ids, Qfy B y := by
  unfold Qfv
  refine ⟨by rw [List.length_map]; exact hl, fun y hy => ?_⟩
  obtain ⟨i, _, rfl⟩ := List.mem_map.1 hy
  by_cases hi : (Qdh x i).toNat < x.Active.length
  · exact (h.2.2.1.2 _ (Qak hi)).1
  rw [Qafa hi]; exact ⟨Nat.zero_le _, Nat.zero_le _⟩
theorem Qacc {x : Qo} (h : Eng x) : x.Active.length ≤ 9223372036854775807 := by have := h.al; omega
theorem Qri {x : Qo} (h : Eng x) : Qba x = (x.Active.filter (Qnz x.Cursor)).map fun a => a.Query.Id := by
  rw [← Qace x (Qacc h), Qacd, Qrg, (Qpq x).2 h]
  rfl
theorem Qacj {x : Qo} (h : Eng x) : Qfv x (Qba x) = (x.Active.filter (Qnz x.Cursor)).map fun a => a.Query := by
  rw [Qri h]
  unfold Qfv
  rw [List.map_map]
  refine List.map_congr_left fun a ha => ?_
  obtain ⟨i, hi, rfl⟩ := List.mem_iff_getElem.1 (List.mem_filter.1 ha).1
  show (gt x.Active (Qdh x (x.Active[i]).Query.Id).toNat).Query = _
  rw [← Qdn hi, Qtj h.srt hi, Int.toNat_natCast]
theorem Qaci {x : Qo} (h : Eng x) : Qgi (Qfv x (Qba x)) = true := by
  rw [Qacj h]
  refine Qaju (fun q hq => ?_) ?_ ?_
  · obtain ⟨a, ha, rfl⟩ := List.mem_map.1 hq
    exact (h.act a (List.mem_filter.1 ha).1).1
  · rw [List.pairwise_map]; exact h.srt.filter _
  rw [List.length_map]
  have := List.length_filter_le (Qnz x.Cursor) x.Active
  have := h.al
  omega
theorem Qrl {x : Qo} (h : Eng x) : (Qba x).length ≤ 8 := by
  rw [Qri h, List.length_map]
  have := List.length_filter_le (Qnz x.Cursor) x.Active
  have := h.al
  omega
theorem Qamb {x : Qo} (h : Eng x) (y : Int) (hy : y ∈ Qba x) : 0 ≤ Qdh x y := by
  rw [Qri h] at hy
  obtain ⟨a, ha, rfl⟩ := List.mem_map.1 hy
  obtain ⟨i, hi, rfl⟩ := List.mem_iff_getElem.1 (List.mem_filter.1 ha).1
  rw [← Qdn hi, Qtj h.srt hi]
  omega
theorem Qack {x : Qo} (h : Eng x) : (Qfc (Qfv x (Qba x))).Fields.length = 3 ∧ Qvf 68719476736 (Qfc (Qfv x (Qba x))) := by
  have ha := Qaci h
  obtain ⟨hl, hq, _⟩ := Qwy ha
  exact ⟨by rw [Qaby ha]; rfl, Qaka (n := 24) ⟨by omega, fun q hq' => by
    have := Qwq (hq q hq')
    obtain ⟨_, _, _, _, h5, _, _, h8⟩ := this
    exact ⟨h5, h8⟩⟩ (by decide)⟩
theorem Qamc {x : Qo} (h : Eng x) {j : Nat} (hj : j < (gt x.Store.Segments x.Cursor.toNat).length) : (gt (gt x.Store.Segments x.Cursor.toNat) j).Values.length = 3 := by
  have hc := h.cur
  have hs := (Qki _).1 h.st
  have hv := hs.2.2.2.1 _ (List.mem_flatten.2 ⟨_, Qak (show x.Cursor.toNat < x.Store.Segments.length by omega), Qak hj⟩)
  exact ((Qpr _).1 ((Qacr hs.2.1.2).1 hv).1).2.2
theorem Qxa {x : Qo} (h : Eng x) : (gt x.Store.Segments x.Cursor.toNat).length ≤ 4 := by
  have hc := h.cur
  exact ((Qki _).1 h.st).2.2.1 _ (Qak (by omega))
theorem Qwz {x : Qo} {d : List Qw} (h : d.map (fun a => a.Query.Id) = x.Active.map (fun a => a.Query.Id)) (y : Int) : Qdh (⟨x.Store, x.Cursor, x.Order, d, x.Done, x.Ledger, x.Steps⟩ : Qo) y = Qdh x y ∧ d.length = x.Active.length := by
  refine ⟨Qakq h y, ?_⟩
  have := congrArg List.length h
  rw [List.length_map, List.length_map] at this
  exact this
theorem Qajk (l : List Int) (c : Int) : Qlx l c = l.filter (fun y => y != c) := by
  unfold Qlx
  rw [Qgv (xs := l) (f := fun d y => cond (y != c) (d ++ [y]) d) (b := fun k s => Qvq l c k s) (fun j s _ => by
    unfold Qvq
    cases gt l j != c <;> rfl), Qlq (fun y => y != c) (fun y => y)]
  show [] ++ _ = _
  rw [List.nil_append, List.map_id']
theorem Qbdz (l : List Int) (c : Int) : (Qlx l c).length ≤ l.length := by
  rw [Qajk]; exact List.length_filter_le _ _
theorem Qve {d : List Qw} {k : Nat} {y : Qw} (h : y.Query.Id = (gt d k).Query.Id) : (d.set k y).map (fun (a : Qw) => a.Query.Id) = d.map (fun (a : Qw) => a.Query.Id) := by
  refine List.ext_getElem? fun i => ?_
  rw [List.getElem?_map, List.getElem?_map, List.getElem?_set]
  by_cases hk : k = i
  · subst hk
    by_cases hl : k < d.length
    · rw [if_pos rfl, if_pos hl, Qbs hl]
      exact congrArg some h
    rw [if_pos rfl, if_neg hl, List.getElem?_eq_none (by omega)]
  rw [if_neg hk]
theorem Qtm {d : List Qw} {k : Nat} {y : Qw} {n m : Nat} (h : ∀ i, (gt d i).Todo.length ≤ 8 ∧ (gt d i).Rows.length ≤ n) (hn : n ≤ m) (h1 : y.Todo.length ≤ (gt d k).Todo.length) (h2 : y.Rows.length + n ≤ (gt d k).Rows.length + m) : ∀ i, (gt (d.set k y) i).Todo.length ≤ 8 ∧ (gt (d.set k y) i).Rows.length ≤ m :=
  Qafb (P := fun (a : Qw) => a.Todo.length ≤ 8 ∧ a.Rows.length ≤ m) (fun i => by have := h i; omega) (by have := h k; omega)
abbrev Qjj (x0 : Qo) (G161 : Int) (k190 : Nat) (d192 : (List Qw)) : (List Qab) :=
 ((gt d192 (G161.toNat)).Rows ++ [(⟨(gt (gt x0.Store.Segments (x0.Cursor.toNat)) k190).Id, (gt (gt x0.Store.Segments (x0.Cursor.toNat)) k190).Values⟩ : Qab)])
abbrev Qoe (x0 : Qo) (G161 : Int) (k190 : Nat) (d192 : (List Qw)) : (List Qw) :=
 (d192.set (G161.toNat) (⟨(gt d192 (G161.toNat)).Query, (gt d192 (G161.toNat)).Time, (gt d192 (G161.toNat)).Todo, (gt d192 (G161.toNat)).Age, (gt d192 (G161.toNat)).Sent, (gt d192 (G161.toNat)).Cap, (Qjj x0 G161 k190 d192)⟩ : Qw))
abbrev Qqu (x0 : Qo) (G161 : Int) (s191 : Int) (d192 : (List Qw)) : (List Qw) :=
 (d192.set (G161.toNat) (⟨(gt d192 (G161.toNat)).Query, (gt d192 (G161.toNat)).Time, (Qlx ((gt d192 (G161.toNat)).Todo) x0.Cursor), (gt d192 (G161.toNat)).Age, (IntKind.i64.wrap (((gt d192 (G161.toNat)).Sent) + s191)), (gt d192 (G161.toNat)).Cap, (gt d192 (G161.toNat)).Rows⟩ : Qw))
def Qqt (x0 : Qo) (x1 : (List Int)) (d52 : (List Qat)) (k139 : Nat) (d150 : (List Qw)) (k190 : Nat) (s191 : Int) (d192 : (List Qw)) : Qo ⊕ (Int × (List Qw)) :=
 cond (Qfd ((Qke (Qfc d52) (⟨(gt (gt x0.Store.Segments (x0.Cursor.toNat)) k190).Id, (gt (gt x0.Store.Segments (x0.Cursor.toNat)) k190).Values⟩ : Qab) x0.Order).1) (gt x1 k139)) (cond (Qqr (gt (gt x0.Store.Segments (x0.Cursor.toNat)) k190) ((gt d192 ((Qdh (⟨x0.Store, x0.Cursor, x0.Order, d150, x0.Done, x0.Ledger, x0.Steps⟩ : Qo) (gt x1 k139)).toNat)).Time)) (Sum.inr ((IntKind.i64.wrap (s191 + 1)), (Qoe x0 (Qdh (⟨x0.Store, x0.Cursor, x0.Order, d150, x0.Done, x0.Ledger, x0.Steps⟩ : Qo) (gt x1 k139)) k190 d192))) (Sum.inr (s191, d192))) (Sum.inr (s191, d192))
abbrev Qqv (x0 : Qo) (x1 : (List Int)) (d143 : (List Int)) (d147 : (List Int)) : (List Qbc) :=
 (x0.Ledger ++ [(⟨x0.Cursor, (((gt x0.Store.Segments (x0.Cursor.toNat)).length : Nat) : Int), x1, d143, d147⟩ : Qbc)])
def Qqs (x0 : Qo) (x1 : (List Int)) (d52 : (List Qat)) (k139 : Nat) (d143 : (List Int)) (d147 : (List Int)) (d150 : (List Qw)) : Qo ⊕ ((List Int) × (List Int) × (List Qw)) :=
 Sum.elim Sum.inl (fun (s : Int × (List Qw)) => Sum.inr ((d143 ++ [(gt d150 ((Qdh (⟨x0.Store, x0.Cursor, x0.Order, d150, x0.Done, x0.Ledger, x0.Steps⟩ : Qo) (gt x1 k139)).toNat)).Query.Tenant]), (d147 ++ [s.1]), (Qqu x0 (Qdh (⟨x0.Store, x0.Cursor, x0.Order, d150, x0.Done, x0.Ledger, x0.Steps⟩ : Qo) (gt x1 k139)) s.1 s.2))) (rng (R := Qo) (fun k (s : Int × (List Qw)) => Qqt x0 x1 d52 k139 d150 k s.1 s.2) ((gt x0.Store.Segments (x0.Cursor.toNat)).length - 0) 0 (0, d150))
def Qaba (x0 : Qo) (x1 : (List Int)) (k51 : Nat) (d52 : (List Qat)) : Qo ⊕ ((List Qat)) :=
 Sum.inr (d52 ++ [(gt x0.Active ((Qdh x0 (gt x1 k51)).toNat)).Query])
def Qlb (x0 : Qo) (x1 : (List Int)) : Qo :=
 Sum.elim id (fun (s1_ : (List Qat)) => Sum.elim id (fun (s : (List Int) × (List Int) × (List Qw)) => (⟨x0.Store, x0.Cursor, x0.Order, s.2.2, x0.Done, (Qqv x0 x1 s.1 s.2.1), x0.Steps⟩ : Qo)) (rng (R := Qo) (fun k (s : (List Int) × (List Int) × (List Qw)) => Qqs x0 x1 s1_ k s.1 s.2.1 s.2.2) (x1.length - 0) 0 ([], [], x0.Active))) (rng (R := Qo) (fun k (s : (List Qat)) => Qaba x0 x1 k s) (x1.length - 0) 0 [])
theorem Qanp : Cb Tryz.prog 133 := ⟨f133, _, func133, rfl, by decide⟩
theorem Qbbk (B : Nat) (w0 : World) (is : List It) (w : World) (p : Nat) (z0 : List Value) (x0 : Qo) (z1 : Value) (x1 : (List Int)) (s_0 : Qen 68719476736 x0) (s_1 : x1.length ≤ 68719476736) (hE : Eng x0) (hI : x1 = Qba x0) (hm : Mem B w0 (Qh p 39 z0 :: Qn Qcb z0 x0 :: Qn (tSl Qa 3) [z1] x1 :: is) w) :
  Calls Tryz.prog 133 #[.pointer (sA p), z1] w fun e w' => ∃ x : List Value, e = .returned (.tuple #[]) ∧ Mem B w0 (Qh p 39 x :: Qn Qcb x (Qlb x0 x1) :: Qn (tSl Qa 3) [z1] x1 :: is) w' := by
 refine Qif (L := [(0, .pointer (sA p)), (1, z1)]) (N := 214) func133 rfl rfl (Nat.le_of_ble_eq_true rfl) (Qec rfl (Qec rfl Qha)) hm ?_
 refine Qdw (js := (Qn Qcb z0 x0 :: Qh p 39 z0 :: Qn (tSl Qa 3) [z1] x1 :: is)) (fun W hm => (hm.front (n := 1) rfl)) ?_
 refine Qjw (γ := Value × Value × Value × Value × Value) (js := fun g => [Qn (tSl (tSl Qaf 163) 100) [g.1] x0.Store.Segments, Qn (tSl Qa 3) [g.2.1] x0.Order, Qn (tSl Qah 61) [g.2.2.1] x0.Active, Qn (tSl Qas 80) [g.2.2.2.1] x0.Done, Qn (tSl Qaq 102) [g.2.2.2.2] x0.Ledger]) (C := fun g => z0 = [g.1, iV x0.Store.Now, iV x0.Cursor, g.2.1, g.2.2.1, g.2.2.2.1, g.2.2.2.2, iV x0.Steps]) (fun _ _ h => Qrd h) ?_
 rintro ⟨v1, v2, v3, v4, v5⟩ rfl
 refine Qdc (n := 0) rfl ?_
 rintro A6 c7 rfl m8
 refine Qdc (n := 1) rfl ?_
 rintro A10 c11 rfl m12
 refine Qdc (n := 2) rfl ?_
 rintro A14 c15 rfl m16
 refine Qdc (n := 3) rfl ?_
 rintro A18 c19 rfl m20
 refine Qdc (n := 4) rfl ?_
 rintro A22 c23 rfl m24
 refine Qdc (n := 6) rfl ?_
 rintro A26 c27 rfl m28
 have l30 : x0.Store.Segments.length ≤ 68719476736 := s_0.1.1
 have l31 := s_0.2.1
 have l32 := s_0.2.2.1.1
 have l33 := s_0.2.2.2.1.1
 have l34 := s_0.2.2.2.2.1
 have l35 : x1.length ≤ 68719476736 := s_1
 have hE1 := hE.al
 have hE2 := hE.cur
 have hE3 := ((Qki _).1 hE.st).1
 have hE4 := hE.dl
 have hE5 := hE.ll
 have hE6 := hE.stp
 have hP8 : x1.length ≤ 8 := by rw [hI]; exact Qrl hE
 have hin : ∀ y ∈ x1, 0 ≤ Qdh x0 y := by rw [hI]; exact Qamb hE
 have ho := Qaav hE.ord
 have hsg := Qxa hE
 refine Qakb (fun W0 hW0 => ?_)
 have r36 := hW0.rdSI (n := 0) rfl
 have q37 := Qqn r36
 have r38 := hW0.rdSI (n := 1) rfl
 have q39 := Qqn r38
 have r40 := hW0.rdSI (n := 2) rfl
 have q41 := Qqn r40
 have r42 := hW0.rdSI (n := 3) rfl
 have q43 := Qqn r42
 have r44 := hW0.rdSI (n := 4) rfl
 have q45 := Qqn r44
 have r46 := hW0.rdSI (n := 6) rfl
 have q47 := Qqn r46
 have rp48 := hW0.rdPBox (T := Qcb) (n := 5) rfl (Qep (x := x0) (hW0.rdSI (n := 0) rfl) (hW0.rdSI (n := 1) rfl) (hW0.rdSI (n := 2) rfl) (hW0.rdSI (n := 3) rfl) (hW0.rdSI (n := 4) rfl))
 refine sr ?_
 refine Qcf (E := (Qes Qcm W0 W0.heap.size)) Qhp Qbj (Qk rfl) (by decide) (fun p49 => ?_)
 refine wa (nt' (Qe (sr (wa (nt' (Qx ?_))))))
 refine Qbg (S := (List Qat)) (R := Option Addr × Nat) (fun k (s : (List Qat)) => Qaba x0 x1 k s) x1.length 0 [] ((sA p49), 0) (fun s => [(0, bp p), (1, .slice A26 x1.length c27), (4, .slice s.2.2.1 s.2.1.length s.2.2.2), (5, nI s.1)]) (fun s => [iS (Qes Qcm W0 W0.heap.size) 58 s.2.2.1 s.2.2.2 s.2.1]) (fun s => s.2.1.length ≤ 0 + s.1 ∧ s.2.1 = Qfv x0 (x1.take s.1)) sl4 ⟨Nat.le_refl _, rfl⟩ ?_
 rintro ⟨k51, d52, ⟨A53, c54⟩⟩ H57 _ _ e e'
 dsimp only at H57 ⊢
 subst e e'
 obtain ⟨hk55, hF56, hi58, hi59⟩ := H57
 refine Qe (sr (wm (wm ?_)))
 refine wv (Qag Qq) ?_
 refine wv Qai ?_
 refine nt' ?_
 rcases dcl k51 x1.length with ⟨hl60, g61⟩ | ⟨hl60, g61⟩
 ·
  have hp0 := hin _ (Qak (show k51 < x1.length from by omega))
  have hfl := Qahz x0 (gt x1 k51)
  refine Ql rfl g61 ?_
  refine Qp (Qd (Qe (Qx ?_)))
  refine rb 19 (s := []) (pk []) ?_
  refine qt 19 0 1 rfl vmv ?_
  refine qt 19 1 3 rfl vmv ?_
  refine qt 19 2 7 rfl (fun W hm => Qee rfl) ?_
  refine qt 19 3 15 rfl (vf Qz rfl Qcw) ?_
  refine qt 19 4 31 rfl (fun W hm => Qaw Qax rfl rfl (Qade rp48 rfl rfl hm (o := 4) rfl)) ?_
  refine qt 19 5 63 rfl vmv ?_
  refine qt 19 6 127 rfl (fun W hm => Qee rfl) ?_
  refine qt 19 7 255 rfl (fun W hm => Qad (cs := [.slice A6 x0.Store.Segments.length c7, iV x0.Store.Now, iV x0.Cursor, .slice A10 x0.Order.length c11, .slice A14 x0.Active.length c15, .slice A18 x0.Done.length c19, .slice A22 x0.Ledger.length c23, iV x0.Steps]) Qz Qbd rfl rfl (Qamz rp48 rfl rfl hm)) ?_
  refine qt 19 8 511 rfl vmv ?_
  refine qt 19 9 1023 rfl vmv ?_
  obtain ⟨a62, rfl, hb63, he64⟩ := q47 (by omega)
  refine qt 19 10 2047 rfl (vix 1 k51 Qq Qf) ?_
  refine qt 19 11 4095 rfl (fun W hm => Qaw Qs rfl rfl ((hm.cell0 (show (a62.add (k51 * 1)).block < W0.heap.size from by rw [Qae]; exact hb63.1)).trans (Qdr he64 k51 (by omega)))) ?_
  refine qo 19 12 8191 rfl ?_
  refine wcv (Qr cb28 rfl) (fun W hm => Qahy W _ _ _ _ _ _ _ _ x0 (gt x1 k51) (hm.rdS0 r40)) ?_
  refine qn (pk []) ?_
  obtain ⟨a65, rfl, hb66, he67⟩ := q41 (by omega)
  refine qt 19 13 16383 rfl (fun W hm => Qgl (sz := 10) (k := (Qdh x0 (gt x1 k51))) Qax Qbe rfl rfl rfl (by omega) (by omega)) ?_
  refine qt 19 14 32767 rfl (vf Qaj rfl Qbj) ?_
  obtain ⟨_, e77, hc68⟩ := he67 ((Qdh x0 (gt x1 k51)).toNat) _ (Qbs (show ((Qdh x0 (gt x1 k51)).toNat) < x0.Active.length from by omega))
  obtain ⟨v69, v71, v73, v75, rfl, r70, r72, r74, r76⟩ := Qgp e77
  have l78 := (s_0.2.2.1.2 _ (Qak (show ((Qdh x0 (gt x1 k51)).toNat) < x0.Active.length from by omega))).1.1
  have l79 := (s_0.2.2.1.2 _ (Qak (show ((Qdh x0 (gt x1 k51)).toNat) < x0.Active.length from by omega))).1.2
  have l80 := (s_0.2.2.1.2 _ (Qak (show ((Qdh x0 (gt x1 k51)).toNat) < x0.Active.length from by omega))).2.1
  have l81 := (s_0.2.2.1.2 _ (Qak (show ((Qdh x0 (gt x1 k51)).toNat) < x0.Active.length from by omega))).2.2.1
  obtain ⟨m82, A83, c84, rfl, q85, r86⟩ := Qi r70
  obtain ⟨m87, A88, c89, rfl, q90, r91⟩ := Qi r72
  obtain ⟨m92, A93, c94, rfl, q95, r96⟩ := Qi r74
  obtain ⟨m97, A98, c99, rfl, q100, r101⟩ := Qi r76
  let K1 : List Value := [iV ((gt x0.Active ((Qdh x0 (gt x1 k51)).toNat)).Query.Id), iV ((gt x0.Active ((Qdh x0 (gt x1 k51)).toNat)).Query.Tenant), .slice A83 ((gt x0.Active ((Qdh x0 (gt x1 k51)).toNat)).Query.Conds).length c84, .slice A88 ((gt x0.Active ((Qdh x0 (gt x1 k51)).toNat)).Query.Out).length c89]
  refine qt 19 15 65535 rfl (fun W hm => Qad (cs := K1) Qbq Qbj rfl rfl (hm.elPart (show (a65.add (((Qdh x0 (gt x1 k51)).toNat) * 10)).block < W0.heap.size from by rw [Qae]; exact hb66.1) hc68 rfl)) ?_
  refine qo 19 16 131071 rfl ?_
  refine Qde (cs := K1) Qhp Qbj rfl (by decide) (by decide) rfl (by kernel_rfl) (Qk rfl) (by decide) (fun p102 => ?_)
  refine qn (pk []) ?_
  refine qo 19 17 262143 rfl ?_
  refine ap1 (Qes Qcm W0 W0.heap.size) 58 (.slice A53 d52.length c54) d52 ((gt x0.Active ((Qdh x0 (gt x1 k51)).toNat)).Query) [] [] K1 idM (fun _ _ hs => by cases (Sep.nil hs); exact (Qhq (E := (Qes Qcm W0 W0.heap.size)) (L1 := []) ⟨rfl, (Qhg r86 r91)⟩ Qhr)) Qhp Qbj (show (d52.length + 1) * 64 ≤ 140737488355328 from by first | omega | (have := hTd _; omega)) (fun v103 => ?_)
  refine fm 0 ?_
  rintro A104 c105 rfl m106
  refine qn (pk []) ?_
  refine qt 19 18 524287 rfl (fun W hm => Qjd rfl) ?_
  refine Qed (by kernel_rfl) ?_
  refine Qam (Qd (Qy (wm ?_)))
  refine wv (Qal k51 1 (by omega)) ?_
  refine wa (Qac ?_)
  exact Qan (k51 + 1, (d52 ++ [(gt x0.Active ((Qdh x0 (gt x1 k51)).toNat)).Query]), (A104, c105)) sl4 idM ⟨(by omega), nx hF56 (rfl), (show (d52 ++ [(gt x0.Active ((Qdh x0 (gt x1 k51)).toNat)).Query]).length ≤ 0 + (k51 + 1) from by first | omega | (simp only [List.length_append, List.length_cons, List.length_nil] at *; omega)), (show (d52 ++ [(gt x0.Active ((Qdh x0 (gt x1 k51)).toNat)).Query]) = Qfv x0 (x1.take (k51 + 1)) from by rw [Qacl (by omega), ← hi59])⟩ rl
 refine Qm rfl g61 ?_
 refine Qay (Qu (Qu ?_))
 have hE109 := Qbh hl60 hF56
 have hQ : d52 = Qfv x0 x1 := by rw [hi59, List.take_of_length_le (by omega)]
 have hf : (Qfc d52).Fields.length = 3 := by rw [hQ, hI]; exact (Qack hE).1
 have hbs : Qvf 68719476736 (Qfc d52) := by rw [hQ, hI]; exact (Qack hE).2
 have hqs : d52.length ≤ 68719476736 ∧ ∀ y ∈ d52, Qfy 68719476736 y := by rw [hQ]; exact Qame s_0 (by omega)
 refine Qaz (Qd (sr (wm ?_)))
 refine wcs Qmu (Qfc d52) (Qr Qaor rfl) (fun W hm => Qbas W _ d52 (hm.unbor (hm.rdSI (n := 0) rfl)) hqs) (fun z110 => ?_)
 refine Qbdc ?_
 rintro ⟨v111, v112⟩ rfl
 refine fm 0 ?_
 rintro A113 c114 rfl m115
 refine fm 1 ?_
 rintro A117 c118 rfl m119
 refine Qbm type204 rfl (Qk rfl) (by decide) (fun p121 => ?_)
 let K2 : List Value := [.slice A113 ((Qfc d52).Queries).length c114, .slice A117 ((Qfc d52).Fields).length c118]
 let I22 : It := iS Qcm 58 A113 c114 ((Qfc d52).Queries)
 let I23 : It := iS (tSl Qet 238) 225 A117 c118 ((Qfc d52).Fields)
 refine sb 0 K2 [I22, I23, iS (Qes Qcm W0 W0.heap.size) 58 A53 c54 d52] idM type204 ?_
 refine Qac ?_
 refine Qdd (pk [0, 1, 2]) ?_
 refine Qalm hW0 ?_
 refine Qaln (L' := [(0, bp p), (1, .slice A26 x1.length c27), (6, bp p121)]) sl3 ?_
 let J49 : List It := iS Qa 3 A26 c27 x1 :: is
 show QM 214 _ _ _ .normal [(0, bp p), (1, .slice A26 x1.length c27), (6, bp p121)] (Qh p121 204 K2 :: I22 :: I23 :: iS (tSl Qaf 163) 100 A6 c7 x0.Store.Segments :: iS Qa 3 A10 c11 x0.Order :: iS Qah 61 A14 c15 x0.Active :: iS Qas 80 A18 c19 x0.Done :: iS Qaq 102 A22 c23 x0.Ledger :: Qh p 39 [.slice A6 x0.Store.Segments.length c7, iV x0.Store.Now, iV x0.Cursor, .slice A10 x0.Order.length c11, .slice A14 x0.Active.length c15, .slice A18 x0.Done.length c19, .slice A22 x0.Ledger.length c23, iV x0.Steps] :: J49)
 refine Qd (Qe ?_)
 refine Qpp (n := 3) rfl (by omega) ?_
 rintro g122 rfl
 let K3 : List Value := [.slice (sA g122) x0.Store.Segments.length c7, iV x0.Store.Now, iV x0.Cursor, .slice A10 x0.Order.length c11, .slice A14 x0.Active.length c15, .slice A18 x0.Done.length c19, .slice A22 x0.Ledger.length c23, iV x0.Steps]
 let J50 : List It := Qh p121 204 K2 :: I22 :: I23 :: iS Qa 3 A10 c11 x0.Order :: iS Qah 61 A14 c15 x0.Active :: iS Qas 80 A18 c19 x0.Done :: iS Qaq 102 A22 c23 x0.Ledger :: Qh p 39 K3 :: J49
 refine Qpo (E := (tSl Qaf 163)) (e := 100) (A := (sA g122)) (n := x0.Store.Segments.length) (c := c7) (xs := x0.Store.Segments) (k := (x0.Cursor.toNat)) (js := J50) (by omega) (fun W hm => (hm.front (n := 3) rfl)) (fun ck123 => ?_)
 refine Qjw (γ := Value) (js := fun g => [Qn (tSl Qaf 163) [g] (gt x0.Store.Segments (x0.Cursor.toNat))]) (C := fun g => ck123 = [g]) (fun _ _ h => Qwa h) ?_
 rintro v124 rfl
 refine Qdc (n := 0) rfl ?_
 rintro A125 c126 rfl m127
 refine Qfa (by kernel_rfl) (by kernel_rfl) ?_
 refine qm ?_
 refine qv (fun W hm => Qee rfl) ?_
 refine qv (vf Qz rfl Qbt) ?_
 refine qv (fun W hm => Qeb (o := 0) Qbw rfl Qea (by decide) rfl rfl) ?_
 refine qv (vl 9 0 Qbz) ?_
 refine qm ?_
 refine qv (fun W hm => Qee rfl) ?_
 refine qv (vf Qz rfl Qf) ?_
 refine qv (vl 9 2 Qs) ?_
 refine qv (fun W hm => Qgl (sz := 1) (k := x0.Cursor) Qbz Qfl rfl rfl rfl (by omega) (by omega)) ?_
 refine qv (fun W hm => Qaw Qbv rfl rfl (hm.focInt (i := 1) rfl rfl)) ?_
 refine qv (fun W hm => Qjd rfl) ?_
 refine nq' (Qe ?_)
 let K4 : List Value := [.slice A125 (gt x0.Store.Segments (x0.Cursor.toNat)).length c126]
 let I24 : It := iS Qaf 163 A125 c126 (gt x0.Store.Segments (x0.Cursor.toNat))
 let I25 : It := Qdf (tSl Qaf 163) 100 (sA g122) x0.Store.Segments.length c7 x0.Store.Segments (x0.Cursor.toNat) K4
 let J51 : List It := I24 :: I25 :: J50
 refine rd2 12 [11] (s := J51) (s2 := J51) idM idM ?_
 let K5 : List Value := [iV 0, iV 0, .slice none 0 0, .slice none 0 0, .slice none 0 0]
 refine Qrj (σ := Option Addr × Nat × Nat) (fun s => J51) 12 2047 1 (fun s => [(0, bp p), (1, .slice A26 x1.length c27), (6, bp p121), (7, .slice A125 (gt x0.Store.Segments (x0.Cursor.toNat)).length c126), (63, .agg #[iV x0.Cursor, nI ((gt x0.Store.Segments (x0.Cursor.toNat)).length), .slice s.1 x1.length s.2.1, .slice none 0 0, .slice none 0 0]), (8, .pointer (some (⟨s.2.2, 0, none⟩ : Addr)))]) (fun s => (Qh s.2.2 102 K5 :: iS Qa 3 s.1 s.2.1 x1 :: J51)) ?_ (fun H => ?_)
 ·
  rintro ⟨A132, c133, p136⟩
  show QD _ _ _ _ _ _ _ _ [(0, bp p), (1, .slice A26 x1.length c27), (6, bp p121), (7, .slice A125 (gt x0.Store.Segments (x0.Cursor.toNat)).length c126), (63, .agg #[iV x0.Cursor, nI ((gt x0.Store.Segments (x0.Cursor.toNat)).length), .slice A132 x1.length c133, .slice none 0 0, .slice none 0 0]), (8, bp p136)] _ J51 _ (Qh p136 102 K5 :: iS Qa 3 A132 c133 x1 :: J51)
  refine Qll (n := 1) rfl ?_
  intro m137 m138
  refine qoD 12 11 4095 rfl ?_
  let K6 : List Value := [iV x0.Cursor, nI ((gt x0.Store.Segments (x0.Cursor.toNat)).length), .slice A132 x1.length c133, .slice none 0 0, .slice none 0 0]
  refine Qgz (p := p136) (o := 0) (cs' := K6) (fun w hm => hm.front (n := 0) rfl) Qcs rfl (Nat.le_of_ble_eq_true rfl) rfl rfl rfl rfl (Qk rfl) ?_
  refine qxD (pn 13 [2, 3, 4, 5, 6, 7, 8, 9, 10, 11, 12]) ?_
  refine Qed (by kernel_rfl) ?_
  refine Qd (Qe (sr (wa (nt' (Qx ?_)))))
  refine Qdw (js := (Qn (tSl Qa 3) [.slice none 0 0] [] :: Qh p136 102 K6 :: iS Qa 3 A132 c133 x1 :: J51)) (fun W hm => hm.addNil (E := Qa) (e := 3)) ?_
  let J52 : List It := Qh p136 102 K6 :: iS Qa 3 A132 c133 x1 :: I24 :: I25 :: Qh p121 204 K2 :: I22 :: I23 :: iS Qa 3 A10 c11 x0.Order :: iS Qah 61 A14 c15 x0.Active :: iS Qas 80 A18 c19 x0.Done :: iS Qaq 102 A22 c23 x0.Ledger :: Qh p 39 K3 :: iS Qa 3 A26 c27 x1 :: Qn (tSl Qa 3) [.slice none 0 0] [] :: is
  refine Qdw (js := J52) (pn 14 [1, 2, 3, 4, 5, 6, 7, 8, 9, 10, 11, 12, 13, 0]) ?_
  refine Qdw (js := (Qn (tSl Qa 3) [.slice none 0 0] [] :: J52)) (fun W hm => hm.addNil (E := Qa) (e := 3)) ?_
  refine Qdw (js := (Qh p136 102 K6 :: iS Qa 3 A132 c133 x1 :: I24 :: I25 :: Qh p121 204 K2 :: I22 :: I23 :: iS Qa 3 A10 c11 x0.Order :: iS Qah 61 A14 c15 x0.Active :: iS Qas 80 A18 c19 x0.Done :: iS Qaq 102 A22 c23 x0.Ledger :: Qh p 39 K3 :: iS Qa 3 A26 c27 x1 :: Qn (tSl Qa 3) [.slice none 0 0] [] :: Qn (tSl Qa 3) [.slice none 0 0] [] :: is)) (pn 15 [1, 2, 3, 4, 5, 6, 7, 8, 9, 10, 11, 12, 13, 14, 0]) ?_
  refine Qbg (S := (List Int) × (List Int) × (List Qw)) (R := Option Addr × Nat × Option Addr × Nat) (fun k (s : (List Int) × (List Int) × (List Qw)) => Qqs x0 x1 d52 k s.1 s.2.1 s.2.2) x1.length 0 ([], [], x0.Active) (none, 0, none, 0) (fun s => [(0, bp p), (1, .slice A26 x1.length c27), (6, bp p121), (7, .slice A125 (gt x0.Store.Segments (x0.Cursor.toNat)).length c126), (8, bp p136), (9, nI s.1)]) (fun s => (Qh p136 102 [iV x0.Cursor, nI ((gt x0.Store.Segments (x0.Cursor.toNat)).length), .slice A132 x1.length c133, .slice s.2.2.1 s.2.1.1.length s.2.2.2.1, .slice s.2.2.2.2.1 s.2.1.2.1.length s.2.2.2.2.2] :: iS Qa 3 A132 c133 x1 :: I24 :: I25 :: Qh p121 204 K2 :: I22 :: I23 :: iS Qa 3 A10 c11 x0.Order :: Qn (tSl Qah 61) [.slice A14 x0.Active.length c15] s.2.1.2.2 :: iS Qas 80 A18 c19 x0.Done :: iS Qaq 102 A22 c23 x0.Ledger :: Qh p 39 K3 :: iS Qa 3 A26 c27 x1 :: iS Qa 3 s.2.2.1 s.2.2.2.1 s.2.1.1 :: iS Qa 3 s.2.2.2.2.1 s.2.2.2.2.2 s.2.1.2.1 :: is)) (fun s => s.2.1.1.length ≤ 0 + s.1 ∧ s.2.1.2.1.length ≤ 0 + s.1 ∧ s.2.1.2.2.map (fun (a : Qw) => a.Query.Id) = x0.Active.map (fun (a : Qw) => a.Query.Id) ∧ ∀ i, (gt s.2.1.2.2 i).Todo.length ≤ 8 ∧ (gt s.2.1.2.2 i).Rows.length ≤ 1000 + 4 * s.1) sl6 ⟨Nat.le_refl _, Nat.le_refl _, rfl, Qacn hE⟩ ?_
  rintro ⟨k139, ⟨d143, d147, d150⟩, ⟨A144, c145, A148, c149⟩⟩ H153 _ _ e e'
  dsimp only at H153 ⊢
  subst e e'
  obtain ⟨hk151, hF152, hi154, hi155, hi156, hi157⟩ := H153
  refine Qe (sr (wm (wm ?_)))
  refine wv (Qag Qq) ?_
  refine wv Qai ?_
  refine nt' ?_
  rcases dcl k139 x1.length with ⟨hl158, g159⟩ | ⟨hl158, g159⟩
  ·
   have hp0 := hin _ (Qak (show k139 < x1.length from by omega))
   have hfl := Qahz x0 (gt x1 k139)
   obtain ⟨hfq, hdl⟩ := Qwz hi156 (gt x1 k139)
   refine Ql rfl g159 ?_
   refine Qp (Qd (Qe (Qx (Qe ?_))))
   refine Qpp (n := 12) rfl (by omega) ?_
   rintro g160 rfl
   refine Qfa (by kernel_rfl) (by kernel_rfl) ?_
   refine qm ?_
   refine qv (fun W hm => Qee rfl) ?_
   refine qv (fun W hm => Qad (cs := K3) Qz Qbd rfl rfl (hm.boxCells (n := 11) rfl)) ?_
   refine qm (qm ?_)
   refine qv (vix 1 k139 Qq Qf) ?_
   refine qv (fun W hm => Qaw Qs rfl rfl (hm.ownInt (i := 12) rfl (by omega))) ?_
   refine Qev (Qr cb28 rfl) (fun W hm => Qahy W _ _ _ _ _ _ _ _ (⟨x0.Store, x0.Cursor, x0.Order, d150, x0.Done, x0.Ledger, x0.Steps⟩ : Qo) (gt x1 k139) (hm.rdSI (n := 8) rfl)) (Qk rfl) (by decide) ?_
   obtain ⟨G161, hG161⟩ : ∃ G, G = (Qdh (⟨x0.Store, x0.Cursor, x0.Order, d150, x0.Done, x0.Ledger, x0.Steps⟩ : Qo) (gt x1 k139)) := ⟨_, rfl⟩
   rw [← hG161] at hfq ⊢
   refine qv (fun W hm => Qjd rfl) ?_
   refine nq' (Qe ?_)
   refine Qpp (n := 8) rfl (by omega) ?_
   rintro g162 rfl
   let K7 : List Value := [iV x0.Cursor, nI ((gt x0.Store.Segments (x0.Cursor.toNat)).length), .slice A132 x1.length c133, .slice A144 d143.length c145, .slice A148 d147.length c149]
   let K8 : List Value := [.slice (sA g122) x0.Store.Segments.length c7, iV x0.Store.Now, iV x0.Cursor, .slice A10 x0.Order.length c11, .slice (sA g162) x0.Active.length c15, .slice A18 x0.Done.length c19, .slice A22 x0.Ledger.length c23, iV x0.Steps]
   let J53 : List It := iS Qa 3 A148 c149 d147 :: is
   refine Qpo (E := Qah) (e := 61) (A := (sA g162)) (n := x0.Active.length) (c := c15) (xs := d150) (k := (G161.toNat)) (js := (Qh p136 102 K7 :: iS Qa 3 A132 c133 x1 :: I24 :: I25 :: Qh p121 204 K2 :: I22 :: I23 :: iS Qa 3 A10 c11 x0.Order :: iS Qas 80 A18 c19 x0.Done :: iS Qaq 102 A22 c23 x0.Ledger :: Qh p 39 K8 :: iS Qa 3 (sA g160) c27 x1 :: iS Qa 3 A144 c145 d143 :: J53)) (by omega) (fun W hm => (hm.front (n := 8) rfl)) (fun ck163 => ?_)
   refine Qjw (γ := Value × Value × Value × Value) (js := fun g => [Qn (tSl Qbl 180) [g.1] ((gt d150 (G161.toNat)).Query.Conds), Qn (tSl Qa 3) [g.2.1] ((gt d150 (G161.toNat)).Query.Out), Qn (tSl Qa 3) [g.2.2.1] ((gt d150 (G161.toNat)).Todo), Qn (tSl Qap 70) [g.2.2.2] ((gt d150 (G161.toNat)).Rows)]) (C := fun g => ck163 = [iV ((gt d150 (G161.toNat)).Query.Id), iV ((gt d150 (G161.toNat)).Query.Tenant), g.1, g.2.1, iV ((gt d150 (G161.toNat)).Time), g.2.2.1, iV ((gt d150 (G161.toNat)).Age), iV ((gt d150 (G161.toNat)).Sent), iV ((gt d150 (G161.toNat)).Cap), g.2.2.2]) (fun _ _ h => Qwb h) ?_
   rintro ⟨v164, v165, v166, v167⟩ rfl
   refine Qdc (n := 0) rfl ?_
   rintro A168 c169 rfl m170
   refine Qdc (n := 1) rfl ?_
   rintro A172 c173 rfl m174
   refine Qdc (n := 2) rfl ?_
   rintro A176 c177 rfl m178
   refine Qdc (n := 3) rfl ?_
   rintro A180 c181 rfl m182
   let K9 : List Value := [iV ((gt d150 (G161.toNat)).Query.Id), iV ((gt d150 (G161.toNat)).Query.Tenant), .slice A168 ((gt d150 (G161.toNat)).Query.Conds).length c169, .slice A172 ((gt d150 (G161.toNat)).Query.Out).length c173, iV ((gt d150 (G161.toNat)).Time), .slice A176 ((gt d150 (G161.toNat)).Todo).length c177, iV ((gt d150 (G161.toNat)).Age), iV ((gt d150 (G161.toNat)).Sent), iV ((gt d150 (G161.toNat)).Cap), .slice A180 ((gt d150 (G161.toNat)).Rows).length c181]
   let I26 : It := iS Qbl 180 A168 c169 ((gt d150 (G161.toNat)).Query.Conds)
   let I27 : It := iS Qa 3 A172 c173 ((gt d150 (G161.toNat)).Query.Out)
   let I28 : It := iS Qa 3 A176 c177 ((gt d150 (G161.toNat)).Todo)
   let I29 : It := iS Qap 70 A180 c181 ((gt d150 (G161.toNat)).Rows)
   let I30 : It := Qdf Qah 61 (sA g162) x0.Active.length c15 d150 (G161.toNat) K9
   let J54 : List It := Qh p121 204 K2 :: I22 :: I23 :: iS Qa 3 A10 c11 x0.Order :: iS Qas 80 A18 c19 x0.Done :: iS Qaq 102 A22 c23 x0.Ledger :: Qh p 39 K8 :: iS Qa 3 (sA g160) c27 x1 :: J53
   let J55 : List It := iS Qa 3 A132 c133 x1 :: I24 :: I25 :: J54
   let J56 : List It := I26 :: I27 :: I28 :: I29 :: I30 :: Qh p136 102 K7 :: J55
   refine rd2 15 [14] (s := (I26 :: I27 :: I28 :: I29 :: I30 :: J55)) (s2 := J56) (pn 19 [0, 1, 2, 3, 4, 6, 7, 8, 9, 10, 11, 12, 13, 14, 15, 16, 18]) (pn 19 [0, 1, 2, 3, 4, 5, 6, 7, 8, 9, 10, 11, 12, 13, 14, 15, 16, 18]) ?_
   refine qtD 15 0 1 rfl (vf Qby rfl Qao) ?_
   refine qtD 15 1 3 rfl (vl 5 3 Qq) ?_
   refine qtD 15 2 7 rfl vmv ?_
   refine qtD 15 3 15 rfl (fun W hm => Qee rfl) ?_
   refine qtD 15 4 31 rfl (vf Qz rfl Qcw) ?_
   refine qtD 15 5 63 rfl (vl 15 4 Qax) ?_
   refine qtD 15 6 127 rfl vmv ?_
   refine qtD 15 7 255 rfl (fun W hm => Qgl (sz := 10) (k := G161) Qax Qbe rfl rfl rfl (by omega) (by omega)) ?_
   refine qtD 15 8 511 rfl (vf Qaj rfl Qbj) ?_
   refine qtD 15 9 1023 rfl (fun W hm => Qeb (o := 1) Qbq rfl Qf (by decide) rfl rfl) ?_
   refine qtD 15 10 2047 rfl (fun W hm => Qaw Qs rfl rfl (hm.focCells (i := 4) rfl rfl 1 _ rfl)) ?_
   refine qoD 15 11 4095 rfl ?_
   refine Qde (cs := [iV ((gt d150 (G161.toNat)).Query.Tenant)]) Qq Qf rfl (by decide) (by decide) rfl (by kernel_rfl) (Qk rfl) (by decide) (fun p184 => ?_)
   refine qnD (pn 20 [1, 2, 3, 4, 5, 7, 8, 9, 10, 11, 12, 13, 14, 15, 16, 17, 19]) (pn 20 [1, 2, 3, 4, 5, 6, 7, 8, 9, 10, 11, 12, 13, 14, 15, 16, 17, 19]) ?_
   refine qoD 15 12 8191 rfl ?_
   refine ap1 Qa 3 (.slice A144 d143.length c145) d143 ((gt d150 (G161.toNat)).Query.Tenant) [] J56 [iV ((gt d150 (G161.toNat)).Query.Tenant)] (fun W hm => ((hm.front (n := 18) rfl).front (n := 1) rfl)) (fun _ _ hs => by cases (Sep.nil hs); exact (Qhq Qck Qhr)) Qq Qf (show (d143.length + 1) * 8 ≤ 140737488355328 from by first | omega | (have := hTd _; omega)) (fun v185 => ?_)
   refine fm 0 ?_
   rintro A186 c187 rfl m188
   refine qnD (pn 19 [1, 2, 3, 4, 5, 7, 8, 9, 10, 11, 12, 13, 14, 15, 16, 17, 18]) (pn 19 [1, 2, 3, 4, 5, 6, 7, 8, 9, 10, 11, 12, 13, 14, 15, 16, 17, 18]) ?_
   refine qtD 15 13 16383 rfl (vf Qby rfl Qao) ?_
   refine qoD 15 14 32767 rfl ?_
   let K10 : List Value := [iV x0.Cursor, nI ((gt x0.Store.Segments (x0.Cursor.toNat)).length), .slice A132 x1.length c133, .slice A186 (d143 ++ [(gt d150 (G161.toNat)).Query.Tenant]).length c187, .slice A148 d147.length c149]
   refine Qgz (p := p136) (o := 3) (cs' := K10) (fun w hm => hm.front (n := 6) rfl) Qao rfl (Nat.le_of_ble_eq_true rfl) rfl rfl rfl rfl (Qk rfl) ?_
   refine qxD (pn 19 [2, 3, 4, 5, 6, 7, 8, 9, 10, 11, 12, 13, 14, 15, 16, 17, 18]) ?_
   refine Qed (by kernel_rfl) ?_
   refine Qd (sr (wa (nt' (Qe (sr (wa (nt' (Qx ?_))))))))
   let I31 : It := iS Qa 3 A186 c187 (d143 ++ [(gt d150 (G161.toNat)).Query.Tenant])
   refine Qdw (fun W hm => Mem.unfocus0 (Mem.join (is := [I26, I27, I28, I29]) (js := (I30 :: (Qh p136 102 K10 :: I31 :: J55))) (fun _ _ hs => Qho (x := (gt d150 (G161.toNat))) hs) (hm.pickN 19 [2, 3, 4, 5, 6, 0, 1, 7, 8, 9, 10, 11, 12, 13, 14, 15, 16, 17, 18] (by decide)))) ?_
   refine Qbg (S := Int × (List Qw)) (R := Unit) (fun k (s : Int × (List Qw)) => Qqt x0 x1 d52 k139 d150 k s.1 s.2) ((gt x0.Store.Segments (x0.Cursor.toNat)).length) 0 (0, d150) () (fun s => [(0, bp p), (1, .slice (sA g160) x1.length c27), (6, bp p121), (7, .slice A125 (gt x0.Store.Segments (x0.Cursor.toNat)).length c126), (8, bp p136), (9, nI k139), (10, iV G161), (11, iV s.2.1.1), (12, nI s.1)]) (fun s => (Qn (tSl Qah 61) [.slice (sA g162) x0.Active.length c15] s.2.1.2 :: Qh p136 102 K10 :: I31 :: J55)) (fun s => s.2.1.2.map (fun (a : Qw) => a.Query.Id) = d150.map (fun (a : Qw) => a.Query.Id) ∧ ∀ i, (gt s.2.1.2 i).Todo.length ≤ 8 ∧ (gt s.2.1.2 i).Rows.length ≤ 1000 + 4 * k139 + s.1) sl9 ⟨rfl, hi157⟩ ?_
   rintro ⟨k190, ⟨s191, d192⟩, ⟨⟩⟩ H195 _ _ e e'
   dsimp only at H195 ⊢
   subst e e'
   obtain ⟨hk193, hF194, hi196, hi197⟩ := H195
   refine Qe (sr (wm (wm ?_)))
   refine wv (Qag Qbv) ?_
   refine wv Qai ?_
   refine nt' ?_
   rcases dcl k190 ((gt x0.Store.Segments (x0.Cursor.toNat)).length) with ⟨hl198, g199⟩ | ⟨hl198, g199⟩
   ·
    have hv := Qamc hE (show k190 < _ from by omega)
    have hTd := hi197
    refine Ql rfl g199 ?_
    refine Qp (Qd (Qe (Qx (Qe ?_))))
    refine Qpp (n := 4) rfl (by omega) ?_
    rintro g200 rfl
    let K11 : List Value := [.slice (sA g200) (gt x0.Store.Segments (x0.Cursor.toNat)).length c126]
    let I32 : It := Qn (tSl Qah 61) [.slice (sA g162) x0.Active.length c15] d192
    let I33 : It := Qdf (tSl Qaf 163) 100 (sA g122) x0.Store.Segments.length c7 x0.Store.Segments (x0.Cursor.toNat) K11
    let J57 : List It := Qh p136 102 K10 :: I31 :: iS Qa 3 A132 c133 x1 :: I33 :: J54
    refine Qpo (E := Qaf) (e := 163) (A := (sA g200)) (n := (gt x0.Store.Segments (x0.Cursor.toNat)).length) (c := c126) (xs := (gt x0.Store.Segments (x0.Cursor.toNat))) (k := k190) (js := (I32 :: J57)) (by omega) (fun W hm => (hm.front (n := 4) rfl)) (fun ck201 => ?_)
    refine Qjw (γ := Value) (js := fun g => [Qn (tSl Qa 3) [g] ((gt (gt x0.Store.Segments (x0.Cursor.toNat)) k190).Values)]) (C := fun g => ck201 = [iV ((gt (gt x0.Store.Segments (x0.Cursor.toNat)) k190).Id), g, iV ((gt (gt x0.Store.Segments (x0.Cursor.toNat)) k190).Born), iV ((gt (gt x0.Store.Segments (x0.Cursor.toNat)) k190).Died)]) (fun _ _ h => Qaji h) ?_
    rintro v202 rfl
    refine Qdc (n := 0) rfl ?_
    rintro A203 c204 rfl m205
    let K12 : List Value := [iV ((gt (gt x0.Store.Segments (x0.Cursor.toNat)) k190).Id), .slice A203 ((gt (gt x0.Store.Segments (x0.Cursor.toNat)) k190).Values).length c204, iV ((gt (gt x0.Store.Segments (x0.Cursor.toNat)) k190).Born), iV ((gt (gt x0.Store.Segments (x0.Cursor.toNat)) k190).Died)]
    let I34 : It := iS Qa 3 A203 c204 ((gt (gt x0.Store.Segments (x0.Cursor.toNat)) k190).Values)
    let I35 : It := Qdf Qaf 163 (sA g200) ((gt x0.Store.Segments (x0.Cursor.toNat)).length) c126 (gt x0.Store.Segments (x0.Cursor.toNat)) k190 K12
    refine rd2 13 [12] (s := (I34 :: I35 :: I32 :: J57)) (s2 := (I34 :: I35 :: I32 :: J57)) idM idM ?_
    refine qtD 13 0 1 rfl vmv ?_
    refine qtD 13 1 3 rfl vmv ?_
    refine qtD 13 2 7 rfl (vix 4 k190 Qbv Qbo) ?_
    refine qtD 13 3 15 rfl (vf Qbp rfl Qf) ?_
    refine qtD 13 4 31 rfl (fun W hm => Qaw Qs rfl rfl (hm.focCells (i := 1) rfl rfl 0 _ rfl)) ?_
    refine qtD 13 5 63 rfl vmv ?_
    refine qtD 13 6 127 rfl vmv ?_
    refine qtD 13 7 255 rfl (vix 4 k190 Qbv Qbo) ?_
    refine qtD 13 8 511 rfl (vf Qbp rfl Qao) ?_
    refine qtD 13 9 1023 rfl (fun W hm => Qaw Qq rfl rfl (hm.focCells (i := 1) rfl rfl 1 _ rfl)) ?_
    let K13 : List Value := [iV ((gt (gt x0.Store.Segments (x0.Cursor.toNat)) k190).Id), .slice A203 ((gt (gt x0.Store.Segments (x0.Cursor.toNat)) k190).Values).length c204]
    refine qtD 13 10 2047 rfl (fun W hm => Qef (cs := K13) rfl (by kernel_rfl)) ?_
    refine qoD 13 11 4095 rfl ?_
    refine Qbm Qcg rfl (Qk rfl) (by decide) (fun p207 => ?_)
    refine qnD (pn 17 [1, 2, 3, 4, 5, 6, 7, 8, 9, 10, 11, 12, 13, 14, 15, 16]) (pn 17 [1, 2, 3, 4, 5, 6, 7, 8, 9, 10, 11, 12, 13, 14, 15, 16]) ?_
    refine qoD 13 12 8191 rfl ?_
    refine Qgz (p := p207) (o := 0) (cs' := K13) (fun w hm => hm.front (n := 0) rfl) Qcg rfl (Nat.le_of_ble_eq_true rfl) rfl rfl rfl rfl (Qk rfl) ?_
    refine qxD (pn 17 [1, 2, 3, 4, 5, 6, 7, 8, 9, 10, 11, 12, 13, 14, 15, 16]) ?_
    refine Qed (by kernel_rfl) ?_
    refine Qd (Qe ?_)
    refine rb 12 (s := (Qh p207 70 K13 :: I34 :: I35 :: I32 :: J57)) idM ?_
    refine qt 12 0 1 rfl (fun W hm => Qad (cs := K2) Qpi type204 rfl rfl (hm.boxCells (n := 8) rfl)) ?_
    refine qt 12 1 3 rfl (fun W hm => Qad (cs := K13) Qdv Qcg rfl rfl (hm.boxCells (n := 0) rfl)) ?_
    refine qt 12 2 7 rfl vmv ?_
    refine qt 12 3 15 rfl (fun W hm => Qee rfl) ?_
    refine qt 12 4 31 rfl (vf Qz rfl Qao) ?_
    refine qt 12 5 63 rfl (vl 14 3 Qq) ?_
    refine qo 12 6 127 rfl ?_
    refine Qoi (χ := Value) (val := fun x => .tuple #[x, iV ((Qke (Qfc d52) (⟨(gt (gt x0.Store.Segments (x0.Cursor.toNat)) k190).Id, (gt (gt x0.Store.Segments (x0.Cursor.toNat)) k190).Values⟩ : Qab) x0.Order).2)]) (js := fun x => [Qn (tSl Qa 3) [x] ((Qke (Qfc d52) (⟨(gt (gt x0.Store.Segments (x0.Cursor.toNat)) k190).Id, (gt (gt x0.Store.Segments (x0.Cursor.toNat)) k190).Values⟩ : Qab) x0.Order).1)]) (Qr Qaos rfl) (fun W hm => Qbbv W _ (Qfc d52) _ (⟨(gt (gt x0.Store.Segments (x0.Cursor.toNat)) k190).Id, (gt (gt x0.Store.Segments (x0.Cursor.toNat)) k190).Values⟩ : Qab) _ x0.Order (Qbda (x := (Qfc d52)) (hm.rdSI (n := 9) rfl) (hm.rdSI (n := 10) rfl)) (Qjr (x := (⟨(gt (gt x0.Store.Segments (x0.Cursor.toNat)) k190).Id, (gt (gt x0.Store.Segments (x0.Cursor.toNat)) k190).Values⟩ : Qab)) (hm.rdSI (n := 1) rfl)) (hm.rdSI (n := 11) rfl) hbs (Nat.le_trans (Nat.le_of_eq hv) (by decide)) s_0.2.1 (hf) (hv) (ho)) (Qk rfl) (by decide) (fun z208 => ?_)
    refine fm 0 ?_
    rintro A209 c210 rfl m211
    refine qn (pn 18 [1, 2, 3, 4, 5, 6, 7, 8, 9, 10, 11, 12, 13, 14, 15, 16, 17]) ?_
    refine qt 12 7 255 rfl vmv ?_
    refine qt 12 8 511 rfl (fun W hm => Qlt rfl rfl) ?_
    refine qt 12 9 1023 rfl (fun W hm => Qlt rfl rfl) ?_
    refine qt 12 10 2047 rfl (fun W hm => Qjd rfl) ?_
    refine qt 12 11 4095 rfl (fun W hm => Qjd rfl) ?_
    refine Qed (by kernel_rfl) ?_
    refine Qd (Qe ?_)
    let I36 : It := iS Qa 3 A209 c210 ((Qke (Qfc d52) (⟨(gt (gt x0.Store.Segments (x0.Cursor.toNat)) k190).Id, (gt (gt x0.Store.Segments (x0.Cursor.toNat)) k190).Values⟩ : Qab) x0.Order).1)
    let J58 : List It := I36 :: Qh p207 70 K13 :: I34 :: I35 :: J57
    refine Qpo (E := Qah) (e := 61) (A := (sA g162)) (n := x0.Active.length) (c := c15) (xs := d192) (k := (G161.toNat)) (js := J58) (by omega) (fun W hm => (hm.front (n := 4) rfl)) (fun ck213 => ?_)
    refine Qjw (γ := Value × Value × Value × Value) (js := fun g => [Qn (tSl Qbl 180) [g.1] ((gt d192 (G161.toNat)).Query.Conds), Qn (tSl Qa 3) [g.2.1] ((gt d192 (G161.toNat)).Query.Out), Qn (tSl Qa 3) [g.2.2.1] ((gt d192 (G161.toNat)).Todo), Qn (tSl Qap 70) [g.2.2.2] ((gt d192 (G161.toNat)).Rows)]) (C := fun g => ck213 = [iV ((gt d192 (G161.toNat)).Query.Id), iV ((gt d192 (G161.toNat)).Query.Tenant), g.1, g.2.1, iV ((gt d192 (G161.toNat)).Time), g.2.2.1, iV ((gt d192 (G161.toNat)).Age), iV ((gt d192 (G161.toNat)).Sent), iV ((gt d192 (G161.toNat)).Cap), g.2.2.2]) (fun _ _ h => Qwb h) ?_
    rintro ⟨v214, v215, v216, v217⟩ rfl
    refine Qdc (n := 0) rfl ?_
    rintro A218 c219 rfl m220
    refine Qdc (n := 1) rfl ?_
    rintro A222 c223 rfl m224
    refine Qdc (n := 2) rfl ?_
    rintro A226 c227 rfl m228
    refine Qdc (n := 3) rfl ?_
    rintro A230 c231 rfl m232
    refine Qfa (by kernel_rfl) (by kernel_rfl) ?_
    refine qm (qm (qm ?_))
    refine qv (vix 1 k139 Qq Qf) ?_
    refine qv (fun W hm => Qaw Qs rfl rfl (hm.ownInt (i := 20) rfl (by omega))) ?_
    refine Qev (Qr Qtv rfl) (fun W hm => Qvi W _ ((Qke (Qfc d52) (⟨(gt (gt x0.Store.Segments (x0.Cursor.toNat)) k190).Id, (gt (gt x0.Store.Segments (x0.Cursor.toNat)) k190).Values⟩ : Qab) x0.Order).1) (gt x1 k139) (hm.rdSI (n := 5) rfl)) (Qk rfl) (by decide) ?_
    refine qm ?_
    rcases bd (Qfd ((Qke (Qfc d52) (⟨(gt (gt x0.Store.Segments (x0.Cursor.toNat)) k190).Id, (gt (gt x0.Store.Segments (x0.Cursor.toNat)) k190).Values⟩ : Qab) x0.Order).1) (gt x1 k139)) with g235 | g235
    ·
     refine qg vmv g235 ?_
     refine qg vmv g235 ?_
     refine qg (vix 4 k190 Qbv Qbo) g235 ?_
     refine qg (fun W hm => Qad (cs := K12) Qbp Qbo rfl rfl (hm.focCells (i := 8) rfl rfl)) g235 ?_
     refine qg vmv g235 ?_
     refine qg (fun W hm => Qee rfl) g235 ?_
     refine qg (vf Qz rfl Qcw) g235 ?_
     refine qg (vl 19 4 Qax) g235 ?_
     refine qg vmv g235 ?_
     refine qg (fun W hm => Qgl (sz := 10) (k := G161) Qax Qbe rfl rfl rfl (by omega) (by omega)) g235 ?_
     refine qg (vf Qaj rfl Qf) g235 ?_
     refine qg (fun W hm => Qaw Qs rfl rfl (hm.focCells (i := 4) rfl rfl 4 _ rfl)) g235 ?_
     refine Qev (Qr Qadz rfl) (fun W hm => Qaig W _ (gt (gt x0.Store.Segments (x0.Cursor.toNat)) k190) ((gt d192 (G161.toNat)).Time) (Qgy (x := (gt (gt x0.Store.Segments (x0.Cursor.toNat)) k190)) (hm.rdSI (n := 7) rfl))) (Qcc rfl rfl rfl (bw g235 rfl)) (by decide) ?_
     refine qv (vpT g235) ?_
     refine nq' ?_
     rcases bd (Qqr (gt (gt x0.Store.Segments (x0.Cursor.toNat)) k190) ((gt d192 (G161.toNat)).Time)) with g237 | g237
     ·
      refine Ql rfl g237 ?_
      refine Qe ?_
      let I37 : It := iS Qbl 180 A218 c219 ((gt d192 (G161.toNat)).Query.Conds)
      let I38 : It := iS Qa 3 A222 c223 ((gt d192 (G161.toNat)).Query.Out)
      let I39 : It := iS Qa 3 A226 c227 ((gt d192 (G161.toNat)).Todo)
      let J59 : List It := I37 :: I38 :: I39 :: J58
      refine Qlj (σ := Option Addr × Nat) (fun s => [(0, bp p), (1, .slice (sA g160) x1.length c27), (6, bp p121), (7, .slice (sA g200) (gt x0.Store.Segments (x0.Cursor.toNat)).length c126), (8, bp p136), (9, nI k139), (10, iV G161), (11, iV s191), (12, nI k190)]) (fun s => (Qdf Qah 61 (sA g162) x0.Active.length c15 d192 (G161.toNat) [iV ((gt d192 (G161.toNat)).Query.Id), iV ((gt d192 (G161.toNat)).Query.Tenant), .slice A218 ((gt d192 (G161.toNat)).Query.Conds).length c219, .slice A222 ((gt d192 (G161.toNat)).Query.Out).length c223, iV ((gt d192 (G161.toNat)).Time), .slice A226 ((gt d192 (G161.toNat)).Todo).length c227, iV ((gt d192 (G161.toNat)).Age), iV ((gt d192 (G161.toNat)).Sent), iV ((gt d192 (G161.toNat)).Cap), .slice s.1 (Qjj x0 G161 k190 d192).length s.2] :: iS Qap 70 s.1 s.2 (Qjj x0 G161 k190 d192) :: J59)) (fun _ => True) ?_ ?_
      ·
       refine rb 20 (s := J59) (pn 22 [0, 1, 2, 5, 6, 7, 8, 9, 10, 11, 12, 13, 14, 15, 16, 17, 18, 19, 20, 21]) ?_
       refine qt 20 0 1 rfl vmv ?_
       refine qt 20 1 3 rfl (fun W hm => Qee rfl) ?_
       refine qt 20 2 7 rfl (vf Qz rfl Qcw) ?_
       refine qt 20 3 15 rfl (vl 17 4 Qax) ?_
       refine qt 20 4 31 rfl vmv ?_
       refine qt 20 5 63 rfl vmv ?_
       refine qt 20 6 127 rfl (fun W hm => Qee rfl) ?_
       refine qt 20 7 255 rfl (vf Qz rfl Qcw) ?_
       refine qt 20 8 511 rfl (vl 17 4 Qax) ?_
       refine qt 20 9 1023 rfl vmv ?_
       refine qt 20 10 2047 rfl (fun W hm => Qgl (sz := 10) (k := G161) Qax Qbe rfl rfl rfl (by omega) (by omega)) ?_
       refine qt 20 11 4095 rfl (vf Qaj rfl Qdt) ?_
       refine qt 20 13 12287 rfl (fun W hm => Qad (cs := K13) Qdv Qcg rfl rfl (hm.boxCells (n := 4) rfl)) ?_
       refine qa [12, 14] ?_
       refine qc 20 16383 rfl ?_ ?_
       ·
        refine wv (fun W hm => Qaw Qci rfl rfl (hm.focCells (i := 4) rfl rfl 9 _ rfl)) ?_
        refine qn (pn 22 [0, 1, 2, 5, 6, 7, 8, 9, 10, 11, 12, 13, 14, 15, 16, 17, 18, 19, 20, 21]) ?_
        refine qo 20 14 32767 rfl ?_
        refine wcs Qap (⟨(gt (gt x0.Store.Segments (x0.Cursor.toNat)) k190).Id, (gt (gt x0.Store.Segments (x0.Cursor.toNat)) k190).Values⟩ : Qab) (Qr Qxp rfl) (fun W hm => Qabc W _ (⟨(gt (gt x0.Store.Segments (x0.Cursor.toNat)) k190).Id, (gt (gt x0.Store.Segments (x0.Cursor.toNat)) k190).Values⟩ : Qab) (Qjr (x := (⟨(gt (gt x0.Store.Segments (x0.Cursor.toNat)) k190).Id, (gt (gt x0.Store.Segments (x0.Cursor.toNat)) k190).Values⟩ : Qab)) (hm.rdSI (n := 7) rfl)) (Nat.le_trans (Nat.le_of_eq hv) (by decide))) (fun z250 => ?_)
        refine Qmv ?_
        rintro v251 rfl
        refine fm 0 ?_
        rintro A252 c253 rfl m254
        refine qn (pn 23 [1, 2, 3, 6, 7, 8, 9, 10, 11, 12, 13, 14, 15, 16, 17, 18, 19, 20, 21, 22]) ?_
        refine qo 20 15 65535 rfl ?_
        let K14 : List Value := [iV ((⟨(gt (gt x0.Store.Segments (x0.Cursor.toNat)) k190).Id, (gt (gt x0.Store.Segments (x0.Cursor.toNat)) k190).Values⟩ : Qab).Id), .slice A252 ((⟨(gt (gt x0.Store.Segments (x0.Cursor.toNat)) k190).Id, (gt (gt x0.Store.Segments (x0.Cursor.toNat)) k190).Values⟩ : Qab).Values).length c253]
        refine Qde (cs := K14) Qci Qcg rfl (by decide) (by decide) rfl (by kernel_rfl) (Qk rfl) (by decide) (fun p256 => ?_)
        refine qn (pn 24 [2, 3, 4, 7, 8, 9, 10, 11, 12, 13, 14, 15, 16, 17, 18, 19, 20, 21, 22, 23]) ?_
        refine qo 20 16 131071 rfl ?_
        refine ap1 Qap 70 (.slice A230 ((gt d192 (G161.toNat)).Rows).length c231) ((gt d192 (G161.toNat)).Rows) (⟨(gt (gt x0.Store.Segments (x0.Cursor.toNat)) k190).Id, (gt (gt x0.Store.Segments (x0.Cursor.toNat)) k190).Values⟩ : Qab) [iS Qa 3 A252 c253 ((⟨(gt (gt x0.Store.Segments (x0.Cursor.toNat)) k190).Id, (gt (gt x0.Store.Segments (x0.Cursor.toNat)) k190).Values⟩ : Qab).Values)] (I37 :: I38 :: I39 :: Qdf Qah 61 (sA g162) x0.Active.length c15 d192 (G161.toNat) [iV ((gt d192 (G161.toNat)).Query.Id), iV ((gt d192 (G161.toNat)).Query.Tenant), .slice A218 ((gt d192 (G161.toNat)).Query.Conds).length c219, .slice A222 ((gt d192 (G161.toNat)).Query.Out).length c223, iV ((gt d192 (G161.toNat)).Time), .slice A226 ((gt d192 (G161.toNat)).Todo).length c227, iV ((gt d192 (G161.toNat)).Age), iV ((gt d192 (G161.toNat)).Sent), iV ((gt d192 (G161.toNat)).Cap), .slice A230 ((gt d192 (G161.toNat)).Rows).length c231] :: J58) K14 (fun W hm => (((hm.front (n := 1) rfl).front (n := 5) rfl).front (n := 2) rfl)) (fun _ _ hs => Els.single (Qjq (x := (⟨(gt (gt x0.Store.Segments (x0.Cursor.toNat)) k190).Id, (gt (gt x0.Store.Segments (x0.Cursor.toNat)) k190).Values⟩ : Qab)) hs)) Qci Qcg (show (((gt d192 (G161.toNat)).Rows).length + 1) * 32 ≤ 140737488355328 from by first | omega | (have := hTd (G161.toNat); omega)) (fun v257 => ?_)
        refine fm 0 ?_
        rintro A258 c259 rfl m260
        refine qn (pn 22 [1, 2, 3, 5, 6, 7, 8, 9, 10, 11, 12, 13, 14, 15, 16, 17, 18, 19, 20, 21]) ?_
        refine qt 20 17 262143 rfl (fun W hm => Qgl (sz := 10) (k := G161) Qax Qbe rfl rfl rfl (by omega) (by omega)) ?_
        refine qt 20 18 524287 rfl (vf Qaj rfl Qdt) ?_
        refine qo 20 19 1048575 rfl ?_
        refine sf 9 10 [iV ((gt d192 (G161.toNat)).Query.Id), iV ((gt d192 (G161.toNat)).Query.Tenant), .slice A218 ((gt d192 (G161.toNat)).Query.Conds).length c219, .slice A222 ((gt d192 (G161.toNat)).Query.Out).length c223, iV ((gt d192 (G161.toNat)).Time), .slice A226 ((gt d192 (G161.toNat)).Todo).length c227, iV ((gt d192 (G161.toNat)).Age), iV ((gt d192 (G161.toNat)).Sent), iV ((gt d192 (G161.toNat)).Cap), .slice A258 (Qjj x0 G161 k190 d192).length c259] (iS Qap 70 A258 c259 (Qjj x0 G161 k190 d192) :: J59) (fun W hm => (hm.front (n := 4) rfl)) Qdt ?_
        refine qn (pn 22 [2, 3, 4, 5, 6, 7, 8, 9, 10, 11, 12, 13, 14, 15, 16, 17, 18, 19, 20, 21]) ?_
        refine Qed (by kernel_rfl) ?_
        exact Qfh (A258, c259) sl9 idM trivial
       refine qc 20 28671 rfl ?_ ?_
       ·
        refine wcs Qap (⟨(gt (gt x0.Store.Segments (x0.Cursor.toNat)) k190).Id, (gt (gt x0.Store.Segments (x0.Cursor.toNat)) k190).Values⟩ : Qab) (Qr Qxp rfl) (fun W hm => Qabc W _ (⟨(gt (gt x0.Store.Segments (x0.Cursor.toNat)) k190).Id, (gt (gt x0.Store.Segments (x0.Cursor.toNat)) k190).Values⟩ : Qab) (Qjr (x := (⟨(gt (gt x0.Store.Segments (x0.Cursor.toNat)) k190).Id, (gt (gt x0.Store.Segments (x0.Cursor.toNat)) k190).Values⟩ : Qab)) (hm.rdSI (n := 7) rfl)) (Nat.le_trans (Nat.le_of_eq hv) (by decide))) (fun z262 => ?_)
        refine Qmv ?_
        rintro v263 rfl
        refine fm 0 ?_
        rintro A264 c265 rfl m266
        refine qn (pn 23 [1, 2, 3, 6, 7, 8, 9, 10, 11, 12, 13, 14, 15, 16, 17, 18, 19, 20, 21, 22]) ?_
        refine qa [12, 15] ?_
        refine qc 20 32767 rfl ?_ ?_
        ·
         refine wv (fun W hm => Qaw Qci rfl rfl (hm.focCells (i := 5) rfl rfl 9 _ rfl)) ?_
         refine qn (pn 23 [1, 2, 3, 6, 7, 8, 9, 10, 11, 12, 13, 14, 15, 16, 17, 18, 19, 20, 21, 22]) ?_
         refine qo 20 15 65535 rfl ?_
         let K15 : List Value := [iV ((⟨(gt (gt x0.Store.Segments (x0.Cursor.toNat)) k190).Id, (gt (gt x0.Store.Segments (x0.Cursor.toNat)) k190).Values⟩ : Qab).Id), .slice A264 ((⟨(gt (gt x0.Store.Segments (x0.Cursor.toNat)) k190).Id, (gt (gt x0.Store.Segments (x0.Cursor.toNat)) k190).Values⟩ : Qab).Values).length c265]
         refine Qde (cs := K15) Qci Qcg rfl (by decide) (by decide) rfl (by kernel_rfl) (Qk rfl) (by decide) (fun p268 => ?_)
         refine qn (pn 24 [2, 3, 4, 7, 8, 9, 10, 11, 12, 13, 14, 15, 16, 17, 18, 19, 20, 21, 22, 23]) ?_
         refine qo 20 16 131071 rfl ?_
         refine ap1 Qap 70 (.slice A230 ((gt d192 (G161.toNat)).Rows).length c231) ((gt d192 (G161.toNat)).Rows) (⟨(gt (gt x0.Store.Segments (x0.Cursor.toNat)) k190).Id, (gt (gt x0.Store.Segments (x0.Cursor.toNat)) k190).Values⟩ : Qab) [iS Qa 3 A264 c265 ((⟨(gt (gt x0.Store.Segments (x0.Cursor.toNat)) k190).Id, (gt (gt x0.Store.Segments (x0.Cursor.toNat)) k190).Values⟩ : Qab).Values)] (I37 :: I38 :: I39 :: Qdf Qah 61 (sA g162) x0.Active.length c15 d192 (G161.toNat) [iV ((gt d192 (G161.toNat)).Query.Id), iV ((gt d192 (G161.toNat)).Query.Tenant), .slice A218 ((gt d192 (G161.toNat)).Query.Conds).length c219, .slice A222 ((gt d192 (G161.toNat)).Query.Out).length c223, iV ((gt d192 (G161.toNat)).Time), .slice A226 ((gt d192 (G161.toNat)).Todo).length c227, iV ((gt d192 (G161.toNat)).Age), iV ((gt d192 (G161.toNat)).Sent), iV ((gt d192 (G161.toNat)).Cap), .slice A230 ((gt d192 (G161.toNat)).Rows).length c231] :: J58) K15 (fun W hm => (((hm.front (n := 1) rfl).front (n := 5) rfl).front (n := 2) rfl)) (fun _ _ hs => Els.single (Qjq (x := (⟨(gt (gt x0.Store.Segments (x0.Cursor.toNat)) k190).Id, (gt (gt x0.Store.Segments (x0.Cursor.toNat)) k190).Values⟩ : Qab)) hs)) Qci Qcg (show (((gt d192 (G161.toNat)).Rows).length + 1) * 32 ≤ 140737488355328 from by first | omega | (have := hTd (G161.toNat); omega)) (fun v269 => ?_)
         refine fm 0 ?_
         rintro A270 c271 rfl m272
         refine qn (pn 22 [1, 2, 3, 5, 6, 7, 8, 9, 10, 11, 12, 13, 14, 15, 16, 17, 18, 19, 20, 21]) ?_
         refine qt 20 17 262143 rfl (fun W hm => Qgl (sz := 10) (k := G161) Qax Qbe rfl rfl rfl (by omega) (by omega)) ?_
         refine qt 20 18 524287 rfl (vf Qaj rfl Qdt) ?_
         refine qo 20 19 1048575 rfl ?_
         refine sf 9 10 [iV ((gt d192 (G161.toNat)).Query.Id), iV ((gt d192 (G161.toNat)).Query.Tenant), .slice A218 ((gt d192 (G161.toNat)).Query.Conds).length c219, .slice A222 ((gt d192 (G161.toNat)).Query.Out).length c223, iV ((gt d192 (G161.toNat)).Time), .slice A226 ((gt d192 (G161.toNat)).Todo).length c227, iV ((gt d192 (G161.toNat)).Age), iV ((gt d192 (G161.toNat)).Sent), iV ((gt d192 (G161.toNat)).Cap), .slice A270 (Qjj x0 G161 k190 d192).length c271] (iS Qap 70 A270 c271 (Qjj x0 G161 k190 d192) :: J59) (fun W hm => (hm.front (n := 4) rfl)) Qdt ?_
         refine qn (pn 22 [2, 3, 4, 5, 6, 7, 8, 9, 10, 11, 12, 13, 14, 15, 16, 17, 18, 19, 20, 21]) ?_
         refine Qed (by kernel_rfl) ?_
         exact Qfh (A270, c271) sl9 idM trivial
        refine qc 20 61439 rfl ?_ ?_
        ·
         let K16 : List Value := [iV ((⟨(gt (gt x0.Store.Segments (x0.Cursor.toNat)) k190).Id, (gt (gt x0.Store.Segments (x0.Cursor.toNat)) k190).Values⟩ : Qab).Id), .slice A264 ((⟨(gt (gt x0.Store.Segments (x0.Cursor.toNat)) k190).Id, (gt (gt x0.Store.Segments (x0.Cursor.toNat)) k190).Values⟩ : Qab).Values).length c265]
         refine Qde (cs := K16) Qci Qcg rfl (by decide) (by decide) rfl (by kernel_rfl) (Qk rfl) (by decide) (fun p274 => ?_)
         refine qn (pn 24 [2, 3, 4, 7, 8, 9, 10, 11, 12, 13, 14, 15, 16, 17, 18, 19, 20, 21, 22, 23]) ?_
         refine qo 20 12 65535 rfl ?_
         refine wv (fun W hm => Qaw Qci rfl rfl (hm.focCells (i := 6) rfl rfl 9 _ rfl)) ?_
         refine qn (pn 24 [2, 3, 4, 7, 8, 9, 10, 11, 12, 13, 14, 15, 16, 17, 18, 19, 20, 21, 22, 23]) ?_
         refine qo 20 16 131071 rfl ?_
         refine ap1 Qap 70 (.slice A230 ((gt d192 (G161.toNat)).Rows).length c231) ((gt d192 (G161.toNat)).Rows) (⟨(gt (gt x0.Store.Segments (x0.Cursor.toNat)) k190).Id, (gt (gt x0.Store.Segments (x0.Cursor.toNat)) k190).Values⟩ : Qab) [iS Qa 3 A264 c265 ((⟨(gt (gt x0.Store.Segments (x0.Cursor.toNat)) k190).Id, (gt (gt x0.Store.Segments (x0.Cursor.toNat)) k190).Values⟩ : Qab).Values)] (I37 :: I38 :: I39 :: Qdf Qah 61 (sA g162) x0.Active.length c15 d192 (G161.toNat) [iV ((gt d192 (G161.toNat)).Query.Id), iV ((gt d192 (G161.toNat)).Query.Tenant), .slice A218 ((gt d192 (G161.toNat)).Query.Conds).length c219, .slice A222 ((gt d192 (G161.toNat)).Query.Out).length c223, iV ((gt d192 (G161.toNat)).Time), .slice A226 ((gt d192 (G161.toNat)).Todo).length c227, iV ((gt d192 (G161.toNat)).Age), iV ((gt d192 (G161.toNat)).Sent), iV ((gt d192 (G161.toNat)).Cap), .slice A230 ((gt d192 (G161.toNat)).Rows).length c231] :: J58) K16 (fun W hm => (((hm.front (n := 1) rfl).front (n := 5) rfl).front (n := 2) rfl)) (fun _ _ hs => Els.single (Qjq (x := (⟨(gt (gt x0.Store.Segments (x0.Cursor.toNat)) k190).Id, (gt (gt x0.Store.Segments (x0.Cursor.toNat)) k190).Values⟩ : Qab)) hs)) Qci Qcg (show (((gt d192 (G161.toNat)).Rows).length + 1) * 32 ≤ 140737488355328 from by first | omega | (have := hTd (G161.toNat); omega)) (fun v275 => ?_)
         refine fm 0 ?_
         rintro A276 c277 rfl m278
         refine qn (pn 22 [1, 2, 3, 5, 6, 7, 8, 9, 10, 11, 12, 13, 14, 15, 16, 17, 18, 19, 20, 21]) ?_
         refine qt 20 17 262143 rfl (fun W hm => Qgl (sz := 10) (k := G161) Qax Qbe rfl rfl rfl (by omega) (by omega)) ?_
         refine qt 20 18 524287 rfl (vf Qaj rfl Qdt) ?_
         refine qo 20 19 1048575 rfl ?_
         refine sf 9 10 [iV ((gt d192 (G161.toNat)).Query.Id), iV ((gt d192 (G161.toNat)).Query.Tenant), .slice A218 ((gt d192 (G161.toNat)).Query.Conds).length c219, .slice A222 ((gt d192 (G161.toNat)).Query.Out).length c223, iV ((gt d192 (G161.toNat)).Time), .slice A226 ((gt d192 (G161.toNat)).Todo).length c227, iV ((gt d192 (G161.toNat)).Age), iV ((gt d192 (G161.toNat)).Sent), iV ((gt d192 (G161.toNat)).Cap), .slice A276 (Qjj x0 G161 k190 d192).length c277] (iS Qap 70 A276 c277 (Qjj x0 G161 k190 d192) :: J59) (fun W hm => (hm.front (n := 4) rfl)) Qdt ?_
         refine qn (pn 22 [2, 3, 4, 5, 6, 7, 8, 9, 10, 11, 12, 13, 14, 15, 16, 17, 18, 19, 20, 21]) ?_
         refine Qed (by kernel_rfl) ?_
         exact Qfh (A276, c277) sl9 idM trivial
        exact Qtk
       exact Qtk
      rintro ⟨A246, c247⟩ -
      let K17 : List Value := [iV ((gt d192 (G161.toNat)).Query.Id), iV ((gt d192 (G161.toNat)).Query.Tenant), .slice A218 ((gt d192 (G161.toNat)).Query.Conds).length c219, .slice A222 ((gt d192 (G161.toNat)).Query.Out).length c223, iV ((gt d192 (G161.toNat)).Time), .slice A226 ((gt d192 (G161.toNat)).Todo).length c227, iV ((gt d192 (G161.toNat)).Age), iV ((gt d192 (G161.toNat)).Sent), iV ((gt d192 (G161.toNat)).Cap), .slice A246 (Qjj x0 G161 k190 d192).length c247]
      let I40 : It := Qdf Qah 61 (sA g162) x0.Active.length c15 d192 (G161.toNat) K17
      let I41 : It := iS Qap 70 A246 c247 (Qjj x0 G161 k190 d192)
      show QM 214 _ _ _ .normal [(0, bp p), (1, .slice (sA g160) x1.length c27), (6, bp p121), (7, .slice (sA g200) (gt x0.Store.Segments (x0.Cursor.toNat)).length c126), (8, bp p136), (9, nI k139), (10, iV G161), (11, iV s191), (12, nI k190)] (I40 :: I41 :: J59)
      refine Qnd (n := 1) rfl ?_
      intro m280 m281
      refine Qd (Qy (wm ?_))
      refine wv Qcy ?_
      refine wa (Qac (Qam (Qd (Qy (wm ?_)))))
      refine wv (Qal k190 1 (by omega)) ?_
      refine wa (Qac ?_)
      refine Qdd (fun W hm => Mem.unfocus (Mem.join (is := [I37, I38, I39, I41]) (js := (I40 :: J58)) (fun _ _ hs => Qho (x := (⟨(gt d192 (G161.toNat)).Query, (gt d192 (G161.toNat)).Time, (gt d192 (G161.toNat)).Todo, (gt d192 (G161.toNat)).Age, (gt d192 (G161.toNat)).Sent, (gt d192 (G161.toNat)).Cap, (Qjj x0 G161 k190 d192)⟩ : Qw)) hs) (hm.pickN 22 [2, 3, 4, 1, 0, 5, 6, 7, 8, 9, 10, 11, 12, 13, 14, 15, 16, 17, 18, 19, 20, 21] (by decide)))) ?_
      refine Qdd (fun W hm => Mem.unfocus0 (Mem.join (is := [I34]) (js := (I35 :: (Qn (tSl Qah 61) [.slice (sA g162) x0.Active.length c15] (Qoe x0 G161 k190 d192) :: I36 :: Qh p207 70 K13 :: J57))) (fun _ _ hs => Qlh (x := (gt (gt x0.Store.Segments (x0.Cursor.toNat)) k190)) hs) ((hm.front (n := 4) rfl).front (n := 4) rfl))) ?_
      exact Qan (k190 + 1, ((IntKind.i64.wrap (s191 + 1)), (Qoe x0 G161 k190 d192)), ()) sl9 (pn 17 [1, 4, 5, 6, 0, 7, 8, 9, 10, 11, 12, 13, 14, 15, 16]) ⟨(by omega), nx hF194 (by subst hG161; exact Qb g235 (Qb g237 (rfl))), (show (Qoe x0 G161 k190 d192).map (fun (a : Qw) => a.Query.Id) = d150.map (fun (a : Qw) => a.Query.Id) from by first | exact hi196 | exact (Qve (by rfl)).trans hi196), (show ∀ i, (gt (Qoe x0 G161 k190 d192) i).Todo.length ≤ 8 ∧ (gt (Qoe x0 G161 k190 d192) i).Rows.length ≤ 1000 + 4 * k139 + (k190 + 1) from by first | exact (fun i => by have := hi197 i; omega) | exact Qtm hi197 (by omega) (Nat.le_refl _) (by simp only [List.length_append, List.length_cons, List.length_nil]; omega))⟩ (show (gt x0.Store.Segments (x0.Cursor.toNat)).length - (k190 + 1) < (gt x0.Store.Segments (x0.Cursor.toNat)).length - k190 from by omega)
     refine Qm rfl g237 ?_
     refine Qp (Qam (Qd (Qy (wm ?_))))
     refine wv (Qal k190 1 (by omega)) ?_
     refine wa (Qac ?_)
     refine Qdd (fun W hm => Mem.unfocus0 (Mem.join (is := [iS Qbl 180 A218 c219 ((gt d192 (G161.toNat)).Query.Conds), iS Qa 3 A222 c223 ((gt d192 (G161.toNat)).Query.Out), iS Qa 3 A226 c227 ((gt d192 (G161.toNat)).Todo), iS Qap 70 A230 c231 ((gt d192 (G161.toNat)).Rows)]) (js := (Qdf Qah 61 (sA g162) x0.Active.length c15 d192 (G161.toNat) [iV ((gt d192 (G161.toNat)).Query.Id), iV ((gt d192 (G161.toNat)).Query.Tenant), .slice A218 ((gt d192 (G161.toNat)).Query.Conds).length c219, .slice A222 ((gt d192 (G161.toNat)).Query.Out).length c223, iV ((gt d192 (G161.toNat)).Time), .slice A226 ((gt d192 (G161.toNat)).Todo).length c227, iV ((gt d192 (G161.toNat)).Age), iV ((gt d192 (G161.toNat)).Sent), iV ((gt d192 (G161.toNat)).Cap), .slice A230 ((gt d192 (G161.toNat)).Rows).length c231] :: J58)) (fun _ _ hs => Qho (x := (gt d192 (G161.toNat))) hs) (hm.pickN 22 [0, 1, 2, 3, 4, 5, 6, 7, 8, 9, 10, 11, 12, 13, 14, 15, 16, 17, 18, 19, 20, 21] (by decide)))) ?_
     refine Qdd (fun W hm => Mem.unfocus0 (Mem.join (is := [I34]) (js := (I35 :: (I32 :: I36 :: Qh p207 70 K13 :: J57))) (fun _ _ hs => Qlh (x := (gt (gt x0.Store.Segments (x0.Cursor.toNat)) k190)) hs) ((hm.front (n := 4) rfl).front (n := 4) rfl))) ?_
     exact Qan (k190 + 1, (s191, d192), ()) sl9 (pn 17 [1, 4, 5, 6, 0, 7, 8, 9, 10, 11, 12, 13, 14, 15, 16]) ⟨(by omega), nx hF194 (by subst hG161; exact Qb g235 (Qc g237 (rfl))), (show d192.map (fun (a : Qw) => a.Query.Id) = d150.map (fun (a : Qw) => a.Query.Id) from by first | exact hi196 | exact (Qve (by rfl)).trans hi196), (show ∀ i, (gt d192 i).Todo.length ≤ 8 ∧ (gt d192 i).Rows.length ≤ 1000 + 4 * k139 + (k190 + 1) from by first | exact (fun i => by have := hi197 i; omega) | exact Qtm hi197 (by omega) (Nat.le_refl _) (by simp only [List.length_append, List.length_cons, List.length_nil]; omega))⟩ (show (gt x0.Store.Segments (x0.Cursor.toNat)).length - (k190 + 1) < (gt x0.Store.Segments (x0.Cursor.toNat)).length - k190 from by omega)
    refine qs g235 ?_
    refine qs g235 ?_
    refine qs g235 ?_
    refine qs g235 ?_
    refine qs g235 ?_
    refine qs g235 ?_
    refine qs g235 ?_
    refine qs g235 ?_
    refine qs g235 ?_
    refine qs g235 ?_
    refine qs g235 ?_
    refine qs g235 ?_
    refine qs g235 ?_
    refine qv (vpF g235) ?_
    refine nq' ?_
    refine Qm rfl rfl ?_
    refine Qp (Qam (Qd (Qy (wm ?_))))
    refine wv (Qal k190 1 (by omega)) ?_
    refine wa (Qac ?_)
    refine Qdd (fun W hm => Mem.unfocus0 (Mem.join (is := [iS Qbl 180 A218 c219 ((gt d192 (G161.toNat)).Query.Conds), iS Qa 3 A222 c223 ((gt d192 (G161.toNat)).Query.Out), iS Qa 3 A226 c227 ((gt d192 (G161.toNat)).Todo), iS Qap 70 A230 c231 ((gt d192 (G161.toNat)).Rows)]) (js := (Qdf Qah 61 (sA g162) x0.Active.length c15 d192 (G161.toNat) [iV ((gt d192 (G161.toNat)).Query.Id), iV ((gt d192 (G161.toNat)).Query.Tenant), .slice A218 ((gt d192 (G161.toNat)).Query.Conds).length c219, .slice A222 ((gt d192 (G161.toNat)).Query.Out).length c223, iV ((gt d192 (G161.toNat)).Time), .slice A226 ((gt d192 (G161.toNat)).Todo).length c227, iV ((gt d192 (G161.toNat)).Age), iV ((gt d192 (G161.toNat)).Sent), iV ((gt d192 (G161.toNat)).Cap), .slice A230 ((gt d192 (G161.toNat)).Rows).length c231] :: J58)) (fun _ _ hs => Qho (x := (gt d192 (G161.toNat))) hs) (hm.pickN 22 [0, 1, 2, 3, 4, 5, 6, 7, 8, 9, 10, 11, 12, 13, 14, 15, 16, 17, 18, 19, 20, 21] (by decide)))) ?_
    refine Qdd (fun W hm => Mem.unfocus0 (Mem.join (is := [I34]) (js := (I35 :: (I32 :: I36 :: Qh p207 70 K13 :: J57))) (fun _ _ hs => Qlh (x := (gt (gt x0.Store.Segments (x0.Cursor.toNat)) k190)) hs) ((hm.front (n := 4) rfl).front (n := 4) rfl))) ?_
    exact Qan (k190 + 1, (s191, d192), ()) sl9 (pn 17 [1, 4, 5, 6, 0, 7, 8, 9, 10, 11, 12, 13, 14, 15, 16]) ⟨(by omega), nx hF194 (by subst hG161; exact Qc g235 (rfl)), (show d192.map (fun (a : Qw) => a.Query.Id) = d150.map (fun (a : Qw) => a.Query.Id) from by first | exact hi196 | exact (Qve (by rfl)).trans hi196), (show ∀ i, (gt d192 i).Todo.length ≤ 8 ∧ (gt d192 i).Rows.length ≤ 1000 + 4 * k139 + (k190 + 1) from by first | exact (fun i => by have := hi197 i; omega) | exact Qtm hi197 (by omega) (Nat.le_refl _) (by simp only [List.length_append, List.length_cons, List.length_nil]; omega))⟩ (show (gt x0.Store.Segments (x0.Cursor.toNat)).length - (k190 + 1) < (gt x0.Store.Segments (x0.Cursor.toNat)).length - k190 from by omega)
   refine Qm rfl g199 ?_
   refine Qay (Qu (Qu ?_))
   have hE285 := Qbh hl198 hF194
   have hTd := hi197
   refine Qaz (Qd (sr ?_))
   refine wv (vf Qby rfl Qao) ?_
   refine wv (vl 1 4 Qq) ?_
   refine wm ?_
   refine Qde (cs := [iV s191]) Qq Qf rfl (by decide) (by decide) rfl (by kernel_rfl) (Qk rfl) (by decide) (fun p286 => ?_)
   let J60 : List It := I31 :: iS Qa 3 A132 c133 x1 :: I24 :: I25 :: Qh p121 204 K2 :: I22 :: I23 :: iS Qa 3 A10 c11 x0.Order :: iS Qas 80 A18 c19 x0.Done :: iS Qaq 102 A22 c23 x0.Ledger :: Qh p 39 K8 :: iS Qa 3 (sA g160) c27 x1 :: is
   refine ap1 Qa 3 (.slice A148 d147.length c149) d147 s191 [] (Qn (tSl Qah 61) [.slice (sA g162) x0.Active.length c15] d192 :: Qh p136 102 K10 :: J60) [iV s191] (fun W hm => ((hm.front (n := 15) rfl).front (n := 1) rfl)) (fun _ _ hs => by cases (Sep.nil hs); exact (Qhq Qck Qhr)) Qq Qf (show (d147.length + 1) * 8 ≤ 140737488355328 from by first | omega | (have := hTd _; omega)) (fun v287 => ?_)
   refine fm 0 ?_
   rintro A288 c289 rfl m290
   refine wv (vf Qby rfl Qao) ?_
   let K18 : List Value := [iV x0.Cursor, nI ((gt x0.Store.Segments (x0.Cursor.toNat)).length), .slice A132 x1.length c133, .slice A186 (d143 ++ [(gt d150 (G161.toNat)).Query.Tenant]).length c187, .slice A288 (d147 ++ [s191]).length c289]
   refine Qgz (p := p136) (o := 4) (cs' := K18) (fun w hm => hm.front (n := 2) rfl) Qao rfl (Nat.le_of_ble_eq_true rfl) rfl rfl rfl rfl (Qk rfl) ?_
   refine nt' (Qe ?_)
   let J61 : List It := Qh p136 102 K18 :: iS Qa 3 A288 c289 (d147 ++ [s191]) :: J60
   refine Qpo (E := Qah) (e := 61) (A := (sA g162)) (n := x0.Active.length) (c := c15) (xs := d192) (k := (G161.toNat)) (js := J61) (by omega) (fun W hm => (hm.front (n := 2) rfl)) (fun ck292 => ?_)
   refine Qjw (γ := Value × Value × Value × Value) (js := fun g => [Qn (tSl Qbl 180) [g.1] ((gt d192 (G161.toNat)).Query.Conds), Qn (tSl Qa 3) [g.2.1] ((gt d192 (G161.toNat)).Query.Out), Qn (tSl Qa 3) [g.2.2.1] ((gt d192 (G161.toNat)).Todo), Qn (tSl Qap 70) [g.2.2.2] ((gt d192 (G161.toNat)).Rows)]) (C := fun g => ck292 = [iV ((gt d192 (G161.toNat)).Query.Id), iV ((gt d192 (G161.toNat)).Query.Tenant), g.1, g.2.1, iV ((gt d192 (G161.toNat)).Time), g.2.2.1, iV ((gt d192 (G161.toNat)).Age), iV ((gt d192 (G161.toNat)).Sent), iV ((gt d192 (G161.toNat)).Cap), g.2.2.2]) (fun _ _ h => Qwb h) ?_
   rintro ⟨v293, v294, v295, v296⟩ rfl
   refine Qdc (n := 0) rfl ?_
   rintro A297 c298 rfl m299
   refine Qdc (n := 1) rfl ?_
   rintro A301 c302 rfl m303
   refine Qdc (n := 2) rfl ?_
   rintro A305 c306 rfl m307
   refine Qdc (n := 3) rfl ?_
   rintro A309 c310 rfl m311
   let I42 : It := iS Qbl 180 A297 c298 ((gt d192 (G161.toNat)).Query.Conds)
   let I43 : It := iS Qa 3 A301 c302 ((gt d192 (G161.toNat)).Query.Out)
   let I44 : It := iS Qa 3 A305 c306 ((gt d192 (G161.toNat)).Todo)
   let I45 : It := iS Qap 70 A309 c310 ((gt d192 (G161.toNat)).Rows)
   let J62 : List It := I42 :: I43 :: I44 :: I45 :: J61
   refine rb 18 (s := J62) (pn 19 [0, 1, 2, 3, 5, 6, 7, 8, 9, 10, 11, 12, 13, 14, 15, 16, 17, 18]) ?_
   refine qt 18 0 1 rfl vmv ?_
   refine qt 18 1 3 rfl (fun W hm => Qee rfl) ?_
   refine qt 18 2 7 rfl (vf Qz rfl Qcw) ?_
   refine qt 18 3 15 rfl (vl 16 4 Qax) ?_
   refine qt 18 4 31 rfl vmv ?_
   refine qt 18 5 63 rfl vmv ?_
   refine qt 18 6 127 rfl (fun W hm => Qee rfl) ?_
   refine qt 18 7 255 rfl (vf Qz rfl Qcw) ?_
   refine qt 18 8 511 rfl (vl 16 4 Qax) ?_
   refine qt 18 9 1023 rfl vmv ?_
   refine qt 18 10 2047 rfl (fun W hm => Qgl (sz := 10) (k := G161) Qax Qbe rfl rfl rfl (by omega) (by omega)) ?_
   refine qt 18 11 4095 rfl (vf Qaj rfl Qf) ?_
   refine qt 18 13 12287 rfl vmv ?_
   refine qo 18 12 16383 rfl ?_
   refine wv (fun W hm => Qaw Qs rfl rfl (hm.focCells (i := 4) rfl rfl 7 _ rfl)) ?_
   refine qn (pn 19 [0, 1, 2, 3, 5, 6, 7, 8, 9, 10, 11, 12, 13, 14, 15, 16, 17, 18]) ?_
   refine qt 18 14 32767 rfl Qcy ?_
   refine qt 18 15 65535 rfl (fun W hm => Qgl (sz := 10) (k := G161) Qax Qbe rfl rfl rfl (by omega) (by omega)) ?_
   refine qt 18 16 131071 rfl (vf Qaj rfl Qf) ?_
   refine qo 18 17 262143 rfl ?_
   refine sf 7 10 [iV ((gt d192 (G161.toNat)).Query.Id), iV ((gt d192 (G161.toNat)).Query.Tenant), .slice A297 ((gt d192 (G161.toNat)).Query.Conds).length c298, .slice A301 ((gt d192 (G161.toNat)).Query.Out).length c302, iV ((gt d192 (G161.toNat)).Time), .slice A305 ((gt d192 (G161.toNat)).Todo).length c306, iV ((gt d192 (G161.toNat)).Age), iV (IntKind.i64.wrap (((gt d192 (G161.toNat)).Sent) + s191)), iV ((gt d192 (G161.toNat)).Cap), .slice A309 ((gt d192 (G161.toNat)).Rows).length c310] J62 (fun W hm => (hm.front (n := 4) rfl)) Qf ?_
   refine qn (pn 19 [1, 2, 3, 4, 5, 6, 7, 8, 9, 10, 11, 12, 13, 14, 15, 16, 17, 18]) ?_
   refine Qed (by kernel_rfl) ?_
   refine Qd ?_
   refine rb 21 (s := J62) (pn 19 [1, 2, 3, 4, 5, 6, 7, 8, 9, 10, 11, 12, 13, 14, 15, 16, 17, 18]) ?_
   refine qt 21 0 1 rfl vmv ?_
   refine qt 21 1 3 rfl (fun W hm => Qee rfl) ?_
   refine qt 21 2 7 rfl (vf Qz rfl Qcw) ?_
   refine qt 21 3 15 rfl (vl 16 4 Qax) ?_
   refine qt 21 4 31 rfl vmv ?_
   refine qt 21 5 63 rfl vmv ?_
   refine qt 21 6 127 rfl (fun W hm => Qee rfl) ?_
   refine qt 21 7 255 rfl (vf Qz rfl Qcw) ?_
   refine qt 21 8 511 rfl (vl 16 4 Qax) ?_
   refine qt 21 9 1023 rfl vmv ?_
   refine qt 21 10 2047 rfl (fun W hm => Qgl (sz := 10) (k := G161) Qax Qbe rfl rfl rfl (by omega) (by omega)) ?_
   refine qt 21 11 4095 rfl (vf Qaj rfl Qao) ?_
   refine qt 21 13 12287 rfl vmv ?_
   refine qt 21 14 28671 rfl (fun W hm => Qee rfl) ?_
   refine qt 21 15 61439 rfl (vf Qz rfl Qf) ?_
   refine qt 21 16 126975 rfl (vl 16 2 Qs) ?_
   refine qo 21 12 131071 rfl ?_
   refine wv (fun W hm => Qaw Qq rfl rfl (hm.focCells (i := 0) rfl rfl 5 _ rfl)) ?_
   refine qn (pn 19 [1, 2, 3, 4, 5, 6, 7, 8, 9, 10, 11, 12, 13, 14, 15, 16, 17, 18]) ?_
   refine qo 21 17 262143 rfl ?_
   refine wcl (tSl Qa 3) (Qlx ((gt d192 (G161.toNat)).Todo) x0.Cursor) (Qr Qaot rfl) (fun W hm => Qbbm W _ ((gt d192 (G161.toNat)).Todo) x0.Cursor (hm.rdSI (n := 3) rfl) (show _ ≤ 68719476736 from by have := hTd (G161.toNat); omega)) (fun z313 => ?_)
   refine fm 0 ?_
   rintro A314 c315 rfl m316
   refine qn (pn 20 [2, 3, 4, 5, 6, 7, 8, 9, 10, 11, 12, 13, 14, 15, 16, 17, 18, 19]) ?_
   refine qt 21 18 524287 rfl (fun W hm => Qgl (sz := 10) (k := G161) Qax Qbe rfl rfl rfl (by omega) (by omega)) ?_
   refine qt 21 19 1048575 rfl (vf Qaj rfl Qao) ?_
   refine qo 21 20 2097151 rfl ?_
   let K19 : List Value := [iV ((gt d192 (G161.toNat)).Query.Id), iV ((gt d192 (G161.toNat)).Query.Tenant), .slice A297 ((gt d192 (G161.toNat)).Query.Conds).length c298, .slice A301 ((gt d192 (G161.toNat)).Query.Out).length c302, iV ((gt d192 (G161.toNat)).Time), .slice A314 (Qlx ((gt d192 (G161.toNat)).Todo) x0.Cursor).length c315, iV ((gt d192 (G161.toNat)).Age), iV (IntKind.i64.wrap (((gt d192 (G161.toNat)).Sent) + s191)), iV ((gt d192 (G161.toNat)).Cap), .slice A309 ((gt d192 (G161.toNat)).Rows).length c310]
   let I46 : It := iS Qa 3 A314 c315 (Qlx ((gt d192 (G161.toNat)).Todo) x0.Cursor)
   refine sf 5 10 K19 (I46 :: J62) (fun W hm => (hm.front (n := 1) rfl)) Qao ?_
   refine qn (pn 20 [2, 3, 4, 5, 6, 7, 8, 9, 10, 11, 12, 13, 14, 15, 16, 17, 18, 19]) ?_
   refine Qed (by kernel_rfl) ?_
   refine Qam (Qd (Qy (wm ?_)))
   refine wv (Qal k139 1 (by omega)) ?_
   refine wa (Qac ?_)
   refine Qdd (fun W hm => Mem.unfocus (Mem.join (is := [I42, I43, I46, I45]) (js := (Qdf Qah 61 (sA g162) x0.Active.length c15 d192 (G161.toNat) K19 :: (I44 :: J61))) (fun _ _ hs => Qho (x := (⟨(gt d192 (G161.toNat)).Query, (gt d192 (G161.toNat)).Time, (Qlx ((gt d192 (G161.toNat)).Todo) x0.Cursor), (gt d192 (G161.toNat)).Age, (IntKind.i64.wrap (((gt d192 (G161.toNat)).Sent) + s191)), (gt d192 (G161.toNat)).Cap, (gt d192 (G161.toNat)).Rows⟩ : Qw)) hs) (hm.pickN 20 [2, 3, 1, 5, 0, 4, 6, 7, 8, 9, 10, 11, 12, 13, 14, 15, 16, 17, 18, 19] (by decide)))) ?_
   exact Qan (k139 + 1, ((d143 ++ [(gt d150 (G161.toNat)).Query.Tenant]), (d147 ++ [s191]), (Qqu x0 G161 s191 d192)), (A186, c187, A288, c289)) sl6 (pn 16 [2, 5, 6, 7, 8, 9, 10, 11, 0, 12, 13, 14, 15, 4, 3]) ⟨(by omega), nx hF152 (by subst hG161; exact Qar hE285 (rfl)), (show (d143 ++ [(gt d150 (G161.toNat)).Query.Tenant]).length ≤ 0 + (k139 + 1) from by first | omega | (simp only [List.length_append, List.length_cons, List.length_nil] at *; omega)), (show (d147 ++ [s191]).length ≤ 0 + (k139 + 1) from by first | omega | (simp only [List.length_append, List.length_cons, List.length_nil] at *; omega)), (show (Qqu x0 G161 s191 d192).map (fun (a : Qw) => a.Query.Id) = x0.Active.map (fun (a : Qw) => a.Query.Id) from by exact (Qve (by rfl)).trans (hi196.trans hi156)), (show ∀ i, (gt (Qqu x0 G161 s191 d192) i).Todo.length ≤ 8 ∧ (gt (Qqu x0 G161 s191 d192) i).Rows.length ≤ 1000 + 4 * (k139 + 1) from by exact Qtm hi197 (by omega) (Qbdz _ _) (by dsimp only; omega))⟩ rl
  refine Qm rfl g159 ?_
  refine Qay (Qu (Qu ?_))
  have hE319 := Qbh hl158 hF152
  refine Qaz (Qd ?_)
  refine Qdw (pn 15 [0, 1, 2, 3, 7, 8, 9, 10, 11, 12, 13, 14]) ?_
  let K20 : List Value := [iV x0.Cursor, nI ((gt x0.Store.Segments (x0.Cursor.toNat)).length), .slice A132 x1.length c133, .slice A144 d143.length c145, .slice A148 d147.length c149]
  let I47 : It := Qn (tSl Qah 61) [.slice A14 x0.Active.length c15] d150
  let J63 : List It := Qh p136 102 K20 :: I24 :: I25 :: iS Qa 3 A10 c11 x0.Order :: I47 :: iS Qas 80 A18 c19 x0.Done :: Qh p 39 K3 :: J49
  let J64 : List It := iS Qa 3 A10 c11 x0.Order :: I47 :: iS Qas 80 A18 c19 x0.Done :: J49
  refine rd2 11 [10] (s := (Qh p136 102 K20 :: I24 :: I25 :: J64)) (s2 := J63) (pn 12 [0, 2, 3, 4, 5, 6, 9]) (pn 12 [0, 2, 3, 4, 5, 6, 8, 9]) ?_
  refine qtD 11 0 1 rfl vmv ?_
  refine qtD 11 1 3 rfl vmv ?_
  refine qtD 11 2 7 rfl (fun W hm => Qee rfl) ?_
  refine qtD 11 3 15 rfl (vf Qz rfl Qfg) ?_
  refine qtD 11 4 31 rfl (vl 6 6 Qcx) ?_
  refine qtD 11 5 63 rfl (fun W hm => Qad (cs := K20) Qby Qcs rfl rfl (hm.boxCells (n := 0) rfl)) ?_
  refine qoD 11 6 127 rfl ?_
  refine Qde (cs := K20) Qcx Qcs rfl (by decide) (by decide) rfl (by kernel_rfl) (Qk rfl) (by decide) (fun p320 => ?_)
  refine qnD (pn 13 [1, 3, 4, 5, 6, 7, 10]) (pn 13 [1, 3, 4, 5, 6, 7, 9, 10]) ?_
  refine qoD 11 7 255 rfl ?_
  refine Qpt (E := Qaq) (e := 102) (v := .slice A22 x0.Ledger.length c23) (p := p320) (q := 1) (xs := x0.Ledger) (ys := [(⟨x0.Cursor, (((gt x0.Store.Segments (x0.Cursor.toNat)).length : Nat) : Int), x1, d143, d147⟩ : Qbc)]) (eis := [iS Qa 3 A132 c133 x1, iS Qa 3 A144 c145 d143, iS Qa 3 A148 c149 d147]) (js := J63) (news := K20) (pn 13 [0, 8, 2, 11, 12, 1, 3, 4, 5, 6, 7, 9, 10]) (fun _ _ hs => Els.single (Qmt (x := (⟨x0.Cursor, (((gt x0.Store.Segments (x0.Cursor.toNat)).length : Nat) : Int), x1, d143, d147⟩ : Qbc)) hs)) Qcx Qcs rfl rfl rfl (Nat.le_of_ble_eq_true rfl) rfl rfl rfl (show (x0.Ledger.length + 1) * 88 ≤ 140737488355328 from by first | omega | (have := hTd _; omega)) (show x0.Ledger.length + 1 ≤ 9223372036854775807 from by first | omega | (have := hTd _; omega)) (Qk rfl) (by decide) (fun v321 => ?_)
  refine fm 0 ?_
  rintro A322 c323 rfl m324
  refine qnD (pn 9 [1, 2, 3, 4, 5, 6, 8]) (pn 9 [1, 2, 3, 4, 5, 6, 7, 8]) ?_
  refine qtP 11 8 511 rfl (fun W => Qee rfl) ?_
  refine qtD 11 9 1023 rfl (vf Qz rfl Qfg) ?_
  refine qoD 11 10 2047 rfl ?_
  let K21 : List Value := [.slice (sA g122) x0.Store.Segments.length c7, iV x0.Store.Now, iV x0.Cursor, .slice A10 x0.Order.length c11, .slice A14 x0.Active.length c15, .slice A18 x0.Done.length c19, .slice A322 (Qqv x0 x1 d143 d147).length c323, iV x0.Steps]
  refine Qgz (p := p) (o := 6) (cs' := K21) (fun w hm => hm.front (n := 7) rfl) Qfg rfl (Nat.le_of_ble_eq_true rfl) rfl rfl rfl rfl (Qk rfl) ?_
  refine qxD (pn 9 [2, 3, 4, 5, 6, 7, 8]) ?_
  refine Qed (by kernel_rfl) ?_
  let I48 : It := iS Qaq 102 A322 c323 (Qqv x0 x1 d143 d147)
  refine Qdd (fun W hm => Mem.unfocus0 (Mem.join (is := [I24]) (js := (I25 :: (Qh p 39 K21 :: I48 :: Qh p136 102 K20 :: J64))) (fun _ _ hs => Sep.one hs) ((hm.front (n := 4) rfl).front (n := 4) rfl))) ?_
  refine Qdd (js := (Qn Qcb K21 (⟨x0.Store, x0.Cursor, x0.Order, d150, x0.Done, (Qqv x0 x1 d143 d147), x0.Steps⟩ : Qo) :: (Qh p 39 K21 :: Qh p136 102 K20 :: J49))) (fun W hm => Mem.join (is := [iS (tSl Qaf 163) 100 (sA g122) c7 x0.Store.Segments, iS Qa 3 A10 c11 x0.Order, I47, iS Qas 80 A18 c19 x0.Done, I48]) (js := (Qh p 39 K21 :: Qh p136 102 K20 :: J49)) (fun _ _ hs => Qfk (x := (⟨x0.Store, x0.Cursor, x0.Order, d150, x0.Done, (Qqv x0 x1 d143 d147), x0.Steps⟩ : Qo)) hs) (hm.pickN 8 [0, 4, 5, 6, 2, 1, 3, 7] (by decide))) ?_
  have he326 := (show Qlb x0 x1 = (⟨x0.Store, x0.Cursor, x0.Order, d150, x0.Done, (Qqv x0 x1 d143 d147), x0.Steps⟩ : Qo) from Qar hE109 (Qar hE319 (rfl)))
  refine Qwu rfl (fun W hm => ⟨K21, ?_, ?_⟩)
  ·rfl
  rw [he326]; exact ((((hm.front (n := 3) rfl).front (n := 1) rfl).front (n := 2) rfl).front (n := 3) rfl).tail
 refine qtD 12 0 1 rfl vmv ?_
 refine qtD 12 1 3 rfl (fun W hm => Qee rfl) ?_
 refine qtD 12 2 7 rfl (vf Qz rfl Qf) ?_
 refine qtD 12 3 15 rfl (vl 9 2 Qs) ?_
 refine qtD 12 4 31 rfl vmv ?_
 refine qtD 12 5 63 rfl (Qag Qbv) ?_
 refine qtD 12 7 191 rfl vmv ?_
 refine qaD [6, 10] ?_
 refine qcD 12 255 rfl ?_ ?_
 ·
  refine Qcf (E := Qa) Qq Qf (Qk rfl) (by decide) (fun p327 => ?_)
  refine qnD (pn 12 [1, 2, 3, 4, 5, 6, 7, 8, 9, 10, 11]) (pn 12 [1, 2, 3, 4, 5, 6, 7, 8, 9, 10, 11]) ?_
  refine qaD [8, 10] ?_
  refine qcD 12 511 rfl ?_ ?_
  ·
   refine apR Qa Qa 3 (.slice (sA p327) 0 0) [] x1 J51 (fun W hm => (hm.front (n := 0) rfl)) (fun W hm => Qdi Qcv (hm.rdSI (n := 11) rfl)) Qq Qf (show (0 + x1.length) * 8 ≤ 140737488355328 from by omega) (fun v329 => ?_)
   refine fm 0 ?_
   rintro A330 c331 rfl m332
   refine qnD (pn 12 [1, 2, 3, 4, 5, 6, 7, 8, 9, 10, 11]) (pn 12 [1, 2, 3, 4, 5, 6, 7, 8, 9, 10, 11]) ?_
   refine qtD 12 9 1023 rfl (fun W hm => Qef (cs := [iV x0.Cursor, nI ((gt x0.Store.Segments (x0.Cursor.toNat)).length), .slice A330 x1.length c331, .slice none 0 0, .slice none 0 0]) rfl (by kernel_rfl)) ?_
   refine qoD 12 10 2047 rfl ?_
   refine Qbm Qcs rfl (Qk rfl) (by decide) (fun p334 => ?_)
   refine qnD (pn 13 [2, 3, 4, 5, 6, 7, 8, 9, 10, 11, 12]) (pn 13 [2, 3, 4, 5, 6, 7, 8, 9, 10, 11, 12]) ?_
   exact Qel sl6 idM (H (A330, c331, p334))
  refine qcD 12 1279 rfl ?_ ?_
  ·
   refine Qbm Qcs rfl (Qk rfl) (by decide) (fun p335 => ?_)
   refine qnD (pn 13 [2, 3, 4, 5, 6, 7, 8, 9, 10, 11, 12]) (pn 13 [2, 3, 4, 5, 6, 7, 8, 9, 10, 11, 12]) ?_
   refine qoD 12 8 1535 rfl ?_
   refine apR Qa Qa 3 (.slice (sA p327) 0 0) [] x1 (Qh p335 102 K5 :: J51) (fun W hm => (hm.front (n := 1) rfl)) (fun W hm => Qdi Qcv (hm.rdSI (n := 12) rfl)) Qq Qf (show (0 + x1.length) * 8 ≤ 140737488355328 from by omega) (fun v336 => ?_)
   refine fm 0 ?_
   rintro A337 c338 rfl m339
   refine qnD (pn 13 [2, 3, 4, 5, 6, 7, 8, 9, 10, 11, 12]) (pn 13 [2, 3, 4, 5, 6, 7, 8, 9, 10, 11, 12]) ?_
   refine qtD 12 9 2047 rfl (fun W hm => Qef (cs := [iV x0.Cursor, nI ((gt x0.Store.Segments (x0.Cursor.toNat)).length), .slice A337 x1.length c338, .slice none 0 0, .slice none 0 0]) rfl (by kernel_rfl)) ?_
   exact Qel sl6 (pn 13 [1, 0, 2, 3, 4, 5, 6, 7, 8, 9, 10, 11, 12]) (H (A337, c338, p335))
  exact Qfm
 refine qcD 12 1215 rfl ?_ ?_
 ·
  refine Qbm Qcs rfl (Qk rfl) (by decide) (fun p341 => ?_)
  refine qnD (pn 12 [1, 2, 3, 4, 5, 6, 7, 8, 9, 10, 11]) (pn 12 [1, 2, 3, 4, 5, 6, 7, 8, 9, 10, 11]) ?_
  refine qoD 12 6 1279 rfl ?_
  refine Qcf (E := Qa) Qq Qf (Qk rfl) (by decide) (fun p342 => ?_)
  refine qnD (pn 13 [2, 3, 4, 5, 6, 7, 8, 9, 10, 11, 12]) (pn 13 [2, 3, 4, 5, 6, 7, 8, 9, 10, 11, 12]) ?_
  refine qoD 12 8 1535 rfl ?_
  refine apR Qa Qa 3 (.slice (sA p342) 0 0) [] x1 (Qh p341 102 K5 :: J51) (fun W hm => (hm.front (n := 0) rfl)) (fun W hm => Qdi Qcv (hm.rdSI (n := 12) rfl)) Qq Qf (show (0 + x1.length) * 8 ≤ 140737488355328 from by omega) (fun v344 => ?_)
  refine fm 0 ?_
  rintro A345 c346 rfl m347
  refine qnD (pn 13 [2, 3, 4, 5, 6, 7, 8, 9, 10, 11, 12]) (pn 13 [2, 3, 4, 5, 6, 7, 8, 9, 10, 11, 12]) ?_
  refine qtD 12 9 2047 rfl (fun W hm => Qef (cs := [iV x0.Cursor, nI ((gt x0.Store.Segments (x0.Cursor.toNat)).length), .slice A345 x1.length c346, .slice none 0 0, .slice none 0 0]) rfl (by kernel_rfl)) ?_
  exact Qel sl6 (pn 13 [1, 0, 2, 3, 4, 5, 6, 7, 8, 9, 10, 11, 12]) (H (A345, c346, p341))
 exact Qfm

end Go.Proofs.YtdlminfjdodjoaaGreat
