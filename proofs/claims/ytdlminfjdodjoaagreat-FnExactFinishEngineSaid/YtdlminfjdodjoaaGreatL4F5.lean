/-
  Contracts of functions, printed by a program of ours.
-/
import Derived.Test.YtdlminfjdodjoaaGreatL4F4
namespace Go.Proofs.YtdlminfjdodjoaaGreat
open Go.RowKit
set_option maxRecDepth 100000
set_option maxHeartbeats 4000000
open _root_.Go.Proofs.Tryz
def Qxz (x0 : Qau) (k9 : Nat) (s10 : Int) : Int ⊕ (Int) :=
 Sum.inr (IntKind.i64.wrap (s10 + ((((gt x0.Segments k9)).length : Nat) : Int)))
def Qok (x0 : Qau) : Int :=
 Sum.elim id (fun (s : Int) => s) (rng (R := Int) (fun k (s : Int) => Qxz x0 k s) (x0.Segments.length - 0) 0 0)
theorem Qaec : Cb Tryz.prog 197 := ⟨f197, _, func197, rfl, by decide⟩
theorem Qafe (w : World) (z0 : List Value) (x0 : Qau) (r_0 : Qdm.rd w w.heap.size z0 x0) :
  Calls Tryz.prog 197 #[.agg z0.toArray] w (rI w (Qok x0)) := by
 obtain ⟨v1, rfl, r2⟩ := Qjs r_0
 obtain ⟨m3, A4, c5, rfl, q6, r7⟩ := Qi r2
 refine ce1 (L := [(0, .agg #[.slice A4 x0.Segments.length c5, iV x0.Now])]) (N := 19) func197 ?_
 refine sr ?_
 refine Qbn rfl (Qk rfl) (by decide) (fun p8 => ?_)
 refine wa (nt' (sr (wa (nt' (Qe (sr ?_))))))
 refine wv (vf Qbw rfl Qea) ?_
 refine wv (vl 0 0 Qbz) ?_
 refine wv (Qag Qbz) ?_
 refine wm (nt' (Qx ?_))
 refine Qbg (S := Int) (R := Unit) (fun k (s : Int) => Qxz x0 k s) x0.Segments.length 0 0 () (fun s => [(3, iV s.2.1), (7, .slice A4 x0.Segments.length c5), (8, nI x0.Segments.length), (9, nI s.1)]) (fun s => [Qh p8 34 [.slice A4 x0.Segments.length c5, iV x0.Now]]) (fun s => True) sl4 trivial ?_
 rintro ⟨k9, s10, ⟨⟩⟩ H13 _ _ e e'
 dsimp only at H13 ⊢
 subst e e'
 obtain ⟨hk11, hF12, _⟩ := H13
 refine sr ?_
 refine wv Qai ?_
 refine nt' (Qe ?_)
 rcases dcl k9 x0.Segments.length with ⟨hl14, g15⟩ | ⟨hl14, g15⟩
 ·
  refine Ql rfl g15 ?_
  refine Qp (Qd (Qe (Qx (sr ?_))))
  obtain ⟨a16, rfl, hb17, he18⟩ := q6 (by omega)
  refine wv (vix 1 k9 Qbz Qfl) ?_
  obtain ⟨_, e20, hc19⟩ := he18 k9 _ (Qbs (show k9 < x0.Segments.length from by omega))
  obtain ⟨v21, rfl, r22⟩ := e20
  obtain ⟨m23, A24, c25, rfl, q26, r27⟩ := Qi r22
  refine wv (fun W hm => Qaw Qbv rfl rfl ((hm.cell0 (show (a16.add (k9 * 1)).block < w.heap.size from by rw [Qae]; exact hb17.1)).trans (hc19 0 _ rfl))) ?_
  refine wa (nt' (Qy (wm (wm ?_))))
  refine wv (Qag Qbv) ?_
  refine wv Qcy ?_
  refine wa (Qac (Qam (Qd (Qy ?_))))
  refine wv (Qal k9 1 (by omega)) ?_
  refine wm (Qac ?_)
  exact Qan (k9 + 1, (IntKind.i64.wrap (s10 + ((((gt x0.Segments k9)).length : Nat) : Int))), ()) sl4 idM ⟨(by omega), nx hF12 (rfl), trivial⟩ rl
 refine Qm rfl g15 ?_
 refine Qay (Qu (Qu ?_))
 have hE29 := Qbh hl14 hF12
 refine Qaz (Qd (sr (wm (wa (nt' (Qj ?_))))))
 exact rti (h := Qar hE29 (rfl))

def Qyh (x1 : (List Int)) (k26 : Nat) (d27 : (List (List Qt))) (k43 : Nat) (d44 : (List Qt)) : (Qau × Int) ⊕ ((List Qt)) :=
 cond (Qru (gt (gt d27 k26) k43) x1) (Sum.inr (d44 ++ [(gt (gt d27 k26) k43)])) (Sum.inr d44)
def Qui (x1 : (List Int)) (k26 : Nat) (d27 : (List (List Qt))) : (Qau × Int) ⊕ ((List (List Qt))) :=
 Sum.elim Sum.inl (fun (s : (List Qt)) => Sum.inr (d27.set k26 s)) (rng (R := (Qau × Int)) (fun k (s : (List Qt)) => Qyh x1 k26 d27 k s) ((gt d27 k26).length - 0) 0 [])
def Qgs (x0 : Qau) (x1 : (List Int)) : (Qau × Int) :=
 cond (Qlr x0) (Sum.elim id (fun (s : (List (List Qt))) => ((⟨s, x0.Now⟩ : Qau), (IntKind.i64.wrap ((Qok x0) - (Qok (⟨s, x0.Now⟩ : Qau)))))) (rng (R := (Qau × Int)) (fun k (s : (List (List Qt))) => Qui x1 k s) (x0.Segments.length - 0) 0 x0.Segments)) (x0, 0)
theorem Qanx : Cb Tryz.prog 145 := ⟨f145, _, func145, rfl, by decide⟩
theorem Qasw (w : World) (z0 : List Value) (x0 : Qau) (z1 : Value) (x1 : (List Int)) (r_0 : Qdm.rd w w.heap.size z0 x0) (r_1 : rdS Qa w w.heap.size z1 x1) (s_0 : Qgh 68719476736 x0) (s_1 : x1.length ≤ 68719476736) :
  Calls Tryz.prog 145 #[.agg z0.toArray, z1] w fun e w' => ∃ v : List Value, e = .returned (.tuple #[.agg v.toArray, iV ((Qgs x0 x1).2)]) ∧ Mem w.heap.size w [Qn Qdm v (Qgs x0 x1).1] w' := by
 obtain ⟨v1, rfl, r2⟩ := Qjs r_0
 obtain ⟨m3, A4, c5, rfl, q6, r7⟩ := Qi r2
 obtain ⟨m8, A9, c10, rfl, q11, r12⟩ := Qi r_1
 have l13 : x0.Segments.length ≤ 68719476736 := s_0.1
 have l14 : x1.length ≤ 68719476736 := s_1
 refine ce2 (L := [(0, .agg #[.slice A4 x0.Segments.length c5, iV x0.Now]), (1, .slice A9 x1.length c10)]) (N := 53) func145 ?_
 refine sr ?_
 refine Qbn rfl (Qk rfl) (by decide) (fun p15 => ?_)
 refine Qbm Qbt rfl (Qk rfl) (by decide) (fun p16 => ?_)
 refine wa (nt' (sr ?_))
 refine wv (fun W hm => Qad (cs := [.slice A4 x0.Segments.length c5, iV x0.Now]) Qbw Qbt rfl rfl (hm.boxCells (n := 1) rfl)) ?_
 refine wcs Qdm x0 (Qr Qxm rfl) (fun W hm => Qyw W _ x0 (Qgc (x := x0) (hm.rdS0 r7)) s_0) (fun z17 => ?_)
 refine Qjt ?_
 rintro v18 rfl
 refine fm 0 ?_
 rintro A19 c20 rfl m21
 refine Qbm Qbt rfl (Qk rfl) (by decide) (fun p23 => ?_)
 let I3 : It := iS (tSl Qaf 163) 100 A19 c20 x0.Segments
 let I4 : It := Qh p15 34 [.slice A4 x0.Segments.length c5, iV x0.Now]
 let J10 : List It := [Qh p16 34 [.slice none 0 0, iV 0], I4]
 refine sb 0 [.slice A19 x0.Segments.length c20, iV x0.Now] (I3 :: J10) idM Qbt ?_
 refine nt' (Qe (sr ?_))
 refine wv (fun W hm => Qad (cs := [.slice A4 x0.Segments.length c5, iV x0.Now]) Qbw Qbt rfl rfl (hm.boxCells (n := 3) rfl)) ?_
 refine wcv (Qr Qadf rfl) (fun W hm => Qafh W _ x0 (Qgc (x := x0) (hm.rdS0 r7)) s_0) ?_
 refine wv Qbr ?_
 refine nt' ?_
 rcases bd (Qlr x0) with g25 | g25
 ·
  refine Qm rfl (nt g25) ?_
  refine Qp (Qd (Qe (sr ?_)))
  refine wv (vf Qbw rfl Qea) ?_
  refine wv (vl 0 0 Qbz) ?_
  refine wv (Qag Qbz) ?_
  refine wm (nt' (Qx ?_))
  let I5 : It := Qh p23 34 [.slice A19 x0.Segments.length c20, iV x0.Now]
  refine Qbg (S := (List (List Qt))) (R := Unit) (fun k (s : (List (List Qt))) => Qui x1 k s) x0.Segments.length 0 x0.Segments () (fun s => [(1, .slice A9 x1.length c10), (2, bp p15), (4, bp p16), (6, bp p23), (19, .slice A19 x0.Segments.length c20), (20, nI x0.Segments.length), (21, nI s.1)]) (fun s => (I5 :: Qn (tSl (tSl Qaf 163) 100) [.slice A19 x0.Segments.length c20] s.2.1 :: J10)) (fun s => ∀ j, s.1 ≤ j → gt s.2.1 j = gt x0.Segments j) sl7 (fun _ _ => rfl) ?_
  rintro ⟨k26, d27, ⟨⟩⟩ H30 _ _ e e'
  dsimp only at H30 ⊢
  subst e e'
  obtain ⟨hk28, hF29, hi31⟩ := H30
  refine sr ?_
  refine wv Qai ?_
  refine nt' (Qe ?_)
  rcases dcl k26 x0.Segments.length with ⟨hl32, g33⟩ | ⟨hl32, g33⟩
  ·
   have hq1 : (gt d27 k26).length ≤ 68719476736 := by rw [hi31 k26 (Nat.le_refl _)]; exact (s_0.2 _ (Qak (by omega))).1
   refine Ql rfl g33 ?_
   refine Qp (Qd (Qe (Qx (sr (wm ?_)))))
   refine Qhy (n := 1) rfl (by omega) ?_
   rintro g34 rfl
   refine wv (vix 1 k26 Qbz Qfl) ?_
   let K1 : List Value := [.slice (sA g34) x0.Segments.length c20, iV x0.Now]
   let J11 : List It := Qh p23 34 K1 :: J10
   refine Qjx (E := (tSl Qaf 163)) (e := 100) (A := (sA g34)) (n := x0.Segments.length) (c := c20) (xs := d27) (k := k26) (js := J11) (by omega) (pk [1, 0, 2, 3]) (fun ck35 => ?_)
   refine Qiw (γ := Value) (js := fun g => [Qn (tSl Qaf 163) [g] (gt d27 k26)]) (C := fun g => ck35 = [g]) (fun _ _ h => Qwa h) ?_
   rintro v36 rfl
   refine fm 0 ?_
   rintro A37 c38 rfl m39
   refine wv (fun W hm => Qaw Qbv rfl rfl (hm.focInt (i := 1) rfl rfl)) ?_
   refine wa (wa (nt' (sr ?_)))
   refine Qcf (E := Qaf) Qbv Qbo (Qk rfl) (by decide) (fun p41 => ?_)
   refine wa (nt' (Qe (sr (wm ?_))))
   refine wv (Qag Qbv) ?_
   refine wm (nt' (Qx ?_))
   refine Qdw (fun W hm => Mem.toRest (hm.pick [1, 0, 2, 3, 4, 5] (by decide))) ?_
   refine Qbg (S := (List Qt)) (R := Option Addr × Nat) (fun k (s : (List Qt)) => Qyh x1 k26 d27 k s) ((gt d27 k26).length) 0 [] ((sA p41), 0) (fun s => [(1, .slice A9 x1.length c10), (2, bp p15), (4, bp p16), (6, bp p23), (7, nI k26), (9, .slice s.2.2.1 s.2.1.length s.2.2.2), (19, .slice (sA g34) x0.Segments.length c20), (20, nI x0.Segments.length), (21, nI k26), (27, .slice A37 (gt d27 k26).length c38), (28, nI ((gt d27 k26).length)), (29, nI s.1)]) (fun s => (Qhi Qaf 163 A37 ((gt d27 k26).length) (gt d27 k26) s.1 :: iS Qaf 163 s.2.2.1 s.2.2.2 s.2.1 :: Qdf (tSl Qaf 163) 100 (sA g34) x0.Segments.length c20 d27 k26 [.slice A37 (gt d27 k26).length c38] :: J11)) (fun s => s.2.1.length ≤ 0 + s.1) Qkc (Nat.le_refl _) ?_
   rintro ⟨k43, d44, ⟨A45, c46⟩⟩ H49 _ _ e e'
   dsimp only at H49 ⊢
   subst e e'
   obtain ⟨hk47, hF48, hi50⟩ := H49
   refine sr ?_
   refine wv Qai ?_
   refine nt' (Qe ?_)
   rcases dcl k43 ((gt d27 k26).length) with ⟨hl51, g52⟩ | ⟨hl51, g52⟩
   ·
    refine Ql rfl g52 ?_
    refine Qp (Qd (Qe (Qx (sr ?_))))
    refine Qrm (n := 0) rfl (by omega) ?_
    rintro g53 rfl
    refine wv (vix 4 k43 Qbv Qbo) ?_
    let I6 : It := Qdf (tSl Qaf 163) 100 (sA g34) x0.Segments.length c20 d27 k26 [.slice (sA g53) (gt d27 k26).length c38]
    refine Qrn (E := Qaf) (e := 163) (A := (sA g53)) (n := (gt d27 k26).length) (xs := (gt d27 k26)) (k := k43) (js := (iS Qaf 163 A45 c46 d44 :: I6 :: J11)) (by omega) idM (fun ck54 => ?_)
    refine Qte ?_
    rintro v55 rfl
    refine fm 0 ?_
    rintro A56 c57 rfl m58
    let K2 : List Value := [iV ((gt (gt d27 k26) k43).Id), .slice A56 ((gt (gt d27 k26) k43).Values).length c57, iV ((gt (gt d27 k26) k43).Born), iV ((gt (gt d27 k26) k43).Died)]
    refine wv (fun W hm => Qad (cs := K2) Qbp Qbo rfl rfl (hm.restCells (i := 1) rfl rfl)) ?_
    refine Qbm Qbo rfl (Qk rfl) (by decide) (fun p60 => ?_)
    let I7 : It := Qip Qaf 163 (sA g53) ((gt d27 k26).length) (gt d27 k26) k43 K2
    refine sb 0 K2 (iS Qa 3 A56 c57 ((gt (gt d27 k26) k43).Values) :: I7 :: iS Qaf 163 A45 c46 d44 :: I6 :: J11) idM Qbo ?_
    refine nt' (sr ?_)
    refine wv (fun W hm => Qad (cs := K2) Qbp Qbo rfl rfl (hm.boxCells (n := 0) rfl)) ?_
    refine wm ?_
    refine wcv (Qr Qaov rfl) (fun W hm => Qauc W _ (gt (gt d27 k26) k43) _ x1 (Qgy (x := (gt (gt d27 k26) k43)) (hm.rdSI (n := 1) rfl)) (hm.rdS0 r12)) ?_
    refine nt' ?_
    rcases bd (Qru (gt (gt d27 k26) k43) x1) with g62 | g62
    ·
     refine Ql rfl g62 ?_
     refine Qy (wm ?_)
     refine wv (fun W hm => Qad (cs := K2) Qbp Qbo rfl rfl (hm.boxCells (n := 0) rfl)) ?_
     refine Qde (cs := K2) Qbv Qbo rfl (by decide) (by decide) rfl (by kernel_rfl) (Qk rfl) (by decide) (fun p63 => ?_)
     refine ap1 Qaf 163 (.slice A45 d44.length c46) d44 (gt (gt d27 k26) k43) [iS Qa 3 A56 c57 ((gt (gt d27 k26) k43).Values)] (Qh p60 163 K2 :: I7 :: I6 :: J11) K2 (pk [0, 4, 2, 1, 3, 5, 6, 7, 8]) (fun _ _ hs => Els.single (Qlh (x := (gt (gt d27 k26) k43)) hs)) Qbv Qbo (show (d44.length + 1) * 48 ≤ 140737488355328 from by omega) (fun v64 => ?_)
     refine fm 0 ?_
     rintro A65 c66 rfl m67
     refine wa (Qac (Qam (Qd (Qy ?_))))
     refine wv (Qal k43 1 (by omega)) ?_
     refine wm (Qac ?_)
     refine Qdd (fun W hm => Mem.restNext (hm.pick [2, 0, 1, 3, 4, 5, 6] (by decide))) ?_
     exact Qan (k43 + 1, (d44 ++ [(gt (gt d27 k26) k43)]), (A65, c66)) Qkc (pk [0, 1, 3, 4, 5, 6]) ⟨(by omega), nx hF48 (Qb g62 (rfl)), (show (d44 ++ [(gt (gt d27 k26) k43)]).length ≤ 0 + (k43 + 1) from by first | omega | (simp only [List.length_append, List.length_cons, List.length_nil] at *; omega))⟩ (show (gt d27 k26).length - (k43 + 1) < (gt d27 k26).length - k43 from by omega)
    refine Qm rfl g62 ?_
    refine Qp (Qam (Qd (Qy ?_)))
    refine wv (Qal k43 1 (by omega)) ?_
    refine wm (Qac ?_)
    refine Qdd (fun W hm => Mem.restNext (hm.pick [2, 0, 1, 3, 4, 5, 6, 7] (by decide))) ?_
    exact Qan (k43 + 1, d44, (A45, c46)) Qkc (pk [0, 3, 4, 5, 6, 7]) ⟨(by omega), nx hF48 (Qc g62 (rfl)), (show d44.length ≤ 0 + (k43 + 1) from by first | omega | (simp only [List.length_append, List.length_cons, List.length_nil] at *; omega))⟩ (show (gt d27 k26).length - (k43 + 1) < (gt d27 k26).length - k43 from by omega)
   refine Qm rfl g52 ?_
   refine Qay (Qu (Qu ?_))
   have hE71 := Qbh hl51 hF48
   refine Qaz (Qd (Qy ?_))
   refine wv (vf Qbw rfl Qea) ?_
   refine wv (vl 3 0 Qbz) ?_
   refine wm (wm ?_)
   refine wv (vix 1 k26 Qbz Qfl) ?_
   let I8 : It := Qhi Qaf 163 A37 ((gt d27 k26).length) (gt d27 k26) k43
   refine sf 0 1 [.slice A45 d44.length c46] (I8 :: iS Qaf 163 A45 c46 d44 :: J11) (pk [2, 0, 1, 3, 4, 5]) Qfl ?_
   refine Qac (Qam (Qd (Qy ?_)))
   refine wv (Qal k26 1 (by omega)) ?_
   refine wm (Qac ?_)
   refine Qdd (fun W hm => Mem.unfocus (Mem.join (is := [iS Qaf 163 A45 c46 d44]) (js := (Qdf (tSl Qaf 163) 100 (sA g34) x0.Segments.length c20 d27 k26 [.slice A45 d44.length c46] :: (I8 :: J11))) (fun _ _ hs => Sep.one hs) (hm.pick [2, 0, 1, 3, 4, 5] (by decide)))) ?_
   exact Qan (k26 + 1, (d27.set k26 d44), ()) sl7 (pk [2, 0, 3, 4]) ⟨(by omega), nx hF29 (Qar hE71 (rfl)), (show ∀ j, (k26 + 1) ≤ j → gt (d27.set k26 d44) j = gt x0.Segments j from by intro j hj; rw [Qoj (by omega)]; exact hi31 j (by omega))⟩ rl
  refine Qm rfl g33 ?_
  refine Qay (Qu (Qu ?_))
  have hE73 := Qbh hl32 hF29
  refine Qaz (Qd (Qe ?_))
  let I9 : It := Qn (tSl (tSl Qaf 163) 100) [.slice A19 x0.Segments.length c20] d27
  refine rb 8 (s := [I5, I9, I4]) (pk [0, 1, 3]) ?_
  refine qt 8 0 1 rfl (fun W hm => Qad (cs := [.slice A19 x0.Segments.length c20, iV x0.Now]) Qbw Qbt rfl rfl (hm.boxCells (n := 0) rfl)) ?_
  refine qt 8 1 3 rfl (fun W hm => Qad (cs := [.slice A4 x0.Segments.length c5, iV x0.Now]) Qbw Qbt rfl rfl (hm.boxCells (n := 2) rfl)) ?_
  refine qt 8 3 11 rfl (fun W hm => Qad (cs := [.slice A19 x0.Segments.length c20, iV x0.Now]) Qbw Qbt rfl rfl (hm.boxCells (n := 0) rfl)) ?_
  refine qo 8 2 15 rfl ?_
  refine wcv (Qr Qaec rfl) (fun W hm => Qafe W _ x0 (Qgc (x := x0) (hm.rdS0 r7))) ?_
  refine qn (pk [0, 1, 3]) ?_
  refine qo 8 4 31 rfl ?_
  refine wcv (Qr Qaec rfl) (fun W hm => Qafe W _ (⟨d27, x0.Now⟩ : Qau) (Qgc (x := (⟨d27, x0.Now⟩ : Qau)) (hm.rdSI (n := 1) rfl))) ?_
  refine qn (pk [0, 1, 3]) ?_
  refine qt 8 5 63 rfl (fun W hm => Qik rfl rfl) ?_
  refine qo 8 6 127 rfl ?_
  refine sb 0 [.slice A19 x0.Segments.length c20, iV x0.Now] [I5, I9, I4] (pk [2, 0, 1, 3]) Qbt ?_
  refine qn (pk [1, 2, 3]) ?_
  refine qt 8 7 255 rfl (fun W hm => Qjd rfl) ?_
  refine Qed (by kernel_rfl) ?_
  refine Qd (Qj ?_)
  have he74 := (show Qgs x0 x1 = ((⟨d27, x0.Now⟩ : Qau), (IntKind.i64.wrap ((Qok x0) - (Qok (⟨d27, x0.Now⟩ : Qau))))) from Qb g25 (Qar hE73 (rfl)))
  refine Qic rfl (Qdp (n := 0) rfl rfl Qbw Qbt rfl) (Qdl rfl) (fun W hm => ⟨[.slice A19 x0.Segments.length c20, iV x0.Now], ?_, ?_⟩)
  ·first | rw [he74] | rfl
   try rfl
  rw [he74]; exact Mem.join (is := [I9]) (js := []) (fun _ _ hs => Qmw (x := (⟨d27, x0.Now⟩ : Qau)) hs) (hm.pick [2] (by decide))
 refine Ql rfl (nf g25) ?_
 refine sr ?_
 refine wv (fun W hm => Qad (cs := [.slice A19 x0.Segments.length c20, iV x0.Now]) Qbw Qbt rfl rfl (hm.boxCells (n := 0) rfl)) ?_
 refine sb 0 [.slice A19 x0.Segments.length c20, iV x0.Now] [Qh p23 34 [.slice A19 x0.Segments.length c20, iV x0.Now], I3, I4] (pk [2, 0, 1, 3]) Qbt ?_
 refine wa (nt' (Qj (Qg ?_)))
 have he75 := (show Qgs x0 x1 = (x0, 0) from Qc g25 (rfl))
 refine Qic rfl (Qdp (n := 0) rfl rfl Qbw Qbt rfl) (Qdl rfl) (fun W hm => ⟨[.slice A19 x0.Segments.length c20, iV x0.Now], ?_, ?_⟩)
 ·first | rw [he75] | rfl
  try rfl
 rw [he75]; exact Mem.join (is := [I3]) (js := []) (fun _ _ hs => Qmw (x := x0) hs) (hm.pick [2] (by decide))

def Quq (x0 : Qo) (k32 : Nat) (d33 : (List Int)) : Qo ⊕ ((List Int)) :=
 Sum.inr (d33 ++ [(gt x0.Active k32).Time])
def Qfw (x0 : Qo) : Qo :=
 Sum.elim id (fun (s : (List Int)) => (⟨((Qgs x0.Store s).1), x0.Cursor, x0.Order, x0.Active, x0.Done, x0.Ledger, x0.Steps⟩ : Qo)) (rng (R := Qo) (fun k (s : (List Int)) => Quq x0 k s) (x0.Active.length - 0) 0 [])
theorem cb72 : Cb Tryz.prog 72 := ⟨f72, _, func72, rfl, by decide⟩
theorem Qaue (B : Nat) (w0 : World) (is : List It) (w : World) (z0 : List Value) (x0 : Qo) (s_0 : Qgh 68719476736 x0.Store ∧ x0.Active.length ≤ 68719476736) (hm : Mem B w0 (Qn Qcb z0 x0 :: is) w) :
  Calls Tryz.prog 72 #[.agg z0.toArray] w fun e w' => ∃ v : List Value, e = .returned (.agg v.toArray) ∧ Mem B w0 (Qn Qcb v (Qfw x0) :: is) w' := by
 refine Qif (L := [(0, .agg z0.toArray)]) (N := 29) func72 rfl rfl (Nat.le_of_ble_eq_true rfl) (Qec rfl Qha) hm ?_
 refine Qjw (γ := Value × Value × Value × Value × Value) (js := fun g => [Qn (tSl (tSl Qaf 163) 100) [g.1] x0.Store.Segments, Qn (tSl Qa 3) [g.2.1] x0.Order, Qn (tSl Qah 61) [g.2.2.1] x0.Active, Qn (tSl Qas 80) [g.2.2.2.1] x0.Done, Qn (tSl Qaq 102) [g.2.2.2.2] x0.Ledger]) (C := fun g => z0 = [g.1, iV x0.Store.Now, iV x0.Cursor, g.2.1, g.2.2.1, g.2.2.2.1, g.2.2.2.2, iV x0.Steps]) (fun _ _ h => Qrd h) ?_
 rintro ⟨v1, v2, v3, v4, v5⟩ rfl
 refine Qdc (n := 0) rfl ?_
 rintro A6 c7 rfl m8
 refine Qdc (n := 1) rfl ?_
 rintro A10 c11 rfl m12
 refine Qdc (n := 2) rfl ?_
 rintro A14 c15 rfl m16
 refine Qdc (n := 3) rfl ?_
 rintro A18 c19 rfl m20
 refine Qdc (n := 4) rfl ?_
 rintro A22 c23 rfl m24
 have l26 : x0.Store.Segments.length ≤ 68719476736 := s_0.1.1
 have l27 : x0.Active.length ≤ 68719476736 := s_0.2
 refine sr ?_
 refine Qbn rfl (Qk rfl) (by decide) (fun p28 => ?_)
 refine Qbm Qbd rfl (Qk rfl) (by decide) (fun p29 => ?_)
 refine nt' (sr ?_)
 refine Qcf (E := Qa) Qq Qf (Qk rfl) (by decide) (fun p30 => ?_)
 refine wa (nt' (Qe (sr ?_)))
 refine wv (vf Qz rfl Qcw) ?_
 refine wv (vl 2 4 Qax) ?_
 refine wv (Qag Qax) ?_
 refine wm (nt' (Qx ?_))
 let K1 : List Value := [.slice none 0 0, iV 0, iV 0, .slice none 0 0, .slice none 0 0, .slice none 0 0, .slice none 0 0, iV 0]
 let I5 : It := iS (tSl Qaf 163) 100 A6 c7 x0.Store.Segments
 let J9 : List It := iS Qas 80 A18 c19 x0.Done :: iS Qaq 102 A22 c23 x0.Ledger :: is
 refine Qbg (S := (List Int)) (R := Option Addr × Nat) (fun k (s : (List Int)) => Quq x0 k s) x0.Active.length 0 [] ((sA p30), 0) (fun s => [(1, bp p28), (2, bp p29), (3, .slice s.2.2.1 s.2.1.length s.2.2.2), (8, .slice A14 x0.Active.length c15), (9, nI x0.Active.length), (10, nI s.1)]) (fun s => (iS Qa 3 s.2.2.1 s.2.2.2 s.2.1 :: Qh p29 39 K1 :: Qh p28 39 [.slice A6 x0.Store.Segments.length c7, iV x0.Store.Now, iV x0.Cursor, .slice A10 x0.Order.length c11, .slice A14 x0.Active.length c15, .slice A18 x0.Done.length c19, .slice A22 x0.Ledger.length c23, iV x0.Steps] :: I5 :: iS Qa 3 A10 c11 x0.Order :: iS Qah 61 A14 c15 x0.Active :: J9)) (fun s => s.2.1.length ≤ 0 + s.1) sl6 (Nat.le_refl _) ?_
 rintro ⟨k32, d33, ⟨A34, c35⟩⟩ H38 _ _ e e'
 dsimp only at H38 ⊢
 subst e e'
 obtain ⟨hk36, hF37, hi39⟩ := H38
 refine sr ?_
 refine wv Qai ?_
 refine nt' (Qe ?_)
 rcases dcl k32 x0.Active.length with ⟨hl40, g41⟩ | ⟨hl40, g41⟩
 ·
  refine Ql rfl g41 ?_
  refine Qp (Qd (Qe (Qx (sr ?_))))
  refine Qhy (n := 5) rfl (by omega) ?_
  rintro g42 rfl
  refine wv (vix 10 k32 Qax Qbe) ?_
  let K2 : List Value := [.slice A6 x0.Store.Segments.length c7, iV x0.Store.Now, iV x0.Cursor, .slice A10 x0.Order.length c11, .slice (sA g42) x0.Active.length c15, .slice A18 x0.Done.length c19, .slice A22 x0.Ledger.length c23, iV x0.Steps]
  let J10 : List It := Qh p29 39 K1 :: Qh p28 39 K2 :: I5 :: iS Qa 3 A10 c11 x0.Order :: J9
  refine Qjx (E := Qah) (e := 61) (A := (sA g42)) (n := x0.Active.length) (c := c15) (xs := x0.Active) (k := k32) (js := (iS Qa 3 A34 c35 d33 :: J10)) (by omega) (fun W hm => (hm.front (n := 5) rfl)) (fun ck43 => ?_)
  refine Qof ?_
  rintro ⟨v44, v45, v46, v47⟩ rfl
  refine fm 0 ?_
  rintro A48 c49 rfl m50
  refine fm 1 ?_
  rintro A52 c53 rfl m54
  refine fm 2 ?_
  rintro A56 c57 rfl m58
  refine fm 3 ?_
  rintro A60 c61 rfl m62
  let K3 : List Value := [iV ((gt x0.Active k32).Query.Id), iV ((gt x0.Active k32).Query.Tenant), .slice A48 ((gt x0.Active k32).Query.Conds).length c49, .slice A52 ((gt x0.Active k32).Query.Out).length c53, iV ((gt x0.Active k32).Time), .slice A56 ((gt x0.Active k32).Todo).length c57, iV ((gt x0.Active k32).Age), iV ((gt x0.Active k32).Sent), iV ((gt x0.Active k32).Cap), .slice A60 ((gt x0.Active k32).Rows).length c61]
  refine wv (fun W hm => Qad (cs := K3) Qaj Qbe rfl rfl (hm.focCells (i := 4) rfl rfl)) ?_
  refine Qbm Qbe rfl (Qk rfl) (by decide) (fun p64 => ?_)
  refine Qgz (p := p64) (o := 0) (cs' := K3) (fun w hm => hm.front (n := 0) rfl) Qbe rfl (Nat.le_of_ble_eq_true rfl) rfl rfl rfl rfl (Qk rfl) ?_
  refine nt' (Qy (wm ?_))
  refine wv (vf Qaj rfl Qf) ?_
  refine wv (vl 0 4 Qs) ?_
  refine Qde (cs := [iV ((gt x0.Active k32).Time)]) Qq Qf rfl (by decide) (by decide) rfl (by kernel_rfl) (Qk rfl) (by decide) (fun p65 => ?_)
  let I6 : It := iS Qbl 180 A48 c49 ((gt x0.Active k32).Query.Conds)
  let I7 : It := iS Qa 3 A52 c53 ((gt x0.Active k32).Query.Out)
  let I8 : It := Qdf Qah 61 (sA g42) x0.Active.length c15 x0.Active k32 K3
  refine ap1 Qa 3 (.slice A34 d33.length c35) d33 ((gt x0.Active k32).Time) [] (Qh p64 61 K3 :: I6 :: I7 :: iS Qa 3 A56 c57 ((gt x0.Active k32).Todo) :: iS Qap 70 A60 c61 ((gt x0.Active k32).Rows) :: I8 :: J10) [iV ((gt x0.Active k32).Time)] (fun W hm => ((hm.front (n := 7) rfl).front (n := 1) rfl)) (fun _ _ hs => by cases (Sep.nil hs); exact (Qhq Qck Qhr)) Qq Qf (show (d33.length + 1) * 8 ≤ 140737488355328 from by omega) (fun v66 => ?_)
  refine fm 0 ?_
  rintro A67 c68 rfl m69
  refine wa (Qac (Qam (Qd (Qy ?_))))
  refine wv (Qal k32 1 (by omega)) ?_
  refine wm (Qac ?_)
  refine Qdd (fun W hm => Mem.unfocus0 (Mem.join (is := [I6, I7, iS Qa 3 A56 c57 ((gt x0.Active k32).Todo), iS Qap 70 A60 c61 ((gt x0.Active k32).Rows)]) (js := (I8 :: (iS Qa 3 A67 c68 (d33 ++ [(gt x0.Active k32).Time]) :: Qh p64 61 K3 :: J10))) (fun _ _ hs => Qho (x := (gt x0.Active k32)) hs) (hm.pickN 13 [2, 3, 4, 5, 6, 0, 1, 7, 8, 9, 10, 11, 12] (by decide)))) ?_
  exact Qan (k32 + 1, (d33 ++ [(gt x0.Active k32).Time]), (A67, c68)) sl6 (pn 9 [1, 3, 4, 5, 6, 0, 7, 8]) ⟨(by omega), nx hF37 (rfl), (show (d33 ++ [(gt x0.Active k32).Time]).length ≤ 0 + (k32 + 1) from by first | omega | (simp only [List.length_append, List.length_cons, List.length_nil] at *; omega))⟩ rl
 refine Qm rfl g41 ?_
 refine Qay (Qu (Qu ?_))
 have hE72 := Qbh hl40 hF37
 refine Qaz (Qd (sr ?_))
 refine wv (vf Qz rfl Qbt) ?_
 refine wv (fun W hm => Qad (cs := [.slice A6 x0.Store.Segments.length c7, iV x0.Store.Now]) Qbw Qbt rfl rfl (hm.boxPart (n := 2) rfl rfl)) ?_
 refine wm ?_
 refine Qoi (χ := List Value) (val := fun x => .tuple #[.agg x.toArray, iV ((Qgs x0.Store d33).2)]) (js := fun x => [Qn Qdm x ((Qgs x0.Store d33).1)]) (Qr Qanx rfl) (fun W hm => Qasw W _ x0.Store _ d33 (Qgc (x := x0.Store) (hm.rdSI (n := 3) rfl)) (hm.rdSI (n := 0) rfl) s_0.1 (show _ ≤ 68719476736 from by omega)) (Qk rfl) (by decide) (fun z73 => ?_)
 refine Qjt ?_
 rintro v74 rfl
 refine fm 0 ?_
 rintro A75 c76 rfl m77
 refine wm ?_
 refine wv (fun W hm => Qlt rfl rfl) ?_
 refine wv (fun W hm => Qlt rfl rfl) ?_
 refine wv (vf Qz rfl Qbt) ?_
 let K4 : List Value := [.slice A75 (((Qgs x0.Store d33).1).Segments).length c76, iV (((Qgs x0.Store d33).1).Now), iV x0.Cursor, .slice A10 x0.Order.length c11, .slice A14 x0.Active.length c15, .slice A18 x0.Done.length c19, .slice A22 x0.Ledger.length c23, iV x0.Steps]
 refine Qgz (p := p28) (o := 0) (cs' := K4) (fun w hm => hm.front (n := 3) rfl) Qbt rfl (Nat.le_of_ble_eq_true rfl) rfl rfl rfl rfl (Qk rfl) ?_
 refine nt' (sr ?_)
 refine wv (fun W hm => Qad (cs := K4) Qz Qbd rfl rfl (hm.boxCells (n := 0) rfl)) ?_
 refine Qgz (p := p29) (o := 0) (cs' := K4) (fun w hm => hm.front (n := 3) rfl) Qbd rfl (Nat.le_of_ble_eq_true rfl) rfl rfl rfl rfl (Qk rfl) ?_
 refine nt' (Qj ?_)
 have he79 := (show Qfw x0 = (⟨((Qgs x0.Store d33).1), x0.Cursor, x0.Order, x0.Active, x0.Done, x0.Ledger, x0.Steps⟩ : Qo) from Qar hE72 (rfl))
 refine Qcu rfl (Qdp (n := 0) rfl rfl Qz Qbd rfl) (fun W hm => ⟨K4, ?_, ?_⟩)
 ·first | rw [he79] | rfl
 rw [he79]; exact Mem.join (is := [iS (tSl Qaf 163) 100 A75 c76 (((Qgs x0.Store d33).1).Segments), iS Qa 3 A10 c11 x0.Order, iS Qah 61 A14 c15 x0.Active, iS Qas 80 A18 c19 x0.Done, iS Qaq 102 A22 c23 x0.Ledger]) (js := is) (fun _ _ hs => Qfk (x := (⟨((Qgs x0.Store d33).1), x0.Cursor, x0.Order, x0.Active, x0.Done, x0.Ledger, x0.Steps⟩ : Qo)) hs) (hm.pickN 9 [2, 5, 6, 7, 8] (by decide))

theorem Qwp (x : Qo) (i : Int) : Qei x i = Qdh x i := rfl
theorem Qalh (x : Qo) : (Qce x).length ≤ x.Active.length := by
  unfold Qce
  cases Qiq x
  · exact Nat.zero_le _
  rw [Qgv (xs := x.Active) (f := fun d a => cond (Qno a && Qhs a.Todo x.Cursor) (d ++ [a.Query.Id]) d) (b := fun k s => Qnn x k s) (fun j s _ => by
    unfold Qnn
    cases Qno (gt x.Active j) <;> cases Qhs (gt x.Active j).Todo x.Cursor <;> rfl), Qlq]
  show ([] ++ _ : List Int).length ≤ _
  rw [List.nil_append, List.length_map]
  exact List.length_filter_le _ _
theorem Qahs (x : Qau) (i : Nat) (t : Int) : Qdk x ((i : Nat) : Int) t = Qht (fun v => Qge v t) (gt x.Segments i) := by
  unfold Qdk
  rw [Int.toNat_natCast]
  rw [Qgv (xs := gt x.Segments i) (f := fun d v => cond (Qge v t) (d ++ [(⟨v.Id, v.Values⟩ : Qab)]) d) (b := fun k s => Qur x ((i : Nat) : Int) t k s) (fun j s _ => by unfold Qur; rw [Int.toNat_natCast]; cases Qge (gt (gt x.Segments i) j) t <;> rfl), Qlq]
  rfl
theorem Qbak (x : Qau) (i : Nat) (t : Int) : (Qdk x ((i : Nat) : Int) t).length ≤ (gt x.Segments i).length := by
  rw [Qahs]; exact Qaan _ _
theorem Qakr {x : Qo} {i : Int} (h : decide (0 ≤ Qdh x i) = false) : ∀ j, j < x.Active.length → (gt x.Active j).Query.Id ≠ i := by
  have h2 := of_decide_eq_false h
  unfold Qdh at h2
  have hr : rng (R := Int) (fun k (_ : Unit) => Qgj x i k) (x.Active.length - 0) 0 () = .inr () := by
    rcases Qsp (P := fun (r : Int) => 0 ≤ r) (n := x.Active.length) (b := fun k (_ : Unit) => Qgj x i k) (fun j hj => by
      show (∃ r, Qgj x i j = _ ∧ _) ∨ Qgj x i j = _
      unfold Qgj
      cases (gt x.Active j).Query.Id == i
      · exact .inr rfl
      exact .inl ⟨_, rfl, Int.natCast_nonneg _⟩) (x.Active.length - 0) 0 (by omega) with ⟨r, e, hp⟩ | e
    · rw [e] at h2
      exact absurd hp h2
    exact e
  intro j hj e
  have hb : Qgj x i j = .inr () := Qaai _ _ hr j (Nat.zero_le _) (by omega)
  unfold Qgj at hb
  rw [beq_iff_eq.2 e] at hb
  cases hb
theorem Qaso (x : Qo) (i : Int) : Qei x i < ((x.Active.length : Nat) : Int) := by
  unfold Qei
  rcases Qsp (P := fun (r : Int) => r < ((x.Active.length : Nat) : Int)) (n := x.Active.length) (b := fun k (_ : Unit) => Qpz x i k) (fun j hj => by
    show (∃ r, Qpz x i j = _ ∧ _) ∨ Qpz x i j = _
    unfold Qpz
    cases (gt x.Active j).Query.Id == i
    · exact .inr rfl
    exact .inl ⟨_, rfl, by omega⟩) (x.Active.length - 0) 0 (by omega) with ⟨r, e, hp⟩ | e
  · rw [e]; exact hp
  rw [e]; show (-1 : Int) < _; omega
theorem Qasm {x : Qo} (h : Qiq x = true) : Eng x := (Qpq x).1 (by rw [← Qrg]; exact h)
theorem Qajl (l : List Int) (c : Int) : Qls l c = l.filter (fun y => y != c) := by
  unfold Qls
  rw [Qgv (xs := l) (f := fun d y => cond (y != c) (d ++ [y]) d) (b := fun k s => Qut l c k s) (fun j s _ => by
    unfold Qut
    cases gt l j != c <;> rfl), Qlq (fun y => y != c) (fun y => y)]
  show [] ++ _ = _
  rw [List.nil_append, List.map_id']
theorem Qbea (l : List Int) (c : Int) : (Qls l c).length ≤ l.length := by
  rw [Qajl]; exact List.length_filter_le _ _
theorem Qahr {x : Qo} (h : Eng x) (t : Int) : (Qdk x.Store x.Cursor t).length ≤ 4 := by
  have hc := h.cur
  rw [show x.Cursor = ((x.Cursor.toNat : Nat) : Int) by omega]
  exact Nat.le_trans (Qbak _ _ _) (((Qki _).1 h.st).2.2.1 _ (Qak (by omega)))
theorem Qale {x : Qo} (_h : Eng x) (y : Int) (hy : y ∈ Qce x) : 0 ≤ Qei x y := by
  rw [Qwp]
  cases hf : decide (0 ≤ Qdh x y) with
  | true => exact of_decide_eq_true hf
  | false =>
    have hn := Qakr hf
    rw [Qacd] at hy
    cases hE : Qiq x <;> rw [hE] at hy
    · cases hy
    obtain ⟨a, ha, rfl⟩ := List.mem_map.1 hy
    obtain ⟨i, hi, rfl⟩ := List.mem_iff_getElem.1 (List.mem_filter.1 ha).1
    exact absurd (by rw [Qdn hi]) (hn i hi)
abbrev Qqd (x0 : Qo) (d116 : (List Qw)) (G128 : Int) (s158 : Int) (d160 : (List Qab)) : (List Qw) :=
 (d116.set (G128.toNat) (⟨(gt d116 (G128.toNat)).Query, (gt d116 (G128.toNat)).Time, (Qls ((gt d116 (G128.toNat)).Todo) x0.Cursor), (gt d116 (G128.toNat)).Age, (IntKind.i64.wrap (((gt d116 (G128.toNat)).Sent) + s158)), (gt d116 (G128.toNat)).Cap, d160⟩ : Qw))
def Qqc (x0 : Qo) (k100 : Nat) (d116 : (List Qw)) (k157 : Nat) (s158 : Int) (d160 : (List Qab)) : (Qo × Bool) ⊕ (Int × (List Qab)) :=
 cond (Qrr ((gt d116 ((Qei x0 (gt (Qce x0) k100)).toNat)).Query) (gt (Qdk x0.Store x0.Cursor ((gt d116 ((Qei x0 (gt (Qce x0) k100)).toNat)).Time)) k157)) (Sum.inr ((IntKind.i64.wrap (s158 + 1)), (d160 ++ [(gt (Qdk x0.Store x0.Cursor ((gt d116 ((Qei x0 (gt (Qce x0) k100)).toNat)).Time)) k157)]))) (Sum.inr (s158, d160))
abbrev Qqe (x0 : Qo) (d105 : (List Int)) (d109 : (List Int)) (d113 : (List Int)) : (List Qbc) :=
 (x0.Ledger ++ [(⟨x0.Cursor, ((((gt x0.Store.Segments (x0.Cursor.toNat))).length : Nat) : Int), d105, d109, d113⟩ : Qbc)])
abbrev Qkn (d116 : (List Qw)) (k231 : Nat) (d236 : (List Qav)) : (List Qav) :=
 (d236 ++ [(⟨(gt d116 k231).Query, (gt d116 k231).Time, (IntKind.i64.wrap (((gt d116 k231).Age) + 1)), (gt d116 k231).Rows⟩ : Qav)])
abbrev Quj (d116 : (List Qw)) (k231 : Nat) (d232 : (List Qw)) : (List Qw) :=
 (d232 ++ [(⟨(gt d116 k231).Query, (gt d116 k231).Time, (gt d116 k231).Todo, (IntKind.i64.wrap (((gt d116 k231).Age) + 1)), 0, (gt d116 k231).Cap, (gt d116 k231).Rows⟩ : Qw)])
abbrev Quk (d116 : (List Qw)) (k231 : Nat) (d232 : (List Qw)) : (List Qw) :=
 (d232 ++ [(⟨(gt d116 k231).Query, (gt d116 k231).Time, (gt d116 k231).Todo, (IntKind.i64.wrap (((gt d116 k231).Age) + 1)), (gt d116 k231).Sent, (gt d116 k231).Cap, (gt d116 k231).Rows⟩ : Qw)])
def Qrs (x0 : Qo) (d116 : (List Qw)) (k231 : Nat) (d232 : (List Qw)) (d236 : (List Qav)) : (Qo × Bool) ⊕ ((List Qw) × (List Qav)) :=
 cond ((Int.tmod (IntKind.i64.wrap (((gt d116 k231).Age) + 1)) ((x0.Store.Segments.length : Nat) : Int)) == 0) (cond (((((gt d116 k231).Todo).length : Nat) : Int) == 0) (Sum.inr (d232, (Qkn d116 k231 d236))) (Sum.inr ((Quj d116 k231 d232), d236))) (cond (((((gt d116 k231).Todo).length : Nat) : Int) == 0) (Sum.inr (d232, (Qkn d116 k231 d236))) (Sum.inr ((Quk d116 k231 d232), d236)))
def Qom (x0 : Qo) (d105 : (List Int)) (d109 : (List Int)) (d113 : (List Int)) : (Qo × Bool) ⊕ (List Qbc) :=
 cond (decide (0 < ((d105.length : Nat) : Int))) (Sum.inr (Qqe x0 d105 d109 d113)) (Sum.inr x0.Ledger)
def Qqb (x0 : Qo) (k100 : Nat) (d105 : (List Int)) (d109 : (List Int)) (d113 : (List Int)) (d116 : (List Qw)) : (Qo × Bool) ⊕ ((List Int) × (List Int) × (List Int) × (List Qw)) :=
 Sum.elim Sum.inl (fun (s : Int × (List Qab)) => Sum.inr ((d105 ++ [(gt (Qce x0) k100)]), (d109 ++ [(gt d116 ((Qei x0 (gt (Qce x0) k100)).toNat)).Query.Tenant]), (d113 ++ [s.1]), (Qqd x0 d116 (Qei x0 (gt (Qce x0) k100)) s.1 s.2))) (rng (R := (Qo × Bool)) (fun k (s : Int × (List Qab)) => Qqc x0 k100 d116 k s.1 s.2) ((Qdk x0.Store x0.Cursor ((gt d116 ((Qei x0 (gt (Qce x0) k100)).toNat)).Time)).length - 0) 0 (0, (gt d116 ((Qei x0 (gt (Qce x0) k100)).toNat)).Rows))
def Qez (x0 : Qo) : (Qo × Bool) :=
 cond (Qiq x0) (cond (x0.Steps == 100000) (x0, false) (cond (((x0.Ledger.length : Nat) : Int) == 1000) (x0, false) (cond (decide (1000 < ((x0.Done.length + x0.Active.length : Nat) : Int))) (x0, false) (Sum.elim id (fun (s1_ : (List Int) × (List Int) × (List Int) × (List Qw)) => Sum.elim id (fun (s101_ : (List Qbc)) => Sum.elim id (fun (s : (List Qw) × (List Qav)) => ((Qfw (⟨x0.Store, (Int.tmod (IntKind.i64.wrap (x0.Cursor + 1)) ((x0.Store.Segments.length : Nat) : Int)), x0.Order, s.1, s.2, s101_, (IntKind.i64.wrap (x0.Steps + 1))⟩ : Qo)), true)) (rng (R := (Qo × Bool)) (fun k (s : (List Qw) × (List Qav)) => Qrs x0 s1_.2.2.2 k s.1 s.2) (x0.Active.length - 0) 0 ([], x0.Done))) ((Qom x0 s1_.1 s1_.2.1 s1_.2.2.1))) (rng (R := (Qo × Bool)) (fun k (s : (List Int) × (List Int) × (List Int) × (List Qw)) => Qqb x0 k s.1 s.2.1 s.2.2.1 s.2.2.2) ((Qce x0).length - 0) 0 ([], [], [], x0.Active)))))) (x0, false)
theorem cb12 : Cb Tryz.prog 12 := ⟨f12, _, func12, rfl, by decide⟩
theorem Qasy (w : World) (z0 : List Value) (x0 : Qo) (r_0 : Qcb.rd w w.heap.size z0 x0) (s_0 : Qen 68719476736 x0) :
  Calls Tryz.prog 12 #[.agg z0.toArray] w fun e w' => ∃ v : List Value, e = .returned (.tuple #[.agg v.toArray, .bool ((Qez x0).2)]) ∧ Mem w.heap.size w [Qn Qcb v (Qez x0).1] w' := by
 obtain ⟨v1, v3, v5, v7, v9, rfl, r2, r4, r6, r8, r10⟩ := Qia r_0
 obtain ⟨m11, A12, c13, rfl, q14, r15⟩ := Qi r2
 obtain ⟨m16, A17, c18, rfl, q19, r20⟩ := Qi r4
 obtain ⟨m21, A22, c23, rfl, q24, r25⟩ := Qi r6
 obtain ⟨m26, A27, c28, rfl, q29, r30⟩ := Qi r8
 obtain ⟨m31, A32, c33, rfl, q34, r35⟩ := Qi r10
 have l36 : x0.Store.Segments.length ≤ 68719476736 := s_0.1.1
 have l37 := s_0.2.1
 have l38 := s_0.2.2.1.1
 have l39 := s_0.2.2.2.1.1
 have l40 := s_0.2.2.2.2.1
 refine ce1 (L := [(0, .agg #[.slice A12 x0.Store.Segments.length c13, iV x0.Store.Now, iV x0.Cursor, .slice A17 x0.Order.length c18, .slice A22 x0.Active.length c23, .slice A27 x0.Done.length c28, .slice A32 x0.Ledger.length c33, iV x0.Steps])]) (N := 204) func12 ?_
 refine sr ?_
 refine Qbn rfl (Qk rfl) (by decide) (fun p41 => ?_)
 refine Qbm Qbd rfl (Qk rfl) (by decide) (fun p42 => ?_)
 refine wa (nt' (sr ?_))
 let K1 : List Value := [.slice A12 x0.Store.Segments.length c13, iV x0.Store.Now, iV x0.Cursor, .slice A17 x0.Order.length c18, .slice A22 x0.Active.length c23, .slice A27 x0.Done.length c28, .slice A32 x0.Ledger.length c33, iV x0.Steps]
 refine wv (fun W hm => Qad (cs := K1) Qz Qbd rfl rfl (hm.boxCells (n := 1) rfl)) ?_
 refine wcs Qcb x0 (Qr cb68 rfl) (fun W hm => Qafk W _ x0 (Qep (x := x0) (hm.rdS0 r15) (hm.rdS0 r20) (hm.rdS0 r25) (hm.rdS0 r30) (hm.rdS0 r35)) s_0) (fun z43 => ?_)
 refine Qhf ?_
 rintro ⟨v44, v45, v46, v47, v48⟩ rfl
 refine fm 0 ?_
 rintro A49 c50 rfl m51
 refine fm 1 ?_
 rintro A53 c54 rfl m55
 refine fm 2 ?_
 rintro A57 c58 rfl m59
 refine fm 3 ?_
 rintro A61 c62 rfl m63
 refine fm 4 ?_
 rintro A65 c66 rfl m67
 refine Qbm Qbd rfl (Qk rfl) (by decide) (fun p69 => ?_)
 let K2 : List Value := [.slice A49 x0.Store.Segments.length c50, iV x0.Store.Now, iV x0.Cursor, .slice A53 x0.Order.length c54, .slice A57 x0.Active.length c58, .slice A61 x0.Done.length c62, .slice A65 x0.Ledger.length c66, iV x0.Steps]
 let K3 : List Value := [.slice none 0 0, iV 0, iV 0, .slice none 0 0, .slice none 0 0, .slice none 0 0, .slice none 0 0, iV 0]
 let I24 : It := iS (tSl Qaf 163) 100 A49 c50 x0.Store.Segments
 refine sb 0 K2 [I24, iS Qa 3 A53 c54 x0.Order, iS Qah 61 A57 c58 x0.Active, iS Qas 80 A61 c62 x0.Done, iS Qaq 102 A65 c66 x0.Ledger, Qh p42 39 K3, Qh p41 39 K1] idM Qbd ?_
 refine nt' (Qe (sr ?_))
 refine wv (fun W hm => Qad (cs := K1) Qz Qbd rfl rfl (hm.boxCells (n := 7) rfl)) ?_
 refine wcv (Qr Qxr rfl) (fun W hm => Qyb W _ x0 (Qep (x := x0) (hm.rdS0 r15) (hm.rdS0 r20) (hm.rdS0 r25) (hm.rdS0 r30) (hm.rdS0 r35)) s_0) ?_
 refine wv Qbr ?_
 refine wm ?_
 rcases bd (Qiq x0) with g71 | g71
 ·
  have hE := Qasm g71
  have hE1 := hE.al
  have hE2 := hE.cur
  have hE3 := ((Qki _).1 hE.st).1
  have hE4 := hE.dl
  have hE5 := hE.ll
  have hE6 := hE.stp
  refine wg (vf Qz rfl Qf) (nt g71) ?_
  refine wg (vl 7 7 Qs) (nt g71) ?_
  refine wg (fun W hm => Qfe rfl rfl) (nt g71) ?_
  refine wv (vpF (nt g71)) ?_
  refine wm ?_
  rcases dce x0.Steps 100000 with ⟨h72, g73⟩ | ⟨h72, g73⟩
  ·
   iterate 15 first | refine ws g73 ?_ | refine wv (vpT g73) ?_ | refine wm ?_ | refine wk ?_ | refine wv (vpT rfl) ?_
   refine nt' ?_
   refine Ql rfl rfl ?_
   refine sr ?_
   refine wv (fun W hm => Qad (cs := K2) Qz Qbd rfl rfl (hm.boxCells (n := 0) rfl)) ?_
   refine sb 0 K2 [Qh p69 39 K2, I24, iS Qa 3 A53 c54 x0.Order, iS Qah 61 A57 c58 x0.Active, iS Qas 80 A61 c62 x0.Done, iS Qaq 102 A65 c66 x0.Ledger, Qh p41 39 K1] (pk [6, 0, 1, 2, 3, 4, 5, 7]) Qbd ?_
   refine wa (nt' (Qj (Qg ?_)))
   have he74 := (show Qez x0 = (x0, false) from Qb g71 (Qb g73 (rfl)))
   refine Qic rfl (Qdp (n := 0) rfl rfl Qz Qbd rfl) (Qdl rfl) (fun W hm => ⟨K2, ?_, ?_⟩)
   ·first | rw [he74] | rfl
    try rfl
   rw [he74]; exact Mem.join (is := [I24, iS Qa 3 A53 c54 x0.Order, iS Qah 61 A57 c58 x0.Active, iS Qas 80 A61 c62 x0.Done, iS Qaq 102 A65 c66 x0.Ledger]) (js := []) (fun _ _ hs => Qfk (x := x0) hs) (hm.pick [2, 3, 4, 5, 6] (by decide))
  refine wg (vf Qz rfl Qfg) g73 ?_
  refine wg (vl 7 6 Qcx) g73 ?_
  refine wg (Qag Qcx) g73 ?_
  refine wg (fun W hm => Qfe rfl rfl) g73 ?_
  refine wv (vpF g73) ?_
  refine wm ?_
  rcases dce ((x0.Ledger.length : Nat) : Int) 1000 with ⟨h75, g76⟩ | ⟨h75, g76⟩
  ·
   iterate 9 first | refine ws g76 ?_ | refine wv (vpT g76) ?_
   refine nt' ?_
   refine Ql rfl rfl ?_
   refine sr ?_
   refine wv (fun W hm => Qad (cs := K2) Qz Qbd rfl rfl (hm.boxCells (n := 0) rfl)) ?_
   refine sb 0 K2 [Qh p69 39 K2, I24, iS Qa 3 A53 c54 x0.Order, iS Qah 61 A57 c58 x0.Active, iS Qas 80 A61 c62 x0.Done, iS Qaq 102 A65 c66 x0.Ledger, Qh p41 39 K1] (pk [6, 0, 1, 2, 3, 4, 5, 7]) Qbd ?_
   refine wa (nt' (Qj (Qg ?_)))
   have he77 := (show Qez x0 = (x0, false) from Qb g71 (Qc g73 (Qb g76 (rfl))))
   refine Qic rfl (Qdp (n := 0) rfl rfl Qz Qbd rfl) (Qdl rfl) (fun W hm => ⟨K2, ?_, ?_⟩)
   ·first | rw [he77] | rfl
    try rfl
   rw [he77]; exact Mem.join (is := [I24, iS Qa 3 A53 c54 x0.Order, iS Qah 61 A57 c58 x0.Active, iS Qas 80 A61 c62 x0.Done, iS Qaq 102 A65 c66 x0.Ledger]) (js := []) (fun _ _ hs => Qfk (x := x0) hs) (hm.pick [2, 3, 4, 5, 6] (by decide))
  refine wg (vf Qz rfl Qek) g76 ?_
  refine wg (vl 7 5 Qch) g76 ?_
  refine wg (Qag Qch) g76 ?_
  refine wg (vf Qz rfl Qcw) g76 ?_
  refine wg (vl 7 4 Qax) g76 ?_
  refine wg (Qag Qax) g76 ?_
  refine wg (Qal x0.Done.length x0.Active.length (by omega)) g76 ?_
  refine wg (fun W hm => Qem rfl rfl) g76 ?_
  refine wv (vpF g76) ?_
  refine nt' ?_
  rcases dcd (1000 < ((x0.Done.length + x0.Active.length : Nat) : Int)) with ⟨h78, g79⟩ | ⟨h78, g79⟩
  ·
   refine Ql rfl g79 ?_
   refine sr ?_
   refine wv (fun W hm => Qad (cs := K2) Qz Qbd rfl rfl (hm.boxCells (n := 0) rfl)) ?_
   refine sb 0 K2 [Qh p69 39 K2, I24, iS Qa 3 A53 c54 x0.Order, iS Qah 61 A57 c58 x0.Active, iS Qas 80 A61 c62 x0.Done, iS Qaq 102 A65 c66 x0.Ledger, Qh p41 39 K1] (pk [6, 0, 1, 2, 3, 4, 5, 7]) Qbd ?_
   refine wa (nt' (Qj (Qg ?_)))
   have he80 := (show Qez x0 = (x0, false) from Qb g71 (Qc g73 (Qc g76 (Qb g79 (rfl)))))
   refine Qic rfl (Qdp (n := 0) rfl rfl Qz Qbd rfl) (Qdl rfl) (fun W hm => ⟨K2, ?_, ?_⟩)
   ·first | rw [he80] | rfl
    try rfl
   rw [he80]; exact Mem.join (is := [I24, iS Qa 3 A53 c54 x0.Order, iS Qah 61 A57 c58 x0.Active, iS Qas 80 A61 c62 x0.Done, iS Qaq 102 A65 c66 x0.Ledger]) (js := []) (fun _ _ hs => Qfk (x := x0) hs) (hm.pick [2, 3, 4, 5, 6] (by decide))
  refine Qm rfl g79 ?_
  refine Qp (Qd (sr ?_))
  refine wv (vf Qz rfl Qbt) ?_
  refine wv (fun W hm => Qeb (o := 0) Qbw rfl Qea (by decide) rfl rfl) ?_
  refine wv (vl 7 0 Qbz) ?_
  refine wv (vf Qz rfl Qf) ?_
  refine wv (vl 7 2 Qs) ?_
  obtain ⟨a81, rfl, hb82, he83⟩ := q14 (by omega)
  refine wv (fun W hm => Qgl (sz := 1) (k := x0.Cursor) Qbz Qfl rfl rfl rfl (by omega) (by omega)) ?_
  obtain ⟨_, e85, hc84⟩ := he83 (x0.Cursor.toNat) _ (Qbs (show (x0.Cursor.toNat) < x0.Store.Segments.length from by omega))
  have l86 : (gt x0.Store.Segments (x0.Cursor.toNat)).length ≤ 68719476736 := (s_0.1.2 _ (Qak (show (x0.Cursor.toNat) < x0.Store.Segments.length from by omega))).1
  obtain ⟨v87, rfl, r88⟩ := e85
  obtain ⟨m89, A90, c91, rfl, q92, r93⟩ := Qi r88
  refine wv (fun W hm => Qaw Qbv rfl rfl ((hm.cell0 (show (a81.add ((x0.Cursor.toNat) * 1)).block < w.heap.size from by rw [Qae]; exact hb82.1)).trans (hc84 0 _ rfl))) ?_
  refine wa (nt' (sr ?_))
  refine wv (vf Qz rfl Qf) ?_
  refine wv (vl 7 2 Qs) ?_
  refine wm ?_
  refine wv (Qag Qbv) ?_
  let K4 : List Value := [iV x0.Cursor, nI (((gt x0.Store.Segments (x0.Cursor.toNat))).length), .slice none 0 0, .slice none 0 0, .slice none 0 0]
  refine wv (fun W hm => Qef (cs := K4) rfl (by kernel_rfl)) ?_
  refine Qbm Qcs rfl (Qk rfl) (by decide) (fun p94 => ?_)
  let K5 : List Value := [.slice (some a81) x0.Store.Segments.length c13, iV x0.Store.Now, iV x0.Cursor, .slice A17 x0.Order.length c18, .slice A22 x0.Active.length c23, .slice A27 x0.Done.length c28, .slice A32 x0.Ledger.length c33, iV x0.Steps]
  let J47 : List It := [Qh p42 39 K3, Qh p41 39 K5]
  let J48 : List It := iS Qas 80 A61 c62 x0.Done :: iS Qaq 102 A65 c66 x0.Ledger :: J47
  refine sb 0 K4 (Qh p69 39 K2 :: I24 :: iS Qa 3 A53 c54 x0.Order :: iS Qah 61 A57 c58 x0.Active :: J48) idM Qcs ?_
  refine nt' (Qe (sr ?_))
  refine wv (fun W hm => Qad (cs := K5) Qz Qbd rfl rfl (hm.boxCells (n := 8) rfl)) ?_
  refine wcl (tSl Qa 3) (Qce x0) (Qr cb22 rfl) (fun W hm => Qasv W _ x0 (Qep (x := x0) (hm.rdS0 r15) (hm.rdS0 r20) (hm.rdS0 r25) (hm.rdS0 r30) (hm.rdS0 r35)) s_0) (fun z95 => ?_)
  have hpl := Qalh x0
  refine fm 0 ?_
  rintro A96 c97 rfl m98
  refine wv (Qag Qq) ?_
  refine wm (nt' (Qx ?_))
  refine Qdw (fun W hm => (hm.addNil (E := Qa) (e := 3)).last) ?_
  refine Qdw (fun W hm => (hm.addNil (E := Qa) (e := 3)).last) ?_
  refine Qdw (fun W hm => (hm.addNil (E := Qa) (e := 3)).last) ?_
  refine Qbg (S := (List Int) × (List Int) × (List Int) × (List Qw)) (R := Option Addr × Nat × Option Addr × Nat × Option Addr × Nat) (fun k (s : (List Int) × (List Int) × (List Int) × (List Qw)) => Qqb x0 k s.1 s.2.1 s.2.2.1 s.2.2.2) ((Qce x0).length) 0 ([], [], [], x0.Active) (none, 0, none, 0, none, 0) (fun s => [(1, bp p41), (2, bp p42), (4, bp p69), (6, bp p94), (57, .slice A96 (Qce x0).length c97), (58, nI ((Qce x0).length)), (59, nI s.1)]) (fun s => [iS Qa 3 A96 c97 (Qce x0), Qh p94 102 [iV x0.Cursor, nI (((gt x0.Store.Segments (x0.Cursor.toNat))).length), .slice s.2.2.1 s.2.1.1.length s.2.2.2.1, .slice s.2.2.2.2.1 s.2.1.2.1.length s.2.2.2.2.2.1, .slice s.2.2.2.2.2.2.1 s.2.1.2.2.1.length s.2.2.2.2.2.2.2], Qh p69 39 K2, I24, iS Qa 3 A53 c54 x0.Order, Qn (tSl Qah 61) [.slice A57 x0.Active.length c58] s.2.1.2.2.2, iS Qas 80 A61 c62 x0.Done, iS Qaq 102 A65 c66 x0.Ledger, Qh p42 39 K3, Qh p41 39 K5, iS Qa 3 s.2.2.1 s.2.2.2.1 s.2.1.1, iS Qa 3 s.2.2.2.2.1 s.2.2.2.2.2.1 s.2.1.2.1, iS Qa 3 s.2.2.2.2.2.2.1 s.2.2.2.2.2.2.2 s.2.1.2.2.1]) (fun s => s.2.1.1.length ≤ 0 + s.1 ∧ s.2.1.2.1.length ≤ 0 + s.1 ∧ s.2.1.2.2.1.length ≤ 0 + s.1 ∧ s.2.1.2.2.2.length = x0.Active.length ∧ ∀ i, (gt s.2.1.2.2.2 i).Todo.length ≤ 8 ∧ (gt s.2.1.2.2.2 i).Rows.length ≤ 1000 + 4 * s.1) sl7 ⟨Nat.le_refl _, Nat.le_refl _, Nat.le_refl _, rfl, Qacn hE⟩ ?_
  rintro ⟨k100, ⟨d105, d109, d113, d116⟩, ⟨A106, c107, A110, c111, A114, c115⟩⟩ H119 _ _ e e'
  dsimp only at H119 ⊢
  subst e e'
  obtain ⟨hk117, hF118, hi120, hi121, hi122, hi123, hi124⟩ := H119
  refine sr ?_
  refine wv Qai ?_
  refine nt' (Qe ?_)
  rcases dcl k100 ((Qce x0).length) with ⟨hl125, g126⟩ | ⟨hl125, g126⟩
  ·
   have hp0 := Qale hE _ (Qak (show k100 < (Qce x0).length from by omega))
   have hfl := Qaso x0 (gt (Qce x0) k100)
   have ha1 := hi124 ((Qei x0 (gt (Qce x0) k100)).toNat)
   refine Ql rfl g126 ?_
   refine Qp (Qd (Qe (Qx (sr ?_))))
   refine Qhy (n := 0) rfl (by omega) ?_
   rintro g127 rfl
   refine wv (vix 1 k100 Qq Qf) ?_
   refine wv (fun W hm => Qaw Qs rfl rfl (hm.ownInt (i := 0) rfl (by omega))) ?_
   refine wa (nt' (sr ?_))
   refine wv (fun W hm => Qad (cs := K5) Qz Qbd rfl rfl (hm.boxCells (n := 9) rfl)) ?_
   refine wm ?_
   refine wcv (Qr cb33 rfl) (fun W hm => Qasn W _ x0 (gt (Qce x0) k100) (Qep (x := x0) (hm.rdS0 r15) (hm.rdS0 r20) (hm.rdS0 r25) (hm.rdS0 r30) (hm.rdS0 r35))) ?_
   obtain ⟨G128, hG128⟩ : ∃ G, G = (Qei x0 (gt (Qce x0) k100)) := ⟨_, rfl⟩
   rw [← hG128] at hp0 hfl ha1 ⊢
   refine wa (nt' (sr ?_))
   refine wv (vf Qz rfl Qcw) ?_
   refine wv (vl 2 4 Qax) ?_
   refine wm ?_
   refine Qhy (n := 5) rfl (by omega) ?_
   rintro g129 rfl
   refine wv (fun W hm => Qgl (sz := 10) (k := G128) Qax Qbe rfl rfl rfl (by omega) (by omega)) ?_
   let K6 : List Value := [iV x0.Cursor, nI (((gt x0.Store.Segments (x0.Cursor.toNat))).length), .slice A106 d105.length c107, .slice A110 d109.length c111, .slice A114 d113.length c115]
   let K7 : List Value := [.slice A49 x0.Store.Segments.length c50, iV x0.Store.Now, iV x0.Cursor, .slice A53 x0.Order.length c54, .slice (sA g129) x0.Active.length c58, .slice A61 x0.Done.length c62, .slice A65 x0.Ledger.length c66, iV x0.Steps]
   let I25 : It := iS Qa 3 (sA g127) c97 (Qce x0)
   let J49 : List It := [I25, Qh p94 102 K6, Qh p69 39 K7, I24, iS Qa 3 A53 c54 x0.Order, iS Qas 80 A61 c62 x0.Done, iS Qaq 102 A65 c66 x0.Ledger, Qh p42 39 K3, Qh p41 39 K5, iS Qa 3 A106 c107 d105, iS Qa 3 A110 c111 d109, iS Qa 3 A114 c115 d113]
   refine Qjx (E := Qah) (e := 61) (A := (sA g129)) (n := x0.Active.length) (c := c58) (xs := d116) (k := (G128.toNat)) (js := J49) (by omega) (pk [5, 0, 1, 2, 3, 4, 6, 7, 8, 9, 10, 11, 12]) (fun ck130 => ?_)
   refine Qof ?_
   rintro ⟨v131, v132, v133, v134⟩ rfl
   refine fm 0 ?_
   rintro A135 c136 rfl m137
   refine fm 1 ?_
   rintro A139 c140 rfl m141
   refine fm 2 ?_
   rintro A143 c144 rfl m145
   refine fm 3 ?_
   rintro A147 c148 rfl m149
   let K8 : List Value := [iV ((gt d116 (G128.toNat)).Query.Id), iV ((gt d116 (G128.toNat)).Query.Tenant), .slice A135 ((gt d116 (G128.toNat)).Query.Conds).length c136, .slice A139 ((gt d116 (G128.toNat)).Query.Out).length c140, iV ((gt d116 (G128.toNat)).Time), .slice A143 ((gt d116 (G128.toNat)).Todo).length c144, iV ((gt d116 (G128.toNat)).Age), iV ((gt d116 (G128.toNat)).Sent), iV ((gt d116 (G128.toNat)).Cap), .slice A147 ((gt d116 (G128.toNat)).Rows).length c148]
   refine wv (fun W hm => Qad (cs := K8) Qaj Qbe rfl rfl (hm.focCells (i := 4) rfl rfl)) ?_
   refine Qbm Qbe rfl (Qk rfl) (by decide) (fun p151 => ?_)
   let I26 : It := iS Qbl 180 A135 c136 ((gt d116 (G128.toNat)).Query.Conds)
   let I27 : It := iS Qa 3 A139 c140 ((gt d116 (G128.toNat)).Query.Out)
   let I28 : It := iS Qa 3 A143 c144 ((gt d116 (G128.toNat)).Todo)
   let I29 : It := Qdf Qah 61 (sA g129) x0.Active.length c58 d116 (G128.toNat) K8
   refine sb 0 K8 (I26 :: I27 :: I28 :: iS Qap 70 A147 c148 ((gt d116 (G128.toNat)).Rows) :: I29 :: J49) idM Qbe ?_
   refine nt' (sr (wa (nt' (Qe (sr ?_)))))
   refine wv (vf Qz rfl Qbt) ?_
   refine wv (fun W hm => Qad (cs := [.slice (some a81) x0.Store.Segments.length c13, iV x0.Store.Now]) Qbw Qbt rfl rfl (hm.boxPart (n := 14) rfl rfl)) ?_
   refine wv (vf Qz rfl Qf) ?_
   refine wv (vl 14 2 Qs) ?_
   refine wv (vf Qaj rfl Qf) ?_
   refine wv (vl 0 4 Qs) ?_
   refine wcl (tSl Qap 70) (Qdk x0.Store x0.Cursor ((gt d116 (G128.toNat)).Time)) (Qr cb69 rfl) (fun W hm => Qauf W _ x0.Store x0.Cursor ((gt d116 (G128.toNat)).Time) (Qgc (x := x0.Store) (hm.rdS0 r15)) s_0.1 (⟨by omega, by omega⟩)) (fun z152 => ?_)
   have hsr := Qahr hE ((gt d116 (G128.toNat)).Time)
   refine fm 0 ?_
   rintro A153 c154 rfl m155
   refine wv (Qag Qci) ?_
   refine wm (nt' (Qx ?_))
   refine Qdw (fun W hm => Mem.toRest hm) ?_
   refine Qbg (S := Int × (List Qab)) (R := Option Addr × Nat) (fun k (s : Int × (List Qab)) => Qqc x0 k100 d116 k s.1 s.2) ((Qdk x0.Store x0.Cursor ((gt d116 (G128.toNat)).Time)).length) 0 (0, (gt d116 (G128.toNat)).Rows) (A147, c148) (fun s => [(1, bp p41), (2, bp p42), (4, bp p69), (6, bp p94), (8, iV (gt (Qce x0) k100)), (9, iV G128), (10, bp p151), (11, iV s.2.1.1), (57, .slice (sA g127) (Qce x0).length c97), (58, nI ((Qce x0).length)), (59, nI k100), (77, .slice A153 (Qdk x0.Store x0.Cursor ((gt d116 (G128.toNat)).Time)).length c154), (78, nI ((Qdk x0.Store x0.Cursor ((gt d116 (G128.toNat)).Time)).length)), (79, nI s.1)]) (fun s => (Qhi Qap 70 A153 ((Qdk x0.Store x0.Cursor ((gt d116 (G128.toNat)).Time)).length) (Qdk x0.Store x0.Cursor ((gt d116 (G128.toNat)).Time)) s.1 :: Qh p151 61 [iV ((gt d116 (G128.toNat)).Query.Id), iV ((gt d116 (G128.toNat)).Query.Tenant), .slice A135 ((gt d116 (G128.toNat)).Query.Conds).length c136, .slice A139 ((gt d116 (G128.toNat)).Query.Out).length c140, iV ((gt d116 (G128.toNat)).Time), .slice A143 ((gt d116 (G128.toNat)).Todo).length c144, iV ((gt d116 (G128.toNat)).Age), iV ((gt d116 (G128.toNat)).Sent), iV ((gt d116 (G128.toNat)).Cap), .slice s.2.2.1 s.2.1.2.length s.2.2.2] :: I26 :: I27 :: I28 :: iS Qap 70 s.2.2.1 s.2.2.2 s.2.1.2 :: I29 :: J49)) (fun s => s.2.1.2.length ≤ ((gt d116 (G128.toNat)).Rows).length + s.1) (Qbu rfl (Qbu rfl Qkc)) (Nat.le_refl _) ?_
   rintro ⟨k157, ⟨s158, d160⟩, ⟨A161, c162⟩⟩ H165 _ _ e e'
   dsimp only at H165 ⊢
   subst e e'
   obtain ⟨hk163, hF164, hi166⟩ := H165
   refine sr ?_
   refine wv Qai ?_
   refine nt' (Qe ?_)
   rcases dcl k157 ((Qdk x0.Store x0.Cursor ((gt d116 (G128.toNat)).Time)).length) with ⟨hl167, g168⟩ | ⟨hl167, g168⟩
   ·
    refine Ql rfl g168 ?_
    refine Qp (Qd (Qe (Qx (sr ?_))))
    refine Qrm (n := 0) rfl (by omega) ?_
    rintro g169 rfl
    refine wv (vix 2 k157 Qci Qcg) ?_
    let K9 : List Value := [iV ((gt d116 (G128.toNat)).Query.Id), iV ((gt d116 (G128.toNat)).Query.Tenant), .slice A135 ((gt d116 (G128.toNat)).Query.Conds).length c136, .slice A139 ((gt d116 (G128.toNat)).Query.Out).length c140, iV ((gt d116 (G128.toNat)).Time), .slice A143 ((gt d116 (G128.toNat)).Todo).length c144, iV ((gt d116 (G128.toNat)).Age), iV ((gt d116 (G128.toNat)).Sent), iV ((gt d116 (G128.toNat)).Cap), .slice A161 d160.length c162]
    let J50 : List It := Qh p151 61 K9 :: I26 :: I27 :: I28 :: iS Qap 70 A161 c162 d160 :: I29 :: J49
    refine Qrn (E := Qap) (e := 70) (A := (sA g169)) (n := (Qdk x0.Store x0.Cursor ((gt d116 (G128.toNat)).Time)).length) (xs := (Qdk x0.Store x0.Cursor ((gt d116 (G128.toNat)).Time))) (k := k157) (js := J50) (by omega) idM (fun ck170 => ?_)
    refine Qmv ?_
    rintro v171 rfl
    refine fm 0 ?_
    rintro A172 c173 rfl m174
    let K10 : List Value := [iV ((gt (Qdk x0.Store x0.Cursor ((gt d116 (G128.toNat)).Time)) k157).Id), .slice A172 ((gt (Qdk x0.Store x0.Cursor ((gt d116 (G128.toNat)).Time)) k157).Values).length c173]
    refine wv (fun W hm => Qad (cs := K10) Qdv Qcg rfl rfl (hm.restCells (i := 1) rfl rfl)) ?_
    refine Qbm Qcg rfl (Qk rfl) (by decide) (fun p176 => ?_)
    let I30 : It := iS Qa 3 A172 c173 ((gt (Qdk x0.Store x0.Cursor ((gt d116 (G128.toNat)).Time)) k157).Values)
    let I31 : It := Qip Qap 70 (sA g169) ((Qdk x0.Store x0.Cursor ((gt d116 (G128.toNat)).Time)).length) (Qdk x0.Store x0.Cursor ((gt d116 (G128.toNat)).Time)) k157 K10
    refine sb 0 K10 (I30 :: I31 :: J50) idM Qcg ?_
    refine nt' (sr ?_)
    refine wv (vf Qaj rfl Qbj) ?_
    refine wv (fun W hm => Qad (cs := [iV ((gt d116 (G128.toNat)).Query.Id), iV ((gt d116 (G128.toNat)).Query.Tenant), .slice A135 ((gt d116 (G128.toNat)).Query.Conds).length c136, .slice A139 ((gt d116 (G128.toNat)).Query.Out).length c140]) Qbq Qbj rfl rfl (hm.boxPart (n := 3) rfl rfl)) ?_
    refine wv (fun W hm => Qad (cs := K10) Qdv Qcg rfl rfl (hm.boxCells (n := 0) rfl)) ?_
    refine wcv (Qr cb70 rfl) (fun W hm => Qast W _ ((gt d116 (G128.toNat)).Query) _ (gt (Qdk x0.Store x0.Cursor ((gt d116 (G128.toNat)).Time)) k157) (Qhg (x := ((gt d116 (G128.toNat)).Query)) (hm.rdSI (n := 4) rfl) (hm.rdSI (n := 5) rfl)) (Qjr (x := (gt (Qdk x0.Store x0.Cursor ((gt d116 (G128.toNat)).Time)) k157)) (hm.rdSI (n := 1) rfl))) ?_
    refine nt' ?_
    rcases bd (Qrr ((gt d116 (G128.toNat)).Query) (gt (Qdk x0.Store x0.Cursor ((gt d116 (G128.toNat)).Time)) k157)) with g178 | g178
    ·
     refine Ql rfl g178 ?_
     refine sr ?_
     refine wv (vf Qaj rfl Qdt) ?_
     refine wv (vl 3 9 Qci) ?_
     refine wv (fun W hm => Qad (cs := K10) Qdv Qcg rfl rfl (hm.boxCells (n := 0) rfl)) ?_
     refine Qde (cs := K10) Qci Qcg rfl (by decide) (by decide) rfl (by kernel_rfl) (Qk rfl) (by decide) (fun p179 => ?_)
     refine ap1 Qap 70 (.slice A161 d160.length c162) d160 (gt (Qdk x0.Store x0.Cursor ((gt d116 (G128.toNat)).Time)) k157) [I30] (Qh p176 70 K10 :: I31 :: Qh p151 61 K9 :: I26 :: I27 :: I28 :: I29 :: J49) K10 (pk [0, 8, 2, 1, 3, 4, 5, 6, 7, 9, 10, 11, 12, 13, 14, 15, 16, 17, 18, 19, 20, 21]) (fun _ _ hs => Els.single (Qjq (x := (gt (Qdk x0.Store x0.Cursor ((gt d116 (G128.toNat)).Time)) k157)) hs)) Qci Qcg (show (d160.length + 1) * 32 ≤ 140737488355328 from by omega) (fun v180 => ?_)
     refine fm 0 ?_
     rintro A181 c182 rfl m183
     refine wv (vf Qaj rfl Qdt) ?_
     refine sb 9 [iV ((gt d116 (G128.toNat)).Query.Id), iV ((gt d116 (G128.toNat)).Query.Tenant), .slice A135 ((gt d116 (G128.toNat)).Query.Conds).length c136, .slice A139 ((gt d116 (G128.toNat)).Query.Out).length c140, iV ((gt d116 (G128.toNat)).Time), .slice A143 ((gt d116 (G128.toNat)).Todo).length c144, iV ((gt d116 (G128.toNat)).Age), iV ((gt d116 (G128.toNat)).Sent), iV ((gt d116 (G128.toNat)).Cap), .slice A181 (d160 ++ [(gt (Qdk x0.Store x0.Cursor ((gt d116 (G128.toNat)).Time)) k157)]).length c182] (iS Qap 70 A181 c182 (d160 ++ [(gt (Qdk x0.Store x0.Cursor ((gt d116 (G128.toNat)).Time)) k157)]) :: Qh p176 70 K10 :: I31 :: I26 :: I27 :: I28 :: I29 :: J49) (pk [3, 0, 1, 2, 4, 5, 6, 7, 8, 9, 10, 11, 12, 13, 14, 15, 16, 17, 18, 19]) Qdt ?_
     refine nt' (Qy (wm ?_))
     refine wv Qcy ?_
     refine wa (Qac (Qam (Qd (Qy ?_))))
     refine wv (Qal k157 1 (by omega)) ?_
     refine wm (Qac ?_)
     refine Qdd (fun W hm => Mem.restNext (hm.pick [3, 0, 1, 2, 4, 5, 6, 7, 8, 9, 10, 11, 12, 13, 14, 15, 16, 17, 18, 19] (by decide))) ?_
     exact Qan (k157 + 1, ((IntKind.i64.wrap (s158 + 1)), (d160 ++ [(gt (Qdk x0.Store x0.Cursor ((gt d116 (G128.toNat)).Time)) k157)])), (A181, c182)) (Qbu rfl (Qbu rfl Qkc)) (pk [0, 1, 4, 5, 6, 2, 7, 8, 9, 10, 11, 12, 13, 14, 15, 16, 17, 18, 19]) ⟨(by omega), nx hF164 (by subst hG128; exact Qb g178 (rfl)), (show (d160 ++ [(gt (Qdk x0.Store x0.Cursor ((gt d116 (G128.toNat)).Time)) k157)]).length ≤ ((gt d116 (G128.toNat)).Rows).length + (k157 + 1) from by first | omega | (simp only [List.length_append, List.length_cons, List.length_nil] at *; omega))⟩ (show (Qdk x0.Store x0.Cursor ((gt d116 (G128.toNat)).Time)).length - (k157 + 1) < (Qdk x0.Store x0.Cursor ((gt d116 (G128.toNat)).Time)).length - k157 from by omega)
    refine Qm rfl g178 ?_
    refine Qp (Qam (Qd (Qy ?_)))
    refine wv (Qal k157 1 (by omega)) ?_
    refine wm (Qac ?_)
    refine Qdd (fun W hm => Mem.restNext (hm.pick [2, 0, 1, 3, 4, 5, 6, 7, 8, 9, 10, 11, 12, 13, 14, 15, 16, 17, 18, 19, 20] (by decide))) ?_
    exact Qan (k157 + 1, (s158, d160), (A161, c162)) (Qbu rfl (Qbu rfl Qkc)) (pk [0, 3, 4, 5, 6, 7, 8, 9, 10, 11, 12, 13, 14, 15, 16, 17, 18, 19, 20]) ⟨(by omega), nx hF164 (by subst hG128; exact Qc g178 (rfl)), (show d160.length ≤ ((gt d116 (G128.toNat)).Rows).length + (k157 + 1) from by first | omega | (simp only [List.length_append, List.length_cons, List.length_nil] at *; omega))⟩ (show (Qdk x0.Store x0.Cursor ((gt d116 (G128.toNat)).Time)).length - (k157 + 1) < (Qdk x0.Store x0.Cursor ((gt d116 (G128.toNat)).Time)).length - k157 from by omega)
   refine Qm rfl g168 ?_
   refine Qay (Qu (Qu ?_))
   have hE187 := Qbh hl167 hF164
   refine Qaz (Qd (sr ?_))
   refine wv (vf Qaj rfl Qf) ?_
   refine wv (vl 1 7 Qs) ?_
   refine wm ?_
   refine wv Qcy ?_
   refine wv (vf Qaj rfl Qf) ?_
   let I32 : It := Qhi Qap 70 A153 ((Qdk x0.Store x0.Cursor ((gt d116 (G128.toNat)).Time)).length) (Qdk x0.Store x0.Cursor ((gt d116 (G128.toNat)).Time)) k157
   let J51 : List It := I32 :: I26 :: I27 :: I28 :: iS Qap 70 A161 c162 d160 :: I29 :: J49
   refine sb 7 [iV ((gt d116 (G128.toNat)).Query.Id), iV ((gt d116 (G128.toNat)).Query.Tenant), .slice A135 ((gt d116 (G128.toNat)).Query.Conds).length c136, .slice A139 ((gt d116 (G128.toNat)).Query.Out).length c140, iV ((gt d116 (G128.toNat)).Time), .slice A143 ((gt d116 (G128.toNat)).Todo).length c144, iV ((gt d116 (G128.toNat)).Age), iV (IntKind.i64.wrap (((gt d116 (G128.toNat)).Sent) + s158)), iV ((gt d116 (G128.toNat)).Cap), .slice A161 d160.length c162] J51 (pk [1, 0, 2, 3, 4, 5, 6, 7, 8, 9, 10, 11, 12, 13, 14, 15, 16, 17, 18]) Qf ?_
   refine nt' (sr ?_)
   refine wv (vf Qaj rfl Qao) ?_
   refine wv (vl 0 5 Qq) ?_
   refine wv (vf Qz rfl Qf) ?_
   refine wv (vl 15 2 Qs) ?_
   refine wcl (tSl Qa 3) (Qls ((gt d116 (G128.toNat)).Todo) x0.Cursor) (Qr cb71 rfl) (fun W hm => Qaug W _ ((gt d116 (G128.toNat)).Todo) x0.Cursor (hm.rdSI (n := 4) rfl) (show _ ≤ 68719476736 from by omega)) (fun z188 => ?_)
   have hwl := Qbea ((gt d116 (G128.toNat)).Todo) x0.Cursor
   refine fm 0 ?_
   rintro A189 c190 rfl m191
   refine wv (vf Qaj rfl Qao) ?_
   let K11 : List Value := [iV ((gt d116 (G128.toNat)).Query.Id), iV ((gt d116 (G128.toNat)).Query.Tenant), .slice A135 ((gt d116 (G128.toNat)).Query.Conds).length c136, .slice A139 ((gt d116 (G128.toNat)).Query.Out).length c140, iV ((gt d116 (G128.toNat)).Time), .slice A189 (Qls ((gt d116 (G128.toNat)).Todo) x0.Cursor).length c190, iV ((gt d116 (G128.toNat)).Age), iV (IntKind.i64.wrap (((gt d116 (G128.toNat)).Sent) + s158)), iV ((gt d116 (G128.toNat)).Cap), .slice A161 d160.length c162]
   let I33 : It := iS Qa 3 A189 c190 (Qls ((gt d116 (G128.toNat)).Todo) x0.Cursor)
   refine sb 5 K11 (I33 :: J51) (pk [1, 0, 2, 3, 4, 5, 6, 7, 8, 9, 10, 11, 12, 13, 14, 15, 16, 17, 18, 19]) Qao ?_
   refine nt' (sr ?_)
   refine wv (vf Qz rfl Qcw) ?_
   refine wv (vl 10 4 Qax) ?_
   refine wm ?_
   refine wv (fun W hm => Qad (cs := K11) Qaj Qbe rfl rfl (hm.boxCells (n := 0) rfl)) ?_
   refine wv (fun W hm => Qgl (sz := 10) (k := G128) Qax Qbe rfl rfl rfl (by omega) (by omega)) ?_
   refine sf 0 10 K11 (Qh p151 61 K11 :: I33 :: I32 :: I26 :: I27 :: I28 :: iS Qap 70 A161 c162 d160 :: J49) (pk [7, 0, 1, 2, 3, 4, 5, 6, 8, 9, 10, 11, 12, 13, 14, 15, 16, 17, 18, 19]) Qbe ?_
   refine nt' (sr ?_)
   refine wv (vf Qby rfl Qao) ?_
   refine wv (vl 9 2 Qq) ?_
   refine wm ?_
   refine Qde (cs := [iV (gt (Qce x0) k100)]) Qq Qf rfl (by decide) (by decide) rfl (by kernel_rfl) (Qk rfl) (by decide) (fun p193 => ?_)
   let I34 : It := Qdf Qah 61 (sA g129) x0.Active.length c58 d116 (G128.toNat) K11
   let J52 : List It := [Qh p69 39 K7, I24, iS Qa 3 A53 c54 x0.Order, iS Qas 80 A61 c62 x0.Done, iS Qaq 102 A65 c66 x0.Ledger, Qh p42 39 K3, Qh p41 39 K5, iS Qa 3 A110 c111 d109, iS Qa 3 A114 c115 d113]
   refine ap1 Qa 3 (.slice A106 d105.length c107) d105 (gt (Qce x0) k100) [] (I34 :: Qh p151 61 K11 :: I33 :: I32 :: I26 :: I27 :: I28 :: iS Qap 70 A161 c162 d160 :: I25 :: Qh p94 102 K6 :: J52) [iV (gt (Qce x0) k100)] (pk [0, 18, 1, 2, 3, 4, 5, 6, 7, 8, 9, 10, 11, 12, 13, 14, 15, 16, 17, 19, 20]) (fun _ _ hs => by cases (Sep.nil hs); exact (Qhq Qck Qhr)) Qq Qf (show (d105.length + 1) * 8 ≤ 140737488355328 from by omega) (fun v194 => ?_)
   refine fm 0 ?_
   rintro A195 c196 rfl m197
   refine wv (vf Qby rfl Qao) ?_
   let K12 : List Value := [iV x0.Cursor, nI (((gt x0.Store.Segments (x0.Cursor.toNat))).length), .slice A195 (d105 ++ [(gt (Qce x0) k100)]).length c196, .slice A110 d109.length c111, .slice A114 d113.length c115]
   let I35 : It := iS Qa 3 A195 c196 (d105 ++ [(gt (Qce x0) k100)])
   refine sb 2 K12 (I35 :: I34 :: Qh p151 61 K11 :: I33 :: I32 :: I26 :: I27 :: I28 :: iS Qap 70 A161 c162 d160 :: I25 :: J52) (pk [10, 0, 1, 2, 3, 4, 5, 6, 7, 8, 9, 11, 12, 13, 14, 15, 16, 17, 18, 19]) Qao ?_
   refine nt' (sr ?_)
   refine wv (vf Qby rfl Qao) ?_
   refine wv (vl 0 3 Qq) ?_
   refine wv (vf Qaj rfl Qbj) ?_
   refine wv (fun W hm => Qeb (o := 1) Qbq rfl Qf (by decide) rfl rfl) ?_
   refine wv (vl 3 1 Qs) ?_
   refine Qde (cs := [iV ((gt d116 (G128.toNat)).Query.Tenant)]) Qq Qf rfl (by decide) (by decide) rfl (by kernel_rfl) (Qk rfl) (by decide) (fun p199 => ?_)
   let J53 : List It := [I35, I34, Qh p151 61 K11, I33, I32, I26, I27, I28, iS Qap 70 A161 c162 d160, I25, Qh p69 39 K7, I24, iS Qa 3 A53 c54 x0.Order, iS Qas 80 A61 c62 x0.Done, iS Qaq 102 A65 c66 x0.Ledger, Qh p42 39 K3, Qh p41 39 K5, iS Qa 3 A114 c115 d113]
   refine ap1 Qa 3 (.slice A110 d109.length c111) d109 ((gt d116 (G128.toNat)).Query.Tenant) [] (Qh p94 102 K12 :: J53) [iV ((gt d116 (G128.toNat)).Query.Tenant)] (pk [0, 19, 1, 2, 3, 4, 5, 6, 7, 8, 9, 10, 11, 12, 13, 14, 15, 16, 17, 18, 20]) (fun _ _ hs => by cases (Sep.nil hs); exact (Qhq Qck Qhr)) Qq Qf (show (d109.length + 1) * 8 ≤ 140737488355328 from by omega) (fun v200 => ?_)
   refine fm 0 ?_
   rintro A201 c202 rfl m203
   refine wv (vf Qby rfl Qao) ?_
   let K13 : List Value := [iV x0.Cursor, nI (((gt x0.Store.Segments (x0.Cursor.toNat))).length), .slice A195 (d105 ++ [(gt (Qce x0) k100)]).length c196, .slice A201 (d109 ++ [(gt d116 (G128.toNat)).Query.Tenant]).length c202, .slice A114 d113.length c115]
   let I36 : It := iS Qa 3 A201 c202 (d109 ++ [(gt d116 (G128.toNat)).Query.Tenant])
   refine sb 3 K13 (I36 :: J53) (pk [1, 0, 2, 3, 4, 5, 6, 7, 8, 9, 10, 11, 12, 13, 14, 15, 16, 17, 18, 19]) Qao ?_
   refine nt' ?_
   refine Qdw (pk [0, 1, 2, 3, 5, 7, 8, 10, 11, 12, 13, 14, 15, 16, 17, 18, 19]) ?_
   refine Qy ?_
   refine wv (vf Qby rfl Qao) ?_
   refine wv (vl 0 4 Qq) ?_
   refine wm ?_
   refine Qde (cs := [iV s158]) Qq Qf rfl (by decide) (by decide) rfl (by kernel_rfl) (Qk rfl) (by decide) (fun p205 => ?_)
   let J54 : List It := I36 :: I35 :: I34 :: I33 :: I26 :: I27 :: iS Qap 70 A161 c162 d160 :: I25 :: Qh p69 39 K7 :: I24 :: iS Qa 3 A53 c54 x0.Order :: J48
   refine ap1 Qa 3 (.slice A114 d113.length c115) d113 s158 [] (Qh p94 102 K13 :: J54) [iV s158] (pk [0, 17, 1, 2, 3, 4, 5, 6, 7, 8, 9, 10, 11, 12, 13, 14, 15, 16]) (fun _ _ hs => by cases (Sep.nil hs); exact (Qhq Qck Qhr)) Qq Qf (show (d113.length + 1) * 8 ≤ 140737488355328 from by omega) (fun v206 => ?_)
   refine fm 0 ?_
   rintro A207 c208 rfl m209
   refine wv (vf Qby rfl Qao) ?_
   let K14 : List Value := [iV x0.Cursor, nI (((gt x0.Store.Segments (x0.Cursor.toNat))).length), .slice A195 (d105 ++ [(gt (Qce x0) k100)]).length c196, .slice A201 (d109 ++ [(gt d116 (G128.toNat)).Query.Tenant]).length c202, .slice A207 (d113 ++ [s158]).length c208]
   refine sb 4 K14 (iS Qa 3 A207 c208 (d113 ++ [s158]) :: J54) (pk [1, 0, 2, 3, 4, 5, 6, 7, 8, 9, 10, 11, 12, 13, 14, 15, 16]) Qao ?_
   refine Qac (Qam (Qd (Qy ?_)))
   refine wv (Qal k100 1 (by omega)) ?_
   refine wm (Qac ?_)
   refine Qdd (fun W hm => Mem.unfocus (Mem.join (is := [I26, I27, I33, iS Qap 70 A161 c162 d160]) (js := (I34 :: (Qh p94 102 K14 :: iS Qa 3 A207 c208 (d113 ++ [s158]) :: I36 :: I35 :: I25 :: Qh p69 39 K7 :: I24 :: iS Qa 3 A53 c54 x0.Order :: J48))) (fun _ _ hs => Qho (x := (⟨(gt d116 (G128.toNat)).Query, (gt d116 (G128.toNat)).Time, (Qls ((gt d116 (G128.toNat)).Todo) x0.Cursor), (gt d116 (G128.toNat)).Age, (IntKind.i64.wrap (((gt d116 (G128.toNat)).Sent) + s158)), (gt d116 (G128.toNat)).Cap, d160⟩ : Qw)) hs) (hm.pick [6, 7, 5, 8, 4, 0, 1, 2, 3, 9, 10, 11, 12, 13, 14, 15, 16] (by decide)))) ?_
   exact Qan (k100 + 1, ((d105 ++ [(gt (Qce x0) k100)]), (d109 ++ [(gt d116 (G128.toNat)).Query.Tenant]), (d113 ++ [s158]), (Qqd x0 d116 G128 s158 d160)), (A195, c196, A201, c202, A207, c208)) sl7 (pk [5, 1, 6, 7, 8, 0, 9, 10, 11, 12, 4, 3, 2]) ⟨(by omega), nx hF118 (by subst hG128; exact Qar hE187 (rfl)), (show (d105 ++ [(gt (Qce x0) k100)]).length ≤ 0 + (k100 + 1) from by first | omega | (simp only [List.length_append, List.length_cons, List.length_nil] at *; omega)), (show (d109 ++ [(gt d116 (G128.toNat)).Query.Tenant]).length ≤ 0 + (k100 + 1) from by first | omega | (simp only [List.length_append, List.length_cons, List.length_nil] at *; omega)), (show (d113 ++ [s158]).length ≤ 0 + (k100 + 1) from by first | omega | (simp only [List.length_append, List.length_cons, List.length_nil] at *; omega)), (show (Qqd x0 d116 G128 s158 d160).length = x0.Active.length from by rw [List.length_set]; omega), (show ∀ i, (gt (Qqd x0 d116 G128 s158 d160) i).Todo.length ≤ 8 ∧ (gt (Qqd x0 d116 G128 s158 d160) i).Rows.length ≤ 1000 + 4 * (k100 + 1) from by exact Qafb (P := fun (a : Qw) => a.Todo.length ≤ 8 ∧ a.Rows.length ≤ 1000 + 4 * (k100 + 1)) (fun i => by have := hi124 i; omega) ⟨by dsimp only; omega, by dsimp only; omega⟩)⟩ (show (Qce x0).length - (k100 + 1) < (Qce x0).length - k100 from by omega)
  refine Qm rfl g126 ?_
  refine Qay (Qu (Qu ?_))
  have hE212 := Qbh hl125 hF118
  refine Qaz (Qd (Qe (sr ?_)))
  refine wv (vf Qby rfl Qao) ?_
  refine wv (vl 1 2 Qq) ?_
  refine wv (Qag Qq) ?_
  refine wv (fun W hm => Qem rfl rfl) ?_
  refine nt' ?_
  let I37 : It := Qn (tSl Qah 61) [.slice A57 x0.Active.length c58] d116
  let J55 : List It := I24 :: iS Qa 3 A53 c54 x0.Order :: I37 :: iS Qas 80 A61 c62 x0.Done :: J47
  refine Qlj (σ := (List Qbc) × (Option Addr × Nat)) (fun s => [(1, bp p41), (2, bp p42), (4, bp p69)]) (fun s => (iS Qaq 102 s.2.1 s.2.2 s.1 :: Qh p69 39 [.slice A49 x0.Store.Segments.length c50, iV x0.Store.Now, iV x0.Cursor, .slice A53 x0.Order.length c54, .slice A57 x0.Active.length c58, .slice A61 x0.Done.length c62, .slice s.2.1 s.1.length s.2.2, iV x0.Steps] :: J55)) (fun s => (Qom x0 d105 d109 d113) = Sum.inr s.1) ?_ ?_
  ·
   rcases dcd (0 < ((d105.length : Nat) : Int)) with ⟨h217, g218⟩ | ⟨h217, g218⟩
   ·
    refine Ql rfl g218 ?_
    refine Qy ?_
    refine wv (vf Qz rfl Qfg) ?_
    refine wv (vl 2 6 Qcx) ?_
    let K15 : List Value := [iV x0.Cursor, nI (((gt x0.Store.Segments (x0.Cursor.toNat))).length), .slice A106 d105.length c107, .slice A110 d109.length c111, .slice A114 d113.length c115]
    refine wv (fun W hm => Qad (cs := K15) Qby Qcs rfl rfl (hm.boxCells (n := 1) rfl)) ?_
    refine Qde (cs := K15) Qcx Qcs rfl (by decide) (by decide) rfl (by kernel_rfl) (Qk rfl) (by decide) (fun p219 => ?_)
    refine ap1 Qaq 102 (.slice A65 x0.Ledger.length c66) x0.Ledger (⟨x0.Cursor, ((((gt x0.Store.Segments (x0.Cursor.toNat))).length : Nat) : Int), d105, d109, d113⟩ : Qbc) [iS Qa 3 A106 c107 d105, iS Qa 3 A110 c111 d109, iS Qa 3 A114 c115 d113] (iS Qa 3 A96 c97 (Qce x0) :: Qh p94 102 K15 :: Qh p69 39 K2 :: J55) K15 (pk [0, 8, 11, 12, 13, 1, 2, 3, 4, 5, 6, 7, 9, 10]) (fun _ _ hs => Els.single (Qmt (x := (⟨x0.Cursor, ((((gt x0.Store.Segments (x0.Cursor.toNat))).length : Nat) : Int), d105, d109, d113⟩ : Qbc)) hs)) Qcx Qcs (show (x0.Ledger.length + 1) * 88 ≤ 140737488355328 from by omega) (fun v220 => ?_)
    refine fm 0 ?_
    rintro A221 c222 rfl m223
    refine wv (vf Qz rfl Qfg) ?_
    refine sb 6 [.slice A49 x0.Store.Segments.length c50, iV x0.Store.Now, iV x0.Cursor, .slice A53 x0.Order.length c54, .slice A57 x0.Active.length c58, .slice A61 x0.Done.length c62, .slice A221 (Qqe x0 d105 d109 d113).length c222, iV x0.Steps] (iS Qaq 102 A221 c222 (Qqe x0 d105 d109 d113) :: iS Qa 3 A96 c97 (Qce x0) :: Qh p94 102 K15 :: J55) (pk [3, 0, 1, 2, 4, 5, 6, 7, 8, 9]) Qfg ?_
    refine Qac ?_
    exact Qfh ((Qqe x0 d105 d109 d113), (A221, c222)) sl3 (pk [1, 0, 4, 5, 6, 7, 8, 9]) (show (Qom x0 d105 d109 d113) = Sum.inr (Qqe x0 d105 d109 d113) from Qb g218 (rfl))
   refine Qm rfl g218 ?_
   refine Qp ?_
   exact Qfh (x0.Ledger, (A65, c66)) sl3 (pk [7, 2, 3, 4, 5, 6, 8, 9]) (show (Qom x0 d105 d109 d113) = Sum.inr x0.Ledger from Qc g218 (rfl))
  rintro ⟨E213, ⟨A214, c215⟩⟩ H225
  dsimp only at H225
  have hE226 := H225
  show QM 204 _ _ _ .normal [(1, bp p41), (2, bp p42), (4, bp p69)] (iS Qaq 102 A214 c215 E213 :: Qh p69 39 [.slice A49 x0.Store.Segments.length c50, iV x0.Store.Now, iV x0.Cursor, .slice A53 x0.Order.length c54, .slice A57 x0.Active.length c58, .slice A61 x0.Done.length c62, .slice A214 E213.length c215, iV x0.Steps] :: J55)
  refine Qnd (n := 0) rfl ?_
  intro m227 m228
  refine Qd (sr ?_)
  refine Qcf (E := Qah) Qax Qbe (Qk rfl) (by decide) (fun p229 => ?_)
  refine wa (nt' (Qe (sr ?_)))
  refine wv (vf Qz rfl Qcw) ?_
  refine wv (vl 2 4 Qax) ?_
  refine wv (Qag Qax) ?_
  refine wm (nt' (Qx ?_))
  refine Qdw (fun W hm => Mem.toRest (hm.pick [5, 0, 1, 2, 3, 4, 6, 7, 8] (by decide))) ?_
  refine Qbg (S := (List Qw) × (List Qav)) (R := Option Addr × Nat × Option Addr × Nat) (fun k (s : (List Qw) × (List Qav)) => Qrs x0 d116 k s.1 s.2) x0.Active.length 0 ([], x0.Done) ((sA p229), 0, A61, c62) (fun s => [(1, bp p41), (2, bp p42), (4, bp p69), (14, .slice s.2.2.1 s.2.1.1.length s.2.2.2.1), (145, .slice A57 x0.Active.length c58), (146, nI x0.Active.length), (147, nI s.1)]) (fun s => (Qhi Qah 61 A57 x0.Active.length d116 s.1 :: iS Qah 61 s.2.2.1 s.2.2.2.1 s.2.1.1 :: iS Qaq 102 A214 c215 E213 :: Qh p69 39 [.slice A49 x0.Store.Segments.length c50, iV x0.Store.Now, iV x0.Cursor, .slice A53 x0.Order.length c54, .slice A57 x0.Active.length c58, .slice s.2.2.2.2.1 s.2.1.2.length s.2.2.2.2.2, .slice A214 E213.length c215, iV x0.Steps] :: I24 :: iS Qa 3 A53 c54 x0.Order :: iS Qas 80 s.2.2.2.2.1 s.2.2.2.2.2 s.2.1.2 :: J47)) (fun s => s.2.1.1.length ≤ 0 + s.1 ∧ s.2.1.2.length ≤ x0.Done.length + s.1) sl7 ⟨Nat.le_refl _, Nat.le_refl _⟩ ?_
  rintro ⟨k231, ⟨d232, d236⟩, ⟨A233, c234, A237, c238⟩⟩ H241 _ _ e e'
  dsimp only at H241 ⊢
  subst e e'
  obtain ⟨hk239, hF240, hi242, hi243⟩ := H241
  refine sr ?_
  refine wv Qai ?_
  refine nt' (Qe ?_)
  rcases dcl k231 x0.Active.length with ⟨hl244, g245⟩ | ⟨hl244, g245⟩
  ·
   refine Ql rfl g245 ?_
   refine Qp (Qd (Qe (Qx (sr ?_))))
   refine Qrm (n := 0) rfl (by omega) ?_
   rintro g246 rfl
   refine wv (vix 10 k231 Qax Qbe) ?_
   let K16 : List Value := [.slice A49 x0.Store.Segments.length c50, iV x0.Store.Now, iV x0.Cursor, .slice A53 x0.Order.length c54, .slice (sA g246) x0.Active.length c58, .slice A237 d236.length c238, .slice A214 E213.length c215, iV x0.Steps]
   let J56 : List It := iS Qaq 102 A214 c215 E213 :: Qh p69 39 K16 :: I24 :: iS Qa 3 A53 c54 x0.Order :: iS Qas 80 A237 c238 d236 :: J47
   let J57 : List It := iS Qah 61 A233 c234 d232 :: J56
   refine Qrn (E := Qah) (e := 61) (A := (sA g246)) (n := x0.Active.length) (xs := d116) (k := k231) (js := J57) (by omega) idM (fun ck247 => ?_)
   refine Qof ?_
   rintro ⟨v248, v249, v250, v251⟩ rfl
   refine fm 0 ?_
   rintro A252 c253 rfl m254
   refine fm 1 ?_
   rintro A256 c257 rfl m258
   refine fm 2 ?_
   rintro A260 c261 rfl m262
   refine fm 3 ?_
   rintro A264 c265 rfl m266
   let K17 : List Value := [iV ((gt d116 k231).Query.Id), iV ((gt d116 k231).Query.Tenant), .slice A252 ((gt d116 k231).Query.Conds).length c253, .slice A256 ((gt d116 k231).Query.Out).length c257, iV ((gt d116 k231).Time), .slice A260 ((gt d116 k231).Todo).length c261, iV ((gt d116 k231).Age), iV ((gt d116 k231).Sent), iV ((gt d116 k231).Cap), .slice A264 ((gt d116 k231).Rows).length c265]
   refine wv (fun W hm => Qad (cs := K17) Qaj Qbe rfl rfl (hm.restCells (i := 4) rfl rfl)) ?_
   refine Qbm Qbe rfl (Qk rfl) (by decide) (fun p268 => ?_)
   let I38 : It := iS Qbl 180 A252 c253 ((gt d116 k231).Query.Conds)
   let I39 : It := iS Qa 3 A256 c257 ((gt d116 k231).Query.Out)
   let I40 : It := Qip Qah 61 (sA g246) x0.Active.length d116 k231 K17
   let J58 : List It := I38 :: I39 :: iS Qa 3 A260 c261 ((gt d116 k231).Todo) :: iS Qap 70 A264 c265 ((gt d116 k231).Rows) :: I40 :: J57
   refine sb 0 K17 J58 idM Qbe ?_
   refine nt' (sr ?_)
   refine wv (vf Qaj rfl Qf) ?_
   refine wv (vl 0 6 Qs) ?_
   refine wv Qcy ?_
   refine wv (vf Qaj rfl Qf) ?_
   let K18 : List Value := [iV ((gt d116 k231).Query.Id), iV ((gt d116 k231).Query.Tenant), .slice A252 ((gt d116 k231).Query.Conds).length c253, .slice A256 ((gt d116 k231).Query.Out).length c257, iV ((gt d116 k231).Time), .slice A260 ((gt d116 k231).Todo).length c261, iV (IntKind.i64.wrap (((gt d116 k231).Age) + 1)), iV ((gt d116 k231).Sent), iV ((gt d116 k231).Cap), .slice A264 ((gt d116 k231).Rows).length c265]
   refine sb 6 K18 J58 idM Qf ?_
   refine nt' (Qe (sr ?_))
   refine wv (vf Qaj rfl Qf) ?_
   refine wv (vl 0 6 Qs) ?_
   refine wv (vf Qz rfl Qbt) ?_
   refine wv (fun W hm => Qeb (o := 0) Qbw rfl Qea (by decide) rfl rfl) ?_
   refine wv (vl 13 0 Qbz) ?_
   refine wv (Qag Qbz) ?_
   refine wv (fun W hm => Qvd rfl rfl (by omega)) ?_
   refine wv (fun W hm => Qfe rfl rfl) ?_
   refine nt' ?_
   rcases dce (Int.tmod (IntKind.i64.wrap (((gt d116 k231).Age) + 1)) ((x0.Store.Segments.length : Nat) : Int)) 0 with ⟨h269, g270⟩ | ⟨h269, g270⟩
   ·
    refine Ql rfl g270 ?_
    refine Qy ?_
    refine wv (vf Qaj rfl Qf) ?_
    let K19 : List Value := [iV ((gt d116 k231).Query.Id), iV ((gt d116 k231).Query.Tenant), .slice A252 ((gt d116 k231).Query.Conds).length c253, .slice A256 ((gt d116 k231).Query.Out).length c257, iV ((gt d116 k231).Time), .slice A260 ((gt d116 k231).Todo).length c261, iV (IntKind.i64.wrap (((gt d116 k231).Age) + 1)), iV 0, iV ((gt d116 k231).Cap), .slice A264 ((gt d116 k231).Rows).length c265]
    refine sb 7 K19 J58 idM Qf ?_
    refine nt' (sr ?_)
    refine wv (vf Qaj rfl Qao) ?_
    refine wv (vl 0 5 Qq) ?_
    refine wv (Qag Qq) ?_
    refine wv (fun W hm => Qfe rfl rfl) ?_
    refine nt' ?_
    rcases dce ((((gt d116 k231).Todo).length : Nat) : Int) 0 with ⟨h271, g272⟩ | ⟨h271, g272⟩
    ·
     refine Ql rfl g272 ?_
     refine Qy ?_
     refine wv (vf Qz rfl Qek) ?_
     refine wv (vl 8 5 Qch) ?_
     refine wv (vf Qaj rfl Qbj) ?_
     refine wv (fun W hm => Qad (cs := [iV ((gt d116 k231).Query.Id), iV ((gt d116 k231).Query.Tenant), .slice A252 ((gt d116 k231).Query.Conds).length c253, .slice A256 ((gt d116 k231).Query.Out).length c257]) Qbq Qbj rfl rfl (hm.boxPart (n := 0) rfl rfl)) ?_
     refine wv (vf Qaj rfl Qf) ?_
     refine wv (vl 0 4 Qs) ?_
     refine wv (vf Qaj rfl Qf) ?_
     refine wv (vl 0 6 Qs) ?_
     refine wv (vf Qaj rfl Qdt) ?_
     refine wv (vl 0 9 Qci) ?_
     let K20 : List Value := [iV ((gt d116 k231).Query.Id), iV ((gt d116 k231).Query.Tenant), .slice A252 ((gt d116 k231).Query.Conds).length c253, .slice A256 ((gt d116 k231).Query.Out).length c257, iV ((gt d116 k231).Time), iV (IntKind.i64.wrap (((gt d116 k231).Age) + 1)), .slice A264 ((gt d116 k231).Rows).length c265]
     refine wv (fun W hm => Qef (cs := K20) rfl (by kernel_rfl)) ?_
     refine Qde (cs := K20) Qch Qcq rfl (by decide) (by decide) rfl (by kernel_rfl) (Qk rfl) (by decide) (fun p273 => ?_)
     refine ap1 Qas 80 (.slice A237 d236.length c238) d236 (⟨(gt d116 k231).Query, (gt d116 k231).Time, (IntKind.i64.wrap (((gt d116 k231).Age) + 1)), (gt d116 k231).Rows⟩ : Qav) [I38, I39, iS Qap 70 A264 c265 ((gt d116 k231).Rows)] (Qh p268 61 K19 :: iS Qa 3 A260 c261 ((gt d116 k231).Todo) :: I40 :: iS Qah 61 A233 c234 d232 :: iS Qaq 102 A214 c215 E213 :: Qh p69 39 K16 :: I24 :: iS Qa 3 A53 c54 x0.Order :: J47) K20 (pk [0, 12, 2, 3, 5, 1, 4, 6, 7, 8, 9, 10, 11, 13, 14]) (fun _ _ hs => Els.single (Qly (x := (⟨(gt d116 k231).Query, (gt d116 k231).Time, (IntKind.i64.wrap (((gt d116 k231).Age) + 1)), (gt d116 k231).Rows⟩ : Qav)) hs)) Qch Qcq (show (d236.length + 1) * 104 ≤ 140737488355328 from by omega) (fun v274 => ?_)
     refine fm 0 ?_
     rintro A275 c276 rfl m277
     refine wv (vf Qz rfl Qek) ?_
     refine sb 5 [.slice A49 x0.Store.Segments.length c50, iV x0.Store.Now, iV x0.Cursor, .slice A53 x0.Order.length c54, .slice (sA g246) x0.Active.length c58, .slice A275 (Qkn d116 k231 d236).length c276, .slice A214 E213.length c215, iV x0.Steps] (iS Qas 80 A275 c276 (Qkn d116 k231 d236) :: Qh p268 61 K19 :: iS Qa 3 A260 c261 ((gt d116 k231).Todo) :: I40 :: iS Qah 61 A233 c234 d232 :: iS Qaq 102 A214 c215 E213 :: I24 :: iS Qa 3 A53 c54 x0.Order :: J47) (pk [6, 0, 1, 2, 3, 4, 5, 7, 8, 9, 10]) Qek ?_
     refine Qac (Qam (Qd (Qy ?_)))
     refine wv (Qal k231 1 (by omega)) ?_
     refine wm (Qac ?_)
     refine Qdd (fun W hm => Mem.restNext (hm.pick [4, 0, 1, 2, 3, 5, 6, 7, 8, 9, 10] (by decide))) ?_
     exact Qan (k231 + 1, (d232, (Qkn d116 k231 d236)), (A233, c234, A275, c276)) sl7 (pk [0, 5, 6, 1, 7, 8, 2, 9, 10]) ⟨(by omega), nx hF240 (Qb g270 (Qb g272 (rfl))), (show d232.length ≤ 0 + (k231 + 1) from by first | omega | (simp only [List.length_append, List.length_cons, List.length_nil] at *; omega)), (show (Qkn d116 k231 d236).length ≤ x0.Done.length + (k231 + 1) from by first | omega | (simp only [List.length_append, List.length_cons, List.length_nil] at *; omega))⟩ rl
    refine Qm rfl g272 ?_
    refine Qy (wm ?_)
    refine wv (fun W hm => Qad (cs := K19) Qaj Qbe rfl rfl (hm.boxCells (n := 0) rfl)) ?_
    refine Qde (cs := K19) Qax Qbe rfl (by decide) (by decide) rfl (by kernel_rfl) (Qk rfl) (by decide) (fun p280 => ?_)
    refine ap1 Qah 61 (.slice A233 d232.length c234) d232 (⟨(gt d116 k231).Query, (gt d116 k231).Time, (gt d116 k231).Todo, (IntKind.i64.wrap (((gt d116 k231).Age) + 1)), 0, (gt d116 k231).Cap, (gt d116 k231).Rows⟩ : Qw) [I38, I39, iS Qa 3 A260 c261 ((gt d116 k231).Todo), iS Qap 70 A264 c265 ((gt d116 k231).Rows)] (Qh p268 61 K19 :: I40 :: J56) K19 (pk [0, 7, 2, 3, 4, 5, 1, 6, 8, 9, 10, 11, 12, 13, 14]) (fun _ _ hs => Els.single (Qho (x := (⟨(gt d116 k231).Query, (gt d116 k231).Time, (gt d116 k231).Todo, (IntKind.i64.wrap (((gt d116 k231).Age) + 1)), 0, (gt d116 k231).Cap, (gt d116 k231).Rows⟩ : Qw)) hs)) Qax Qbe (show (d232.length + 1) * 144 ≤ 140737488355328 from by omega) (fun v281 => ?_)
    refine fm 0 ?_
    rintro A282 c283 rfl m284
    refine wa (Qac (Qam (Qd (Qy ?_))))
    refine wv (Qal k231 1 (by omega)) ?_
    refine wm (Qac ?_)
    refine Qdd (fun W hm => Mem.restNext (hm.pick [2, 0, 1, 3, 4, 5, 6, 7, 8, 9] (by decide))) ?_
    exact Qan (k231 + 1, ((Quj d116 k231 d232), d236), (A282, c283, A237, c238)) sl7 (pk [0, 1, 3, 4, 5, 6, 7, 8, 9]) ⟨(by omega), nx hF240 (Qb g270 (Qc g272 (rfl))), (show (Quj d116 k231 d232).length ≤ 0 + (k231 + 1) from by first | omega | (simp only [List.length_append, List.length_cons, List.length_nil] at *; omega)), (show d236.length ≤ x0.Done.length + (k231 + 1) from by first | omega | (simp only [List.length_append, List.length_cons, List.length_nil] at *; omega))⟩ rl
   refine Qm rfl g270 ?_
   refine Qp (Qd (sr ?_))
   refine wv (vf Qaj rfl Qao) ?_
   refine wv (vl 0 5 Qq) ?_
   refine wv (Qag Qq) ?_
   refine wv (fun W hm => Qfe rfl rfl) ?_
   refine nt' ?_
   rcases dce ((((gt d116 k231).Todo).length : Nat) : Int) 0 with ⟨h287, g288⟩ | ⟨h287, g288⟩
   ·
    refine Ql rfl g288 ?_
    refine Qy ?_
    refine wv (vf Qz rfl Qek) ?_
    refine wv (vl 8 5 Qch) ?_
    refine wv (vf Qaj rfl Qbj) ?_
    refine wv (fun W hm => Qad (cs := [iV ((gt d116 k231).Query.Id), iV ((gt d116 k231).Query.Tenant), .slice A252 ((gt d116 k231).Query.Conds).length c253, .slice A256 ((gt d116 k231).Query.Out).length c257]) Qbq Qbj rfl rfl (hm.boxPart (n := 0) rfl rfl)) ?_
    refine wv (vf Qaj rfl Qf) ?_
    refine wv (vl 0 4 Qs) ?_
    refine wv (vf Qaj rfl Qf) ?_
    refine wv (vl 0 6 Qs) ?_
    refine wv (vf Qaj rfl Qdt) ?_
    refine wv (vl 0 9 Qci) ?_
    let K21 : List Value := [iV ((gt d116 k231).Query.Id), iV ((gt d116 k231).Query.Tenant), .slice A252 ((gt d116 k231).Query.Conds).length c253, .slice A256 ((gt d116 k231).Query.Out).length c257, iV ((gt d116 k231).Time), iV (IntKind.i64.wrap (((gt d116 k231).Age) + 1)), .slice A264 ((gt d116 k231).Rows).length c265]
    refine wv (fun W hm => Qef (cs := K21) rfl (by kernel_rfl)) ?_
    refine Qde (cs := K21) Qch Qcq rfl (by decide) (by decide) rfl (by kernel_rfl) (Qk rfl) (by decide) (fun p289 => ?_)
    refine ap1 Qas 80 (.slice A237 d236.length c238) d236 (⟨(gt d116 k231).Query, (gt d116 k231).Time, (IntKind.i64.wrap (((gt d116 k231).Age) + 1)), (gt d116 k231).Rows⟩ : Qav) [I38, I39, iS Qap 70 A264 c265 ((gt d116 k231).Rows)] (Qh p268 61 K18 :: iS Qa 3 A260 c261 ((gt d116 k231).Todo) :: I40 :: iS Qah 61 A233 c234 d232 :: iS Qaq 102 A214 c215 E213 :: Qh p69 39 K16 :: I24 :: iS Qa 3 A53 c54 x0.Order :: J47) K21 (pk [0, 12, 2, 3, 5, 1, 4, 6, 7, 8, 9, 10, 11, 13, 14]) (fun _ _ hs => Els.single (Qly (x := (⟨(gt d116 k231).Query, (gt d116 k231).Time, (IntKind.i64.wrap (((gt d116 k231).Age) + 1)), (gt d116 k231).Rows⟩ : Qav)) hs)) Qch Qcq (show (d236.length + 1) * 104 ≤ 140737488355328 from by omega) (fun v290 => ?_)
    refine fm 0 ?_
    rintro A291 c292 rfl m293
    refine wv (vf Qz rfl Qek) ?_
    refine sb 5 [.slice A49 x0.Store.Segments.length c50, iV x0.Store.Now, iV x0.Cursor, .slice A53 x0.Order.length c54, .slice (sA g246) x0.Active.length c58, .slice A291 (Qkn d116 k231 d236).length c292, .slice A214 E213.length c215, iV x0.Steps] (iS Qas 80 A291 c292 (Qkn d116 k231 d236) :: Qh p268 61 K18 :: iS Qa 3 A260 c261 ((gt d116 k231).Todo) :: I40 :: iS Qah 61 A233 c234 d232 :: iS Qaq 102 A214 c215 E213 :: I24 :: iS Qa 3 A53 c54 x0.Order :: J47) (pk [6, 0, 1, 2, 3, 4, 5, 7, 8, 9, 10]) Qek ?_
    refine Qac (Qam (Qd (Qy ?_)))
    refine wv (Qal k231 1 (by omega)) ?_
    refine wm (Qac ?_)
    refine Qdd (fun W hm => Mem.restNext (hm.pick [4, 0, 1, 2, 3, 5, 6, 7, 8, 9, 10] (by decide))) ?_
    exact Qan (k231 + 1, (d232, (Qkn d116 k231 d236)), (A233, c234, A291, c292)) sl7 (pk [0, 5, 6, 1, 7, 8, 2, 9, 10]) ⟨(by omega), nx hF240 (Qc g270 (Qb g288 (rfl))), (show d232.length ≤ 0 + (k231 + 1) from by first | omega | (simp only [List.length_append, List.length_cons, List.length_nil] at *; omega)), (show (Qkn d116 k231 d236).length ≤ x0.Done.length + (k231 + 1) from by first | omega | (simp only [List.length_append, List.length_cons, List.length_nil] at *; omega))⟩ rl
   refine Qm rfl g288 ?_
   refine Qy (wm ?_)
   refine wv (fun W hm => Qad (cs := K18) Qaj Qbe rfl rfl (hm.boxCells (n := 0) rfl)) ?_
   refine Qde (cs := K18) Qax Qbe rfl (by decide) (by decide) rfl (by kernel_rfl) (Qk rfl) (by decide) (fun p296 => ?_)
   refine ap1 Qah 61 (.slice A233 d232.length c234) d232 (⟨(gt d116 k231).Query, (gt d116 k231).Time, (gt d116 k231).Todo, (IntKind.i64.wrap (((gt d116 k231).Age) + 1)), (gt d116 k231).Sent, (gt d116 k231).Cap, (gt d116 k231).Rows⟩ : Qw) [I38, I39, iS Qa 3 A260 c261 ((gt d116 k231).Todo), iS Qap 70 A264 c265 ((gt d116 k231).Rows)] (Qh p268 61 K18 :: I40 :: J56) K18 (pk [0, 7, 2, 3, 4, 5, 1, 6, 8, 9, 10, 11, 12, 13, 14]) (fun _ _ hs => Els.single (Qho (x := (⟨(gt d116 k231).Query, (gt d116 k231).Time, (gt d116 k231).Todo, (IntKind.i64.wrap (((gt d116 k231).Age) + 1)), (gt d116 k231).Sent, (gt d116 k231).Cap, (gt d116 k231).Rows⟩ : Qw)) hs)) Qax Qbe (show (d232.length + 1) * 144 ≤ 140737488355328 from by omega) (fun v297 => ?_)
   refine fm 0 ?_
   rintro A298 c299 rfl m300
   refine wa (Qac (Qam (Qd (Qy ?_))))
   refine wv (Qal k231 1 (by omega)) ?_
   refine wm (Qac ?_)
   refine Qdd (fun W hm => Mem.restNext (hm.pick [2, 0, 1, 3, 4, 5, 6, 7, 8, 9] (by decide))) ?_
   exact Qan (k231 + 1, ((Quk d116 k231 d232), d236), (A298, c299, A237, c238)) sl7 (pk [0, 1, 3, 4, 5, 6, 7, 8, 9]) ⟨(by omega), nx hF240 (Qc g270 (Qc g288 (rfl))), (show (Quk d116 k231 d232).length ≤ 0 + (k231 + 1) from by first | omega | (simp only [List.length_append, List.length_cons, List.length_nil] at *; omega)), (show d236.length ≤ x0.Done.length + (k231 + 1) from by first | omega | (simp only [List.length_append, List.length_cons, List.length_nil] at *; omega))⟩ rl
  refine Qm rfl g245 ?_
  refine Qay (Qu (Qu ?_))
  have hE303 := Qbh hl244 hF240
  refine Qaz (Qd (sr (wm ?_)))
  refine wv (vf Qz rfl Qcw) ?_
  let I41 : It := Qhi Qah 61 A57 x0.Active.length d116 k231
  let J59 : List It := I41 :: iS Qah 61 A233 c234 d232 :: iS Qaq 102 A214 c215 E213 :: I24 :: iS Qa 3 A53 c54 x0.Order :: iS Qas 80 A237 c238 d236 :: J47
  refine sb 4 [.slice A49 x0.Store.Segments.length c50, iV x0.Store.Now, iV x0.Cursor, .slice A53 x0.Order.length c54, .slice A233 d232.length c234, .slice A237 d236.length c238, .slice A214 E213.length c215, iV x0.Steps] J59 (pk [3, 0, 1, 2, 4, 5, 6, 7, 8]) Qcw ?_
  refine nt' (sr ?_)
  refine wv (vf Qz rfl Qf) ?_
  refine wv (vl 8 2 Qs) ?_
  refine wv Qcy ?_
  refine wv (vf Qz rfl Qbt) ?_
  refine wv (fun W hm => Qeb (o := 0) Qbw rfl Qea (by decide) rfl rfl) ?_
  refine wv (vl 8 0 Qbz) ?_
  refine wv (Qag Qbz) ?_
  refine wv (fun W hm => Qvd rfl rfl (by omega)) ?_
  refine wv (vf Qz rfl Qf) ?_
  refine sb 2 [.slice A49 x0.Store.Segments.length c50, iV x0.Store.Now, iV (Int.tmod (IntKind.i64.wrap (x0.Cursor + 1)) ((x0.Store.Segments.length : Nat) : Int)), .slice A53 x0.Order.length c54, .slice A233 d232.length c234, .slice A237 d236.length c238, .slice A214 E213.length c215, iV x0.Steps] J59 idM Qf ?_
  refine nt' (sr ?_)
  refine wv (vf Qz rfl Qf) ?_
  refine wv (vl 0 7 Qs) ?_
  refine wv Qcy ?_
  refine wv (vf Qz rfl Qf) ?_
  let K22 : List Value := [.slice A49 x0.Store.Segments.length c50, iV x0.Store.Now, iV (Int.tmod (IntKind.i64.wrap (x0.Cursor + 1)) ((x0.Store.Segments.length : Nat) : Int)), .slice A53 x0.Order.length c54, .slice A233 d232.length c234, .slice A237 d236.length c238, .slice A214 E213.length c215, iV (IntKind.i64.wrap (x0.Steps + 1))]
  refine sb 7 K22 J59 idM Qf ?_
  refine nt' (sr ?_)
  refine wv (fun W hm => Qad (cs := K22) Qz Qbd rfl rfl (hm.boxCells (n := 0) rfl)) ?_
  let J60 : List It := Qh p69 39 K22 :: I41 :: J47
  refine Qkj (js := (Qn Qcb K22 (⟨x0.Store, (Int.tmod (IntKind.i64.wrap (x0.Cursor + 1)) ((x0.Store.Segments.length : Nat) : Int)), x0.Order, d232, d236, E213, (IntKind.i64.wrap (x0.Steps + 1))⟩ : Qo) :: J60)) (fun W hm => Mem.join (is := [I24, iS Qa 3 A53 c54 x0.Order, iS Qah 61 A233 c234 d232, iS Qas 80 A237 c238 d236, iS Qaq 102 A214 c215 E213]) (js := J60) (fun _ _ hs => Qfk (x := (⟨x0.Store, (Int.tmod (IntKind.i64.wrap (x0.Cursor + 1)) ((x0.Store.Segments.length : Nat) : Int)), x0.Order, d232, d236, E213, (IntKind.i64.wrap (x0.Steps + 1))⟩ : Qo)) hs) (hm.pick [4, 5, 2, 6, 3, 0, 1, 7, 8] (by decide))) ?_
  refine Qpu (χ := List Value) (val := fun x => .agg x.toArray) (js := fun x => (Qn Qcb x (Qfw (⟨x0.Store, (Int.tmod (IntKind.i64.wrap (x0.Cursor + 1)) ((x0.Store.Segments.length : Nat) : Int)), x0.Order, d232, d236, E213, (IntKind.i64.wrap (x0.Steps + 1))⟩ : Qo)) :: J60)) (Qr cb72 rfl) (fun W hm => Qaue w.heap.size w J60 W K22 (⟨x0.Store, (Int.tmod (IntKind.i64.wrap (x0.Cursor + 1)) ((x0.Store.Segments.length : Nat) : Int)), x0.Order, d232, d236, E213, (IntKind.i64.wrap (x0.Steps + 1))⟩ : Qo)  ⟨s_0.1, (show d232.length ≤ 68719476736 from by omega)⟩ hm) (Qk rfl) (by decide) (fun z304 => ?_)
  refine Qhf ?_
  rintro ⟨v305, v306, v307, v308, v309⟩ rfl
  refine fm 0 ?_
  rintro A310 c311 rfl m312
  refine fm 1 ?_
  rintro A314 c315 rfl m316
  refine fm 2 ?_
  rintro A318 c319 rfl m320
  refine fm 3 ?_
  rintro A322 c323 rfl m324
  refine fm 4 ?_
  rintro A326 c327 rfl m328
  let K23 : List Value := [.slice A310 ((Qfw (⟨x0.Store, (Int.tmod (IntKind.i64.wrap (x0.Cursor + 1)) ((x0.Store.Segments.length : Nat) : Int)), x0.Order, d232, d236, E213, (IntKind.i64.wrap (x0.Steps + 1))⟩ : Qo)).Store.Segments).length c311, iV ((Qfw (⟨x0.Store, (Int.tmod (IntKind.i64.wrap (x0.Cursor + 1)) ((x0.Store.Segments.length : Nat) : Int)), x0.Order, d232, d236, E213, (IntKind.i64.wrap (x0.Steps + 1))⟩ : Qo)).Store.Now), iV ((Qfw (⟨x0.Store, (Int.tmod (IntKind.i64.wrap (x0.Cursor + 1)) ((x0.Store.Segments.length : Nat) : Int)), x0.Order, d232, d236, E213, (IntKind.i64.wrap (x0.Steps + 1))⟩ : Qo)).Cursor), .slice A314 ((Qfw (⟨x0.Store, (Int.tmod (IntKind.i64.wrap (x0.Cursor + 1)) ((x0.Store.Segments.length : Nat) : Int)), x0.Order, d232, d236, E213, (IntKind.i64.wrap (x0.Steps + 1))⟩ : Qo)).Order).length c315, .slice A318 ((Qfw (⟨x0.Store, (Int.tmod (IntKind.i64.wrap (x0.Cursor + 1)) ((x0.Store.Segments.length : Nat) : Int)), x0.Order, d232, d236, E213, (IntKind.i64.wrap (x0.Steps + 1))⟩ : Qo)).Active).length c319, .slice A322 ((Qfw (⟨x0.Store, (Int.tmod (IntKind.i64.wrap (x0.Cursor + 1)) ((x0.Store.Segments.length : Nat) : Int)), x0.Order, d232, d236, E213, (IntKind.i64.wrap (x0.Steps + 1))⟩ : Qo)).Done).length c323, .slice A326 ((Qfw (⟨x0.Store, (Int.tmod (IntKind.i64.wrap (x0.Cursor + 1)) ((x0.Store.Segments.length : Nat) : Int)), x0.Order, d232, d236, E213, (IntKind.i64.wrap (x0.Steps + 1))⟩ : Qo)).Ledger).length c327, iV ((Qfw (⟨x0.Store, (Int.tmod (IntKind.i64.wrap (x0.Cursor + 1)) ((x0.Store.Segments.length : Nat) : Int)), x0.Order, d232, d236, E213, (IntKind.i64.wrap (x0.Steps + 1))⟩ : Qo)).Steps)]
  let I42 : It := iS (tSl Qaf 163) 100 A310 c311 ((Qfw (⟨x0.Store, (Int.tmod (IntKind.i64.wrap (x0.Cursor + 1)) ((x0.Store.Segments.length : Nat) : Int)), x0.Order, d232, d236, E213, (IntKind.i64.wrap (x0.Steps + 1))⟩ : Qo)).Store.Segments)
  let I43 : It := iS Qa 3 A314 c315 ((Qfw (⟨x0.Store, (Int.tmod (IntKind.i64.wrap (x0.Cursor + 1)) ((x0.Store.Segments.length : Nat) : Int)), x0.Order, d232, d236, E213, (IntKind.i64.wrap (x0.Steps + 1))⟩ : Qo)).Order)
  let I44 : It := iS Qah 61 A318 c319 ((Qfw (⟨x0.Store, (Int.tmod (IntKind.i64.wrap (x0.Cursor + 1)) ((x0.Store.Segments.length : Nat) : Int)), x0.Order, d232, d236, E213, (IntKind.i64.wrap (x0.Steps + 1))⟩ : Qo)).Active)
  let I45 : It := iS Qas 80 A322 c323 ((Qfw (⟨x0.Store, (Int.tmod (IntKind.i64.wrap (x0.Cursor + 1)) ((x0.Store.Segments.length : Nat) : Int)), x0.Order, d232, d236, E213, (IntKind.i64.wrap (x0.Steps + 1))⟩ : Qo)).Done)
  let I46 : It := iS Qaq 102 A326 c327 ((Qfw (⟨x0.Store, (Int.tmod (IntKind.i64.wrap (x0.Cursor + 1)) ((x0.Store.Segments.length : Nat) : Int)), x0.Order, d232, d236, E213, (IntKind.i64.wrap (x0.Steps + 1))⟩ : Qo)).Ledger)
  refine sb 0 K23 [I42, I43, I44, I45, I46, Qh p69 39 K22, I41, Qh p41 39 K5] (pk [7, 0, 1, 2, 3, 4, 5, 6, 8]) Qbd ?_
  refine wa (nt' (Qj ?_))
  have he330 := (show Qez x0 = ((Qfw (⟨x0.Store, (Int.tmod (IntKind.i64.wrap (x0.Cursor + 1)) ((x0.Store.Segments.length : Nat) : Int)), x0.Order, d232, d236, E213, (IntKind.i64.wrap (x0.Steps + 1))⟩ : Qo)), true) from Qb g71 (Qc g73 (Qc g76 (Qc g79 (Qar hE212 (Qar hE226 (Qar hE303 (rfl))))))))
  refine Qic rfl (Qdp (n := 0) rfl rfl Qz Qbd rfl) (Qdl rfl) (fun W hm => ⟨K23, ?_, ?_⟩)
  ·first | rw [he330] | rfl
   try rfl
  rw [he330]; exact Mem.join (is := [I42, I43, I44, I45, I46]) (js := []) (fun _ _ hs => Qfk (x := (Qfw (⟨x0.Store, (Int.tmod (IntKind.i64.wrap (x0.Cursor + 1)) ((x0.Store.Segments.length : Nat) : Int)), x0.Order, d232, d236, E213, (IntKind.i64.wrap (x0.Steps + 1))⟩ : Qo))) hs) (hm.pick [1, 2, 3, 4, 5] (by decide))
 refine ws (nf g71) ?_
 refine ws (nf g71) ?_
 refine ws (nf g71) ?_
 iterate 17 first | refine wv (vpT (nf g71)) ?_ | refine wm ?_ | refine wk ?_ | refine wv (vpT rfl) ?_
 refine nt' ?_
 refine Ql rfl rfl ?_
 refine sr ?_
 refine wv (fun W hm => Qad (cs := K2) Qz Qbd rfl rfl (hm.boxCells (n := 0) rfl)) ?_
 refine sb 0 K2 [Qh p69 39 K2, I24, iS Qa 3 A53 c54 x0.Order, iS Qah 61 A57 c58 x0.Active, iS Qas 80 A61 c62 x0.Done, iS Qaq 102 A65 c66 x0.Ledger, Qh p41 39 K1] (pk [6, 0, 1, 2, 3, 4, 5, 7]) Qbd ?_
 refine wa (nt' (Qj (Qg ?_)))
 have he331 := (show Qez x0 = (x0, false) from Qc g71 (rfl))
 refine Qic rfl (Qdp (n := 0) rfl rfl Qz Qbd rfl) (Qdl rfl) (fun W hm => ⟨K2, ?_, ?_⟩)
 ·first | rw [he331] | rfl
  try rfl
 rw [he331]; exact Mem.join (is := [I24, iS Qa 3 A53 c54 x0.Order, iS Qah 61 A57 c58 x0.Active, iS Qas 80 A61 c62 x0.Done, iS Qaq 102 A65 c66 x0.Ledger]) (js := []) (fun _ _ hs => Qfk (x := x0) hs) (hm.pick [2, 3, 4, 5, 6] (by decide))

theorem Qaui (v : Qt) (x : List Int) : Qru v x = Qfi x v := by
  unfold Qru Qfi
  rw [Quz (p := fun t => Qge v t) (r := true) (fun j _ => by unfold Qyx; rfl)]
  cases x.any (fun t => Qge v t) <;> rfl
theorem Qasx (x : List Int) (k : Nat) (d : List (List Qt)) : Qui x k d = .inr (d.set k ((gt d k).filter (Qfi x))) := by
  unfold Qui
  rw [Qgv (xs := gt d k) (f := fun e v => cond (Qfi x v) (e ++ [v]) e) (fun j s _ => by unfold Qyh; rw [Qaui]; cases Qfi x (gt (gt d k) j) <;> rfl)]
  show Sum.inr (d.set k _) = _
  rw [Qaet]
  rfl
theorem Qazo {R : Type} (xs : List (List Qt)) (b : Nat → Int → R ⊕ Int) (hb : ∀ j s, b j s = .inr (IntKind.i64.wrap (s + ((gt xs j).length : Nat)))) : rng b (xs.length - 0) 0 0 = .inr (Qdx 0 (xs.map List.length).sum) := by
  have h : ∀ (l : List (List Qt)) (s : Int), l.foldl (fun (s : Int) v => IntKind.i64.wrap (s + (v.length : Nat))) (Qdx s 0) = Qdx s (l.map List.length).sum := by
    intro l
    induction l with
    | nil => intro s; rfl
    | cons v l ih =>
      intro s
      have e1 : IntKind.i64.wrap (Qdx s 0 + (v.length : Nat)) = Qdx (Qdx s v.length) 0 := by
        unfold Qdx
        simp only [IntKind.wrap_i64]
        omega
      rw [List.foldl_cons, e1, ih, Qnk]
      simp
  rw [Qgv (xs := xs) (f := fun (s : Int) v => IntKind.i64.wrap (s + (v.length : Nat))) (fun j s _ => hb j s)]
  exact congrArg Sum.inr (h xs 0)
theorem Qaca (x : Qau) : Qok x = Qdx 0 (x.Segments.map List.length).sum := by
  unfold Qok
  rw [Qazo x.Segments _ (fun j s => by unfold Qxz; rfl)]
  rfl
theorem Qafi (x : Qau) (y : List Int) (h : Qlr x = true) : Qgs x y = (⟨Qfq y x.Segments, x.Now⟩, Qdx 0 ((x.Segments.map List.length).sum - ((Qfq y x.Segments).map List.length).sum)) := by
  unfold Qgs
  rw [h, cond_true, Qazn (xs := x.Segments) (f := fun l => l.filter (Qfi y)) (fun j s _ he => by rw [Qasx, he])]
  show ((⟨Qfq y x.Segments, x.Now⟩ : Qau), _) = _
  congr 1
  rw [Qaca, Qaca]
  have := (Qaag y x.Segments).1
  show IntKind.i64.wrap (Qdx 0 (x.Segments.map List.length).sum - Qdx 0 ((Qfq y x.Segments).map List.length).sum) = _
  unfold Qdx
  simp only [IntKind.wrap_i64]
  omega
theorem Qalv (x : Qau) (y : List Int) : Qgs x y = Qga x y := by
  cases h : Qji x with
  | true => rw [Qafi x y (by rw [Qws]; exact h), Qaii x y h]
  | false =>
    unfold Qgs Qga
    rw [Qws, h]
    rfl
theorem Qahe (e : Qo) : Qfw e = Qld e := by
  unfold Qfw Qld
  rw [Qgv (R := Qo) (xs := e.Active) (f := fun d a => d ++ [a.Time]) (b := fun k s => Quq e k s) (fun _ _ _ => rfl), Qgv (R := Qo) (xs := e.Active) (f := fun d a => d ++ [a.Time]) (b := fun k s => Qvy e k s) (fun _ _ _ => rfl)]
  show (⟨(Qgs e.Store _).1, _, _, _, _, _, _⟩ : Qo) = _
  rw [Qalv]
  rfl
theorem Qasu {q : Qat} {r : Qab} (hq : Qff q = true) (hr : Qgn r = true) : Qrr q r = Qid r 3 q := by
  unfold Qrr
  rw [Qwr, hq, show Qml r = Qgn r from rfl, hr, ((Qpr r).1 hr).2.2]
  rw [Qjb (p := fun k => Qnf q ((k : Nat) : Int) (gt r.Values k)) (r := false) (fun k _ => by
    unfold Qyg
    rw [show Qul q ((k : Nat) : Int) (gt r.Values k) = Qjk q ((k : Nat) : Int) (gt r.Values k) from rfl, Qabx])]
  unfold Qid
  cases (List.range 3).all fun k => Qnf q ((k : Nat) : Int) (gt r.Values k) <;> rfl
theorem Qxt {α : Type} (p : α → Bool) : ∀ (L : List α) (n : Nat) (d : List α), n + L.length ≤ 1000 → L.foldl (fun (s : Int × List α) r => cond (p r) (IntKind.i64.wrap (s.1 + 1), s.2 ++ [r]) s) (((n : Nat) : Int), d) = (((n + (L.filter p).length : Nat) : Int), d ++ L.filter p)
  | [], n, d, _ => by simp
  | r :: L, n, d, h => by
    rw [List.length_cons] at h
    rw [List.foldl_cons]
    cases hp : p r with
    | true =>
      have e : IntKind.i64.wrap (((n : Nat) : Int) + 1) = (((n + 1 : Nat)) : Int) := by rw [Qeu (by omega) (by omega)]; omega
      rw [cond_true, e, Qxt p L (n + 1) _ (by omega), List.filter_cons_of_pos hp, List.length_cons, List.append_assoc]
      rw [show n + 1 + (L.filter p).length = n + ((L.filter p).length + 1) by omega]
      rfl
    | false =>
      rw [cond_false, Qxt p L n d (by omega), List.filter_cons_of_neg (by rw [hp]; exact Bool.false_ne_true)]
theorem Qbai (p : Qt → Bool) (r : Qab → Bool) (l : List Qt) : (Qht p l).filter r = Qht (fun v => r (⟨v.Id, v.Values⟩ : Qab) && p v) l := by
  unfold Qht
  rw [List.filter_map, List.filter_filter]
  rfl
theorem Qamj {x : Qo} (h : Eng x) {k : Nat} {d : List Qw} (hq : (gt d (Qei x (gt (Qce x) k)).toNat) ∈ x.Active) :
    rng (R := (Qo × Bool)) (fun j (s : Int × (List Qab)) => Qqc x k d j s.1 s.2) ((Qdk x.Store x.Cursor ((gt d ((Qei x (gt (Qce x) k)).toNat)).Time)).length - 0) 0 (0, (gt d ((Qei x (gt (Qce x) k)).toNat)).Rows)
      = .inr ((((Qkb x (gt d (Qei x (gt (Qce x) k)).toNat)).length : Nat) : Int), (gt d ((Qei x (gt (Qce x) k)).toNat)).Rows ++ Qkb x (gt d (Qei x (gt (Qce x) k)).toNat)) := by
  have hc := h.cur
  have hseg : ∀ t, Qdk x.Store x.Cursor t = Qht (fun v => Qge v t) (Qfs x) := fun t => by
    have := Qahs x.Store x.Cursor.toNat t
    rw [Int.toNat_of_nonneg hc.1] at this
    exact this
  have h4 := Qahr h (gt d ((Qei x (gt (Qce x) k)).toNat)).Time
  rw [Qgv (xs := Qdk x.Store x.Cursor ((gt d ((Qei x (gt (Qce x) k)).toNat)).Time)) (f := fun (s : Int × List Qab) r => cond (Qid r 3 (gt d ((Qei x (gt (Qce x) k)).toNat)).Query) (IntKind.i64.wrap (s.1 + 1), s.2 ++ [r]) s) (b := fun j (s : Int × (List Qab)) => Qqc x k d j s.1 s.2) (fun j s hj => by
    show Qqc x k d j s.1 s.2 = _
    unfold Qqc
    have hr : Qgn (gt (Qdk x.Store x.Cursor ((gt d ((Qei x (gt (Qce x) k)).toNat)).Time)) j) = true := by
      have hm := Qak hj
      rw [hseg] at hm ⊢
      obtain ⟨v, hv, he⟩ := List.mem_map.1 hm
      rw [← he]
      exact Qaao h (List.mem_filter.1 hv).1
    rw [Qasu (h.act _ hq).1 hr]
    cases Qid (gt (Qdk x.Store x.Cursor ((gt d ((Qei x (gt (Qce x) k)).toNat)).Time)) j) 3 (gt d ((Qei x (gt (Qce x) k)).toNat)).Query <;> rfl)]
  have e := Qxt (fun r => Qid r 3 (gt d ((Qei x (gt (Qce x) k)).toNat)).Query) (Qdk x.Store x.Cursor ((gt d ((Qei x (gt (Qce x) k)).toNat)).Time)) 0 ((gt d ((Qei x (gt (Qce x) k)).toNat)).Rows) (by omega)
  have e2 : (Qdk x.Store x.Cursor ((gt d ((Qei x (gt (Qce x) k)).toNat)).Time)).filter (fun r => Qid r 3 (gt d ((Qei x (gt (Qce x) k)).toNat)).Query) = Qkb x (gt d ((Qei x (gt (Qce x) k)).toNat)) := by
    rw [hseg, Qbai]
    rfl
  rw [e2, Nat.zero_add] at e
  exact congrArg Sum.inr e
theorem Qamk {x : Qo} (h : Eng x) : rng (R := (Qo × Bool)) (fun k (s : (List Int) × (List Int) × (List Int) × (List Qw)) => Qqb x k s.1 s.2.1 s.2.2.1 s.2.2.2) ((Qce x).length - 0) 0 ([], [], [], x.Active) = .inr (Qba x, Qms x (Qba x), Qmj x (Qba x), Qeq x (Qba x)) := by
  have hps := Qace x (Qacc h)
  have h8 := Qrl h
  obtain ⟨s, e2, h0, h1, h2, h3⟩ := Qky (R := (Qo × Bool)) (body := fun k (s : (List Int) × (List Int) × (List Int) × (List Qw)) => Qqb x k s.1 s.2.1 s.2.2.1 s.2.2.2) (n := (Qce x).length)
    (fun k s => s.1 = (Qba x).take k ∧ s.2.1 = Qms x ((Qba x).take k) ∧ s.2.2.1 = Qmj x ((Qba x).take k) ∧ s.2.2.2 = Qeq x ((Qba x).take k)) (fun k s hk hs => by
      obtain ⟨s0, s1, s2, s3⟩ := s
      obtain ⟨h0, h1, h2, h3⟩ := hs
      dsimp only at h0 h1 h2 h3
      subst h3
      have hk' : k < (Qba x).length := by rw [← hps]; exact hk
      show ∃ s', Qqb x k s0 s1 s2 _ = _ ∧ _
      unfold Qqb
      have hcur : gt (Qeq x ((Qba x).take k)) (Qei x (gt (Qce x) k)).toNat = atI x (gt (Qba x) k) := by
        rw [hps, Qwp]; exact Qxg h hk'
      obtain ⟨i, hi, he, hf, hpb⟩ := Qrh h (Qak hk')
      have hmem : atI x (gt (Qba x) k) ∈ x.Active := by unfold atI; rw [hf, Int.toNat_natCast]; exact Qak hi
      rw [Qamj h (by rw [hcur]; exact hmem), hcur]
      refine ⟨_, rfl, ?_, ?_, ?_, ?_⟩
      · show s0 ++ [_] = _
        rw [h0, hps, List.take_add_one, Qbs hk']
        rfl
      · show s1 ++ [_] = _
        unfold Qms at h1 ⊢
        rw [Qux _ hk', h1]
      · show s2 ++ [_] = _
        unfold Qmj at h2 ⊢
        rw [Qux _ hk', h2]
      rw [← Qacy h hk']
      unfold Qqd
      dsimp only
      rw [hcur, Qajl, hps, Qwp]
      rfl) ((Qce x).length - 0) 0 ([], [], [], x.Active) (by omega) ⟨rfl, rfl, rfl, by rw [List.take_zero, Qxh]⟩
  rw [e2]
  obtain ⟨s0, s1, s2, s3⟩ := s
  dsimp only at h0 h1 h2 h3
  rw [hps, List.take_length] at h0 h1 h2 h3
  rw [h0, h1, h2, h3]
theorem Qxc (x : Qo) : Qez x = Qex x := by
  unfold Qez Qex
  rw [Qrg]
  cases hE : Qhv x with
  | false => rfl
  | true =>
    have h := (Qpq x).1 hE
    have hs := h.stp; have hl := h.ll
    rw [cond_true, cond_true]
    have c1 : (x.Steps == 100000) = decide (100000 ≤ x.Steps) := by
      by_cases hx : x.Steps = 100000
      · rw [beq_iff_eq.2 hx, decide_eq_true (by omega)]
      rw [beq_eq_false_iff_ne.2 hx, decide_eq_false (by omega)]
    have c2 : (((x.Ledger.length : Nat) : Int) == 1000) = decide (1000 ≤ ((x.Ledger.length : Nat) : Int)) := by
      by_cases hx : ((x.Ledger.length : Nat) : Int) = 1000
      · rw [beq_iff_eq.2 hx, decide_eq_true (by omega)]
      rw [beq_eq_false_iff_ne.2 hx, decide_eq_false (by omega)]
    rw [c1, c2]
    cases decide (100000 ≤ x.Steps) with
    | true => rfl
    | false =>
    cases decide (1000 ≤ ((x.Ledger.length : Nat) : Int)) with
    | true => rfl
    | false =>
    cases decide (1000 < ((x.Done.length + x.Active.length : Nat) : Int)) with
    | true => rfl
    | false =>
      rw [cond_false, cond_false, cond_false, cond_false, cond_false, cond_false, Qafv h, Qamk h]
      have hj : Qom x (Qba x) (Qms x (Qba x)) (Qmj x (Qba x)) = .inr (Qja x) := by
        unfold Qom Qja Qqe
        cases decide (0 < (((Qba x).length : Nat) : Int)) <;> rfl
      show Sum.elim id _ (Qom x (Qba x) (Qms x (Qba x)) (Qmj x (Qba x))) = _
      rw [hj]
      show Sum.elim id _ (rng (R := (Qo × Bool)) (fun k (s : (List Qw) × (List Qav)) => Qrs x (Qeq x (Qba x)) k s.1 s.2) (x.Active.length - 0) 0 ([], x.Done)) = _
      rw [← Qmf x (Qba x), Qahg (n := ((x.Store.Segments.length : Nat) : Int)) (b := fun k (s : (List Qw) × (List Qav)) => Qrs x (Qeq x (Qba x)) k s.1 s.2) (fun k s hk => by
          unfold Qrs Qig Qng Qkm Qkn Quj Quk
          cases ((Int.tmod (IntKind.i64.wrap (((gt (Qeq x (Qba x)) k).Age) + 1)) ((x.Store.Segments.length : Nat) : Int)) == 0) <;> cases ((((gt (Qeq x (Qba x)) k).Todo).length : Nat) : Int) == 0 <;> rfl)]
      exact congrArg (fun z => (z, true)) (Qahe _)
theorem Qaml {x : Qo} (h : Qen 68719476736 x) : Qen 68719476736 (Qez x).1 := by rw [Qxc]; exact Qacp h
def Qnm (k70 : Nat) (s71 : Nat) (E72 : Qo) : Qo ⊕ ((Nat × Qo) ⊕ (Nat × Qo)) :=
 cond (decide (((s71 : Nat) : Int) < 200)) (cond (Qiq E72) (cond (decide (0 < ((E72.Active.length : Nat) : Int))) (Sum.inr (Sum.inr (s71 + 1, ((Qez E72).1)))) (Sum.inr (Sum.inl (s71, E72)))) (Sum.inr (Sum.inl (s71, E72)))) (Sum.inr (Sum.inl (s71, E72)))
def Qdy (x0 : Qo) : Qo :=
 Sum.elim id (fun (s : Nat × Qo) => s.2) (Qdo (R := Qo) (fun k (s : Nat × Qo) => Qnm k s.1 s.2) (201 - 0) 0 (0, x0))
theorem cb17 : Cb Tryz.prog 17 := ⟨f17, _, func17, rfl, by decide⟩
theorem Qaff (w : World) (z0 : List Value) (x0 : Qo) (r_0 : Qcb.rd w w.heap.size z0 x0) (s_0 : Qen 68719476736 x0) :
  Calls Tryz.prog 17 #[.agg z0.toArray] w (rO w Qcb (Qdy x0)) := by
 obtain ⟨v1, v3, v5, v7, v9, rfl, r2, r4, r6, r8, r10⟩ := Qia r_0
 obtain ⟨m11, A12, c13, rfl, q14, r15⟩ := Qi r2
 obtain ⟨m16, A17, c18, rfl, q19, r20⟩ := Qi r4
 obtain ⟨m21, A22, c23, rfl, q24, r25⟩ := Qi r6
 obtain ⟨m26, A27, c28, rfl, q29, r30⟩ := Qi r8
 obtain ⟨m31, A32, c33, rfl, q34, r35⟩ := Qi r10
 have l36 : x0.Store.Segments.length ≤ 68719476736 := s_0.1.1
 have l37 := s_0.2.1
 have l38 := s_0.2.2.1.1
 have l39 := s_0.2.2.2.1.1
 have l40 := s_0.2.2.2.2.1
 refine ce1 (L := [(0, .agg #[.slice A12 x0.Store.Segments.length c13, iV x0.Store.Now, iV x0.Cursor, .slice A17 x0.Order.length c18, .slice A22 x0.Active.length c23, .slice A27 x0.Done.length c28, .slice A32 x0.Ledger.length c33, iV x0.Steps])]) (N := 27) func17 ?_
 refine sr ?_
 refine Qbn rfl (Qk rfl) (by decide) (fun p41 => ?_)
 refine Qbm Qbd rfl (Qk rfl) (by decide) (fun p42 => ?_)
 refine nt' (sr ?_)
 let K2 : List Value := [.slice A12 x0.Store.Segments.length c13, iV x0.Store.Now, iV x0.Cursor, .slice A17 x0.Order.length c18, .slice A22 x0.Active.length c23, .slice A27 x0.Done.length c28, .slice A32 x0.Ledger.length c33, iV x0.Steps]
 refine wv (fun W hm => Qad (cs := K2) Qz Qbd rfl rfl (hm.boxCells (n := 1) rfl)) ?_
 refine wcs Qcb x0 (Qr cb68 rfl) (fun W hm => Qafk W _ x0 (Qep (x := x0) (hm.rdS0 r15) (hm.rdS0 r20) (hm.rdS0 r25) (hm.rdS0 r30) (hm.rdS0 r35)) s_0) (fun z43 => ?_)
 refine Qhf ?_
 rintro ⟨v44, v45, v46, v47, v48⟩ rfl
 refine fm 0 ?_
 rintro A49 c50 rfl m51
 refine fm 1 ?_
 rintro A53 c54 rfl m55
 refine fm 2 ?_
 rintro A57 c58 rfl m59
 refine fm 3 ?_
 rintro A61 c62 rfl m63
 refine fm 4 ?_
 rintro A65 c66 rfl m67
 refine Qbm Qbd rfl (Qk rfl) (by decide) (fun p69 => ?_)
 let K3 : List Value := [.slice none 0 0, iV 0, iV 0, .slice none 0 0, .slice none 0 0, .slice none 0 0, .slice none 0 0, iV 0]
 let J7 : List It := [Qh p42 39 K3, Qh p41 39 K2]
 refine sb 0 [.slice A49 x0.Store.Segments.length c50, iV x0.Store.Now, iV x0.Cursor, .slice A53 x0.Order.length c54, .slice A57 x0.Active.length c58, .slice A61 x0.Done.length c62, .slice A65 x0.Ledger.length c66, iV x0.Steps] (iS (tSl Qaf 163) 100 A49 c50 x0.Store.Segments :: iS Qa 3 A53 c54 x0.Order :: iS Qah 61 A57 c58 x0.Active :: iS Qas 80 A61 c62 x0.Done :: iS Qaq 102 A65 c66 x0.Ledger :: J7) idM Qbd ?_
 refine nt' (Qe (sr (wa (nt' ?_))))
 let F1 := fun k (s : Nat × Qo) => Qnm k s.1 s.2
 refine Qlj (σ := (Nat × Qo) × (Option Addr × Nat × Option Addr × Nat × Option Addr × Nat × Option Addr × Nat × Option Addr × Nat)) (fun s => [(2, bp p42), (3, bp p69)]) (fun s => (Qh p69 39 [.slice s.2.1 s.1.2.Store.Segments.length s.2.2.1, iV s.1.2.Store.Now, iV s.1.2.Cursor, .slice s.2.2.2.1 s.1.2.Order.length s.2.2.2.2.1, .slice s.2.2.2.2.2.1 s.1.2.Active.length s.2.2.2.2.2.2.1, .slice s.2.2.2.2.2.2.2.1 s.1.2.Done.length s.2.2.2.2.2.2.2.2.1, .slice s.2.2.2.2.2.2.2.2.2.1 s.1.2.Ledger.length s.2.2.2.2.2.2.2.2.2.2, iV s.1.2.Steps] :: iS (tSl Qaf 163) 100 s.2.1 s.2.2.1 s.1.2.Store.Segments :: iS Qa 3 s.2.2.2.1 s.2.2.2.2.1 s.1.2.Order :: iS Qah 61 s.2.2.2.2.2.1 s.2.2.2.2.2.2.1 s.1.2.Active :: iS Qas 80 s.2.2.2.2.2.2.2.1 s.2.2.2.2.2.2.2.2.1 s.1.2.Done :: iS Qaq 102 s.2.2.2.2.2.2.2.2.2.1 s.2.2.2.2.2.2.2.2.2.2 s.1.2.Ledger :: J7)) (fun s => Qdo (R := Qo) F1 (201 - 0) 0 (0, x0) = Sum.inr s.1) ?_ ?_
 ·
  refine Qx ?_
  refine Qti (σ := Nat × (Nat × Qo) × (Option Addr × Nat × Option Addr × Nat × Option Addr × Nat × Option Addr × Nat × Option Addr × Nat)) (fun s => [(2, bp p42), (3, bp p69), (4, nI s.2.1.1)]) (fun s => (Qh p69 39 [.slice s.2.2.1 s.2.1.2.Store.Segments.length s.2.2.2.1, iV s.2.1.2.Store.Now, iV s.2.1.2.Cursor, .slice s.2.2.2.2.1 s.2.1.2.Order.length s.2.2.2.2.2.1, .slice s.2.2.2.2.2.2.1 s.2.1.2.Active.length s.2.2.2.2.2.2.2.1, .slice s.2.2.2.2.2.2.2.2.1 s.2.1.2.Done.length s.2.2.2.2.2.2.2.2.2.1, .slice s.2.2.2.2.2.2.2.2.2.2.1 s.2.1.2.Ledger.length s.2.2.2.2.2.2.2.2.2.2.2, iV s.2.1.2.Steps] :: iS (tSl Qaf 163) 100 s.2.2.1 s.2.2.2.1 s.2.1.2.Store.Segments :: iS Qa 3 s.2.2.2.2.1 s.2.2.2.2.2.1 s.2.1.2.Order :: iS Qah 61 s.2.2.2.2.2.2.1 s.2.2.2.2.2.2.2.1 s.2.1.2.Active :: iS Qas 80 s.2.2.2.2.2.2.2.2.1 s.2.2.2.2.2.2.2.2.2.1 s.2.1.2.Done :: iS Qaq 102 s.2.2.2.2.2.2.2.2.2.2.1 s.2.2.2.2.2.2.2.2.2.2.2 s.2.1.2.Ledger :: J7)) (fun s => s.1 + (200 - s.2.1.1) + 1 ≤ 201 ∧ Qdo (R := Qo) F1 (201 - s.1) s.1 s.2.1 = Qdo (R := Qo) F1 (201 - 0) 0 (0, x0) ∧ Qen 68719476736 s.2.1.2 ∧ s.2.1.1 ≤ 200) (fun s => 201 - s.1) (0, (0, x0), (A49, c50, A53, c54, A57, c58, A61, c62, A65, c66)) sl3 ⟨(show 0 + (200 - 0) + 1 ≤ 201 from by omega), rfl, s_0, (show 0 ≤ 200 from by omega)⟩ ?_
  rintro ⟨k70, ⟨s71, E72⟩, ⟨A73, c74, A75, c76, A77, c78, A79, c80, A81, c82⟩⟩ H85 _ _ e e'
  dsimp only at H85 ⊢
  subst e e'
  obtain ⟨hk83, hF84, hi86, hi87⟩ := H85
  have hsm := hi86
  refine Qe (sr (wm ?_))
  refine wv Qai ?_
  refine wm ?_
  rcases dcd (((s71 : Nat) : Int) < 200) with ⟨h88, g89⟩ | ⟨h88, g89⟩
  ·
   let K4 : List Value := [.slice A73 E72.Store.Segments.length c74, iV E72.Store.Now, iV E72.Cursor, .slice A75 E72.Order.length c76, .slice A77 E72.Active.length c78, .slice A79 E72.Done.length c80, .slice A81 E72.Ledger.length c82, iV E72.Steps]
   refine wg (fun W hm => Qad (cs := K4) Qz Qbd rfl rfl (hm.boxCells (n := 0) rfl)) g89 ?_
   refine Qcr (Qr Qxr rfl) (fun W hm => Qyb W _ E72 (Qep (x := E72) (hm.rdSI (n := 1) rfl) (hm.rdSI (n := 2) rfl) (hm.rdSI (n := 3) rfl) (hm.rdSI (n := 4) rfl) (hm.rdSI (n := 5) rfl)) hsm) (Qcc rfl rfl rfl (bw g89 rfl)) (by decide) ?_
   refine wv (vpT g89) ?_
   refine wm ?_
   rcases bd (Qiq E72) with g91 | g91
   ·
    refine wg (vf Qz rfl Qcw) g91 ?_
    refine wg (vl 0 4 Qax) g91 ?_
    refine wg (Qag Qax) g91 ?_
    refine wg (fun W hm => Qem rfl rfl) g91 ?_
    refine wv (vpT g91) ?_
    refine nt' ?_
    rcases dcd (0 < ((E72.Active.length : Nat) : Int)) with ⟨h92, g93⟩ | ⟨h92, g93⟩
    ·
     refine Ql rfl g93 ?_
     refine Qp (Qd (Qe (Qx (Qy ?_))))
     refine wv (fun W hm => Qad (cs := K4) Qz Qbd rfl rfl (hm.boxCells (n := 0) rfl)) ?_
     refine Qoi (χ := List Value) (val := fun x => .tuple #[.agg x.toArray, .bool ((Qez E72).2)]) (js := fun x => [Qn Qcb x ((Qez E72).1)]) (Qr cb12 rfl) (fun W hm => Qasy W _ E72 (Qep (x := E72) (hm.rdSI (n := 1) rfl) (hm.rdSI (n := 2) rfl) (hm.rdSI (n := 3) rfl) (hm.rdSI (n := 4) rfl) (hm.rdSI (n := 5) rfl)) hsm) (Qk rfl) (by decide) (fun z94 => ?_)
     refine Qhf ?_
     rintro ⟨v95, v96, v97, v98, v99⟩ rfl
     refine fm 0 ?_
     rintro A100 c101 rfl m102
     refine fm 1 ?_
     rintro A104 c105 rfl m106
     refine fm 2 ?_
     rintro A108 c109 rfl m110
     refine fm 3 ?_
     rintro A112 c113 rfl m114
     refine fm 4 ?_
     rintro A116 c117 rfl m118
     refine wm ?_
     refine wv (fun W hm => Qlt rfl rfl) ?_
     refine wv (fun W hm => Qlt rfl rfl) ?_
     refine sb 0 [.slice A100 (((Qez E72).1).Store.Segments).length c101, iV (((Qez E72).1).Store.Now), iV (((Qez E72).1).Cursor), .slice A104 (((Qez E72).1).Order).length c105, .slice A108 (((Qez E72).1).Active).length c109, .slice A112 (((Qez E72).1).Done).length c113, .slice A116 (((Qez E72).1).Ledger).length c117, iV (((Qez E72).1).Steps)] (iS (tSl Qaf 163) 100 A100 c101 (((Qez E72).1).Store.Segments) :: iS Qa 3 A104 c105 (((Qez E72).1).Order) :: iS Qah 61 A108 c109 (((Qez E72).1).Active) :: iS Qas 80 A112 c113 (((Qez E72).1).Done) :: iS Qaq 102 A116 c117 (((Qez E72).1).Ledger) :: iS (tSl Qaf 163) 100 A73 c74 E72.Store.Segments :: iS Qa 3 A75 c76 E72.Order :: iS Qah 61 A77 c78 E72.Active :: iS Qas 80 A79 c80 E72.Done :: iS Qaq 102 A81 c82 E72.Ledger :: J7) (pk [5, 0, 1, 2, 3, 4, 6, 7, 8, 9, 10, 11, 12]) Qbd ?_
     refine Qac (Qam (Qd (Qy (wm ?_))))
     refine wv (Qal s71 1 (by omega)) ?_
     refine wa (Qac ?_)
     exact Qan (k70 + 1, (s71 + 1, ((Qez E72).1)), (A100, c101, A104, c105, A108, c109, A112, c113, A116, c117)) sl3 (pk [0, 1, 2, 3, 4, 5, 11, 12]) ⟨(show (k70 + 1) + (200 - (s71 + 1)) + 1 ≤ 201 from by omega), nxb hF84 (Qb g89 (Qb g91 (Qb g93 (rfl)))), (show Qen 68719476736 ((Qez E72).1) from by exact Qaml hi86), (show (s71 + 1) ≤ 200 from by omega)⟩ rl
    refine Qm rfl g93 ?_
    refine Qay (Qu (Qu (Qaz ?_)))
    exact Qfh ((s71, E72), (A73, c74, A75, c76, A77, c78, A79, c80, A81, c82)) sl2 idM (nbb hF84 (Qb g89 (Qb g91 (Qc g93 (rfl)))))
   iterate 5 first | refine ws g91 ?_ | refine wv (vpF g91) ?_
   refine nt' ?_
   refine Qm rfl rfl ?_
   refine Qay (Qu (Qu (Qaz ?_)))
   exact Qfh ((s71, E72), (A73, c74, A75, c76, A77, c78, A79, c80, A81, c82)) sl2 idM (nbb hF84 (Qb g89 (Qc g91 (rfl))))
  iterate 9 first | refine ws g89 ?_ | refine wv (vpF g89) ?_ | refine wm ?_ | refine wk ?_ | refine wv (vpF rfl) ?_
  refine nt' ?_
  refine Qm rfl rfl ?_
  refine Qay (Qu (Qu (Qaz ?_)))
  exact Qfh ((s71, E72), (A73, c74, A75, c76, A77, c78, A79, c80, A81, c82)) sl2 idM (nbb hF84 (Qc g89 (rfl)))
 rintro ⟨⟨s71, E72⟩, ⟨A73, c74, A75, c76, A77, c78, A79, c80, A81, c82⟩⟩ H125
 dsimp only at H125
 let K5 : List Value := [.slice A73 E72.Store.Segments.length c74, iV E72.Store.Now, iV E72.Cursor, .slice A75 E72.Order.length c76, .slice A77 E72.Active.length c78, .slice A79 E72.Done.length c80, .slice A81 E72.Ledger.length c82, iV E72.Steps]
 let I6 : It := iS (tSl Qaf 163) 100 A73 c74 E72.Store.Segments
 show QM 27 _ _ _ .normal [(2, bp p42), (3, bp p69)] (Qh p69 39 K5 :: I6 :: iS Qa 3 A75 c76 E72.Order :: iS Qah 61 A77 c78 E72.Active :: iS Qas 80 A79 c80 E72.Done :: iS Qaq 102 A81 c82 E72.Ledger :: J7)
 refine Qd (sr ?_)
 refine wv (fun W hm => Qad (cs := K5) Qz Qbd rfl rfl (hm.boxCells (n := 0) rfl)) ?_
 refine sb 0 K5 [Qh p69 39 K5, I6, iS Qa 3 A75 c76 E72.Order, iS Qah 61 A77 c78 E72.Active, iS Qas 80 A79 c80 E72.Done, iS Qaq 102 A81 c82 E72.Ledger, Qh p41 39 K2] (pk [6, 0, 1, 2, 3, 4, 5, 7]) Qbd ?_
 refine nt' (Qj ?_)
 have he126 := (show Qdy x0 = E72 from Qar H125 (rfl))
 refine Qcu rfl (Qdp (n := 0) rfl rfl Qz Qbd rfl) (fun W hm => ⟨K5, ?_, ?_⟩)
 ·first | rw [he126] | rfl
 rw [he126]; exact Mem.join (is := [I6, iS Qa 3 A75 c76 E72.Order, iS Qah 61 A77 c78 E72.Active, iS Qas 80 A79 c80 E72.Done, iS Qaq 102 A81 c82 E72.Ledger]) (js := []) (fun _ _ hs => Qfk (x := E72) hs) (hm.pick [2, 3, 4, 5, 6] (by decide))

def Qzd (x0 : (List Int)) (x1 : (List Int)) (k13 : Nat) : Bool ⊕ (Unit) :=
 cond ((gt x0 k13) != (gt x1 k13)) (Sum.inl false) (Sum.inr ())
def Qhd (x0 : (List Int)) (x1 : (List Int)) : Bool :=
 cond (((x0.length : Nat) : Int) != ((x1.length : Nat) : Int)) false (Sum.elim id (fun (s : Unit) => true) (rng (R := Bool) (fun k (_ : Unit) => Qzd x0 x1 k) (x0.length - 0) 0 ()))
theorem Qnj : Cb Tryz.prog 74 := ⟨f74, _, func74, rfl, by decide⟩
theorem Qnp (w : World) (z0 : Value) (x0 : (List Int)) (z1 : Value) (x1 : (List Int)) (r_0 : rdS Qa w w.heap.size z0 x0) (r_1 : rdS Qa w w.heap.size z1 x1) :
  Calls Tryz.prog 74 #[z0, z1] w (rB w (Qhd x0 x1)) := by
 obtain ⟨m1, A2, c3, rfl, q4, r5⟩ := Qi r_0
 obtain ⟨m6, A7, c8, rfl, q9, r10⟩ := Qi r_1
 refine ce2 (L := [(0, .slice A2 x0.length c3), (1, .slice A7 x1.length c8)]) (N := 26) func74 ?_
 refine sr (wa (nt' (Qe (sr (wm ?_)))))
 refine wv (Qag Qq) ?_
 refine wm ?_
 refine wv (Qag Qq) ?_
 refine wv Qcj ?_
 refine nt' ?_
 rcases dcn ((x0.length : Nat) : Int) ((x1.length : Nat) : Int) with ⟨h11, g12⟩ | ⟨h11, g12⟩
 ·
  refine Qm rfl g12 ?_
  refine Qp (Qd (Qe (sr (wa (nt' (Qx ?_))))))
  refine Qbg (S := Unit) (R := Unit) (fun k (_ : Unit) => Qzd x0 x1 k) x0.length 0 () () (fun s => [(0, .slice A2 x0.length c3), (1, .slice A7 x1.length c8), (5, nI s.1)]) (fun s => []) (fun s => True) sl3 trivial ?_
  rintro ⟨k13, ⟨⟩, ⟨⟩⟩ H16 _ _ e e'
  dsimp only at H16 ⊢
  subst e e'
  obtain ⟨hk14, hF15, _⟩ := H16
  refine Qe (sr (wm (wm ?_)))
  refine wv (Qag Qq) ?_
  refine wv Qai ?_
  refine nt' ?_
  rcases dcl k13 x0.length with ⟨hl17, g18⟩ | ⟨hl17, g18⟩
  ·
   refine Ql rfl g18 ?_
   refine Qp (Qd (Qe (Qx (Qe ?_))))
   refine Qfa (by kernel_rfl) (by kernel_rfl) ?_
   refine qm (qm ?_)
   obtain ⟨a19, rfl, hb20, he21⟩ := q4 (by omega)
   refine qv (vix 1 k13 Qq Qf) ?_
   refine qv (fun W hm => Qaw Qs rfl rfl ((hm.cell0 (show (a19.add (k13 * 1)).block < w.heap.size from by rw [Qae]; exact hb20.1)).trans (Qdr he21 k13 (by omega)))) ?_
   refine qm (qm ?_)
   obtain ⟨a22, rfl, hb23, he24⟩ := q9 (by omega)
   refine qv (vix 1 k13 Qq Qf) ?_
   refine qv (fun W hm => Qaw Qs rfl rfl ((hm.cell0 (show (a22.add (k13 * 1)).block < w.heap.size from by rw [Qae]; exact hb23.1)).trans (Qdr he24 k13 (by omega)))) ?_
   refine qv Qcj ?_
   refine nq' ?_
   rcases dcn (gt x0 k13) (gt x1 k13) with ⟨h25, g26⟩ | ⟨h25, g26⟩
   ·
    refine Qm rfl g26 ?_
    refine Qp (Qam (Qd (Qy (wm ?_))))
    refine wv (Qal k13 1 (by omega)) ?_
    refine wa (Qac ?_)
    exact Qan (k13 + 1, (), ()) sl3 idM ⟨(by omega), nx hF15 (Qc g26 (rfl)), trivial⟩ rl
   refine Ql rfl g26 ?_
   refine sr (wa (nt' (Qj (Qaa (Qg (Qg (Qaa (Qg ?_))))))))
   exact rtb (h := Qc g12 (Qbf (nr hF15 (Qb g26 (rfl))) rfl))
  refine Qm rfl g18 ?_
  refine Qay (Qu (Qu ?_))
  have hE28 := Qbh hl17 hF15
  refine Qaz (Qd (sr (wa (nt' (Qj ?_)))))
  exact rtb (h := Qc g12 (Qar hE28 (rfl)))
 refine Ql rfl g12 ?_
 refine sr (wa (nt' (Qj (Qg ?_))))
 exact rtb (h := Qb g12 (rfl))

def Qsh (x0 : Qt) (x1 : Qt) : Bool :=
 cond (x0.Id != x1.Id) false (cond (Qhd x0.Values x1.Values) (cond (x0.Born != x1.Born) false (cond (x0.Died != x1.Died) false true)) false)
theorem Qapm : Cb Tryz.prog 220 := ⟨f220, _, func220, rfl, by decide⟩
theorem Qavo (w : World) (z0 : List Value) (x0 : Qt) (z1 : List Value) (x1 : Qt) (r_0 : Qaf.rd w w.heap.size z0 x0) (r_1 : Qaf.rd w w.heap.size z1 x1) :
  Calls Tryz.prog 220 #[.agg z0.toArray, .agg z1.toArray] w (rB w (Qsh x0 x1)) := by
 obtain ⟨v1, rfl, r2⟩ := Qgd r_0
 obtain ⟨m3, A4, c5, rfl, q6, r7⟩ := Qi r2
 obtain ⟨v8, rfl, r9⟩ := Qgd r_1
 obtain ⟨m10, A11, c12, rfl, q13, r14⟩ := Qi r9
 refine ce2 (L := [(0, .agg #[iV x0.Id, .slice A4 x0.Values.length c5, iV x0.Born, iV x0.Died]), (1, .agg #[iV x1.Id, .slice A11 x1.Values.length c12, iV x1.Born, iV x1.Died])]) (N := 26) func220 ?_
 refine sr ?_
 refine Qbn rfl (Qk rfl) (by decide) (fun p15 => ?_)
 refine Qbn rfl (Qk rfl) (by decide) (fun p16 => ?_)
 refine wa (nt' (Qe (sr ?_)))
 refine wv (vf Qbp rfl Qf) ?_
 refine wv (vl 1 0 Qs) ?_
 refine wv (vf Qbp rfl Qf) ?_
 refine wv (vl 0 0 Qs) ?_
 refine wv Qcj ?_
 refine nt' ?_
 rcases dcn x0.Id x1.Id with ⟨h17, g18⟩ | ⟨h17, g18⟩
 ·
  refine Qm rfl g18 ?_
  refine Qp (Qd (Qe (sr ?_)))
  refine wv (vf Qbp rfl Qao) ?_
  refine wv (vl 1 1 Qq) ?_
  refine wv (vf Qbp rfl Qao) ?_
  refine wv (vl 0 1 Qq) ?_
  refine wcv (Qr Qnj rfl) (fun W hm => Qnp W _ x0.Values _ x1.Values (hm.rdS0 r7) (hm.rdS0 r14)) ?_
  refine wv Qbr ?_
  refine nt' ?_
  rcases bd (Qhd x0.Values x1.Values) with g20 | g20
  ·
   refine Qm rfl (nt g20) ?_
   refine Qp (Qd (Qe (sr ?_)))
   refine wv (vf Qbp rfl Qf) ?_
   refine wv (vl 1 2 Qs) ?_
   refine wv (vf Qbp rfl Qf) ?_
   refine wv (vl 0 2 Qs) ?_
   refine wv Qcj ?_
   refine nt' ?_
   rcases dcn x0.Born x1.Born with ⟨h21, g22⟩ | ⟨h21, g22⟩
   ·
    refine Qm rfl g22 ?_
    refine Qp (Qd (Qe (sr ?_)))
    refine wv (vf Qbp rfl Qf) ?_
    refine wv (vl 1 3 Qs) ?_
    refine wv (vf Qbp rfl Qf) ?_
    refine wv (vl 0 3 Qs) ?_
    refine wv Qcj ?_
    refine nt' ?_
    rcases dcn x0.Died x1.Died with ⟨h23, g24⟩ | ⟨h23, g24⟩
    ·
     refine Qm rfl g24 ?_
     refine Qp (Qd (sr (wa (nt' (Qj ?_)))))
     exact rtb (h := Qc g18 (Qb g20 (Qc g22 (Qc g24 (rfl)))))
    refine Ql rfl g24 ?_
    refine sr (wa (nt' (Qj (Qg ?_))))
    exact rtb (h := Qc g18 (Qb g20 (Qc g22 (Qb g24 (rfl)))))
   refine Ql rfl g22 ?_
   refine sr (wa (nt' (Qj (Qg ?_))))
   exact rtb (h := Qc g18 (Qb g20 (Qb g22 (rfl))))
  refine Ql rfl (nf g20) ?_
  refine sr (wa (nt' (Qj (Qg ?_))))
  exact rtb (h := Qc g18 (Qc g20 (rfl)))
 refine Ql rfl g18 ?_
 refine sr (wa (nt' (Qj (Qg ?_))))
 exact rtb (h := Qb g18 (rfl))

def Qzg (x0 : (List Qt)) (x1 : (List Qt)) (k13 : Nat) : Bool ⊕ (Unit) :=
 cond (Qsh (gt x0 k13) (gt x1 k13)) (Sum.inr ()) (Sum.inl false)
def Qsg (x0 : (List Qt)) (x1 : (List Qt)) : Bool :=
 cond (((x0.length : Nat) : Int) != ((x1.length : Nat) : Int)) false (Sum.elim id (fun (s : Unit) => true) (rng (R := Bool) (fun k (_ : Unit) => Qzg x0 x1 k) (x0.length - 0) 0 ()))
theorem Qaow : Cb Tryz.prog 198 := ⟨f198, _, func198, rfl, by decide⟩
theorem Qavm (w : World) (z0 : Value) (x0 : (List Qt)) (z1 : Value) (x1 : (List Qt)) (r_0 : rdS Qaf w w.heap.size z0 x0) (r_1 : rdS Qaf w w.heap.size z1 x1) :
  Calls Tryz.prog 198 #[z0, z1] w (rB w (Qsg x0 x1)) := by
 obtain ⟨m1, A2, c3, rfl, q4, r5⟩ := Qi r_0
 obtain ⟨m6, A7, c8, rfl, q9, r10⟩ := Qi r_1
 refine ce2 (L := [(0, .slice A2 x0.length c3), (1, .slice A7 x1.length c8)]) (N := 27) func198 ?_
 refine sr (wa (nt' (Qe (sr (wm ?_)))))
 refine wv (Qag Qbv) ?_
 refine wm ?_
 refine wv (Qag Qbv) ?_
 refine wv Qcj ?_
 refine nt' ?_
 rcases dcn ((x0.length : Nat) : Int) ((x1.length : Nat) : Int) with ⟨h11, g12⟩ | ⟨h11, g12⟩
 ·
  refine Qm rfl g12 ?_
  refine Qp (Qd (Qe (sr (wa (nt' (Qx ?_))))))
  refine Qbg (S := Unit) (R := Unit) (fun k (_ : Unit) => Qzg x0 x1 k) x0.length 0 () () (fun s => [(0, .slice A2 x0.length c3), (1, .slice A7 x1.length c8), (5, nI s.1)]) (fun s => []) (fun s => True) sl3 trivial ?_
  rintro ⟨k13, ⟨⟩, ⟨⟩⟩ H16 _ _ e e'
  dsimp only at H16 ⊢
  subst e e'
  obtain ⟨hk14, hF15, _⟩ := H16
  refine Qe (sr (wm (wm ?_)))
  refine wv (Qag Qbv) ?_
  refine wv Qai ?_
  refine nt' ?_
  rcases dcl k13 x0.length with ⟨hl17, g18⟩ | ⟨hl17, g18⟩
  ·
   refine Ql rfl g18 ?_
   refine Qp (Qd (Qe (Qx (Qe ?_))))
   refine Qfa (by kernel_rfl) (by kernel_rfl) ?_
   refine qm (qm ?_)
   obtain ⟨a19, rfl, hb20, he21⟩ := q4 (by omega)
   refine qv (vix 4 k13 Qbv Qbo) ?_
   obtain ⟨_, e25, hc22⟩ := he21 k13 _ (Qbs (show k13 < x0.length from by omega))
   obtain ⟨v23, rfl, r24⟩ := Qgd e25
   obtain ⟨m26, A27, c28, rfl, q29, r30⟩ := Qi r24
   refine qv (fun W hm => Qad (cs := [iV ((gt x0 k13).Id), .slice A27 ((gt x0 k13).Values).length c28, iV ((gt x0 k13).Born), iV ((gt x0 k13).Died)]) Qbp Qbo rfl rfl (hm.elCells (show (a19.add (k13 * 4)).block < w.heap.size from by rw [Qae]; exact hb20.1) hc22)) ?_
   refine qm (qm ?_)
   obtain ⟨a31, rfl, hb32, he33⟩ := q9 (by omega)
   refine qv (vix 4 k13 Qbv Qbo) ?_
   obtain ⟨_, e37, hc34⟩ := he33 k13 _ (Qbs (show k13 < x1.length from by omega))
   obtain ⟨v35, rfl, r36⟩ := Qgd e37
   obtain ⟨m38, A39, c40, rfl, q41, r42⟩ := Qi r36
   refine qv (fun W hm => Qad (cs := [iV ((gt x1 k13).Id), .slice A39 ((gt x1 k13).Values).length c40, iV ((gt x1 k13).Born), iV ((gt x1 k13).Died)]) Qbp Qbo rfl rfl (hm.elCells (show (a31.add (k13 * 4)).block < w.heap.size from by rw [Qae]; exact hb32.1) hc34)) ?_
   refine Qev (Qr Qapm rfl) (fun W hm => Qavo W _ (gt x0 k13) _ (gt x1 k13) (Qgy (x := (gt x0 k13)) (hm.rdS0 r30)) (Qgy (x := (gt x1 k13)) (hm.rdS0 r42))) (Qk rfl) (by decide) ?_
   refine qv Qbr ?_
   refine nq' ?_
   rcases bd (Qsh (gt x0 k13) (gt x1 k13)) with g44 | g44
   ·
    refine Qm rfl (nt g44) ?_
    refine Qp (Qam (Qd (Qy (wm ?_))))
    refine wv (Qal k13 1 (by omega)) ?_
    refine wa (Qac ?_)
    exact Qan (k13 + 1, (), ()) sl3 idM ⟨(by omega), nx hF15 (Qb g44 (rfl)), trivial⟩ rl
   refine Ql rfl (nf g44) ?_
   refine sr (wa (nt' (Qj (Qaa (Qg (Qg (Qaa (Qg ?_))))))))
   exact rtb (h := Qc g12 (Qbf (nr hF15 (Qc g44 (rfl))) rfl))
  refine Qm rfl g18 ?_
  refine Qay (Qu (Qu ?_))
  have hE46 := Qbh hl17 hF15
  refine Qaz (Qd (sr (wa (nt' (Qj ?_)))))
  exact rtb (h := Qc g12 (Qar hE46 (rfl)))
 refine Ql rfl g12 ?_
 refine sr (wa (nt' (Qj (Qg ?_))))
 exact rtb (h := Qb g12 (rfl))

def Qzf (x0 : (List (List Qt))) (x1 : (List (List Qt))) (k13 : Nat) : Bool ⊕ (Unit) :=
 cond (Qsg (gt x0 k13) (gt x1 k13)) (Sum.inr ()) (Sum.inl false)
def Qsf (x0 : (List (List Qt))) (x1 : (List (List Qt))) : Bool :=
 cond (((x0.length : Nat) : Int) != ((x1.length : Nat) : Int)) false (Sum.elim id (fun (s : Unit) => true) (rng (R := Bool) (fun k (_ : Unit) => Qzf x0 x1 k) (x0.length - 0) 0 ()))
theorem Qany : Cb Tryz.prog 146 := ⟨f146, _, func146, rfl, by decide⟩
theorem Qavk (w : World) (z0 : Value) (x0 : (List (List Qt))) (z1 : Value) (x1 : (List (List Qt))) (r_0 : rdS (tSl Qaf 163) w w.heap.size z0 x0) (r_1 : rdS (tSl Qaf 163) w w.heap.size z1 x1) :
  Calls Tryz.prog 146 #[z0, z1] w (rB w (Qsf x0 x1)) := by
 obtain ⟨m1, A2, c3, rfl, q4, r5⟩ := Qi r_0
 obtain ⟨m6, A7, c8, rfl, q9, r10⟩ := Qi r_1
 refine ce2 (L := [(0, .slice A2 x0.length c3), (1, .slice A7 x1.length c8)]) (N := 27) func146 ?_
 refine sr (wa (nt' (Qe (sr (wm ?_)))))
 refine wv (Qag Qbz) ?_
 refine wm ?_
 refine wv (Qag Qbz) ?_
 refine wv Qcj ?_
 refine nt' ?_
 rcases dcn ((x0.length : Nat) : Int) ((x1.length : Nat) : Int) with ⟨h11, g12⟩ | ⟨h11, g12⟩
 ·
  refine Qm rfl g12 ?_
  refine Qp (Qd (Qe (sr (wa (nt' (Qx ?_))))))
  refine Qbg (S := Unit) (R := Unit) (fun k (_ : Unit) => Qzf x0 x1 k) x0.length 0 () () (fun s => [(0, .slice A2 x0.length c3), (1, .slice A7 x1.length c8), (5, nI s.1)]) (fun s => []) (fun s => True) sl3 trivial ?_
  rintro ⟨k13, ⟨⟩, ⟨⟩⟩ H16 _ _ e e'
  dsimp only at H16 ⊢
  subst e e'
  obtain ⟨hk14, hF15, _⟩ := H16
  refine Qe (sr (wm (wm ?_)))
  refine wv (Qag Qbz) ?_
  refine wv Qai ?_
  refine nt' ?_
  rcases dcl k13 x0.length with ⟨hl17, g18⟩ | ⟨hl17, g18⟩
  ·
   refine Ql rfl g18 ?_
   refine Qp (Qd (Qe (Qx (Qe ?_))))
   refine Qfa (by kernel_rfl) (by kernel_rfl) ?_
   refine qm (qm ?_)
   obtain ⟨a19, rfl, hb20, he21⟩ := q4 (by omega)
   refine qv (vix 1 k13 Qbz Qfl) ?_
   obtain ⟨_, e23, hc22⟩ := he21 k13 _ (Qbs (show k13 < x0.length from by omega))
   obtain ⟨v24, rfl, r25⟩ := e23
   obtain ⟨m26, A27, c28, rfl, q29, r30⟩ := Qi r25
   refine qv (fun W hm => Qaw Qbv rfl rfl ((hm.cell0 (show (a19.add (k13 * 1)).block < w.heap.size from by rw [Qae]; exact hb20.1)).trans (hc22 0 _ rfl))) ?_
   refine qm (qm ?_)
   obtain ⟨a31, rfl, hb32, he33⟩ := q9 (by omega)
   refine qv (vix 1 k13 Qbz Qfl) ?_
   obtain ⟨_, e35, hc34⟩ := he33 k13 _ (Qbs (show k13 < x1.length from by omega))
   obtain ⟨v36, rfl, r37⟩ := e35
   obtain ⟨m38, A39, c40, rfl, q41, r42⟩ := Qi r37
   refine qv (fun W hm => Qaw Qbv rfl rfl ((hm.cell0 (show (a31.add (k13 * 1)).block < w.heap.size from by rw [Qae]; exact hb32.1)).trans (hc34 0 _ rfl))) ?_
   refine Qev (Qr Qaow rfl) (fun W hm => Qavm W _ (gt x0 k13) _ (gt x1 k13) (hm.rdS0 r30) (hm.rdS0 r42)) (Qk rfl) (by decide) ?_
   refine qv Qbr ?_
   refine nq' ?_
   rcases bd (Qsg (gt x0 k13) (gt x1 k13)) with g44 | g44
   ·
    refine Qm rfl (nt g44) ?_
    refine Qp (Qam (Qd (Qy (wm ?_))))
    refine wv (Qal k13 1 (by omega)) ?_
    refine wa (Qac ?_)
    exact Qan (k13 + 1, (), ()) sl3 idM ⟨(by omega), nx hF15 (Qb g44 (rfl)), trivial⟩ rl
   refine Ql rfl (nf g44) ?_
   refine sr (wa (nt' (Qj (Qaa (Qg (Qg (Qaa (Qg ?_))))))))
   exact rtb (h := Qc g12 (Qbf (nr hF15 (Qc g44 (rfl))) rfl))
  refine Qm rfl g18 ?_
  refine Qay (Qu (Qu ?_))
  have hE46 := Qbh hl17 hF15
  refine Qaz (Qd (sr (wa (nt' (Qj ?_)))))
  exact rtb (h := Qc g12 (Qar hE46 (rfl)))
 refine Ql rfl g12 ?_
 refine sr (wa (nt' (Qj (Qg ?_))))
 exact rtb (h := Qb g12 (rfl))

def Qse (x0 : Qau) (x1 : Qau) : Bool :=
 cond (Qsf x0.Segments x1.Segments) (cond (x0.Now != x1.Now) false true) false
theorem cb73 : Cb Tryz.prog 73 := ⟨f73, _, func73, rfl, by decide⟩
theorem Qavi (w : World) (z0 : List Value) (x0 : Qau) (z1 : List Value) (x1 : Qau) (r_0 : Qdm.rd w w.heap.size z0 x0) (r_1 : Qdm.rd w w.heap.size z1 x1) :
  Calls Tryz.prog 73 #[.agg z0.toArray, .agg z1.toArray] w (rB w (Qse x0 x1)) := by
 obtain ⟨v1, rfl, r2⟩ := Qjs r_0
 obtain ⟨m3, A4, c5, rfl, q6, r7⟩ := Qi r2
 obtain ⟨v8, rfl, r9⟩ := Qjs r_1
 obtain ⟨m10, A11, c12, rfl, q13, r14⟩ := Qi r9
 refine ce2 (L := [(0, .agg #[.slice A4 x0.Segments.length c5, iV x0.Now]), (1, .agg #[.slice A11 x1.Segments.length c12, iV x1.Now])]) (N := 16) func73 ?_
 refine sr ?_
 refine Qbn rfl (Qk rfl) (by decide) (fun p15 => ?_)
 refine Qbn rfl (Qk rfl) (by decide) (fun p16 => ?_)
 refine wa (nt' (Qe (sr ?_)))
 refine wv (vf Qbw rfl Qea) ?_
 refine wv (vl 1 0 Qbz) ?_
 refine wv (vf Qbw rfl Qea) ?_
 refine wv (vl 0 0 Qbz) ?_
 refine wcv (Qr Qany rfl) (fun W hm => Qavk W _ x0.Segments _ x1.Segments (hm.rdS0 r7) (hm.rdS0 r14)) ?_
 refine wv Qbr ?_
 refine nt' ?_
 rcases bd (Qsf x0.Segments x1.Segments) with g18 | g18
 ·
  refine Qm rfl (nt g18) ?_
  refine Qp (Qd (Qe (sr ?_)))
  refine wv (vf Qbw rfl Qf) ?_
  refine wv (vl 1 1 Qs) ?_
  refine wv (vf Qbw rfl Qf) ?_
  refine wv (vl 0 1 Qs) ?_
  refine wv Qcj ?_
  refine nt' ?_
  rcases dcn x0.Now x1.Now with ⟨h19, g20⟩ | ⟨h19, g20⟩
  ·
   refine Qm rfl g20 ?_
   refine Qp (Qd (sr (wa (nt' (Qj ?_)))))
   exact rtb (h := Qb g18 (Qc g20 (rfl)))
  refine Ql rfl g20 ?_
  refine sr (wa (nt' (Qj (Qg ?_))))
  exact rtb (h := Qb g18 (Qb g20 (rfl)))
 refine Ql rfl (nf g18) ?_
 refine sr (wa (nt' (Qj (Qg ?_))))
 exact rtb (h := Qc g18 (rfl))

def Qsa (x0 : Qcd) (x1 : Qcd) : Bool :=
 cond (x0.Field != x1.Field) false (cond (x0.Low != x1.Low) false (cond (x0.High != x1.High) false true))
theorem Qapr : Cb Tryz.prog 227 := ⟨f227, _, func227, rfl, by decide⟩
theorem Qava (w : World) (z0 : List Value) (x0 : Qcd) (z1 : List Value) (x1 : Qcd) (r_0 : Qbl.rd w w.heap.size z0 x0) (r_1 : Qbl.rd w w.heap.size z1 x1) :
  Calls Tryz.prog 227 #[.agg z0.toArray, .agg z1.toArray] w (rB w (Qsa x0 x1)) := by
 obtain rfl := Qjo r_0
 obtain rfl := Qjo r_1
 refine ce2 (L := [(0, .agg #[iV x0.Field, iV x0.Low, iV x0.High]), (1, .agg #[iV x1.Field, iV x1.Low, iV x1.High])]) (N := 20) func227 ?_
 refine sr ?_
 refine Qbn rfl (Qk rfl) (by decide) (fun p1 => ?_)
 refine Qbn rfl (Qk rfl) (by decide) (fun p2 => ?_)
 refine wa (nt' (Qe (sr ?_)))
 refine wv (vf Qdu rfl Qf) ?_
 refine wv (vl 1 0 Qs) ?_
 refine wv (vf Qdu rfl Qf) ?_
 refine wv (vl 0 0 Qs) ?_
 refine wv Qcj ?_
 refine nt' ?_
 rcases dcn x0.Field x1.Field with ⟨h3, g4⟩ | ⟨h3, g4⟩
 ·
  refine Qm rfl g4 ?_
  refine Qp (Qd (Qe (sr ?_)))
  refine wv (vf Qdu rfl Qf) ?_
  refine wv (vl 1 1 Qs) ?_
  refine wv (vf Qdu rfl Qf) ?_
  refine wv (vl 0 1 Qs) ?_
  refine wv Qcj ?_
  refine nt' ?_
  rcases dcn x0.Low x1.Low with ⟨h5, g6⟩ | ⟨h5, g6⟩
  ·
   refine Qm rfl g6 ?_
   refine Qp (Qd (Qe (sr ?_)))
   refine wv (vf Qdu rfl Qf) ?_
   refine wv (vl 1 2 Qs) ?_
   refine wv (vf Qdu rfl Qf) ?_
   refine wv (vl 0 2 Qs) ?_
   refine wv Qcj ?_
   refine nt' ?_
   rcases dcn x0.High x1.High with ⟨h7, g8⟩ | ⟨h7, g8⟩
   ·
    refine Qm rfl g8 ?_
    refine Qp (Qd (sr (wa (nt' (Qj ?_)))))
    exact rtb (h := Qc g4 (Qc g6 (Qc g8 (rfl))))
   refine Ql rfl g8 ?_
   refine sr (wa (nt' (Qj (Qg ?_))))
   exact rtb (h := Qc g4 (Qc g6 (Qb g8 (rfl))))
  refine Ql rfl g6 ?_
  refine sr (wa (nt' (Qj (Qg ?_))))
  exact rtb (h := Qc g4 (Qb g6 (rfl)))
 refine Ql rfl g4 ?_
 refine sr (wa (nt' (Qj (Qg ?_))))
 exact rtb (h := Qb g4 (rfl))

def Qzb (x0 : (List Qcd)) (x1 : (List Qcd)) (k13 : Nat) : Bool ⊕ (Unit) :=
 cond (Qsa (gt x0 k13) (gt x1 k13)) (Sum.inr ()) (Sum.inl false)
def Qrz (x0 : (List Qcd)) (x1 : (List Qcd)) : Bool :=
 cond (((x0.length : Nat) : Int) != ((x1.length : Nat) : Int)) false (Sum.elim id (fun (s : Unit) => true) (rng (R := Bool) (fun k (_ : Unit) => Qzb x0 x1 k) (x0.length - 0) 0 ()))
theorem Qapn : Cb Tryz.prog 221 := ⟨f221, _, func221, rfl, by decide⟩
theorem Qauy (w : World) (z0 : Value) (x0 : (List Qcd)) (z1 : Value) (x1 : (List Qcd)) (r_0 : rdS Qbl w w.heap.size z0 x0) (r_1 : rdS Qbl w w.heap.size z1 x1) :
  Calls Tryz.prog 221 #[z0, z1] w (rB w (Qrz x0 x1)) := by
 obtain ⟨m1, A2, c3, rfl, q4, r5⟩ := Qi r_0
 obtain ⟨m6, A7, c8, rfl, q9, r10⟩ := Qi r_1
 refine ce2 (L := [(0, .slice A2 x0.length c3), (1, .slice A7 x1.length c8)]) (N := 27) func221 ?_
 refine sr (wa (nt' (Qe (sr (wm ?_)))))
 refine wv (Qag Qct) ?_
 refine wm ?_
 refine wv (Qag Qct) ?_
 refine wv Qcj ?_
 refine nt' ?_
 rcases dcn ((x0.length : Nat) : Int) ((x1.length : Nat) : Int) with ⟨h11, g12⟩ | ⟨h11, g12⟩
 ·
  refine Qm rfl g12 ?_
  refine Qp (Qd (Qe (sr (wa (nt' (Qx ?_))))))
  refine Qbg (S := Unit) (R := Unit) (fun k (_ : Unit) => Qzb x0 x1 k) x0.length 0 () () (fun s => [(0, .slice A2 x0.length c3), (1, .slice A7 x1.length c8), (5, nI s.1)]) (fun s => []) (fun s => True) sl3 trivial ?_
  rintro ⟨k13, ⟨⟩, ⟨⟩⟩ H16 _ _ e e'
  dsimp only at H16 ⊢
  subst e e'
  obtain ⟨hk14, hF15, _⟩ := H16
  refine Qe (sr (wm (wm ?_)))
  refine wv (Qag Qct) ?_
  refine wv Qai ?_
  refine nt' ?_
  rcases dcl k13 x0.length with ⟨hl17, g18⟩ | ⟨hl17, g18⟩
  ·
   refine Ql rfl g18 ?_
   refine Qp (Qd (Qe (Qx (Qe ?_))))
   refine Qfa (by kernel_rfl) (by kernel_rfl) ?_
   refine qm (qm ?_)
   obtain ⟨a19, rfl, hb20, he21⟩ := q4 (by omega)
   refine qv (vix 3 k13 Qct Qds) ?_
   obtain ⟨_, e23, hc22⟩ := he21 k13 _ (Qbs (show k13 < x0.length from by omega))
   obtain rfl := Qjo e23
   refine qv (fun W hm => Qad (cs := [iV ((gt x0 k13).Field), iV ((gt x0 k13).Low), iV ((gt x0 k13).High)]) Qdu Qds rfl rfl (hm.elCells (show (a19.add (k13 * 3)).block < w.heap.size from by rw [Qae]; exact hb20.1) hc22)) ?_
   refine qm (qm ?_)
   obtain ⟨a24, rfl, hb25, he26⟩ := q9 (by omega)
   refine qv (vix 3 k13 Qct Qds) ?_
   obtain ⟨_, e28, hc27⟩ := he26 k13 _ (Qbs (show k13 < x1.length from by omega))
   obtain rfl := Qjo e28
   refine qv (fun W hm => Qad (cs := [iV ((gt x1 k13).Field), iV ((gt x1 k13).Low), iV ((gt x1 k13).High)]) Qdu Qds rfl rfl (hm.elCells (show (a24.add (k13 * 3)).block < w.heap.size from by rw [Qae]; exact hb25.1) hc27)) ?_
   refine Qev (Qr Qapr rfl) (fun W hm => Qava W _ (gt x0 k13) _ (gt x1 k13) (Qwd (x := (gt x0 k13))) (Qwd (x := (gt x1 k13)))) (Qk rfl) (by decide) ?_
   refine qv Qbr ?_
   refine nq' ?_
   rcases bd (Qsa (gt x0 k13) (gt x1 k13)) with g30 | g30
   ·
    refine Qm rfl (nt g30) ?_
    refine Qp (Qam (Qd (Qy (wm ?_))))
    refine wv (Qal k13 1 (by omega)) ?_
    refine wa (Qac ?_)
    exact Qan (k13 + 1, (), ()) sl3 idM ⟨(by omega), nx hF15 (Qb g30 (rfl)), trivial⟩ rl
   refine Ql rfl (nf g30) ?_
   refine sr (wa (nt' (Qj (Qaa (Qg (Qg (Qaa (Qg ?_))))))))
   exact rtb (h := Qc g12 (Qbf (nr hF15 (Qc g30 (rfl))) rfl))
  refine Qm rfl g18 ?_
  refine Qay (Qu (Qu ?_))
  have hE32 := Qbh hl17 hF15
  refine Qaz (Qd (sr (wa (nt' (Qj ?_)))))
  exact rtb (h := Qc g12 (Qar hE32 (rfl)))
 refine Ql rfl g12 ?_
 refine sr (wa (nt' (Qj (Qg ?_))))
 exact rtb (h := Qb g12 (rfl))

def Qon (x0 : Qat) (x1 : Qat) : Bool :=
 cond (x0.Id != x1.Id) false (cond (x0.Tenant != x1.Tenant) false (cond (Qrz x0.Conds x1.Conds) (cond (Qhd x0.Out x1.Out) true false) false))
theorem Qaed : Cb Tryz.prog 199 := ⟨f199, _, func199, rfl, by decide⟩
theorem Qafx (w : World) (z0 : List Value) (x0 : Qat) (z1 : List Value) (x1 : Qat) (r_0 : Qcm.rd w w.heap.size z0 x0) (r_1 : Qcm.rd w w.heap.size z1 x1) :
  Calls Tryz.prog 199 #[.agg z0.toArray, .agg z1.toArray] w (rB w (Qon x0 x1)) := by
 obtain ⟨v1, v3, rfl, r2, r4⟩ := Qiv r_0
 obtain ⟨m5, A6, c7, rfl, q8, r9⟩ := Qi r2
 obtain ⟨m10, A11, c12, rfl, q13, r14⟩ := Qi r4
 obtain ⟨v15, v17, rfl, r16, r18⟩ := Qiv r_1
 obtain ⟨m19, A20, c21, rfl, q22, r23⟩ := Qi r16
 obtain ⟨m24, A25, c26, rfl, q27, r28⟩ := Qi r18
 refine ce2 (L := [(0, .agg #[iV x0.Id, iV x0.Tenant, .slice A6 x0.Conds.length c7, .slice A11 x0.Out.length c12]), (1, .agg #[iV x1.Id, iV x1.Tenant, .slice A20 x1.Conds.length c21, .slice A25 x1.Out.length c26])]) (N := 27) func199 ?_
 refine sr ?_
 refine Qbn rfl (Qk rfl) (by decide) (fun p29 => ?_)
 refine Qbn rfl (Qk rfl) (by decide) (fun p30 => ?_)
 refine wa (nt' (Qe (sr ?_)))
 refine wv (vf Qbq rfl Qf) ?_
 refine wv (vl 1 0 Qs) ?_
 refine wv (vf Qbq rfl Qf) ?_
 refine wv (vl 0 0 Qs) ?_
 refine wv Qcj ?_
 refine nt' ?_
 rcases dcn x0.Id x1.Id with ⟨h31, g32⟩ | ⟨h31, g32⟩
 ·
  refine Qm rfl g32 ?_
  refine Qp (Qd (Qe (sr ?_)))
  refine wv (vf Qbq rfl Qf) ?_
  refine wv (vl 1 1 Qs) ?_
  refine wv (vf Qbq rfl Qf) ?_
  refine wv (vl 0 1 Qs) ?_
  refine wv Qcj ?_
  refine nt' ?_
  rcases dcn x0.Tenant x1.Tenant with ⟨h33, g34⟩ | ⟨h33, g34⟩
  ·
   refine Qm rfl g34 ?_
   refine Qp (Qd (Qe (sr ?_)))
   refine wv (vf Qbq rfl Qfu) ?_
   refine wv (vl 1 2 Qct) ?_
   refine wv (vf Qbq rfl Qfu) ?_
   refine wv (vl 0 2 Qct) ?_
   refine wcv (Qr Qapn rfl) (fun W hm => Qauy W _ x0.Conds _ x1.Conds (hm.rdS0 r9) (hm.rdS0 r23)) ?_
   refine wv Qbr ?_
   refine nt' ?_
   rcases bd (Qrz x0.Conds x1.Conds) with g36 | g36
   ·
    refine Qm rfl (nt g36) ?_
    refine Qp (Qd (Qe (sr ?_)))
    refine wv (vf Qbq rfl Qao) ?_
    refine wv (vl 1 3 Qq) ?_
    refine wv (vf Qbq rfl Qao) ?_
    refine wv (vl 0 3 Qq) ?_
    refine wcv (Qr Qnj rfl) (fun W hm => Qnp W _ x0.Out _ x1.Out (hm.rdS0 r14) (hm.rdS0 r28)) ?_
    refine wv Qbr ?_
    refine nt' ?_
    rcases bd (Qhd x0.Out x1.Out) with g38 | g38
    ·
     refine Qm rfl (nt g38) ?_
     refine Qp (Qd (sr (wa (nt' (Qj ?_)))))
     exact rtb (h := Qc g32 (Qc g34 (Qb g36 (Qb g38 (rfl)))))
    refine Ql rfl (nf g38) ?_
    refine sr (wa (nt' (Qj (Qg ?_))))
    exact rtb (h := Qc g32 (Qc g34 (Qb g36 (Qc g38 (rfl)))))
   refine Ql rfl (nf g36) ?_
   refine sr (wa (nt' (Qj (Qg ?_))))
   exact rtb (h := Qc g32 (Qc g34 (Qc g36 (rfl))))
  refine Ql rfl g34 ?_
  refine sr (wa (nt' (Qj (Qg ?_))))
  exact rtb (h := Qc g32 (Qb g34 (rfl)))
 refine Ql rfl g32 ?_
 refine sr (wa (nt' (Qj (Qg ?_))))
 exact rtb (h := Qb g32 (rfl))

def Qsd (x0 : Qab) (x1 : Qab) : Bool :=
 cond (x0.Id != x1.Id) false (cond (Qhd x0.Values x1.Values) true false)
theorem Qapo : Cb Tryz.prog 222 := ⟨f222, _, func222, rfl, by decide⟩
theorem Qavg (w : World) (z0 : List Value) (x0 : Qab) (z1 : List Value) (x1 : Qab) (r_0 : Qap.rd w w.heap.size z0 x0) (r_1 : Qap.rd w w.heap.size z1 x1) :
  Calls Tryz.prog 222 #[.agg z0.toArray, .agg z1.toArray] w (rB w (Qsd x0 x1)) := by
 obtain ⟨v1, rfl, r2⟩ := Qin r_0
 obtain ⟨m3, A4, c5, rfl, q6, r7⟩ := Qi r2
 obtain ⟨v8, rfl, r9⟩ := Qin r_1
 obtain ⟨m10, A11, c12, rfl, q13, r14⟩ := Qi r9
 refine ce2 (L := [(0, .agg #[iV x0.Id, .slice A4 x0.Values.length c5]), (1, .agg #[iV x1.Id, .slice A11 x1.Values.length c12])]) (N := 16) func222 ?_
 refine sr ?_
 refine Qbn rfl (Qk rfl) (by decide) (fun p15 => ?_)
 refine Qbn rfl (Qk rfl) (by decide) (fun p16 => ?_)
 refine wa (nt' (Qe (sr ?_)))
 refine wv (vf Qdv rfl Qf) ?_
 refine wv (vl 1 0 Qs) ?_
 refine wv (vf Qdv rfl Qf) ?_
 refine wv (vl 0 0 Qs) ?_
 refine wv Qcj ?_
 refine nt' ?_
 rcases dcn x0.Id x1.Id with ⟨h17, g18⟩ | ⟨h17, g18⟩
 ·
  refine Qm rfl g18 ?_
  refine Qp (Qd (Qe (sr ?_)))
  refine wv (vf Qdv rfl Qao) ?_
  refine wv (vl 1 1 Qq) ?_
  refine wv (vf Qdv rfl Qao) ?_
  refine wv (vl 0 1 Qq) ?_
  refine wcv (Qr Qnj rfl) (fun W hm => Qnp W _ x0.Values _ x1.Values (hm.rdS0 r7) (hm.rdS0 r14)) ?_
  refine wv Qbr ?_
  refine nt' ?_
  rcases bd (Qhd x0.Values x1.Values) with g20 | g20
  ·
   refine Qm rfl (nt g20) ?_
   refine Qp (Qd (sr (wa (nt' (Qj ?_)))))
   exact rtb (h := Qc g18 (Qb g20 (rfl)))
  refine Ql rfl (nf g20) ?_
  refine sr (wa (nt' (Qj (Qg ?_))))
  exact rtb (h := Qc g18 (Qc g20 (rfl)))
 refine Ql rfl g18 ?_
 refine sr (wa (nt' (Qj (Qg ?_))))
 exact rtb (h := Qb g18 (rfl))

def Qze (x0 : (List Qab)) (x1 : (List Qab)) (k13 : Nat) : Bool ⊕ (Unit) :=
 cond (Qsd (gt x0 k13) (gt x1 k13)) (Sum.inr ()) (Sum.inl false)
def Qoo (x0 : (List Qab)) (x1 : (List Qab)) : Bool :=
 cond (((x0.length : Nat) : Int) != ((x1.length : Nat) : Int)) false (Sum.elim id (fun (s : Unit) => true) (rng (R := Bool) (fun k (_ : Unit) => Qze x0 x1 k) (x0.length - 0) 0 ()))
theorem Qaee : Cb Tryz.prog 200 := ⟨f200, _, func200, rfl, by decide⟩
theorem Qafz (w : World) (z0 : Value) (x0 : (List Qab)) (z1 : Value) (x1 : (List Qab)) (r_0 : rdS Qap w w.heap.size z0 x0) (r_1 : rdS Qap w w.heap.size z1 x1) :
  Calls Tryz.prog 200 #[z0, z1] w (rB w (Qoo x0 x1)) := by
 obtain ⟨m1, A2, c3, rfl, q4, r5⟩ := Qi r_0
 obtain ⟨m6, A7, c8, rfl, q9, r10⟩ := Qi r_1
 refine ce2 (L := [(0, .slice A2 x0.length c3), (1, .slice A7 x1.length c8)]) (N := 27) func200 ?_
 refine sr (wa (nt' (Qe (sr (wm ?_)))))
 refine wv (Qag Qci) ?_
 refine wm ?_
 refine wv (Qag Qci) ?_
 refine wv Qcj ?_
 refine nt' ?_
 rcases dcn ((x0.length : Nat) : Int) ((x1.length : Nat) : Int) with ⟨h11, g12⟩ | ⟨h11, g12⟩
 ·
  refine Qm rfl g12 ?_
  refine Qp (Qd (Qe (sr (wa (nt' (Qx ?_))))))
  refine Qbg (S := Unit) (R := Unit) (fun k (_ : Unit) => Qze x0 x1 k) x0.length 0 () () (fun s => [(0, .slice A2 x0.length c3), (1, .slice A7 x1.length c8), (5, nI s.1)]) (fun s => []) (fun s => True) sl3 trivial ?_
  rintro ⟨k13, ⟨⟩, ⟨⟩⟩ H16 _ _ e e'
  dsimp only at H16 ⊢
  subst e e'
  obtain ⟨hk14, hF15, _⟩ := H16
  refine Qe (sr (wm (wm ?_)))
  refine wv (Qag Qci) ?_
  refine wv Qai ?_
  refine nt' ?_
  rcases dcl k13 x0.length with ⟨hl17, g18⟩ | ⟨hl17, g18⟩
  ·
   refine Ql rfl g18 ?_
   refine Qp (Qd (Qe (Qx (Qe ?_))))
   refine Qfa (by kernel_rfl) (by kernel_rfl) ?_
   refine qm (qm ?_)
   obtain ⟨a19, rfl, hb20, he21⟩ := q4 (by omega)
   refine qv (vix 2 k13 Qci Qcg) ?_
   obtain ⟨_, e25, hc22⟩ := he21 k13 _ (Qbs (show k13 < x0.length from by omega))
   obtain ⟨v23, rfl, r24⟩ := Qin e25
   obtain ⟨m26, A27, c28, rfl, q29, r30⟩ := Qi r24
   refine qv (fun W hm => Qad (cs := [iV ((gt x0 k13).Id), .slice A27 ((gt x0 k13).Values).length c28]) Qdv Qcg rfl rfl (hm.elCells (show (a19.add (k13 * 2)).block < w.heap.size from by rw [Qae]; exact hb20.1) hc22)) ?_
   refine qm (qm ?_)
   obtain ⟨a31, rfl, hb32, he33⟩ := q9 (by omega)
   refine qv (vix 2 k13 Qci Qcg) ?_
   obtain ⟨_, e37, hc34⟩ := he33 k13 _ (Qbs (show k13 < x1.length from by omega))
   obtain ⟨v35, rfl, r36⟩ := Qin e37
   obtain ⟨m38, A39, c40, rfl, q41, r42⟩ := Qi r36
   refine qv (fun W hm => Qad (cs := [iV ((gt x1 k13).Id), .slice A39 ((gt x1 k13).Values).length c40]) Qdv Qcg rfl rfl (hm.elCells (show (a31.add (k13 * 2)).block < w.heap.size from by rw [Qae]; exact hb32.1) hc34)) ?_
   refine Qev (Qr Qapo rfl) (fun W hm => Qavg W _ (gt x0 k13) _ (gt x1 k13) (Qjr (x := (gt x0 k13)) (hm.rdS0 r30)) (Qjr (x := (gt x1 k13)) (hm.rdS0 r42))) (Qk rfl) (by decide) ?_
   refine qv Qbr ?_
   refine nq' ?_
   rcases bd (Qsd (gt x0 k13) (gt x1 k13)) with g44 | g44
   ·
    refine Qm rfl (nt g44) ?_
    refine Qp (Qam (Qd (Qy (wm ?_))))
    refine wv (Qal k13 1 (by omega)) ?_
    refine wa (Qac ?_)
    exact Qan (k13 + 1, (), ()) sl3 idM ⟨(by omega), nx hF15 (Qb g44 (rfl)), trivial⟩ rl
   refine Ql rfl (nf g44) ?_
   refine sr (wa (nt' (Qj (Qaa (Qg (Qg (Qaa (Qg ?_))))))))
   exact rtb (h := Qc g12 (Qbf (nr hF15 (Qc g44 (rfl))) rfl))
  refine Qm rfl g18 ?_
  refine Qay (Qu (Qu ?_))
  have hE46 := Qbh hl17 hF15
  refine Qaz (Qd (sr (wa (nt' (Qj ?_)))))
  exact rtb (h := Qc g12 (Qar hE46 (rfl)))
 refine Ql rfl g12 ?_
 refine sr (wa (nt' (Qj (Qg ?_))))
 exact rtb (h := Qb g12 (rfl))

def Qrw (x0 : Qw) (x1 : Qw) : Bool :=
 cond (Qon x0.Query x1.Query) (cond (x0.Time != x1.Time) false (cond (Qhd x0.Todo x1.Todo) (cond (x0.Age != x1.Age) false (cond (x0.Sent != x1.Sent) false (cond (x0.Cap != x1.Cap) false (cond (Qoo x0.Rows x1.Rows) true false)))) false)) false
theorem Qanz : Cb Tryz.prog 147 := ⟨f147, _, func147, rfl, by decide⟩
theorem Qaus (w : World) (z0 : List Value) (x0 : Qw) (z1 : List Value) (x1 : Qw) (r_0 : Qah.rd w w.heap.size z0 x0) (r_1 : Qah.rd w w.heap.size z1 x1) :
  Calls Tryz.prog 147 #[.agg z0.toArray, .agg z1.toArray] w (rB w (Qrw x0 x1)) := by
 obtain ⟨v1, v3, v5, v7, rfl, r2, r4, r6, r8⟩ := Qgp r_0
 obtain ⟨m9, A10, c11, rfl, q12, r13⟩ := Qi r2
 obtain ⟨m14, A15, c16, rfl, q17, r18⟩ := Qi r4
 obtain ⟨m19, A20, c21, rfl, q22, r23⟩ := Qi r6
 obtain ⟨m24, A25, c26, rfl, q27, r28⟩ := Qi r8
 obtain ⟨v29, v31, v33, v35, rfl, r30, r32, r34, r36⟩ := Qgp r_1
 obtain ⟨m37, A38, c39, rfl, q40, r41⟩ := Qi r30
 obtain ⟨m42, A43, c44, rfl, q45, r46⟩ := Qi r32
 obtain ⟨m47, A48, c49, rfl, q50, r51⟩ := Qi r34
 obtain ⟨m52, A53, c54, rfl, q55, r56⟩ := Qi r36
 refine ce2 (L := [(0, .agg #[iV x0.Query.Id, iV x0.Query.Tenant, .slice A10 x0.Query.Conds.length c11, .slice A15 x0.Query.Out.length c16, iV x0.Time, .slice A20 x0.Todo.length c21, iV x0.Age, iV x0.Sent, iV x0.Cap, .slice A25 x0.Rows.length c26]), (1, .agg #[iV x1.Query.Id, iV x1.Query.Tenant, .slice A38 x1.Query.Conds.length c39, .slice A43 x1.Query.Out.length c44, iV x1.Time, .slice A48 x1.Todo.length c49, iV x1.Age, iV x1.Sent, iV x1.Cap, .slice A53 x1.Rows.length c54])]) (N := 43) func147 ?_
 refine sr ?_
 refine Qbn rfl (Qk rfl) (by decide) (fun p57 => ?_)
 refine Qbn rfl (Qk rfl) (by decide) (fun p58 => ?_)
 refine wa (nt' (Qe (sr ?_)))
 refine wv (vf Qaj rfl Qbj) ?_
 refine wv (fun W hm => Qad (cs := [iV x0.Query.Id, iV x0.Query.Tenant, .slice A10 x0.Query.Conds.length c11, .slice A15 x0.Query.Out.length c16]) Qbq Qbj rfl rfl (hm.boxPart (n := 1) rfl rfl)) ?_
 refine wv (vf Qaj rfl Qbj) ?_
 refine wv (fun W hm => Qad (cs := [iV x1.Query.Id, iV x1.Query.Tenant, .slice A38 x1.Query.Conds.length c39, .slice A43 x1.Query.Out.length c44]) Qbq Qbj rfl rfl (hm.boxPart (n := 0) rfl rfl)) ?_
 refine wcv (Qr Qaed rfl) (fun W hm => Qafx W _ x0.Query _ x1.Query (Qhg (x := x0.Query) (hm.rdS0 r13) (hm.rdS0 r18)) (Qhg (x := x1.Query) (hm.rdS0 r41) (hm.rdS0 r46))) ?_
 refine wv Qbr ?_
 refine nt' ?_
 rcases bd (Qon x0.Query x1.Query) with g60 | g60
 ·
  refine Qm rfl (nt g60) ?_
  refine Qp (Qd (Qe (sr ?_)))
  refine wv (vf Qaj rfl Qf) ?_
  refine wv (vl 1 4 Qs) ?_
  refine wv (vf Qaj rfl Qf) ?_
  refine wv (vl 0 4 Qs) ?_
  refine wv Qcj ?_
  refine nt' ?_
  rcases dcn x0.Time x1.Time with ⟨h61, g62⟩ | ⟨h61, g62⟩
  ·
   refine Qm rfl g62 ?_
   refine Qp (Qd (Qe (sr ?_)))
   refine wv (vf Qaj rfl Qao) ?_
   refine wv (vl 1 5 Qq) ?_
   refine wv (vf Qaj rfl Qao) ?_
   refine wv (vl 0 5 Qq) ?_
   refine wcv (Qr Qnj rfl) (fun W hm => Qnp W _ x0.Todo _ x1.Todo (hm.rdS0 r23) (hm.rdS0 r51)) ?_
   refine wv Qbr ?_
   refine nt' ?_
   rcases bd (Qhd x0.Todo x1.Todo) with g64 | g64
   ·
    refine Qm rfl (nt g64) ?_
    refine Qp (Qd (Qe (sr ?_)))
    refine wv (vf Qaj rfl Qf) ?_
    refine wv (vl 1 6 Qs) ?_
    refine wv (vf Qaj rfl Qf) ?_
    refine wv (vl 0 6 Qs) ?_
    refine wv Qcj ?_
    refine nt' ?_
    rcases dcn x0.Age x1.Age with ⟨h65, g66⟩ | ⟨h65, g66⟩
    ·
     refine Qm rfl g66 ?_
     refine Qp (Qd (Qe (sr ?_)))
     refine wv (vf Qaj rfl Qf) ?_
     refine wv (vl 1 7 Qs) ?_
     refine wv (vf Qaj rfl Qf) ?_
     refine wv (vl 0 7 Qs) ?_
     refine wv Qcj ?_
     refine nt' ?_
     rcases dcn x0.Sent x1.Sent with ⟨h67, g68⟩ | ⟨h67, g68⟩
     ·
      refine Qm rfl g68 ?_
      refine Qp (Qd (Qe (sr ?_)))
      refine wv (vf Qaj rfl Qf) ?_
      refine wv (vl 1 8 Qs) ?_
      refine wv (vf Qaj rfl Qf) ?_
      refine wv (vl 0 8 Qs) ?_
      refine wv Qcj ?_
      refine nt' ?_
      rcases dcn x0.Cap x1.Cap with ⟨h69, g70⟩ | ⟨h69, g70⟩
      ·
       refine Qm rfl g70 ?_
       refine Qp (Qd (Qe (sr ?_)))
       refine wv (vf Qaj rfl Qdt) ?_
       refine wv (vl 1 9 Qci) ?_
       refine wv (vf Qaj rfl Qdt) ?_
       refine wv (vl 0 9 Qci) ?_
       refine wcv (Qr Qaee rfl) (fun W hm => Qafz W _ x0.Rows _ x1.Rows (hm.rdS0 r28) (hm.rdS0 r56)) ?_
       refine wv Qbr ?_
       refine nt' ?_
       rcases bd (Qoo x0.Rows x1.Rows) with g72 | g72
       ·
        refine Qm rfl (nt g72) ?_
        refine Qp (Qd (sr (wa (nt' (Qj ?_)))))
        exact rtb (h := Qb g60 (Qc g62 (Qb g64 (Qc g66 (Qc g68 (Qc g70 (Qb g72 (rfl))))))))
       refine Ql rfl (nf g72) ?_
       refine sr (wa (nt' (Qj (Qg ?_))))
       exact rtb (h := Qb g60 (Qc g62 (Qb g64 (Qc g66 (Qc g68 (Qc g70 (Qc g72 (rfl))))))))
      refine Ql rfl g70 ?_
      refine sr (wa (nt' (Qj (Qg ?_))))
      exact rtb (h := Qb g60 (Qc g62 (Qb g64 (Qc g66 (Qc g68 (Qb g70 (rfl)))))))
     refine Ql rfl g68 ?_
     refine sr (wa (nt' (Qj (Qg ?_))))
     exact rtb (h := Qb g60 (Qc g62 (Qb g64 (Qc g66 (Qb g68 (rfl))))))
    refine Ql rfl g66 ?_
    refine sr (wa (nt' (Qj (Qg ?_))))
    exact rtb (h := Qb g60 (Qc g62 (Qb g64 (Qb g66 (rfl)))))
   refine Ql rfl (nf g64) ?_
   refine sr (wa (nt' (Qj (Qg ?_))))
   exact rtb (h := Qb g60 (Qc g62 (Qc g64 (rfl))))
  refine Ql rfl g62 ?_
  refine sr (wa (nt' (Qj (Qg ?_))))
  exact rtb (h := Qb g60 (Qb g62 (rfl)))
 refine Ql rfl (nf g60) ?_
 refine sr (wa (nt' (Qj (Qg ?_))))
 exact rtb (h := Qc g60 (rfl))

def Qyz (x0 : (List Qw)) (x1 : (List Qw)) (k13 : Nat) : Bool ⊕ (Unit) :=
 cond (Qrw (gt x0 k13) (gt x1 k13)) (Sum.inr ()) (Sum.inl false)
def Qrv (x0 : (List Qw)) (x1 : (List Qw)) : Bool :=
 cond (((x0.length : Nat) : Int) != ((x1.length : Nat) : Int)) false (Sum.elim id (fun (s : Unit) => true) (rng (R := Bool) (fun k (_ : Unit) => Qyz x0 x1 k) (x0.length - 0) 0 ()))
theorem cb75 : Cb Tryz.prog 75 := ⟨f75, _, func75, rfl, by decide⟩
theorem Qauq (w : World) (z0 : Value) (x0 : (List Qw)) (z1 : Value) (x1 : (List Qw)) (r_0 : rdS Qah w w.heap.size z0 x0) (r_1 : rdS Qah w w.heap.size z1 x1) :
  Calls Tryz.prog 75 #[z0, z1] w (rB w (Qrv x0 x1)) := by
 obtain ⟨m1, A2, c3, rfl, q4, r5⟩ := Qi r_0
 obtain ⟨m6, A7, c8, rfl, q9, r10⟩ := Qi r_1
 refine ce2 (L := [(0, .slice A2 x0.length c3), (1, .slice A7 x1.length c8)]) (N := 27) func75 ?_
 refine sr (wa (nt' (Qe (sr (wm ?_)))))
 refine wv (Qag Qax) ?_
 refine wm ?_
 refine wv (Qag Qax) ?_
 refine wv Qcj ?_
 refine nt' ?_
 rcases dcn ((x0.length : Nat) : Int) ((x1.length : Nat) : Int) with ⟨h11, g12⟩ | ⟨h11, g12⟩
 ·
  refine Qm rfl g12 ?_
  refine Qp (Qd (Qe (sr (wa (nt' (Qx ?_))))))
  refine Qbg (S := Unit) (R := Unit) (fun k (_ : Unit) => Qyz x0 x1 k) x0.length 0 () () (fun s => [(0, .slice A2 x0.length c3), (1, .slice A7 x1.length c8), (5, nI s.1)]) (fun s => []) (fun s => True) sl3 trivial ?_
  rintro ⟨k13, ⟨⟩, ⟨⟩⟩ H16 _ _ e e'
  dsimp only at H16 ⊢
  subst e e'
  obtain ⟨hk14, hF15, _⟩ := H16
  refine Qe (sr (wm (wm ?_)))
  refine wv (Qag Qax) ?_
  refine wv Qai ?_
  refine nt' ?_
  rcases dcl k13 x0.length with ⟨hl17, g18⟩ | ⟨hl17, g18⟩
  ·
   refine Ql rfl g18 ?_
   refine Qp (Qd (Qe (Qx (Qe ?_))))
   refine Qfa (by kernel_rfl) (by kernel_rfl) ?_
   refine qm (qm ?_)
   obtain ⟨a19, rfl, hb20, he21⟩ := q4 (by omega)
   refine qv (vix 10 k13 Qax Qbe) ?_
   obtain ⟨_, e31, hc22⟩ := he21 k13 _ (Qbs (show k13 < x0.length from by omega))
   obtain ⟨v23, v25, v27, v29, rfl, r24, r26, r28, r30⟩ := Qgp e31
   obtain ⟨m32, A33, c34, rfl, q35, r36⟩ := Qi r24
   obtain ⟨m37, A38, c39, rfl, q40, r41⟩ := Qi r26
   obtain ⟨m42, A43, c44, rfl, q45, r46⟩ := Qi r28
   obtain ⟨m47, A48, c49, rfl, q50, r51⟩ := Qi r30
   refine qv (fun W hm => Qad (cs := [iV ((gt x0 k13).Query.Id), iV ((gt x0 k13).Query.Tenant), .slice A33 ((gt x0 k13).Query.Conds).length c34, .slice A38 ((gt x0 k13).Query.Out).length c39, iV ((gt x0 k13).Time), .slice A43 ((gt x0 k13).Todo).length c44, iV ((gt x0 k13).Age), iV ((gt x0 k13).Sent), iV ((gt x0 k13).Cap), .slice A48 ((gt x0 k13).Rows).length c49]) Qaj Qbe rfl rfl (hm.elCells (show (a19.add (k13 * 10)).block < w.heap.size from by rw [Qae]; exact hb20.1) hc22)) ?_
   refine qm (qm ?_)
   obtain ⟨a52, rfl, hb53, he54⟩ := q9 (by omega)
   refine qv (vix 10 k13 Qax Qbe) ?_
   obtain ⟨_, e64, hc55⟩ := he54 k13 _ (Qbs (show k13 < x1.length from by omega))
   obtain ⟨v56, v58, v60, v62, rfl, r57, r59, r61, r63⟩ := Qgp e64
   obtain ⟨m65, A66, c67, rfl, q68, r69⟩ := Qi r57
   obtain ⟨m70, A71, c72, rfl, q73, r74⟩ := Qi r59
   obtain ⟨m75, A76, c77, rfl, q78, r79⟩ := Qi r61
   obtain ⟨m80, A81, c82, rfl, q83, r84⟩ := Qi r63
   refine qv (fun W hm => Qad (cs := [iV ((gt x1 k13).Query.Id), iV ((gt x1 k13).Query.Tenant), .slice A66 ((gt x1 k13).Query.Conds).length c67, .slice A71 ((gt x1 k13).Query.Out).length c72, iV ((gt x1 k13).Time), .slice A76 ((gt x1 k13).Todo).length c77, iV ((gt x1 k13).Age), iV ((gt x1 k13).Sent), iV ((gt x1 k13).Cap), .slice A81 ((gt x1 k13).Rows).length c82]) Qaj Qbe rfl rfl (hm.elCells (show (a52.add (k13 * 10)).block < w.heap.size from by rw [Qae]; exact hb53.1) hc55)) ?_
   refine Qev (Qr Qanz rfl) (fun W hm => Qaus W _ (gt x0 k13) _ (gt x1 k13) (Qrb (x := (gt x0 k13)) (hm.rdS0 r36) (hm.rdS0 r41) (hm.rdS0 r46) (hm.rdS0 r51)) (Qrb (x := (gt x1 k13)) (hm.rdS0 r69) (hm.rdS0 r74) (hm.rdS0 r79) (hm.rdS0 r84))) (Qk rfl) (by decide) ?_
   refine qv Qbr ?_
   refine nq' ?_
   rcases bd (Qrw (gt x0 k13) (gt x1 k13)) with g86 | g86
   ·
    refine Qm rfl (nt g86) ?_
    refine Qp (Qam (Qd (Qy (wm ?_))))
    refine wv (Qal k13 1 (by omega)) ?_
    refine wa (Qac ?_)
    exact Qan (k13 + 1, (), ()) sl3 idM ⟨(by omega), nx hF15 (Qb g86 (rfl)), trivial⟩ rl
   refine Ql rfl (nf g86) ?_
   refine sr (wa (nt' (Qj (Qaa (Qg (Qg (Qaa (Qg ?_))))))))
   exact rtb (h := Qc g12 (Qbf (nr hF15 (Qc g86 (rfl))) rfl))
  refine Qm rfl g18 ?_
  refine Qay (Qu (Qu ?_))
  have hE88 := Qbh hl17 hF15
  refine Qaz (Qd (sr (wa (nt' (Qj ?_)))))
  exact rtb (h := Qc g12 (Qar hE88 (rfl)))
 refine Ql rfl g12 ?_
 refine sr (wa (nt' (Qj (Qg ?_))))
 exact rtb (h := Qb g12 (rfl))

def Qsc (x0 : Qav) (x1 : Qav) : Bool :=
 cond (Qon x0.Query x1.Query) (cond (x0.Time != x1.Time) false (cond (x0.Steps != x1.Steps) false (cond (Qoo x0.Rows x1.Rows) true false))) false
theorem Qaoa : Cb Tryz.prog 148 := ⟨f148, _, func148, rfl, by decide⟩
theorem Qave (w : World) (z0 : List Value) (x0 : Qav) (z1 : List Value) (x1 : Qav) (r_0 : Qas.rd w w.heap.size z0 x0) (r_1 : Qas.rd w w.heap.size z1 x1) :
  Calls Tryz.prog 148 #[.agg z0.toArray, .agg z1.toArray] w (rB w (Qsc x0 x1)) := by
 obtain ⟨v1, v3, v5, rfl, r2, r4, r6⟩ := Qlz r_0
 obtain ⟨m7, A8, c9, rfl, q10, r11⟩ := Qi r2
 obtain ⟨m12, A13, c14, rfl, q15, r16⟩ := Qi r4
 obtain ⟨m17, A18, c19, rfl, q20, r21⟩ := Qi r6
 obtain ⟨v22, v24, v26, rfl, r23, r25, r27⟩ := Qlz r_1
 obtain ⟨m28, A29, c30, rfl, q31, r32⟩ := Qi r23
 obtain ⟨m33, A34, c35, rfl, q36, r37⟩ := Qi r25
 obtain ⟨m38, A39, c40, rfl, q41, r42⟩ := Qi r27
 refine ce2 (L := [(0, .agg #[iV x0.Query.Id, iV x0.Query.Tenant, .slice A8 x0.Query.Conds.length c9, .slice A13 x0.Query.Out.length c14, iV x0.Time, iV x0.Steps, .slice A18 x0.Rows.length c19]), (1, .agg #[iV x1.Query.Id, iV x1.Query.Tenant, .slice A29 x1.Query.Conds.length c30, .slice A34 x1.Query.Out.length c35, iV x1.Time, iV x1.Steps, .slice A39 x1.Rows.length c40])]) (N := 27) func148 ?_
 refine sr ?_
 refine Qbn rfl (Qk rfl) (by decide) (fun p43 => ?_)
 refine Qbn rfl (Qk rfl) (by decide) (fun p44 => ?_)
 refine wa (nt' (Qe (sr ?_)))
 refine wv (vf Qda rfl Qbj) ?_
 refine wv (fun W hm => Qad (cs := [iV x0.Query.Id, iV x0.Query.Tenant, .slice A8 x0.Query.Conds.length c9, .slice A13 x0.Query.Out.length c14]) Qbq Qbj rfl rfl (hm.boxPart (n := 1) rfl rfl)) ?_
 refine wv (vf Qda rfl Qbj) ?_
 refine wv (fun W hm => Qad (cs := [iV x1.Query.Id, iV x1.Query.Tenant, .slice A29 x1.Query.Conds.length c30, .slice A34 x1.Query.Out.length c35]) Qbq Qbj rfl rfl (hm.boxPart (n := 0) rfl rfl)) ?_
 refine wcv (Qr Qaed rfl) (fun W hm => Qafx W _ x0.Query _ x1.Query (Qhg (x := x0.Query) (hm.rdS0 r11) (hm.rdS0 r16)) (Qhg (x := x1.Query) (hm.rdS0 r32) (hm.rdS0 r37))) ?_
 refine wv Qbr ?_
 refine nt' ?_
 rcases bd (Qon x0.Query x1.Query) with g46 | g46
 ·
  refine Qm rfl (nt g46) ?_
  refine Qp (Qd (Qe (sr ?_)))
  refine wv (vf Qda rfl Qf) ?_
  refine wv (vl 1 4 Qs) ?_
  refine wv (vf Qda rfl Qf) ?_
  refine wv (vl 0 4 Qs) ?_
  refine wv Qcj ?_
  refine nt' ?_
  rcases dcn x0.Time x1.Time with ⟨h47, g48⟩ | ⟨h47, g48⟩
  ·
   refine Qm rfl g48 ?_
   refine Qp (Qd (Qe (sr ?_)))
   refine wv (vf Qda rfl Qf) ?_
   refine wv (vl 1 5 Qs) ?_
   refine wv (vf Qda rfl Qf) ?_
   refine wv (vl 0 5 Qs) ?_
   refine wv Qcj ?_
   refine nt' ?_
   rcases dcn x0.Steps x1.Steps with ⟨h49, g50⟩ | ⟨h49, g50⟩
   ·
    refine Qm rfl g50 ?_
    refine Qp (Qd (Qe (sr ?_)))
    refine wv (vf Qda rfl Qdt) ?_
    refine wv (vl 1 6 Qci) ?_
    refine wv (vf Qda rfl Qdt) ?_
    refine wv (vl 0 6 Qci) ?_
    refine wcv (Qr Qaee rfl) (fun W hm => Qafz W _ x0.Rows _ x1.Rows (hm.rdS0 r21) (hm.rdS0 r42)) ?_
    refine wv Qbr ?_
    refine nt' ?_
    rcases bd (Qoo x0.Rows x1.Rows) with g52 | g52
    ·
     refine Qm rfl (nt g52) ?_
     refine Qp (Qd (sr (wa (nt' (Qj ?_)))))
     exact rtb (h := Qb g46 (Qc g48 (Qc g50 (Qb g52 (rfl)))))
    refine Ql rfl (nf g52) ?_
    refine sr (wa (nt' (Qj (Qg ?_))))
    exact rtb (h := Qb g46 (Qc g48 (Qc g50 (Qc g52 (rfl)))))
   refine Ql rfl g50 ?_
   refine sr (wa (nt' (Qj (Qg ?_))))
   exact rtb (h := Qb g46 (Qc g48 (Qb g50 (rfl))))
  refine Ql rfl g48 ?_
  refine sr (wa (nt' (Qj (Qg ?_))))
  exact rtb (h := Qb g46 (Qb g48 (rfl)))
 refine Ql rfl (nf g46) ?_
 refine sr (wa (nt' (Qj (Qg ?_))))
 exact rtb (h := Qc g46 (rfl))

def Qzc (x0 : (List Qav)) (x1 : (List Qav)) (k13 : Nat) : Bool ⊕ (Unit) :=
 cond (Qsc (gt x0 k13) (gt x1 k13)) (Sum.inr ()) (Sum.inl false)
def Qsb (x0 : (List Qav)) (x1 : (List Qav)) : Bool :=
 cond (((x0.length : Nat) : Int) != ((x1.length : Nat) : Int)) false (Sum.elim id (fun (s : Unit) => true) (rng (R := Bool) (fun k (_ : Unit) => Qzc x0 x1 k) (x0.length - 0) 0 ()))
theorem cb76 : Cb Tryz.prog 76 := ⟨f76, _, func76, rfl, by decide⟩
theorem Qavc (w : World) (z0 : Value) (x0 : (List Qav)) (z1 : Value) (x1 : (List Qav)) (r_0 : rdS Qas w w.heap.size z0 x0) (r_1 : rdS Qas w w.heap.size z1 x1) :
  Calls Tryz.prog 76 #[z0, z1] w (rB w (Qsb x0 x1)) := by
 obtain ⟨m1, A2, c3, rfl, q4, r5⟩ := Qi r_0
 obtain ⟨m6, A7, c8, rfl, q9, r10⟩ := Qi r_1
 refine ce2 (L := [(0, .slice A2 x0.length c3), (1, .slice A7 x1.length c8)]) (N := 27) func76 ?_
 refine sr (wa (nt' (Qe (sr (wm ?_)))))
 refine wv (Qag Qch) ?_
 refine wm ?_
 refine wv (Qag Qch) ?_
 refine wv Qcj ?_
 refine nt' ?_
 rcases dcn ((x0.length : Nat) : Int) ((x1.length : Nat) : Int) with ⟨h11, g12⟩ | ⟨h11, g12⟩
 ·
  refine Qm rfl g12 ?_
  refine Qp (Qd (Qe (sr (wa (nt' (Qx ?_))))))
  refine Qbg (S := Unit) (R := Unit) (fun k (_ : Unit) => Qzc x0 x1 k) x0.length 0 () () (fun s => [(0, .slice A2 x0.length c3), (1, .slice A7 x1.length c8), (5, nI s.1)]) (fun s => []) (fun s => True) sl3 trivial ?_
  rintro ⟨k13, ⟨⟩, ⟨⟩⟩ H16 _ _ e e'
  dsimp only at H16 ⊢
  subst e e'
  obtain ⟨hk14, hF15, _⟩ := H16
  refine Qe (sr (wm (wm ?_)))
  refine wv (Qag Qch) ?_
  refine wv Qai ?_
  refine nt' ?_
  rcases dcl k13 x0.length with ⟨hl17, g18⟩ | ⟨hl17, g18⟩
  ·
   refine Ql rfl g18 ?_
   refine Qp (Qd (Qe (Qx (Qe ?_))))
   refine Qfa (by kernel_rfl) (by kernel_rfl) ?_
   refine qm (qm ?_)
   obtain ⟨a19, rfl, hb20, he21⟩ := q4 (by omega)
   refine qv (vix 7 k13 Qch Qcq) ?_
   obtain ⟨_, e29, hc22⟩ := he21 k13 _ (Qbs (show k13 < x0.length from by omega))
   obtain ⟨v23, v25, v27, rfl, r24, r26, r28⟩ := Qlz e29
   obtain ⟨m30, A31, c32, rfl, q33, r34⟩ := Qi r24
   obtain ⟨m35, A36, c37, rfl, q38, r39⟩ := Qi r26
   obtain ⟨m40, A41, c42, rfl, q43, r44⟩ := Qi r28
   refine qv (fun W hm => Qad (cs := [iV ((gt x0 k13).Query.Id), iV ((gt x0 k13).Query.Tenant), .slice A31 ((gt x0 k13).Query.Conds).length c32, .slice A36 ((gt x0 k13).Query.Out).length c37, iV ((gt x0 k13).Time), iV ((gt x0 k13).Steps), .slice A41 ((gt x0 k13).Rows).length c42]) Qda Qcq rfl rfl (hm.elCells (show (a19.add (k13 * 7)).block < w.heap.size from by rw [Qae]; exact hb20.1) hc22)) ?_
   refine qm (qm ?_)
   obtain ⟨a45, rfl, hb46, he47⟩ := q9 (by omega)
   refine qv (vix 7 k13 Qch Qcq) ?_
   obtain ⟨_, e55, hc48⟩ := he47 k13 _ (Qbs (show k13 < x1.length from by omega))
   obtain ⟨v49, v51, v53, rfl, r50, r52, r54⟩ := Qlz e55
   obtain ⟨m56, A57, c58, rfl, q59, r60⟩ := Qi r50
   obtain ⟨m61, A62, c63, rfl, q64, r65⟩ := Qi r52
   obtain ⟨m66, A67, c68, rfl, q69, r70⟩ := Qi r54
   refine qv (fun W hm => Qad (cs := [iV ((gt x1 k13).Query.Id), iV ((gt x1 k13).Query.Tenant), .slice A57 ((gt x1 k13).Query.Conds).length c58, .slice A62 ((gt x1 k13).Query.Out).length c63, iV ((gt x1 k13).Time), iV ((gt x1 k13).Steps), .slice A67 ((gt x1 k13).Rows).length c68]) Qda Qcq rfl rfl (hm.elCells (show (a45.add (k13 * 7)).block < w.heap.size from by rw [Qae]; exact hb46.1) hc48)) ?_
   refine Qev (Qr Qaoa rfl) (fun W hm => Qave W _ (gt x0 k13) _ (gt x1 k13) (Qabq (x := (gt x0 k13)) (hm.rdS0 r34) (hm.rdS0 r39) (hm.rdS0 r44)) (Qabq (x := (gt x1 k13)) (hm.rdS0 r60) (hm.rdS0 r65) (hm.rdS0 r70))) (Qk rfl) (by decide) ?_
   refine qv Qbr ?_
   refine nq' ?_
   rcases bd (Qsc (gt x0 k13) (gt x1 k13)) with g72 | g72
   ·
    refine Qm rfl (nt g72) ?_
    refine Qp (Qam (Qd (Qy (wm ?_))))
    refine wv (Qal k13 1 (by omega)) ?_
    refine wa (Qac ?_)
    exact Qan (k13 + 1, (), ()) sl3 idM ⟨(by omega), nx hF15 (Qb g72 (rfl)), trivial⟩ rl
   refine Ql rfl (nf g72) ?_
   refine sr (wa (nt' (Qj (Qaa (Qg (Qg (Qaa (Qg ?_))))))))
   exact rtb (h := Qc g12 (Qbf (nr hF15 (Qc g72 (rfl))) rfl))
  refine Qm rfl g18 ?_
  refine Qay (Qu (Qu ?_))
  have hE74 := Qbh hl17 hF15
  refine Qaz (Qd (sr (wa (nt' (Qj ?_)))))
  exact rtb (h := Qc g12 (Qar hE74 (rfl)))
 refine Ql rfl g12 ?_
 refine sr (wa (nt' (Qj (Qg ?_))))
 exact rtb (h := Qb g12 (rfl))

def Qry (x0 : Qbc) (x1 : Qbc) : Bool :=
 cond (x0.Segment != x1.Segment) false (cond (x0.Base != x1.Base) false (cond (Qhd x0.Ids x1.Ids) (cond (Qhd x0.Tenants x1.Tenants) (cond (Qhd x0.Rows x1.Rows) true false) false) false))
theorem Qaob : Cb Tryz.prog 149 := ⟨f149, _, func149, rfl, by decide⟩
theorem Qauw (w : World) (z0 : List Value) (x0 : Qbc) (z1 : List Value) (x1 : Qbc) (r_0 : Qaq.rd w w.heap.size z0 x0) (r_1 : Qaq.rd w w.heap.size z1 x1) :
  Calls Tryz.prog 149 #[.agg z0.toArray, .agg z1.toArray] w (rB w (Qry x0 x1)) := by
 obtain ⟨v1, v3, v5, rfl, r2, r4, r6⟩ := Qjn r_0
 obtain ⟨m7, A8, c9, rfl, q10, r11⟩ := Qi r2
 obtain ⟨m12, A13, c14, rfl, q15, r16⟩ := Qi r4
 obtain ⟨m17, A18, c19, rfl, q20, r21⟩ := Qi r6
 obtain ⟨v22, v24, v26, rfl, r23, r25, r27⟩ := Qjn r_1
 obtain ⟨m28, A29, c30, rfl, q31, r32⟩ := Qi r23
 obtain ⟨m33, A34, c35, rfl, q36, r37⟩ := Qi r25
 obtain ⟨m38, A39, c40, rfl, q41, r42⟩ := Qi r27
 refine ce2 (L := [(0, .agg #[iV x0.Segment, iV x0.Base, .slice A8 x0.Ids.length c9, .slice A13 x0.Tenants.length c14, .slice A18 x0.Rows.length c19]), (1, .agg #[iV x1.Segment, iV x1.Base, .slice A29 x1.Ids.length c30, .slice A34 x1.Tenants.length c35, .slice A39 x1.Rows.length c40])]) (N := 33) func149 ?_
 refine sr ?_
 refine Qbn rfl (Qk rfl) (by decide) (fun p43 => ?_)
 refine Qbn rfl (Qk rfl) (by decide) (fun p44 => ?_)
 refine wa (nt' (Qe (sr ?_)))
 refine wv (vf Qby rfl Qf) ?_
 refine wv (vl 1 0 Qs) ?_
 refine wv (vf Qby rfl Qf) ?_
 refine wv (vl 0 0 Qs) ?_
 refine wv Qcj ?_
 refine nt' ?_
 rcases dcn x0.Segment x1.Segment with ⟨h45, g46⟩ | ⟨h45, g46⟩
 ·
  refine Qm rfl g46 ?_
  refine Qp (Qd (Qe (sr ?_)))
  refine wv (vf Qby rfl Qf) ?_
  refine wv (vl 1 1 Qs) ?_
  refine wv (vf Qby rfl Qf) ?_
  refine wv (vl 0 1 Qs) ?_
  refine wv Qcj ?_
  refine nt' ?_
  rcases dcn x0.Base x1.Base with ⟨h47, g48⟩ | ⟨h47, g48⟩
  ·
   refine Qm rfl g48 ?_
   refine Qp (Qd (Qe (sr ?_)))
   refine wv (vf Qby rfl Qao) ?_
   refine wv (vl 1 2 Qq) ?_
   refine wv (vf Qby rfl Qao) ?_
   refine wv (vl 0 2 Qq) ?_
   refine wcv (Qr Qnj rfl) (fun W hm => Qnp W _ x0.Ids _ x1.Ids (hm.rdS0 r11) (hm.rdS0 r32)) ?_
   refine wv Qbr ?_
   refine nt' ?_
   rcases bd (Qhd x0.Ids x1.Ids) with g50 | g50
   ·
    refine Qm rfl (nt g50) ?_
    refine Qp (Qd (Qe (sr ?_)))
    refine wv (vf Qby rfl Qao) ?_
    refine wv (vl 1 3 Qq) ?_
    refine wv (vf Qby rfl Qao) ?_
    refine wv (vl 0 3 Qq) ?_
    refine wcv (Qr Qnj rfl) (fun W hm => Qnp W _ x0.Tenants _ x1.Tenants (hm.rdS0 r16) (hm.rdS0 r37)) ?_
    refine wv Qbr ?_
    refine nt' ?_
    rcases bd (Qhd x0.Tenants x1.Tenants) with g52 | g52
    ·
     refine Qm rfl (nt g52) ?_
     refine Qp (Qd (Qe (sr ?_)))
     refine wv (vf Qby rfl Qao) ?_
     refine wv (vl 1 4 Qq) ?_
     refine wv (vf Qby rfl Qao) ?_
     refine wv (vl 0 4 Qq) ?_
     refine wcv (Qr Qnj rfl) (fun W hm => Qnp W _ x0.Rows _ x1.Rows (hm.rdS0 r21) (hm.rdS0 r42)) ?_
     refine wv Qbr ?_
     refine nt' ?_
     rcases bd (Qhd x0.Rows x1.Rows) with g54 | g54
     ·
      refine Qm rfl (nt g54) ?_
      refine Qp (Qd (sr (wa (nt' (Qj ?_)))))
      exact rtb (h := Qc g46 (Qc g48 (Qb g50 (Qb g52 (Qb g54 (rfl))))))
     refine Ql rfl (nf g54) ?_
     refine sr (wa (nt' (Qj (Qg ?_))))
     exact rtb (h := Qc g46 (Qc g48 (Qb g50 (Qb g52 (Qc g54 (rfl))))))
    refine Ql rfl (nf g52) ?_
    refine sr (wa (nt' (Qj (Qg ?_))))
    exact rtb (h := Qc g46 (Qc g48 (Qb g50 (Qc g52 (rfl)))))
   refine Ql rfl (nf g50) ?_
   refine sr (wa (nt' (Qj (Qg ?_))))
   exact rtb (h := Qc g46 (Qc g48 (Qc g50 (rfl))))
  refine Ql rfl g48 ?_
  refine sr (wa (nt' (Qj (Qg ?_))))
  exact rtb (h := Qc g46 (Qb g48 (rfl)))
 refine Ql rfl g46 ?_
 refine sr (wa (nt' (Qj (Qg ?_))))
 exact rtb (h := Qb g46 (rfl))

def Qza (x0 : (List Qbc)) (x1 : (List Qbc)) (k13 : Nat) : Bool ⊕ (Unit) :=
 cond (Qry (gt x0 k13) (gt x1 k13)) (Sum.inr ()) (Sum.inl false)
def Qrx (x0 : (List Qbc)) (x1 : (List Qbc)) : Bool :=
 cond (((x0.length : Nat) : Int) != ((x1.length : Nat) : Int)) false (Sum.elim id (fun (s : Unit) => true) (rng (R := Bool) (fun k (_ : Unit) => Qza x0 x1 k) (x0.length - 0) 0 ()))
theorem cb77 : Cb Tryz.prog 77 := ⟨f77, _, func77, rfl, by decide⟩
theorem Qauu (w : World) (z0 : Value) (x0 : (List Qbc)) (z1 : Value) (x1 : (List Qbc)) (r_0 : rdS Qaq w w.heap.size z0 x0) (r_1 : rdS Qaq w w.heap.size z1 x1) :
  Calls Tryz.prog 77 #[z0, z1] w (rB w (Qrx x0 x1)) := by
 obtain ⟨m1, A2, c3, rfl, q4, r5⟩ := Qi r_0
 obtain ⟨m6, A7, c8, rfl, q9, r10⟩ := Qi r_1
 refine ce2 (L := [(0, .slice A2 x0.length c3), (1, .slice A7 x1.length c8)]) (N := 27) func77 ?_
 refine sr (wa (nt' (Qe (sr (wm ?_)))))
 refine wv (Qag Qcx) ?_
 refine wm ?_
 refine wv (Qag Qcx) ?_
 refine wv Qcj ?_
 refine nt' ?_
 rcases dcn ((x0.length : Nat) : Int) ((x1.length : Nat) : Int) with ⟨h11, g12⟩ | ⟨h11, g12⟩
 ·
  refine Qm rfl g12 ?_
  refine Qp (Qd (Qe (sr (wa (nt' (Qx ?_))))))
  refine Qbg (S := Unit) (R := Unit) (fun k (_ : Unit) => Qza x0 x1 k) x0.length 0 () () (fun s => [(0, .slice A2 x0.length c3), (1, .slice A7 x1.length c8), (5, nI s.1)]) (fun s => []) (fun s => True) sl3 trivial ?_
  rintro ⟨k13, ⟨⟩, ⟨⟩⟩ H16 _ _ e e'
  dsimp only at H16 ⊢
  subst e e'
  obtain ⟨hk14, hF15, _⟩ := H16
  refine Qe (sr (wm (wm ?_)))
  refine wv (Qag Qcx) ?_
  refine wv Qai ?_
  refine nt' ?_
  rcases dcl k13 x0.length with ⟨hl17, g18⟩ | ⟨hl17, g18⟩
  ·
   refine Ql rfl g18 ?_
   refine Qp (Qd (Qe (Qx (Qe ?_))))
   refine Qfa (by kernel_rfl) (by kernel_rfl) ?_
   refine qm (qm ?_)
   obtain ⟨a19, rfl, hb20, he21⟩ := q4 (by omega)
   refine qv (vix 5 k13 Qcx Qcs) ?_
   obtain ⟨_, e29, hc22⟩ := he21 k13 _ (Qbs (show k13 < x0.length from by omega))
   obtain ⟨v23, v25, v27, rfl, r24, r26, r28⟩ := Qjn e29
   obtain ⟨m30, A31, c32, rfl, q33, r34⟩ := Qi r24
   obtain ⟨m35, A36, c37, rfl, q38, r39⟩ := Qi r26
   obtain ⟨m40, A41, c42, rfl, q43, r44⟩ := Qi r28
   refine qv (fun W hm => Qad (cs := [iV ((gt x0 k13).Segment), iV ((gt x0 k13).Base), .slice A31 ((gt x0 k13).Ids).length c32, .slice A36 ((gt x0 k13).Tenants).length c37, .slice A41 ((gt x0 k13).Rows).length c42]) Qby Qcs rfl rfl (hm.elCells (show (a19.add (k13 * 5)).block < w.heap.size from by rw [Qae]; exact hb20.1) hc22)) ?_
   refine qm (qm ?_)
   obtain ⟨a45, rfl, hb46, he47⟩ := q9 (by omega)
   refine qv (vix 5 k13 Qcx Qcs) ?_
   obtain ⟨_, e55, hc48⟩ := he47 k13 _ (Qbs (show k13 < x1.length from by omega))
   obtain ⟨v49, v51, v53, rfl, r50, r52, r54⟩ := Qjn e55
   obtain ⟨m56, A57, c58, rfl, q59, r60⟩ := Qi r50
   obtain ⟨m61, A62, c63, rfl, q64, r65⟩ := Qi r52
   obtain ⟨m66, A67, c68, rfl, q69, r70⟩ := Qi r54
   refine qv (fun W hm => Qad (cs := [iV ((gt x1 k13).Segment), iV ((gt x1 k13).Base), .slice A57 ((gt x1 k13).Ids).length c58, .slice A62 ((gt x1 k13).Tenants).length c63, .slice A67 ((gt x1 k13).Rows).length c68]) Qby Qcs rfl rfl (hm.elCells (show (a45.add (k13 * 5)).block < w.heap.size from by rw [Qae]; exact hb46.1) hc48)) ?_
   refine Qev (Qr Qaob rfl) (fun W hm => Qauw W _ (gt x0 k13) _ (gt x1 k13) (Qrc (x := (gt x0 k13)) (hm.rdS0 r34) (hm.rdS0 r39) (hm.rdS0 r44)) (Qrc (x := (gt x1 k13)) (hm.rdS0 r60) (hm.rdS0 r65) (hm.rdS0 r70))) (Qk rfl) (by decide) ?_
   refine qv Qbr ?_
   refine nq' ?_
   rcases bd (Qry (gt x0 k13) (gt x1 k13)) with g72 | g72
   ·
    refine Qm rfl (nt g72) ?_
    refine Qp (Qam (Qd (Qy (wm ?_))))
    refine wv (Qal k13 1 (by omega)) ?_
    refine wa (Qac ?_)
    exact Qan (k13 + 1, (), ()) sl3 idM ⟨(by omega), nx hF15 (Qb g72 (rfl)), trivial⟩ rl
   refine Ql rfl (nf g72) ?_
   refine sr (wa (nt' (Qj (Qaa (Qg (Qg (Qaa (Qg ?_))))))))
   exact rtb (h := Qc g12 (Qbf (nr hF15 (Qc g72 (rfl))) rfl))
  refine Qm rfl g18 ?_
  refine Qay (Qu (Qu ?_))
  have hE74 := Qbh hl17 hF15
  refine Qaz (Qd (sr (wa (nt' (Qj ?_)))))
  exact rtb (h := Qc g12 (Qar hE74 (rfl)))
 refine Ql rfl g12 ?_
 refine sr (wa (nt' (Qj (Qg ?_))))
 exact rtb (h := Qb g12 (rfl))

def Qmm (x0 : Qo) (x1 : Qo) : Bool :=
 cond (Qse x0.Store x1.Store) (cond (x0.Cursor != x1.Cursor) false (cond (Qhd x0.Order x1.Order) (cond (Qrv x0.Active x1.Active) (cond (Qsb x0.Done x1.Done) (cond (Qrx x0.Ledger x1.Ledger) (cond (x0.Steps != x1.Steps) false true) false) false) false) false)) false
theorem Qts : Cb Tryz.prog 13 := ⟨f13, _, func13, rfl, by decide⟩
theorem Quu (w : World) (z0 : List Value) (x0 : Qo) (z1 : List Value) (x1 : Qo) (r_0 : Qcb.rd w w.heap.size z0 x0) (r_1 : Qcb.rd w w.heap.size z1 x1) :
  Calls Tryz.prog 13 #[.agg z0.toArray, .agg z1.toArray] w (rB w (Qmm x0 x1)) := by
 obtain ⟨v1, v3, v5, v7, v9, rfl, r2, r4, r6, r8, r10⟩ := Qia r_0
 obtain ⟨m11, A12, c13, rfl, q14, r15⟩ := Qi r2
 obtain ⟨m16, A17, c18, rfl, q19, r20⟩ := Qi r4
 obtain ⟨m21, A22, c23, rfl, q24, r25⟩ := Qi r6
 obtain ⟨m26, A27, c28, rfl, q29, r30⟩ := Qi r8
 obtain ⟨m31, A32, c33, rfl, q34, r35⟩ := Qi r10
 obtain ⟨v36, v38, v40, v42, v44, rfl, r37, r39, r41, r43, r45⟩ := Qia r_1
 obtain ⟨m46, A47, c48, rfl, q49, r50⟩ := Qi r37
 obtain ⟨m51, A52, c53, rfl, q54, r55⟩ := Qi r39
 obtain ⟨m56, A57, c58, rfl, q59, r60⟩ := Qi r41
 obtain ⟨m61, A62, c63, rfl, q64, r65⟩ := Qi r43
 obtain ⟨m66, A67, c68, rfl, q69, r70⟩ := Qi r45
 refine ce2 (L := [(0, .agg #[.slice A12 x0.Store.Segments.length c13, iV x0.Store.Now, iV x0.Cursor, .slice A17 x0.Order.length c18, .slice A22 x0.Active.length c23, .slice A27 x0.Done.length c28, .slice A32 x0.Ledger.length c33, iV x0.Steps]), (1, .agg #[.slice A47 x1.Store.Segments.length c48, iV x1.Store.Now, iV x1.Cursor, .slice A52 x1.Order.length c53, .slice A57 x1.Active.length c58, .slice A62 x1.Done.length c63, .slice A67 x1.Ledger.length c68, iV x1.Steps])]) (N := 45) func13 ?_
 refine sr ?_
 refine Qbn rfl (Qk rfl) (by decide) (fun p71 => ?_)
 refine Qbn rfl (Qk rfl) (by decide) (fun p72 => ?_)
 refine wa (nt' (Qe (sr ?_)))
 refine wv (vf Qz rfl Qbt) ?_
 refine wv (fun W hm => Qad (cs := [.slice A12 x0.Store.Segments.length c13, iV x0.Store.Now]) Qbw Qbt rfl rfl (hm.boxPart (n := 1) rfl rfl)) ?_
 refine wv (vf Qz rfl Qbt) ?_
 refine wv (fun W hm => Qad (cs := [.slice A47 x1.Store.Segments.length c48, iV x1.Store.Now]) Qbw Qbt rfl rfl (hm.boxPart (n := 0) rfl rfl)) ?_
 refine wcv (Qr cb73 rfl) (fun W hm => Qavi W _ x0.Store _ x1.Store (Qgc (x := x0.Store) (hm.rdS0 r15)) (Qgc (x := x1.Store) (hm.rdS0 r50))) ?_
 refine wv Qbr ?_
 refine nt' ?_
 rcases bd (Qse x0.Store x1.Store) with g74 | g74
 ·
  refine Qm rfl (nt g74) ?_
  refine Qp (Qd (Qe (sr ?_)))
  refine wv (vf Qz rfl Qf) ?_
  refine wv (vl 1 2 Qs) ?_
  refine wv (vf Qz rfl Qf) ?_
  refine wv (vl 0 2 Qs) ?_
  refine wv Qcj ?_
  refine nt' ?_
  rcases dcn x0.Cursor x1.Cursor with ⟨h75, g76⟩ | ⟨h75, g76⟩
  ·
   refine Qm rfl g76 ?_
   refine Qp (Qd (Qe (sr ?_)))
   refine wv (vf Qz rfl Qao) ?_
   refine wv (vl 1 3 Qq) ?_
   refine wv (vf Qz rfl Qao) ?_
   refine wv (vl 0 3 Qq) ?_
   refine wcv (Qr Qnj rfl) (fun W hm => Qnp W _ x0.Order _ x1.Order (hm.rdS0 r20) (hm.rdS0 r55)) ?_
   refine wv Qbr ?_
   refine nt' ?_
   rcases bd (Qhd x0.Order x1.Order) with g78 | g78
   ·
    refine Qm rfl (nt g78) ?_
    refine Qp (Qd (Qe (sr ?_)))
    refine wv (vf Qz rfl Qcw) ?_
    refine wv (vl 1 4 Qax) ?_
    refine wv (vf Qz rfl Qcw) ?_
    refine wv (vl 0 4 Qax) ?_
    refine wcv (Qr cb75 rfl) (fun W hm => Qauq W _ x0.Active _ x1.Active (hm.rdS0 r25) (hm.rdS0 r60)) ?_
    refine wv Qbr ?_
    refine nt' ?_
    rcases bd (Qrv x0.Active x1.Active) with g80 | g80
    ·
     refine Qm rfl (nt g80) ?_
     refine Qp (Qd (Qe (sr ?_)))
     refine wv (vf Qz rfl Qek) ?_
     refine wv (vl 1 5 Qch) ?_
     refine wv (vf Qz rfl Qek) ?_
     refine wv (vl 0 5 Qch) ?_
     refine wcv (Qr cb76 rfl) (fun W hm => Qavc W _ x0.Done _ x1.Done (hm.rdS0 r30) (hm.rdS0 r65)) ?_
     refine wv Qbr ?_
     refine nt' ?_
     rcases bd (Qsb x0.Done x1.Done) with g82 | g82
     ·
      refine Qm rfl (nt g82) ?_
      refine Qp (Qd (Qe (sr ?_)))
      refine wv (vf Qz rfl Qfg) ?_
      refine wv (vl 1 6 Qcx) ?_
      refine wv (vf Qz rfl Qfg) ?_
      refine wv (vl 0 6 Qcx) ?_
      refine wcv (Qr cb77 rfl) (fun W hm => Qauu W _ x0.Ledger _ x1.Ledger (hm.rdS0 r35) (hm.rdS0 r70)) ?_
      refine wv Qbr ?_
      refine nt' ?_
      rcases bd (Qrx x0.Ledger x1.Ledger) with g84 | g84
      ·
       refine Qm rfl (nt g84) ?_
       refine Qp (Qd (Qe (sr ?_)))
       refine wv (vf Qz rfl Qf) ?_
       refine wv (vl 1 7 Qs) ?_
       refine wv (vf Qz rfl Qf) ?_
       refine wv (vl 0 7 Qs) ?_
       refine wv Qcj ?_
       refine nt' ?_
       rcases dcn x0.Steps x1.Steps with ⟨h85, g86⟩ | ⟨h85, g86⟩
       ·
        refine Qm rfl g86 ?_
        refine Qp (Qd (sr (wa (nt' (Qj ?_)))))
        exact rtb (h := Qb g74 (Qc g76 (Qb g78 (Qb g80 (Qb g82 (Qb g84 (Qc g86 (rfl))))))))
       refine Ql rfl g86 ?_
       refine sr (wa (nt' (Qj (Qg ?_))))
       exact rtb (h := Qb g74 (Qc g76 (Qb g78 (Qb g80 (Qb g82 (Qb g84 (Qb g86 (rfl))))))))
      refine Ql rfl (nf g84) ?_
      refine sr (wa (nt' (Qj (Qg ?_))))
      exact rtb (h := Qb g74 (Qc g76 (Qb g78 (Qb g80 (Qb g82 (Qc g84 (rfl)))))))
     refine Ql rfl (nf g82) ?_
     refine sr (wa (nt' (Qj (Qg ?_))))
     exact rtb (h := Qb g74 (Qc g76 (Qb g78 (Qb g80 (Qc g82 (rfl))))))
    refine Ql rfl (nf g80) ?_
    refine sr (wa (nt' (Qj (Qg ?_))))
    exact rtb (h := Qb g74 (Qc g76 (Qb g78 (Qc g80 (rfl)))))
   refine Ql rfl (nf g78) ?_
   refine sr (wa (nt' (Qj (Qg ?_))))
   exact rtb (h := Qb g74 (Qc g76 (Qc g78 (rfl))))
  refine Ql rfl g76 ?_
  refine sr (wa (nt' (Qj (Qg ?_))))
  exact rtb (h := Qb g74 (Qb g76 (rfl)))
 refine Ql rfl (nf g74) ?_
 refine sr (wa (nt' (Qj (Qg ?_))))
 exact rtb (h := Qc g74 (rfl))

def Qzt (k5 : Nat) (s6 : Int) (d7 : (List Int)) : (Int × (List Int)) ⊕ (Int × (List Int)) :=
 Sum.inr ((IntKind.i64.wrap (s6 + 1)), (d7.set k5 s6))
def Qv (x0 : (List Int)) (x1 : Int) : (Int × (List Int)) :=
 Sum.elim id (fun (s : Int × (List Int)) => (s.1, s.2)) (rng (R := (Int × (List Int))) (fun k (s : Int × (List Int)) => Qzt k s.1 s.2) (x0.length - 0) 0 (x1, x0))
theorem Qmg : Cb Tryz.prog 79 := ⟨f79, _, func79, rfl, by decide⟩
theorem Qmo (B : Nat) (w0 : World) (is : List It) (w : World) (z0 : Value) (x0 : (List Int)) (x1 : Int) (hm : Mem B w0 (Qn (tSl Qa 3) [z0] x0 :: is) w) :
  Calls Tryz.prog 79 #[z0, iV x1] w fun e w' => e = .returned (iV (Qv x0 x1).1) ∧ Mem B w0 (Qn (tSl Qa 3) [z0] (Qv x0 x1).2 :: is) w' := by
 refine Qif (L := [(0, z0), (1, iV x1)]) (N := 19) func79 rfl rfl (Nat.le_of_ble_eq_true rfl) (Qec rfl (Qec rfl Qha)) hm ?_
 refine Qdc (n := 0) rfl ?_
 rintro A1 c2 rfl m3
 refine sr (wa (nt' (Qe (sr (wa (nt' (Qx ?_)))))))
 refine Qbg (S := Int × (List Int)) (R := Unit) (fun k (s : Int × (List Int)) => Qzt k s.1 s.2) x0.length 0 (x1, x0) () (fun s => [(0, .slice A1 x0.length c2), (1, iV s.2.1.1), (5, nI s.1)]) (fun s => (Qn (tSl Qa 3) [.slice A1 x0.length c2] s.2.1.2 :: is)) (fun s => True) sl3 trivial ?_
 rintro ⟨k5, ⟨s6, d7⟩, ⟨⟩⟩ H10 _ _ e e'
 dsimp only at H10 ⊢
 subst e e'
 obtain ⟨hk8, hF9, _⟩ := H10
 refine Qe (sr (wm (wm ?_)))
 refine wv (Qag Qq) ?_
 refine wv Qai ?_
 refine nt' ?_
 rcases dcl k5 x0.length with ⟨hl11, g12⟩ | ⟨hl11, g12⟩
 ·
  refine Ql rfl g12 ?_
  refine Qp (Qd (Qe (Qx (sr ?_))))
  iterate 3 refine wm ?_
  refine Qhy (n := 0) rfl (by omega) ?_
  rintro g13 rfl
  refine wv (vix 1 k5 Qq Qf) ?_
  refine Qme (E := Qa) (e := 3) (u := iV s6) (k := k5) (p := g13) (n := x0.length) (xs := d7) (eis := []) (js := (is)) (yv := s6) (fun W hm => (hm.front (n := 0) rfl)) (fun _ _ hs => (Sep.nil hs ▸ Qck)) rfl Qf rfl (by omega) rfl rfl (Qk rfl) ?_
  refine nt' (Qy (wm ?_))
  refine wv Qcy ?_
  refine wa (Qac (Qam (Qd (Qy (wm ?_)))))
  refine wv (Qal k5 1 (by omega)) ?_
  refine wa (Qac ?_)
  exact Qan (k5 + 1, ((IntKind.i64.wrap (s6 + 1)), (d7.set k5 s6)), ()) sl3 idM ⟨(by omega), nx hF9 (rfl), trivial⟩ rl
 refine Qm rfl g12 ?_
 refine Qay (Qu (Qu ?_))
 have hE15 := Qbh hl11 hF9
 refine Qaz (Qd (sr (wm (wa (nt' (Qj ?_))))))
 have he16 := (show Qv x0 x1 = (s6, d7) from Qar hE15 (rfl))
 refine Qlm rfl rfl (fun W hm => ⟨?_, ?_⟩)
 ·rw [he16]
 rw [he16]; exact hm

def Qzw (k5 : Nat) (s6 : Int) (d7 : (List Qt)) : (Int × (List Qt)) ⊕ (Int × (List Qt)) :=
 Sum.inr ((IntKind.i64.wrap ((IntKind.i64.wrap (((Qv ((gt d7 k5).Values) (IntKind.i64.wrap (s6 + 1))).1) + 1)) + 1)), (d7.set k5 (⟨s6, (Qv ((gt d7 k5).Values) (IntKind.i64.wrap (s6 + 1))).2, (Qv ((gt d7 k5).Values) (IntKind.i64.wrap (s6 + 1))).1, (IntKind.i64.wrap (((Qv ((gt d7 k5).Values) (IntKind.i64.wrap (s6 + 1))).1) + 1))⟩ : Qt)))
def Qjy (x0 : (List Qt)) (x1 : Int) : (Int × (List Qt)) :=
 Sum.elim id (fun (s : Int × (List Qt)) => (s.1, s.2)) (rng (R := (Int × (List Qt))) (fun k (s : Int × (List Qt)) => Qzw k s.1 s.2) (x0.length - 0) 0 (x1, x0))
theorem Qaox : Cb Tryz.prog 201 := ⟨f201, _, func201, rfl, by decide⟩
theorem Qawn (B : Nat) (w0 : World) (is : List It) (w : World) (z0 : Value) (x0 : (List Qt)) (x1 : Int) (hm : Mem B w0 (Qn (tSl Qaf 163) [z0] x0 :: is) w) :
  Calls Tryz.prog 201 #[z0, iV x1] w fun e w' => e = .returned (iV (Qjy x0 x1).1) ∧ Mem B w0 (Qn (tSl Qaf 163) [z0] (Qjy x0 x1).2 :: is) w' := by
 refine Qif (L := [(0, z0), (1, iV x1)]) (N := 41) func201 rfl rfl (Nat.le_of_ble_eq_true rfl) (Qec rfl (Qec rfl Qha)) hm ?_
 refine Qdc (n := 0) rfl ?_
 rintro A1 c2 rfl m3
 refine sr (wa (nt' (Qe (sr (wa (nt' (Qx ?_)))))))
 refine Qbg (S := Int × (List Qt)) (R := Unit) (fun k (s : Int × (List Qt)) => Qzw k s.1 s.2) x0.length 0 (x1, x0) () (fun s => [(0, .slice A1 x0.length c2), (1, iV s.2.1.1), (5, nI s.1)]) (fun s => (Qn (tSl Qaf 163) [.slice A1 x0.length c2] s.2.1.2 :: is)) (fun s => True) sl3 trivial ?_
 rintro ⟨k5, ⟨s6, d7⟩, ⟨⟩⟩ H10 _ _ e e'
 dsimp only at H10 ⊢
 subst e e'
 obtain ⟨hk8, hF9, _⟩ := H10
 refine Qe (sr (wm (wm ?_)))
 refine wv (Qag Qbv) ?_
 refine wv Qai ?_
 refine nt' ?_
 rcases dcl k5 x0.length with ⟨hl11, g12⟩ | ⟨hl11, g12⟩
 ·
  refine Ql rfl g12 ?_
  refine Qp (Qd (Qe (Qx (sr ?_))))
  iterate 3 refine wm ?_
  refine Qhy (n := 0) rfl (by omega) ?_
  rintro g13 rfl
  refine wv (vix 4 k5 Qbv Qbo) ?_
  refine wv (vf Qbp rfl Qf) ?_
  refine Qjx (E := Qaf) (e := 163) (A := (sA g13)) (n := x0.length) (c := c2) (xs := d7) (k := k5) (js := (is)) (by omega) (fun W hm => (hm.front (n := 0) rfl)) (fun ck14 => ?_)
  refine Qte ?_
  rintro v15 rfl
  refine fm 0 ?_
  rintro A16 c17 rfl m18
  let K1 : List Value := [iV s6, .slice A16 ((gt d7 k5).Values).length c17, iV ((gt d7 k5).Born), iV ((gt d7 k5).Died)]
  refine sf 0 4 K1 (iS Qa 3 A16 c17 ((gt d7 k5).Values) :: is) (fun W hm => (hm.front (n := 1) rfl)) Qf ?_
  refine nt' (sr (wm ?_))
  refine wv Qcy ?_
  refine wa (nt' (sr (wm (wm ?_))))
  refine wv (vix 4 k5 Qbv Qbo) ?_
  refine wv (vf Qbp rfl Qao) ?_
  refine wv (fun W hm => Qaw Qq rfl rfl (hm.focCells (i := 0) rfl rfl 1 _ rfl)) ?_
  refine wm ?_
  refine cw (Qr Qmg rfl) (fun W hm => Qmo B w0 (Qdf Qaf 163 (sA g13) x0.length c2 d7 k5 K1 :: is) W (.slice A16 ((gt d7 k5).Values).length c17) ((gt d7 k5).Values) (IntKind.i64.wrap (s6 + 1)) (hm.front (n := 1) rfl)) ?_
  refine wa (nt' (sr ?_))
  iterate 3 refine wm ?_
  refine wv (vix 4 k5 Qbv Qbo) ?_
  refine wv (vf Qbp rfl Qf) ?_
  let I3 : It := Qn (tSl Qa 3) [.slice A16 ((gt d7 k5).Values).length c17] ((Qv ((gt d7 k5).Values) (IntKind.i64.wrap (s6 + 1))).2)
  refine sf 2 4 [iV s6, .slice A16 ((gt d7 k5).Values).length c17, iV ((Qv ((gt d7 k5).Values) (IntKind.i64.wrap (s6 + 1))).1), iV ((gt d7 k5).Died)] (I3 :: is) (fun W hm => (hm.front (n := 1) rfl)) Qf ?_
  refine nt' (sr (wm ?_))
  refine wv Qcy ?_
  refine wa (nt' (sr ?_))
  iterate 3 refine wm ?_
  refine wv (vix 4 k5 Qbv Qbo) ?_
  refine wv (vf Qbp rfl Qf) ?_
  let K2 : List Value := [iV s6, .slice A16 ((gt d7 k5).Values).length c17, iV ((Qv ((gt d7 k5).Values) (IntKind.i64.wrap (s6 + 1))).1), iV (IntKind.i64.wrap (((Qv ((gt d7 k5).Values) (IntKind.i64.wrap (s6 + 1))).1) + 1))]
  refine sf 3 4 K2 (I3 :: is) (fun W hm => (hm.front (n := 0) rfl)) Qf ?_
  refine nt' (Qy (wm ?_))
  refine wv Qcy ?_
  refine wa (Qac (Qam (Qd (Qy (wm ?_)))))
  refine wv (Qal k5 1 (by omega)) ?_
  refine wa (Qac ?_)
  refine Qdd (fun W hm => Mem.unfocus (Mem.join (is := [I3]) (js := (Qdf Qaf 163 (sA g13) x0.length c2 d7 k5 K2 :: (is))) (fun _ _ hs => Qlh (x := (⟨s6, (Qv ((gt d7 k5).Values) (IntKind.i64.wrap (s6 + 1))).2, (Qv ((gt d7 k5).Values) (IntKind.i64.wrap (s6 + 1))).1, (IntKind.i64.wrap (((Qv ((gt d7 k5).Values) (IntKind.i64.wrap (s6 + 1))).1) + 1))⟩ : Qt)) hs) ((hm.front (n := 0) rfl).front (n := 1) rfl))) ?_
  exact Qan (k5 + 1, ((IntKind.i64.wrap ((IntKind.i64.wrap (((Qv ((gt d7 k5).Values) (IntKind.i64.wrap (s6 + 1))).1) + 1)) + 1)), (d7.set k5 (⟨s6, (Qv ((gt d7 k5).Values) (IntKind.i64.wrap (s6 + 1))).2, (Qv ((gt d7 k5).Values) (IntKind.i64.wrap (s6 + 1))).1, (IntKind.i64.wrap (((Qv ((gt d7 k5).Values) (IntKind.i64.wrap (s6 + 1))).1) + 1))⟩ : Qt))), ()) sl3 idM ⟨(by omega), nx hF9 (rfl), trivial⟩ rl
 refine Qm rfl g12 ?_
 refine Qay (Qu (Qu ?_))
 have hE21 := Qbh hl11 hF9
 refine Qaz (Qd (sr (wm (wa (nt' (Qj ?_))))))
 have he22 := (show Qjy x0 x1 = (s6, d7) from Qar hE21 (rfl))
 refine Qlm rfl rfl (fun W hm => ⟨?_, ?_⟩)
 ·rw [he22]
 rw [he22]; exact hm

def Qzv (k5 : Nat) (s6 : Int) (d7 : (List (List Qt))) : (Int × (List (List Qt))) ⊕ (Int × (List (List Qt))) :=
 Sum.inr ((Qjy (gt d7 k5) s6).1, (d7.set k5 ((Qjy (gt d7 k5) s6).2)))
def Qkr (x0 : (List (List Qt))) (x1 : Int) : (Int × (List (List Qt))) :=
 Sum.elim id (fun (s : Int × (List (List Qt))) => (s.1, s.2)) (rng (R := (Int × (List (List Qt)))) (fun k (s : Int × (List (List Qt))) => Qzv k s.1 s.2) (x0.length - 0) 0 (x1, x0))
theorem Qaoc : Cb Tryz.prog 150 := ⟨f150, _, func150, rfl, by decide⟩
theorem Qawk (B : Nat) (w0 : World) (is : List It) (w : World) (z0 : Value) (x0 : (List (List Qt))) (x1 : Int) (hm : Mem B w0 (Qn (tSl (tSl Qaf 163) 100) [z0] x0 :: is) w) :
  Calls Tryz.prog 150 #[z0, iV x1] w fun e w' => e = .returned (iV (Qkr x0 x1).1) ∧ Mem B w0 (Qn (tSl (tSl Qaf 163) 100) [z0] (Qkr x0 x1).2 :: is) w' := by
 refine Qif (L := [(0, z0), (1, iV x1)]) (N := 19) func150 rfl rfl (Nat.le_of_ble_eq_true rfl) (Qec rfl (Qec rfl Qha)) hm ?_
 refine Qdc (n := 0) rfl ?_
 rintro A1 c2 rfl m3
 refine sr (wa (nt' (Qe (sr (wa (nt' (Qx ?_)))))))
 refine Qbg (S := Int × (List (List Qt))) (R := Unit) (fun k (s : Int × (List (List Qt))) => Qzv k s.1 s.2) x0.length 0 (x1, x0) () (fun s => [(0, .slice A1 x0.length c2), (1, iV s.2.1.1), (5, nI s.1)]) (fun s => (Qn (tSl (tSl Qaf 163) 100) [.slice A1 x0.length c2] s.2.1.2 :: is)) (fun s => True) sl3 trivial ?_
 rintro ⟨k5, ⟨s6, d7⟩, ⟨⟩⟩ H10 _ _ e e'
 dsimp only at H10 ⊢
 subst e e'
 obtain ⟨hk8, hF9, _⟩ := H10
 refine Qe (sr (wm (wm ?_)))
 refine wv (Qag Qbz) ?_
 refine wv Qai ?_
 refine nt' ?_
 rcases dcl k5 x0.length with ⟨hl11, g12⟩ | ⟨hl11, g12⟩
 ·
  refine Ql rfl g12 ?_
  refine Qp (Qd (Qe (Qx (Qy (wm (wm ?_))))))
  refine Qhy (n := 0) rfl (by omega) ?_
  rintro g13 rfl
  refine wv (vix 1 k5 Qbz Qfl) ?_
  refine Qjx (E := (tSl Qaf 163)) (e := 100) (A := (sA g13)) (n := x0.length) (c := c2) (xs := d7) (k := k5) (js := (is)) (by omega) (fun W hm => (hm.front (n := 0) rfl)) (fun ck14 => ?_)
  refine Qiw (γ := Value) (js := fun g => [Qn (tSl Qaf 163) [g] (gt d7 k5)]) (C := fun g => ck14 = [g]) (fun _ _ h => Qwa h) ?_
  rintro v15 rfl
  refine fm 0 ?_
  rintro A16 c17 rfl m18
  refine wv (fun W hm => Qaw Qbv rfl rfl (hm.focInt (i := 1) rfl rfl)) ?_
  refine wm ?_
  let I1 : It := Qdf (tSl Qaf 163) 100 (sA g13) x0.length c2 d7 k5 [.slice A16 (gt d7 k5).length c17]
  refine cw (Qr Qaox rfl) (fun W hm => Qawn B w0 (I1 :: is) W (.slice A16 (gt d7 k5).length c17) (gt d7 k5) s6 (hm.front (n := 0) rfl)) ?_
  refine wa (Qac (Qam (Qd (Qy (wm ?_)))))
  refine wv (Qal k5 1 (by omega)) ?_
  refine wa (Qac ?_)
  refine Qdd (fun W hm => Mem.unfocus (Mem.join (is := [Qn (tSl Qaf 163) [.slice A16 (gt d7 k5).length c17] ((Qjy (gt d7 k5) s6).2)]) (js := (I1 :: (is))) (fun _ _ hs => Sep.one hs) ((hm.front (n := 1) rfl).front (n := 1) rfl))) ?_
  exact Qan (k5 + 1, ((Qjy (gt d7 k5) s6).1, (d7.set k5 ((Qjy (gt d7 k5) s6).2))), ()) sl3 idM ⟨(by omega), nx hF9 (rfl), trivial⟩ rl
 refine Qm rfl g12 ?_
 refine Qay (Qu (Qu ?_))
 have hE21 := Qbh hl11 hF9
 refine Qaz (Qd (sr (wm (wa (nt' (Qj ?_))))))
 have he22 := (show Qkr x0 x1 = (s6, d7) from Qar hE21 (rfl))
 refine Qlm rfl rfl (fun W hm => ⟨?_, ?_⟩)
 ·rw [he22]
 rw [he22]; exact hm

def Qdq (x0 : Qau) (x1 : Int) : (Int × Qau) :=
 ((Qkr x0.Segments x1).1, (⟨(Qkr x0.Segments x1).2, x0.Now⟩ : Qau))
theorem cb78 : Cb Tryz.prog 78 := ⟨f78, _, func78, rfl, by decide⟩
theorem Qawi (B : Nat) (w0 : World) (is : List It) (w : World) (z0 : List Value) (x0 : Qau) (x1 : Int) (hm : Mem B w0 (Qn Qdm z0 x0 :: is) w) :
  Calls Tryz.prog 78 #[.agg z0.toArray, iV x1] w fun e w' => e = .returned (iV (Qdq x0 x1).1) ∧ Mem B w0 (Qn Qdm z0 (Qdq x0 x1).2 :: is) w' := by
 refine Qif (L := [(0, .agg z0.toArray), (1, iV x1)]) (N := 10) func78 rfl rfl (Nat.le_of_ble_eq_true rfl) (Qec rfl (Qec rfl Qha)) hm ?_
 refine Qjw (γ := Value) (js := fun g => [Qn (tSl (tSl Qaf 163) 100) [g] x0.Segments]) (C := fun g => z0 = [g, iV x0.Now]) (fun _ _ h => Qajh h) ?_
 rintro v1 rfl
 refine Qdc (n := 0) rfl ?_
 rintro A2 c3 rfl m4
 refine sr ?_
 refine Qbn rfl (Qk rfl) (by decide) (fun p6 => ?_)
 refine wa (nt' (sr ?_))
 refine wv (vf Qbw rfl Qea) ?_
 refine wv (vl 0 0 Qbz) ?_
 refine wm ?_
 refine cw (Qr Qaoc rfl) (fun W hm => Qawk B w0 (Qh p6 34 [.slice A2 x0.Segments.length c3, iV x0.Now] :: is) W (.slice A2 x0.Segments.length c3) x0.Segments x1 (hm.front (n := 1) rfl)) ?_
 refine wa (nt' (sr (wm (wa (nt' (Qj ?_))))))
 have he7 := (show Qdq x0 x1 = ((Qkr x0.Segments x1).1, (⟨(Qkr x0.Segments x1).2, x0.Now⟩ : Qau)) from rfl)
 refine Qlm rfl rfl (fun W hm => ⟨?_, ?_⟩)
 ·rw [he7]
 rw [he7]; exact Mem.join (is := [Qn (tSl (tSl Qaf 163) 100) [.slice A2 x0.Segments.length c3] ((Qkr x0.Segments x1).2)]) (js := is) (fun _ _ hs => Qmw (x := (⟨(Qkr x0.Segments x1).2, x0.Now⟩ : Qau)) hs) ((hm.front (n := 0) rfl).front (n := 1) rfl).tail

def Qzr (k5 : Nat) (s6 : Int) (d7 : (List Qcd)) : (Int × (List Qcd)) ⊕ (Int × (List Qcd)) :=
 Sum.inr ((IntKind.i64.wrap ((IntKind.i64.wrap ((IntKind.i64.wrap (s6 + 1)) + 1)) + 1)), (d7.set k5 (⟨s6, (IntKind.i64.wrap (s6 + 1)), (IntKind.i64.wrap ((IntKind.i64.wrap (s6 + 1)) + 1))⟩ : Qcd)))
def Qbi (x0 : (List Qcd)) (x1 : Int) : (Int × (List Qcd)) :=
 Sum.elim id (fun (s : Int × (List Qcd)) => (s.1, s.2)) (rng (R := (Int × (List Qcd))) (fun k (s : Int × (List Qcd)) => Qzr k s.1 s.2) (x0.length - 0) 0 (x1, x0))
theorem Qado : Cb Tryz.prog 151 := ⟨f151, _, func151, rfl, by decide⟩
theorem Qage (B : Nat) (w0 : World) (is : List It) (w : World) (z0 : Value) (x0 : (List Qcd)) (x1 : Int) (hm : Mem B w0 (Qn (tSl Qbl 180) [z0] x0 :: is) w) :
  Calls Tryz.prog 151 #[z0, iV x1] w fun e w' => e = .returned (iV (Qbi x0 x1).1) ∧ Mem B w0 (Qn (tSl Qbl 180) [z0] (Qbi x0 x1).2 :: is) w' := by
 refine Qif (L := [(0, z0), (1, iV x1)]) (N := 34) func151 rfl rfl (Nat.le_of_ble_eq_true rfl) (Qec rfl (Qec rfl Qha)) hm ?_
 refine Qdc (n := 0) rfl ?_
 rintro A1 c2 rfl m3
 refine sr (wa (nt' (Qe (sr (wa (nt' (Qx ?_)))))))
 refine Qbg (S := Int × (List Qcd)) (R := Unit) (fun k (s : Int × (List Qcd)) => Qzr k s.1 s.2) x0.length 0 (x1, x0) () (fun s => [(0, .slice A1 x0.length c2), (1, iV s.2.1.1), (5, nI s.1)]) (fun s => (Qn (tSl Qbl 180) [.slice A1 x0.length c2] s.2.1.2 :: is)) (fun s => True) sl3 trivial ?_
 rintro ⟨k5, ⟨s6, d7⟩, ⟨⟩⟩ H10 _ _ e e'
 dsimp only at H10 ⊢
 subst e e'
 obtain ⟨hk8, hF9, _⟩ := H10
 refine Qe (sr (wm (wm ?_)))
 refine wv (Qag Qct) ?_
 refine wv Qai ?_
 refine nt' ?_
 rcases dcl k5 x0.length with ⟨hl11, g12⟩ | ⟨hl11, g12⟩
 ·
  refine Ql rfl g12 ?_
  refine Qp (Qd (Qe (Qx (sr ?_))))
  iterate 3 refine wm ?_
  refine Qhy (n := 0) rfl (by omega) ?_
  rintro g13 rfl
  refine wv (vix 3 k5 Qct Qds) ?_
  refine wv (vf Qdu rfl Qf) ?_
  refine Qjx (E := Qbl) (e := 180) (A := (sA g13)) (n := x0.length) (c := c2) (xs := d7) (k := k5) (js := (is)) (by omega) (fun W hm => (hm.front (n := 0) rfl)) (fun ck14 => ?_)
  refine Qair ?_
  rintro ⟨⟩ rfl
  refine sf 0 3 [iV s6, iV ((gt d7 k5).Low), iV ((gt d7 k5).High)] (is) (fun W hm => (hm.front (n := 0) rfl)) Qf ?_
  refine nt' (sr (wm ?_))
  refine wv Qcy ?_
  refine wa (nt' (sr ?_))
  iterate 3 refine wm ?_
  refine wv (vix 3 k5 Qct Qds) ?_
  refine wv (vf Qdu rfl Qf) ?_
  refine sf 1 3 [iV s6, iV (IntKind.i64.wrap (s6 + 1)), iV ((gt d7 k5).High)] (is) (fun W hm => (hm.front (n := 0) rfl)) Qf ?_
  refine nt' (sr (wm ?_))
  refine wv Qcy ?_
  refine wa (nt' (sr ?_))
  iterate 3 refine wm ?_
  refine wv (vix 3 k5 Qct Qds) ?_
  refine wv (vf Qdu rfl Qf) ?_
  let K1 : List Value := [iV s6, iV (IntKind.i64.wrap (s6 + 1)), iV (IntKind.i64.wrap ((IntKind.i64.wrap (s6 + 1)) + 1))]
  refine sf 2 3 K1 (is) (fun W hm => (hm.front (n := 0) rfl)) Qf ?_
  refine nt' (Qy (wm ?_))
  refine wv Qcy ?_
  refine wa (Qac (Qam (Qd (Qy (wm ?_)))))
  refine wv (Qal k5 1 (by omega)) ?_
  refine wa (Qac ?_)
  refine Qdd (fun W hm => Mem.unfocus (Mem.join (is := []) (js := (Qdf Qbl 180 (sA g13) x0.length c2 d7 k5 K1 :: (is))) (fun _ _ hs => Qabp (x := (⟨s6, (IntKind.i64.wrap (s6 + 1)), (IntKind.i64.wrap ((IntKind.i64.wrap (s6 + 1)) + 1))⟩ : Qcd)) hs) (hm.front (n := 0) rfl))) ?_
  exact Qan (k5 + 1, ((IntKind.i64.wrap ((IntKind.i64.wrap ((IntKind.i64.wrap (s6 + 1)) + 1)) + 1)), (d7.set k5 (⟨s6, (IntKind.i64.wrap (s6 + 1)), (IntKind.i64.wrap ((IntKind.i64.wrap (s6 + 1)) + 1))⟩ : Qcd))), ()) sl3 idM ⟨(by omega), nx hF9 (rfl), trivial⟩ rl
 refine Qm rfl g12 ?_
 refine Qay (Qu (Qu ?_))
 have hE16 := Qbh hl11 hF9
 refine Qaz (Qd (sr (wm (wa (nt' (Qj ?_))))))
 have he17 := (show Qbi x0 x1 = (s6, d7) from Qar hE16 (rfl))
 refine Qlm rfl rfl (fun W hm => ⟨?_, ?_⟩)
 ·rw [he17]
 rw [he17]; exact hm

def Qzu (k5 : Nat) (s6 : Int) (d7 : (List Qab)) : (Int × (List Qab)) ⊕ (Int × (List Qab)) :=
 Sum.inr ((Qv ((gt d7 k5).Values) (IntKind.i64.wrap (s6 + 1))).1, (d7.set k5 (⟨s6, (Qv ((gt d7 k5).Values) (IntKind.i64.wrap (s6 + 1))).2⟩ : Qab)))
def Qgg (x0 : (List Qab)) (x1 : Int) : (Int × (List Qab)) :=
 Sum.elim id (fun (s : Int × (List Qab)) => (s.1, s.2)) (rng (R := (Int × (List Qab))) (fun k (s : Int × (List Qab)) => Qzu k s.1 s.2) (x0.length - 0) 0 (x1, x0))
theorem Qadp : Cb Tryz.prog 152 := ⟨f152, _, func152, rfl, by decide⟩
theorem Qagi (B : Nat) (w0 : World) (is : List It) (w : World) (z0 : Value) (x0 : (List Qab)) (x1 : Int) (hm : Mem B w0 (Qn (tSl Qap 70) [z0] x0 :: is) w) :
  Calls Tryz.prog 152 #[z0, iV x1] w fun e w' => e = .returned (iV (Qgg x0 x1).1) ∧ Mem B w0 (Qn (tSl Qap 70) [z0] (Qgg x0 x1).2 :: is) w' := by
 refine Qif (L := [(0, z0), (1, iV x1)]) (N := 27) func152 rfl rfl (Nat.le_of_ble_eq_true rfl) (Qec rfl (Qec rfl Qha)) hm ?_
 refine Qdc (n := 0) rfl ?_
 rintro A1 c2 rfl m3
 refine sr (wa (nt' (Qe (sr (wa (nt' (Qx ?_)))))))
 refine Qbg (S := Int × (List Qab)) (R := Unit) (fun k (s : Int × (List Qab)) => Qzu k s.1 s.2) x0.length 0 (x1, x0) () (fun s => [(0, .slice A1 x0.length c2), (1, iV s.2.1.1), (5, nI s.1)]) (fun s => (Qn (tSl Qap 70) [.slice A1 x0.length c2] s.2.1.2 :: is)) (fun s => True) sl3 trivial ?_
 rintro ⟨k5, ⟨s6, d7⟩, ⟨⟩⟩ H10 _ _ e e'
 dsimp only at H10 ⊢
 subst e e'
 obtain ⟨hk8, hF9, _⟩ := H10
 refine Qe (sr (wm (wm ?_)))
 refine wv (Qag Qci) ?_
 refine wv Qai ?_
 refine nt' ?_
 rcases dcl k5 x0.length with ⟨hl11, g12⟩ | ⟨hl11, g12⟩
 ·
  refine Ql rfl g12 ?_
  refine Qp (Qd (Qe (Qx (sr ?_))))
  iterate 3 refine wm ?_
  refine Qhy (n := 0) rfl (by omega) ?_
  rintro g13 rfl
  refine wv (vix 2 k5 Qci Qcg) ?_
  refine wv (vf Qdv rfl Qf) ?_
  refine Qjx (E := Qap) (e := 70) (A := (sA g13)) (n := x0.length) (c := c2) (xs := d7) (k := k5) (js := (is)) (by omega) (fun W hm => (hm.front (n := 0) rfl)) (fun ck14 => ?_)
  refine Qmv ?_
  rintro v15 rfl
  refine fm 0 ?_
  rintro A16 c17 rfl m18
  refine sf 0 2 [iV s6, .slice A16 ((gt d7 k5).Values).length c17] (iS Qa 3 A16 c17 ((gt d7 k5).Values) :: is) (fun W hm => (hm.front (n := 1) rfl)) Qf ?_
  refine nt' (sr (wm ?_))
  refine wv Qcy ?_
  refine wa (nt' (Qy (wm (wm ?_))))
  refine wv (vix 2 k5 Qci Qcg) ?_
  refine wv (vf Qdv rfl Qao) ?_
  refine wv (fun W hm => Qaw Qq rfl rfl (hm.focCells (i := 0) rfl rfl 1 _ rfl)) ?_
  refine wm ?_
  let I1 : It := Qdf Qap 70 (sA g13) x0.length c2 d7 k5 [iV s6, .slice A16 ((gt d7 k5).Values).length c17]
  refine cw (Qr Qmg rfl) (fun W hm => Qmo B w0 (I1 :: is) W (.slice A16 ((gt d7 k5).Values).length c17) ((gt d7 k5).Values) (IntKind.i64.wrap (s6 + 1)) (hm.front (n := 1) rfl)) ?_
  refine wa (Qac (Qam (Qd (Qy (wm ?_)))))
  refine wv (Qal k5 1 (by omega)) ?_
  refine wa (Qac ?_)
  refine Qdd (fun W hm => Mem.unfocus (Mem.join (is := [Qn (tSl Qa 3) [.slice A16 ((gt d7 k5).Values).length c17] ((Qv ((gt d7 k5).Values) (IntKind.i64.wrap (s6 + 1))).2)]) (js := (I1 :: (is))) (fun _ _ hs => Qjq (x := (⟨s6, (Qv ((gt d7 k5).Values) (IntKind.i64.wrap (s6 + 1))).2⟩ : Qab)) hs) ((hm.front (n := 1) rfl).front (n := 1) rfl))) ?_
  exact Qan (k5 + 1, ((Qv ((gt d7 k5).Values) (IntKind.i64.wrap (s6 + 1))).1, (d7.set k5 (⟨s6, (Qv ((gt d7 k5).Values) (IntKind.i64.wrap (s6 + 1))).2⟩ : Qab))), ()) sl3 idM ⟨(by omega), nx hF9 (rfl), trivial⟩ rl
 refine Qm rfl g12 ?_
 refine Qay (Qu (Qu ?_))
 have hE21 := Qbh hl11 hF9
 refine Qaz (Qd (sr (wm (wa (nt' (Qj ?_))))))
 have he22 := (show Qgg x0 x1 = (s6, d7) from Qar hE21 (rfl))
 refine Qlm rfl rfl (fun W hm => ⟨?_, ?_⟩)
 ·rw [he22]
 rw [he22]; exact hm

end Go.Proofs.YtdlminfjdodjoaaGreat
