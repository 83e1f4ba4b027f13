/-
  Contracts of functions, printed by a program of ours.
-/
import Derived.Test.YtdlminfjdodjoaaGreatL4F3
namespace Go.Proofs.YtdlminfjdodjoaaGreat
open Go.RowKit
set_option maxRecDepth 100000
set_option maxHeartbeats 4000000
open _root_.Go.Proofs.Tryz
def Qaax (x1 : (List Int)) (k26 : Nat) (d28 : (List (List Qt))) (k44 : Nat) (k63 : Nat) (s64 : Bool) : (Qau × Int) ⊕ (Bool) :=
 cond s64 (Sum.inr true) (Sum.inr (Qqr (gt (gt d28 k26) k44) (gt x1 k63)))
def Qaaw (x1 : (List Int)) (k26 : Nat) (d28 : (List (List Qt))) (k44 : Nat) (s45 : Int) (d46 : (List Qt)) : (Qau × Int) ⊕ (Int × (List Qt)) :=
 Sum.elim Sum.inl (fun (s : Bool) => cond s (Sum.inr (s45, (d46 ++ [(gt (gt d28 k26) k44)]))) (Sum.inr ((IntKind.i64.wrap (s45 + 1)), d46))) (rng (R := (Qau × Int)) (fun k (s : Bool) => Qaax x1 k26 d28 k44 k s) (x1.length - 0) 0 (((gt (gt d28 k26) k44).Died) == (-1)))
def Qsv (x1 : (List Int)) (k26 : Nat) (s27 : Int) (d28 : (List (List Qt))) : (Qau × Int) ⊕ (Int × (List (List Qt))) :=
 Sum.elim Sum.inl (fun (s : Int × (List Qt)) => Sum.inr (s.1, (d28.set k26 s.2))) (rng (R := (Qau × Int)) (fun k (s : Int × (List Qt)) => Qaaw x1 k26 d28 k s.1 s.2) ((gt d28 k26).length - 0) 0 (s27, []))
def Qga (x0 : Qau) (x1 : (List Int)) : (Qau × Int) :=
 cond (Qji x0) (Sum.elim id (fun (s : Int × (List (List Qt))) => ((⟨s.2, x0.Now⟩ : Qau), s.1)) (rng (R := (Qau × Int)) (fun k (s : Int × (List (List Qt))) => Qsv x1 k s.1 s.2) (x0.Segments.length - 0) 0 (0, x0.Segments))) (x0, 0)
theorem Qaok : Cb Tryz.prog 168 := ⟨f168, _, func168, rfl, by decide⟩
theorem Qbbc (w : World) (z0 : List Value) (x0 : Qau) (z1 : Value) (x1 : (List Int)) (r_0 : Qdm.rd w w.heap.size z0 x0) (r_1 : rdS Qa w w.heap.size z1 x1) (s_0 : Qgh 68719476736 x0) (s_1 : x1.length ≤ 68719476736) :
  Calls Tryz.prog 168 #[.agg z0.toArray, z1] w fun e w' => ∃ v : List Value, e = .returned (.tuple #[.agg v.toArray, iV ((Qga x0 x1).2)]) ∧ Mem w.heap.size w [Qn Qdm v (Qga x0 x1).1] w' := by
 obtain ⟨v1, rfl, r2⟩ := Qjs r_0
 obtain ⟨m3, A4, c5, rfl, q6, r7⟩ := Qi r2
 obtain ⟨m8, A9, c10, rfl, q11, r12⟩ := Qi r_1
 have l13 : x0.Segments.length ≤ 68719476736 := s_0.1
 have l14 : x1.length ≤ 68719476736 := s_1
 refine ce2 (L := [(0, .agg #[.slice A4 x0.Segments.length c5, iV x0.Now]), (1, .slice A9 x1.length c10)]) (N := 78) func168 ?_
 refine sr ?_
 refine Qbn rfl (Qk rfl) (by decide) (fun p15 => ?_)
 refine Qbm Qbt rfl (Qk rfl) (by decide) (fun p16 => ?_)
 refine wa (nt' (sr ?_))
 refine wv (fun W hm => Qad (cs := [.slice A4 x0.Segments.length c5, iV x0.Now]) Qbw Qbt rfl rfl (hm.boxCells (n := 1) rfl)) ?_
 refine wcs Qdm x0 (Qr Qpx rfl) (fun W hm => Qqx W _ x0 (Qgc (x := x0) (hm.rdS0 r7)) s_0) (fun z17 => ?_)
 refine Qjt ?_
 rintro v18 rfl
 refine fm 0 ?_
 rintro A19 c20 rfl m21
 refine Qbm Qbt rfl (Qk rfl) (by decide) (fun p23 => ?_)
 let I3 : It := iS (tSl Qaf 163) 100 A19 c20 x0.Segments
 let I4 : It := Qh p15 34 [.slice A4 x0.Segments.length c5, iV x0.Now]
 let J11 : List It := [Qh p16 34 [.slice none 0 0, iV 0], I4]
 refine sb 0 [.slice A19 x0.Segments.length c20, iV x0.Now] (I3 :: J11) idM Qbt ?_
 refine nt' (Qe (sr ?_))
 refine wv (fun W hm => Qad (cs := [.slice A4 x0.Segments.length c5, iV x0.Now]) Qbw Qbt rfl rfl (hm.boxCells (n := 3) rfl)) ?_
 refine wcv (Qr Qadi rfl) (fun W hm => Qaie W _ x0 (Qgc (x := x0) (hm.rdS0 r7)) s_0) ?_
 refine wv Qbr ?_
 refine nt' ?_
 rcases bd (Qji x0) with g25 | g25
 ·
  refine Qm rfl (nt g25) ?_
  refine Qp (Qd (sr (wa (nt' (Qe (sr (wa (nt' (Qx ?_)))))))))
  let I5 : It := Qh p23 34 [.slice A19 x0.Segments.length c20, iV x0.Now]
  refine Qbg (S := Int × (List (List Qt))) (R := Unit) (fun k (s : Int × (List (List Qt))) => Qsv x1 k s.1 s.2) x0.Segments.length 0 (0, x0.Segments) () (fun s => [(1, .slice A9 x1.length c10), (2, bp p15), (4, bp p16), (6, bp p23), (7, iV s.2.1.1), (8, nI s.1)]) (fun s => (I5 :: Qn (tSl (tSl Qaf 163) 100) [.slice A19 x0.Segments.length c20] s.2.1.2 :: J11)) (fun s => ∀ j, s.1 ≤ j → gt s.2.1.2 j = gt x0.Segments j) sl6 (fun _ _ => rfl) ?_
  rintro ⟨k26, ⟨s27, d28⟩, ⟨⟩⟩ H31 _ _ e e'
  dsimp only at H31 ⊢
  subst e e'
  obtain ⟨hk29, hF30, hi32⟩ := H31
  refine Qe (sr (wm ?_))
  refine wv (vf Qbw rfl Qea) ?_
  refine wv (vl 3 0 Qbz) ?_
  refine wv (Qag Qbz) ?_
  refine wv Qai ?_
  refine nt' ?_
  rcases dcl k26 x0.Segments.length with ⟨hl33, g34⟩ | ⟨hl33, g34⟩
  ·
   have hq1 : (gt d28 k26).length ≤ 68719476736 := by rw [hi32 k26 (Nat.le_refl _)]; exact (s_0.2 _ (Qak (by omega))).1
   refine Ql rfl g34 ?_
   refine Qp (Qd (Qe (Qx (sr ?_))))
   refine Qcf (E := Qaf) Qbv Qbo (Qk rfl) (by decide) (fun p35 => ?_)
   refine wa (nt' (Qe (sr (wa (nt' (Qx ?_))))))
   refine Qpp (n := 2) rfl (by omega) ?_
   rintro g37 rfl
   let K1 : List Value := [.slice (sA g37) x0.Segments.length c20, iV x0.Now]
   let J12 : List It := Qh p23 34 K1 :: J11
   refine Qpo (E := (tSl Qaf 163)) (e := 100) (A := (sA g37)) (n := x0.Segments.length) (c := c20) (xs := d28) (k := k26) (js := (Qn (tSl Qaf 163) [.slice (sA p35) 0 0] [] :: J12)) (by omega) (pk [2, 0, 1, 3, 4]) (fun ck38 => ?_)
   refine Qjw (γ := Value) (js := fun g => [Qn (tSl Qaf 163) [g] (gt d28 k26)]) (C := fun g => ck38 = [g]) (fun _ _ h => Qwa h) ?_
   rintro v39 rfl
   refine Qdc (n := 0) rfl ?_
   rintro A40 c41 rfl m42
   refine Qdw (fun W hm => Mem.toRest hm) ?_
   refine Qbg (S := Int × (List Qt)) (R := Option Addr × Nat) (fun k (s : Int × (List Qt)) => Qaaw x1 k26 d28 k s.1 s.2) ((gt d28 k26).length) 0 (s27, []) ((sA p35), 0) (fun s => [(1, .slice A9 x1.length c10), (2, bp p15), (4, bp p16), (6, bp p23), (7, iV s.2.1.1), (8, nI k26), (9, .slice s.2.2.1 s.2.1.2.length s.2.2.2), (10, nI s.1)]) (fun s => (Qhi Qaf 163 A40 ((gt d28 k26).length) (gt d28 k26) s.1 :: Qdf (tSl Qaf 163) 100 (sA g37) x0.Segments.length c20 d28 k26 [.slice A40 (gt d28 k26).length c41] :: iS Qaf 163 s.2.2.1 s.2.2.2 s.2.1.2 :: J12)) (fun s => s.2.1.2.length ≤ 0 + s.1) sl8 (Nat.le_refl _) ?_
   rintro ⟨k44, ⟨s45, d46⟩, ⟨A47, c48⟩⟩ H51 _ _ e e'
   dsimp only at H51 ⊢
   subst e e'
   obtain ⟨hk49, hF50, hi52⟩ := H51
   refine Qe (sr (wm ?_))
   refine wv (vf Qbw rfl Qea) ?_
   refine wv (vl 3 0 Qbz) ?_
   refine wm ?_
   refine wv (vix 1 k26 Qbz Qfl) ?_
   refine wv (fun W hm => Qaw Qbv rfl rfl (hm.focInt (i := 1) rfl rfl)) ?_
   refine wv (Qag Qbv) ?_
   refine wv Qai ?_
   refine nt' ?_
   rcases dcl k44 ((gt d28 k26).length) with ⟨hl53, g54⟩ | ⟨hl53, g54⟩
   ·
    refine Ql rfl g54 ?_
    refine Qp (Qd (Qe (Qx (sr ?_))))
    refine wv (vf Qbw rfl Qea) ?_
    refine wv (vl 3 0 Qbz) ?_
    refine wm ?_
    refine wv (vix 1 k26 Qbz Qfl) ?_
    refine wv (fun W hm => Qaw Qbv rfl rfl (hm.focInt (i := 1) rfl rfl)) ?_
    refine wm ?_
    refine Qrm (n := 0) rfl (by omega) ?_
    rintro g55 rfl
    refine wv (vix 4 k44 Qbv Qbo) ?_
    let I6 : It := Qdf (tSl Qaf 163) 100 (sA g37) x0.Segments.length c20 d28 k26 [.slice (sA g55) (gt d28 k26).length c41]
    let J13 : List It := I6 :: iS Qaf 163 A47 c48 d46 :: J12
    refine Qrn (E := Qaf) (e := 163) (A := (sA g55)) (n := (gt d28 k26).length) (xs := (gt d28 k26)) (k := k44) (js := J13) (by omega) idM (fun ck56 => ?_)
    refine Qte ?_
    rintro v57 rfl
    refine fm 0 ?_
    rintro A58 c59 rfl m60
    let K2 : List Value := [iV ((gt (gt d28 k26) k44).Id), .slice A58 ((gt (gt d28 k26) k44).Values).length c59, iV ((gt (gt d28 k26) k44).Born), iV ((gt (gt d28 k26) k44).Died)]
    refine wv (fun W hm => Qad (cs := K2) Qbp Qbo rfl rfl (hm.restCells (i := 1) rfl rfl)) ?_
    refine Qbm Qbo rfl (Qk rfl) (by decide) (fun p62 => ?_)
    let I7 : It := iS Qa 3 A58 c59 ((gt (gt d28 k26) k44).Values)
    let I8 : It := Qip Qaf 163 (sA g55) ((gt d28 k26).length) (gt d28 k26) k44 K2
    refine sb 0 K2 (I7 :: I8 :: J13) idM Qbo ?_
    refine nt' (sr ?_)
    refine wv (vf Qbp rfl Qf) ?_
    refine wv (vl 0 3 Qs) ?_
    refine wv (fun W hm => Qfe rfl rfl) ?_
    refine wa (nt' (Qe (sr (wa (nt' (Qx ?_))))))
    refine Qbg (S := Bool) (R := Unit) (fun k (s : Bool) => Qaax x1 k26 d28 k44 k s) x1.length 0 (((gt (gt d28 k26) k44).Died) == (-1)) () (fun s => [(1, .slice A9 x1.length c10), (2, bp p15), (4, bp p16), (6, bp p23), (7, iV s45), (8, nI k26), (9, .slice A47 d46.length c48), (10, nI k44), (11, bp p62), (12, .bool s.2.1), (13, nI s.1)]) (fun s => (Qh p62 163 K2 :: I7 :: I8 :: J13)) (fun s => True) sl11 trivial ?_
    rintro ⟨k63, s64, ⟨⟩⟩ H67 _ _ e e'
    dsimp only at H67 ⊢
    subst e e'
    obtain ⟨hk65, hF66, _⟩ := H67
    refine Qe (sr (wm (wm ?_)))
    refine wv (Qag Qq) ?_
    refine wv Qai ?_
    refine nt' ?_
    rcases dcl k63 x1.length with ⟨hl68, g69⟩ | ⟨hl68, g69⟩
    ·
     refine Ql rfl g69 ?_
     refine Qp (Qd (Qe (Qx ?_)))
     refine Qfa (by kernel_rfl) (by kernel_rfl) ?_
     refine qm (qm ?_)
     rcases bd s64 with g71 | g71
     ·
      refine qs g71 ?_
      refine qs g71 ?_
      refine qs g71 ?_
      refine qs g71 ?_
      refine qs g71 ?_
      refine qs g71 ?_
      refine qv (vpT g71) ?_
      refine qv (fun W hm => Qjd rfl) ?_
      refine Qww (Qam (Qd (Qy (wm ?_))))
      refine wv (Qal k63 1 (by omega)) ?_
      refine wa (Qac ?_)
      exact Qan (k63 + 1, true, ()) sl11 idM ⟨(by omega), nx hF66 (Qb g71 (rfl)), trivial⟩ rl
     refine qg (fun W hm => Qad (cs := K2) Qbp Qbo rfl rfl (hm.boxCells (n := 0) rfl)) g71 ?_
     refine qg vmv g71 ?_
     refine qg vmv g71 ?_
     obtain ⟨a73, rfl, hb74, he75⟩ := q11 (by omega)
     refine qg (vix 1 k63 Qq Qf) g71 ?_
     refine qg (fun W hm => Qaw Qs rfl rfl ((hm.cell0 (show (a73.add (k63 * 1)).block < w.heap.size from by rw [Qae]; exact hb74.1)).trans (Qdr he75 k63 (by omega)))) g71 ?_
     refine Qev (Qr Qadz rfl) (fun W hm => Qaig W _ (gt (gt d28 k26) k44) (gt x1 k63) (Qgy (x := (gt (gt d28 k26) k44)) (hm.rdSI (n := 1) rfl))) (Qcc rfl rfl rfl (bw g71 rfl)) (by decide) ?_
     refine qv (vpF g71) ?_
     refine qv (fun W hm => Qjd rfl) ?_
     refine Qww (Qam (Qd (Qy (wm ?_))))
     refine wv (Qal k63 1 (by omega)) ?_
     refine wa (Qac ?_)
     exact Qan (k63 + 1, (Qqr (gt (gt d28 k26) k44) (gt x1 k63)), ()) sl11 idM ⟨(by omega), nx hF66 (Qc g71 (rfl)), trivial⟩ rl
    refine Qm rfl g69 ?_
    refine Qay (Qu (Qu ?_))
    have hE77 := Qbh hl68 hF66
    refine Qaz (Qd (sr (wm (nt' ?_))))
    rcases bd s64 with g79 | g79
    ·
     refine Ql rfl g79 ?_
     refine Qy (wm ?_)
     refine wv (fun W hm => Qad (cs := K2) Qbp Qbo rfl rfl (hm.boxCells (n := 0) rfl)) ?_
     refine Qde (cs := K2) Qbv Qbo rfl (by decide) (by decide) rfl (by kernel_rfl) (Qk rfl) (by decide) (fun p80 => ?_)
     refine ap1 Qaf 163 (.slice A47 d46.length c48) d46 (gt (gt d28 k26) k44) [I7] (Qh p62 163 K2 :: I8 :: I6 :: J12) K2 (pk [0, 5, 2, 1, 3, 4, 6, 7, 8]) (fun _ _ hs => Els.single (Qlh (x := (gt (gt d28 k26) k44)) hs)) Qbv Qbo (show (d46.length + 1) * 48 ≤ 140737488355328 from by omega) (fun v81 => ?_)
     refine fm 0 ?_
     rintro A82 c83 rfl m84
     refine wa (Qac (Qam (Qd (Qy (wm ?_)))))
     refine wv (Qal k44 1 (by omega)) ?_
     refine wa (Qac ?_)
     refine Qdd (fun W hm => Mem.restNext (hm.pick [2, 0, 1, 3, 4, 5, 6] (by decide))) ?_
     exact Qan (k44 + 1, (s45, (d46 ++ [(gt (gt d28 k26) k44)])), (A82, c83)) sl8 (pk [0, 3, 1, 4, 5, 6]) ⟨(by omega), nx hF50 (Qar hE77 (Qb g79 (rfl))), (show (d46 ++ [(gt (gt d28 k26) k44)]).length ≤ 0 + (k44 + 1) from by first | omega | (simp only [List.length_append, List.length_cons, List.length_nil] at *; omega))⟩ (show (gt d28 k26).length - (k44 + 1) < (gt d28 k26).length - k44 from by omega)
    refine Qm rfl g79 ?_
    refine Qy (wm ?_)
    refine wv Qcy ?_
    refine wa (Qac (Qam (Qd (Qy (wm ?_)))))
    refine wv (Qal k44 1 (by omega)) ?_
    refine wa (Qac ?_)
    refine Qdd (fun W hm => Mem.restNext (hm.pick [2, 0, 1, 3, 4, 5, 6, 7] (by decide))) ?_
    exact Qan (k44 + 1, ((IntKind.i64.wrap (s45 + 1)), d46), (A47, c48)) sl8 (pk [0, 3, 4, 5, 6, 7]) ⟨(by omega), nx hF50 (Qar hE77 (Qc g79 (rfl))), (show d46.length ≤ 0 + (k44 + 1) from by first | omega | (simp only [List.length_append, List.length_cons, List.length_nil] at *; omega))⟩ (show (gt d28 k26).length - (k44 + 1) < (gt d28 k26).length - k44 from by omega)
   refine Qm rfl g54 ?_
   refine Qay (Qu (Qu ?_))
   have hE88 := Qbh hl53 hF50
   refine Qaz (Qd (Qy ?_))
   refine wv (vf Qbw rfl Qea) ?_
   refine wv (vl 3 0 Qbz) ?_
   refine wm (wm ?_)
   refine wv (vix 1 k26 Qbz Qfl) ?_
   let I9 : It := Qhi Qaf 163 A40 ((gt d28 k26).length) (gt d28 k26) k44
   refine sf 0 1 [.slice A47 d46.length c48] (I9 :: iS Qaf 163 A47 c48 d46 :: J12) (pk [1, 0, 2, 3, 4, 5]) Qfl ?_
   refine Qac (Qam (Qd (Qy (wm ?_))))
   refine wv (Qal k26 1 (by omega)) ?_
   refine wa (Qac ?_)
   refine Qdd (fun W hm => Mem.unfocus (Mem.join (is := [iS Qaf 163 A47 c48 d46]) (js := (Qdf (tSl Qaf 163) 100 (sA g37) x0.Segments.length c20 d28 k26 [.slice A47 d46.length c48] :: (I9 :: J12))) (fun _ _ hs => Sep.one hs) (hm.pick [2, 0, 1, 3, 4, 5] (by decide)))) ?_
   exact Qan (k26 + 1, (s45, (d28.set k26 d46)), ()) sl6 (pk [2, 0, 3, 4]) ⟨(by omega), nx hF30 (Qar hE88 (rfl)), (show ∀ j, (k26 + 1) ≤ j → gt (d28.set k26 d46) j = gt x0.Segments j from by intro j hj; rw [Qoj (by omega)]; exact hi32 j (by omega))⟩ rl
  refine Qm rfl g34 ?_
  refine Qay (Qu (Qu ?_))
  have hE90 := Qbh hl33 hF30
  refine Qaz (Qd (sr ?_))
  refine wv (fun W hm => Qad (cs := [.slice A19 x0.Segments.length c20, iV x0.Now]) Qbw Qbt rfl rfl (hm.boxCells (n := 0) rfl)) ?_
  refine wm ?_
  let I10 : It := Qn (tSl (tSl Qaf 163) 100) [.slice A19 x0.Segments.length c20] d28
  refine sb 0 [.slice A19 x0.Segments.length c20, iV x0.Now] [I5, I10, I4] (pk [2, 0, 1, 3]) Qbt ?_
  refine wa (nt' (Qj ?_))
  have he91 := (show Qga x0 x1 = ((⟨d28, x0.Now⟩ : Qau), s27) from Qb g25 (Qar hE90 (rfl)))
  refine Qic rfl (Qdp (n := 0) rfl rfl Qbw Qbt rfl) (Qdl rfl) (fun W hm => ⟨[.slice A19 x0.Segments.length c20, iV x0.Now], ?_, ?_⟩)
  ·first | rw [he91] | rfl
   try rfl
  rw [he91]; exact Mem.join (is := [I10]) (js := []) (fun _ _ hs => Qmw (x := (⟨d28, x0.Now⟩ : Qau)) hs) (hm.pick [2] (by decide))
 refine Ql rfl (nf g25) ?_
 refine sr ?_
 refine wv (fun W hm => Qad (cs := [.slice A19 x0.Segments.length c20, iV x0.Now]) Qbw Qbt rfl rfl (hm.boxCells (n := 0) rfl)) ?_
 refine sb 0 [.slice A19 x0.Segments.length c20, iV x0.Now] [Qh p23 34 [.slice A19 x0.Segments.length c20, iV x0.Now], I3, I4] (pk [2, 0, 1, 3]) Qbt ?_
 refine wa (nt' (Qj (Qg ?_)))
 have he92 := (show Qga x0 x1 = (x0, 0) from Qc g25 (rfl))
 refine Qic rfl (Qdp (n := 0) rfl rfl Qbw Qbt rfl) (Qdl rfl) (fun W hm => ⟨[.slice A19 x0.Segments.length c20, iV x0.Now], ?_, ?_⟩)
 ·first | rw [he92] | rfl
  try rfl
 rw [he92]; exact Mem.join (is := [I3]) (js := []) (fun _ _ hs => Qmw (x := x0) hs) (hm.pick [2] (by decide))

def Qvy (x0 : Qo) (k30 : Nat) (d31 : (List Int)) : Qo ⊕ ((List Int)) :=
 Sum.inr (d31 ++ [(gt x0.Active k30).Time])
def Qld (x0 : Qo) : Qo :=
 Sum.elim id (fun (s : (List Int)) => (⟨((Qga x0.Store s).1), x0.Cursor, x0.Order, x0.Active, x0.Done, x0.Ledger, x0.Steps⟩ : Qo)) (rng (R := Qo) (fun k (s : (List Int)) => Qvy x0 k s) (x0.Active.length - 0) 0 [])
theorem Qane : Cb Tryz.prog 114 := ⟨f114, _, func114, rfl, by decide⟩
theorem Qbcn (B : Nat) (w0 : World) (is : List It) (w : World) (p : Nat) (z0 : List Value) (x0 : Qo) (s_0 : Qgh 68719476736 x0.Store ∧ x0.Active.length ≤ 68719476736) (hm : Mem B w0 (Qh p 39 z0 :: Qn Qcb z0 x0 :: is) w) :
  Calls Tryz.prog 114 #[.pointer (sA p)] w fun e w' => ∃ x : List Value, e = .returned (.tuple #[]) ∧ Mem B w0 (Qh p 39 x :: Qn Qcb x (Qld x0) :: is) w' := by
 refine Qif (L := [(0, .pointer (sA p))]) (N := 40) func114 rfl rfl (Nat.le_of_ble_eq_true rfl) (Qec rfl Qha) hm ?_
 refine Qdw (js := (Qn Qcb z0 x0 :: Qh p 39 z0 :: is)) (fun W hm => (hm.front (n := 1) rfl)) ?_
 refine Qjw (γ := Value × Value × Value × Value × Value) (js := fun g => [Qn (tSl (tSl Qaf 163) 100) [g.1] x0.Store.Segments, Qn (tSl Qa 3) [g.2.1] x0.Order, Qn (tSl Qah 61) [g.2.2.1] x0.Active, Qn (tSl Qas 80) [g.2.2.2.1] x0.Done, Qn (tSl Qaq 102) [g.2.2.2.2] x0.Ledger]) (C := fun g => z0 = [g.1, iV x0.Store.Now, iV x0.Cursor, g.2.1, g.2.2.1, g.2.2.2.1, g.2.2.2.2, iV x0.Steps]) (fun _ _ h => Qrd h) ?_
 rintro ⟨v1, v2, v3, v4, v5⟩ rfl
 refine Qdc (n := 0) rfl ?_
 rintro A6 c7 rfl m8
 refine Qdc (n := 1) rfl ?_
 rintro A10 c11 rfl m12
 refine Qdc (n := 2) rfl ?_
 rintro A14 c15 rfl m16
 refine Qdc (n := 3) rfl ?_
 rintro A18 c19 rfl m20
 refine Qdc (n := 4) rfl ?_
 rintro A22 c23 rfl m24
 have l26 : x0.Store.Segments.length ≤ 68719476736 := s_0.1.1
 have l27 : x0.Active.length ≤ 68719476736 := s_0.2
 refine sr ?_
 refine Qcf (E := Qa) Qq Qf (Qk rfl) (by decide) (fun p28 => ?_)
 refine wa (nt' (Qe (sr (wa (nt' (Qx ?_))))))
 let I5 : It := iS (tSl Qaf 163) 100 A6 c7 x0.Store.Segments
 refine Qbg (S := (List Int)) (R := Option Addr × Nat) (fun k (s : (List Int)) => Qvy x0 k s) x0.Active.length 0 [] ((sA p28), 0) (fun s => [(0, bp p), (2, .slice s.2.2.1 s.2.1.length s.2.2.2), (3, nI s.1)]) (fun s => (iS Qa 3 s.2.2.1 s.2.2.2 s.2.1 :: I5 :: iS Qa 3 A10 c11 x0.Order :: iS Qah 61 A14 c15 x0.Active :: iS Qas 80 A18 c19 x0.Done :: iS Qaq 102 A22 c23 x0.Ledger :: Qh p 39 [.slice A6 x0.Store.Segments.length c7, iV x0.Store.Now, iV x0.Cursor, .slice A10 x0.Order.length c11, .slice A14 x0.Active.length c15, .slice A18 x0.Done.length c19, .slice A22 x0.Ledger.length c23, iV x0.Steps] :: is)) (fun s => s.2.1.length ≤ 0 + s.1) sl3 (Nat.le_refl _) ?_
 rintro ⟨k30, d31, ⟨A32, c33⟩⟩ H36 _ _ e e'
 dsimp only at H36 ⊢
 subst e e'
 obtain ⟨hk34, hF35, hi37⟩ := H36
 refine Qe (sr (wm (wm ?_)))
 refine wv (fun W hm => Qee rfl) ?_
 refine wv (vf Qz rfl Qcw) ?_
 refine wv (vl 6 4 Qax) ?_
 refine wv (Qag Qax) ?_
 refine wv Qai ?_
 refine nt' ?_
 rcases dcl k30 x0.Active.length with ⟨hl38, g39⟩ | ⟨hl38, g39⟩
 ·
  refine Ql rfl g39 ?_
  refine Qp (Qd (Qe (Qx (Qy (wm (wm ?_))))))
  refine wv (fun W hm => Qee rfl) ?_
  refine wv (vf Qz rfl Qcw) ?_
  refine wv (vl 6 4 Qax) ?_
  refine wm ?_
  refine Qhy (n := 3) rfl (by omega) ?_
  rintro g40 rfl
  refine wv (vix 10 k30 Qax Qbe) ?_
  refine wv (vf Qaj rfl Qf) ?_
  let K1 : List Value := [.slice A6 x0.Store.Segments.length c7, iV x0.Store.Now, iV x0.Cursor, .slice A10 x0.Order.length c11, .slice (sA g40) x0.Active.length c15, .slice A18 x0.Done.length c19, .slice A22 x0.Ledger.length c23, iV x0.Steps]
  let J9 : List It := I5 :: iS Qa 3 A10 c11 x0.Order :: iS Qas 80 A18 c19 x0.Done :: iS Qaq 102 A22 c23 x0.Ledger :: Qh p 39 K1 :: is
  refine Qjx (E := Qah) (e := 61) (A := (sA g40)) (n := x0.Active.length) (c := c15) (xs := x0.Active) (k := k30) (js := (iS Qa 3 A32 c33 d31 :: J9)) (by omega) (fun W hm => (hm.front (n := 3) rfl)) (fun ck41 => ?_)
  refine Qof ?_
  rintro ⟨v42, v43, v44, v45⟩ rfl
  refine fm 0 ?_
  rintro A46 c47 rfl m48
  refine fm 1 ?_
  rintro A50 c51 rfl m52
  refine fm 2 ?_
  rintro A54 c55 rfl m56
  refine fm 3 ?_
  rintro A58 c59 rfl m60
  refine wv (fun W hm => Qaw Qs rfl rfl (hm.focCells (i := 4) rfl rfl 4 _ rfl)) ?_
  refine Qde (cs := [iV ((gt x0.Active k30).Time)]) Qq Qf rfl (by decide) (by decide) rfl (by kernel_rfl) (Qk rfl) (by decide) (fun p62 => ?_)
  let K2 : List Value := [iV ((gt x0.Active k30).Query.Id), iV ((gt x0.Active k30).Query.Tenant), .slice A46 ((gt x0.Active k30).Query.Conds).length c47, .slice A50 ((gt x0.Active k30).Query.Out).length c51, iV ((gt x0.Active k30).Time), .slice A54 ((gt x0.Active k30).Todo).length c55, iV ((gt x0.Active k30).Age), iV ((gt x0.Active k30).Sent), iV ((gt x0.Active k30).Cap), .slice A58 ((gt x0.Active k30).Rows).length c59]
  let I6 : It := iS Qbl 180 A46 c47 ((gt x0.Active k30).Query.Conds)
  let I7 : It := iS Qa 3 A50 c51 ((gt x0.Active k30).Query.Out)
  let I8 : It := Qdf Qah 61 (sA g40) x0.Active.length c15 x0.Active k30 K2
  refine ap1 Qa 3 (.slice A32 d31.length c33) d31 ((gt x0.Active k30).Time) [] (I6 :: I7 :: iS Qa 3 A54 c55 ((gt x0.Active k30).Todo) :: iS Qap 70 A58 c59 ((gt x0.Active k30).Rows) :: I8 :: J9) [iV ((gt x0.Active k30).Time)] (fun W hm => ((hm.front (n := 6) rfl).front (n := 1) rfl)) (fun _ _ hs => by cases (Sep.nil hs); exact (Qhq Qck Qhr)) Qq Qf (show (d31.length + 1) * 8 ≤ 140737488355328 from by omega) (fun v63 => ?_)
  refine fm 0 ?_
  rintro A64 c65 rfl m66
  refine wa (Qac (Qam (Qd (Qy (wm ?_)))))
  refine wv (Qal k30 1 (by omega)) ?_
  refine wa (Qac ?_)
  refine Qdd (fun W hm => Mem.unfocus0 (Mem.join (is := [I6, I7, iS Qa 3 A54 c55 ((gt x0.Active k30).Todo), iS Qap 70 A58 c59 ((gt x0.Active k30).Rows)]) (js := (I8 :: (iS Qa 3 A64 c65 (d31 ++ [(gt x0.Active k30).Time]) :: J9))) (fun _ _ hs => Qho (x := (gt x0.Active k30)) hs) (hm.pickN 11 [1, 2, 3, 4, 5, 0, 6, 7, 8, 9, 10] (by decide)))) ?_
  exact Qan (k30 + 1, (d31 ++ [(gt x0.Active k30).Time]), (A64, c65)) sl3 (pn 7 [1, 2, 3, 0, 4, 5, 6]) ⟨(by omega), nx hF35 (rfl), (show (d31 ++ [(gt x0.Active k30).Time]).length ≤ 0 + (k30 + 1) from by first | omega | (simp only [List.length_append, List.length_cons, List.length_nil] at *; omega))⟩ rl
 refine Qm rfl g39 ?_
 refine Qay (Qu (Qu ?_))
 have hE69 := Qbh hl38 hF35
 refine Qaz (Qd (sr (wm ?_)))
 refine wv (fun W hm => Qee rfl) ?_
 refine wv (vf Qz rfl Qbt) ?_
 refine wv (fun W hm => Qad (cs := [.slice A6 x0.Store.Segments.length c7, iV x0.Store.Now]) Qbw Qbt rfl rfl (hm.boxPart (n := 6) rfl rfl)) ?_
 refine wm ?_
 refine Qoi (χ := List Value) (val := fun x => .tuple #[.agg x.toArray, iV ((Qga x0.Store d31).2)]) (js := fun x => [Qn Qdm x ((Qga x0.Store d31).1)]) (Qr Qaok rfl) (fun W hm => Qbbc W _ x0.Store _ d31 (Qgc (x := x0.Store) (hm.rdSI (n := 1) rfl)) (hm.rdSI (n := 0) rfl) s_0.1 (show _ ≤ 68719476736 from by omega)) (Qk rfl) (by decide) (fun z70 => ?_)
 refine Qjt ?_
 rintro v71 rfl
 refine fm 0 ?_
 rintro A72 c73 rfl m74
 refine wm ?_
 refine wv (fun W hm => Qlt rfl rfl) ?_
 refine wv (fun W hm => Qlt rfl rfl) ?_
 refine Qbm Qbt rfl (Qk rfl) (by decide) (fun p76 => ?_)
 let K3 : List Value := [.slice A72 (((Qga x0.Store d31).1).Segments).length c73, iV (((Qga x0.Store d31).1).Now)]
 refine Qgz (p := p76) (o := 0) (cs' := K3) (fun w hm => hm.front (n := 0) rfl) Qbt rfl (Nat.le_of_ble_eq_true rfl) rfl rfl rfl rfl (Qk rfl) ?_
 refine wa (nt' (Qy (wm ?_)))
 refine wv (fun W hm => Qad (cs := K3) Qbw Qbt rfl rfl (hm.boxCells (n := 0) rfl)) ?_
 refine wv (fun W hm => Qee rfl) ?_
 refine wv (vf Qz rfl Qbt) ?_
 let K4 : List Value := [.slice A72 (((Qga x0.Store d31).1).Segments).length c73, iV (((Qga x0.Store d31).1).Now), iV x0.Cursor, .slice A10 x0.Order.length c11, .slice A14 x0.Active.length c15, .slice A18 x0.Done.length c19, .slice A22 x0.Ledger.length c23, iV x0.Steps]
 refine Qgz (p := p) (o := 0) (cs' := K4) (fun w hm => hm.front (n := 8) rfl) Qbt rfl (Nat.le_of_ble_eq_true rfl) rfl rfl rfl rfl (Qk rfl) ?_
 refine Qac ?_
 let J10 : List It := Qh p 39 K4 :: Qh p76 34 K3 :: iS Qa 3 A32 c33 d31 :: I5 :: is
 refine Qdd (js := (Qn Qcb K4 (⟨((Qga x0.Store d31).1), x0.Cursor, x0.Order, x0.Active, x0.Done, x0.Ledger, x0.Steps⟩ : Qo) :: J10)) (fun W hm => Mem.join (is := [iS (tSl Qaf 163) 100 A72 c73 (((Qga x0.Store d31).1).Segments), iS Qa 3 A10 c11 x0.Order, iS Qah 61 A14 c15 x0.Active, iS Qas 80 A18 c19 x0.Done, iS Qaq 102 A22 c23 x0.Ledger]) (js := J10) (fun _ _ hs => Qfk (x := (⟨((Qga x0.Store d31).1), x0.Cursor, x0.Order, x0.Active, x0.Done, x0.Ledger, x0.Steps⟩ : Qo)) hs) (hm.pickN 9 [2, 5, 6, 7, 8, 0, 1, 3, 4] (by decide))) ?_
 have he77 := (show Qld x0 = (⟨((Qga x0.Store d31).1), x0.Cursor, x0.Order, x0.Active, x0.Done, x0.Ledger, x0.Steps⟩ : Qo) from Qar hE69 (rfl))
 refine Qwu rfl (fun W hm => ⟨K4, ?_, ?_⟩)
 ·rfl
 rw [he77]; exact (hm.pickN 5 [1, 0] (by decide))

def Qht (vis : Qt → Bool) (s : List Qt) : List Qab := (s.filter vis).map fun v => (⟨v.Id, v.Values⟩ : Qab)
theorem Qaan (vis : Qt → Bool) (s : List Qt) : (Qht vis s).length ≤ s.length := by
  unfold Qht
  rw [List.length_map]
  exact List.length_filter_le _ _
theorem Qauk {x y : List Int} (h : Qpa x y = true) : x = y := by
  unfold Qpa at h
  by_cases hl : x.length = y.length
  · rw [show (((x.length : Nat) : Int) != ((y.length : Nat) : Int)) = false from by rw [hl, bne_self_eq_false], cond_false, Qjb (p := fun k => !(gt x k != gt y k)) (r := false) (fun k _ => by unfold Qabb; cases gt x k != gt y k <;> rfl)] at h
    have ha : (List.range x.length).all (fun k => !(gt x k != gt y k)) = true := by
      cases hc : (List.range x.length).all (fun k => !(gt x k != gt y k)) with
      | true => rfl
      | false => rw [hc] at h; cases h
    rw [List.all_eq_true] at ha
    apply List.ext_getElem hl
    intro i h1 h2
    have := ha i (List.mem_range.2 h1)
    rw [Bool.not_eq_true', bne_eq_false_iff_eq, Qdn h1, Qdn h2] at this
    exact this
  rw [bne_iff_ne.2 (show ((x.length : Nat) : Int) ≠ ((y.length : Nat) : Int) by omega)] at h
  cases h
def Qhc (s : Qcp) (v : Int) : Bool := decide (s.From ≤ v ∧ v ≤ s.To)
def Qih : List Qcp → Int → List Int
  | [], _ => []
  | s :: l, v => cond (Qhc s v) s.Set (Qih l v)
theorem Qaks (l : List Qcp) (v : Int) : Qfz l v = Qih l v := by
  have key : ∀ m k, m + k = l.length → Sum.elim id (fun (_ : Unit) => []) (rng (R := List Int) (fun k (_ : Unit) => Qlv l v k) m k ()) = Qih (l.drop k) v := by
    intro m
    induction m with
    | zero => intro k hk; rw [List.drop_of_length_le (by omega)]; rfl
    | succ m ih =>
      intro k hk
      have hlt : k < l.length := by omega
      rw [List.drop_eq_getElem_cons hlt, ← Qdn hlt, rng]
      show Sum.elim id (fun (_ : Unit) => []) (Sum.elim Sum.inl (fun s' => rng (R := List Int) (fun k (_ : Unit) => Qlv l v k) m (k + 1) s') (Qlv l v k)) = cond (Qhc (gt l k) v) (gt l k).Set (Qih (l.drop (k + 1)) v)
      unfold Qlv Qhc
      rw [Qft]
      cases decide ((gt l k).From ≤ v ∧ v ≤ (gt l k).To) with
      | true => rfl
      | false => exact ih (k + 1) (by omega)
  have := key (l.length - 0) 0 (by omega)
  rw [List.drop_zero] at this
  exact this
theorem Qaeq {z : Qcp} {v : Int} (h : Qhc z v = false) : ∀ p : List Qcp, Qih (p ++ [z]) v = Qih p v
  | [] => by show cond (Qhc z v) _ _ = _; rw [h]; rfl
  | s :: p => by show cond (Qhc s v) _ (Qih (p ++ [z]) v) = cond (Qhc s v) _ (Qih p v); rw [Qaeq h p]
theorem Qxv {z : Qcp} {v : Int} (h : Qhc z v = true) : ∀ p : List Qcp, (∀ s ∈ p, Qhc s v = false) → Qih (p ++ [z]) v = z.Set
  | [], _ => by show cond (Qhc z v) _ _ = _; rw [h]; rfl
  | s :: p, hp => by
    show cond (Qhc s v) _ (Qih (p ++ [z]) v) = _
    rw [hp s (List.mem_cons_self ..), Qxv h p (fun s' hs => hp s' (List.mem_cons_of_mem _ hs))]
    rfl
theorem Qaep {z z' : Qcp} {v : Int} (h : Qhc z v = Qhc z' v) (hs : z.Set = z'.Set) : ∀ p : List Qcp, Qih (p ++ [z]) v = Qih (p ++ [z']) v
  | [] => by show cond (Qhc z v) _ _ = cond (Qhc z' v) _ _; rw [h, hs]
  | s :: p => by show cond (Qhc s v) _ (Qih (p ++ [z]) v) = cond (Qhc s v) _ (Qih (p ++ [z']) v); rw [Qaep h hs p]
def Qxb (T : Int → List Int) (k : Nat) (d : List Qcp) : Prop :=
  (k = 0 ∧ d = []) ∨ ∃ p z, d = p ++ [z] ∧ z.To = ((k : Nat) : Int) - 1 ∧ z.From ≤ ((k : Nat) : Int) - 1 ∧ z.Set = T (((k : Nat) : Int) - 1) ∧ (∀ s ∈ p, s.To < z.From) ∧ ∀ v : Int, 0 ≤ v → v < ((k : Nat) : Int) → Qih d v = T v
theorem Qami {l : List Qat} {f : Int} (k : Nat) (d : List Qcp) (h : Qxb (fun v => Qeg l f v) k d) : ∃ d', Qod l f k d = .inr d' ∧ Qxb (fun v => Qeg l f v) (k + 1) d' := by
  unfold Qod
  rcases h with ⟨rfl, rfl⟩ | ⟨p, z, rfl, h1, h2, h3, h4, h5⟩
  · refine ⟨[⟨0, 0, Qeg l f 0⟩], rfl, .inr ⟨[], _, rfl, rfl, (by show (0 : Int) ≤ _; omega), rfl, (fun s hs => by cases hs), fun v v0 v1 => ?_⟩⟩
    have hv : v = 0 := by omega
    subst hv
    rfl
  have hl : (p ++ [z]).length - 1 = p.length := by rw [List.length_append]; show p.length + 1 - 1 = _; omega
  have hg : gt (p ++ [z]) p.length = z := by
    rw [Qdn (by rw [List.length_append]; show p.length < p.length + 1; omega), List.getElem_append_right (Nat.le_refl _)]
    simp
  have hset : ∀ y, (p ++ [z]).set p.length y = p ++ [y] := fun y => by
    rw [List.set_append_right _ _ (Nat.le_refl _), Nat.sub_self]; rfl
  rw [decide_eq_true (show (0 : Int) < (((p ++ [z]).length : Nat) : Int) by rw [List.length_append]; show (0 : Int) < ((p.length + 1 : Nat) : Int); omega), cond_true, hl, hg, hset]
  have hz : ∀ s ∈ p, Qhc s ((k : Nat) : Int) = false := fun s hs => decide_eq_false (by have := h4 s hs; omega)
  cases hc : Qpa z.Set (Qeg l f ((k : Nat) : Int)) with
  | true =>
    have he := Qauk hc
    refine ⟨_, rfl, .inr ⟨p, _, rfl, (by show ((k : Nat) : Int) = ((k + 1 : Nat) : Int) - 1; omega), (by show z.From ≤ ((k + 1 : Nat) : Int) - 1; omega), (by show z.Set = Qeg l f (((k + 1 : Nat) : Int) - 1); rw [he]; congr 1; omega), h4, fun v v0 v1 => ?_⟩⟩
    by_cases hv : v = ((k : Nat) : Int)
    · rw [hv, Qxv (decide_eq_true (by show z.From ≤ ((k : Nat) : Int) ∧ ((k : Nat) : Int) ≤ ((k : Nat) : Int); omega)) p hz]
      exact he
    rw [← h5 v v0 (by omega)]
    refine (Qaep (z := z) (z' := ⟨z.From, ((k : Nat) : Int), z.Set⟩) (v := v) ?_ rfl p).symm
    unfold Qhc
    apply decide_eq_decide.2
    show _ ↔ (z.From ≤ v ∧ v ≤ ((k : Nat) : Int))
    omega
  | false =>
    refine ⟨_, rfl, .inr ⟨p ++ [z], _, rfl, (by show ((k : Nat) : Int) = ((k + 1 : Nat) : Int) - 1; omega), (by show ((k : Nat) : Int) ≤ ((k + 1 : Nat) : Int) - 1; omega), (by show Qeg l f ((k : Nat) : Int) = Qeg l f (((k + 1 : Nat) : Int) - 1); congr 1; omega), fun s hs => ?_, fun v v0 v1 => ?_⟩⟩
    · show s.To < ((k : Nat) : Int)
      rcases List.mem_append.1 hs with h | h
      · have := h4 s h; omega
      rw [List.mem_singleton.1 h]; omega
    by_cases hv : v = ((k : Nat) : Int)
    · rw [hv, Qxv (decide_eq_true (by show ((k : Nat) : Int) ≤ ((k : Nat) : Int) ∧ ((k : Nat) : Int) ≤ ((k : Nat) : Int); omega)) (p ++ [z]) (fun s hs => by
        rcases List.mem_append.1 hs with h | h
        · exact hz s h
        rw [List.mem_singleton.1 h]; exact decide_eq_false (by omega))]
    rw [Qaeq (decide_eq_false (by show ¬ (((k : Nat) : Int) ≤ v ∧ _); omega)), h5 v v0 (by omega)]
theorem Qakt {l : List Qat} {f v : Int} (hq : Qgi l = true) (hf : 0 ≤ f ∧ f ≤ 2) (hv : 0 ≤ v ∧ v ≤ 99) : Qfz (Qdz l f) v = Qeg l f v := by
  rw [Qaks]
  unfold Qdz
  rw [hq, Qft, decide_eq_true hf, cond_true, cond_true]
  obtain ⟨d, e, h⟩ := Qky (R := List Qcp) (body := fun k (s : List Qcp) => Qod l f k s) (n := 100) (Qxb (fun v => Qeg l f v)) (fun k d _ h => Qami k d h) (100 - 0) 0 [] (by omega) (.inl ⟨rfl, rfl⟩)
  rw [e]
  rcases h with ⟨h, _⟩ | ⟨p, z, _, _, _, _, _, h⟩
  · exact absurd h (by omega)
  exact h v (by omega) (by show v < 100; omega)
theorem Qamg {l : List Qat} {f v : Int} (hq : Qgi l = true) (hf : 0 ≤ f ∧ f ≤ 2) (hv : 0 ≤ v ∧ v ≤ 99) : Qeg l f v = (l.filter fun q => Qjk q f v).map fun q => q.Id := by
  unfold Qeg
  rw [Qaaj (b := fun k d => cond (Qjk (gt l k) f v) (Sum.inr (d ++ [(gt l k).Id])) (Sum.inr d)) (fun j s => by
    unfold Qoz
    rw [hq, Qft, Qft, decide_eq_true hf, decide_eq_true hv]
    cases Qjk (gt l j) f v <;> rfl)]
  rw [Qgv (xs := l) (f := fun d q => cond (Qjk q f v) (d ++ [q.Id]) d) (b := fun k d => cond (Qjk (gt l k) f v) (Sum.inr (d ++ [(gt l k).Id])) (Sum.inr d)) (fun j s _ => by cases Qjk (gt l j) f v <;> rfl), Qlq]
  rfl
theorem Qalt {q : Qat} (h : Qff q = true) : (0 ≤ q.Id ∧ q.Id ≤ 23) ∧ ∀ c ∈ q.Conds, 0 ≤ c.Field ∧ c.Field ≤ 2 := by
  unfold Qff at h
  rw [Qjb (p := fun k => Qjh (gt q.Conds k) && (!decide (0 < ((k : Nat) : Int)) || !decide ((gt q.Conds k).Field ≤ (gt q.Conds (k - 1)).Field))) (r := false) (fun k _ => by
    unfold Qoc
    cases Qjh (gt q.Conds k) <;> cases decide (0 < ((k : Nat) : Int)) <;> cases decide ((gt q.Conds k).Field ≤ (gt q.Conds (k - 1)).Field) <;> rfl), Qft q.Id] at h
  have ha : (List.range q.Conds.length).all (fun k => Qjh (gt q.Conds k) && (!decide (0 < ((k : Nat) : Int)) || !decide ((gt q.Conds k).Field ≤ (gt q.Conds (k - 1)).Field))) = true ∧ decide (0 ≤ q.Id ∧ q.Id ≤ 23) = true := by
    revert h
    cases (List.range q.Conds.length).all (fun k => Qjh (gt q.Conds k) && (!decide (0 < ((k : Nat) : Int)) || !decide ((gt q.Conds k).Field ≤ (gt q.Conds (k - 1)).Field))) <;> cases decide (0 ≤ q.Id ∧ q.Id ≤ 23) <;> intro h <;> first | exact ⟨rfl, rfl⟩ | cases h
  obtain ⟨ha, hi⟩ := ha
  rw [List.all_eq_true] at ha
  refine ⟨of_decide_eq_true hi, fun c hc => ?_⟩
  obtain ⟨i, hi, rfl⟩ := List.mem_iff_getElem.1 hc
  have := ha i (List.mem_range.2 hi)
  rw [Bool.and_eq_true, Qdn hi] at this
  have h1 := this.1
  unfold Qjh at h1
  rw [Qft] at h1
  by_cases hf : 0 ≤ q.Conds[i].Field ∧ q.Conds[i].Field ≤ 2
  · exact hf
  rw [decide_eq_false hf] at h1; cases h1
def Qnf (q : Qat) (f v : Int) : Bool := q.Conds.all fun c => !(c.Field == f) || decide (c.Low ≤ v ∧ v ≤ c.High)
theorem Qabx (q : Qat) (f v : Int) : Qjk q f v = Qnf q f v := by
  unfold Qjk Qnf
  rw [Qqp (xs := q.Conds) (p := fun c => !(c.Field == f) || decide (c.Low ≤ v ∧ v ≤ c.High)) (r := false) (fun k _ => by
    unfold Qabe
    rw [Qft]
    cases (gt q.Conds k).Field == f <;> cases decide ((gt q.Conds k).Low ≤ v ∧ v ≤ (gt q.Conds k).High) <;> rfl)]
  cases q.Conds.all fun c => !(c.Field == f) || decide (c.Low ≤ v ∧ v ≤ c.High) <;> rfl
theorem Qalc {x : List Int} (h1 : x.Pairwise (fun a b => a < b)) (h2 : ∀ y ∈ x, 0 ≤ y ∧ y ≤ 23) : Qgx x = true := by
  unfold Qgx
  rw [Qmq (fun k hk => by
    unfold Qss
    rw [Qft, decide_eq_true (h2 _ (Qak hk)), cond_true]
    by_cases h0 : 0 < k
    · rw [decide_eq_true (show (0 : Int) < ((k : Nat) : Int) by omega), decide_eq_false (show ¬ gt x k ≤ gt x (k - 1) by
        have := List.pairwise_iff_getElem.1 h1 (k - 1) k (by omega) hk (by omega)
        rw [Qdn hk, Qdn (by omega)]
        omega)]
      rfl
    rw [decide_eq_false (show ¬ (0 : Int) < ((k : Nat) : Int) by omega)]
    rfl)]
  rfl
theorem Qafd {l : List Qat} (hq : Qgi l = true) (p : Qat → Bool) : Qgx ((l.filter p).map fun q => q.Id) = true := by
  obtain ⟨_, hq1, hpw⟩ := Qwy hq
  refine Qalc ?_ (fun y hy => ?_)
  · rw [List.pairwise_map]; exact hpw.filter p
  obtain ⟨q, hq', rfl⟩ := List.mem_map.1 hy
  exact (Qalt (hq1 q (List.mem_filter.1 hq').1)).1
theorem Qasl {l : List Qat} (h : l.Pairwise (fun a b => a.Id < b.Id)) {a b : Qat} (ha : a ∈ l) (hb : b ∈ l) (he : a.Id = b.Id) : a = b := by
  obtain ⟨i, hi, rfl⟩ := List.mem_iff_getElem.1 ha
  obtain ⟨j, hj, rfl⟩ := List.mem_iff_getElem.1 hb
  rcases Nat.lt_trichotomy i j with c | rfl | c
  · have := List.pairwise_iff_getElem.1 h i j hi hj c; omega
  · rfl
  have := List.pairwise_iff_getElem.1 h j i hj hi c; omega
theorem Qays (x : List Int) (i : Int) : Qfd x i = x.any fun y => y == i := by
  unfold Qfd
  rw [Quz (p := fun y => y == i) (r := true) (fun j _ => rfl)]
  cases x.any fun y => y == i <;> rfl
theorem Qaha {l : List Qat} (hq : Qgi l = true) (r : Qat → Bool) {q : Qat} (hm : q ∈ l) : Qfd ((l.filter r).map fun q => q.Id) q.Id = r q := by
  obtain ⟨_, _, hpw⟩ := Qwy hq
  rw [Qays]
  cases hr : r q with
  | true => rw [List.any_eq_true]; exact ⟨q.Id, List.mem_map.2 ⟨q, List.mem_filter.2 ⟨hm, hr⟩, rfl⟩, beq_self_eq_true _⟩
  | false =>
    rw [List.any_eq_false]
    intro y hy
    obtain ⟨q', h1, rfl⟩ := List.mem_map.1 hy
    rw [beq_iff_eq]
    intro he
    obtain ⟨h2, h3⟩ := List.mem_filter.1 h1
    rw [Qasl hpw h2 hm he, hr] at h3
    cases h3
theorem Qayr {l : List Qat} (hq : Qgi l = true) (p r : Qat → Bool) : Qla ((l.filter p).map fun q => q.Id) ((l.filter r).map fun q => q.Id) = (l.filter fun q => p q && r q).map fun q => q.Id := by
  rw [Qaih, Qafd hq, Qafd hq]
  show List.filter _ (List.map _ _) = _
  rw [List.filter_map, List.filter_filter]
  refine congrArg (List.map _) (List.filter_congr fun q hq' => ?_)
  show (Qfd ((l.filter r).map fun q => q.Id) q.Id && p q) = (p q && r q)
  rw [Qaha hq r hq', Bool.and_comm]
def Qid (r : Qab) (k : Nat) (q : Qat) : Bool := (List.range k).all fun f => Qnf q ((f : Nat) : Int) (gt r.Values f)
def Qie (r : Qab) (o : List Int) (q : Qat) : Bool := o.all fun f => Qnf q f (gt r.Values f.toNat)
theorem Qayu {o : List Int} (ho : Qlc o = true) : ∀ k : Nat, k < 3 → ((k : Nat) : Int) ∈ o := by
  have h1 := Qafu o
  rw [ho] at h1
  unfold Qqg at h1
  rw [Qjb (n := 3) (p := fun k => Qhs o k) (r := false) (fun k _ => rfl)] at h1
  intro k hk
  cases ha : (List.range 3).all (fun k => Qhs o ((k : Nat) : Int)) with
  | false => rw [ha] at h1; cases h1
  | true =>
    have h2 := List.all_eq_true.1 ha k (List.mem_range.2 hk)
    have h3 : Qhs o ((k : Nat) : Int) = o.any fun z => z == ((k : Nat) : Int) := Qxx o _
    rw [h3, List.any_eq_true] at h2
    obtain ⟨z, hz, he⟩ := h2
    rw [← beq_iff_eq.1 he]
    exact hz
theorem Qamv {o : List Int} (ho : Qlc o = true) (r : Qab) (q : Qat) : Qie r o q = Qid r 3 q := by
  rw [Bool.eq_iff_iff]
  unfold Qie Qid
  simp only [List.all_eq_true, List.mem_range]
  constructor
  · intro h k hk
    have := h _ (Qayu ho k hk)
    rw [Int.toNat_natCast] at this
    exact this
  intro h f hf
  have hr := Qaav ho f hf
  have := h f.toNat (by omega)
  rw [Int.toNat_of_nonneg hr.1] at this
  exact this
theorem Qali {l : List Qat} {r : Qab} {o : List Int} (hq : Qgi l = true) (hr : Qgn r = true) (ho : Qlc o = true) : (Qke (Qfc l) r o).1 = (l.filter (Qid r 3)).map fun q => q.Id := by
  obtain ⟨hv, _, h3⟩ := (Qpr r).1 hr
  have hor := Qaav ho
  rw [Qaby hq]
  have hst : ∀ k, k < 3 → gt [Qdz l 0, Qdz l 1, Qdz l 2] k = Qdz l ((k : Nat) : Int) := fun k hk => by
    rcases k with _ | _ | _ | k
    · rfl
    · rfl
    · rfl
    omega
  have hfind : ∀ f : Int, 0 ≤ f ∧ f ≤ 2 → Qfz (gt [Qdz l 0, Qdz l 1, Qdz l 2] f.toNat) (gt r.Values f.toNat) = (l.filter fun q => Qnf q f (gt r.Values f.toNat)).map fun q => q.Id := fun f hf => by
    rw [hst _ (by omega), Int.toNat_of_nonneg hf.1, Qakt hq hf (hv _ (Qak (by omega))), Qamg hq hf (hv _ (Qak (by omega)))]
    refine congrArg (List.map _) (List.filter_congr fun q _ => Qabx q _ _)
  unfold Qke
  have hall : Qkd l = (l.filter (Qie r (o.take 0))).map fun q => q.Id := by
    unfold Qkd
    rw [Qgv (xs := l) (f := fun d q => d ++ [q.Id]) (b := fun k s => Qvs l k s) (fun _ _ _ => rfl)]
    show l.foldl _ [] = _
    have h1 := Qlq (fun _ : Qat => true) (fun q : Qat => q.Id) l []
    have h2 : l.filter (Qie r (o.take 0)) = l.filter (fun _ => true) := List.filter_congr fun q _ => rfl
    rw [h2]
    exact h1
  have hsucc : ∀ k, k < o.length → ∀ q, Qie r (o.take (k + 1)) q = (Qie r (o.take k) q && Qnf q (gt o k) (gt r.Values (gt o k).toNat)) := fun k hk q => by
    unfold Qie
    rw [List.take_add_one, Qbs hk, List.all_append]
    simp
  have hmono : ∀ k, ∀ q, Qie r o q = true → Qie r (o.take k) q = true := fun k q h => by
    unfold Qie at h ⊢
    rw [List.all_eq_true] at h ⊢
    exact fun f hf => h f (List.mem_of_mem_take hf)
  obtain ⟨s', e, h⟩ := Qvb (R := (List Int) × Int) (b := fun k (s : (List Int) × Int) => Qpc ⟨l, [Qdz l 0, Qdz l 1, Qdz l 2]⟩ r o k s.1 s.2) (n := o.length) (P := fun k s => s.1 = (l.filter (Qie r (o.take k))).map fun q => q.Id) (Q := fun s => s.1 = (l.filter (Qie r o)).map fun q => q.Id) (fun k s hk hs => by
    show (∃ s', Qpc _ r o k s.1 s.2 = _ ∧ _) ∨ ∃ s', Qpc _ r o k s.1 s.2 = _ ∧ _
    unfold Qpc
    by_cases h0 : 0 < s.1.length
    · rw [decide_eq_true (show (0 : Int) < ((s.1.length : Nat) : Int) by omega), cond_true]
      refine .inl ⟨_, rfl, ?_⟩
      show Qla s.1 _ = _
      rw [hfind _ (hor _ (Qak hk)), hs, Qayr hq]
      exact congrArg (List.map _) (List.filter_congr fun q _ => (hsucc k hk q).symm)
    rw [decide_eq_false (show ¬ (0 : Int) < ((s.1.length : Nat) : Int) by omega), cond_false]
    refine .inr ⟨_, rfl, ?_⟩
    have hnil : s.1 = [] := List.eq_nil_of_length_eq_zero (by omega)
    rw [hnil] at hs
    show s.1 = _
    rw [hnil]
    have h1 : l.filter (Qie r (o.take k)) = [] := List.map_eq_nil_iff.1 hs.symm
    have h2 : l.filter (Qie r o) = [] := by
      rw [List.filter_eq_nil_iff] at h1 ⊢
      exact fun q hq' h => h1 q hq' (hmono k q h)
    rw [h2]
    rfl) (o.length - 0) 0 ((Qkd l), 0) rfl hall
  have e2 : l.filter (Qid r 3) = l.filter (Qie r o) := List.filter_congr fun q _ => (Qamv ho r q).symm
  rw [e2]
  show (Sum.elim id (fun (s : (List Int) × Int) => (s.1, s.2)) (Qdo (R := (List Int) × Int) (fun k (s : (List Int) × Int) => Qpc ⟨l, [Qdz l 0, Qdz l 1, Qdz l 2]⟩ r o k s.1 s.2) (o.length - 0) 0 ((Qkd l), 0))).1 = _
  rw [e]
  rcases h with h | h
  · exact h
  rw [List.take_length] at h; exact h
def Qfs (x : Qo) : List Qt := gt x.Store.Segments x.Cursor.toNat
def Qit (a : Qw) (v : Qt) : Bool := Qid (⟨v.Id, v.Values⟩ : Qab) 3 a.Query && Qge v a.Time
def Qkb (x : Qo) (a : Qw) : List Qab := Qht (Qit a) (Qfs x)
def Qtc (x : Qo) (a : Qw) : Qw := ⟨a.Query, a.Time, a.Todo.filter (fun y => y != x.Cursor), a.Age, IntKind.i64.wrap (a.Sent + (((Qkb x a).length : Nat) : Int)), a.Cap, a.Rows ++ Qkb x a⟩
def Qeq (x : Qo) (ids : List Int) : List Qw := x.Active.map fun a => cond (decide (a.Query.Id ∈ ids)) (Qtc x a) a
def atI (x : Qo) (y : Int) : Qw := gt x.Active (Qdh x y).toNat
theorem Qxh (x : Qo) : Qeq x [] = x.Active := by
  unfold Qeq
  have h : ∀ a ∈ x.Active, (cond (decide (a.Query.Id ∈ ([] : List Int))) (Qtc x a) a) = a := fun a _ => by rw [decide_eq_false (by simp)]; rfl
  rw [List.map_congr_left h, List.map_id']
theorem Qmf (x : Qo) (ids : List Int) : (Qeq x ids).length = x.Active.length := by unfold Qeq; rw [List.length_map]
theorem Qtp (x : Qo) (ids : List Int) {i : Nat} (hi : i < x.Active.length) : gt (Qeq x ids) i = cond (decide ((gt x.Active i).Query.Id ∈ ids)) (Qtc x (gt x.Active i)) (gt x.Active i) := by
  unfold Qeq
  rw [Qdn (by rw [List.length_map]; exact hi), Qdn hi, List.getElem_map]
theorem Qacx (x : Qo) (ids : List Int) : (Qeq x ids).map (fun (a : Qw) => a.Query.Id) = x.Active.map (fun (a : Qw) => a.Query.Id) := by
  unfold Qeq
  rw [List.map_map]
  refine List.map_congr_left fun a _ => ?_
  show (cond (decide (a.Query.Id ∈ ids)) (Qtc x a) a).Query.Id = _
  cases decide (a.Query.Id ∈ ids) <;> rfl
theorem Qalg {x : Qo} (h : Eng x) : (Qba x).Pairwise (fun a b => a < b) := by
  rw [Qri h, List.pairwise_map]; exact h.srt.filter _
theorem Qrh {x : Qo} (h : Eng x) {y : Int} (hy : y ∈ Qba x) : ∃ i, i < x.Active.length ∧ (gt x.Active i).Query.Id = y ∧ Qdh x y = ((i : Nat) : Int) ∧ Qnz x.Cursor (gt x.Active i) = true := by
  rw [Qri h] at hy
  obtain ⟨a, ha, rfl⟩ := List.mem_map.1 hy
  obtain ⟨ha, hb⟩ := List.mem_filter.1 ha
  obtain ⟨i, hi, rfl⟩ := List.mem_iff_getElem.1 ha
  rw [← Qdn hi] at hb ⊢
  exact ⟨i, hi, rfl, Qtj h.srt hi, hb⟩
theorem Qalf {x : Qo} (h : Eng x) {k : Nat} (hk : k < (Qba x).length) : gt (Qba x) k ∉ (Qba x).take k := fun hm => by
  obtain ⟨j, hj, he⟩ := List.mem_iff_getElem.1 hm
  rw [List.length_take] at hj
  rw [List.getElem_take] at he
  have := List.pairwise_iff_getElem.1 (Qalg h) j k (by omega) hk (by omega)
  rw [Qdn hk] at he
  omega
theorem Qxg {x : Qo} (h : Eng x) {k : Nat} (hk : k < (Qba x).length) : gt (Qeq x ((Qba x).take k)) (Qdh x (gt (Qba x) k)).toNat = atI x (gt (Qba x) k) := by
  obtain ⟨i, hi, he, hf, _⟩ := Qrh h (Qak hk)
  unfold atI
  rw [hf, Int.toNat_natCast, Qtp x _ hi, he, decide_eq_false (Qalf h hk)]
  rfl
theorem Qacy {x : Qo} (h : Eng x) {k : Nat} (hk : k < (Qba x).length) : (Qeq x ((Qba x).take k)).set (Qdh x (gt (Qba x) k)).toNat (Qtc x (atI x (gt (Qba x) k))) = Qeq x ((Qba x).take (k + 1)) := by
  obtain ⟨i, hi, he, hf, _⟩ := Qrh h (Qak hk)
  unfold atI
  rw [hf, Int.toNat_natCast]
  refine List.ext_getElem (by rw [List.length_set, Qmf, Qmf]) fun j h1 h2 => ?_
  have hj : j < x.Active.length := by rw [Qmf] at h2; exact h2
  rw [List.getElem_set]
  by_cases hij : i = j
  · subst hij
    rw [if_pos rfl, ← Qdn h2, Qtp x _ hi, he, decide_eq_true]
    · rfl
    rw [List.take_add_one, Qbs hk]
    simp
  rw [if_neg hij, ← Qdn h2, ← Qdn (by rw [Qmf]; exact hj), Qtp x _ hj, Qtp x _ hj]
  have hne : (gt x.Active j).Query.Id ≠ gt (Qba x) k := fun e => by
    have h3 := Qtj h.srt hj
    rw [e, hf] at h3
    omega
  congr 1
  rw [List.take_add_one, Qbs hk, decide_eq_decide, List.mem_append]
  simp [hne]
theorem Qaao {x : Qo} (h : Eng x) {v : Qt} (hv : v ∈ Qfs x) : Qgn (⟨v.Id, v.Values⟩ : Qab) = true := by
  have hc := h.cur
  have hs := (Qki _).1 h.st
  have := hs.2.2.2.1 _ (List.mem_flatten.2 ⟨_, Qak (show x.Cursor.toNat < x.Store.Segments.length by omega), hv⟩)
  exact ((Qacr hs.2.1.2).1 this).1
theorem Qbaj (p : Qt → Bool) {l : List Qt} {j : Nat} (hj : j < l.length) : Qht p (l.take (j + 1)) = Qht p (l.take j) ++ cond (p (gt l j)) [(⟨(gt l j).Id, (gt l j).Values⟩ : Qab)] [] := by
  unfold Qht
  rw [List.take_add_one, Qbs hj, List.filter_append, List.map_append]
  congr 1
  show List.map _ (List.filter p [gt l j]) = _
  cases hp : p (gt l j) with
  | true => rw [List.filter_cons_of_pos hp]; rfl
  | false => rw [List.filter_cons_of_neg (by rw [hp]; exact Bool.false_ne_true)]; rfl
theorem Qbam {α : Type} [Inhabited α] (d : List α) (i : Nat) : d.set i (gt d i) = d := by
  by_cases hi : i < d.length
  · rw [Qdn hi]; exact List.set_getElem_self hi
  exact List.set_eq_of_length_le (by omega)
theorem Qafc {α : Type} [Inhabited α] {d : List α} {i : Nat} (hi : i < d.length) (y : α) : gt (d.set i y) i = y := by
  rw [Qdn (by rw [List.length_set]; exact hi), List.getElem_set_self]
def Qou (a : Qw) (l : List Qab) : Qw := ⟨a.Query, a.Time, a.Todo, a.Age, a.Sent, a.Cap, a.Rows ++ l⟩
theorem Qalz {x : Qo} (h : Eng x) {k : Nat} (hk : k < (Qba x).length) {d : List Qw} (hd : d.map (fun (a : Qw) => a.Query.Id) = x.Active.map (fun (a : Qw) => a.Query.Id)) (hc : gt d (Qdh x (gt (Qba x) k)).toNat = atI x (gt (Qba x) k)) :
    rng (R := Qo) (fun j (s : Int × (List Qw)) => Qqt x (Qba x) (Qfv x (Qba x)) k d j s.1 s.2) ((gt x.Store.Segments (x.Cursor.toNat)).length - 0) 0 (0, d) = .inr ((((Qkb x (atI x (gt (Qba x) k))).length : Nat) : Int), d.set (Qdh x (gt (Qba x) k)).toNat (Qou (atI x (gt (Qba x) k)) (Qkb x (atI x (gt (Qba x) k))))) := by
  obtain ⟨hfq, hdl⟩ := Qwz hd (gt (Qba x) k)
  obtain ⟨i, hi, he, hf, hpb⟩ := Qrh h (Qak hk)
  have ha : atI x (gt (Qba x) k) = gt x.Active i := by unfold atI; rw [hf, Int.toNat_natCast]
  have hare := Qaci h
  have hq : (gt x.Active i).Query ∈ Qfv x (Qba x) := by
    rw [Qacj h]
    exact List.mem_map.2 ⟨_, List.mem_filter.2 ⟨Qak hi, hpb⟩, rfl⟩
  rw [ha] at hc ⊢
  rw [hf, Int.toNat_natCast] at hc ⊢
  have h4 := Qxa h
  obtain ⟨s', e, h1, h2⟩ := Qky (R := Qo) (body := fun j (s : Int × (List Qw)) => Qqt x (Qba x) (Qfv x (Qba x)) k d j s.1 s.2) (n := (gt x.Store.Segments (x.Cursor.toNat)).length)
    (fun j s => s.1 = (((Qht (Qit (gt x.Active i)) ((Qfs x).take j)).length : Nat) : Int) ∧ s.2 = d.set i (Qou (gt x.Active i) (Qht (Qit (gt x.Active i)) ((Qfs x).take j)))) (fun j s hj hs => by
      obtain ⟨s1, s2⟩ := s
      obtain ⟨h1, h2⟩ := hs
      dsimp only at h1 h2
      show ∃ s', Qqt x (Qba x) (Qfv x (Qba x)) k d j s1 s2 = _ ∧ _
      unfold Qqt
      have hrow := Qaao h (show gt (gt x.Store.Segments x.Cursor.toNat) j ∈ Qfs x from Qak hj)
      have hadm : Qfd ((Qke (Qfc (Qfv x (Qba x))) (⟨(gt (gt x.Store.Segments (x.Cursor.toNat)) j).Id, (gt (gt x.Store.Segments (x.Cursor.toNat)) j).Values⟩ : Qab) x.Order).1) (gt (Qba x) k) = Qid (⟨(gt (gt x.Store.Segments (x.Cursor.toNat)) j).Id, (gt (gt x.Store.Segments (x.Cursor.toNat)) j).Values⟩ : Qab) 3 (gt x.Active i).Query := by
        rw [Qali hare hrow h.ord, ← he, Qaha hare _ hq]
      rw [hadm, hfq, hf, Int.toNat_natCast]
      have hg : gt s2 i = Qou (gt x.Active i) (Qht (Qit (gt x.Active i)) ((Qfs x).take j)) := by rw [h2]; exact Qafc (by omega) _
      have htm : (gt s2 i).Time = (gt x.Active i).Time := by rw [hg]; rfl
      rw [htm]
      have hsn := Qbaj (Qit (gt x.Active i)) (l := Qfs x) hj
      have hvis : Qqr (gt (gt x.Store.Segments x.Cursor.toNat) j) (gt x.Active i).Time = Qge (gt (Qfs x) j) (gt x.Active i).Time := rfl
      have hadm2 : Qid (⟨(gt (gt x.Store.Segments (x.Cursor.toNat)) j).Id, (gt (gt x.Store.Segments (x.Cursor.toNat)) j).Values⟩ : Qab) 3 (gt x.Active i).Query = Qid (⟨(gt (Qfs x) j).Id, (gt (Qfs x) j).Values⟩ : Qab) 3 (gt x.Active i).Query := rfl
      rw [hvis, hadm2]
      have hl4 := Qaan (Qit (gt x.Active i)) ((Qfs x).take j)
      rw [List.length_take] at hl4
      have hsl : (Qfs x).length ≤ 4 := h4
      cases h5 : Qid (⟨(gt (Qfs x) j).Id, (gt (Qfs x) j).Values⟩ : Qab) 3 (gt x.Active i).Query with
      | false =>
        have hb : Qit (gt x.Active i) (gt (Qfs x) j) = false := by unfold Qit; rw [h5]; rfl
        rw [hb] at hsn
        refine ⟨(s1, s2), rfl, ?_, ?_⟩
        · dsimp only; rw [hsn, cond_false, List.append_nil]; exact h1
        dsimp only; rw [hsn, cond_false, List.append_nil]; exact h2
      | true =>
        cases h6 : Qge (gt (Qfs x) j) (gt x.Active i).Time with
        | false =>
          have hb : Qit (gt x.Active i) (gt (Qfs x) j) = false := by unfold Qit; rw [h5, h6]; rfl
          rw [hb] at hsn
          refine ⟨(s1, s2), rfl, ?_, ?_⟩
          · dsimp only; rw [hsn, cond_false, List.append_nil]; exact h1
          dsimp only; rw [hsn, cond_false, List.append_nil]; exact h2
        | true =>
          have hb : Qit (gt x.Active i) (gt (Qfs x) j) = true := by unfold Qit; rw [h5, h6]; rfl
          rw [hb] at hsn
          refine ⟨_, rfl, ?_, ?_⟩
          · dsimp only
            rw [hsn, cond_true, List.length_append, h1, Qeu (by omega) (by omega)]
            show _ + 1 = (((_ + 1 : Nat)) : Int)
            omega
          show Qoe x ((i : Nat) : Int) j s2 = _
          unfold Qoe Qjj
          rw [Int.toNat_natCast, hg, h2, List.set_set, hsn, cond_true]
          unfold Qou
          dsimp only
          rw [List.append_assoc]
          rfl) ((gt x.Store.Segments (x.Cursor.toNat)).length - 0) 0 (0, d) (by omega) ⟨rfl, by
      show d = d.set i (Qou (gt x.Active i) (Qht (Qit (gt x.Active i)) ((Qfs x).take 0)))
      have e0 : Qou (gt x.Active i) (Qht (Qit (gt x.Active i)) ((Qfs x).take 0)) = gt d i := by
        rw [hc]
        generalize gt x.Active i = a
        cases a
        simp [Qou, Qht]
      rw [e0, Qbam]⟩
  rw [e]
  have ht : (Qfs x).take (gt x.Store.Segments (x.Cursor.toNat)).length = Qfs x := List.take_length
  rw [ht] at h1 h2
  obtain ⟨s1, s2⟩ := s'
  dsimp only at h1 h2
  rw [h1, h2]
  rfl
def Qms (x : Qo) (ids : List Int) : List Int := ids.map fun y => (atI x y).Query.Tenant
def Qmj (x : Qo) (ids : List Int) : List Int := ids.map fun y => (((Qkb x (atI x y)).length : Nat) : Int)
def Qmi (x : Qo) : Qbc := ⟨x.Cursor, (((Qfs x).length : Nat) : Int), Qba x, Qms x (Qba x), Qmj x (Qba x)⟩
theorem Qux {β : Type} (f : Int → β) {l : List Int} {k : Nat} (hk : k < l.length) : (l.take (k + 1)).map f = (l.take k).map f ++ [f (gt l k)] := by
  rw [List.take_add_one, Qbs hk, List.map_append]
  rfl
theorem Qrk {x : Qo} (h : Eng x) : Qlb x (Qba x) = ⟨x.Store, x.Cursor, x.Order, Qeq x (Qba x), x.Done, x.Ledger ++ [Qmi x], x.Steps⟩ := by
  have h8 := Qrl h
  unfold Qlb
  obtain ⟨q, e1, hq⟩ := Qky (R := Qo) (body := fun k (s : (List Qat)) => Qaba x (Qba x) k s) (n := (Qba x).length) (fun k s => s = Qfv x ((Qba x).take k)) (fun k s hk hs => ⟨_, rfl, by rw [Qacl hk, ← hs]⟩) ((Qba x).length - 0) 0 [] (by omega) rfl
  rw [List.take_length] at hq
  rw [e1, hq]
  obtain ⟨s, e2, h1, h2, h3⟩ := Qky (R := Qo) (body := fun k (s : (List Int) × (List Int) × (List Qw)) => Qqs x (Qba x) (Qfv x (Qba x)) k s.1 s.2.1 s.2.2) (n := (Qba x).length)
    (fun k s => s.1 = Qms x ((Qba x).take k) ∧ s.2.1 = Qmj x ((Qba x).take k) ∧ s.2.2 = Qeq x ((Qba x).take k)) (fun k s hk hs => by
      obtain ⟨s1, s2, s3⟩ := s
      obtain ⟨h1, h2, h3⟩ := hs
      dsimp only at h1 h2 h3
      subst h3
      show ∃ s', Qqs x (Qba x) (Qfv x (Qba x)) k s1 s2 _ = _ ∧ _
      unfold Qqs
      rw [Qalz h hk (Qacx x _) (Qxg h hk), (Qwz (Qacx x ((Qba x).take k)) (gt (Qba x) k)).1]
      refine ⟨_, rfl, ?_, ?_, ?_⟩
      · show s1 ++ [_] = _
        unfold Qms at h1 ⊢
        rw [Qux _ hk, h1, Qxg h hk]
      · show s2 ++ [_] = _
        unfold Qmj at h2 ⊢
        rw [Qux _ hk, h2]
      obtain ⟨i, hi, he, hf, hpb⟩ := Qrh h (Qak hk)
      rw [← Qacy h hk]
      unfold Qqu
      dsimp only
      rw [Qafc (by rw [Qmf, hf]; omega), List.set_set, Qajk]
      rfl) ((Qba x).length - 0) 0 ([], [], x.Active) (by omega) ⟨rfl, rfl, by rw [List.take_zero, Qxh]⟩
  show Sum.elim id _ (rng (R := Qo) (fun k (s : (List Int) × (List Int) × (List Qw)) => Qqs x (Qba x) (Qfv x (Qba x)) k s.1 s.2.1 s.2.2) ((Qba x).length - 0) 0 ([], [], x.Active)) = _
  rw [e2]
  obtain ⟨s1, s2, s3⟩ := s
  dsimp only at h1 h2 h3
  rw [List.take_length] at h1 h2 h3
  rw [h1, h2, h3]
  rfl
theorem Qamf {x : Qo} (h : Eng x) : (Qlb x (Qba x)).Store = x.Store := by rw [Qrk h]
theorem Qamd {x : Qo} (h : Eng x) : (Qlb x (Qba x)).Store.Segments.length = x.Store.Segments.length := by rw [Qrk h]
theorem Qaly {x : Qo} (h : Eng x) : (Qlb x (Qba x)).Active.length = x.Active.length := by rw [Qrk h]; exact Qmf _ _
theorem Qama {x : Qo} (h : Eng x) : (Qlb x (Qba x)).Done.length = x.Done.length := by rw [Qrk h]
abbrev Qvo (E36 : Qo) (k95 : Nat) (d96 : (List Qw)) : (List Qw) :=
 (d96 ++ [(⟨(gt E36.Active k95).Query, (gt E36.Active k95).Time, (gt E36.Active k95).Todo, (IntKind.i64.wrap (((gt E36.Active k95).Age) + 1)), 0, (gt E36.Active k95).Cap, (gt E36.Active k95).Rows⟩ : Qw)])
abbrev Qvp (E36 : Qo) (k95 : Nat) (d96 : (List Qw)) : (List Qw) :=
 (d96 ++ [(⟨(gt E36.Active k95).Query, (gt E36.Active k95).Time, (gt E36.Active k95).Todo, (IntKind.i64.wrap (((gt E36.Active k95).Age) + 1)), (gt E36.Active k95).Sent, (gt E36.Active k95).Cap, (gt E36.Active k95).Rows⟩ : Qw)])
def Qsw (E36 : Qo) (k95 : Nat) (d96 : (List Qw)) (d100 : (List Qav)) : Qo ⊕ ((List Qw) × (List Qav)) :=
 cond ((Int.tmod (IntKind.i64.wrap (((gt E36.Active k95).Age) + 1)) ((E36.Store.Segments.length : Nat) : Int)) == 0) (cond (((((gt E36.Active k95).Todo).length : Nat) : Int) == 0) (Sum.inr (d96, (d100 ++ [(⟨(gt E36.Active k95).Query, (gt E36.Active k95).Time, (IntKind.i64.wrap (((gt E36.Active k95).Age) + 1)), (gt E36.Active k95).Rows⟩ : Qav)]))) (Sum.inr ((Qvo E36 k95 d96), d100))) (cond (((((gt E36.Active k95).Todo).length : Nat) : Int) == 0) (Sum.inr (d96, (d100 ++ [(⟨(gt E36.Active k95).Query, (gt E36.Active k95).Time, (IntKind.i64.wrap (((gt E36.Active k95).Age) + 1)), (gt E36.Active k95).Rows⟩ : Qav)]))) (Sum.inr ((Qvp E36 k95 d96), d100)))
def Qqw (x0 : Qo) : Qo ⊕ Qo :=
 cond (decide (0 < (((Qba x0).length : Nat) : Int))) (Sum.inr (Qlb x0 (Qba x0))) (Sum.inr x0)
def Qgb (x0 : Qo) : Qo :=
 Sum.elim id (fun (s101_ : Qo) => Sum.elim id (fun (s : (List Qw) × (List Qav)) => (Qld (⟨s101_.Store, (Int.tmod (IntKind.i64.wrap (s101_.Cursor + 1)) ((s101_.Store.Segments.length : Nat) : Int)), s101_.Order, s.1, s.2, s101_.Ledger, (IntKind.i64.wrap (s101_.Steps + 1))⟩ : Qo))) (rng (R := Qo) (fun k (s : (List Qw) × (List Qav)) => Qsw s101_ k s.1 s.2) (s101_.Active.length - 0) 0 ([], s101_.Done))) ((Qqw x0))
theorem cb62 : Cb Tryz.prog 62 := ⟨f62, _, func62, rfl, by decide⟩
theorem Qbbl (B : Nat) (w0 : World) (is : List It) (w : World) (p : Nat) (z0 : List Value) (x0 : Qo) (s_0 : Qen 68719476736 x0) (hE : Eng x0) (hm : Mem B w0 (Qh p 39 z0 :: Qn Qcb z0 x0 :: is) w) :
  Calls Tryz.prog 62 #[.pointer (sA p)] w fun e w' => ∃ x : List Value, e = .returned (.tuple #[]) ∧ Mem B w0 (Qh p 39 x :: Qn Qcb x (Qgb x0) :: is) w' := by
 refine Qif (L := [(0, .pointer (sA p))]) (N := 100) func62 rfl rfl (Nat.le_of_ble_eq_true rfl) (Qec rfl Qha) hm ?_
 refine Qdw (js := (Qn Qcb z0 x0 :: Qh p 39 z0 :: is)) (fun W hm => (hm.front (n := 1) rfl)) ?_
 refine Qjw (γ := Value × Value × Value × Value × Value) (js := fun g => [Qn (tSl (tSl Qaf 163) 100) [g.1] x0.Store.Segments, Qn (tSl Qa 3) [g.2.1] x0.Order, Qn (tSl Qah 61) [g.2.2.1] x0.Active, Qn (tSl Qas 80) [g.2.2.2.1] x0.Done, Qn (tSl Qaq 102) [g.2.2.2.2] x0.Ledger]) (C := fun g => z0 = [g.1, iV x0.Store.Now, iV x0.Cursor, g.2.1, g.2.2.1, g.2.2.2.1, g.2.2.2.2, iV x0.Steps]) (fun _ _ h => Qrd h) ?_
 rintro ⟨v1, v2, v3, v4, v5⟩ rfl
 refine Qdc (n := 0) rfl ?_
 rintro A6 c7 rfl m8
 refine Qdc (n := 1) rfl ?_
 rintro A10 c11 rfl m12
 refine Qdc (n := 2) rfl ?_
 rintro A14 c15 rfl m16
 refine Qdc (n := 3) rfl ?_
 rintro A18 c19 rfl m20
 refine Qdc (n := 4) rfl ?_
 rintro A22 c23 rfl m24
 have l26 : x0.Store.Segments.length ≤ 68719476736 := s_0.1.1
 have l27 := s_0.2.1
 have l28 := s_0.2.2.1.1
 have l29 := s_0.2.2.2.1.1
 have l30 := s_0.2.2.2.2.1
 have hE1 := hE.al
 have hE2 := hE.cur
 have hE3 := ((Qki _).1 hE.st).1
 have hE4 := hE.dl
 have hE5 := hE.ll
 have hE6 := hE.stp
 refine sr (wm ?_)
 refine wv (fun W hm => Qee rfl) ?_
 let K1 : List Value := [.slice A6 x0.Store.Segments.length c7, iV x0.Store.Now, iV x0.Cursor, .slice A10 x0.Order.length c11, .slice A14 x0.Active.length c15, .slice A18 x0.Done.length c19, .slice A22 x0.Ledger.length c23, iV x0.Steps]
 refine wv (fun W hm => Qad (cs := K1) Qz Qbd rfl rfl (hm.boxCells (n := 5) rfl)) ?_
 refine wcl (tSl Qa 3) (Qba x0) (Qr cb25 rfl) (fun W hm => Qbbb W _ x0 (Qep (x := x0) (hm.rdSI (n := 0) rfl) (hm.rdSI (n := 1) rfl) (hm.rdSI (n := 2) rfl) (hm.rdSI (n := 3) rfl) (hm.rdSI (n := 4) rfl)) s_0) (fun z31 => ?_)
 have hP8 := Qrl hE
 refine fm 0 ?_
 rintro A32 c33 rfl m34
 refine wa (nt' (Qe (sr (wm ?_))))
 refine wv (Qag Qq) ?_
 refine wv (fun W hm => Qem rfl rfl) ?_
 refine nt' ?_
 refine Qlj (σ := Qo × (Option Addr × Nat × Option Addr × Nat × Option Addr × Nat × Option Addr × Nat × Option Addr × Nat)) (fun s => [(0, bp p)]) (fun s => (iS (tSl Qaf 163) 100 s.2.1 s.2.2.1 s.1.Store.Segments :: iS Qa 3 s.2.2.2.1 s.2.2.2.2.1 s.1.Order :: iS Qah 61 s.2.2.2.2.2.1 s.2.2.2.2.2.2.1 s.1.Active :: iS Qas 80 s.2.2.2.2.2.2.2.1 s.2.2.2.2.2.2.2.2.1 s.1.Done :: iS Qaq 102 s.2.2.2.2.2.2.2.2.2.1 s.2.2.2.2.2.2.2.2.2.2 s.1.Ledger :: Qh p 39 [.slice s.2.1 s.1.Store.Segments.length s.2.2.1, iV s.1.Store.Now, iV s.1.Cursor, .slice s.2.2.2.1 s.1.Order.length s.2.2.2.2.1, .slice s.2.2.2.2.2.1 s.1.Active.length s.2.2.2.2.2.2.1, .slice s.2.2.2.2.2.2.2.1 s.1.Done.length s.2.2.2.2.2.2.2.2.1, .slice s.2.2.2.2.2.2.2.2.2.1 s.1.Ledger.length s.2.2.2.2.2.2.2.2.2.2, iV s.1.Steps] :: is)) (fun s => (Qqw x0) = Sum.inr s.1 ∧ s.1.Store = x0.Store ∧ s.1.Store.Segments.length = x0.Store.Segments.length ∧ s.1.Active.length = x0.Active.length ∧ s.1.Done.length = x0.Done.length) ?_ ?_
 ·
  rcases dcd (0 < (((Qba x0).length : Nat) : Int)) with ⟨h52, g53⟩ | ⟨h52, g53⟩
  ·
   refine Ql rfl g53 ?_
   refine Qy (wm (wm ?_))
   let J16 : List It := iS Qa 3 A32 c33 (Qba x0) :: Qh p 39 K1 :: is
   refine Qkj (js := (Qn Qcb K1 x0 :: J16)) (fun W hm => Mem.join (is := [iS (tSl Qaf 163) 100 A6 c7 x0.Store.Segments, iS Qa 3 A10 c11 x0.Order, iS Qah 61 A14 c15 x0.Active, iS Qas 80 A18 c19 x0.Done, iS Qaq 102 A22 c23 x0.Ledger]) (js := J16) (fun _ _ hs => Qfk (x := x0) hs) (hm.pickN 7 [1, 2, 3, 4, 5, 0, 6] (by decide))) ?_
   refine Qpu (χ := List Value) (val := fun x => .tuple #[]) (js := fun x => (Qh p 39 x :: Qn Qcb x (Qlb x0 (Qba x0)) :: iS Qa 3 A32 c33 (Qba x0) :: (is))) (Qr Qanp rfl) (fun W hm => Qbbk B w0 (is) W p _ x0 _ (Qba x0) s_0 (show _ ≤ 68719476736 from by omega) (hE) (rfl) (((hm.front (n := 1) rfl).front (n := 1) rfl).front (n := 2) rfl)) (Qk rfl) (by decide) (fun z54 => ?_)
   have hS1 := Qamf hE
   have hS2 := Qamd hE
   have hS3 := Qaly hE
   have hS4 := Qama hE
   obtain ⟨G55, hG55⟩ : ∃ G, G = (Qlb x0 (Qba x0)) := ⟨_, rfl⟩
   rw [← hG55]
   rw [← hG55] at hS1
   rw [← hG55] at hS2
   rw [← hG55] at hS3
   rw [← hG55] at hS4
   refine Qkj (js := (Qn Qcb z54 G55 :: Qh p 39 z54 :: iS Qa 3 A32 c33 (Qba x0) :: is)) (fun W hm => (hm.front (n := 1) rfl)) ?_
   refine Qhf ?_
   rintro ⟨v56, v57, v58, v59, v60⟩ rfl
   refine fm 0 ?_
   rintro A61 c62 rfl m63
   refine fm 1 ?_
   rintro A65 c66 rfl m67
   refine fm 2 ?_
   rintro A69 c70 rfl m71
   refine fm 3 ?_
   rintro A73 c74 rfl m75
   refine fm 4 ?_
   rintro A77 c78 rfl m79
   refine Qac ?_
   exact Qfh (G55, (A61, c62, A65, c66, A69, c70, A73, c74, A77, c78)) (Qbu rfl Qgo) (pn 7 [0, 1, 2, 3, 4, 5]) ⟨(show (Qqw x0) = Sum.inr G55 from by subst hG55; exact Qb g53 (rfl)), (show G55.Store = x0.Store from by first | rfl | exact hS1), (show G55.Store.Segments.length = x0.Store.Segments.length from by first | rfl | exact hS2), (show G55.Active.length = x0.Active.length from by first | rfl | exact hS3), (show G55.Done.length = x0.Done.length from by first | rfl | exact hS4)⟩
  refine Qm rfl g53 ?_
  refine Qp ?_
  exact Qfh (x0, (A6, c7, A10, c11, A14, c15, A18, c19, A22, c23)) (Qbu rfl Qgo) (pn 7 [1, 2, 3, 4, 5, 6]) ⟨(show (Qqw x0) = Sum.inr x0 from Qc g53 (rfl)), (show x0.Store = x0.Store from by first | rfl | exact hS1), (show x0.Store.Segments.length = x0.Store.Segments.length from by first | rfl | exact hS2), (show x0.Active.length = x0.Active.length from by first | rfl | exact hS3), (show x0.Done.length = x0.Done.length from by first | rfl | exact hS4)⟩
 rintro ⟨E36, ⟨A37, c38, A40, c41, A43, c44, A46, c47, A49, c50⟩⟩ H81
 dsimp only at H81
 obtain ⟨hE82, hS1, hS2, hS3, hS4⟩ := H81
 let I10 : It := iS (tSl Qaf 163) 100 A37 c38 E36.Store.Segments
 show QM 100 _ _ _ .normal [(0, bp p)] (I10 :: iS Qa 3 A40 c41 E36.Order :: iS Qah 61 A43 c44 E36.Active :: iS Qas 80 A46 c47 E36.Done :: iS Qaq 102 A49 c50 E36.Ledger :: Qh p 39 [.slice A37 E36.Store.Segments.length c38, iV E36.Store.Now, iV E36.Cursor, .slice A40 E36.Order.length c41, .slice A43 E36.Active.length c44, .slice A46 E36.Done.length c47, .slice A49 E36.Ledger.length c50, iV E36.Steps] :: is)
 refine Qnd (n := 0) rfl ?_
 intro m83 m84
 refine Qnd (n := 1) rfl ?_
 intro m85 m86
 refine Qnd (n := 2) rfl ?_
 intro m87 m88
 refine Qnd (n := 3) rfl ?_
 intro m89 m90
 refine Qnd (n := 4) rfl ?_
 intro m91 m92
 refine Qd (sr (wm ?_))
 refine wv (fun W hm => Qee rfl) ?_
 refine wv (vf Qz rfl Qbt) ?_
 refine wv (fun W hm => Qeb (o := 0) Qbw rfl Qea (by decide) rfl rfl) ?_
 refine wv (vl 5 0 Qbz) ?_
 refine wv (Qag Qbz) ?_
 refine wa (nt' (sr ?_))
 refine Qcf (E := Qah) Qax Qbe (Qk rfl) (by decide) (fun p93 => ?_)
 refine wa (nt' (Qe (sr (wa (nt' (Qx ?_))))))
 refine Qdw (fun W hm => Mem.toRest (hm.front (n := 3) rfl)) ?_
 refine Qbg (S := (List Qw) × (List Qav)) (R := Option Addr × Nat × Option Addr × Nat) (fun k (s : (List Qw) × (List Qav)) => Qsw E36 k s.1 s.2) E36.Active.length 0 ([], E36.Done) ((sA p93), 0, A46, c47) (fun s => [(0, bp p), (3, nI E36.Store.Segments.length), (4, .slice s.2.2.1 s.2.1.1.length s.2.2.2.1), (5, nI s.1)]) (fun s => (Qhi Qah 61 A43 E36.Active.length E36.Active s.1 :: iS Qah 61 s.2.2.1 s.2.2.2.1 s.2.1.1 :: I10 :: iS Qa 3 A40 c41 E36.Order :: iS Qas 80 s.2.2.2.2.1 s.2.2.2.2.2 s.2.1.2 :: iS Qaq 102 A49 c50 E36.Ledger :: Qh p 39 [.slice A37 E36.Store.Segments.length c38, iV E36.Store.Now, iV E36.Cursor, .slice A40 E36.Order.length c41, .slice A43 E36.Active.length c44, .slice s.2.2.2.2.1 s.2.1.2.length s.2.2.2.2.2, .slice A49 E36.Ledger.length c50, iV E36.Steps] :: is)) (fun s => s.2.1.1.length ≤ 0 + s.1 ∧ s.2.1.2.length ≤ E36.Done.length + s.1) sl4 ⟨Nat.le_refl _, Nat.le_refl _⟩ ?_
 rintro ⟨k95, ⟨d96, d100⟩, ⟨A97, c98, A101, c102⟩⟩ H105 _ _ e e'
 dsimp only at H105 ⊢
 subst e e'
 obtain ⟨hk103, hF104, hi106, hi107⟩ := H105
 refine Qe (sr (wm (wm ?_)))
 refine wv (fun W hm => Qee rfl) ?_
 refine wv (vf Qz rfl Qcw) ?_
 refine wv (vl 6 4 Qax) ?_
 refine wv (Qag Qax) ?_
 refine wv Qai ?_
 refine nt' ?_
 rcases dcl k95 E36.Active.length with ⟨hl108, g109⟩ | ⟨hl108, g109⟩
 ·
  refine Ql rfl g109 ?_
  refine Qp (Qd (Qe (Qx (sr (wm ?_)))))
  refine wv (fun W hm => Qee rfl) ?_
  refine wv (vf Qz rfl Qcw) ?_
  refine wv (vl 6 4 Qax) ?_
  refine wm ?_
  refine Qrm (n := 0) rfl (by omega) ?_
  rintro g110 rfl
  refine wv (vix 10 k95 Qax Qbe) ?_
  let K2 : List Value := [.slice A37 E36.Store.Segments.length c38, iV E36.Store.Now, iV E36.Cursor, .slice A40 E36.Order.length c41, .slice (sA g110) E36.Active.length c44, .slice A101 d100.length c102, .slice A49 E36.Ledger.length c50, iV E36.Steps]
  let J17 : List It := iS Qaq 102 A49 c50 E36.Ledger :: Qh p 39 K2 :: is
  let J18 : List It := I10 :: iS Qa 3 A40 c41 E36.Order :: iS Qas 80 A101 c102 d100 :: J17
  refine Qrn (E := Qah) (e := 61) (A := (sA g110)) (n := E36.Active.length) (xs := E36.Active) (k := k95) (js := (iS Qah 61 A97 c98 d96 :: J18)) (by omega) (fun W hm => (hm.front (n := 0) rfl)) (fun ck111 => ?_)
  refine Qof ?_
  rintro ⟨v112, v113, v114, v115⟩ rfl
  refine fm 0 ?_
  rintro A116 c117 rfl m118
  refine fm 1 ?_
  rintro A120 c121 rfl m122
  refine fm 2 ?_
  rintro A124 c125 rfl m126
  refine fm 3 ?_
  rintro A128 c129 rfl m130
  let K3 : List Value := [iV ((gt E36.Active k95).Query.Id), iV ((gt E36.Active k95).Query.Tenant), .slice A116 ((gt E36.Active k95).Query.Conds).length c117, .slice A120 ((gt E36.Active k95).Query.Out).length c121, iV ((gt E36.Active k95).Time), .slice A124 ((gt E36.Active k95).Todo).length c125, iV ((gt E36.Active k95).Age), iV ((gt E36.Active k95).Sent), iV ((gt E36.Active k95).Cap), .slice A128 ((gt E36.Active k95).Rows).length c129]
  refine wv (fun W hm => Qad (cs := K3) Qaj Qbe rfl rfl (hm.restCells (i := 4) rfl rfl)) ?_
  refine Qbm Qbe rfl (Qk rfl) (by decide) (fun p132 => ?_)
  refine Qgz (p := p132) (o := 0) (cs' := K3) (fun w hm => hm.front (n := 0) rfl) Qbe rfl (Nat.le_of_ble_eq_true rfl) rfl rfl rfl rfl (Qk rfl) ?_
  refine nt' (sr ?_)
  refine wv (vf Qaj rfl Qf) ?_
  refine wv (vl 0 6 Qs) ?_
  refine wv Qcy ?_
  refine wv (vf Qaj rfl Qf) ?_
  let K4 : List Value := [iV ((gt E36.Active k95).Query.Id), iV ((gt E36.Active k95).Query.Tenant), .slice A116 ((gt E36.Active k95).Query.Conds).length c117, .slice A120 ((gt E36.Active k95).Query.Out).length c121, iV ((gt E36.Active k95).Time), .slice A124 ((gt E36.Active k95).Todo).length c125, iV (IntKind.i64.wrap (((gt E36.Active k95).Age) + 1)), iV ((gt E36.Active k95).Sent), iV ((gt E36.Active k95).Cap), .slice A128 ((gt E36.Active k95).Rows).length c129]
  refine Qgz (p := p132) (o := 6) (cs' := K4) (fun w hm => hm.front (n := 0) rfl) Qf rfl (Nat.le_of_ble_eq_true rfl) rfl rfl rfl rfl (Qk rfl) ?_
  refine nt' (Qe (sr ?_))
  refine wv (vf Qaj rfl Qf) ?_
  refine wv (vl 0 6 Qs) ?_
  refine wm ?_
  refine wv (fun W hm => Qvd rfl rfl (by omega)) ?_
  refine wv (fun W hm => Qfe rfl rfl) ?_
  refine nt' ?_
  rcases dce (Int.tmod (IntKind.i64.wrap (((gt E36.Active k95).Age) + 1)) ((E36.Store.Segments.length : Nat) : Int)) 0 with ⟨h133, g134⟩ | ⟨h133, g134⟩
  ·
   refine Ql rfl g134 ?_
   refine Qy ?_
   refine wv (vf Qaj rfl Qf) ?_
   let K5 : List Value := [iV ((gt E36.Active k95).Query.Id), iV ((gt E36.Active k95).Query.Tenant), .slice A116 ((gt E36.Active k95).Query.Conds).length c117, .slice A120 ((gt E36.Active k95).Query.Out).length c121, iV ((gt E36.Active k95).Time), .slice A124 ((gt E36.Active k95).Todo).length c125, iV (IntKind.i64.wrap (((gt E36.Active k95).Age) + 1)), iV 0, iV ((gt E36.Active k95).Cap), .slice A128 ((gt E36.Active k95).Rows).length c129]
   refine Qgz (p := p132) (o := 7) (cs' := K5) (fun w hm => hm.front (n := 0) rfl) Qf rfl (Nat.le_of_ble_eq_true rfl) rfl rfl rfl rfl (Qk rfl) ?_
   refine nt' (sr ?_)
   refine wv (vf Qaj rfl Qao) ?_
   refine wv (vl 0 5 Qq) ?_
   refine wv (Qag Qq) ?_
   refine wv (fun W hm => Qfe rfl rfl) ?_
   refine nt' ?_
   rcases dce ((((gt E36.Active k95).Todo).length : Nat) : Int) 0 with ⟨h135, g136⟩ | ⟨h135, g136⟩
   ·
    refine Ql rfl g136 ?_
    let I11 : It := iS Qa 3 A124 c125 ((gt E36.Active k95).Todo)
    let I12 : It := Qip Qah 61 (sA g110) E36.Active.length E36.Active k95 K3
    let J19 : List It := Qh p132 61 K5 :: I11 :: I12 :: iS Qah 61 A97 c98 d96 :: I10 :: iS Qa 3 A40 c41 E36.Order :: J17
    refine rd2 19 [18] (s := (Qh p132 61 K5 :: I11 :: I12 :: iS Qah 61 A97 c98 d96 :: I10 :: iS Qa 3 A40 c41 E36.Order :: iS Qaq 102 A49 c50 E36.Ledger :: is)) (s2 := J19) (pn 12 [0, 3, 5, 6, 7, 8, 10]) (pn 12 [0, 3, 5, 6, 7, 8, 10, 11]) ?_
    refine qtD 19 0 1 rfl vmv ?_
    refine qtD 19 1 3 rfl vmv ?_
    refine qtD 19 2 7 rfl (fun W hm => Qee rfl) ?_
    refine qtD 19 3 15 rfl (vf Qz rfl Qek) ?_
    refine qtD 19 4 31 rfl (vl 7 5 Qch) ?_
    refine qtD 19 5 63 rfl (vf Qaj rfl Qbj) ?_
    refine qtD 19 6 127 rfl (fun W hm => Qad (cs := [iV ((gt E36.Active k95).Query.Id), iV ((gt E36.Active k95).Query.Tenant), .slice A116 ((gt E36.Active k95).Query.Conds).length c117, .slice A120 ((gt E36.Active k95).Query.Out).length c121]) Qbq Qbj rfl rfl (hm.boxPart (n := 0) rfl rfl)) ?_
    refine qtD 19 7 255 rfl (vf Qaj rfl Qf) ?_
    refine qtD 19 8 511 rfl (vl 0 4 Qs) ?_
    refine qtD 19 9 1023 rfl (vf Qaj rfl Qf) ?_
    refine qtD 19 10 2047 rfl (vl 0 6 Qs) ?_
    refine qtD 19 11 4095 rfl (vf Qaj rfl Qdt) ?_
    refine qtD 19 12 8191 rfl (vl 0 9 Qci) ?_
    let K6 : List Value := [iV ((gt E36.Active k95).Query.Id), iV ((gt E36.Active k95).Query.Tenant), .slice A116 ((gt E36.Active k95).Query.Conds).length c117, .slice A120 ((gt E36.Active k95).Query.Out).length c121, iV ((gt E36.Active k95).Time), iV (IntKind.i64.wrap (((gt E36.Active k95).Age) + 1)), .slice A128 ((gt E36.Active k95).Rows).length c129]
    refine qtD 19 13 16383 rfl (fun W hm => Qef (cs := K6) rfl (by kernel_rfl)) ?_
    refine qoD 19 14 32767 rfl ?_
    refine Qde (cs := K6) Qch Qcq rfl (by decide) (by decide) rfl (by kernel_rfl) (Qk rfl) (by decide) (fun p137 => ?_)
    refine qnD (pn 13 [1, 4, 6, 7, 8, 9, 11]) (pn 13 [1, 4, 6, 7, 8, 9, 11, 12]) ?_
    refine qoD 19 15 65535 rfl ?_
    refine Qpt (E := Qas) (e := 80) (v := .slice A101 d100.length c102) (p := p137) (q := 1) (xs := d100) (ys := [(⟨(gt E36.Active k95).Query, (gt E36.Active k95).Time, (IntKind.i64.wrap (((gt E36.Active k95).Age) + 1)), (gt E36.Active k95).Rows⟩ : Qav)]) (eis := [iS Qbl 180 A116 c117 ((gt E36.Active k95).Query.Conds), iS Qa 3 A120 c121 ((gt E36.Active k95).Query.Out), iS Qap 70 A128 c129 ((gt E36.Active k95).Rows)]) (js := J19) (news := K6) (pn 13 [0, 10, 2, 3, 5, 1, 4, 6, 7, 8, 9, 11, 12]) (fun _ _ hs => Els.single (Qly (x := (⟨(gt E36.Active k95).Query, (gt E36.Active k95).Time, (IntKind.i64.wrap (((gt E36.Active k95).Age) + 1)), (gt E36.Active k95).Rows⟩ : Qav)) hs)) Qch Qcq rfl rfl rfl (Nat.le_of_ble_eq_true rfl) rfl rfl rfl (show (d100.length + 1) * 104 ≤ 140737488355328 from by omega) (show d100.length + 1 ≤ 9223372036854775807 from by omega) (Qk rfl) (by decide) (fun v138 => ?_)
    refine fm 0 ?_
    rintro A139 c140 rfl m141
    refine qnD (pn 9 [1, 2, 3, 4, 5, 6, 7]) (pn 9 [1, 2, 3, 4, 5, 6, 7, 8]) ?_
    refine qtP 19 16 131071 rfl (fun W => Qee rfl) ?_
    refine qtD 19 17 262143 rfl (vf Qz rfl Qek) ?_
    refine qoD 19 18 524287 rfl ?_
    refine Qgz (p := p) (o := 5) (cs' := [.slice A37 E36.Store.Segments.length c38, iV E36.Store.Now, iV E36.Cursor, .slice A40 E36.Order.length c41, .slice (sA g110) E36.Active.length c44, .slice A139 (d100 ++ [(⟨(gt E36.Active k95).Query, (gt E36.Active k95).Time, (IntKind.i64.wrap (((gt E36.Active k95).Age) + 1)), (gt E36.Active k95).Rows⟩ : Qav)]).length c140, .slice A49 E36.Ledger.length c50, iV E36.Steps]) (fun w hm => hm.front (n := 8) rfl) Qek rfl (Nat.le_of_ble_eq_true rfl) rfl rfl rfl rfl (Qk rfl) ?_
    refine qxD (pn 9 [2, 3, 4, 5, 6, 7, 8]) ?_
    refine Qed (by kernel_rfl) ?_
    refine Qam (Qd (Qy (wm ?_)))
    refine wv (Qal k95 1 (by omega)) ?_
    refine wa (Qac ?_)
    refine Qdd (fun W hm => Mem.restNext (hm.front (n := 4) rfl)) ?_
    exact Qan (k95 + 1, (d96, (d100 ++ [(⟨(gt E36.Active k95).Query, (gt E36.Active k95).Time, (IntKind.i64.wrap (((gt E36.Active k95).Age) + 1)), (gt E36.Active k95).Rows⟩ : Qav)])), (A97, c98, A139, c140)) sl4 (pn 9 [0, 5, 6, 7, 2, 8, 1]) ⟨(by omega), nx hF104 (Qb g134 (Qb g136 (rfl))), (show d96.length ≤ 0 + (k95 + 1) from by first | omega | (simp only [List.length_append, List.length_cons, List.length_nil] at *; omega)), (show (d100 ++ [(⟨(gt E36.Active k95).Query, (gt E36.Active k95).Time, (IntKind.i64.wrap (((gt E36.Active k95).Age) + 1)), (gt E36.Active k95).Rows⟩ : Qav)]).length ≤ E36.Done.length + (k95 + 1) from by first | omega | (simp only [List.length_append, List.length_cons, List.length_nil] at *; omega))⟩ rl
   refine Qm rfl g136 ?_
   refine Qy (wm ?_)
   refine wv (fun W hm => Qad (cs := K5) Qaj Qbe rfl rfl (hm.boxCells (n := 0) rfl)) ?_
   refine Qde (cs := K5) Qax Qbe rfl (by decide) (by decide) rfl (by kernel_rfl) (Qk rfl) (by decide) (fun p144 => ?_)
   refine Qpt (E := Qah) (e := 61) (v := .slice A97 d96.length c98) (p := p144) (q := 1) (xs := d96) (ys := [(⟨(gt E36.Active k95).Query, (gt E36.Active k95).Time, (gt E36.Active k95).Todo, (IntKind.i64.wrap (((gt E36.Active k95).Age) + 1)), 0, (gt E36.Active k95).Cap, (gt E36.Active k95).Rows⟩ : Qw)]) (eis := [iS Qbl 180 A116 c117 ((gt E36.Active k95).Query.Conds), iS Qa 3 A120 c121 ((gt E36.Active k95).Query.Out), iS Qa 3 A124 c125 ((gt E36.Active k95).Todo), iS Qap 70 A128 c129 ((gt E36.Active k95).Rows)]) (js := (Qh p132 61 K5 :: Qip Qah 61 (sA g110) E36.Active.length E36.Active k95 K3 :: J18)) (news := K5) (pn 13 [0, 7, 2, 3, 4, 5, 1, 6, 8, 9, 10, 11, 12]) (fun _ _ hs => Els.single (Qho (x := (⟨(gt E36.Active k95).Query, (gt E36.Active k95).Time, (gt E36.Active k95).Todo, (IntKind.i64.wrap (((gt E36.Active k95).Age) + 1)), 0, (gt E36.Active k95).Cap, (gt E36.Active k95).Rows⟩ : Qw)) hs)) Qax Qbe rfl rfl rfl (Nat.le_of_ble_eq_true rfl) rfl rfl rfl (show (d96.length + 1) * 144 ≤ 140737488355328 from by omega) (show d96.length + 1 ≤ 9223372036854775807 from by omega) (Qk rfl) (by decide) (fun v145 => ?_)
   refine fm 0 ?_
   rintro A146 c147 rfl m148
   refine wa (Qac (Qam (Qd (Qy (wm ?_)))))
   refine wv (Qal k95 1 (by omega)) ?_
   refine wa (Qac ?_)
   refine Qdd (fun W hm => Mem.restNext (hm.front (n := 2) rfl)) ?_
   exact Qan (k95 + 1, ((Qvo E36 k95 d96), d100), (A146, c147, A101, c102)) sl4 (pn 8 [0, 1, 3, 4, 5, 6, 7]) ⟨(by omega), nx hF104 (Qb g134 (Qc g136 (rfl))), (show (Qvo E36 k95 d96).length ≤ 0 + (k95 + 1) from by first | omega | (simp only [List.length_append, List.length_cons, List.length_nil] at *; omega)), (show d100.length ≤ E36.Done.length + (k95 + 1) from by first | omega | (simp only [List.length_append, List.length_cons, List.length_nil] at *; omega))⟩ rl
  refine Qm rfl g134 ?_
  refine Qp (Qd (sr ?_))
  refine wv (vf Qaj rfl Qao) ?_
  refine wv (vl 0 5 Qq) ?_
  refine wv (Qag Qq) ?_
  refine wv (fun W hm => Qfe rfl rfl) ?_
  refine nt' ?_
  rcases dce ((((gt E36.Active k95).Todo).length : Nat) : Int) 0 with ⟨h151, g152⟩ | ⟨h151, g152⟩
  ·
   refine Ql rfl g152 ?_
   let I13 : It := iS Qa 3 A124 c125 ((gt E36.Active k95).Todo)
   let I14 : It := Qip Qah 61 (sA g110) E36.Active.length E36.Active k95 K3
   let J20 : List It := Qh p132 61 K4 :: I13 :: I14 :: iS Qah 61 A97 c98 d96 :: I10 :: iS Qa 3 A40 c41 E36.Order :: J17
   refine rd2 19 [18] (s := (Qh p132 61 K4 :: I13 :: I14 :: iS Qah 61 A97 c98 d96 :: I10 :: iS Qa 3 A40 c41 E36.Order :: iS Qaq 102 A49 c50 E36.Ledger :: is)) (s2 := J20) (pn 12 [0, 3, 5, 6, 7, 8, 10]) (pn 12 [0, 3, 5, 6, 7, 8, 10, 11]) ?_
   refine qtD 19 0 1 rfl vmv ?_
   refine qtD 19 1 3 rfl vmv ?_
   refine qtD 19 2 7 rfl (fun W hm => Qee rfl) ?_
   refine qtD 19 3 15 rfl (vf Qz rfl Qek) ?_
   refine qtD 19 4 31 rfl (vl 7 5 Qch) ?_
   refine qtD 19 5 63 rfl (vf Qaj rfl Qbj) ?_
   refine qtD 19 6 127 rfl (fun W hm => Qad (cs := [iV ((gt E36.Active k95).Query.Id), iV ((gt E36.Active k95).Query.Tenant), .slice A116 ((gt E36.Active k95).Query.Conds).length c117, .slice A120 ((gt E36.Active k95).Query.Out).length c121]) Qbq Qbj rfl rfl (hm.boxPart (n := 0) rfl rfl)) ?_
   refine qtD 19 7 255 rfl (vf Qaj rfl Qf) ?_
   refine qtD 19 8 511 rfl (vl 0 4 Qs) ?_
   refine qtD 19 9 1023 rfl (vf Qaj rfl Qf) ?_
   refine qtD 19 10 2047 rfl (vl 0 6 Qs) ?_
   refine qtD 19 11 4095 rfl (vf Qaj rfl Qdt) ?_
   refine qtD 19 12 8191 rfl (vl 0 9 Qci) ?_
   let K7 : List Value := [iV ((gt E36.Active k95).Query.Id), iV ((gt E36.Active k95).Query.Tenant), .slice A116 ((gt E36.Active k95).Query.Conds).length c117, .slice A120 ((gt E36.Active k95).Query.Out).length c121, iV ((gt E36.Active k95).Time), iV (IntKind.i64.wrap (((gt E36.Active k95).Age) + 1)), .slice A128 ((gt E36.Active k95).Rows).length c129]
   refine qtD 19 13 16383 rfl (fun W hm => Qef (cs := K7) rfl (by kernel_rfl)) ?_
   refine qoD 19 14 32767 rfl ?_
   refine Qde (cs := K7) Qch Qcq rfl (by decide) (by decide) rfl (by kernel_rfl) (Qk rfl) (by decide) (fun p153 => ?_)
   refine qnD (pn 13 [1, 4, 6, 7, 8, 9, 11]) (pn 13 [1, 4, 6, 7, 8, 9, 11, 12]) ?_
   refine qoD 19 15 65535 rfl ?_
   refine Qpt (E := Qas) (e := 80) (v := .slice A101 d100.length c102) (p := p153) (q := 1) (xs := d100) (ys := [(⟨(gt E36.Active k95).Query, (gt E36.Active k95).Time, (IntKind.i64.wrap (((gt E36.Active k95).Age) + 1)), (gt E36.Active k95).Rows⟩ : Qav)]) (eis := [iS Qbl 180 A116 c117 ((gt E36.Active k95).Query.Conds), iS Qa 3 A120 c121 ((gt E36.Active k95).Query.Out), iS Qap 70 A128 c129 ((gt E36.Active k95).Rows)]) (js := J20) (news := K7) (pn 13 [0, 10, 2, 3, 5, 1, 4, 6, 7, 8, 9, 11, 12]) (fun _ _ hs => Els.single (Qly (x := (⟨(gt E36.Active k95).Query, (gt E36.Active k95).Time, (IntKind.i64.wrap (((gt E36.Active k95).Age) + 1)), (gt E36.Active k95).Rows⟩ : Qav)) hs)) Qch Qcq rfl rfl rfl (Nat.le_of_ble_eq_true rfl) rfl rfl rfl (show (d100.length + 1) * 104 ≤ 140737488355328 from by omega) (show d100.length + 1 ≤ 9223372036854775807 from by omega) (Qk rfl) (by decide) (fun v154 => ?_)
   refine fm 0 ?_
   rintro A155 c156 rfl m157
   refine qnD (pn 9 [1, 2, 3, 4, 5, 6, 7]) (pn 9 [1, 2, 3, 4, 5, 6, 7, 8]) ?_
   refine qtP 19 16 131071 rfl (fun W => Qee rfl) ?_
   refine qtD 19 17 262143 rfl (vf Qz rfl Qek) ?_
   refine qoD 19 18 524287 rfl ?_
   refine Qgz (p := p) (o := 5) (cs' := [.slice A37 E36.Store.Segments.length c38, iV E36.Store.Now, iV E36.Cursor, .slice A40 E36.Order.length c41, .slice (sA g110) E36.Active.length c44, .slice A155 (d100 ++ [(⟨(gt E36.Active k95).Query, (gt E36.Active k95).Time, (IntKind.i64.wrap (((gt E36.Active k95).Age) + 1)), (gt E36.Active k95).Rows⟩ : Qav)]).length c156, .slice A49 E36.Ledger.length c50, iV E36.Steps]) (fun w hm => hm.front (n := 8) rfl) Qek rfl (Nat.le_of_ble_eq_true rfl) rfl rfl rfl rfl (Qk rfl) ?_
   refine qxD (pn 9 [2, 3, 4, 5, 6, 7, 8]) ?_
   refine Qed (by kernel_rfl) ?_
   refine Qam (Qd (Qy (wm ?_)))
   refine wv (Qal k95 1 (by omega)) ?_
   refine wa (Qac ?_)
   refine Qdd (fun W hm => Mem.restNext (hm.front (n := 4) rfl)) ?_
   exact Qan (k95 + 1, (d96, (d100 ++ [(⟨(gt E36.Active k95).Query, (gt E36.Active k95).Time, (IntKind.i64.wrap (((gt E36.Active k95).Age) + 1)), (gt E36.Active k95).Rows⟩ : Qav)])), (A97, c98, A155, c156)) sl4 (pn 9 [0, 5, 6, 7, 2, 8, 1]) ⟨(by omega), nx hF104 (Qc g134 (Qb g152 (rfl))), (show d96.length ≤ 0 + (k95 + 1) from by first | omega | (simp only [List.length_append, List.length_cons, List.length_nil] at *; omega)), (show (d100 ++ [(⟨(gt E36.Active k95).Query, (gt E36.Active k95).Time, (IntKind.i64.wrap (((gt E36.Active k95).Age) + 1)), (gt E36.Active k95).Rows⟩ : Qav)]).length ≤ E36.Done.length + (k95 + 1) from by first | omega | (simp only [List.length_append, List.length_cons, List.length_nil] at *; omega))⟩ rl
  refine Qm rfl g152 ?_
  refine Qy (wm ?_)
  refine wv (fun W hm => Qad (cs := K4) Qaj Qbe rfl rfl (hm.boxCells (n := 0) rfl)) ?_
  refine Qde (cs := K4) Qax Qbe rfl (by decide) (by decide) rfl (by kernel_rfl) (Qk rfl) (by decide) (fun p160 => ?_)
  refine Qpt (E := Qah) (e := 61) (v := .slice A97 d96.length c98) (p := p160) (q := 1) (xs := d96) (ys := [(⟨(gt E36.Active k95).Query, (gt E36.Active k95).Time, (gt E36.Active k95).Todo, (IntKind.i64.wrap (((gt E36.Active k95).Age) + 1)), (gt E36.Active k95).Sent, (gt E36.Active k95).Cap, (gt E36.Active k95).Rows⟩ : Qw)]) (eis := [iS Qbl 180 A116 c117 ((gt E36.Active k95).Query.Conds), iS Qa 3 A120 c121 ((gt E36.Active k95).Query.Out), iS Qa 3 A124 c125 ((gt E36.Active k95).Todo), iS Qap 70 A128 c129 ((gt E36.Active k95).Rows)]) (js := (Qh p132 61 K4 :: Qip Qah 61 (sA g110) E36.Active.length E36.Active k95 K3 :: J18)) (news := K4) (pn 13 [0, 7, 2, 3, 4, 5, 1, 6, 8, 9, 10, 11, 12]) (fun _ _ hs => Els.single (Qho (x := (⟨(gt E36.Active k95).Query, (gt E36.Active k95).Time, (gt E36.Active k95).Todo, (IntKind.i64.wrap (((gt E36.Active k95).Age) + 1)), (gt E36.Active k95).Sent, (gt E36.Active k95).Cap, (gt E36.Active k95).Rows⟩ : Qw)) hs)) Qax Qbe rfl rfl rfl (Nat.le_of_ble_eq_true rfl) rfl rfl rfl (show (d96.length + 1) * 144 ≤ 140737488355328 from by omega) (show d96.length + 1 ≤ 9223372036854775807 from by omega) (Qk rfl) (by decide) (fun v161 => ?_)
  refine fm 0 ?_
  rintro A162 c163 rfl m164
  refine wa (Qac (Qam (Qd (Qy (wm ?_)))))
  refine wv (Qal k95 1 (by omega)) ?_
  refine wa (Qac ?_)
  refine Qdd (fun W hm => Mem.restNext (hm.front (n := 2) rfl)) ?_
  exact Qan (k95 + 1, ((Qvp E36 k95 d96), d100), (A162, c163, A101, c102)) sl4 (pn 8 [0, 1, 3, 4, 5, 6, 7]) ⟨(by omega), nx hF104 (Qc g134 (Qc g152 (rfl))), (show (Qvp E36 k95 d96).length ≤ 0 + (k95 + 1) from by first | omega | (simp only [List.length_append, List.length_cons, List.length_nil] at *; omega)), (show d100.length ≤ E36.Done.length + (k95 + 1) from by first | omega | (simp only [List.length_append, List.length_cons, List.length_nil] at *; omega))⟩ rl
 refine Qm rfl g109 ?_
 refine Qay (Qu (Qu ?_))
 have hE167 := Qbh hl108 hF104
 refine Qaz (Qd (sr (wm (wm ?_))))
 refine wv (fun W hm => Qee rfl) ?_
 refine wv (vf Qz rfl Qcw) ?_
 refine Qgz (p := p) (o := 4) (cs' := [.slice A37 E36.Store.Segments.length c38, iV E36.Store.Now, iV E36.Cursor, .slice A40 E36.Order.length c41, .slice A97 d96.length c98, .slice A101 d100.length c102, .slice A49 E36.Ledger.length c50, iV E36.Steps]) (fun w hm => hm.front (n := 6) rfl) Qcw rfl (Nat.le_of_ble_eq_true rfl) rfl rfl rfl rfl (Qk rfl) ?_
 refine nt' (sr (wm (wm ?_)))
 refine wv (fun W hm => Qee rfl) ?_
 refine wv (vf Qz rfl Qf) ?_
 refine wv (vl 0 2 Qs) ?_
 refine wv Qcy ?_
 refine wm ?_
 refine wv (fun W hm => Qvd rfl rfl (by omega)) ?_
 refine wv (fun W hm => Qee rfl) ?_
 refine wv (vf Qz rfl Qf) ?_
 refine Qgz (p := p) (o := 2) (cs' := [.slice A37 E36.Store.Segments.length c38, iV E36.Store.Now, iV (Int.tmod (IntKind.i64.wrap (E36.Cursor + 1)) ((E36.Store.Segments.length : Nat) : Int)), .slice A40 E36.Order.length c41, .slice A97 d96.length c98, .slice A101 d100.length c102, .slice A49 E36.Ledger.length c50, iV E36.Steps]) (fun w hm => hm.front (n := 0) rfl) Qf rfl (Nat.le_of_ble_eq_true rfl) rfl rfl rfl rfl (Qk rfl) ?_
 refine nt' (sr (wm (wm ?_)))
 refine wv (fun W hm => Qee rfl) ?_
 refine wv (vf Qz rfl Qf) ?_
 refine wv (vl 0 7 Qs) ?_
 refine wv Qcy ?_
 refine wv (fun W hm => Qee rfl) ?_
 refine wv (vf Qz rfl Qf) ?_
 let K8 : List Value := [.slice A37 E36.Store.Segments.length c38, iV E36.Store.Now, iV (Int.tmod (IntKind.i64.wrap (E36.Cursor + 1)) ((E36.Store.Segments.length : Nat) : Int)), .slice A40 E36.Order.length c41, .slice A97 d96.length c98, .slice A101 d100.length c102, .slice A49 E36.Ledger.length c50, iV (IntKind.i64.wrap (E36.Steps + 1))]
 refine Qgz (p := p) (o := 7) (cs' := K8) (fun w hm => hm.front (n := 0) rfl) Qf rfl (Nat.le_of_ble_eq_true rfl) rfl rfl rfl rfl (Qk rfl) ?_
 refine nt' (Qy (wm ?_))
 let I15 : It := Qhi Qah 61 A43 E36.Active.length E36.Active k95
 refine Qkj (js := (Qn Qcb K8 (⟨E36.Store, (Int.tmod (IntKind.i64.wrap (E36.Cursor + 1)) ((E36.Store.Segments.length : Nat) : Int)), E36.Order, d96, d100, E36.Ledger, (IntKind.i64.wrap (E36.Steps + 1))⟩ : Qo) :: (Qh p 39 K8 :: I15 :: is))) (fun W hm => Mem.join (is := [I10, iS Qa 3 A40 c41 E36.Order, iS Qah 61 A97 c98 d96, iS Qas 80 A101 c102 d100, iS Qaq 102 A49 c50 E36.Ledger]) (js := (Qh p 39 K8 :: I15 :: is)) (fun _ _ hs => Qfk (x := (⟨E36.Store, (Int.tmod (IntKind.i64.wrap (E36.Cursor + 1)) ((E36.Store.Segments.length : Nat) : Int)), E36.Order, d96, d100, E36.Ledger, (IntKind.i64.wrap (E36.Steps + 1))⟩ : Qo)) hs) (hm.pickN 7 [3, 4, 2, 5, 6, 0, 1] (by decide))) ?_
 refine Qpu (χ := List Value) (val := fun x => .tuple #[]) (js := fun x => (Qh p 39 x :: Qn Qcb x (Qld (⟨E36.Store, (Int.tmod (IntKind.i64.wrap (E36.Cursor + 1)) ((E36.Store.Segments.length : Nat) : Int)), E36.Order, d96, d100, E36.Ledger, (IntKind.i64.wrap (E36.Steps + 1))⟩ : Qo)) :: (I15 :: is))) (Qr Qane rfl) (fun W hm => Qbcn B w0 (I15 :: is) W p _ (⟨E36.Store, (Int.tmod (IntKind.i64.wrap (E36.Cursor + 1)) ((E36.Store.Segments.length : Nat) : Int)), E36.Order, d96, d100, E36.Ledger, (IntKind.i64.wrap (E36.Steps + 1))⟩ : Qo) ⟨(by rw [hS1]; exact s_0.1), (show d96.length ≤ 68719476736 from by omega)⟩ ((hm.front (n := 0) rfl).front (n := 1) rfl)) (Qk rfl) (by decide) (fun z168 => ?_)
 obtain ⟨G169, hG169⟩ : ∃ G, G = (Qld (⟨E36.Store, (Int.tmod (IntKind.i64.wrap (E36.Cursor + 1)) ((E36.Store.Segments.length : Nat) : Int)), E36.Order, d96, d100, E36.Ledger, (IntKind.i64.wrap (E36.Steps + 1))⟩ : Qo)) := ⟨_, rfl⟩
 rw [← hG169]
 refine Qkj (js := (Qn Qcb z168 G169 :: Qh p 39 z168 :: I15 :: is)) (fun W hm => (hm.front (n := 1) rfl)) ?_
 refine Qhf ?_
 rintro ⟨v170, v171, v172, v173, v174⟩ rfl
 refine fm 0 ?_
 rintro A175 c176 rfl m177
 refine fm 1 ?_
 rintro A179 c180 rfl m181
 refine fm 2 ?_
 rintro A183 c184 rfl m185
 refine fm 3 ?_
 rintro A187 c188 rfl m189
 refine fm 4 ?_
 rintro A191 c192 rfl m193
 refine Qac ?_
 let K9 : List Value := [.slice A175 G169.Store.Segments.length c176, iV G169.Store.Now, iV G169.Cursor, .slice A179 G169.Order.length c180, .slice A183 G169.Active.length c184, .slice A187 G169.Done.length c188, .slice A191 G169.Ledger.length c192, iV G169.Steps]
 refine Qdd (js := (Qn Qcb K9 G169 :: (Qh p 39 K9 :: I15 :: is))) (fun W hm => Mem.join (is := [iS (tSl Qaf 163) 100 A175 c176 G169.Store.Segments, iS Qa 3 A179 c180 G169.Order, iS Qah 61 A183 c184 G169.Active, iS Qas 80 A187 c188 G169.Done, iS Qaq 102 A191 c192 G169.Ledger]) (js := (Qh p 39 K9 :: I15 :: is)) (fun _ _ hs => Qfk (x := G169) hs) (hm.pickN 7 [0, 1, 2, 3, 4, 5, 6] (by decide))) ?_
 have he195 := (show Qgb x0 = G169 from by subst hG169; exact Qar hE82 (Qar hE167 (rfl)))
 refine Qwu rfl (fun W hm => ⟨K9, ?_, ?_⟩)
 ·rfl
 rw [he195]; exact (((hm.front (n := 0) rfl).front (n := 1) rfl).front (n := 2) rfl).tail

def Qex (x0 : Qo) : (Qo × Bool) :=
 cond (Qhv x0) (cond (decide (100000 ≤ x0.Steps)) (x0, false) (cond (decide (1000 ≤ ((x0.Ledger.length : Nat) : Int))) (x0, false) (cond (decide (1000 < ((x0.Done.length + x0.Active.length : Nat) : Int))) (x0, false) ((Qgb x0), true)))) (x0, false)
theorem cb10 : Cb Tryz.prog 10 := ⟨f10, _, func10, rfl, by decide⟩
theorem Qbbg (w : World) (z0 : List Value) (x0 : Qo) (r_0 : Qcb.rd w w.heap.size z0 x0) (s_0 : Qen 68719476736 x0) :
  Calls Tryz.prog 10 #[.agg z0.toArray] w fun e w' => ∃ v : List Value, e = .returned (.tuple #[.agg v.toArray, .bool ((Qex x0).2)]) ∧ Mem w.heap.size w [Qn Qcb v (Qex x0).1] w' := by
 obtain ⟨v1, v3, v5, v7, v9, rfl, r2, r4, r6, r8, r10⟩ := Qia r_0
 obtain ⟨m11, A12, c13, rfl, q14, r15⟩ := Qi r2
 obtain ⟨m16, A17, c18, rfl, q19, r20⟩ := Qi r4
 obtain ⟨m21, A22, c23, rfl, q24, r25⟩ := Qi r6
 obtain ⟨m26, A27, c28, rfl, q29, r30⟩ := Qi r8
 obtain ⟨m31, A32, c33, rfl, q34, r35⟩ := Qi r10
 have l36 : x0.Store.Segments.length ≤ 68719476736 := s_0.1.1
 have l37 := s_0.2.1
 have l38 := s_0.2.2.1.1
 have l39 := s_0.2.2.2.1.1
 have l40 := s_0.2.2.2.2.1
 refine ce1 (L := [(0, .agg #[.slice A12 x0.Store.Segments.length c13, iV x0.Store.Now, iV x0.Cursor, .slice A17 x0.Order.length c18, .slice A22 x0.Active.length c23, .slice A27 x0.Done.length c28, .slice A32 x0.Ledger.length c33, iV x0.Steps])]) (N := 34) func10 ?_
 refine sr ?_
 refine Qbn rfl (Qk rfl) (by decide) (fun p41 => ?_)
 refine Qbm Qbd rfl (Qk rfl) (by decide) (fun p42 => ?_)
 refine wa (nt' (sr ?_))
 let K1 : List Value := [.slice A12 x0.Store.Segments.length c13, iV x0.Store.Now, iV x0.Cursor, .slice A17 x0.Order.length c18, .slice A22 x0.Active.length c23, .slice A27 x0.Done.length c28, .slice A32 x0.Ledger.length c33, iV x0.Steps]
 refine wv (fun W hm => Qad (cs := K1) Qz Qbd rfl rfl (hm.boxCells (n := 1) rfl)) ?_
 refine wcs Qcb x0 (Qr cb61 rfl) (fun W hm => Qaij W _ x0 (Qep (x := x0) (hm.rdS0 r15) (hm.rdS0 r20) (hm.rdS0 r25) (hm.rdS0 r30) (hm.rdS0 r35)) s_0) (fun z43 => ?_)
 refine Qhf ?_
 rintro ⟨v44, v45, v46, v47, v48⟩ rfl
 refine fm 0 ?_
 rintro A49 c50 rfl m51
 refine fm 1 ?_
 rintro A53 c54 rfl m55
 refine fm 2 ?_
 rintro A57 c58 rfl m59
 refine fm 3 ?_
 rintro A61 c62 rfl m63
 refine fm 4 ?_
 rintro A65 c66 rfl m67
 refine Qbm Qbd rfl (Qk rfl) (by decide) (fun p69 => ?_)
 let K2 : List Value := [.slice A49 x0.Store.Segments.length c50, iV x0.Store.Now, iV x0.Cursor, .slice A53 x0.Order.length c54, .slice A57 x0.Active.length c58, .slice A61 x0.Done.length c62, .slice A65 x0.Ledger.length c66, iV x0.Steps]
 let K3 : List Value := [.slice none 0 0, iV 0, iV 0, .slice none 0 0, .slice none 0 0, .slice none 0 0, .slice none 0 0, iV 0]
 let I5 : It := iS (tSl Qaf 163) 100 A49 c50 x0.Store.Segments
 let J10 : List It := [Qh p42 39 K3, Qh p41 39 K1]
 refine sb 0 K2 (I5 :: iS Qa 3 A53 c54 x0.Order :: iS Qah 61 A57 c58 x0.Active :: iS Qas 80 A61 c62 x0.Done :: iS Qaq 102 A65 c66 x0.Ledger :: J10) idM Qbd ?_
 refine nt' (Qe (sr ?_))
 refine wv (fun W hm => Qad (cs := K1) Qz Qbd rfl rfl (hm.boxCells (n := 7) rfl)) ?_
 refine wcv (Qr Qtu rfl) (fun W hm => Qvl W _ x0 (Qep (x := x0) (hm.rdS0 r15) (hm.rdS0 r20) (hm.rdS0 r25) (hm.rdS0 r30) (hm.rdS0 r35)) s_0) ?_
 refine wv Qbr ?_
 refine wm ?_
 rcases bd (Qhv x0) with g71 | g71
 ·
  have hE := (Qpq _).1 g71
  refine wg (vf Qz rfl Qf) (nt g71) ?_
  refine wg (vl 7 7 Qs) (nt g71) ?_
  refine wg (fun W hm => Qlu rfl rfl) (nt g71) ?_
  refine wv (vpF (nt g71)) ?_
  refine wm ?_
  rcases dcd (100000 ≤ x0.Steps) with ⟨h72, g73⟩ | ⟨h72, g73⟩
  ·
   iterate 15 first | refine ws g73 ?_ | refine wv (vpT g73) ?_ | refine wm ?_ | refine wk ?_ | refine wv (vpT rfl) ?_
   refine nt' ?_
   refine Ql rfl rfl ?_
   refine sr ?_
   refine wv (fun W hm => Qad (cs := K2) Qz Qbd rfl rfl (hm.boxCells (n := 0) rfl)) ?_
   refine sb 0 K2 [Qh p69 39 K2, I5, iS Qa 3 A53 c54 x0.Order, iS Qah 61 A57 c58 x0.Active, iS Qas 80 A61 c62 x0.Done, iS Qaq 102 A65 c66 x0.Ledger, Qh p41 39 K1] (pk [6, 0, 1, 2, 3, 4, 5, 7]) Qbd ?_
   refine wa (nt' (Qj (Qg ?_)))
   have he74 := (show Qex x0 = (x0, false) from Qb g71 (Qb g73 (rfl)))
   refine Qic rfl (Qdp (n := 0) rfl rfl Qz Qbd rfl) (Qdl rfl) (fun W hm => ⟨K2, ?_, ?_⟩)
   ·first | rw [he74] | rfl
    try rfl
   rw [he74]; exact Mem.join (is := [I5, iS Qa 3 A53 c54 x0.Order, iS Qah 61 A57 c58 x0.Active, iS Qas 80 A61 c62 x0.Done, iS Qaq 102 A65 c66 x0.Ledger]) (js := []) (fun _ _ hs => Qfk (x := x0) hs) (hm.pick [2, 3, 4, 5, 6] (by decide))
  refine wg (vf Qz rfl Qfg) g73 ?_
  refine wg (vl 7 6 Qcx) g73 ?_
  refine wg (Qag Qcx) g73 ?_
  refine wg (fun W hm => Qlu rfl rfl) g73 ?_
  refine wv (vpF g73) ?_
  refine wm ?_
  rcases dcd (1000 ≤ ((x0.Ledger.length : Nat) : Int)) with ⟨h75, g76⟩ | ⟨h75, g76⟩
  ·
   iterate 9 first | refine ws g76 ?_ | refine wv (vpT g76) ?_
   refine nt' ?_
   refine Ql rfl rfl ?_
   refine sr ?_
   refine wv (fun W hm => Qad (cs := K2) Qz Qbd rfl rfl (hm.boxCells (n := 0) rfl)) ?_
   refine sb 0 K2 [Qh p69 39 K2, I5, iS Qa 3 A53 c54 x0.Order, iS Qah 61 A57 c58 x0.Active, iS Qas 80 A61 c62 x0.Done, iS Qaq 102 A65 c66 x0.Ledger, Qh p41 39 K1] (pk [6, 0, 1, 2, 3, 4, 5, 7]) Qbd ?_
   refine wa (nt' (Qj (Qg ?_)))
   have he77 := (show Qex x0 = (x0, false) from Qb g71 (Qc g73 (Qb g76 (rfl))))
   refine Qic rfl (Qdp (n := 0) rfl rfl Qz Qbd rfl) (Qdl rfl) (fun W hm => ⟨K2, ?_, ?_⟩)
   ·first | rw [he77] | rfl
    try rfl
   rw [he77]; exact Mem.join (is := [I5, iS Qa 3 A53 c54 x0.Order, iS Qah 61 A57 c58 x0.Active, iS Qas 80 A61 c62 x0.Done, iS Qaq 102 A65 c66 x0.Ledger]) (js := []) (fun _ _ hs => Qfk (x := x0) hs) (hm.pick [2, 3, 4, 5, 6] (by decide))
  refine wg (vf Qz rfl Qek) g76 ?_
  refine wg (vl 7 5 Qch) g76 ?_
  refine wg (Qag Qch) g76 ?_
  refine wg (vf Qz rfl Qcw) g76 ?_
  refine wg (vl 7 4 Qax) g76 ?_
  refine wg (Qag Qax) g76 ?_
  refine wg (Qal x0.Done.length x0.Active.length (by omega)) g76 ?_
  refine wg (fun W hm => Qem rfl rfl) g76 ?_
  refine wv (vpF g76) ?_
  refine nt' ?_
  rcases dcd (1000 < ((x0.Done.length + x0.Active.length : Nat) : Int)) with ⟨h78, g79⟩ | ⟨h78, g79⟩
  ·
   refine Ql rfl g79 ?_
   refine sr ?_
   refine wv (fun W hm => Qad (cs := K2) Qz Qbd rfl rfl (hm.boxCells (n := 0) rfl)) ?_
   refine sb 0 K2 [Qh p69 39 K2, I5, iS Qa 3 A53 c54 x0.Order, iS Qah 61 A57 c58 x0.Active, iS Qas 80 A61 c62 x0.Done, iS Qaq 102 A65 c66 x0.Ledger, Qh p41 39 K1] (pk [6, 0, 1, 2, 3, 4, 5, 7]) Qbd ?_
   refine wa (nt' (Qj (Qg ?_)))
   have he80 := (show Qex x0 = (x0, false) from Qb g71 (Qc g73 (Qc g76 (Qb g79 (rfl)))))
   refine Qic rfl (Qdp (n := 0) rfl rfl Qz Qbd rfl) (Qdl rfl) (fun W hm => ⟨K2, ?_, ?_⟩)
   ·first | rw [he80] | rfl
    try rfl
   rw [he80]; exact Mem.join (is := [I5, iS Qa 3 A53 c54 x0.Order, iS Qah 61 A57 c58 x0.Active, iS Qas 80 A61 c62 x0.Done, iS Qaq 102 A65 c66 x0.Ledger]) (js := []) (fun _ _ hs => Qfk (x := x0) hs) (hm.pick [2, 3, 4, 5, 6] (by decide))
  refine Qm rfl g79 ?_
  refine Qp (Qd (sr ?_))
  refine Qkj (js := (Qn Qcb K2 x0 :: (Qh p69 39 K2 :: J10))) (fun W hm => Mem.join (is := [I5, iS Qa 3 A53 c54 x0.Order, iS Qah 61 A57 c58 x0.Active, iS Qas 80 A61 c62 x0.Done, iS Qaq 102 A65 c66 x0.Ledger]) (js := (Qh p69 39 K2 :: J10)) (fun _ _ hs => Qfk (x := x0) hs) (hm.pick [1, 2, 3, 4, 5, 0, 6, 7] (by decide))) ?_
  refine Qpu (χ := List Value) (val := fun x => .tuple #[]) (js := fun x => (Qh p69 39 x :: Qn Qcb x (Qgb x0) :: J10)) (Qr cb62 rfl) (fun W hm => Qbbl w.heap.size w J10 W p69 _ x0 s_0 (hE) (hm.pick [1, 0, 2, 3] (by decide))) (Qk rfl) (by decide) (fun z81 => ?_)
  refine Qkj (js := (Qn Qcb z81 (Qgb x0) :: Qh p69 39 z81 :: J10)) (pk [1, 0, 2, 3]) ?_
  refine Qhf ?_
  rintro ⟨v82, v83, v84, v85, v86⟩ rfl
  refine fm 0 ?_
  rintro A87 c88 rfl m89
  refine fm 1 ?_
  rintro A91 c92 rfl m93
  refine fm 2 ?_
  rintro A95 c96 rfl m97
  refine fm 3 ?_
  rintro A99 c100 rfl m101
  refine fm 4 ?_
  rintro A103 c104 rfl m105
  refine nt' (sr ?_)
  let K4 : List Value := [.slice A87 ((Qgb x0).Store.Segments).length c88, iV ((Qgb x0).Store.Now), iV ((Qgb x0).Cursor), .slice A91 ((Qgb x0).Order).length c92, .slice A95 ((Qgb x0).Active).length c96, .slice A99 ((Qgb x0).Done).length c100, .slice A103 ((Qgb x0).Ledger).length c104, iV ((Qgb x0).Steps)]
  refine wv (fun W hm => Qad (cs := K4) Qz Qbd rfl rfl (hm.boxCells (n := 5) rfl)) ?_
  let I6 : It := iS (tSl Qaf 163) 100 A87 c88 ((Qgb x0).Store.Segments)
  let I7 : It := iS Qah 61 A95 c96 ((Qgb x0).Active)
  let I8 : It := iS Qas 80 A99 c100 ((Qgb x0).Done)
  let I9 : It := iS Qaq 102 A103 c104 ((Qgb x0).Ledger)
  refine sb 0 K4 [I6, iS Qa 3 A91 c92 ((Qgb x0).Order), I7, I8, I9, Qh p69 39 K4, Qh p41 39 K1] (pk [6, 0, 1, 2, 3, 4, 5, 7]) Qbd ?_
  refine wa (nt' (Qj ?_))
  have he107 := (show Qex x0 = ((Qgb x0), true) from Qb g71 (Qc g73 (Qc g76 (Qc g79 (rfl)))))
  refine Qic rfl (Qdp (n := 0) rfl rfl Qz Qbd rfl) (Qdl rfl) (fun W hm => ⟨K4, ?_, ?_⟩)
  ·first | rw [he107] | rfl
   try rfl
  rw [he107]; exact Mem.join (is := [I6, iS Qa 3 A91 c92 ((Qgb x0).Order), I7, I8, I9]) (js := []) (fun _ _ hs => Qfk (x := (Qgb x0)) hs) (hm.pick [1, 2, 3, 4, 5] (by decide))
 refine ws (nf g71) ?_
 refine ws (nf g71) ?_
 refine ws (nf g71) ?_
 iterate 17 first | refine wv (vpT (nf g71)) ?_ | refine wm ?_ | refine wk ?_ | refine wv (vpT rfl) ?_
 refine nt' ?_
 refine Ql rfl rfl ?_
 refine sr ?_
 refine wv (fun W hm => Qad (cs := K2) Qz Qbd rfl rfl (hm.boxCells (n := 0) rfl)) ?_
 refine sb 0 K2 [Qh p69 39 K2, I5, iS Qa 3 A53 c54 x0.Order, iS Qah 61 A57 c58 x0.Active, iS Qas 80 A61 c62 x0.Done, iS Qaq 102 A65 c66 x0.Ledger, Qh p41 39 K1] (pk [6, 0, 1, 2, 3, 4, 5, 7]) Qbd ?_
 refine wa (nt' (Qj (Qg ?_)))
 have he108 := (show Qex x0 = (x0, false) from Qc g71 (rfl))
 refine Qic rfl (Qdp (n := 0) rfl rfl Qz Qbd rfl) (Qdl rfl) (fun W hm => ⟨K2, ?_, ?_⟩)
 ·first | rw [he108] | rfl
  try rfl
 rw [he108]; exact Mem.join (is := [I5, iS Qa 3 A53 c54 x0.Order, iS Qah 61 A57 c58 x0.Active, iS Qas 80 A61 c62 x0.Done, iS Qaq 102 A65 c66 x0.Ledger]) (js := []) (fun _ _ hs => Qfk (x := x0) hs) (hm.pick [2, 3, 4, 5, 6] (by decide))

def Qfi (x : List Int) (v : Qt) : Bool := x.any (fun t => Qge v t) || v.Died == -1
theorem Qaew {α : Type} (p : α → Bool) : ∀ (xs : List α) (s : Bool), xs.foldl (fun s t => cond s true (p t)) s = (s || xs.any p)
  | [], s => by simp
  | x :: xs, s => by
    rw [List.foldl_cons, Qaew p xs]
    cases s <;> simp
def Qdx (s : Int) (n : Nat) : Int := IntKind.i64.wrap (s + n)
theorem Qnk (s : Int) (m n : Nat) : Qdx (Qdx s m) n = Qdx s (m + n) := by
  unfold Qdx
  simp only [IntKind.wrap_i64]
  omega
theorem Qaay (x : List Int) : ∀ (l : List Qt) (s : Int) (e : List Qt), l.foldl (fun (s : Int × List Qt) v => cond (Qfi x v) (s.1, s.2 ++ [v]) (IntKind.i64.wrap (s.1 + 1), s.2)) (Qdx s 0, e) = (Qdx s (l.length - (l.filter (Qfi x)).length), e ++ l.filter (Qfi x))
  | [], s, e => by simp
  | v :: l, s, e => by
    rw [List.foldl_cons]
    have hl := List.length_filter_le (Qfi x) l
    cases h : Qfi x v with
    | true =>
      rw [cond_true, Qaay x l s (e ++ [v])]
      simp [h]
    | false =>
      have e1 : (IntKind.i64.wrap (Qdx s 0 + 1)) = Qdx (Qdx s 1) 0 := by
        unfold Qdx
        simp only [IntKind.wrap_i64]
        omega
      rw [cond_false]
      dsimp only
      rw [e1, Qaay x l (Qdx s 1) e, Qnk]
      simp only [List.filter_cons, h, List.length_cons]
      congr 2
      simp only [Bool.false_eq_true, if_false]
      omega
theorem Qbbd (x : List Int) (k : Nat) (s : Int) (d : List (List Qt)) : Qsv x k (Qdx s 0) d = .inr (Qdx s ((gt d k).length - ((gt d k).filter (Qfi x)).length), d.set k ((gt d k).filter (Qfi x))) := by
  unfold Qsv
  rw [Qgv (xs := gt d k) (f := fun (s : Int × List Qt) v => cond (Qfi x v) (s.1, s.2 ++ [v]) (IntKind.i64.wrap (s.1 + 1), s.2)) (fun j s _ => by
    unfold Qaaw
    rw [Qgv (xs := x) (f := fun s t => cond s true (Qge (gt (gt d k) j) t)) (fun i s _ => by unfold Qaax; cases s <;> rfl), Qaew]
    have : ((gt (gt d k) j).Died == -1 || x.any fun t => Qge (gt (gt d k) j) t) = Qfi x (gt (gt d k) j) := by unfold Qfi; rw [Bool.or_comm]
    rw [this]
    show cond (Qfi x (gt (gt d k) j)) _ _ = _
    cases Qfi x (gt (gt d k) j) <;> rfl), Qaay]
  rfl
def Qfq (x : List Int) (d : List (List Qt)) : List (List Qt) := d.map fun l => l.filter (Qfi x)
theorem Qaag (x : List Int) : ∀ d : List (List Qt), ((Qfq x d).map List.length).sum ≤ (d.map List.length).sum ∧ ∀ s : Int, d.foldl (fun (s : Int) l => Qdx s (l.length - (l.filter (Qfi x)).length)) (Qdx s 0) = Qdx s ((d.map List.length).sum - ((Qfq x d).map List.length).sum)
  | [] => ⟨by simp [Qfq], fun s => rfl⟩
  | l :: d => by
    obtain ⟨h1, h2⟩ := Qaag x d
    have h3 := List.length_filter_le (Qfi x) l
    have e1 : ((Qfq x (l :: d)).map List.length).sum = (l.filter (Qfi x)).length + ((Qfq x d).map List.length).sum := by simp [Qfq]
    have e2 : ((l :: d).map List.length).sum = l.length + (d.map List.length).sum := by simp
    refine ⟨by omega, fun s => ?_⟩
    rw [List.foldl_cons]
    have e3 : Qdx (Qdx s 0) (l.length - (l.filter (Qfi x)).length) = Qdx (Qdx s (l.length - (l.filter (Qfi x)).length)) 0 := by
      rw [Qnk, Qnk, Nat.zero_add, Nat.add_zero]
    rw [e3, h2, Qnk]
    congr 1
    omega
theorem Qaii (x : Qau) (y : List Int) (h : Qji x = true) : Qga x y = (⟨Qfq y x.Segments, x.Now⟩, Qdx 0 ((x.Segments.map List.length).sum - ((Qfq y x.Segments).map List.length).sum)) := by
  unfold Qga
  rw [h, cond_true]
  have h0 : (0 : Int) = Qdx 0 0 := rfl
  rw [h0]
  have key : ∀ (m k : Nat) (s : Int), m + k = x.Segments.length → rng (R := Qau × Int) (fun k (s : Int × List (List Qt)) => Qsv y k s.1 s.2) m k (Qdx s 0, Qfq y (x.Segments.take k) ++ x.Segments.drop k) = .inr ((x.Segments.drop k).foldl (fun (s : Int) l => Qdx s (l.length - (l.filter (Qfi y)).length)) (Qdx s 0), Qfq y x.Segments) := by
    intro m
    induction m with
    | zero => intro k s hk; rw [rng, List.drop_of_length_le (by omega), List.take_of_length_le (by omega)]; simp
    | succ m ih =>
      intro k s hk
      have hlt : k < x.Segments.length := by omega
      have hd : x.Segments.drop k = gt x.Segments k :: x.Segments.drop (k + 1) := by rw [List.drop_eq_getElem_cons hlt, Qdn hlt]
      have hl : (Qfq y (x.Segments.take k)).length = k := by simp [Qfq]; omega
      have hg : gt (Qfq y (x.Segments.take k) ++ x.Segments.drop k) k = gt x.Segments k := by
        rw [hd]
        exact Qaez hl
      rw [rng, Qbbd, hg]
      show rng _ m (k + 1) _ = _
      have hs : (Qfq y (x.Segments.take k) ++ x.Segments.drop k).set k ((gt x.Segments k).filter (Qfi y)) = Qfq y (x.Segments.take (k + 1)) ++ x.Segments.drop (k + 1) := by
        rw [hd, List.set_append_right _ _ (by omega), hl, Nat.sub_self, List.set_cons_zero, List.take_add_one, List.getElem?_eq_getElem hlt, ← Qdn hlt]
        simp [Qfq]
      have e3 : ∀ n, Qdx s n = Qdx (Qdx s n) 0 := fun n => by rw [Qnk, Nat.add_zero]
      rw [hs, e3, ih (k + 1) _ (by omega), hd, List.foldl_cons]
      congr 2
      rw [Qnk, Qnk, Nat.zero_add, Nat.add_zero]
  have h1 := key (x.Segments.length - 0) 0 0 (by omega)
  rw [List.take_zero, List.drop_zero] at h1
  have h2 : Qfq y [] ++ x.Segments = x.Segments := rfl
  rw [h2] at h1
  rw [h1, (Qaag y x.Segments).2]
  rfl
theorem Qazs {x : Qo} (h : Eng x) (a : Qw) : (Qkb x a).length ≤ 4 := Nat.le_trans (Qaan _ _) (Qxa h)
def Qig (a : Qw) : Bool := ((a.Todo.length : Nat) : Int) == 0
def Qng (n : Int) (a : Qw) : Qw := ⟨a.Query, a.Time, a.Todo, IntKind.i64.wrap (a.Age + 1), cond ((Int.tmod (IntKind.i64.wrap (a.Age + 1)) n) == 0) 0 a.Sent, a.Cap, a.Rows⟩
def Qkm (a : Qw) : Qav := ⟨a.Query, a.Time, IntKind.i64.wrap (a.Age + 1), a.Rows⟩
theorem Qaah (n : Int) : ∀ (L : List Qw) (r : List Qw) (d : List Qav), L.foldl (fun (s : (List Qw) × (List Qav)) a => cond (Qig a) (s.1, s.2 ++ [Qkm a]) (s.1 ++ [Qng n a], s.2)) (r, d) = (r ++ (L.filter (fun a => !Qig a)).map (Qng n), d ++ (L.filter Qig).map Qkm)
  | [], r, d => by simp
  | a :: L, r, d => by
    rw [List.foldl_cons]
    cases h : Qig a with
    | true => rw [cond_true, Qaah n L]; simp [h]
    | false => rw [cond_false, Qaah n L]; simp [h]
theorem Qahg {R : Type} {L : List Qw} {n : Int} {b : Nat → (List Qw) × (List Qav) → R ⊕ ((List Qw) × (List Qav))} (hb : ∀ k s, k < L.length → b k s = .inr (cond (Qig (gt L k)) (s.1, s.2 ++ [Qkm (gt L k)]) (s.1 ++ [Qng n (gt L k)], s.2))) (D : List Qav) : rng b (L.length - 0) 0 ([], D) = .inr ((L.filter (fun a => !Qig a)).map (Qng n), D ++ (L.filter Qig).map Qkm) := by
  rw [Qgv (xs := L) (f := fun s a => cond (Qig a) (s.1, s.2 ++ [Qkm a]) (s.1 ++ [Qng n a], s.2)) hb, Qaah]
  rfl
def Qqo (x : Qo) (L : List Qw) : List Qw := (L.filter (fun a => !Qig a)).map (Qng ((x.Store.Segments.length : Nat) : Int))
def Qxu (x : Qo) (L : List Qw) : List Qav := x.Done ++ (L.filter Qig).map Qkm
def Qja (x : Qo) : List Qbc := cond (decide (0 < (((Qba x).length : Nat) : Int))) (x.Ledger ++ [Qmi x]) x.Ledger
def Qta (x : Qo) : Qo := ⟨x.Store, Int.tmod (IntKind.i64.wrap (x.Cursor + 1)) ((x.Store.Segments.length : Nat) : Int), x.Order, Qqo x (Qeq x (Qba x)), Qxu x (Qeq x (Qba x)), Qja x, IntKind.i64.wrap (x.Steps + 1)⟩
theorem Qafv {x : Qo} (h : Eng x) : Qgb x = Qld (Qta x) := by
  have hj : Qqw x = .inr (⟨x.Store, x.Cursor, x.Order, Qeq x (Qba x), x.Done, Qja x, x.Steps⟩ : Qo) := by
    unfold Qqw Qja
    cases hp : decide (0 < (((Qba x).length : Nat) : Int)) with
    | true => rw [cond_true, cond_true, Qrk h]
    | false =>
      have h0 := of_decide_eq_false hp
      have hn : Qba x = [] := List.eq_nil_of_length_eq_zero (by omega)
      rw [cond_false, cond_false, hn, Qxh]
  unfold Qgb Qta Qqo Qxu
  rw [hj]
  show Sum.elim id _ (rng (R := Qo) (fun k (s : (List Qw) × (List Qav)) => Qsw (⟨x.Store, x.Cursor, x.Order, Qeq x (Qba x), x.Done, Qja x, x.Steps⟩ : Qo) k s.1 s.2) ((Qeq x (Qba x)).length - 0) 0 ([], x.Done)) = _
  rw [Qahg (n := ((x.Store.Segments.length : Nat) : Int)) (b := fun k (s : (List Qw) × (List Qav)) => Qsw (⟨x.Store, x.Cursor, x.Order, Qeq x (Qba x), x.Done, Qja x, x.Steps⟩ : Qo) k s.1 s.2) (fun k s hk => by
      unfold Qsw Qig Qng Qkm Qvo Qvp
      dsimp only
      cases ((Int.tmod (IntKind.i64.wrap (((gt (Qeq x (Qba x)) k).Age) + 1)) ((x.Store.Segments.length : Nat) : Int)) == 0) <;> cases ((((gt (Qeq x (Qba x)) k).Todo).length : Nat) : Int) == 0 <;> rfl)]
  rfl
def Qpn (a : Qw) : Prop := QOk a.Query ∧ a.Todo.length ≤ 8 ∧ a.Rows.length ≤ 1004 ∧ ∀ r ∈ a.Rows, r.Values.length = 3
theorem Qazt {x : Qo} (h : Eng x) (a : Qw) : ∀ r ∈ Qkb x a, Qgn r = true := fun r hr => by
  obtain ⟨v, hv, rfl⟩ := List.mem_map.1 hr
  exact Qaao h (List.mem_filter.1 hv).1
theorem Qacw {x : Qo} (h : Eng x) (ids : List Int) : ∀ a ∈ Qeq x ids, Qpn a := fun a ha => by
  obtain ⟨b, hb, rfl⟩ := List.mem_map.1 ha
  have hs := ((Qki _).1 h.st).1
  obtain ⟨h1, _, h3, _, _, _, h7, h8⟩ := h.act b hb
  have ht := Qacq h3
  cases decide (b.Query.Id ∈ ids) with
  | false => exact ⟨Qwq h1, by show b.Todo.length ≤ 8; omega, by show b.Rows.length ≤ 1004; omega, fun r hr => ((Qpr r).1 (h7 r hr)).2.2⟩
  | true =>
    refine ⟨Qwq h1, ?_, ?_, fun r hr => ?_⟩
    · show (b.Todo.filter _).length ≤ 8
      exact Nat.le_trans (List.length_filter_le _ _) (by omega)
    · show (b.Rows ++ Qkb x b).length ≤ 1004
      have := Qazs h b
      rw [List.length_append]; omega
    rcases List.mem_append.1 (show r ∈ b.Rows ++ Qkb x b from hr) with hr | hr
    · exact ((Qpr r).1 (h7 r hr)).2.2
    exact ((Qpr r).1 (Qazt h b r hr)).2.2
theorem Qahf {x : Qo} {L : List Qw} (h : ∀ a ∈ L, Qpn a) : (Qqo x L).length ≤ L.length ∧ ∀ a ∈ Qqo x L, Qpn a := by
  unfold Qqo
  refine ⟨by rw [List.length_map]; exact List.length_filter_le _ _, fun a ha => ?_⟩
  obtain ⟨b, hb, rfl⟩ := List.mem_map.1 ha
  exact h b (List.mem_filter.1 hb).1
def Qwo (f : Qav) : Prop := QOk f.Query ∧ f.Rows.length ≤ 1004 ∧ ∀ r ∈ f.Rows, r.Values.length = 3
theorem Qaer {L : List Qw} (h : ∀ a ∈ L, Qpn a) : ((L.filter Qig).map Qkm).length ≤ L.length ∧ ∀ f ∈ (L.filter Qig).map Qkm, Qwo f := by
  refine ⟨by rw [List.length_map]; exact List.length_filter_le _ _, fun f hf => ?_⟩
  obtain ⟨b, hb, rfl⟩ := List.mem_map.1 hf
  obtain ⟨h1, _, h3, h4⟩ := h b (List.mem_filter.1 hb).1
  exact ⟨h1, h3, h4⟩
theorem Qael {x : Qo} (h : Eng x) : (Qmi x).Ids.length ≤ 8 ∧ (Qmi x).Tenants.length ≤ 8 ∧ (Qmi x).Rows.length ≤ 8 := by
  have := Qrl h
  unfold Qmi Qms Qmj
  dsimp only
  rw [List.length_map, List.length_map]
  omega
theorem Qahv {l : List Qab} {n : Nat} (hn : n ≤ 68719476736) (h1 : l.length ≤ n) (h2 : ∀ r ∈ l, r.Values.length = 3) : l.length ≤ 68719476736 ∧ ∀ y ∈ l, Qgm 68719476736 y :=
  ⟨by omega, fun y hy => by have := h2 y hy; show y.Values.length ≤ _; omega⟩
theorem Qajv {a : Qw} (h : Qpn a) : Qjf 68719476736 a := by
  obtain ⟨⟨_, _, _, _, c1, _, _, c2⟩, h2, h3, h4⟩ := h
  exact ⟨⟨by omega, by omega⟩, by omega, Qahv (n := 1004) (by decide) h3 h4⟩
theorem Qajx {f : Qav} (h : Qwo f) : Qjg 68719476736 f := by
  obtain ⟨⟨_, _, _, _, c1, _, _, c2⟩, h3, h4⟩ := h
  exact ⟨⟨by omega, by omega⟩, Qahv (n := 1004) (by decide) h3 h4⟩
def Qpw (x : Qo) : Bool := Qhv x && !decide (100000 ≤ x.Steps) && !decide (1000 ≤ ((x.Ledger.length : Nat) : Int)) && !decide (1000 < ((x.Done.length + x.Active.length : Nat) : Int))
theorem Qaco (x : Qo) : Qex x = cond (Qpw x) (Qld (Qta x), true) (x, false) := by
  unfold Qex Qpw
  cases hE : Qhv x with
  | false => rfl
  | true =>
    rw [Qafv ((Qpq x).1 hE)]
    cases decide (100000 ≤ x.Steps) <;> cases decide (1000 ≤ ((x.Ledger.length : Nat) : Int)) <;> cases decide (1000 < ((x.Done.length + x.Active.length : Nat) : Int)) <;> rfl
theorem Qadd {x : Qo} (h : Qpw x = true) : Eng x ∧ x.Steps < 100000 ∧ x.Ledger.length < 1000 ∧ x.Done.length + x.Active.length ≤ 1000 := by
  unfold Qpw at h
  simp only [Bool.and_eq_true, Bool.not_eq_true', decide_eq_false_iff_not] at h
  exact ⟨(Qpq x).1 h.1.1.1, by omega, by omega, by omega⟩
theorem Qalu (e : Qo) : Qld e = ⟨(Qga e.Store (e.Active.map fun a => a.Time)).1, e.Cursor, e.Order, e.Active, e.Done, e.Ledger, e.Steps⟩ := by
  unfold Qld
  rw [Qgv (R := Qo) (xs := e.Active) (f := fun d a => d ++ [a.Time]) (b := fun k s => Qvy e k s) (fun _ _ _ => rfl)]
  have := Qlq (fun _ : Qw => true) (fun a => a.Time) e.Active []
  have e1 : e.Active.foldl (fun d a => d ++ [a.Time]) [] = e.Active.map fun a => a.Time := by
    rw [show e.Active.foldl (fun d a => d ++ [a.Time]) [] = e.Active.foldl (fun d a => cond true (d ++ [a.Time]) d) [] from rfl, this, List.nil_append, List.filter_eq_self.2 (fun _ _ => rfl)]
  rw [e1]
  rfl
theorem Qazd {B : Nat} {d : List (List Qt)} (h : d.length ≤ B ∧ ∀ y ∈ d, (y.length ≤ B ∧ ∀ z ∈ y, Qhu B z)) (k : List Int) : (Qfq k d).length ≤ B ∧ ∀ y ∈ Qfq k d, (y.length ≤ B ∧ ∀ z ∈ y, Qhu B z) := by
  unfold Qfq
  refine ⟨by rw [List.length_map]; exact h.1, fun y hy => ?_⟩
  obtain ⟨l, hl, rfl⟩ := List.mem_map.1 hy
  exact ⟨Nat.le_trans (List.length_filter_le _ _) (h.2 l hl).1, fun z hz => (h.2 l hl).2 z (List.mem_filter.1 hz).1⟩
theorem Qalx {B : Nat} {s : Qau} (h : Qgh B s) (k : List Int) : Qgh B (Qga s k).1 := by
  cases hs : Qji s with
  | false => rw [show Qga s k = (s, 0) from by unfold Qga; rw [hs]; rfl]; exact h
  | true => rw [Qaii s k hs]; exact Qazd h k
theorem Qacp {x : Qo} (h : Qen 68719476736 x) : Qen 68719476736 (Qex x).1 := by
  rw [Qaco]
  cases hc : Qpw x with
  | false => exact h
  | true =>
    obtain ⟨hE, _, h3, h4⟩ := Qadd hc
    have hb := Qacw hE (Qba x)
    have hl := Qmf x (Qba x)
    obtain ⟨r1, r2⟩ := Qahf (x := x) hb
    obtain ⟨f1, f2⟩ := Qaer hb
    have h8 := hE.al
    rw [cond_true, Qalu]
    refine ⟨Qalx h.1 _, h.2.1, ⟨?_, fun a ha => Qajv (r2 a ha)⟩, ⟨?_, fun f hf => ?_⟩, ?_, fun c hc => ?_⟩
    · show (Qqo x _).length ≤ _; omega
    · show (x.Done ++ _).length ≤ _
      rw [List.length_append]; omega
    · rcases List.mem_append.1 (show f ∈ x.Done ++ _ from hf) with hf | hf
      · exact h.2.2.2.1.2 f hf
      exact Qajx (f2 f hf)
    · show (Qja x).length ≤ _
      unfold Qja
      cases decide (0 < (((Qba x).length : Nat) : Int)) with
      | true => rw [cond_true, List.length_append]; show _ + 1 ≤ _; omega
      | false => rw [cond_false]; omega
    have hg : Qil 68719476736 (Qmi x) := by
      obtain ⟨a, b, c⟩ := Qael hE
      exact ⟨by omega, by omega, by omega⟩
    have hc' : c ∈ Qja x := hc
    unfold Qja at hc'
    revert hc'
    cases decide (0 < (((Qba x).length : Nat) : Int)) with
    | true =>
      rw [cond_true]
      intro hc'
      rcases List.mem_append.1 hc' with hc' | hc'
      · exact h.2.2.2.2.2 c hc'
      rw [List.mem_singleton.1 hc']; exact hg
    | false => rw [cond_false]; exact h.2.2.2.2.2 c
def Qvh (k70 : Nat) (s71 : Nat) (E72 : Qo) : Qo ⊕ ((Nat × Qo) ⊕ (Nat × Qo)) :=
 cond (decide (((s71 : Nat) : Int) < 200)) (cond (Qhv E72) (cond (decide (0 < ((E72.Active.length : Nat) : Int))) (Sum.inr (Sum.inr (s71 + 1, ((Qex E72).1)))) (Sum.inr (Sum.inl (s71, E72)))) (Sum.inr (Sum.inl (s71, E72)))) (Sum.inr (Sum.inl (s71, E72)))
def Qob (x0 : Qo) : Qo :=
 Sum.elim id (fun (s : Nat × Qo) => s.2) (Qdo (R := Qo) (fun k (s : Nat × Qo) => Qvh k s.1 s.2) (201 - 0) 0 (0, x0))
theorem cb16 : Cb Tryz.prog 16 := ⟨f16, _, func16, rfl, by decide⟩
theorem Qbau (w : World) (z0 : List Value) (x0 : Qo) (r_0 : Qcb.rd w w.heap.size z0 x0) (s_0 : Qen 68719476736 x0) :
  Calls Tryz.prog 16 #[.agg z0.toArray] w (rO w Qcb (Qob x0)) := by
 obtain ⟨v1, v3, v5, v7, v9, rfl, r2, r4, r6, r8, r10⟩ := Qia r_0
 obtain ⟨m11, A12, c13, rfl, q14, r15⟩ := Qi r2
 obtain ⟨m16, A17, c18, rfl, q19, r20⟩ := Qi r4
 obtain ⟨m21, A22, c23, rfl, q24, r25⟩ := Qi r6
 obtain ⟨m26, A27, c28, rfl, q29, r30⟩ := Qi r8
 obtain ⟨m31, A32, c33, rfl, q34, r35⟩ := Qi r10
 have l36 : x0.Store.Segments.length ≤ 68719476736 := s_0.1.1
 have l37 := s_0.2.1
 have l38 := s_0.2.2.1.1
 have l39 := s_0.2.2.2.1.1
 have l40 := s_0.2.2.2.2.1
 refine ce1 (L := [(0, .agg #[.slice A12 x0.Store.Segments.length c13, iV x0.Store.Now, iV x0.Cursor, .slice A17 x0.Order.length c18, .slice A22 x0.Active.length c23, .slice A27 x0.Done.length c28, .slice A32 x0.Ledger.length c33, iV x0.Steps])]) (N := 30) func16 ?_
 refine sr ?_
 refine Qbn rfl (Qk rfl) (by decide) (fun p41 => ?_)
 refine Qbm Qbd rfl (Qk rfl) (by decide) (fun p42 => ?_)
 refine nt' (sr ?_)
 let K2 : List Value := [.slice A12 x0.Store.Segments.length c13, iV x0.Store.Now, iV x0.Cursor, .slice A17 x0.Order.length c18, .slice A22 x0.Active.length c23, .slice A27 x0.Done.length c28, .slice A32 x0.Ledger.length c33, iV x0.Steps]
 refine wv (fun W hm => Qad (cs := K2) Qz Qbd rfl rfl (hm.boxCells (n := 1) rfl)) ?_
 refine wcs Qcb x0 (Qr cb61 rfl) (fun W hm => Qaij W _ x0 (Qep (x := x0) (hm.rdS0 r15) (hm.rdS0 r20) (hm.rdS0 r25) (hm.rdS0 r30) (hm.rdS0 r35)) s_0) (fun z43 => ?_)
 refine Qhf ?_
 rintro ⟨v44, v45, v46, v47, v48⟩ rfl
 refine fm 0 ?_
 rintro A49 c50 rfl m51
 refine fm 1 ?_
 rintro A53 c54 rfl m55
 refine fm 2 ?_
 rintro A57 c58 rfl m59
 refine fm 3 ?_
 rintro A61 c62 rfl m63
 refine fm 4 ?_
 rintro A65 c66 rfl m67
 refine Qbm Qbd rfl (Qk rfl) (by decide) (fun p69 => ?_)
 let K3 : List Value := [.slice none 0 0, iV 0, iV 0, .slice none 0 0, .slice none 0 0, .slice none 0 0, .slice none 0 0, iV 0]
 let J14 : List It := [Qh p42 39 K3, Qh p41 39 K2]
 refine sb 0 [.slice A49 x0.Store.Segments.length c50, iV x0.Store.Now, iV x0.Cursor, .slice A53 x0.Order.length c54, .slice A57 x0.Active.length c58, .slice A61 x0.Done.length c62, .slice A65 x0.Ledger.length c66, iV x0.Steps] (iS (tSl Qaf 163) 100 A49 c50 x0.Store.Segments :: iS Qa 3 A53 c54 x0.Order :: iS Qah 61 A57 c58 x0.Active :: iS Qas 80 A61 c62 x0.Done :: iS Qaq 102 A65 c66 x0.Ledger :: J14) idM Qbd ?_
 refine nt' (Qe (sr (wa (nt' ?_))))
 let F1 := fun k (s : Nat × Qo) => Qvh k s.1 s.2
 refine Qlj (σ := (Nat × Qo) × (Option Addr × Nat × Option Addr × Nat × Option Addr × Nat × Option Addr × Nat × Option Addr × Nat)) (fun s => [(2, bp p42), (3, bp p69)]) (fun s => (Qh p69 39 [.slice s.2.1 s.1.2.Store.Segments.length s.2.2.1, iV s.1.2.Store.Now, iV s.1.2.Cursor, .slice s.2.2.2.1 s.1.2.Order.length s.2.2.2.2.1, .slice s.2.2.2.2.2.1 s.1.2.Active.length s.2.2.2.2.2.2.1, .slice s.2.2.2.2.2.2.2.1 s.1.2.Done.length s.2.2.2.2.2.2.2.2.1, .slice s.2.2.2.2.2.2.2.2.2.1 s.1.2.Ledger.length s.2.2.2.2.2.2.2.2.2.2, iV s.1.2.Steps] :: iS (tSl Qaf 163) 100 s.2.1 s.2.2.1 s.1.2.Store.Segments :: iS Qa 3 s.2.2.2.1 s.2.2.2.2.1 s.1.2.Order :: iS Qah 61 s.2.2.2.2.2.1 s.2.2.2.2.2.2.1 s.1.2.Active :: iS Qas 80 s.2.2.2.2.2.2.2.1 s.2.2.2.2.2.2.2.2.1 s.1.2.Done :: iS Qaq 102 s.2.2.2.2.2.2.2.2.2.1 s.2.2.2.2.2.2.2.2.2.2 s.1.2.Ledger :: J14)) (fun s => Qdo (R := Qo) F1 (201 - 0) 0 (0, x0) = Sum.inr s.1) ?_ ?_
 ·
  refine Qx ?_
  refine Qti (σ := Nat × (Nat × Qo) × (Option Addr × Nat × Option Addr × Nat × Option Addr × Nat × Option Addr × Nat × Option Addr × Nat)) (fun s => [(2, bp p42), (3, bp p69), (4, nI s.2.1.1)]) (fun s => (Qh p69 39 [.slice s.2.2.1 s.2.1.2.Store.Segments.length s.2.2.2.1, iV s.2.1.2.Store.Now, iV s.2.1.2.Cursor, .slice s.2.2.2.2.1 s.2.1.2.Order.length s.2.2.2.2.2.1, .slice s.2.2.2.2.2.2.1 s.2.1.2.Active.length s.2.2.2.2.2.2.2.1, .slice s.2.2.2.2.2.2.2.2.1 s.2.1.2.Done.length s.2.2.2.2.2.2.2.2.2.1, .slice s.2.2.2.2.2.2.2.2.2.2.1 s.2.1.2.Ledger.length s.2.2.2.2.2.2.2.2.2.2.2, iV s.2.1.2.Steps] :: iS (tSl Qaf 163) 100 s.2.2.1 s.2.2.2.1 s.2.1.2.Store.Segments :: iS Qa 3 s.2.2.2.2.1 s.2.2.2.2.2.1 s.2.1.2.Order :: iS Qah 61 s.2.2.2.2.2.2.1 s.2.2.2.2.2.2.2.1 s.2.1.2.Active :: iS Qas 80 s.2.2.2.2.2.2.2.2.1 s.2.2.2.2.2.2.2.2.2.1 s.2.1.2.Done :: iS Qaq 102 s.2.2.2.2.2.2.2.2.2.2.1 s.2.2.2.2.2.2.2.2.2.2.2 s.2.1.2.Ledger :: J14)) (fun s => s.1 + (200 - s.2.1.1) + 1 ≤ 201 ∧ Qdo (R := Qo) F1 (201 - s.1) s.1 s.2.1 = Qdo (R := Qo) F1 (201 - 0) 0 (0, x0) ∧ Qen 68719476736 s.2.1.2 ∧ s.2.1.1 ≤ 200) (fun s => 201 - s.1) (0, (0, x0), (A49, c50, A53, c54, A57, c58, A61, c62, A65, c66)) sl3 ⟨(show 0 + (200 - 0) + 1 ≤ 201 from by omega), rfl, s_0, (show 0 ≤ 200 from by omega)⟩ ?_
  rintro ⟨k70, ⟨s71, E72⟩, ⟨A73, c74, A75, c76, A77, c78, A79, c80, A81, c82⟩⟩ H85 _ _ e e'
  dsimp only at H85 ⊢
  subst e e'
  obtain ⟨hk83, hF84, hi86, hi87⟩ := H85
  have hsm := hi86
  refine Qe (sr (wm ?_))
  refine wv Qai ?_
  refine wm ?_
  rcases dcd (((s71 : Nat) : Int) < 200) with ⟨h88, g89⟩ | ⟨h88, g89⟩
  ·
   let K4 : List Value := [.slice A73 E72.Store.Segments.length c74, iV E72.Store.Now, iV E72.Cursor, .slice A75 E72.Order.length c76, .slice A77 E72.Active.length c78, .slice A79 E72.Done.length c80, .slice A81 E72.Ledger.length c82, iV E72.Steps]
   refine wg (fun W hm => Qad (cs := K4) Qz Qbd rfl rfl (hm.boxCells (n := 0) rfl)) g89 ?_
   refine Qcr (Qr Qtu rfl) (fun W hm => Qvl W _ E72 (Qep (x := E72) (hm.rdSI (n := 1) rfl) (hm.rdSI (n := 2) rfl) (hm.rdSI (n := 3) rfl) (hm.rdSI (n := 4) rfl) (hm.rdSI (n := 5) rfl)) hsm) (Qcc rfl rfl rfl (bw g89 rfl)) (by decide) ?_
   refine wv (vpT g89) ?_
   refine wm ?_
   rcases bd (Qhv E72) with g91 | g91
   ·
    refine wg (vf Qz rfl Qcw) g91 ?_
    refine wg (vl 0 4 Qax) g91 ?_
    refine wg (Qag Qax) g91 ?_
    refine wg (fun W hm => Qem rfl rfl) g91 ?_
    refine wv (vpT g91) ?_
    refine nt' ?_
    rcases dcd (0 < ((E72.Active.length : Nat) : Int)) with ⟨h92, g93⟩ | ⟨h92, g93⟩
    ·
     refine Ql rfl g93 ?_
     refine Qp (Qd (Qe (Qx (sr ?_))))
     refine wv (fun W hm => Qad (cs := K4) Qz Qbd rfl rfl (hm.boxCells (n := 0) rfl)) ?_
     refine Qoi (χ := List Value) (val := fun x => .tuple #[.agg x.toArray, .bool ((Qex E72).2)]) (js := fun x => [Qn Qcb x ((Qex E72).1)]) (Qr cb10 rfl) (fun W hm => Qbbg W _ E72 (Qep (x := E72) (hm.rdSI (n := 1) rfl) (hm.rdSI (n := 2) rfl) (hm.rdSI (n := 3) rfl) (hm.rdSI (n := 4) rfl) (hm.rdSI (n := 5) rfl)) hsm) (Qk rfl) (by decide) (fun z94 => ?_)
     refine Qhf ?_
     rintro ⟨v95, v96, v97, v98, v99⟩ rfl
     refine fm 0 ?_
     rintro A100 c101 rfl m102
     refine fm 1 ?_
     rintro A104 c105 rfl m106
     refine fm 2 ?_
     rintro A108 c109 rfl m110
     refine fm 3 ?_
     rintro A112 c113 rfl m114
     refine fm 4 ?_
     rintro A116 c117 rfl m118
     refine wm ?_
     refine wv (fun W hm => Qlt rfl rfl) ?_
     refine wv (fun W hm => Qlt rfl rfl) ?_
     refine Qbm Qbd rfl (Qk rfl) (by decide) (fun p120 => ?_)
     let K5 : List Value := [.slice A100 (((Qex E72).1).Store.Segments).length c101, iV (((Qex E72).1).Store.Now), iV (((Qex E72).1).Cursor), .slice A104 (((Qex E72).1).Order).length c105, .slice A108 (((Qex E72).1).Active).length c109, .slice A112 (((Qex E72).1).Done).length c113, .slice A116 (((Qex E72).1).Ledger).length c117, iV (((Qex E72).1).Steps)]
     let I7 : It := iS (tSl Qaf 163) 100 A100 c101 (((Qex E72).1).Store.Segments)
     let I8 : It := iS Qa 3 A104 c105 (((Qex E72).1).Order)
     let I9 : It := iS Qah 61 A108 c109 (((Qex E72).1).Active)
     let I10 : It := iS Qas 80 A112 c113 (((Qex E72).1).Done)
     let I11 : It := iS Qaq 102 A116 c117 (((Qex E72).1).Ledger)
     let I12 : It := iS (tSl Qaf 163) 100 A73 c74 E72.Store.Segments
     let J15 : List It := I12 :: iS Qa 3 A75 c76 E72.Order :: iS Qah 61 A77 c78 E72.Active :: iS Qas 80 A79 c80 E72.Done :: iS Qaq 102 A81 c82 E72.Ledger :: J14
     refine sb 0 K5 (I7 :: I8 :: I9 :: I10 :: I11 :: Qh p69 39 K4 :: J15) idM Qbd ?_
     refine wa (nt' (Qy ?_))
     refine wv (fun W hm => Qad (cs := K5) Qz Qbd rfl rfl (hm.boxCells (n := 0) rfl)) ?_
     refine sb 0 K5 (Qh p120 39 K5 :: I7 :: I8 :: I9 :: I10 :: I11 :: J15) (pk [6, 0, 1, 2, 3, 4, 5, 7, 8, 9, 10, 11, 12, 13]) Qbd ?_
     refine Qac (Qam (Qd (Qy (wm ?_))))
     refine wv (Qal s71 1 (by omega)) ?_
     refine wa (Qac ?_)
     exact Qan (k70 + 1, (s71 + 1, ((Qex E72).1)), (A100, c101, A104, c105, A108, c109, A112, c113, A116, c117)) sl3 (pk [0, 2, 3, 4, 5, 6, 12, 13]) ⟨(show (k70 + 1) + (200 - (s71 + 1)) + 1 ≤ 201 from by omega), nxb hF84 (Qb g89 (Qb g91 (Qb g93 (rfl)))), (show Qen 68719476736 ((Qex E72).1) from by exact Qacp hi86), (show (s71 + 1) ≤ 200 from by omega)⟩ rl
    refine Qm rfl g93 ?_
    refine Qay (Qu (Qu (Qaz ?_)))
    exact Qfh ((s71, E72), (A73, c74, A75, c76, A77, c78, A79, c80, A81, c82)) sl2 idM (nbb hF84 (Qb g89 (Qb g91 (Qc g93 (rfl)))))
   iterate 5 first | refine ws g91 ?_ | refine wv (vpF g91) ?_
   refine nt' ?_
   refine Qm rfl rfl ?_
   refine Qay (Qu (Qu (Qaz ?_)))
   exact Qfh ((s71, E72), (A73, c74, A75, c76, A77, c78, A79, c80, A81, c82)) sl2 idM (nbb hF84 (Qb g89 (Qc g91 (rfl))))
  iterate 9 first | refine ws g89 ?_ | refine wv (vpF g89) ?_ | refine wm ?_ | refine wk ?_ | refine wv (vpF rfl) ?_
  refine nt' ?_
  refine Qm rfl rfl ?_
  refine Qay (Qu (Qu (Qaz ?_)))
  exact Qfh ((s71, E72), (A73, c74, A75, c76, A77, c78, A79, c80, A81, c82)) sl2 idM (nbb hF84 (Qc g89 (rfl)))
 rintro ⟨⟨s71, E72⟩, ⟨A73, c74, A75, c76, A77, c78, A79, c80, A81, c82⟩⟩ H126
 dsimp only at H126
 let K6 : List Value := [.slice A73 E72.Store.Segments.length c74, iV E72.Store.Now, iV E72.Cursor, .slice A75 E72.Order.length c76, .slice A77 E72.Active.length c78, .slice A79 E72.Done.length c80, .slice A81 E72.Ledger.length c82, iV E72.Steps]
 let I13 : It := iS (tSl Qaf 163) 100 A73 c74 E72.Store.Segments
 show QM 30 _ _ _ .normal [(2, bp p42), (3, bp p69)] (Qh p69 39 K6 :: I13 :: iS Qa 3 A75 c76 E72.Order :: iS Qah 61 A77 c78 E72.Active :: iS Qas 80 A79 c80 E72.Done :: iS Qaq 102 A81 c82 E72.Ledger :: J14)
 refine Qd (sr ?_)
 refine wv (fun W hm => Qad (cs := K6) Qz Qbd rfl rfl (hm.boxCells (n := 0) rfl)) ?_
 refine sb 0 K6 [Qh p69 39 K6, I13, iS Qa 3 A75 c76 E72.Order, iS Qah 61 A77 c78 E72.Active, iS Qas 80 A79 c80 E72.Done, iS Qaq 102 A81 c82 E72.Ledger, Qh p41 39 K2] (pk [6, 0, 1, 2, 3, 4, 5, 7]) Qbd ?_
 refine nt' (Qj ?_)
 have he127 := (show Qob x0 = E72 from Qar H126 (rfl))
 refine Qcu rfl (Qdp (n := 0) rfl rfl Qz Qbd rfl) (fun W hm => ⟨K6, ?_, ?_⟩)
 ·first | rw [he127] | rfl
 rw [he127]; exact Mem.join (is := [I13, iS Qa 3 A75 c76 E72.Order, iS Qah 61 A77 c78 E72.Active, iS Qas 80 A79 c80 E72.Done, iS Qaq 102 A81 c82 E72.Ledger]) (js := []) (fun _ _ hs => Qfk (x := E72) hs) (hm.pick [2, 3, 4, 5, 6] (by decide))

def Qyv (x0 : Qau) (k12 : Nat) (k39 : Nat) (d40 : (List Qt)) : Qau ⊕ ((List Qt)) :=
 Sum.inr (d40 ++ [(⟨(gt (gt x0.Segments k12) k39).Id, ((gt (gt x0.Segments k12) k39).Values), (gt (gt x0.Segments k12) k39).Born, (gt (gt x0.Segments k12) k39).Died⟩ : Qt)])
def Quo (x0 : Qau) (k12 : Nat) (d15 : (List (List Qt))) : Qau ⊕ ((List (List Qt))) :=
 Sum.elim Sum.inl (fun (s : (List Qt)) => Sum.inr (d15 ++ [s])) (rng (R := Qau) (fun k (s : (List Qt)) => Qyv x0 k12 k s) (((gt x0.Segments k12)).length - 0) 0 [])
def Qup (x0 : Qau) : Qau :=
 Sum.elim id (fun (s : (List (List Qt))) => (⟨s, x0.Now⟩ : Qau)) (rng (R := Qau) (fun k (s : (List (List Qt))) => Quo x0 k s) (x0.Segments.length - 0) 0 [])
theorem Qxm : Cb Tryz.prog 138 := ⟨f138, _, func138, rfl, by decide⟩
theorem Qatz (w : World) (z0 : List Value) (x0 : Qau) (r_0 : Qdm.rd w w.heap.size z0 x0) (s_0 : Qgh 68719476736 x0) :
  Calls Tryz.prog 138 #[.agg z0.toArray] w (rO w Qdm (Qup x0)) := by
 obtain ⟨v1, rfl, r2⟩ := Qjs r_0
 obtain ⟨m3, A4, c5, rfl, q6, r7⟩ := Qi r2
 have l8 : x0.Segments.length ≤ 68719476736 := s_0.1
 refine ce1 (L := [(0, .agg #[.slice A4 x0.Segments.length c5, iV x0.Now])]) (N := 48) func138 ?_
 refine sr ?_
 refine Qbn rfl (Qk rfl) (by decide) (fun p9 => ?_)
 refine Qbm Qbt rfl (Qk rfl) (by decide) (fun p10 => ?_)
 refine nt' (sr ?_)
 refine wv (vf Qbw rfl Qf) ?_
 refine wv (vl 1 1 Qs) ?_
 refine wv (fun W hm => Qef (cs := [.slice none 0 0, iV x0.Now]) rfl (by kernel_rfl)) ?_
 refine Qbm Qbt rfl (Qk rfl) (by decide) (fun p11 => ?_)
 let I3 : It := Qh p9 34 [.slice A4 x0.Segments.length c5, iV x0.Now]
 refine sb 0 [.slice none 0 0, iV x0.Now] [Qh p10 34 [.slice none 0 0, iV 0], I3] idM Qbt ?_
 refine nt' (Qe (sr ?_))
 refine wv (vf Qbw rfl Qea) ?_
 refine wv (vl 2 0 Qbz) ?_
 refine wv (Qag Qbz) ?_
 refine wm (nt' (Qx ?_))
 refine Qdw (fun W hm => (hm.addNil (E := (tSl Qaf 163)) (e := 100)).last) ?_
 refine Qbg (S := (List (List Qt))) (R := Option Addr × Nat) (fun k (s : (List (List Qt))) => Quo x0 k s) x0.Segments.length 0 [] (none, 0) (fun s => [(2, bp p10), (3, bp p11), (13, .slice A4 x0.Segments.length c5), (14, nI x0.Segments.length), (15, nI s.1)]) (fun s => [Qh p11 34 [.slice s.2.2.1 s.2.1.length s.2.2.2, iV x0.Now], Qh p10 34 [.slice none 0 0, iV 0], I3, iS (tSl Qaf 163) 100 s.2.2.1 s.2.2.2 s.2.1]) (fun s => s.2.1.length ≤ 0 + s.1) sl5 (Nat.le_refl _) ?_
 rintro ⟨k12, d15, ⟨A16, c17⟩⟩ H20 _ _ e e'
 dsimp only at H20 ⊢
 subst e e'
 obtain ⟨hk18, hF19, hi21⟩ := H20
 refine sr ?_
 refine wv Qai ?_
 refine nt' (Qe ?_)
 rcases dcl k12 x0.Segments.length with ⟨hl22, g23⟩ | ⟨hl22, g23⟩
 ·
  refine Ql rfl g23 ?_
  refine Qp (Qd (Qe (Qx (sr ?_))))
  obtain ⟨a24, rfl, hb25, he26⟩ := q6 (by omega)
  refine wv (vix 1 k12 Qbz Qfl) ?_
  obtain ⟨_, e28, hc27⟩ := he26 k12 _ (Qbs (show k12 < x0.Segments.length from by omega))
  have l29 : (gt x0.Segments k12).length ≤ 68719476736 := (s_0.2 _ (Qak (show k12 < x0.Segments.length from by omega))).1
  obtain ⟨v30, rfl, r31⟩ := e28
  obtain ⟨m32, A33, c34, rfl, q35, r36⟩ := Qi r31
  refine wv (fun W hm => Qaw Qbv rfl rfl ((hm.cell0 (show (a24.add (k12 * 1)).block < w.heap.size from by rw [Qae]; exact hb25.1)).trans (hc27 0 _ rfl))) ?_
  refine wa (nt' (sr ?_))
  refine Qcf (E := Qaf) Qbv Qbo (Qk rfl) (by decide) (fun p37 => ?_)
  refine wa (nt' (Qe (sr (wm ?_))))
  refine wv (Qag Qbv) ?_
  refine wm (nt' (Qx ?_))
  let I4 : It := Qh p11 34 [.slice A16 d15.length c17, iV x0.Now]
  let I5 : It := Qh p9 34 [.slice (some a24) x0.Segments.length c5, iV x0.Now]
  let J6 : List It := [I4, Qh p10 34 [.slice none 0 0, iV 0], I5, iS (tSl Qaf 163) 100 A16 c17 d15]
  refine Qbg (S := (List Qt)) (R := Option Addr × Nat) (fun k (s : (List Qt)) => Qyv x0 k12 k s) (((gt x0.Segments k12)).length) 0 [] ((sA p37), 0) (fun s => [(2, bp p10), (3, bp p11), (6, .slice s.2.2.1 s.2.1.length s.2.2.2), (13, .slice (some a24) x0.Segments.length c5), (14, nI x0.Segments.length), (15, nI k12), (20, .slice A33 ((gt x0.Segments k12)).length c34), (21, nI (((gt x0.Segments k12)).length)), (22, nI s.1)]) (fun s => (iS Qaf 163 s.2.2.1 s.2.2.2 s.2.1 :: J6)) (fun s => s.2.1.length ≤ 0 + s.1) sl9 (Nat.le_refl _) ?_
  rintro ⟨k39, d40, ⟨A41, c42⟩⟩ H45 _ _ e e'
  dsimp only at H45 ⊢
  subst e e'
  obtain ⟨hk43, hF44, hi46⟩ := H45
  refine sr ?_
  refine wv Qai ?_
  refine nt' (Qe ?_)
  rcases dcl k39 (((gt x0.Segments k12)).length) with ⟨hl47, g48⟩ | ⟨hl47, g48⟩
  ·
   refine Ql rfl g48 ?_
   refine Qp (Qd (Qe (Qx (sr ?_))))
   obtain ⟨a49, rfl, hb50, he51⟩ := q35 (by omega)
   refine wv (vix 4 k39 Qbv Qbo) ?_
   obtain ⟨_, e55, hc52⟩ := he51 k39 _ (Qbs (show k39 < ((gt x0.Segments k12)).length from by omega))
   obtain ⟨v53, rfl, r54⟩ := Qgd e55
   have l56 : ((gt (gt x0.Segments k12) k39).Values).length ≤ 68719476736 := ((s_0.2 _ (Qak (show k12 < x0.Segments.length from by omega))).2 _ (Qak (show k39 < ((gt x0.Segments k12)).length from by omega)))
   obtain ⟨m57, A58, c59, rfl, q60, r61⟩ := Qi r54
   let K1 : List Value := [iV ((gt (gt x0.Segments k12) k39).Id), .slice A58 ((gt (gt x0.Segments k12) k39).Values).length c59, iV ((gt (gt x0.Segments k12) k39).Born), iV ((gt (gt x0.Segments k12) k39).Died)]
   refine wv (fun W hm => Qad (cs := K1) Qbp Qbo rfl rfl (hm.elCells (show (a49.add (k39 * 4)).block < w.heap.size from by rw [Qae]; exact hb50.1) hc52)) ?_
   refine Qbm Qbo rfl (Qk rfl) (by decide) (fun p62 => ?_)
   refine sb 0 K1 (iS Qaf 163 A41 c42 d40 :: J6) idM Qbo ?_
   refine nt' ?_
   refine rb 14 (s := (Qh p62 163 K1 :: J6)) (pk [0, 2, 3, 4, 5]) ?_
   refine qt 14 0 1 rfl vmv ?_
   refine qt 14 1 3 rfl (vf Qbp rfl Qf) ?_
   refine qt 14 2 7 rfl (vl 0 0 Qs) ?_
   refine qt 14 3 15 rfl (vf Qbp rfl Qao) ?_
   refine qt 14 4 31 rfl (vl 0 1 Qq) ?_
   refine qt 14 6 95 rfl (vf Qbp rfl Qf) ?_
   refine qt 14 7 223 rfl (vl 0 2 Qs) ?_
   refine qt 14 8 479 rfl (vf Qbp rfl Qf) ?_
   refine qt 14 9 991 rfl (vl 0 3 Qs) ?_
   refine qo 14 5 1023 rfl ?_
   refine wcl (tSl Qa 3) ((gt (gt x0.Segments k12) k39).Values) (Qr Qkl rfl) (fun W hm => Qko W _ ((gt (gt x0.Segments k12) k39).Values) (hm.rdS0 r61) ((s_0.2 _ (Qak (show k12 < x0.Segments.length from by omega))).2 _ (Qak (show k39 < ((gt x0.Segments k12)).length from by omega)))) (fun z63 => ?_)
   refine fm 0 ?_
   rintro A64 c65 rfl m66
   refine qn (pk [1, 3, 4, 5, 6]) ?_
   let K2 : List Value := [iV ((gt (gt x0.Segments k12) k39).Id), .slice A64 ((gt (gt x0.Segments k12) k39).Values).length c65, iV ((gt (gt x0.Segments k12) k39).Born), iV ((gt (gt x0.Segments k12) k39).Died)]
   refine qt 14 10 2047 rfl (fun W hm => Qef (cs := K2) rfl (by kernel_rfl)) ?_
   refine qo 14 11 4095 rfl ?_
   refine Qde (cs := K2) Qbv Qbo rfl (by decide) (by decide) rfl (by kernel_rfl) (Qk rfl) (by decide) (fun p68 => ?_)
   refine qn (pk [2, 4, 5, 6, 7]) ?_
   refine qo 14 12 8191 rfl ?_
   refine ap1 Qaf 163 (.slice A41 d40.length c42) d40 (⟨(gt (gt x0.Segments k12) k39).Id, ((gt (gt x0.Segments k12) k39).Values), (gt (gt x0.Segments k12) k39).Born, (gt (gt x0.Segments k12) k39).Died⟩ : Qt) [iS Qa 3 A64 c65 ((gt (gt x0.Segments k12) k39).Values)] (Qh p62 163 K1 :: J6) K2 (pk [0, 3, 1, 2, 4, 5, 6, 7]) (fun _ _ hs => Els.single (Qlh (x := (⟨(gt (gt x0.Segments k12) k39).Id, ((gt (gt x0.Segments k12) k39).Values), (gt (gt x0.Segments k12) k39).Born, (gt (gt x0.Segments k12) k39).Died⟩ : Qt)) hs)) Qbv Qbo (show (d40.length + 1) * 48 ≤ 140737488355328 from by omega) (fun v69 => ?_)
   refine fm 0 ?_
   rintro A70 c71 rfl m72
   refine qn (pk [1, 2, 3, 4, 5]) ?_
   refine qt 14 13 16383 rfl (fun W hm => Qjd rfl) ?_
   refine Qed (by kernel_rfl) ?_
   refine Qam (Qd (Qy ?_))
   refine wv (Qal k39 1 (by omega)) ?_
   refine wm (Qac ?_)
   exact Qan (k39 + 1, (d40 ++ [(⟨(gt (gt x0.Segments k12) k39).Id, ((gt (gt x0.Segments k12) k39).Values), (gt (gt x0.Segments k12) k39).Born, (gt (gt x0.Segments k12) k39).Died⟩ : Qt)]), (A70, c71)) sl9 (pk [0, 2, 3, 4, 5]) ⟨(by omega), nx hF44 (rfl), (show (d40 ++ [(⟨(gt (gt x0.Segments k12) k39).Id, ((gt (gt x0.Segments k12) k39).Values), (gt (gt x0.Segments k12) k39).Born, (gt (gt x0.Segments k12) k39).Died⟩ : Qt)]).length ≤ 0 + (k39 + 1) from by first | omega | (simp only [List.length_append, List.length_cons, List.length_nil] at *; omega))⟩ (show ((gt x0.Segments k12)).length - (k39 + 1) < ((gt x0.Segments k12)).length - k39 from by omega)
  refine Qm rfl g48 ?_
  refine Qay (Qu (Qu ?_))
  have hE75 := Qbh hl47 hF44
  refine Qaz (Qd (Qy ?_))
  refine wv (vf Qbw rfl Qea) ?_
  refine wv (vl 1 0 Qbz) ?_
  refine wm ?_
  refine Qde (cs := [.slice A41 d40.length c42]) Qbz Qfl rfl (by decide) (by decide) rfl (by kernel_rfl) (Qk rfl) (by decide) (fun p76 => ?_)
  refine ap1 (tSl Qaf 163) 100 (.slice A16 d15.length c17) d15 d40 [iS Qaf 163 A41 c42 d40] [I4, Qh p10 34 [.slice none 0 0, iV 0], I5] [.slice A41 d40.length c42] (pk [0, 5, 1, 2, 3, 4]) (fun _ _ hs => Els.single (Sep.one hs)) Qbz Qfl (show (d15.length + 1) * 24 ≤ 140737488355328 from by omega) (fun v77 => ?_)
  refine fm 0 ?_
  rintro A78 c79 rfl m80
  refine wv (vf Qbw rfl Qea) ?_
  refine sb 0 [.slice A78 (d15 ++ [d40]).length c79, iV x0.Now] [iS (tSl Qaf 163) 100 A78 c79 (d15 ++ [d40]), Qh p10 34 [.slice none 0 0, iV 0], I5] (pk [1, 0, 2, 3]) Qea ?_
  refine Qac (Qam (Qd (Qy ?_)))
  refine wv (Qal k12 1 (by omega)) ?_
  refine wm (Qac ?_)
  exact Qan (k12 + 1, (d15 ++ [d40]), (A78, c79)) sl5 (pk [0, 2, 3, 1]) ⟨(by omega), nx hF19 (Qar hE75 (rfl)), (show (d15 ++ [d40]).length ≤ 0 + (k12 + 1) from by first | omega | (simp only [List.length_append, List.length_cons, List.length_nil] at *; omega))⟩ rl
 refine Qm rfl g23 ?_
 refine Qay (Qu (Qu ?_))
 have hE83 := Qbh hl22 hF19
 refine Qaz (Qd (sr ?_))
 refine wv (fun W hm => Qad (cs := [.slice A16 d15.length c17, iV x0.Now]) Qbw Qbt rfl rfl (hm.boxCells (n := 0) rfl)) ?_
 refine sb 0 [.slice A16 d15.length c17, iV x0.Now] [Qh p11 34 [.slice A16 d15.length c17, iV x0.Now], I3, iS (tSl Qaf 163) 100 A16 c17 d15] (pk [1, 0, 2, 3]) Qbt ?_
 refine nt' (Qj ?_)
 have he84 := (show Qup x0 = (⟨d15, x0.Now⟩ : Qau) from Qar hE83 (rfl))
 refine Qcu rfl (Qdp (n := 0) rfl rfl Qbw Qbt rfl) (fun W hm => ⟨[.slice A16 d15.length c17, iV x0.Now], ?_, ?_⟩)
 ·first | rw [he84] | rfl
 rw [he84]; exact Mem.join (is := [iS (tSl Qaf 163) 100 A16 c17 d15]) (js := []) (fun _ _ hs => Qmw (x := (⟨d15, x0.Now⟩ : Qau)) hs) (hm.pick [3] (by decide))
theorem Qaua (x0 : Qau) : Qup x0 = x0 := by
 unfold Qup; rw [Qjc (xs := x0.Segments) (b := fun k s => Quo x0 k s) (fun j s => by unfold Quo; rw [Qjc (xs := gt x0.Segments j) (b := fun k s => Qyv x0 j k s) (fun _ _ => rfl)]; rfl)]; rfl
theorem Qyw (w : World) (z0 : List Value) (x0 : Qau) (r_0 : Qdm.rd w w.heap.size z0 x0) (s_0 : Qgh 68719476736 x0) :
  Calls Tryz.prog 138 #[.agg z0.toArray] w (rO w Qdm x0) := by
 have h := Qatz w z0 x0 r_0 s_0
 rw [Qaua] at h
 exact h

def Qys (x0 : Qat) : Qat :=
 x0
theorem Qadh : Cb Tryz.prog 109 := ⟨f109, _, func109, rfl, by decide⟩
theorem Qats (w : World) (z0 : List Value) (x0 : Qat) (r_0 : Qcm.rd w w.heap.size z0 x0) (s_0 : Qfy 68719476736 x0) :
  Calls Tryz.prog 109 #[.agg z0.toArray] w (rO w Qcm (Qys x0)) := by
 obtain ⟨v1, v3, rfl, r2, r4⟩ := Qiv r_0
 obtain ⟨m5, A6, c7, rfl, q8, r9⟩ := Qi r2
 obtain ⟨m10, A11, c12, rfl, q13, r14⟩ := Qi r4
 have l15 := s_0.1
 have l16 := s_0.2
 refine ce1 (L := [(0, .agg #[iV x0.Id, iV x0.Tenant, .slice A6 x0.Conds.length c7, .slice A11 x0.Out.length c12])]) (N := 13) func109 ?_
 refine sr ?_
 refine Qbn rfl (Qk rfl) (by decide) (fun p17 => ?_)
 refine Qbm Qbj rfl (Qk rfl) (by decide) (fun p18 => ?_)
 refine nt' (sr ?_)
 refine Qcf (E := Qbl) Qct Qds (Qk rfl) (by decide) (fun p19 => ?_)
 refine wv (vf Qbq rfl Qfu) ?_
 refine wv (vl 2 2 Qct) ?_
 let K1 : List Value := [iV 0, iV 0, .slice none 0 0, .slice none 0 0]
 refine apR Qbl Qbl 180 (.slice (sA p19) 0 0) [] x0.Conds [Qh p18 58 K1, Qh p17 58 [iV x0.Id, iV x0.Tenant, .slice A6 x0.Conds.length c7, .slice A11 x0.Out.length c12]] idM (fun W hm => Qdi (Qty (Qnl Qcv (Qnl Qcv Qcv))) (hm.rdS0 r9)) Qct Qds (show (0 + x0.Conds.length) * 24 ≤ 140737488355328 from by omega) (fun v21 => ?_)
 refine fm 0 ?_
 rintro A22 c23 rfl m24
 refine wv (vf Qbq rfl Qfu) ?_
 refine sb 2 [iV x0.Id, iV x0.Tenant, .slice A22 x0.Conds.length c23, .slice A11 x0.Out.length c12] [iS Qbl 180 A22 c23 x0.Conds, Qh p18 58 K1] (pk [2, 0, 1]) Qfu ?_
 refine nt' (sr ?_)
 refine wv (vf Qbq rfl Qao) ?_
 refine wv (vl 0 3 Qq) ?_
 refine wcl (tSl Qa 3) x0.Out (Qr Qkl rfl) (fun W hm => Qko W _ x0.Out (hm.rdS0 r14) s_0.2) (fun z26 => ?_)
 refine fm 0 ?_
 rintro A27 c28 rfl m29
 refine wv (vf Qbq rfl Qao) ?_
 let K2 : List Value := [iV x0.Id, iV x0.Tenant, .slice A22 x0.Conds.length c23, .slice A27 x0.Out.length c28]
 refine sb 3 K2 [iS Qa 3 A27 c28 x0.Out, iS Qbl 180 A22 c23 x0.Conds, Qh p18 58 K1] (pk [1, 0, 2, 3]) Qao ?_
 refine nt' (sr ?_)
 refine wv (fun W hm => Qad (cs := K2) Qbq Qbj rfl rfl (hm.boxCells (n := 0) rfl)) ?_
 refine sb 0 K2 [Qh p17 58 K2, iS Qa 3 A27 c28 x0.Out, iS Qbl 180 A22 c23 x0.Conds] (pk [3, 0, 1, 2]) Qbj ?_
 refine nt' (Qj ?_)
 have he31 := (show Qys x0 = x0 from rfl)
 refine Qcu rfl (Qdp (n := 0) rfl rfl Qbq Qbj rfl) (fun W hm => ⟨K2, ?_, ?_⟩)
 ·first | rw [he31] | rfl
 rw [he31]; exact Mem.join (is := [iS Qbl 180 A22 c23 x0.Conds, iS Qa 3 A27 c28 x0.Out]) (js := []) (fun _ _ hs => Qwk (x := x0) hs) (hm.pick [3, 2] (by decide))
theorem Qatt (x0 : Qat) : Qys x0 = x0 := by
 rfl
theorem Qafl (w : World) (z0 : List Value) (x0 : Qat) (r_0 : Qcm.rd w w.heap.size z0 x0) (s_0 : Qfy 68719476736 x0) :
  Calls Tryz.prog 109 #[.agg z0.toArray] w (rO w Qcm x0) := by
 have h := Qats w z0 x0 r_0 s_0
 rw [Qatt] at h
 exact h

def Qyt (x0 : Qab) : Qab :=
 x0
theorem Qaoz : Cb Tryz.prog 206 := ⟨f206, _, func206, rfl, by decide⟩
theorem Qatu (w : World) (z0 : List Value) (x0 : Qab) (r_0 : Qap.rd w w.heap.size z0 x0) (s_0 : Qgm 68719476736 x0) :
  Calls Tryz.prog 206 #[.agg z0.toArray] w (rO w Qap (Qyt x0)) := by
 obtain ⟨v1, rfl, r2⟩ := Qin r_0
 obtain ⟨m3, A4, c5, rfl, q6, r7⟩ := Qi r2
 have l8 : x0.Values.length ≤ 68719476736 := s_0
 refine ce1 (L := [(0, .agg #[iV x0.Id, .slice A4 x0.Values.length c5])]) (N := 9) func206 ?_
 refine sr ?_
 refine Qbn rfl (Qk rfl) (by decide) (fun p9 => ?_)
 refine Qbm Qcg rfl (Qk rfl) (by decide) (fun p10 => ?_)
 refine nt' (Qe ?_)
 let I1 : It := Qh p9 70 [iV x0.Id, .slice A4 x0.Values.length c5]
 refine rd2 7 [6] (s := [I1]) (s2 := [Qh p10 70 [iV 0, .slice none 0 0], I1]) (pk [1]) idM ?_
 refine qtD 7 0 1 rfl (vf Qdv rfl Qf) ?_
 refine qtD 7 1 3 rfl (vl 1 0 Qs) ?_
 refine qtD 7 2 7 rfl (vf Qdv rfl Qao) ?_
 refine qtD 7 3 15 rfl (vl 1 1 Qq) ?_
 refine qoD 7 4 31 rfl ?_
 refine wcl (tSl Qa 3) x0.Values (Qr Qkl rfl) (fun W hm => Qko W _ x0.Values (hm.rdS0 r7) s_0) (fun z11 => ?_)
 refine fm 0 ?_
 rintro A12 c13 rfl m14
 refine qnD (pk [2]) (pk [1, 2]) ?_
 refine qtD 7 5 63 rfl (fun W hm => Qef (cs := [iV x0.Id, .slice A12 x0.Values.length c13]) rfl (by kernel_rfl)) ?_
 refine qoD 7 6 127 rfl ?_
 refine sb 0 [iV x0.Id, .slice A12 x0.Values.length c13] [iS Qa 3 A12 c13 x0.Values, I1] (pk [1, 0, 2]) Qcg ?_
 refine qxD (pk [2]) ?_
 refine Qed (by kernel_rfl) ?_
 refine Qd (Qj ?_)
 have he16 := (show Qyt x0 = x0 from rfl)
 refine Qcu rfl (Qdp (n := 0) rfl rfl Qdv Qcg rfl) (fun W hm => ⟨[iV x0.Id, .slice A12 x0.Values.length c13], ?_, ?_⟩)
 ·first | rw [he16] | rfl
 rw [he16]; exact Mem.join (is := [iS Qa 3 A12 c13 x0.Values]) (js := []) (fun _ _ hs => Qjq (x := x0) hs) (hm.pick [1] (by decide))
theorem Qatw (x0 : Qab) : Qyt x0 = x0 := by
 rfl
theorem Qatv (w : World) (z0 : List Value) (x0 : Qab) (r_0 : Qap.rd w w.heap.size z0 x0) (s_0 : Qgm 68719476736 x0) :
  Calls Tryz.prog 206 #[.agg z0.toArray] w (rO w Qap x0) := by
 have h := Qatu w z0 x0 r_0 s_0
 rw [Qatw] at h
 exact h

def Qyu (x0 : (List Qab)) (k9 : Nat) (d10 : (List Qab)) : (List Qab) ⊕ ((List Qab)) :=
 Sum.inr (d10 ++ [(gt x0 k9)])
def Qun (x0 : (List Qab)) : (List Qab) :=
 Sum.elim id (fun (s : (List Qab)) => s) (rng (R := (List Qab)) (fun k (s : (List Qab)) => Qyu x0 k s) (x0.length - 0) 0 [])
theorem Qadw : Cb Tryz.prog 183 := ⟨f183, _, func183, rfl, by decide⟩
theorem Qatx (w : World) (z0 : Value) (x0 : (List Qab)) (r_0 : rdS Qap w w.heap.size z0 x0) (s_0 : (x0.length ≤ 68719476736 ∧ ∀ y ∈ x0, Qgm 68719476736 y)) :
  Calls Tryz.prog 183 #[z0] w (rL w (tSl Qap 70) (Qun x0)) := by
 obtain ⟨m1, A2, c3, rfl, q4, r5⟩ := Qi r_0
 have l6 : x0.length ≤ 68719476736 := s_0.1
 refine ce1 (L := [(0, .slice A2 x0.length c3)]) (N := 20) func183 ?_
 refine sr (wa (nt' (sr ?_)))
 refine Qcf (E := Qap) Qci Qcg (Qk rfl) (by decide) (fun p7 => ?_)
 refine wa (nt' (Qe (sr (wm ?_))))
 refine wv (Qag Qci) ?_
 refine wm (nt' (Qx ?_))
 refine Qbg (S := (List Qab)) (R := Option Addr × Nat) (fun k (s : (List Qab)) => Qyu x0 k s) x0.length 0 [] ((sA p7), 0) (fun s => [(3, .slice s.2.2.1 s.2.1.length s.2.2.2), (7, .slice A2 x0.length c3), (8, nI x0.length), (9, nI s.1)]) (fun s => [iS Qap 70 s.2.2.1 s.2.2.2 s.2.1]) (fun s => s.2.1.length ≤ 0 + s.1) sl4 (Nat.le_refl _) ?_
 rintro ⟨k9, d10, ⟨A11, c12⟩⟩ H15 _ _ e e'
 dsimp only at H15 ⊢
 subst e e'
 obtain ⟨hk13, hF14, hi16⟩ := H15
 refine sr ?_
 refine wv Qai ?_
 refine nt' (Qe ?_)
 rcases dcl k9 x0.length with ⟨hl17, g18⟩ | ⟨hl17, g18⟩
 ·
  refine Ql rfl g18 ?_
  refine Qp (Qd (Qe (Qx (sr ?_))))
  obtain ⟨a19, rfl, hb20, he21⟩ := q4 (by omega)
  refine wv (vix 2 k9 Qci Qcg) ?_
  obtain ⟨_, e25, hc22⟩ := he21 k9 _ (Qbs (show k9 < x0.length from by omega))
  obtain ⟨v23, rfl, r24⟩ := Qin e25
  have l26 : ((gt x0 k9).Values).length ≤ 68719476736 := (s_0.2 _ (Qak (show k9 < x0.length from by omega)))
  obtain ⟨m27, A28, c29, rfl, q30, r31⟩ := Qi r24
  let K1 : List Value := [iV ((gt x0 k9).Id), .slice A28 ((gt x0 k9).Values).length c29]
  refine wv (fun W hm => Qad (cs := K1) Qdv Qcg rfl rfl (hm.elCells (show (a19.add (k9 * 2)).block < w.heap.size from by rw [Qae]; exact hb20.1) hc22)) ?_
  refine Qbm Qcg rfl (Qk rfl) (by decide) (fun p32 => ?_)
  refine sb 0 K1 [iS Qap 70 A11 c12 d10] idM Qcg ?_
  refine nt' (Qy (wm ?_))
  refine wv (fun W hm => Qad (cs := K1) Qdv Qcg rfl rfl (hm.boxCells (n := 0) rfl)) ?_
  refine wcs Qap (gt x0 k9) (Qr Qaoz rfl) (fun W hm => Qatv W _ (gt x0 k9) (Qjr (x := (gt x0 k9)) (hm.rdS0 r31)) (s_0.2 _ (Qak (show k9 < x0.length from by omega)))) (fun z33 => ?_)
  refine Qmv ?_
  rintro v34 rfl
  refine fm 0 ?_
  rintro A35 c36 rfl m37
  let K2 : List Value := [iV ((gt x0 k9).Id), .slice A35 ((gt x0 k9).Values).length c36]
  refine Qde (cs := K2) Qci Qcg rfl (by decide) (by decide) rfl (by kernel_rfl) (Qk rfl) (by decide) (fun p39 => ?_)
  refine ap1 Qap 70 (.slice A11 d10.length c12) d10 (gt x0 k9) [iS Qa 3 A35 c36 ((gt x0 k9).Values)] [Qh p32 70 K1] K2 (pk [0, 3, 1, 2]) (fun _ _ hs => Els.single (Qjq (x := (gt x0 k9)) hs)) Qci Qcg (show (d10.length + 1) * 32 ≤ 140737488355328 from by omega) (fun v40 => ?_)
  refine fm 0 ?_
  rintro A41 c42 rfl m43
  refine wa (Qac (Qam (Qd (Qy ?_))))
  refine wv (Qal k9 1 (by omega)) ?_
  refine wm (Qac ?_)
  exact Qan (k9 + 1, (d10 ++ [(gt x0 k9)]), (A41, c42)) sl4 (pk [0]) ⟨(by omega), nx hF14 (rfl), (show (d10 ++ [(gt x0 k9)]).length ≤ 0 + (k9 + 1) from by first | omega | (simp only [List.length_append, List.length_cons, List.length_nil] at *; omega))⟩ rl
 refine Qm rfl g18 ?_
 refine Qay (Qu (Qu ?_))
 have hE46 := Qbh hl17 hF14
 refine Qaz (Qd (sr (wm (wa (nt' (Qj ?_))))))
 have he47 := (show Qun x0 = d10 from Qar hE46 (rfl))
 refine Qcu rfl (Qdl rfl) (fun W hm => ⟨.slice A11 d10.length c12, ?_, ?_⟩)
 ·first | rw [he47] | rfl
 rw [he47]; exact hm
theorem Qaty (x0 : (List Qab)) : Qun x0 = x0 := by
 unfold Qun; rw [Qjc (xs := x0) (b := fun k s => Qyu x0 k s) (fun _ _ => rfl)]; rfl
theorem Qafm (w : World) (z0 : Value) (x0 : (List Qab)) (r_0 : rdS Qap w w.heap.size z0 x0) (s_0 : (x0.length ≤ 68719476736 ∧ ∀ y ∈ x0, Qgm 68719476736 y)) :
  Calls Tryz.prog 183 #[z0] w (rL w (tSl Qap 70) x0) := by
 have h := Qatx w z0 x0 r_0 s_0
 rw [Qaty] at h
 exact h

def Qyl (x0 : Qw) : Qw :=
 x0
theorem Qanu : Cb Tryz.prog 139 := ⟨f139, _, func139, rfl, by decide⟩
theorem Qatf (w : World) (z0 : List Value) (x0 : Qw) (r_0 : Qah.rd w w.heap.size z0 x0) (s_0 : Qjf 68719476736 x0) :
  Calls Tryz.prog 139 #[.agg z0.toArray] w (rO w Qah (Qyl x0)) := by
 obtain ⟨v1, v3, v5, v7, rfl, r2, r4, r6, r8⟩ := Qgp r_0
 obtain ⟨m9, A10, c11, rfl, q12, r13⟩ := Qi r2
 obtain ⟨m14, A15, c16, rfl, q17, r18⟩ := Qi r4
 obtain ⟨m19, A20, c21, rfl, q22, r23⟩ := Qi r6
 obtain ⟨m24, A25, c26, rfl, q27, r28⟩ := Qi r8
 have l29 := s_0.1.1
 have l30 := s_0.1.2
 have l31 := s_0.2.1
 have l32 := s_0.2.2.1
 refine ce1 (L := [(0, .agg #[iV x0.Query.Id, iV x0.Query.Tenant, .slice A10 x0.Query.Conds.length c11, .slice A15 x0.Query.Out.length c16, iV x0.Time, .slice A20 x0.Todo.length c21, iV x0.Age, iV x0.Sent, iV x0.Cap, .slice A25 x0.Rows.length c26])]) (N := 16) func139 ?_
 refine sr ?_
 refine Qbn rfl (Qk rfl) (by decide) (fun p33 => ?_)
 refine Qbm Qbe rfl (Qk rfl) (by decide) (fun p34 => ?_)
 refine nt' (Qe ?_)
 let K1 : List Value := [iV 0, iV 0, .slice none 0 0, .slice none 0 0, iV 0, .slice none 0 0, iV 0, iV 0, iV 0, .slice none 0 0]
 refine rd2 15 [10, 12, 14] (s := [Qh p34 61 K1]) (s2 := [Qh p34 61 K1, Qh p33 61 [iV x0.Query.Id, iV x0.Query.Tenant, .slice A10 x0.Query.Conds.length c11, .slice A15 x0.Query.Out.length c16, iV x0.Time, .slice A20 x0.Todo.length c21, iV x0.Age, iV x0.Sent, iV x0.Cap, .slice A25 x0.Rows.length c26]]) (pk [0]) idM ?_
 refine qtD 15 0 1 rfl (vf Qaj rfl Qbj) ?_
 refine qtD 15 1 3 rfl (fun W hm => Qad (cs := [iV x0.Query.Id, iV x0.Query.Tenant, .slice A10 x0.Query.Conds.length c11, .slice A15 x0.Query.Out.length c16]) Qbq Qbj rfl rfl (hm.boxPart (n := 1) rfl rfl)) ?_
 refine qtD 15 3 11 rfl (vf Qaj rfl Qao) ?_
 refine qtD 15 4 27 rfl (vl 1 5 Qq) ?_
 refine qtD 15 6 91 rfl (vf Qaj rfl Qdt) ?_
 refine qtD 15 7 219 rfl (vl 1 9 Qci) ?_
 refine qoD 15 2 223 rfl ?_
 refine wcs Qcm x0.Query (Qr Qadh rfl) (fun W hm => Qafl W _ x0.Query (Qhg (x := x0.Query) (hm.rdS0 r13) (hm.rdS0 r18)) s_0.1) (fun z35 => ?_)
 refine Qpf ?_
 rintro ⟨v36, v37⟩ rfl
 refine fm 0 ?_
 rintro A38 c39 rfl m40
 refine fm 1 ?_
 rintro A42 c43 rfl m44
 refine qnD (pk [2]) (pk [2, 3]) ?_
 refine qtD 15 9 735 rfl (vf Qaj rfl Qbj) ?_
 refine qoD 15 5 767 rfl ?_
 refine wcl (tSl Qa 3) x0.Todo (Qr Qkl rfl) (fun W hm => Qko W _ x0.Todo (hm.rdS0 r23) s_0.2.1) (fun z46 => ?_)
 refine fm 0 ?_
 rintro A47 c48 rfl m49
 refine qnD (pk [3]) (pk [3, 4]) ?_
 refine qoD 15 8 1023 rfl ?_
 refine wcl (tSl Qap 70) x0.Rows (Qr Qadw rfl) (fun W hm => Qafm W _ x0.Rows (hm.rdS0 r28) s_0.2.2) (fun z51 => ?_)
 refine fm 0 ?_
 rintro A52 c53 rfl m54
 refine qnD (pk [4]) (pk [4, 5]) ?_
 refine qoD 15 10 2047 rfl ?_
 let J3 : List It := [iS Qap 70 A52 c53 x0.Rows, iS Qa 3 A47 c48 x0.Todo, iS Qbl 180 A38 c39 x0.Query.Conds, iS Qa 3 A42 c43 x0.Query.Out, Qh p34 61 K1]
 refine sb 0 [iV x0.Query.Id, iV x0.Query.Tenant, .slice A38 x0.Query.Conds.length c39, .slice A42 x0.Query.Out.length c43, iV x0.Time, .slice A20 x0.Todo.length c21, iV x0.Age, iV x0.Sent, iV x0.Cap, .slice A25 x0.Rows.length c26] J3 (pk [5, 0, 1, 2, 3, 4]) Qbj ?_
 refine qxD (pk [5]) ?_
 refine qt 15 11 4095 rfl (vf Qaj rfl Qao) ?_
 refine qo 15 12 8191 rfl ?_
 refine sb 5 [iV x0.Query.Id, iV x0.Query.Tenant, .slice A38 x0.Query.Conds.length c39, .slice A42 x0.Query.Out.length c43, iV x0.Time, .slice A47 x0.Todo.length c48, iV x0.Age, iV x0.Sent, iV x0.Cap, .slice A25 x0.Rows.length c26] J3 idM Qao ?_
 refine qn (pk [5]) ?_
 refine qt 15 13 16383 rfl (vf Qaj rfl Qdt) ?_
 refine qo 15 14 32767 rfl ?_
 let K2 : List Value := [iV x0.Query.Id, iV x0.Query.Tenant, .slice A38 x0.Query.Conds.length c39, .slice A42 x0.Query.Out.length c43, iV x0.Time, .slice A47 x0.Todo.length c48, iV x0.Age, iV x0.Sent, iV x0.Cap, .slice A52 x0.Rows.length c53]
 refine sb 9 K2 J3 idM Qdt ?_
 refine qn (pk [5]) ?_
 refine Qed (by kernel_rfl) ?_
 refine Qd (sr ?_)
 refine wv (fun W hm => Qad (cs := K2) Qaj Qbe rfl rfl (hm.boxCells (n := 0) rfl)) ?_
 refine sb 0 K2 [Qh p33 61 K2, iS Qap 70 A52 c53 x0.Rows, iS Qa 3 A47 c48 x0.Todo, iS Qbl 180 A38 c39 x0.Query.Conds, iS Qa 3 A42 c43 x0.Query.Out] (pk [5, 0, 1, 2, 3, 4]) Qbe ?_
 refine nt' (Qj ?_)
 have he56 := (show Qyl x0 = x0 from rfl)
 refine Qcu rfl (Qdp (n := 0) rfl rfl Qaj Qbe rfl) (fun W hm => ⟨K2, ?_, ?_⟩)
 ·first | rw [he56] | rfl
 rw [he56]; exact Mem.join (is := [iS Qbl 180 A38 c39 x0.Query.Conds, iS Qa 3 A42 c43 x0.Query.Out, iS Qa 3 A47 c48 x0.Todo, iS Qap 70 A52 c53 x0.Rows]) (js := []) (fun _ _ hs => Qho (x := x0) hs) (hm.pick [4, 5, 3, 2] (by decide))
theorem Qath (x0 : Qw) : Qyl x0 = x0 := by
 rfl
theorem Qatg (w : World) (z0 : List Value) (x0 : Qw) (r_0 : Qah.rd w w.heap.size z0 x0) (s_0 : Qjf 68719476736 x0) :
  Calls Tryz.prog 139 #[.agg z0.toArray] w (rO w Qah x0) := by
 have h := Qatf w z0 x0 r_0 s_0
 rw [Qath] at h
 exact h

def Qyq (x0 : Qav) : Qav :=
 x0
theorem Qanj : Cb Tryz.prog 125 := ⟨f125, _, func125, rfl, by decide⟩
theorem Qatn (w : World) (z0 : List Value) (x0 : Qav) (r_0 : Qas.rd w w.heap.size z0 x0) (s_0 : Qjg 68719476736 x0) :
  Calls Tryz.prog 125 #[.agg z0.toArray] w (rO w Qas (Qyq x0)) := by
 obtain ⟨v1, v3, v5, rfl, r2, r4, r6⟩ := Qlz r_0
 obtain ⟨m7, A8, c9, rfl, q10, r11⟩ := Qi r2
 obtain ⟨m12, A13, c14, rfl, q15, r16⟩ := Qi r4
 obtain ⟨m17, A18, c19, rfl, q20, r21⟩ := Qi r6
 have l22 := s_0.1.1
 have l23 := s_0.1.2
 have l24 := s_0.2.1
 refine ce1 (L := [(0, .agg #[iV x0.Query.Id, iV x0.Query.Tenant, .slice A8 x0.Query.Conds.length c9, .slice A13 x0.Query.Out.length c14, iV x0.Time, iV x0.Steps, .slice A18 x0.Rows.length c19])]) (N := 12) func125 ?_
 refine sr ?_
 refine Qbn rfl (Qk rfl) (by decide) (fun p25 => ?_)
 refine Qbm Qcq rfl (Qk rfl) (by decide) (fun p26 => ?_)
 refine nt' (Qe ?_)
 let K1 : List Value := [iV 0, iV 0, .slice none 0 0, .slice none 0 0, iV 0, iV 0, .slice none 0 0]
 refine rd2 10 [7, 9] (s := [Qh p26 80 K1]) (s2 := [Qh p26 80 K1, Qh p25 80 [iV x0.Query.Id, iV x0.Query.Tenant, .slice A8 x0.Query.Conds.length c9, .slice A13 x0.Query.Out.length c14, iV x0.Time, iV x0.Steps, .slice A18 x0.Rows.length c19]]) (pk [0]) idM ?_
 refine qtD 10 0 1 rfl (vf Qda rfl Qbj) ?_
 refine qtD 10 1 3 rfl (fun W hm => Qad (cs := [iV x0.Query.Id, iV x0.Query.Tenant, .slice A8 x0.Query.Conds.length c9, .slice A13 x0.Query.Out.length c14]) Qbq Qbj rfl rfl (hm.boxPart (n := 1) rfl rfl)) ?_
 refine qtD 10 3 11 rfl (vf Qda rfl Qdt) ?_
 refine qtD 10 4 27 rfl (vl 1 6 Qci) ?_
 refine qoD 10 2 31 rfl ?_
 refine wcs Qcm x0.Query (Qr Qadh rfl) (fun W hm => Qafl W _ x0.Query (Qhg (x := x0.Query) (hm.rdS0 r11) (hm.rdS0 r16)) s_0.1) (fun z27 => ?_)
 refine Qpf ?_
 rintro ⟨v28, v29⟩ rfl
 refine fm 0 ?_
 rintro A30 c31 rfl m32
 refine fm 1 ?_
 rintro A34 c35 rfl m36
 refine qnD (pk [2]) (pk [2, 3]) ?_
 refine qtD 10 6 95 rfl (vf Qda rfl Qbj) ?_
 refine qoD 10 5 127 rfl ?_
 refine wcl (tSl Qap 70) x0.Rows (Qr Qadw rfl) (fun W hm => Qafm W _ x0.Rows (hm.rdS0 r21) s_0.2) (fun z38 => ?_)
 refine fm 0 ?_
 rintro A39 c40 rfl m41
 refine qnD (pk [3]) (pk [3, 4]) ?_
 refine qoD 10 7 255 rfl ?_
 let J3 : List It := [iS Qap 70 A39 c40 x0.Rows, iS Qbl 180 A30 c31 x0.Query.Conds, iS Qa 3 A34 c35 x0.Query.Out, Qh p26 80 K1]
 refine sb 0 [iV x0.Query.Id, iV x0.Query.Tenant, .slice A30 x0.Query.Conds.length c31, .slice A34 x0.Query.Out.length c35, iV x0.Time, iV x0.Steps, .slice A18 x0.Rows.length c19] J3 (pk [4, 0, 1, 2, 3]) Qbj ?_
 refine qxD (pk [4]) ?_
 refine qt 10 8 511 rfl (vf Qda rfl Qdt) ?_
 refine qo 10 9 1023 rfl ?_
 let K2 : List Value := [iV x0.Query.Id, iV x0.Query.Tenant, .slice A30 x0.Query.Conds.length c31, .slice A34 x0.Query.Out.length c35, iV x0.Time, iV x0.Steps, .slice A39 x0.Rows.length c40]
 refine sb 6 K2 J3 idM Qdt ?_
 refine qn (pk [4]) ?_
 refine Qed (by kernel_rfl) ?_
 refine Qd (sr ?_)
 refine wv (fun W hm => Qad (cs := K2) Qda Qcq rfl rfl (hm.boxCells (n := 0) rfl)) ?_
 refine sb 0 K2 [Qh p25 80 K2, iS Qap 70 A39 c40 x0.Rows, iS Qbl 180 A30 c31 x0.Query.Conds, iS Qa 3 A34 c35 x0.Query.Out] (pk [4, 0, 1, 2, 3]) Qcq ?_
 refine nt' (Qj ?_)
 have he43 := (show Qyq x0 = x0 from rfl)
 refine Qcu rfl (Qdp (n := 0) rfl rfl Qda Qcq rfl) (fun W hm => ⟨K2, ?_, ?_⟩)
 ·first | rw [he43] | rfl
 rw [he43]; exact Mem.join (is := [iS Qbl 180 A30 c31 x0.Query.Conds, iS Qa 3 A34 c35 x0.Query.Out, iS Qap 70 A39 c40 x0.Rows]) (js := []) (fun _ _ hs => Qly (x := x0) hs) (hm.pick [3, 4, 2] (by decide))
theorem Qatp (x0 : Qav) : Qyq x0 = x0 := by
 rfl
theorem Qato (w : World) (z0 : List Value) (x0 : Qav) (r_0 : Qas.rd w w.heap.size z0 x0) (s_0 : Qjg 68719476736 x0) :
  Calls Tryz.prog 125 #[.agg z0.toArray] w (rO w Qas x0) := by
 have h := Qatn w z0 x0 r_0 s_0
 rw [Qatp] at h
 exact h

def Qym (x0 : Qbc) : Qbc :=
 x0
theorem Qanv : Cb Tryz.prog 140 := ⟨f140, _, func140, rfl, by decide⟩
theorem Qati (w : World) (z0 : List Value) (x0 : Qbc) (r_0 : Qaq.rd w w.heap.size z0 x0) (s_0 : Qil 68719476736 x0) :
  Calls Tryz.prog 140 #[.agg z0.toArray] w (rO w Qaq (Qym x0)) := by
 obtain ⟨v1, v3, v5, rfl, r2, r4, r6⟩ := Qjn r_0
 obtain ⟨m7, A8, c9, rfl, q10, r11⟩ := Qi r2
 obtain ⟨m12, A13, c14, rfl, q15, r16⟩ := Qi r4
 obtain ⟨m17, A18, c19, rfl, q20, r21⟩ := Qi r6
 have l22 := s_0.1
 have l23 := s_0.2.1
 have l24 := s_0.2.2
 refine ce1 (L := [(0, .agg #[iV x0.Segment, iV x0.Base, .slice A8 x0.Ids.length c9, .slice A13 x0.Tenants.length c14, .slice A18 x0.Rows.length c19])]) (N := 16) func140 ?_
 refine sr ?_
 refine Qbn rfl (Qk rfl) (by decide) (fun p25 => ?_)
 refine Qbm Qcs rfl (Qk rfl) (by decide) (fun p26 => ?_)
 refine nt' (Qe ?_)
 let K1 : List Value := [iV 0, iV 0, .slice none 0 0, .slice none 0 0, .slice none 0 0]
 refine rd2 15 [10, 12, 14] (s := [Qh p26 102 K1]) (s2 := [Qh p26 102 K1, Qh p25 102 [iV x0.Segment, iV x0.Base, .slice A8 x0.Ids.length c9, .slice A13 x0.Tenants.length c14, .slice A18 x0.Rows.length c19]]) (pk [0]) idM ?_
 refine qtD 15 0 1 rfl (vf Qby rfl Qao) ?_
 refine qtD 15 1 3 rfl (vl 1 2 Qq) ?_
 refine qtD 15 3 11 rfl (vf Qby rfl Qao) ?_
 refine qtD 15 4 27 rfl (vl 1 3 Qq) ?_
 refine qtD 15 6 91 rfl (vf Qby rfl Qao) ?_
 refine qtD 15 7 219 rfl (vl 1 4 Qq) ?_
 refine qoD 15 2 223 rfl ?_
 refine wcl (tSl Qa 3) x0.Ids (Qr Qkl rfl) (fun W hm => Qko W _ x0.Ids (hm.rdS0 r11) s_0.1) (fun z27 => ?_)
 refine fm 0 ?_
 rintro A28 c29 rfl m30
 refine qnD (pk [1]) (pk [1, 2]) ?_
 refine qtD 15 9 735 rfl (vf Qby rfl Qao) ?_
 refine qoD 15 5 767 rfl ?_
 refine wcl (tSl Qa 3) x0.Tenants (Qr Qkl rfl) (fun W hm => Qko W _ x0.Tenants (hm.rdS0 r16) s_0.2.1) (fun z32 => ?_)
 refine fm 0 ?_
 rintro A33 c34 rfl m35
 refine qnD (pk [2]) (pk [2, 3]) ?_
 refine qoD 15 8 1023 rfl ?_
 refine wcl (tSl Qa 3) x0.Rows (Qr Qkl rfl) (fun W hm => Qko W _ x0.Rows (hm.rdS0 r21) s_0.2.2) (fun z37 => ?_)
 refine fm 0 ?_
 rintro A38 c39 rfl m40
 refine qnD (pk [3]) (pk [3, 4]) ?_
 refine qoD 15 10 2047 rfl ?_
 let J3 : List It := [iS Qa 3 A38 c39 x0.Rows, iS Qa 3 A33 c34 x0.Tenants, iS Qa 3 A28 c29 x0.Ids, Qh p26 102 K1]
 refine sb 2 [iV x0.Segment, iV x0.Base, .slice A28 x0.Ids.length c29, .slice A13 x0.Tenants.length c14, .slice A18 x0.Rows.length c19] J3 (pk [4, 0, 1, 2, 3]) Qao ?_
 refine qxD (pk [4]) ?_
 refine qt 15 11 4095 rfl (vf Qby rfl Qao) ?_
 refine qo 15 12 8191 rfl ?_
 refine sb 3 [iV x0.Segment, iV x0.Base, .slice A28 x0.Ids.length c29, .slice A33 x0.Tenants.length c34, .slice A18 x0.Rows.length c19] J3 idM Qao ?_
 refine qn (pk [4]) ?_
 refine qt 15 13 16383 rfl (vf Qby rfl Qao) ?_
 refine qo 15 14 32767 rfl ?_
 let K2 : List Value := [iV x0.Segment, iV x0.Base, .slice A28 x0.Ids.length c29, .slice A33 x0.Tenants.length c34, .slice A38 x0.Rows.length c39]
 refine sb 4 K2 J3 idM Qao ?_
 refine qn (pk [4]) ?_
 refine Qed (by kernel_rfl) ?_
 refine Qd (sr ?_)
 refine wv (fun W hm => Qad (cs := K2) Qby Qcs rfl rfl (hm.boxCells (n := 0) rfl)) ?_
 refine sb 0 K2 [Qh p25 102 K2, iS Qa 3 A38 c39 x0.Rows, iS Qa 3 A33 c34 x0.Tenants, iS Qa 3 A28 c29 x0.Ids] (pk [4, 0, 1, 2, 3]) Qcs ?_
 refine nt' (Qj ?_)
 have he42 := (show Qym x0 = x0 from rfl)
 refine Qcu rfl (Qdp (n := 0) rfl rfl Qby Qcs rfl) (fun W hm => ⟨K2, ?_, ?_⟩)
 ·first | rw [he42] | rfl
 rw [he42]; exact Mem.join (is := [iS Qa 3 A28 c29 x0.Ids, iS Qa 3 A33 c34 x0.Tenants, iS Qa 3 A38 c39 x0.Rows]) (js := []) (fun _ _ hs => Qmt (x := x0) hs) (hm.pick [4, 3, 2] (by decide))
theorem Qatk (x0 : Qbc) : Qym x0 = x0 := by
 rfl
theorem Qatj (w : World) (z0 : List Value) (x0 : Qbc) (r_0 : Qaq.rd w w.heap.size z0 x0) (s_0 : Qil 68719476736 x0) :
  Calls Tryz.prog 140 #[.agg z0.toArray] w (rO w Qaq x0) := by
 have h := Qati w z0 x0 r_0 s_0
 rw [Qatk] at h
 exact h

def Qyp (x0 : Qo) (k204 : Nat) (d207 : (List Qbc)) : Qo ⊕ ((List Qbc)) :=
 Sum.inr (d207 ++ [(gt x0.Ledger k204)])
def Qyo (x0 : Qo) (k138 : Nat) (d141 : (List Qav)) : Qo ⊕ ((List Qav)) :=
 Sum.inr (d141 ++ [(gt x0.Done k138)])
def Qyn (x0 : Qo) (k59 : Nat) (d62 : (List Qw)) : Qo ⊕ ((List Qw)) :=
 Sum.inr (d62 ++ [(gt x0.Active k59)])
def Qum (x0 : Qo) : Qo :=
 Sum.elim id (fun (s1_ : (List Qw)) => Sum.elim id (fun (s2_ : (List Qav)) => Sum.elim id (fun (s : (List Qbc)) => (⟨x0.Store, x0.Cursor, x0.Order, s1_, s2_, s, x0.Steps⟩ : Qo)) (rng (R := Qo) (fun k (s : (List Qbc)) => Qyp x0 k s) (x0.Ledger.length - 0) 0 [])) (rng (R := Qo) (fun k (s : (List Qav)) => Qyo x0 k s) (x0.Done.length - 0) 0 [])) (rng (R := Qo) (fun k (s : (List Qw)) => Qyn x0 k s) (x0.Active.length - 0) 0 [])
theorem cb68 : Cb Tryz.prog 68 := ⟨f68, _, func68, rfl, by decide⟩
theorem Qatl (w : World) (z0 : List Value) (x0 : Qo) (r_0 : Qcb.rd w w.heap.size z0 x0) (s_0 : Qen 68719476736 x0) :
  Calls Tryz.prog 68 #[.agg z0.toArray] w (rO w Qcb (Qum x0)) := by
 obtain ⟨v1, v3, v5, v7, v9, rfl, r2, r4, r6, r8, r10⟩ := Qia r_0
 obtain ⟨m11, A12, c13, rfl, q14, r15⟩ := Qi r2
 obtain ⟨m16, A17, c18, rfl, q19, r20⟩ := Qi r4
 obtain ⟨m21, A22, c23, rfl, q24, r25⟩ := Qi r6
 obtain ⟨m26, A27, c28, rfl, q29, r30⟩ := Qi r8
 obtain ⟨m31, A32, c33, rfl, q34, r35⟩ := Qi r10
 have l36 : x0.Store.Segments.length ≤ 68719476736 := s_0.1.1
 have l37 := s_0.2.1
 have l38 := s_0.2.2.1.1
 have l39 := s_0.2.2.2.1.1
 have l40 := s_0.2.2.2.2.1
 refine ce1 (L := [(0, .agg #[.slice A12 x0.Store.Segments.length c13, iV x0.Store.Now, iV x0.Cursor, .slice A17 x0.Order.length c18, .slice A22 x0.Active.length c23, .slice A27 x0.Done.length c28, .slice A32 x0.Ledger.length c33, iV x0.Steps])]) (N := 67) func68 ?_
 refine sr ?_
 refine Qbn rfl (Qk rfl) (by decide) (fun p41 => ?_)
 refine Qbm Qbd rfl (Qk rfl) (by decide) (fun p42 => ?_)
 refine nt' (Qe ?_)
 let K1 : List Value := [.slice none 0 0, iV 0, iV 0, .slice none 0 0, .slice none 0 0, .slice none 0 0, .slice none 0 0, iV 0]
 let K2 : List Value := [.slice A12 x0.Store.Segments.length c13, iV x0.Store.Now, iV x0.Cursor, .slice A17 x0.Order.length c18, .slice A22 x0.Active.length c23, .slice A27 x0.Done.length c28, .slice A32 x0.Ledger.length c33, iV x0.Steps]
 let J17 : List It := [Qh p42 39 K1, Qh p41 39 K2]
 refine rd2 13 [12] (s := J17) (s2 := J17) idM idM ?_
 refine Qrj (σ := Option Addr × Nat × Option Addr × Nat × Nat) (fun s => J17) 13 4095 1 (fun s => [(1, bp p41), (2, bp p42), (20, .agg #[.slice s.1 x0.Store.Segments.length s.2.1, iV x0.Store.Now, iV x0.Cursor, .slice s.2.2.1 x0.Order.length s.2.2.2.1, .slice none 0 0, .slice none 0 0, .slice none 0 0, iV x0.Steps]), (3, .pointer (some (⟨s.2.2.2.2, 0, none⟩ : Addr)))]) (fun s => (Qh s.2.2.2.2 39 K1 :: iS Qa 3 s.2.2.1 s.2.2.2.1 x0.Order :: iS (tSl Qaf 163) 100 s.1 s.2.1 x0.Store.Segments :: J17)) ?_ (fun H => ?_)
 ·
  rintro ⟨A45, c46, A50, c51, p54⟩
  let I16 : It := iS (tSl Qaf 163) 100 A45 c46 x0.Store.Segments
  show QD _ _ _ _ _ _ _ _ [(1, bp p41), (2, bp p42), (20, .agg #[.slice A45 x0.Store.Segments.length c46, iV x0.Store.Now, iV x0.Cursor, .slice A50 x0.Order.length c51, .slice none 0 0, .slice none 0 0, .slice none 0 0, iV x0.Steps]), (3, bp p54)] _ J17 _ (Qh p54 39 K1 :: iS Qa 3 A50 c51 x0.Order :: I16 :: J17)
  refine Qll (n := 1) rfl ?_
  intro m55 m56
  refine Qll (n := 2) rfl ?_
  intro m57 m58
  refine qoD 13 12 8191 rfl ?_
  refine sb 0 [.slice A45 x0.Store.Segments.length c46, iV x0.Store.Now, iV x0.Cursor, .slice A50 x0.Order.length c51, .slice none 0 0, .slice none 0 0, .slice none 0 0, iV x0.Steps] (iS Qa 3 A50 c51 x0.Order :: I16 :: J17) idM Qbd ?_
  refine qxD (pk [3, 4]) ?_
  refine Qed (by kernel_rfl) ?_
  refine Qd (Qe (sr ?_))
  refine wv (vf Qz rfl Qcw) ?_
  refine wv (vl 4 4 Qax) ?_
  refine wv (Qag Qax) ?_
  refine wm (nt' (Qx ?_))
  refine Qdw (fun W hm => (hm.addNil (E := Qah) (e := 61)).last) ?_
  refine Qbg (S := (List Qw)) (R := Option Addr × Nat) (fun k (s : (List Qw)) => Qyn x0 k s) x0.Active.length 0 [] (none, 0) (fun s => [(1, bp p41), (2, bp p42), (3, bp p54), (22, .slice A22 x0.Active.length c23), (23, nI x0.Active.length), (24, nI s.1)]) (fun s => [Qh p54 39 [.slice A45 x0.Store.Segments.length c46, iV x0.Store.Now, iV x0.Cursor, .slice A50 x0.Order.length c51, .slice s.2.2.1 s.2.1.length s.2.2.2, .slice none 0 0, .slice none 0 0, iV x0.Steps], iS Qa 3 A50 c51 x0.Order, I16, Qh p42 39 K1, Qh p41 39 K2, iS Qah 61 s.2.2.1 s.2.2.2 s.2.1]) (fun s => s.2.1.length ≤ 0 + s.1) sl6 (Nat.le_refl _) ?_
  rintro ⟨k59, d62, ⟨A63, c64⟩⟩ H67 _ _ e e'
  dsimp only at H67 ⊢
  subst e e'
  obtain ⟨hk65, hF66, hi68⟩ := H67
  refine sr ?_
  refine wv Qai ?_
  refine nt' (Qe ?_)
  rcases dcl k59 x0.Active.length with ⟨hl69, g70⟩ | ⟨hl69, g70⟩
  ·
   refine Ql rfl g70 ?_
   refine Qp (Qd (Qe (Qx (sr ?_))))
   obtain ⟨a71, rfl, hb72, he73⟩ := q24 (by omega)
   refine wv (vix 10 k59 Qax Qbe) ?_
   obtain ⟨_, e83, hc74⟩ := he73 k59 _ (Qbs (show k59 < x0.Active.length from by omega))
   obtain ⟨v75, v77, v79, v81, rfl, r76, r78, r80, r82⟩ := Qgp e83
   have l84 := (s_0.2.2.1.2 _ (Qak (show k59 < x0.Active.length from by omega))).1.1
   have l85 := (s_0.2.2.1.2 _ (Qak (show k59 < x0.Active.length from by omega))).1.2
   have l86 := (s_0.2.2.1.2 _ (Qak (show k59 < x0.Active.length from by omega))).2.1
   have l87 := (s_0.2.2.1.2 _ (Qak (show k59 < x0.Active.length from by omega))).2.2.1
   obtain ⟨m88, A89, c90, rfl, q91, r92⟩ := Qi r76
   obtain ⟨m93, A94, c95, rfl, q96, r97⟩ := Qi r78
   obtain ⟨m98, A99, c100, rfl, q101, r102⟩ := Qi r80
   obtain ⟨m103, A104, c105, rfl, q106, r107⟩ := Qi r82
   let K3 : List Value := [iV ((gt x0.Active k59).Query.Id), iV ((gt x0.Active k59).Query.Tenant), .slice A89 ((gt x0.Active k59).Query.Conds).length c90, .slice A94 ((gt x0.Active k59).Query.Out).length c95, iV ((gt x0.Active k59).Time), .slice A99 ((gt x0.Active k59).Todo).length c100, iV ((gt x0.Active k59).Age), iV ((gt x0.Active k59).Sent), iV ((gt x0.Active k59).Cap), .slice A104 ((gt x0.Active k59).Rows).length c105]
   refine wv (fun W hm => Qad (cs := K3) Qaj Qbe rfl rfl (hm.elCells (show (a71.add (k59 * 10)).block < w.heap.size from by rw [Qae]; exact hb72.1) hc74)) ?_
   refine Qbm Qbe rfl (Qk rfl) (by decide) (fun p108 => ?_)
   let K4 : List Value := [.slice A45 x0.Store.Segments.length c46, iV x0.Store.Now, iV x0.Cursor, .slice A50 x0.Order.length c51, .slice A63 d62.length c64, .slice none 0 0, .slice none 0 0, iV x0.Steps]
   let K5 : List Value := [.slice A12 x0.Store.Segments.length c13, iV x0.Store.Now, iV x0.Cursor, .slice A17 x0.Order.length c18, .slice (some a71) x0.Active.length c23, .slice A27 x0.Done.length c28, .slice A32 x0.Ledger.length c33, iV x0.Steps]
   refine sb 0 K3 [Qh p54 39 K4, iS Qa 3 A50 c51 x0.Order, I16, Qh p42 39 K1, Qh p41 39 K5, iS Qah 61 A63 c64 d62] idM Qbe ?_
   refine nt' ?_
   let J18 : List It := [iS Qa 3 A50 c51 x0.Order, I16, Qh p42 39 K1, Qh p41 39 K5]
   refine rd2 8 [7] (s := (Qh p108 61 K3 :: J18)) (s2 := (Qh p108 61 K3 :: Qh p54 39 K4 :: J18)) (pk [0, 2, 3, 4, 5]) (pk [0, 1, 2, 3, 4, 5]) ?_
   refine qtD 8 0 1 rfl (vf Qz rfl Qcw) ?_
   refine qtD 8 1 3 rfl (vl 1 4 Qax) ?_
   refine qtD 8 2 7 rfl (fun W hm => Qad (cs := K3) Qaj Qbe rfl rfl (hm.boxCells (n := 0) rfl)) ?_
   refine qoD 8 3 15 rfl ?_
   refine wcs Qah (gt x0.Active k59) (Qr Qanu rfl) (fun W hm => Qatg W _ (gt x0.Active k59) (Qrb (x := (gt x0.Active k59)) (hm.rdS0 r92) (hm.rdS0 r97) (hm.rdS0 r102) (hm.rdS0 r107)) (s_0.2.2.1.2 _ (Qak (show k59 < x0.Active.length from by omega)))) (fun z109 => ?_)
   refine Qof ?_
   rintro ⟨v110, v111, v112, v113⟩ rfl
   refine fm 0 ?_
   rintro A114 c115 rfl m116
   refine fm 1 ?_
   rintro A118 c119 rfl m120
   refine fm 2 ?_
   rintro A122 c123 rfl m124
   refine fm 3 ?_
   rintro A126 c127 rfl m128
   refine qnD (pk [4, 6, 7, 8, 9]) (pk [4, 5, 6, 7, 8, 9]) ?_
   refine qoD 8 4 31 rfl ?_
   let K6 : List Value := [iV ((gt x0.Active k59).Query.Id), iV ((gt x0.Active k59).Query.Tenant), .slice A114 ((gt x0.Active k59).Query.Conds).length c115, .slice A118 ((gt x0.Active k59).Query.Out).length c119, iV ((gt x0.Active k59).Time), .slice A122 ((gt x0.Active k59).Todo).length c123, iV ((gt x0.Active k59).Age), iV ((gt x0.Active k59).Sent), iV ((gt x0.Active k59).Cap), .slice A126 ((gt x0.Active k59).Rows).length c127]
   refine Qde (cs := K6) Qax Qbe rfl (by decide) (by decide) rfl (by kernel_rfl) (Qk rfl) (by decide) (fun p130 => ?_)
   refine qnD (pk [5, 7, 8, 9, 10]) (pk [5, 6, 7, 8, 9, 10]) ?_
   refine qoD 8 5 63 rfl ?_
   refine ap1 Qah 61 (.slice A63 d62.length c64) d62 (gt x0.Active k59) [iS Qbl 180 A114 c115 ((gt x0.Active k59).Query.Conds), iS Qa 3 A118 c119 ((gt x0.Active k59).Query.Out), iS Qa 3 A122 c123 ((gt x0.Active k59).Todo), iS Qap 70 A126 c127 ((gt x0.Active k59).Rows)] (Qh p108 61 K3 :: Qh p54 39 K4 :: J18) K6 (pk [0, 11, 1, 2, 3, 4, 5, 6, 7, 8, 9, 10]) (fun _ _ hs => Els.single (Qho (x := (gt x0.Active k59)) hs)) Qax Qbe (show (d62.length + 1) * 144 ≤ 140737488355328 from by omega) (fun v131 => ?_)
   refine fm 0 ?_
   rintro A132 c133 rfl m134
   refine qnD (pk [1, 3, 4, 5, 6]) (pk [1, 2, 3, 4, 5, 6]) ?_
   refine qtD 8 6 127 rfl (vf Qz rfl Qcw) ?_
   refine qoD 8 7 255 rfl ?_
   refine sb 4 [.slice A45 x0.Store.Segments.length c46, iV x0.Store.Now, iV x0.Cursor, .slice A50 x0.Order.length c51, .slice A132 (d62 ++ [(gt x0.Active k59)]).length c133, .slice none 0 0, .slice none 0 0, iV x0.Steps] (iS Qah 61 A132 c133 (d62 ++ [(gt x0.Active k59)]) :: Qh p108 61 K3 :: J18) (pk [2, 0, 1, 3, 4, 5, 6]) Qcw ?_
   refine qxD (pk [2, 3, 4, 5, 6]) ?_
   refine Qed (by kernel_rfl) ?_
   refine Qam (Qd (Qy ?_))
   refine wv (Qal k59 1 (by omega)) ?_
   refine wm (Qac ?_)
   exact Qan (k59 + 1, (d62 ++ [(gt x0.Active k59)]), (A132, c133)) sl6 (pk [0, 3, 4, 5, 6, 1]) ⟨(by omega), nx hF66 (rfl), (show (d62 ++ [(gt x0.Active k59)]).length ≤ 0 + (k59 + 1) from by first | omega | (simp only [List.length_append, List.length_cons, List.length_nil] at *; omega))⟩ rl
  refine Qm rfl g70 ?_
  refine Qay (Qu (Qu ?_))
  have hE137 := Qbh hl69 hF66
  refine Qaz (Qd (Qe (sr ?_)))
  refine wv (vf Qz rfl Qek) ?_
  refine wv (vl 4 5 Qch) ?_
  refine wv (Qag Qch) ?_
  refine wm (nt' (Qx ?_))
  refine Qdw (fun W hm => (hm.addNil (E := Qas) (e := 80)).last) ?_
  refine Qbg (S := (List Qav)) (R := Option Addr × Nat) (fun k (s : (List Qav)) => Qyo x0 k s) x0.Done.length 0 [] (none, 0) (fun s => [(1, bp p41), (2, bp p42), (3, bp p54), (37, .slice A27 x0.Done.length c28), (38, nI x0.Done.length), (39, nI s.1)]) (fun s => [Qh p54 39 [.slice A45 x0.Store.Segments.length c46, iV x0.Store.Now, iV x0.Cursor, .slice A50 x0.Order.length c51, .slice A63 d62.length c64, .slice s.2.2.1 s.2.1.length s.2.2.2, .slice none 0 0, iV x0.Steps], iS Qa 3 A50 c51 x0.Order, I16, Qh p42 39 K1, Qh p41 39 K2, iS Qah 61 A63 c64 d62, iS Qas 80 s.2.2.1 s.2.2.2 s.2.1]) (fun s => s.2.1.length ≤ 0 + s.1) sl6 (Nat.le_refl _) ?_
  rintro ⟨k138, d141, ⟨A142, c143⟩⟩ H146 _ _ e e'
  dsimp only at H146 ⊢
  subst e e'
  obtain ⟨hk144, hF145, hi147⟩ := H146
  refine sr ?_
  refine wv Qai ?_
  refine nt' (Qe ?_)
  rcases dcl k138 x0.Done.length with ⟨hl148, g149⟩ | ⟨hl148, g149⟩
  ·
   refine Ql rfl g149 ?_
   refine Qp (Qd (Qe (Qx (sr ?_))))
   obtain ⟨a150, rfl, hb151, he152⟩ := q29 (by omega)
   refine wv (vix 7 k138 Qch Qcq) ?_
   obtain ⟨_, e160, hc153⟩ := he152 k138 _ (Qbs (show k138 < x0.Done.length from by omega))
   obtain ⟨v154, v156, v158, rfl, r155, r157, r159⟩ := Qlz e160
   have l161 := (s_0.2.2.2.1.2 _ (Qak (show k138 < x0.Done.length from by omega))).1.1
   have l162 := (s_0.2.2.2.1.2 _ (Qak (show k138 < x0.Done.length from by omega))).1.2
   have l163 := (s_0.2.2.2.1.2 _ (Qak (show k138 < x0.Done.length from by omega))).2.1
   obtain ⟨m164, A165, c166, rfl, q167, r168⟩ := Qi r155
   obtain ⟨m169, A170, c171, rfl, q172, r173⟩ := Qi r157
   obtain ⟨m174, A175, c176, rfl, q177, r178⟩ := Qi r159
   let K7 : List Value := [iV ((gt x0.Done k138).Query.Id), iV ((gt x0.Done k138).Query.Tenant), .slice A165 ((gt x0.Done k138).Query.Conds).length c166, .slice A170 ((gt x0.Done k138).Query.Out).length c171, iV ((gt x0.Done k138).Time), iV ((gt x0.Done k138).Steps), .slice A175 ((gt x0.Done k138).Rows).length c176]
   refine wv (fun W hm => Qad (cs := K7) Qda Qcq rfl rfl (hm.elCells (show (a150.add (k138 * 7)).block < w.heap.size from by rw [Qae]; exact hb151.1) hc153)) ?_
   refine Qbm Qcq rfl (Qk rfl) (by decide) (fun p179 => ?_)
   let K8 : List Value := [.slice A45 x0.Store.Segments.length c46, iV x0.Store.Now, iV x0.Cursor, .slice A50 x0.Order.length c51, .slice A63 d62.length c64, .slice A142 d141.length c143, .slice none 0 0, iV x0.Steps]
   let K9 : List Value := [.slice A12 x0.Store.Segments.length c13, iV x0.Store.Now, iV x0.Cursor, .slice A17 x0.Order.length c18, .slice A22 x0.Active.length c23, .slice (some a150) x0.Done.length c28, .slice A32 x0.Ledger.length c33, iV x0.Steps]
   refine sb 0 K7 [Qh p54 39 K8, iS Qa 3 A50 c51 x0.Order, I16, Qh p42 39 K1, Qh p41 39 K9, iS Qah 61 A63 c64 d62, iS Qas 80 A142 c143 d141] idM Qcq ?_
   refine nt' ?_
   let J19 : List It := [iS Qa 3 A50 c51 x0.Order, I16, Qh p42 39 K1, Qh p41 39 K9, iS Qah 61 A63 c64 d62]
   refine rd2 8 [7] (s := (Qh p179 80 K7 :: J19)) (s2 := (Qh p179 80 K7 :: Qh p54 39 K8 :: J19)) (pk [0, 2, 3, 4, 5, 6]) (pk [0, 1, 2, 3, 4, 5, 6]) ?_
   refine qtD 8 0 1 rfl (vf Qz rfl Qek) ?_
   refine qtD 8 1 3 rfl (vl 1 5 Qch) ?_
   refine qtD 8 2 7 rfl (fun W hm => Qad (cs := K7) Qda Qcq rfl rfl (hm.boxCells (n := 0) rfl)) ?_
   refine qoD 8 3 15 rfl ?_
   refine wcs Qas (gt x0.Done k138) (Qr Qanj rfl) (fun W hm => Qato W _ (gt x0.Done k138) (Qabq (x := (gt x0.Done k138)) (hm.rdS0 r168) (hm.rdS0 r173) (hm.rdS0 r178)) (s_0.2.2.2.1.2 _ (Qak (show k138 < x0.Done.length from by omega)))) (fun z180 => ?_)
   refine Qabr ?_
   rintro ⟨v181, v182, v183⟩ rfl
   refine fm 0 ?_
   rintro A184 c185 rfl m186
   refine fm 1 ?_
   rintro A188 c189 rfl m190
   refine fm 2 ?_
   rintro A192 c193 rfl m194
   refine qnD (pk [3, 5, 6, 7, 8, 9]) (pk [3, 4, 5, 6, 7, 8, 9]) ?_
   refine qoD 8 4 31 rfl ?_
   let K10 : List Value := [iV ((gt x0.Done k138).Query.Id), iV ((gt x0.Done k138).Query.Tenant), .slice A184 ((gt x0.Done k138).Query.Conds).length c185, .slice A188 ((gt x0.Done k138).Query.Out).length c189, iV ((gt x0.Done k138).Time), iV ((gt x0.Done k138).Steps), .slice A192 ((gt x0.Done k138).Rows).length c193]
   refine Qde (cs := K10) Qch Qcq rfl (by decide) (by decide) rfl (by kernel_rfl) (Qk rfl) (by decide) (fun p196 => ?_)
   refine qnD (pk [4, 6, 7, 8, 9, 10]) (pk [4, 5, 6, 7, 8, 9, 10]) ?_
   refine qoD 8 5 63 rfl ?_
   refine ap1 Qas 80 (.slice A142 d141.length c143) d141 (gt x0.Done k138) [iS Qbl 180 A184 c185 ((gt x0.Done k138).Query.Conds), iS Qa 3 A188 c189 ((gt x0.Done k138).Query.Out), iS Qap 70 A192 c193 ((gt x0.Done k138).Rows)] (Qh p179 80 K7 :: Qh p54 39 K8 :: J19) K10 (pk [0, 11, 1, 2, 3, 4, 5, 6, 7, 8, 9, 10]) (fun _ _ hs => Els.single (Qly (x := (gt x0.Done k138)) hs)) Qch Qcq (show (d141.length + 1) * 104 ≤ 140737488355328 from by omega) (fun v197 => ?_)
   refine fm 0 ?_
   rintro A198 c199 rfl m200
   refine qnD (pk [1, 3, 4, 5, 6, 7]) (pk [1, 2, 3, 4, 5, 6, 7]) ?_
   refine qtD 8 6 127 rfl (vf Qz rfl Qek) ?_
   refine qoD 8 7 255 rfl ?_
   refine sb 5 [.slice A45 x0.Store.Segments.length c46, iV x0.Store.Now, iV x0.Cursor, .slice A50 x0.Order.length c51, .slice A63 d62.length c64, .slice A198 (d141 ++ [(gt x0.Done k138)]).length c199, .slice none 0 0, iV x0.Steps] (iS Qas 80 A198 c199 (d141 ++ [(gt x0.Done k138)]) :: Qh p179 80 K7 :: J19) (pk [2, 0, 1, 3, 4, 5, 6, 7]) Qek ?_
   refine qxD (pk [2, 3, 4, 5, 6, 7]) ?_
   refine Qed (by kernel_rfl) ?_
   refine Qam (Qd (Qy ?_))
   refine wv (Qal k138 1 (by omega)) ?_
   refine wm (Qac ?_)
   exact Qan (k138 + 1, (d141 ++ [(gt x0.Done k138)]), (A198, c199)) sl6 (pk [0, 3, 4, 5, 6, 7, 1]) ⟨(by omega), nx hF145 (rfl), (show (d141 ++ [(gt x0.Done k138)]).length ≤ 0 + (k138 + 1) from by first | omega | (simp only [List.length_append, List.length_cons, List.length_nil] at *; omega))⟩ rl
  refine Qm rfl g149 ?_
  refine Qay (Qu (Qu ?_))
  have hE203 := Qbh hl148 hF145
  refine Qaz (Qd (Qe (sr ?_)))
  refine wv (vf Qz rfl Qfg) ?_
  refine wv (vl 4 6 Qcx) ?_
  refine wv (Qag Qcx) ?_
  refine wm (nt' (Qx ?_))
  refine Qdw (fun W hm => (hm.addNil (E := Qaq) (e := 102)).last) ?_
  refine Qbg (S := (List Qbc)) (R := Option Addr × Nat) (fun k (s : (List Qbc)) => Qyp x0 k s) x0.Ledger.length 0 [] (none, 0) (fun s => [(2, bp p42), (3, bp p54), (52, .slice A32 x0.Ledger.length c33), (53, nI x0.Ledger.length), (54, nI s.1)]) (fun s => [Qh p54 39 [.slice A45 x0.Store.Segments.length c46, iV x0.Store.Now, iV x0.Cursor, .slice A50 x0.Order.length c51, .slice A63 d62.length c64, .slice A142 d141.length c143, .slice s.2.2.1 s.2.1.length s.2.2.2, iV x0.Steps], iS Qa 3 A50 c51 x0.Order, I16, Qh p42 39 K1, Qh p41 39 K2, iS Qah 61 A63 c64 d62, iS Qas 80 A142 c143 d141, iS Qaq 102 s.2.2.1 s.2.2.2 s.2.1]) (fun s => s.2.1.length ≤ 0 + s.1) sl5 (Nat.le_refl _) ?_
  rintro ⟨k204, d207, ⟨A208, c209⟩⟩ H212 _ _ e e'
  dsimp only at H212 ⊢
  subst e e'
  obtain ⟨hk210, hF211, hi213⟩ := H212
  refine sr ?_
  refine wv Qai ?_
  refine nt' (Qe ?_)
  rcases dcl k204 x0.Ledger.length with ⟨hl214, g215⟩ | ⟨hl214, g215⟩
  ·
   refine Ql rfl g215 ?_
   refine Qp (Qd (Qe (Qx (sr ?_))))
   obtain ⟨a216, rfl, hb217, he218⟩ := q34 (by omega)
   refine wv (vix 5 k204 Qcx Qcs) ?_
   obtain ⟨_, e226, hc219⟩ := he218 k204 _ (Qbs (show k204 < x0.Ledger.length from by omega))
   obtain ⟨v220, v222, v224, rfl, r221, r223, r225⟩ := Qjn e226
   have l227 := (s_0.2.2.2.2.2 _ (Qak (show k204 < x0.Ledger.length from by omega))).1
   have l228 := (s_0.2.2.2.2.2 _ (Qak (show k204 < x0.Ledger.length from by omega))).2.1
   have l229 := (s_0.2.2.2.2.2 _ (Qak (show k204 < x0.Ledger.length from by omega))).2.2
   obtain ⟨m230, A231, c232, rfl, q233, r234⟩ := Qi r221
   obtain ⟨m235, A236, c237, rfl, q238, r239⟩ := Qi r223
   obtain ⟨m240, A241, c242, rfl, q243, r244⟩ := Qi r225
   let K11 : List Value := [iV ((gt x0.Ledger k204).Segment), iV ((gt x0.Ledger k204).Base), .slice A231 ((gt x0.Ledger k204).Ids).length c232, .slice A236 ((gt x0.Ledger k204).Tenants).length c237, .slice A241 ((gt x0.Ledger k204).Rows).length c242]
   refine wv (fun W hm => Qad (cs := K11) Qby Qcs rfl rfl (hm.elCells (show (a216.add (k204 * 5)).block < w.heap.size from by rw [Qae]; exact hb217.1) hc219)) ?_
   refine Qbm Qcs rfl (Qk rfl) (by decide) (fun p245 => ?_)
   let K12 : List Value := [.slice A45 x0.Store.Segments.length c46, iV x0.Store.Now, iV x0.Cursor, .slice A50 x0.Order.length c51, .slice A63 d62.length c64, .slice A142 d141.length c143, .slice A208 d207.length c209, iV x0.Steps]
   let K13 : List Value := [.slice A12 x0.Store.Segments.length c13, iV x0.Store.Now, iV x0.Cursor, .slice A17 x0.Order.length c18, .slice A22 x0.Active.length c23, .slice A27 x0.Done.length c28, .slice (some a216) x0.Ledger.length c33, iV x0.Steps]
   refine sb 0 K11 [Qh p54 39 K12, iS Qa 3 A50 c51 x0.Order, I16, Qh p42 39 K1, Qh p41 39 K13, iS Qah 61 A63 c64 d62, iS Qas 80 A142 c143 d141, iS Qaq 102 A208 c209 d207] idM Qcs ?_
   refine nt' ?_
   let J20 : List It := [iS Qa 3 A50 c51 x0.Order, I16, Qh p42 39 K1, Qh p41 39 K13, iS Qah 61 A63 c64 d62, iS Qas 80 A142 c143 d141]
   refine rd2 8 [7] (s := (Qh p245 102 K11 :: J20)) (s2 := (Qh p245 102 K11 :: Qh p54 39 K12 :: J20)) (pk [0, 2, 3, 4, 5, 6, 7]) (pk [0, 1, 2, 3, 4, 5, 6, 7]) ?_
   refine qtD 8 0 1 rfl (vf Qz rfl Qfg) ?_
   refine qtD 8 1 3 rfl (vl 1 6 Qcx) ?_
   refine qtD 8 2 7 rfl (fun W hm => Qad (cs := K11) Qby Qcs rfl rfl (hm.boxCells (n := 0) rfl)) ?_
   refine qoD 8 3 15 rfl ?_
   refine wcs Qaq (gt x0.Ledger k204) (Qr Qanv rfl) (fun W hm => Qatj W _ (gt x0.Ledger k204) (Qrc (x := (gt x0.Ledger k204)) (hm.rdS0 r234) (hm.rdS0 r239) (hm.rdS0 r244)) (s_0.2.2.2.2.2 _ (Qak (show k204 < x0.Ledger.length from by omega)))) (fun z246 => ?_)
   refine Qwc ?_
   rintro ⟨v247, v248, v249⟩ rfl
   refine fm 0 ?_
   rintro A250 c251 rfl m252
   refine fm 1 ?_
   rintro A254 c255 rfl m256
   refine fm 2 ?_
   rintro A258 c259 rfl m260
   refine qnD (pk [3, 5, 6, 7, 8, 9, 10]) (pk [3, 4, 5, 6, 7, 8, 9, 10]) ?_
   refine qoD 8 4 31 rfl ?_
   let K14 : List Value := [iV ((gt x0.Ledger k204).Segment), iV ((gt x0.Ledger k204).Base), .slice A250 ((gt x0.Ledger k204).Ids).length c251, .slice A254 ((gt x0.Ledger k204).Tenants).length c255, .slice A258 ((gt x0.Ledger k204).Rows).length c259]
   refine Qde (cs := K14) Qcx Qcs rfl (by decide) (by decide) rfl (by kernel_rfl) (Qk rfl) (by decide) (fun p262 => ?_)
   refine qnD (pk [4, 6, 7, 8, 9, 10, 11]) (pk [4, 5, 6, 7, 8, 9, 10, 11]) ?_
   refine qoD 8 5 63 rfl ?_
   refine ap1 Qaq 102 (.slice A208 d207.length c209) d207 (gt x0.Ledger k204) [iS Qa 3 A250 c251 ((gt x0.Ledger k204).Ids), iS Qa 3 A254 c255 ((gt x0.Ledger k204).Tenants), iS Qa 3 A258 c259 ((gt x0.Ledger k204).Rows)] (Qh p245 102 K11 :: Qh p54 39 K12 :: J20) K14 (pk [0, 12, 1, 2, 3, 4, 5, 6, 7, 8, 9, 10, 11]) (fun _ _ hs => Els.single (Qmt (x := (gt x0.Ledger k204)) hs)) Qcx Qcs (show (d207.length + 1) * 88 ≤ 140737488355328 from by omega) (fun v263 => ?_)
   refine fm 0 ?_
   rintro A264 c265 rfl m266
   refine qnD (pk [1, 3, 4, 5, 6, 7, 8]) (pk [1, 2, 3, 4, 5, 6, 7, 8]) ?_
   refine qtD 8 6 127 rfl (vf Qz rfl Qfg) ?_
   refine qoD 8 7 255 rfl ?_
   refine sb 6 [.slice A45 x0.Store.Segments.length c46, iV x0.Store.Now, iV x0.Cursor, .slice A50 x0.Order.length c51, .slice A63 d62.length c64, .slice A142 d141.length c143, .slice A264 (d207 ++ [(gt x0.Ledger k204)]).length c265, iV x0.Steps] (iS Qaq 102 A264 c265 (d207 ++ [(gt x0.Ledger k204)]) :: Qh p245 102 K11 :: J20) (pk [2, 0, 1, 3, 4, 5, 6, 7, 8]) Qfg ?_
   refine qxD (pk [2, 3, 4, 5, 6, 7, 8]) ?_
   refine Qed (by kernel_rfl) ?_
   refine Qam (Qd (Qy ?_))
   refine wv (Qal k204 1 (by omega)) ?_
   refine wm (Qac ?_)
   exact Qan (k204 + 1, (d207 ++ [(gt x0.Ledger k204)]), (A264, c265)) sl5 (pk [0, 3, 4, 5, 6, 7, 8, 1]) ⟨(by omega), nx hF211 (rfl), (show (d207 ++ [(gt x0.Ledger k204)]).length ≤ 0 + (k204 + 1) from by first | omega | (simp only [List.length_append, List.length_cons, List.length_nil] at *; omega))⟩ rl
  refine Qm rfl g215 ?_
  refine Qay (Qu (Qu ?_))
  have hE269 := Qbh hl214 hF211
  refine Qaz (Qd (sr ?_))
  let K15 : List Value := [.slice A45 x0.Store.Segments.length c46, iV x0.Store.Now, iV x0.Cursor, .slice A50 x0.Order.length c51, .slice A63 d62.length c64, .slice A142 d141.length c143, .slice A208 d207.length c209, iV x0.Steps]
  refine wv (fun W hm => Qad (cs := K15) Qz Qbd rfl rfl (hm.boxCells (n := 0) rfl)) ?_
  let J21 : List It := [iS Qah 61 A63 c64 d62, iS Qas 80 A142 c143 d141, iS Qaq 102 A208 c209 d207]
  refine sb 0 K15 (Qh p54 39 K15 :: iS Qa 3 A50 c51 x0.Order :: I16 :: Qh p41 39 K2 :: J21) (pk [3, 0, 1, 2, 4, 5, 6, 7]) Qbd ?_
  refine nt' (Qj ?_)
  have he270 := (show Qum x0 = (⟨x0.Store, x0.Cursor, x0.Order, d62, d141, d207, x0.Steps⟩ : Qo) from Qar hE137 (Qar hE203 (Qar hE269 (rfl))))
  refine Qcu rfl (Qdp (n := 0) rfl rfl Qz Qbd rfl) (fun W hm => ⟨K15, ?_, ?_⟩)
  ·first | rw [he270] | rfl
  rw [he270]; exact Mem.join (is := (I16 :: iS Qa 3 A50 c51 x0.Order :: J21)) (js := []) (fun _ _ hs => Qfk (x := (⟨x0.Store, x0.Cursor, x0.Order, d62, d141, d207, x0.Steps⟩ : Qo)) hs) (hm.pick [3, 2, 5, 6, 7] (by decide))
 refine qtD 13 0 1 rfl (vf Qz rfl Qbt) ?_
 refine qtD 13 1 3 rfl (fun W hm => Qad (cs := [.slice A12 x0.Store.Segments.length c13, iV x0.Store.Now]) Qbw Qbt rfl rfl (hm.boxPart (n := 1) rfl rfl)) ?_
 refine qtD 13 3 11 rfl (vf Qz rfl Qf) ?_
 refine qtD 13 4 27 rfl (vl 1 2 Qs) ?_
 refine qtD 13 5 59 rfl (vf Qz rfl Qao) ?_
 refine qtD 13 6 123 rfl (vl 1 3 Qq) ?_
 refine qtD 13 8 379 rfl (vf Qz rfl Qf) ?_
 refine qtD 13 9 891 rfl (vl 1 7 Qs) ?_
 refine qaD [2, 11] ?_
 refine qcD 13 895 rfl ?_ ?_
 ·
  refine wcs Qdm x0.Store (Qr Qxm rfl) (fun W hm => Qyw W _ x0.Store (Qgc (x := x0.Store) (hm.rdS0 r15)) s_0.1) (fun z271 => ?_)
  refine Qjt ?_
  rintro v272 rfl
  refine fm 0 ?_
  rintro A273 c274 rfl m275
  refine qnD (pk [1, 2]) (pk [1, 2]) ?_
  refine qaD [7, 11] ?_
  refine qcD 13 1023 rfl ?_ ?_
  ·
   refine wcl (tSl Qa 3) x0.Order (Qr Qkl rfl) (fun W hm => Qko W _ x0.Order (hm.rdS0 r20) s_0.2.1) (fun z277 => ?_)
   refine fm 0 ?_
   rintro A278 c279 rfl m280
   refine qnD (pk [2, 3]) (pk [2, 3]) ?_
   refine qtD 13 10 2047 rfl (fun W hm => Qef (cs := [.slice A273 x0.Store.Segments.length c274, iV x0.Store.Now, iV x0.Cursor, .slice A278 x0.Order.length c279, .slice none 0 0, .slice none 0 0, .slice none 0 0, iV x0.Steps]) rfl (by kernel_rfl)) ?_
   refine qoD 13 11 4095 rfl ?_
   refine Qbm Qbd rfl (Qk rfl) (by decide) (fun p282 => ?_)
   refine qnD (pk [3, 4]) (pk [3, 4]) ?_
   exact Qel sl4 idM (H (A273, c274, A278, c279, p282))
  refine qcD 13 2943 rfl ?_ ?_
  ·
   refine Qbm Qbd rfl (Qk rfl) (by decide) (fun p283 => ?_)
   refine qnD (pk [2, 3]) (pk [2, 3]) ?_
   refine qoD 13 7 3071 rfl ?_
   refine wcl (tSl Qa 3) x0.Order (Qr Qkl rfl) (fun W hm => Qko W _ x0.Order (hm.rdS0 r20) s_0.2.1) (fun z284 => ?_)
   refine fm 0 ?_
   rintro A285 c286 rfl m287
   refine qnD (pk [3, 4]) (pk [3, 4]) ?_
   refine qtD 13 10 4095 rfl (fun W hm => Qef (cs := [.slice A273 x0.Store.Segments.length c274, iV x0.Store.Now, iV x0.Cursor, .slice A285 x0.Order.length c286, .slice none 0 0, .slice none 0 0, .slice none 0 0, iV x0.Steps]) rfl (by kernel_rfl)) ?_
   exact Qel sl4 (pk [1, 0, 2, 3, 4]) (H (A273, c274, A285, c286, p283))
  exact Qfm
 refine qcD 13 2939 rfl ?_ ?_
 ·
  refine Qbm Qbd rfl (Qk rfl) (by decide) (fun p289 => ?_)
  refine qnD (pk [1, 2]) (pk [1, 2]) ?_
  refine qoD 13 2 2943 rfl ?_
  refine wcs Qdm x0.Store (Qr Qxm rfl) (fun W hm => Qyw W _ x0.Store (Qgc (x := x0.Store) (hm.rdS0 r15)) s_0.1) (fun z290 => ?_)
  refine Qjt ?_
  rintro v291 rfl
  refine fm 0 ?_
  rintro A292 c293 rfl m294
  refine qnD (pk [2, 3]) (pk [2, 3]) ?_
  refine qoD 13 7 3071 rfl ?_
  refine wcl (tSl Qa 3) x0.Order (Qr Qkl rfl) (fun W hm => Qko W _ x0.Order (hm.rdS0 r20) s_0.2.1) (fun z296 => ?_)
  refine fm 0 ?_
  rintro A297 c298 rfl m299
  refine qnD (pk [3, 4]) (pk [3, 4]) ?_
  refine qtD 13 10 4095 rfl (fun W hm => Qef (cs := [.slice A292 x0.Store.Segments.length c293, iV x0.Store.Now, iV x0.Cursor, .slice A297 x0.Order.length c298, .slice none 0 0, .slice none 0 0, .slice none 0 0, iV x0.Steps]) rfl (by kernel_rfl)) ?_
  exact Qel sl4 (pk [2, 0, 1, 3, 4]) (H (A292, c293, A297, c298, p289))
 exact Qfm
theorem Qatm (x0 : Qo) : Qum x0 = x0 := by
 unfold Qum; rw [Qjc (xs := x0.Active) (b := fun k s => Qyn x0 k s) (fun _ _ => rfl), Qjc (xs := x0.Done) (b := fun k s => Qyo x0 k s) (fun _ _ => rfl), Qjc (xs := x0.Ledger) (b := fun k s => Qyp x0 k s) (fun _ _ => rfl)]; rfl
theorem Qafk (w : World) (z0 : List Value) (x0 : Qo) (r_0 : Qcb.rd w w.heap.size z0 x0) (s_0 : Qen 68719476736 x0) :
  Calls Tryz.prog 68 #[.agg z0.toArray] w (rO w Qcb x0) := by
 have h := Qatl w z0 x0 r_0 s_0
 rw [Qatm] at h
 exact h

def Qpz (x0 : Qo) (x1 : Int) (k37 : Nat) : Int ⊕ (Unit) :=
 cond (((gt x0.Active k37).Query.Id) == x1) (Sum.inl ((k37 : Nat) : Int)) (Sum.inr ())
def Qei (x0 : Qo) (x1 : Int) : Int :=
 Sum.elim id (fun (s : Unit) => (-1)) (rng (R := Int) (fun k (_ : Unit) => Qpz x0 x1 k) (x0.Active.length - 0) 0 ())
theorem cb33 : Cb Tryz.prog 33 := ⟨f33, _, func33, rfl, by decide⟩
theorem Qasn (w : World) (z0 : List Value) (x0 : Qo) (x1 : Int) (r_0 : Qcb.rd w w.heap.size z0 x0) :
  Calls Tryz.prog 33 #[.agg z0.toArray, iV x1] w (rI w (Qei x0 x1)) := by
 obtain ⟨v1, v3, v5, v7, v9, rfl, r2, r4, r6, r8, r10⟩ := Qia r_0
 obtain ⟨m11, A12, c13, rfl, q14, r15⟩ := Qi r2
 obtain ⟨m16, A17, c18, rfl, q19, r20⟩ := Qi r4
 obtain ⟨m21, A22, c23, rfl, q24, r25⟩ := Qi r6
 obtain ⟨m26, A27, c28, rfl, q29, r30⟩ := Qi r8
 obtain ⟨m31, A32, c33, rfl, q34, r35⟩ := Qi r10
 refine ce2 (L := [(0, .agg #[.slice A12 x0.Store.Segments.length c13, iV x0.Store.Now, iV x0.Cursor, .slice A17 x0.Order.length c18, .slice A22 x0.Active.length c23, .slice A27 x0.Done.length c28, .slice A32 x0.Ledger.length c33, iV x0.Steps]), (1, iV x1)]) (N := 22) func33 ?_
 refine sr ?_
 refine Qbn rfl (Qk rfl) (by decide) (fun p36 => ?_)
 refine wa (nt' (Qe (sr ?_)))
 refine wv (vf Qz rfl Qcw) ?_
 refine wv (vl 0 4 Qax) ?_
 refine wv (Qag Qax) ?_
 refine wm (nt' (Qx ?_))
 refine Qbg (S := Unit) (R := Unit) (fun k (_ : Unit) => Qpz x0 x1 k) x0.Active.length 0 () () (fun s => [(1, iV x1), (8, .slice A22 x0.Active.length c23), (9, nI x0.Active.length), (10, nI s.1)]) (fun s => [Qh p36 39 [.slice A12 x0.Store.Segments.length c13, iV x0.Store.Now, iV x0.Cursor, .slice A17 x0.Order.length c18, .slice A22 x0.Active.length c23, .slice A27 x0.Done.length c28, .slice A32 x0.Ledger.length c33, iV x0.Steps]]) (fun s => True) sl4 trivial ?_
 rintro ⟨k37, ⟨⟩, ⟨⟩⟩ H40 _ _ e e'
 dsimp only at H40 ⊢
 subst e e'
 obtain ⟨hk38, hF39, _⟩ := H40
 refine sr ?_
 refine wv Qai ?_
 refine nt' (Qe ?_)
 rcases dcl k37 x0.Active.length with ⟨hl41, g42⟩ | ⟨hl41, g42⟩
 ·
  refine Ql rfl g42 ?_
  refine Qp (Qd (Qe (Qx (sr (wm ?_)))))
  obtain ⟨a43, rfl, hb44, he45⟩ := q24 (by omega)
  refine wv (vix 10 k37 Qax Qbe) ?_
  obtain ⟨_, e55, hc46⟩ := he45 k37 _ (Qbs (show k37 < x0.Active.length from by omega))
  obtain ⟨v47, v49, v51, v53, rfl, r48, r50, r52, r54⟩ := Qgp e55
  obtain ⟨m56, A57, c58, rfl, q59, r60⟩ := Qi r48
  obtain ⟨m61, A62, c63, rfl, q64, r65⟩ := Qi r50
  obtain ⟨m66, A67, c68, rfl, q69, r70⟩ := Qi r52
  obtain ⟨m71, A72, c73, rfl, q74, r75⟩ := Qi r54
  let K1 : List Value := [iV ((gt x0.Active k37).Query.Id), iV ((gt x0.Active k37).Query.Tenant), .slice A57 ((gt x0.Active k37).Query.Conds).length c58, .slice A62 ((gt x0.Active k37).Query.Out).length c63, iV ((gt x0.Active k37).Time), .slice A67 ((gt x0.Active k37).Todo).length c68, iV ((gt x0.Active k37).Age), iV ((gt x0.Active k37).Sent), iV ((gt x0.Active k37).Cap), .slice A72 ((gt x0.Active k37).Rows).length c73]
  refine wv (fun W hm => Qad (cs := K1) Qaj Qbe rfl rfl (hm.elCells (show (a43.add (k37 * 10)).block < w.heap.size from by rw [Qae]; exact hb44.1) hc46)) ?_
  refine Qbm Qbe rfl (Qk rfl) (by decide) (fun p76 => ?_)
  refine wa ?_
  refine sb 0 K1 [Qh p36 39 [.slice A12 x0.Store.Segments.length c13, iV x0.Store.Now, iV x0.Cursor, .slice A17 x0.Order.length c18, .slice (some a43) x0.Active.length c23, .slice A27 x0.Done.length c28, .slice A32 x0.Ledger.length c33, iV x0.Steps]] idM Qbe ?_
  refine nt' (sr ?_)
  refine wv (vf Qaj rfl Qbj) ?_
  refine wv (fun W hm => Qeb (o := 0) Qbq rfl Qf (by decide) rfl rfl) ?_
  refine wv (vl 0 0 Qs) ?_
  refine wm ?_
  refine wv (fun W hm => Qfe rfl rfl) ?_
  refine nt' ?_
  rcases dce ((gt x0.Active k37).Query.Id) x1 with ⟨h77, g78⟩ | ⟨h77, g78⟩
  ·
   refine Ql rfl g78 ?_
   refine sr (wm (wa (nt' (Qj (Qaa (Qg (Qg (Qaa (Qg ?_)))))))))
   exact rti (h := Qbf (nr hF39 (Qb g78 (rfl))) rfl)
  refine Qm rfl g78 ?_
  refine Qp (Qam (Qd (Qy ?_)))
  refine wv (Qal k37 1 (by omega)) ?_
  refine wm (Qac ?_)
  exact Qan (k37 + 1, (), ()) sl4 (pk [1]) ⟨(by omega), nx hF39 (Qc g78 (rfl)), trivial⟩ rl
 refine Qm rfl g42 ?_
 refine Qay (Qu (Qu ?_))
 have hE80 := Qbh hl41 hF39
 refine Qaz (Qd (sr (wa (nt' (Qj ?_)))))
 exact rti (h := Qar hE80 (rfl))

def Qur (x0 : Qau) (x1 : Int) (x2 : Int) (k25 : Nat) (d26 : (List Qab)) : (List Qab) ⊕ ((List Qab)) :=
 cond (Qge (gt (gt x0.Segments (x1.toNat)) k25) x2) (Sum.inr (d26 ++ [(Qhb (gt (gt x0.Segments (x1.toNat)) k25))])) (Sum.inr d26)
def Qdk (x0 : Qau) (x1 : Int) (x2 : Int) : (List Qab) :=
 Sum.elim id (fun (s : (List Qab)) => s) (rng (R := (List Qab)) (fun k (s : (List Qab)) => Qur x0 x1 x2 k s) (((gt x0.Segments (x1.toNat))).length - 0) 0 [])
theorem cb69 : Cb Tryz.prog 69 := ⟨f69, _, func69, rfl, by decide⟩
theorem Qauf (w : World) (z0 : List Value) (x0 : Qau) (x1 : Int) (x2 : Int) (r_0 : Qdm.rd w w.heap.size z0 x0) (s_0 : Qgh 68719476736 x0) (hx1 : 0 ≤ x1 ∧ x1.toNat < x0.Segments.length) :
  Calls Tryz.prog 69 #[.agg z0.toArray, iV x1, iV x2] w (rL w (tSl Qap 70) (Qdk x0 x1 x2)) := by
 obtain ⟨v1, rfl, r2⟩ := Qjs r_0
 obtain ⟨m3, A4, c5, rfl, q6, r7⟩ := Qi r2
 have l8 : x0.Segments.length ≤ 68719476736 := s_0.1
 refine ce3 (L := [(0, .agg #[.slice A4 x0.Segments.length c5, iV x0.Now]), (1, iV x1), (2, iV x2)]) (N := 31) func69 ?_
 refine sr ?_
 refine Qbn rfl (Qk rfl) (by decide) (fun p9 => ?_)
 refine wa (nt' (sr ?_))
 refine Qcf (E := Qap) Qci Qcg (Qk rfl) (by decide) (fun p10 => ?_)
 refine wa (nt' (Qe (sr ?_)))
 refine wv (vf Qbw rfl Qea) ?_
 refine wv (vl 1 0 Qbz) ?_
 refine wm ?_
 obtain ⟨a12, rfl, hb13, he14⟩ := q6 (by omega)
 refine wv (fun W hm => Qgl (sz := 1) (k := x1) Qbz Qfl rfl rfl rfl (by omega) (by omega)) ?_
 obtain ⟨_, e16, hc15⟩ := he14 (x1.toNat) _ (Qbs (show (x1.toNat) < x0.Segments.length from by omega))
 have l17 : (gt x0.Segments (x1.toNat)).length ≤ 68719476736 := (s_0.2 _ (Qak (show (x1.toNat) < x0.Segments.length from by omega))).1
 obtain ⟨v18, rfl, r19⟩ := e16
 obtain ⟨m20, A21, c22, rfl, q23, r24⟩ := Qi r19
 refine wv (fun W hm => Qaw Qbv rfl rfl ((hm.cell0 (show (a12.add ((x1.toNat) * 1)).block < w.heap.size from by rw [Qae]; exact hb13.1)).trans (hc15 0 _ rfl))) ?_
 refine wv (Qag Qbv) ?_
 refine wm (nt' (Qx ?_))
 let I3 : It := Qh p9 34 [.slice (some a12) x0.Segments.length c5, iV x0.Now]
 refine Qbg (S := (List Qab)) (R := Option Addr × Nat) (fun k (s : (List Qab)) => Qur x0 x1 x2 k s) (((gt x0.Segments (x1.toNat))).length) 0 [] ((sA p10), 0) (fun s => [(2, iV x2), (7, .slice s.2.2.1 s.2.1.length s.2.2.2), (15, .slice A21 ((gt x0.Segments (x1.toNat))).length c22), (16, nI (((gt x0.Segments (x1.toNat))).length)), (17, nI s.1)]) (fun s => [iS Qap 70 s.2.2.1 s.2.2.2 s.2.1, I3]) (fun s => s.2.1.length ≤ 0 + s.1) sl5 (Nat.le_refl _) ?_
 rintro ⟨k25, d26, ⟨A27, c28⟩⟩ H31 _ _ e e'
 dsimp only at H31 ⊢
 subst e e'
 obtain ⟨hk29, hF30, hi32⟩ := H31
 refine sr ?_
 refine wv Qai ?_
 refine nt' (Qe ?_)
 rcases dcl k25 (((gt x0.Segments (x1.toNat))).length) with ⟨hl33, g34⟩ | ⟨hl33, g34⟩
 ·
  refine Ql rfl g34 ?_
  refine Qp (Qd (Qe (Qx (sr ?_))))
  obtain ⟨a35, rfl, hb36, he37⟩ := q23 (by omega)
  refine wv (vix 4 k25 Qbv Qbo) ?_
  obtain ⟨_, e41, hc38⟩ := he37 k25 _ (Qbs (show k25 < ((gt x0.Segments (x1.toNat))).length from by omega))
  obtain ⟨v39, rfl, r40⟩ := Qgd e41
  have l42 : ((gt (gt x0.Segments (x1.toNat)) k25).Values).length ≤ 68719476736 := ((s_0.2 _ (Qak (show (x1.toNat) < x0.Segments.length from by omega))).2 _ (Qak (show k25 < ((gt x0.Segments (x1.toNat))).length from by omega)))
  obtain ⟨m43, A44, c45, rfl, q46, r47⟩ := Qi r40
  let K1 : List Value := [iV ((gt (gt x0.Segments (x1.toNat)) k25).Id), .slice A44 ((gt (gt x0.Segments (x1.toNat)) k25).Values).length c45, iV ((gt (gt x0.Segments (x1.toNat)) k25).Born), iV ((gt (gt x0.Segments (x1.toNat)) k25).Died)]
  refine wv (fun W hm => Qad (cs := K1) Qbp Qbo rfl rfl (hm.elCells (show (a35.add (k25 * 4)).block < w.heap.size from by rw [Qae]; exact hb36.1) hc38)) ?_
  refine Qbm Qbo rfl (Qk rfl) (by decide) (fun p48 => ?_)
  refine sb 0 K1 [iS Qap 70 A27 c28 d26, I3] idM Qbo ?_
  refine nt' (sr ?_)
  refine wv (fun W hm => Qad (cs := K1) Qbp Qbo rfl rfl (hm.boxCells (n := 0) rfl)) ?_
  refine wm ?_
  refine wcv (Qr Qtt rfl) (fun W hm => Quh W _ (gt (gt x0.Segments (x1.toNat)) k25) x2 (Qgy (x := (gt (gt x0.Segments (x1.toNat)) k25)) (hm.rdS0 r47))) ?_
  refine nt' ?_
  rcases bd (Qge (gt (gt x0.Segments (x1.toNat)) k25) x2) with g50 | g50
  ·
   refine Ql rfl g50 ?_
   refine Qy (wm ?_)
   refine wv (fun W hm => Qad (cs := K1) Qbp Qbo rfl rfl (hm.boxCells (n := 0) rfl)) ?_
   refine wcs Qap (Qhb (gt (gt x0.Segments (x1.toNat)) k25)) (Qr Qadm rfl) (fun W hm => Qaft W _ (gt (gt x0.Segments (x1.toNat)) k25) (Qgy (x := (gt (gt x0.Segments (x1.toNat)) k25)) (hm.rdS0 r47)) ((s_0.2 _ (Qak (show (x1.toNat) < x0.Segments.length from by omega))).2 _ (Qak (show k25 < ((gt x0.Segments (x1.toNat))).length from by omega)))) (fun z51 => ?_)
   refine Qmv ?_
   rintro v52 rfl
   refine fm 0 ?_
   rintro A53 c54 rfl m55
   let K2 : List Value := [iV ((Qhb (gt (gt x0.Segments (x1.toNat)) k25)).Id), .slice A53 ((Qhb (gt (gt x0.Segments (x1.toNat)) k25)).Values).length c54]
   refine Qde (cs := K2) Qci Qcg rfl (by decide) (by decide) rfl (by kernel_rfl) (Qk rfl) (by decide) (fun p57 => ?_)
   refine ap1 Qap 70 (.slice A27 d26.length c28) d26 (Qhb (gt (gt x0.Segments (x1.toNat)) k25)) [iS Qa 3 A53 c54 ((Qhb (gt (gt x0.Segments (x1.toNat)) k25)).Values)] [Qh p48 163 K1, I3] K2 (pk [0, 3, 1, 2, 4]) (fun _ _ hs => Els.single (Qjq (x := (Qhb (gt (gt x0.Segments (x1.toNat)) k25))) hs)) Qci Qcg (show (d26.length + 1) * 32 ≤ 140737488355328 from by omega) (fun v58 => ?_)
   refine fm 0 ?_
   rintro A59 c60 rfl m61
   refine wa (Qac (Qam (Qd (Qy ?_))))
   refine wv (Qal k25 1 (by omega)) ?_
   refine wm (Qac ?_)
   exact Qan (k25 + 1, (d26 ++ [(Qhb (gt (gt x0.Segments (x1.toNat)) k25))]), (A59, c60)) sl5 (pk [0, 2]) ⟨(by omega), nx hF30 (Qb g50 (rfl)), (show (d26 ++ [(Qhb (gt (gt x0.Segments (x1.toNat)) k25))]).length ≤ 0 + (k25 + 1) from by first | omega | (simp only [List.length_append, List.length_cons, List.length_nil] at *; omega))⟩ (show ((gt x0.Segments (x1.toNat))).length - (k25 + 1) < ((gt x0.Segments (x1.toNat))).length - k25 from by omega)
  refine Qm rfl g50 ?_
  refine Qp (Qam (Qd (Qy ?_)))
  refine wv (Qal k25 1 (by omega)) ?_
  refine wm (Qac ?_)
  exact Qan (k25 + 1, d26, (A27, c28)) sl5 (pk [1, 2]) ⟨(by omega), nx hF30 (Qc g50 (rfl)), (show d26.length ≤ 0 + (k25 + 1) from by first | omega | (simp only [List.length_append, List.length_cons, List.length_nil] at *; omega))⟩ (show ((gt x0.Segments (x1.toNat))).length - (k25 + 1) < ((gt x0.Segments (x1.toNat))).length - k25 from by omega)
 refine Qm rfl g34 ?_
 refine Qay (Qu (Qu ?_))
 have hE65 := Qbh hl33 hF30
 refine Qaz (Qd (sr (wm (wa (nt' (Qj ?_))))))
 have he66 := (show Qdk x0 x1 x2 = d26 from Qar hE65 (rfl))
 refine Qcu rfl (Qdl rfl) (fun W hm => ⟨.slice A27 d26.length c28, ?_, ?_⟩)
 ·first | rw [he66] | rfl
 rw [he66]; exact (hm.pick [0] (by decide))

def Qafj (x0 : Qat) (x1 : Int) (x2 : Int) (k16 : Nat) : Bool ⊕ (Unit) :=
 cond (((gt x0.Conds k16).Field) == x1) (cond (Qcz x2 ((gt x0.Conds k16).Low) ((gt x0.Conds k16).High)) (Sum.inr ()) (Sum.inl false)) (Sum.inr ())
def Qul (x0 : Qat) (x1 : Int) (x2 : Int) : Bool :=
 Sum.elim id (fun (s : Unit) => true) (rng (R := Bool) (fun k (_ : Unit) => Qafj x0 x1 x2 k) (x0.Conds.length - 0) 0 ())
theorem Qanw : Cb Tryz.prog 144 := ⟨f144, _, func144, rfl, by decide⟩
theorem Qatd (w : World) (z0 : List Value) (x0 : Qat) (x1 : Int) (x2 : Int) (r_0 : Qcm.rd w w.heap.size z0 x0) :
  Calls Tryz.prog 144 #[.agg z0.toArray, iV x1, iV x2] w (rB w (Qul x0 x1 x2)) := by
 obtain ⟨v1, v3, rfl, r2, r4⟩ := Qiv r_0
 obtain ⟨m5, A6, c7, rfl, q8, r9⟩ := Qi r2
 obtain ⟨m10, A11, c12, rfl, q13, r14⟩ := Qi r4
 refine ce3 (L := [(0, .agg #[iV x0.Id, iV x0.Tenant, .slice A6 x0.Conds.length c7, .slice A11 x0.Out.length c12]), (1, iV x1), (2, iV x2)]) (N := 30) func144 ?_
 refine sr ?_
 refine Qbn rfl (Qk rfl) (by decide) (fun p15 => ?_)
 refine wa (nt' (Qe (sr ?_)))
 refine wv (vf Qbq rfl Qfu) ?_
 refine wv (vl 0 2 Qct) ?_
 refine wv (Qag Qct) ?_
 refine wm (nt' (Qx ?_))
 refine Qbg (S := Unit) (R := Unit) (fun k (_ : Unit) => Qafj x0 x1 x2 k) x0.Conds.length 0 () () (fun s => [(1, iV x1), (2, iV x2), (10, .slice A6 x0.Conds.length c7), (11, nI x0.Conds.length), (12, nI s.1)]) (fun s => [Qh p15 58 [iV x0.Id, iV x0.Tenant, .slice A6 x0.Conds.length c7, .slice A11 x0.Out.length c12]]) (fun s => True) sl5 trivial ?_
 rintro ⟨k16, ⟨⟩, ⟨⟩⟩ H19 _ _ e e'
 dsimp only at H19 ⊢
 subst e e'
 obtain ⟨hk17, hF18, _⟩ := H19
 refine sr ?_
 refine wv Qai ?_
 refine nt' (Qe ?_)
 rcases dcl k16 x0.Conds.length with ⟨hl20, g21⟩ | ⟨hl20, g21⟩
 ·
  refine Ql rfl g21 ?_
  refine Qp (Qd (Qe (Qx (sr ?_))))
  obtain ⟨a22, rfl, hb23, he24⟩ := q8 (by omega)
  refine wv (vix 3 k16 Qct Qds) ?_
  obtain ⟨_, e26, hc25⟩ := he24 k16 _ (Qbs (show k16 < x0.Conds.length from by omega))
  obtain rfl := Qjo e26
  let K1 : List Value := [iV ((gt x0.Conds k16).Field), iV ((gt x0.Conds k16).Low), iV ((gt x0.Conds k16).High)]
  refine wv (fun W hm => Qad (cs := K1) Qdu Qds rfl rfl (hm.elCells (show (a22.add (k16 * 3)).block < w.heap.size from by rw [Qae]; exact hb23.1) hc25)) ?_
  refine Qbm Qds rfl (Qk rfl) (by decide) (fun p27 => ?_)
  refine sb 0 K1 [Qh p15 58 [iV x0.Id, iV x0.Tenant, .slice (some a22) x0.Conds.length c7, .slice A11 x0.Out.length c12]] idM Qds ?_
  refine nt' (sr ?_)
  refine wv (vf Qdu rfl Qf) ?_
  refine wv (vl 0 0 Qs) ?_
  refine wm ?_
  refine wv (fun W hm => Qfe rfl rfl) ?_
  refine wm ?_
  rcases dce ((gt x0.Conds k16).Field) x1 with ⟨h28, g29⟩ | ⟨h28, g29⟩
  ·
   refine wg vmv g29 ?_
   refine wg (vf Qdu rfl Qf) g29 ?_
   refine wg (vl 0 1 Qs) g29 ?_
   refine wg (vf Qdu rfl Qf) g29 ?_
   refine wg (vl 0 2 Qs) g29 ?_
   refine Qcr (Qr Qfn rfl) (fun W hm => Qfo W x2 ((gt x0.Conds k16).Low) ((gt x0.Conds k16).High)) (Qcc rfl rfl rfl (bw g29 rfl)) (by decide) ?_
   refine wg Qbr g29 ?_
   refine wv (vpT g29) ?_
   refine nt' ?_
   rcases bd (Qcz x2 ((gt x0.Conds k16).Low) ((gt x0.Conds k16).High)) with g31 | g31
   ·
    have hw := Qgf g31
    refine Qm rfl (nt g31) ?_
    refine Qp (Qam (Qd (Qy ?_)))
    refine wv (Qal k16 1 (by omega)) ?_
    refine wm (Qac ?_)
    exact Qan (k16 + 1, (), ()) sl5 (pk [1]) ⟨(by omega), nx hF18 (Qb g29 (Qb g31 (rfl))), trivial⟩ rl
   refine Ql rfl (nf g31) ?_
   refine sr (wa (nt' (Qj (Qaa (Qg (Qg (Qaa (Qg ?_))))))))
   exact rtb (h := Qbf (nr hF18 (Qb g29 (Qc g31 (rfl)))) rfl)
  iterate 8 first | refine ws g29 ?_ | refine wv (vpF g29) ?_
  refine nt' ?_
  refine Qm rfl rfl ?_
  refine Qp (Qam (Qd (Qy ?_)))
  refine wv (Qal k16 1 (by omega)) ?_
  refine wm (Qac ?_)
  exact Qan (k16 + 1, (), ()) sl5 (pk [1]) ⟨(by omega), nx hF18 (Qc g29 (rfl)), trivial⟩ rl
 refine Qm rfl g21 ?_
 refine Qay (Qu (Qu ?_))
 have hE34 := Qbh hl20 hF18
 refine Qaz (Qd (sr (wa (nt' (Qj ?_)))))
 exact rtb (h := Qar hE34 (rfl))

def Qyg (x0 : Qat) (x1 : Qab) (k28 : Nat) : Bool ⊕ (Unit) :=
 cond (Qul x0 ((k28 : Nat) : Int) (gt x1.Values k28)) (Sum.inr ()) (Sum.inl false)
def Qrr (x0 : Qat) (x1 : Qab) : Bool :=
 cond (Qmk x0) (cond (Qml x1) (Sum.elim id (fun (s : Unit) => true) (rng (R := Bool) (fun k (_ : Unit) => Qyg x0 x1 k) (x1.Values.length - 0) 0 ())) false) false
theorem cb70 : Cb Tryz.prog 70 := ⟨f70, _, func70, rfl, by decide⟩
theorem Qast (w : World) (z0 : List Value) (x0 : Qat) (z1 : List Value) (x1 : Qab) (r_0 : Qcm.rd w w.heap.size z0 x0) (r_1 : Qap.rd w w.heap.size z1 x1) :
  Calls Tryz.prog 70 #[.agg z0.toArray, .agg z1.toArray] w (rB w (Qrr x0 x1)) := by
 obtain ⟨v1, v3, rfl, r2, r4⟩ := Qiv r_0
 obtain ⟨m5, A6, c7, rfl, q8, r9⟩ := Qi r2
 obtain ⟨m10, A11, c12, rfl, q13, r14⟩ := Qi r4
 obtain ⟨v15, rfl, r16⟩ := Qin r_1
 obtain ⟨m17, A18, c19, rfl, q20, r21⟩ := Qi r16
 refine ce2 (L := [(0, .agg #[iV x0.Id, iV x0.Tenant, .slice A6 x0.Conds.length c7, .slice A11 x0.Out.length c12]), (1, .agg #[iV x1.Id, .slice A18 x1.Values.length c19])]) (N := 29) func70 ?_
 refine sr ?_
 refine Qbn rfl (Qk rfl) (by decide) (fun p22 => ?_)
 refine Qbn rfl (Qk rfl) (by decide) (fun p23 => ?_)
 refine wa (nt' (Qe (sr ?_)))
 let K1 : List Value := [iV x0.Id, iV x0.Tenant, .slice A6 x0.Conds.length c7, .slice A11 x0.Out.length c12]
 refine wv (fun W hm => Qad (cs := K1) Qbq Qbj rfl rfl (hm.boxCells (n := 1) rfl)) ?_
 refine wcv (Qr Qxj rfl) (fun W hm => Qyd W _ x0 (Qhg (x := x0) (hm.rdS0 r9) (hm.rdS0 r14))) ?_
 refine wv Qbr ?_
 refine wm ?_
 rcases bd (Qmk x0) with g25 | g25
 ·
  refine wg (fun W hm => Qad (cs := [iV x1.Id, .slice A18 x1.Values.length c19]) Qdv Qcg rfl rfl (hm.boxCells (n := 0) rfl)) (nt g25) ?_
  refine Qcr (Qr Qxn rfl) (fun W hm => Qye W _ x1 (Qjr (x := x1) (hm.rdS0 r21))) (Qcc rfl rfl rfl (bw (nt g25) rfl)) (by decide) ?_
  refine wg Qbr (nt g25) ?_
  refine wv (vpF (nt g25)) ?_
  refine nt' ?_
  rcases bd (Qml x1) with g27 | g27
  ·
   refine Qm rfl (nt g27) ?_
   refine Qp (Qd (Qe (sr ?_)))
   refine wv (vf Qdv rfl Qao) ?_
   refine wv (vl 0 1 Qq) ?_
   refine wv (Qag Qq) ?_
   refine wm (nt' (Qx ?_))
   refine Qbg (S := Unit) (R := Unit) (fun k (_ : Unit) => Qyg x0 x1 k) x1.Values.length 0 () () (fun s => [(2, bp p22), (16, .slice A18 x1.Values.length c19), (17, nI x1.Values.length), (18, nI s.1)]) (fun s => [Qh p23 70 [iV x1.Id, .slice A18 x1.Values.length c19], Qh p22 58 K1]) (fun s => True) sl4 trivial ?_
   rintro ⟨k28, ⟨⟩, ⟨⟩⟩ H31 _ _ e e'
   dsimp only at H31 ⊢
   subst e e'
   obtain ⟨hk29, hF30, _⟩ := H31
   refine sr ?_
   refine wv Qai ?_
   refine nt' (Qe ?_)
   rcases dcl k28 x1.Values.length with ⟨hl32, g33⟩ | ⟨hl32, g33⟩
   ·
    refine Ql rfl g33 ?_
    refine Qp (Qd (Qe (Qx (sr (wm ?_)))))
    obtain ⟨a34, rfl, hb35, he36⟩ := q20 (by omega)
    refine wv (vix 1 k28 Qq Qf) ?_
    refine wv (fun W hm => Qaw Qs rfl rfl ((hm.cell0 (show (a34.add (k28 * 1)).block < w.heap.size from by rw [Qae]; exact hb35.1)).trans (Qdr he36 k28 (by omega)))) ?_
    refine wa (wa (nt' (sr ?_)))
    refine wv (fun W hm => Qad (cs := K1) Qbq Qbj rfl rfl (hm.boxCells (n := 1) rfl)) ?_
    refine wm (wm ?_)
    refine wcv (Qr Qanw rfl) (fun W hm => Qatd W _ x0 ((k28 : Nat) : Int) (gt x1.Values k28) (Qhg (x := x0) (hm.rdS0 r9) (hm.rdS0 r14))) ?_
    refine wv Qbr ?_
    refine nt' ?_
    rcases bd (Qul x0 ((k28 : Nat) : Int) (gt x1.Values k28)) with g38 | g38
    ·
     refine Qm rfl (nt g38) ?_
     refine Qp (Qam (Qd (Qy ?_)))
     refine wv (Qal k28 1 (by omega)) ?_
     refine wm (Qac ?_)
     exact Qan (k28 + 1, (), ()) sl4 idM ⟨(by omega), nx hF30 (Qb g38 (rfl)), trivial⟩ rl
    refine Ql rfl (nf g38) ?_
    refine sr (wa (nt' (Qj (Qaa (Qg (Qg (Qaa (Qg ?_))))))))
    exact rtb (h := Qb g25 (Qb g27 (Qbf (nr hF30 (Qc g38 (rfl))) rfl)))
   refine Qm rfl g33 ?_
   refine Qay (Qu (Qu ?_))
   have hE40 := Qbh hl32 hF30
   refine Qaz (Qd (sr (wa (nt' (Qj ?_)))))
   exact rtb (h := Qb g25 (Qb g27 (Qar hE40 (rfl))))
  refine Ql rfl (nf g27) ?_
  refine sr (wa (nt' (Qj (Qg ?_))))
  exact rtb (h := Qb g25 (Qc g27 (rfl)))
 refine ws (nf g25) ?_
 refine ws (nf g25) ?_
 refine ws (nf g25) ?_
 refine wv (vpT (nf g25)) ?_
 refine nt' ?_
 refine Ql rfl rfl ?_
 refine sr (wa (nt' (Qj (Qg ?_))))
 exact rtb (h := Qc g25 (rfl))

def Qut (x0 : (List Int)) (x1 : Int) (k9 : Nat) (d10 : (List Int)) : (List Int) ⊕ ((List Int)) :=
 cond ((gt x0 k9) != x1) (Sum.inr (d10 ++ [(gt x0 k9)])) (Sum.inr d10)
def Qls (x0 : (List Int)) (x1 : Int) : (List Int) :=
 Sum.elim id (fun (s : (List Int)) => s) (rng (R := (List Int)) (fun k (s : (List Int)) => Qut x0 x1 k s) (x0.length - 0) 0 [])
theorem cb71 : Cb Tryz.prog 71 := ⟨f71, _, func71, rfl, by decide⟩
theorem Qaug (w : World) (z0 : Value) (x0 : (List Int)) (x1 : Int) (r_0 : rdS Qa w w.heap.size z0 x0) (s_0 : x0.length ≤ 68719476736) :
  Calls Tryz.prog 71 #[z0, iV x1] w (rL w (tSl Qa 3) (Qls x0 x1)) := by
 obtain ⟨m1, A2, c3, rfl, q4, r5⟩ := Qi r_0
 have l6 : x0.length ≤ 68719476736 := s_0
 refine ce2 (L := [(0, .slice A2 x0.length c3), (1, iV x1)]) (N := 24) func71 ?_
 refine sr (wa (nt' (sr ?_)))
 refine Qcf (E := Qa) Qq Qf (Qk rfl) (by decide) (fun p7 => ?_)
 refine wa (nt' (Qe (sr (wm ?_))))
 refine wv (Qag Qq) ?_
 refine wm (nt' (Qx ?_))
 refine Qbg (S := (List Int)) (R := Option Addr × Nat) (fun k (s : (List Int)) => Qut x0 x1 k s) x0.length 0 [] ((sA p7), 0) (fun s => [(1, iV x1), (5, .slice s.2.2.1 s.2.1.length s.2.2.2), (9, .slice A2 x0.length c3), (10, nI x0.length), (11, nI s.1)]) (fun s => [iS Qa 3 s.2.2.1 s.2.2.2 s.2.1]) (fun s => s.2.1.length ≤ 0 + s.1) sl5 (Nat.le_refl _) ?_
 rintro ⟨k9, d10, ⟨A11, c12⟩⟩ H15 _ _ e e'
 dsimp only at H15 ⊢
 subst e e'
 obtain ⟨hk13, hF14, hi16⟩ := H15
 refine sr ?_
 refine wv Qai ?_
 refine nt' (Qe ?_)
 rcases dcl k9 x0.length with ⟨hl17, g18⟩ | ⟨hl17, g18⟩
 ·
  refine Ql rfl g18 ?_
  refine Qp (Qd (Qe (Qx (sr ?_))))
  obtain ⟨a19, rfl, hb20, he21⟩ := q4 (by omega)
  refine wv (vix 1 k9 Qq Qf) ?_
  refine wv (fun W hm => Qaw Qs rfl rfl ((hm.cell0 (show (a19.add (k9 * 1)).block < w.heap.size from by rw [Qae]; exact hb20.1)).trans (Qdr he21 k9 (by omega)))) ?_
  refine wa (nt' (sr (wm (wm ?_))))
  refine wv Qcj ?_
  refine nt' ?_
  rcases dcn (gt x0 k9) x1 with ⟨h22, g23⟩ | ⟨h22, g23⟩
  ·
   refine Qm rfl g23 ?_
   refine Qp (Qam (Qd (Qy ?_)))
   refine wv (Qal k9 1 (by omega)) ?_
   refine wm (Qac ?_)
   exact Qan (k9 + 1, d10, (A11, c12)) sl5 idM ⟨(by omega), nx hF14 (Qc g23 (rfl)), (show d10.length ≤ 0 + (k9 + 1) from by first | omega | (simp only [List.length_append, List.length_cons, List.length_nil] at *; omega))⟩ rl
  refine Ql rfl g23 ?_
  refine Qy (wm (wm ?_))
  refine Qde (cs := [iV (gt x0 k9)]) Qq Qf rfl (by decide) (by decide) rfl (by kernel_rfl) (Qk rfl) (by decide) (fun p25 => ?_)
  refine ap1 Qa 3 (.slice A11 d10.length c12) d10 (gt x0 k9) [] [] [iV (gt x0 k9)] idM (fun _ _ hs => by cases (Sep.nil hs); exact (Qhq Qck Qhr)) Qq Qf (show (d10.length + 1) * 8 ≤ 140737488355328 from by omega) (fun v26 => ?_)
  refine fm 0 ?_
  rintro A27 c28 rfl m29
  refine wa (Qac (Qam (Qd (Qy ?_))))
  refine wv (Qal k9 1 (by omega)) ?_
  refine wm (Qac ?_)
  exact Qan (k9 + 1, (d10 ++ [(gt x0 k9)]), (A27, c28)) sl5 idM ⟨(by omega), nx hF14 (Qb g23 (rfl)), (show (d10 ++ [(gt x0 k9)]).length ≤ 0 + (k9 + 1) from by first | omega | (simp only [List.length_append, List.length_cons, List.length_nil] at *; omega))⟩ rl
 refine Qm rfl g18 ?_
 refine Qay (Qu (Qu ?_))
 have hE32 := Qbh hl17 hF14
 refine Qaz (Qd (sr (wm (wa (nt' (Qj ?_))))))
 have he33 := (show Qls x0 x1 = d10 from Qar hE32 (rfl))
 refine Qcu rfl (Qdl rfl) (fun W hm => ⟨.slice A11 d10.length c12, ?_, ?_⟩)
 ·first | rw [he33] | rfl
 rw [he33]; exact hm

def Qyx (x0 : Qt) (x1 : (List Int)) (k14 : Nat) : Bool ⊕ (Unit) :=
 cond (Qge x0 (gt x1 k14)) (Sum.inl true) (Sum.inr ())
def Qru (x0 : Qt) (x1 : (List Int)) : Bool :=
 Sum.elim id (fun (s : Unit) => (x0.Died == (-1))) (rng (R := Bool) (fun k (_ : Unit) => Qyx x0 x1 k) (x1.length - 0) 0 ())
theorem Qaov : Cb Tryz.prog 196 := ⟨f196, _, func196, rfl, by decide⟩
theorem Qauc (w : World) (z0 : List Value) (x0 : Qt) (z1 : Value) (x1 : (List Int)) (r_0 : Qaf.rd w w.heap.size z0 x0) (r_1 : rdS Qa w w.heap.size z1 x1) :
  Calls Tryz.prog 196 #[.agg z0.toArray, z1] w (rB w (Qru x0 x1)) := by
 obtain ⟨v1, rfl, r2⟩ := Qgd r_0
 obtain ⟨m3, A4, c5, rfl, q6, r7⟩ := Qi r2
 obtain ⟨m8, A9, c10, rfl, q11, r12⟩ := Qi r_1
 refine ce2 (L := [(0, .agg #[iV x0.Id, .slice A4 x0.Values.length c5, iV x0.Born, iV x0.Died]), (1, .slice A9 x1.length c10)]) (N := 20) func196 ?_
 refine sr ?_
 refine Qbn rfl (Qk rfl) (by decide) (fun p13 => ?_)
 refine wa (nt' (Qe (sr (wm ?_))))
 refine wv (Qag Qq) ?_
 refine wm (nt' (Qx ?_))
 let K1 : List Value := [iV x0.Id, .slice A4 x0.Values.length c5, iV x0.Born, iV x0.Died]
 refine Qbg (S := Unit) (R := Unit) (fun k (_ : Unit) => Qyx x0 x1 k) x1.length 0 () () (fun s => [(2, bp p13), (7, .slice A9 x1.length c10), (8, nI x1.length), (9, nI s.1)]) (fun s => [Qh p13 163 K1]) (fun s => True) sl4 trivial ?_
 rintro ⟨k14, ⟨⟩, ⟨⟩⟩ H17 _ _ e e'
 dsimp only at H17 ⊢
 subst e e'
 obtain ⟨hk15, hF16, _⟩ := H17
 refine sr ?_
 refine wv Qai ?_
 refine nt' (Qe ?_)
 rcases dcl k14 x1.length with ⟨hl18, g19⟩ | ⟨hl18, g19⟩
 ·
  refine Ql rfl g19 ?_
  refine Qp (Qd (Qe (Qx (sr ?_))))
  obtain ⟨a20, rfl, hb21, he22⟩ := q11 (by omega)
  refine wv (vix 1 k14 Qq Qf) ?_
  refine wv (fun W hm => Qaw Qs rfl rfl ((hm.cell0 (show (a20.add (k14 * 1)).block < w.heap.size from by rw [Qae]; exact hb21.1)).trans (Qdr he22 k14 (by omega)))) ?_
  refine wa (nt' (sr ?_))
  refine wv (fun W hm => Qad (cs := K1) Qbp Qbo rfl rfl (hm.boxCells (n := 0) rfl)) ?_
  refine wm ?_
  refine wcv (Qr Qtt rfl) (fun W hm => Quh W _ x0 (gt x1 k14) (Qgy (x := x0) (hm.rdS0 r7))) ?_
  refine nt' ?_
  rcases bd (Qge x0 (gt x1 k14)) with g24 | g24
  ·
   refine Ql rfl g24 ?_
   refine sr (wa (nt' (Qj (Qaa (Qg (Qg (Qaa (Qg ?_))))))))
   exact rtb (h := Qbf (nr hF16 (Qb g24 (rfl))) rfl)
  refine Qm rfl g24 ?_
  refine Qp (Qam (Qd (Qy ?_)))
  refine wv (Qal k14 1 (by omega)) ?_
  refine wm (Qac ?_)
  exact Qan (k14 + 1, (), ()) sl4 idM ⟨(by omega), nx hF16 (Qc g24 (rfl)), trivial⟩ rl
 refine Qm rfl g19 ?_
 refine Qay (Qu (Qu ?_))
 have hE26 := Qbh hl18 hF16
 refine Qaz (Qd (sr ?_))
 refine wv (vf Qbp rfl Qf) ?_
 refine wv (vl 0 3 Qs) ?_
 refine wv (fun W hm => Qfe rfl rfl) ?_
 refine wa (nt' (Qj ?_))
 exact rtb (h := Qar hE26 (rfl))

end Go.Proofs.YtdlminfjdodjoaaGreat
