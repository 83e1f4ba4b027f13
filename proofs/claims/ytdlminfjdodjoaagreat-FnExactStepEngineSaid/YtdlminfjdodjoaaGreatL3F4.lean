/-
  Contracts of functions, printed by a program of ours.
-/
import Derived.Test.YtdlminfjdodjoaaGreatL3F3
namespace Go.Proofs.YtdlminfjdodjoaaGreat
open Go.RowKit
set_option maxRecDepth 100000
set_option maxHeartbeats 4000000
open _root_.Go.Proofs.Tryz
def Qaao (x1 : (List Int)) (k26 : Nat) (d28 : (List (List Qt))) (k44 : Nat) (k63 : Nat) (s64 : Bool) : (Qas × Int) ⊕ (Bool) :=
 cond s64 (Sum.inr true) (Sum.inr (Qql (gt (gt d28 k26) k44) (gt x1 k63)))
def Qaan (x1 : (List Int)) (k26 : Nat) (d28 : (List (List Qt))) (k44 : Nat) (s45 : Int) (d46 : (List Qt)) : (Qas × Int) ⊕ (Int × (List Qt)) :=
 Sum.elim Sum.inl (fun (s : Bool) => cond s (Sum.inr (s45, (d46 ++ [(gt (gt d28 k26) k44)]))) (Sum.inr ((IntKind.i64.wrap (s45 + 1)), d46))) (rng (R := (Qas × Int)) (fun k (s : Bool) => Qaao x1 k26 d28 k44 k s) (x1.length - 0) 0 (((gt (gt d28 k26) k44).Died) == (-1)))
def Qsr (x1 : (List Int)) (k26 : Nat) (s27 : Int) (d28 : (List (List Qt))) : (Qas × Int) ⊕ (Int × (List (List Qt))) :=
 Sum.elim Sum.inl (fun (s : Int × (List Qt)) => Sum.inr (s.1, (d28.set k26 s.2))) (rng (R := (Qas × Int)) (fun k (s : Int × (List Qt)) => Qaan x1 k26 d28 k s.1 s.2) ((gt d28 k26).length - 0) 0 (s27, []))
def Qhc (x0 : Qas) (x1 : (List Int)) : (Qas × Int) :=
 cond (Qka x0) (Sum.elim id (fun (s : Int × (List (List Qt))) => ((⟨s.2, x0.Now⟩ : Qas), s.1)) (rng (R := (Qas × Int)) (fun k (s : Int × (List (List Qt))) => Qsr x1 k s.1 s.2) (x0.Segments.length - 0) 0 (0, x0.Segments))) (x0, 0)
theorem Qann : Cb Tryz.prog 168 := ⟨f168, _, func168, rfl, by decide⟩
theorem Qaza (w : World) (z0 : List Value) (x0 : Qas) (z1 : Value) (x1 : (List Int)) (r_0 : Qdn.rd w w.heap.size z0 x0) (r_1 : rdS Qa w w.heap.size z1 x1) (s_0 : Qgs 68719476736 x0) (s_1 : x1.length ≤ 68719476736) :
  Calls Tryz.prog 168 #[.agg z0.toArray, z1] w fun e w' => ∃ v : List Value, e = .returned (.tuple #[.agg v.toArray, iV ((Qhc x0 x1).2)]) ∧ Mem w.heap.size w [Qm Qdn v (Qhc x0 x1).1] w' := by
 obtain ⟨v1, rfl, r2⟩ := Qjl r_0
 obtain ⟨m3, A4, c5, rfl, q6, r7⟩ := Qi r2
 obtain ⟨m8, A9, c10, rfl, q11, r12⟩ := Qi r_1
 have l13 : x0.Segments.length ≤ 68719476736 := s_0.1
 have l14 : x1.length ≤ 68719476736 := s_1
 refine ce2 (L := [(0, .agg #[.slice A4 x0.Segments.length c5, iV x0.Now]), (1, .slice A9 x1.length c10)]) (N := 78) func168 ?_
 refine sr ?_
 refine Qbq rfl (Qk rfl) (by decide) (fun p15 => ?_)
 refine Qbs Qbt rfl (Qk rfl) (by decide) (fun p16 => ?_)
 refine wa (nt' (sr ?_))
 refine wv (fun W hm => Qae (cs := [.slice A4 x0.Segments.length c5, iV x0.Now]) Qbx Qbt rfl rfl (hm.boxCells (n := 1) rfl)) ?_
 refine wcs Qdn x0 (Qq Qps rfl) (fun W hm => Qqr W _ x0 (Qfw (x := x0) (hm.rdS0 r7)) s_0) (fun z17 => ?_)
 refine Qjm ?_
 rintro v18 rfl
 refine fm 0 ?_
 rintro A19 c20 rfl m21
 refine Qbs Qbt rfl (Qk rfl) (by decide) (fun p23 => ?_)
 let I3 : It := iS (tSl Qag 163) 100 A19 c20 x0.Segments
 let I4 : It := Qh p15 34 [.slice A4 x0.Segments.length c5, iV x0.Now]
 let J11 : List It := [Qh p16 34 [.slice none 0 0, iV 0], I4]
 refine sb 0 [.slice A19 x0.Segments.length c20, iV x0.Now] (I3 :: J11) idM Qbt ?_
 refine nt' (Qd (sr ?_))
 refine wv (fun W hm => Qae (cs := [.slice A4 x0.Segments.length c5, iV x0.Now]) Qbx Qbt rfl rfl (hm.boxCells (n := 3) rfl)) ?_
 refine wcv (Qq Qacz rfl) (fun W hm => Qahp W _ x0 (Qfw (x := x0) (hm.rdS0 r7)) s_0) ?_
 refine wv Qbp ?_
 refine nt' ?_
 rcases bd (Qka x0) with g25 | g25
 ·
  refine Qn rfl (nt g25) ?_
  refine Qo (Qe (sr (wa (nt' (Qd (sr (wa (nt' (Qx ?_)))))))))
  let I5 : It := Qh p23 34 [.slice A19 x0.Segments.length c20, iV x0.Now]
  refine Qbf (S := Int × (List (List Qt))) (R := Unit) (fun k (s : Int × (List (List Qt))) => Qsr x1 k s.1 s.2) x0.Segments.length 0 (0, x0.Segments) () (fun s => [(1, .slice A9 x1.length c10), (2, bp p15), (4, bp p16), (6, bp p23), (7, iV s.2.1.1), (8, nI s.1)]) (fun s => (I5 :: Qm (tSl (tSl Qag 163) 100) [.slice A19 x0.Segments.length c20] s.2.1.2 :: J11)) (fun s => ∀ j, s.1 ≤ j → gt s.2.1.2 j = gt x0.Segments j) sl6 (fun _ _ => rfl) ?_
  rintro ⟨k26, ⟨s27, d28⟩, ⟨⟩⟩ H31 _ _ e e'
  dsimp only at H31 ⊢
  subst e e'
  obtain ⟨hk29, hF30, hi32⟩ := H31
  refine Qd (sr (wm ?_))
  refine wv (vf Qbx rfl Qdz) ?_
  refine wv (vl 3 0 Qca) ?_
  refine wv (Qaf Qca) ?_
  refine wv Qai ?_
  refine nt' ?_
  rcases dcl k26 x0.Segments.length with ⟨hl33, g34⟩ | ⟨hl33, g34⟩
  ·
   have hq1 : (gt d28 k26).length ≤ 68719476736 := by rw [hi32 k26 (Nat.le_refl _)]; exact (s_0.2 _ (Qak (by omega))).1
   refine Ql rfl g34 ?_
   refine Qo (Qe (Qd (Qx (sr ?_))))
   refine Qce (E := Qag) Qbw Qbl (Qk rfl) (by decide) (fun p35 => ?_)
   refine wa (nt' (Qd (sr (wa (nt' (Qx ?_))))))
   refine Qpl (n := 2) rfl (by omega) ?_
   rintro g37 rfl
   let K1 : List Value := [.slice (sA g37) x0.Segments.length c20, iV x0.Now]
   let J12 : List It := Qh p23 34 K1 :: J11
   refine Qpk (E := (tSl Qag 163)) (e := 100) (A := (sA g37)) (n := x0.Segments.length) (c := c20) (xs := d28) (k := k26) (js := (Qm (tSl Qag 163) [.slice (sA p35) 0 0] [] :: J12)) (by omega) (pk [2, 0, 1, 3, 4]) (fun ck38 => ?_)
   refine Qjq (γ := Value) (js := fun g => [Qm (tSl Qag 163) [g] (gt d28 k26)]) (C := fun g => ck38 = [g]) (fun _ _ h => Qvr h) ?_
   rintro v39 rfl
   refine Qdc (n := 0) rfl ?_
   rintro A40 c41 rfl m42
   refine Qdp (fun W hm => Mem.toRest hm) ?_
   refine Qbf (S := Int × (List Qt)) (R := Option Addr × Nat) (fun k (s : Int × (List Qt)) => Qaan x1 k26 d28 k s.1 s.2) ((gt d28 k26).length) 0 (s27, []) ((sA p35), 0) (fun s => [(1, .slice A9 x1.length c10), (2, bp p15), (4, bp p16), (6, bp p23), (7, iV s.2.1.1), (8, nI k26), (9, .slice s.2.2.1 s.2.1.2.length s.2.2.2), (10, nI s.1)]) (fun s => (Qhe Qag 163 A40 ((gt d28 k26).length) (gt d28 k26) s.1 :: Qdf (tSl Qag 163) 100 (sA g37) x0.Segments.length c20 d28 k26 [.slice A40 (gt d28 k26).length c41] :: iS Qag 163 s.2.2.1 s.2.2.2 s.2.1.2 :: J12)) (fun s => s.2.1.2.length ≤ 0 + s.1) sl8 (Nat.le_refl _) ?_
   rintro ⟨k44, ⟨s45, d46⟩, ⟨A47, c48⟩⟩ H51 _ _ e e'
   dsimp only at H51 ⊢
   subst e e'
   obtain ⟨hk49, hF50, hi52⟩ := H51
   refine Qd (sr (wm ?_))
   refine wv (vf Qbx rfl Qdz) ?_
   refine wv (vl 3 0 Qca) ?_
   refine wm ?_
   refine wv (vix 1 k26 Qca Qfg) ?_
   refine wv (fun W hm => Qau Qbw rfl rfl (hm.focInt (i := 1) rfl rfl)) ?_
   refine wv (Qaf Qbw) ?_
   refine wv Qai ?_
   refine nt' ?_
   rcases dcl k44 ((gt d28 k26).length) with ⟨hl53, g54⟩ | ⟨hl53, g54⟩
   ·
    refine Ql rfl g54 ?_
    refine Qo (Qe (Qd (Qx (sr ?_))))
    refine wv (vf Qbx rfl Qdz) ?_
    refine wv (vl 3 0 Qca) ?_
    refine wm ?_
    refine wv (vix 1 k26 Qca Qfg) ?_
    refine wv (fun W hm => Qau Qbw rfl rfl (hm.focInt (i := 1) rfl rfl)) ?_
    refine wm ?_
    refine Qrg (n := 0) rfl (by omega) ?_
    rintro g55 rfl
    refine wv (vix 4 k44 Qbw Qbl) ?_
    let I6 : It := Qdf (tSl Qag 163) 100 (sA g37) x0.Segments.length c20 d28 k26 [.slice (sA g55) (gt d28 k26).length c41]
    let J13 : List It := I6 :: iS Qag 163 A47 c48 d46 :: J12
    refine Qrh (E := Qag) (e := 163) (A := (sA g55)) (n := (gt d28 k26).length) (xs := (gt d28 k26)) (k := k44) (js := J13) (by omega) idM (fun ck56 => ?_)
    refine Qta ?_
    rintro v57 rfl
    refine fm 0 ?_
    rintro A58 c59 rfl m60
    let K2 : List Value := [iV ((gt (gt d28 k26) k44).Id), .slice A58 ((gt (gt d28 k26) k44).Values).length c59, iV ((gt (gt d28 k26) k44).Born), iV ((gt (gt d28 k26) k44).Died)]
    refine wv (fun W hm => Qae (cs := K2) Qbn Qbl rfl rfl (hm.restCells (i := 1) rfl rfl)) ?_
    refine Qbs Qbl rfl (Qk rfl) (by decide) (fun p62 => ?_)
    let I7 : It := iS Qa 3 A58 c59 ((gt (gt d28 k26) k44).Values)
    let I8 : It := Qil Qag 163 (sA g55) ((gt d28 k26).length) (gt d28 k26) k44 K2
    refine sb 0 K2 (I7 :: I8 :: J13) idM Qbl ?_
    refine nt' (sr ?_)
    refine wv (vf Qbn rfl Qf) ?_
    refine wv (vl 0 3 Qs) ?_
    refine wv (fun W hm => Qfa rfl rfl) ?_
    refine wa (nt' (Qd (sr (wa (nt' (Qx ?_))))))
    refine Qbf (S := Bool) (R := Unit) (fun k (s : Bool) => Qaao x1 k26 d28 k44 k s) x1.length 0 (((gt (gt d28 k26) k44).Died) == (-1)) () (fun s => [(1, .slice A9 x1.length c10), (2, bp p15), (4, bp p16), (6, bp p23), (7, iV s45), (8, nI k26), (9, .slice A47 d46.length c48), (10, nI k44), (11, bp p62), (12, .bool s.2.1), (13, nI s.1)]) (fun s => (Qh p62 163 K2 :: I7 :: I8 :: J13)) (fun s => True) sl11 trivial ?_
    rintro ⟨k63, s64, ⟨⟩⟩ H67 _ _ e e'
    dsimp only at H67 ⊢
    subst e e'
    obtain ⟨hk65, hF66, _⟩ := H67
    refine Qd (sr (wm (wm ?_)))
    refine wv (Qaf Qp) ?_
    refine wv Qai ?_
    refine nt' ?_
    rcases dcl k63 x1.length with ⟨hl68, g69⟩ | ⟨hl68, g69⟩
    ·
     refine Ql rfl g69 ?_
     refine Qo (Qe (Qd (Qx ?_)))
     refine Qew (by kernel_rfl) (by kernel_rfl) ?_
     refine qm (qm ?_)
     rcases bd s64 with g71 | g71
     ·
      refine qs g71 ?_
      refine qs g71 ?_
      refine qs g71 ?_
      refine qs g71 ?_
      refine qs g71 ?_
      refine qs g71 ?_
      refine qv (vpT g71) ?_
      refine qv (fun W hm => Qiz rfl) ?_
      refine Qwm (Qan (Qe (Qy (wm ?_))))
      refine wv (Qal k63 1 (by omega)) ?_
      refine wa (Qad ?_)
      exact Qao (k63 + 1, true, ()) sl11 idM ⟨(by omega), nx hF66 (Qb g71 (rfl)), trivial⟩ rl
     refine qg (fun W hm => Qae (cs := K2) Qbn Qbl rfl rfl (hm.boxCells (n := 0) rfl)) g71 ?_
     refine qg vmv g71 ?_
     refine qg vmv g71 ?_
     obtain ⟨a73, rfl, hb74, he75⟩ := q11 (by omega)
     refine qg (vix 1 k63 Qp Qf) g71 ?_
     refine qg (fun W hm => Qau Qs rfl rfl ((hm.cell0 (show (a73.add (k63 * 1)).block < w.heap.size from by rw [Qab]; exact hb74.1)).trans (Qdr he75 k63 (by omega)))) g71 ?_
     refine Qes (Qq Qadp rfl) (fun W hm => Qahr W _ (gt (gt d28 k26) k44) (gt x1 k63) (Qgu (x := (gt (gt d28 k26) k44)) (hm.rdSI (n := 1) rfl))) (Qcb rfl rfl rfl (bw g71 rfl)) (by decide) ?_
     refine qv (vpF g71) ?_
     refine qv (fun W hm => Qiz rfl) ?_
     refine Qwm (Qan (Qe (Qy (wm ?_))))
     refine wv (Qal k63 1 (by omega)) ?_
     refine wa (Qad ?_)
     exact Qao (k63 + 1, (Qql (gt (gt d28 k26) k44) (gt x1 k63)), ()) sl11 idM ⟨(by omega), nx hF66 (Qc g71 (rfl)), trivial⟩ rl
    refine Qn rfl g69 ?_
    refine Qay (Qu (Qu ?_))
    have hE77 := Qbg hl68 hF66
    refine Qaz (Qe (sr (wm (nt' ?_))))
    rcases bd s64 with g79 | g79
    ·
     refine Ql rfl g79 ?_
     refine Qy (wm ?_)
     refine wv (fun W hm => Qae (cs := K2) Qbn Qbl rfl rfl (hm.boxCells (n := 0) rfl)) ?_
     refine Qde (cs := K2) Qbw Qbl rfl (by decide) (by decide) rfl (by kernel_rfl) (Qk rfl) (by decide) (fun p80 => ?_)
     refine ap1 Qag 163 (.slice A47 d46.length c48) d46 (gt (gt d28 k26) k44) [I7] (Qh p62 163 K2 :: I8 :: I6 :: J12) K2 (pk [0, 5, 2, 1, 3, 4, 6, 7, 8]) (fun _ _ hs => Els.single (Qlf (x := (gt (gt d28 k26) k44)) hs)) Qbw Qbl (show (d46.length + 1) * 48 ≤ 140737488355328 from by omega) (fun v81 => ?_)
     refine fm 0 ?_
     rintro A82 c83 rfl m84
     refine wa (Qad (Qan (Qe (Qy (wm ?_)))))
     refine wv (Qal k44 1 (by omega)) ?_
     refine wa (Qad ?_)
     refine Qdd (fun W hm => Mem.restNext (hm.pick [2, 0, 1, 3, 4, 5, 6] (by decide))) ?_
     exact Qao (k44 + 1, (s45, (d46 ++ [(gt (gt d28 k26) k44)])), (A82, c83)) sl8 (pk [0, 3, 1, 4, 5, 6]) ⟨(by omega), nx hF50 (Qaq hE77 (Qb g79 (rfl))), (show (d46 ++ [(gt (gt d28 k26) k44)]).length ≤ 0 + (k44 + 1) from by first | omega | (simp only [List.length_append, List.length_cons, List.length_nil] at *; omega))⟩ (show (gt d28 k26).length - (k44 + 1) < (gt d28 k26).length - k44 from by omega)
    refine Qn rfl g79 ?_
    refine Qy (wm ?_)
    refine wv Qcw ?_
    refine wa (Qad (Qan (Qe (Qy (wm ?_)))))
    refine wv (Qal k44 1 (by omega)) ?_
    refine wa (Qad ?_)
    refine Qdd (fun W hm => Mem.restNext (hm.pick [2, 0, 1, 3, 4, 5, 6, 7] (by decide))) ?_
    exact Qao (k44 + 1, ((IntKind.i64.wrap (s45 + 1)), d46), (A47, c48)) sl8 (pk [0, 3, 4, 5, 6, 7]) ⟨(by omega), nx hF50 (Qaq hE77 (Qc g79 (rfl))), (show d46.length ≤ 0 + (k44 + 1) from by first | omega | (simp only [List.length_append, List.length_cons, List.length_nil] at *; omega))⟩ (show (gt d28 k26).length - (k44 + 1) < (gt d28 k26).length - k44 from by omega)
   refine Qn rfl g54 ?_
   refine Qay (Qu (Qu ?_))
   have hE88 := Qbg hl53 hF50
   refine Qaz (Qe (Qy ?_))
   refine wv (vf Qbx rfl Qdz) ?_
   refine wv (vl 3 0 Qca) ?_
   refine wm (wm ?_)
   refine wv (vix 1 k26 Qca Qfg) ?_
   let I9 : It := Qhe Qag 163 A40 ((gt d28 k26).length) (gt d28 k26) k44
   refine sf 0 1 [.slice A47 d46.length c48] (I9 :: iS Qag 163 A47 c48 d46 :: J12) (pk [1, 0, 2, 3, 4, 5]) Qfg ?_
   refine Qad (Qan (Qe (Qy (wm ?_))))
   refine wv (Qal k26 1 (by omega)) ?_
   refine wa (Qad ?_)
   refine Qdd (fun W hm => Mem.unfocus (Mem.join (is := [iS Qag 163 A47 c48 d46]) (js := (Qdf (tSl Qag 163) 100 (sA g37) x0.Segments.length c20 d28 k26 [.slice A47 d46.length c48] :: (I9 :: J12))) (fun _ _ hs => Sep.one hs) (hm.pick [2, 0, 1, 3, 4, 5] (by decide)))) ?_
   exact Qao (k26 + 1, (s45, (d28.set k26 d46)), ()) sl6 (pk [2, 0, 3, 4]) ⟨(by omega), nx hF30 (Qaq hE88 (rfl)), (show ∀ j, (k26 + 1) ≤ j → gt (d28.set k26 d46) j = gt x0.Segments j from by intro j hj; rw [Qog (by omega)]; exact hi32 j (by omega))⟩ rl
  refine Qn rfl g34 ?_
  refine Qay (Qu (Qu ?_))
  have hE90 := Qbg hl33 hF30
  refine Qaz (Qe (sr ?_))
  refine wv (fun W hm => Qae (cs := [.slice A19 x0.Segments.length c20, iV x0.Now]) Qbx Qbt rfl rfl (hm.boxCells (n := 0) rfl)) ?_
  refine wm ?_
  let I10 : It := Qm (tSl (tSl Qag 163) 100) [.slice A19 x0.Segments.length c20] d28
  refine sb 0 [.slice A19 x0.Segments.length c20, iV x0.Now] [I5, I10, I4] (pk [2, 0, 1, 3]) Qbt ?_
  refine wa (nt' (Qj ?_))
  have he91 := (show Qhc x0 x1 = ((⟨d28, x0.Now⟩ : Qas), s27) from Qb g25 (Qaq hE90 (rfl)))
  refine Qhw rfl (Qdw (n := 0) rfl rfl Qbx Qbt rfl) (Qdm rfl) (fun W hm => ⟨[.slice A19 x0.Segments.length c20, iV x0.Now], ?_, ?_⟩)
  ·first | rw [he91] | rfl
   try rfl
  rw [he91]; exact Mem.join (is := [I10]) (js := []) (fun _ _ hs => Qms (x := (⟨d28, x0.Now⟩ : Qas)) hs) (hm.pick [2] (by decide))
 refine Ql rfl (nf g25) ?_
 refine sr ?_
 refine wv (fun W hm => Qae (cs := [.slice A19 x0.Segments.length c20, iV x0.Now]) Qbx Qbt rfl rfl (hm.boxCells (n := 0) rfl)) ?_
 refine sb 0 [.slice A19 x0.Segments.length c20, iV x0.Now] [Qh p23 34 [.slice A19 x0.Segments.length c20, iV x0.Now], I3, I4] (pk [2, 0, 1, 3]) Qbt ?_
 refine wa (nt' (Qj (Qg ?_)))
 have he92 := (show Qhc x0 x1 = (x0, 0) from Qc g25 (rfl))
 refine Qhw rfl (Qdw (n := 0) rfl rfl Qbx Qbt rfl) (Qdm rfl) (fun W hm => ⟨[.slice A19 x0.Segments.length c20, iV x0.Now], ?_, ?_⟩)
 ·first | rw [he92] | rfl
  try rfl
 rw [he92]; exact Mem.join (is := [I3]) (js := []) (fun _ _ hs => Qms (x := x0) hs) (hm.pick [2] (by decide))

def Qabf (x0 : Qr) (k30 : Nat) (d31 : (List Int)) : Qr ⊕ ((List Int)) :=
 Sum.inr (d31 ++ [(gt x0.Active k30).Time])
def Qmn (x0 : Qr) : Qr :=
 Sum.elim id (fun (s : (List Int)) => (⟨((Qhc x0.Store s).1), x0.Cursor, x0.Order, x0.Active, x0.Done, x0.Ledger, x0.Steps⟩ : Qr)) (rng (R := Qr) (fun k (s : (List Int)) => Qabf x0 k s) (x0.Active.length - 0) 0 [])
theorem Qamj : Cb Tryz.prog 114 := ⟨f114, _, func114, rfl, by decide⟩
theorem Qban (B : Nat) (w0 : World) (is : List It) (w : World) (p : Nat) (z0 : List Value) (x0 : Qr) (s_0 : Qgs 68719476736 x0.Store ∧ x0.Active.length ≤ 68719476736) (hm : Mem B w0 (Qh p 39 z0 :: Qm Qcf z0 x0 :: is) w) :
  Calls Tryz.prog 114 #[.pointer (sA p)] w fun e w' => ∃ x : List Value, e = .returned (.tuple #[]) ∧ Mem B w0 (Qh p 39 x :: Qm Qcf x (Qmn x0) :: is) w' := by
 refine Qhz (L := [(0, .pointer (sA p))]) (N := 40) func114 rfl rfl (Nat.le_of_ble_eq_true rfl) (Qeb rfl Qgw) hm ?_
 refine Qdp (js := (Qm Qcf z0 x0 :: Qh p 39 z0 :: is)) (fun W hm => (hm.front (n := 1) rfl)) ?_
 refine Qjq (γ := Value × Value × Value × Value × Value) (js := fun g => [Qm (tSl (tSl Qag 163) 100) [g.1] x0.Store.Segments, Qm (tSl Qa 3) [g.2.1] x0.Order, Qm (tSl Qah 61) [g.2.2.1] x0.Active, Qm (tSl Qax 80) [g.2.2.2.1] x0.Done, Qm (tSl Qav 102) [g.2.2.2.2] x0.Ledger]) (C := fun g => z0 = [g.1, iV x0.Store.Now, iV x0.Cursor, g.2.1, g.2.2.1, g.2.2.2.1, g.2.2.2.2, iV x0.Steps]) (fun _ _ h => Qqx h) ?_
 rintro ⟨v1, v2, v3, v4, v5⟩ rfl
 refine Qdc (n := 0) rfl ?_
 rintro A6 c7 rfl m8
 refine Qdc (n := 1) rfl ?_
 rintro A10 c11 rfl m12
 refine Qdc (n := 2) rfl ?_
 rintro A14 c15 rfl m16
 refine Qdc (n := 3) rfl ?_
 rintro A18 c19 rfl m20
 refine Qdc (n := 4) rfl ?_
 rintro A22 c23 rfl m24
 have l26 : x0.Store.Segments.length ≤ 68719476736 := s_0.1.1
 have l27 : x0.Active.length ≤ 68719476736 := s_0.2
 refine sr ?_
 refine Qce (E := Qa) Qp Qf (Qk rfl) (by decide) (fun p28 => ?_)
 refine wa (nt' (Qd (sr (wa (nt' (Qx ?_))))))
 let I5 : It := iS (tSl Qag 163) 100 A6 c7 x0.Store.Segments
 refine Qbf (S := (List Int)) (R := Option Addr × Nat) (fun k (s : (List Int)) => Qabf x0 k s) x0.Active.length 0 [] ((sA p28), 0) (fun s => [(0, bp p), (2, .slice s.2.2.1 s.2.1.length s.2.2.2), (3, nI s.1)]) (fun s => (iS Qa 3 s.2.2.1 s.2.2.2 s.2.1 :: I5 :: iS Qa 3 A10 c11 x0.Order :: iS Qah 61 A14 c15 x0.Active :: iS Qax 80 A18 c19 x0.Done :: iS Qav 102 A22 c23 x0.Ledger :: Qh p 39 [.slice A6 x0.Store.Segments.length c7, iV x0.Store.Now, iV x0.Cursor, .slice A10 x0.Order.length c11, .slice A14 x0.Active.length c15, .slice A18 x0.Done.length c19, .slice A22 x0.Ledger.length c23, iV x0.Steps] :: is)) (fun s => s.2.1.length ≤ 0 + s.1) sl3 (Nat.le_refl _) ?_
 rintro ⟨k30, d31, ⟨A32, c33⟩⟩ H36 _ _ e e'
 dsimp only at H36 ⊢
 subst e e'
 obtain ⟨hk34, hF35, hi37⟩ := H36
 refine Qd (sr (wm (wm ?_)))
 refine wv (fun W hm => Qee rfl) ?_
 refine wv (vf Qac rfl Qcz) ?_
 refine wv (vl 6 4 Qaw) ?_
 refine wv (Qaf Qaw) ?_
 refine wv Qai ?_
 refine nt' ?_
 rcases dcl k30 x0.Active.length with ⟨hl38, g39⟩ | ⟨hl38, g39⟩
 ·
  refine Ql rfl g39 ?_
  refine Qo (Qe (Qd (Qx (Qy (wm (wm ?_))))))
  refine wv (fun W hm => Qee rfl) ?_
  refine wv (vf Qac rfl Qcz) ?_
  refine wv (vl 6 4 Qaw) ?_
  refine wm ?_
  refine Qht (n := 3) rfl (by omega) ?_
  rintro g40 rfl
  refine wv (vix 10 k30 Qaw Qbd) ?_
  refine wv (vf Qaj rfl Qf) ?_
  let K1 : List Value := [.slice A6 x0.Store.Segments.length c7, iV x0.Store.Now, iV x0.Cursor, .slice A10 x0.Order.length c11, .slice (sA g40) x0.Active.length c15, .slice A18 x0.Done.length c19, .slice A22 x0.Ledger.length c23, iV x0.Steps]
  let J9 : List It := I5 :: iS Qa 3 A10 c11 x0.Order :: iS Qax 80 A18 c19 x0.Done :: iS Qav 102 A22 c23 x0.Ledger :: Qh p 39 K1 :: is
  refine Qjr (E := Qah) (e := 61) (A := (sA g40)) (n := x0.Active.length) (c := c15) (xs := x0.Active) (k := k30) (js := (iS Qa 3 A32 c33 d31 :: J9)) (by omega) (fun W hm => (hm.front (n := 3) rfl)) (fun ck41 => ?_)
  refine Qod ?_
  rintro ⟨v42, v43, v44, v45⟩ rfl
  refine fm 0 ?_
  rintro A46 c47 rfl m48
  refine fm 1 ?_
  rintro A50 c51 rfl m52
  refine fm 2 ?_
  rintro A54 c55 rfl m56
  refine fm 3 ?_
  rintro A58 c59 rfl m60
  refine wv (fun W hm => Qau Qs rfl rfl (hm.focCells (i := 4) rfl rfl 4 _ rfl)) ?_
  refine Qde (cs := [iV ((gt x0.Active k30).Time)]) Qp Qf rfl (by decide) (by decide) rfl (by kernel_rfl) (Qk rfl) (by decide) (fun p62 => ?_)
  let K2 : List Value := [iV ((gt x0.Active k30).Query.Id), iV ((gt x0.Active k30).Query.Tenant), .slice A46 ((gt x0.Active k30).Query.Conds).length c47, .slice A50 ((gt x0.Active k30).Query.Out).length c51, iV ((gt x0.Active k30).Time), .slice A54 ((gt x0.Active k30).Todo).length c55, iV ((gt x0.Active k30).Age), iV ((gt x0.Active k30).Sent), iV ((gt x0.Active k30).Cap), .slice A58 ((gt x0.Active k30).Rows).length c59]
  let I6 : It := iS Qbk 180 A46 c47 ((gt x0.Active k30).Query.Conds)
  let I7 : It := iS Qa 3 A50 c51 ((gt x0.Active k30).Query.Out)
  let I8 : It := Qdf Qah 61 (sA g40) x0.Active.length c15 x0.Active k30 K2
  refine ap1 Qa 3 (.slice A32 d31.length c33) d31 ((gt x0.Active k30).Time) [] (I6 :: I7 :: iS Qa 3 A54 c55 ((gt x0.Active k30).Todo) :: iS Qap 70 A58 c59 ((gt x0.Active k30).Rows) :: I8 :: J9) [iV ((gt x0.Active k30).Time)] (fun W hm => ((hm.front (n := 6) rfl).front (n := 1) rfl)) (fun _ _ hs => by cases (Sep.nil hs); exact (Qhn Qck Qho)) Qp Qf (show (d31.length + 1) * 8 ≤ 140737488355328 from by omega) (fun v63 => ?_)
  refine fm 0 ?_
  rintro A64 c65 rfl m66
  refine wa (Qad (Qan (Qe (Qy (wm ?_)))))
  refine wv (Qal k30 1 (by omega)) ?_
  refine wa (Qad ?_)
  refine Qdd (fun W hm => Mem.unfocus0 (Mem.join (is := [I6, I7, iS Qa 3 A54 c55 ((gt x0.Active k30).Todo), iS Qap 70 A58 c59 ((gt x0.Active k30).Rows)]) (js := (I8 :: (iS Qa 3 A64 c65 (d31 ++ [(gt x0.Active k30).Time]) :: J9))) (fun _ _ hs => Qhl (x := (gt x0.Active k30)) hs) (hm.pickN 11 [1, 2, 3, 4, 5, 0, 6, 7, 8, 9, 10] (by decide)))) ?_
  exact Qao (k30 + 1, (d31 ++ [(gt x0.Active k30).Time]), (A64, c65)) sl3 (pn 7 [1, 2, 3, 0, 4, 5, 6]) ⟨(by omega), nx hF35 (rfl), (show (d31 ++ [(gt x0.Active k30).Time]).length ≤ 0 + (k30 + 1) from by first | omega | (simp only [List.length_append, List.length_cons, List.length_nil] at *; omega))⟩ rl
 refine Qn rfl g39 ?_
 refine Qay (Qu (Qu ?_))
 have hE69 := Qbg hl38 hF35
 refine Qaz (Qe (sr (wm ?_)))
 refine wv (fun W hm => Qee rfl) ?_
 refine wv (vf Qac rfl Qbt) ?_
 refine wv (fun W hm => Qae (cs := [.slice A6 x0.Store.Segments.length c7, iV x0.Store.Now]) Qbx Qbt rfl rfl (hm.boxPart (n := 6) rfl rfl)) ?_
 refine wm ?_
 refine Qnb (χ := List Value) (val := fun x => .tuple #[.agg x.toArray, iV ((Qhc x0.Store d31).2)]) (js := fun x => [Qm Qdn x ((Qhc x0.Store d31).1)]) (Qq Qann rfl) (fun W hm => Qaza W _ x0.Store _ d31 (Qfw (x := x0.Store) (hm.rdSI (n := 1) rfl)) (hm.rdSI (n := 0) rfl) s_0.1 (show _ ≤ 68719476736 from by omega)) (Qk rfl) (by decide) (fun z70 => ?_)
 refine Qjm ?_
 rintro v71 rfl
 refine fm 0 ?_
 rintro A72 c73 rfl m74
 refine wm ?_
 refine wv (fun W hm => Qjw rfl rfl) ?_
 refine wv (fun W hm => Qjw rfl rfl) ?_
 refine Qbs Qbt rfl (Qk rfl) (by decide) (fun p76 => ?_)
 let K3 : List Value := [.slice A72 (((Qhc x0.Store d31).1).Segments).length c73, iV (((Qhc x0.Store d31).1).Now)]
 refine Qgv (p := p76) (o := 0) (cs' := K3) (fun w hm => hm.front (n := 0) rfl) Qbt rfl (Nat.le_of_ble_eq_true rfl) rfl rfl rfl rfl (Qk rfl) ?_
 refine wa (nt' (Qy (wm ?_)))
 refine wv (fun W hm => Qae (cs := K3) Qbx Qbt rfl rfl (hm.boxCells (n := 0) rfl)) ?_
 refine wv (fun W hm => Qee rfl) ?_
 refine wv (vf Qac rfl Qbt) ?_
 let K4 : List Value := [.slice A72 (((Qhc x0.Store d31).1).Segments).length c73, iV (((Qhc x0.Store d31).1).Now), iV x0.Cursor, .slice A10 x0.Order.length c11, .slice A14 x0.Active.length c15, .slice A18 x0.Done.length c19, .slice A22 x0.Ledger.length c23, iV x0.Steps]
 refine Qgv (p := p) (o := 0) (cs' := K4) (fun w hm => hm.front (n := 8) rfl) Qbt rfl (Nat.le_of_ble_eq_true rfl) rfl rfl rfl rfl (Qk rfl) ?_
 refine Qad ?_
 let J10 : List It := Qh p 39 K4 :: Qh p76 34 K3 :: iS Qa 3 A32 c33 d31 :: I5 :: is
 refine Qdd (js := (Qm Qcf K4 (⟨((Qhc x0.Store d31).1), x0.Cursor, x0.Order, x0.Active, x0.Done, x0.Ledger, x0.Steps⟩ : Qr) :: J10)) (fun W hm => Mem.join (is := [iS (tSl Qag 163) 100 A72 c73 (((Qhc x0.Store d31).1).Segments), iS Qa 3 A10 c11 x0.Order, iS Qah 61 A14 c15 x0.Active, iS Qax 80 A18 c19 x0.Done, iS Qav 102 A22 c23 x0.Ledger]) (js := J10) (fun _ _ hs => Qfo (x := (⟨((Qhc x0.Store d31).1), x0.Cursor, x0.Order, x0.Active, x0.Done, x0.Ledger, x0.Steps⟩ : Qr)) hs) (hm.pickN 9 [2, 5, 6, 7, 8, 0, 1, 3, 4] (by decide))) ?_
 have he77 := (show Qmn x0 = (⟨((Qhc x0.Store d31).1), x0.Cursor, x0.Order, x0.Active, x0.Done, x0.Ledger, x0.Steps⟩ : Qr) from Qaq hE69 (rfl))
 refine Qwk rfl (fun W hm => ⟨K4, ?_, ?_⟩)
 ·rfl
 rw [he77]; exact (hm.pickN 5 [1, 0] (by decide))

def Qhq (vis : Qt → Bool) (s : List Qt) : List Qaa := (s.filter vis).map fun v => (⟨v.Id, v.Values⟩ : Qaa)
theorem Qaad (vis : Qt → Bool) (s : List Qt) : (Qhq vis s).length ≤ s.length := by
  unfold Qhq
  rw [List.length_map]
  exact List.length_filter_le _ _
theorem Qasj {x y : List Int} (h : Qox x y = true) : x = y := by
  unfold Qox at h
  by_cases hl : x.length = y.length
  · rw [show (((x.length : Nat) : Int) != ((y.length : Nat) : Int)) = false from by rw [hl, bne_self_eq_false], cond_false, Qix (p := fun k => !(gt x k != gt y k)) (r := false) (fun k _ => by unfold Qaas; cases gt x k != gt y k <;> rfl)] at h
    have ha : (List.range x.length).all (fun k => !(gt x k != gt y k)) = true := by
      cases hc : (List.range x.length).all (fun k => !(gt x k != gt y k)) with
      | true => rfl
      | false => rw [hc] at h; cases h
    rw [List.all_eq_true] at ha
    apply List.ext_getElem hl
    intro i h1 h2
    have := ha i (List.mem_range.2 h1)
    rw [Bool.not_eq_true', bne_eq_false_iff_eq, Qdo h1, Qdo h2] at this
    exact this
  rw [bne_iff_ne.2 (show ((x.length : Nat) : Int) ≠ ((y.length : Nat) : Int) by omega)] at h
  cases h
def Qgy (s : Qcp) (v : Int) : Bool := decide (s.From ≤ v ∧ v ≤ s.To)
def Qib : List Qcp → Int → List Int
  | [], _ => []
  | s :: l, v => cond (Qgy s v) s.Set (Qib l v)
theorem Qajz (l : List Qcp) (v : Int) : Qfu l v = Qib l v := by
  have key : ∀ m k, m + k = l.length → Sum.elim id (fun (_ : Unit) => []) (rng (R := List Int) (fun k (_ : Unit) => Qlq l v k) m k ()) = Qib (l.drop k) v := by
    intro m
    induction m with
    | zero => intro k hk; rw [List.drop_of_length_le (by omega)]; rfl
    | succ m ih =>
      intro k hk
      have hlt : k < l.length := by omega
      rw [List.drop_eq_getElem_cons hlt, ← Qdo hlt, rng]
      show Sum.elim id (fun (_ : Unit) => []) (Sum.elim Sum.inl (fun s' => rng (R := List Int) (fun k (_ : Unit) => Qlq l v k) m (k + 1) s') (Qlq l v k)) = cond (Qgy (gt l k) v) (gt l k).Set (Qib (l.drop (k + 1)) v)
      unfold Qlq Qgy
      rw [Qfn]
      cases decide ((gt l k).From ≤ v ∧ v ≤ (gt l k).To) with
      | true => rfl
      | false => exact ih (k + 1) (by omega)
  have := key (l.length - 0) 0 (by omega)
  rw [List.drop_zero] at this
  exact this
theorem Qaee {z : Qcp} {v : Int} (h : Qgy z v = false) : ∀ p : List Qcp, Qib (p ++ [z]) v = Qib p v
  | [] => by show cond (Qgy z v) _ _ = _; rw [h]; rfl
  | s :: p => by show cond (Qgy s v) _ (Qib (p ++ [z]) v) = cond (Qgy s v) _ (Qib p v); rw [Qaee h p]
theorem Qxk {z : Qcp} {v : Int} (h : Qgy z v = true) : ∀ p : List Qcp, (∀ s ∈ p, Qgy s v = false) → Qib (p ++ [z]) v = z.Set
  | [], _ => by show cond (Qgy z v) _ _ = _; rw [h]; rfl
  | s :: p, hp => by
    show cond (Qgy s v) _ (Qib (p ++ [z]) v) = _
    rw [hp s (List.mem_cons_self ..), Qxk h p (fun s' hs => hp s' (List.mem_cons_of_mem _ hs))]
    rfl
theorem Qaed {z z' : Qcp} {v : Int} (h : Qgy z v = Qgy z' v) (hs : z.Set = z'.Set) : ∀ p : List Qcp, Qib (p ++ [z]) v = Qib (p ++ [z']) v
  | [] => by show cond (Qgy z v) _ _ = cond (Qgy z' v) _ _; rw [h, hs]
  | s :: p => by show cond (Qgy s v) _ (Qib (p ++ [z]) v) = cond (Qgy s v) _ (Qib (p ++ [z']) v); rw [Qaed h hs p]
def Qwr (T : Int → List Int) (k : Nat) (d : List Qcp) : Prop :=
  (k = 0 ∧ d = []) ∨ ∃ p z, d = p ++ [z] ∧ z.To = ((k : Nat) : Int) - 1 ∧ z.From ≤ ((k : Nat) : Int) - 1 ∧ z.Set = T (((k : Nat) : Int) - 1) ∧ (∀ s ∈ p, s.To < z.From) ∧ ∀ v : Int, 0 ≤ v → v < ((k : Nat) : Int) → Qib d v = T v
theorem Qall {l : List Qar} {f : Int} (k : Nat) (d : List Qcp) (h : Qwr (fun v => Qeg l f v) k d) : ∃ d', Qob l f k d = .inr d' ∧ Qwr (fun v => Qeg l f v) (k + 1) d' := by
  unfold Qob
  rcases h with ⟨rfl, rfl⟩ | ⟨p, z, rfl, h1, h2, h3, h4, h5⟩
  · refine ⟨[⟨0, 0, Qeg l f 0⟩], rfl, .inr ⟨[], _, rfl, rfl, (by show (0 : Int) ≤ _; omega), rfl, (fun s hs => by cases hs), fun v v0 v1 => ?_⟩⟩
    have hv : v = 0 := by omega
    subst hv
    rfl
  have hl : (p ++ [z]).length - 1 = p.length := by rw [List.length_append]; show p.length + 1 - 1 = _; omega
  have hg : gt (p ++ [z]) p.length = z := by
    rw [Qdo (by rw [List.length_append]; show p.length < p.length + 1; omega), List.getElem_append_right (Nat.le_refl _)]
    simp
  have hset : ∀ y, (p ++ [z]).set p.length y = p ++ [y] := fun y => by
    rw [List.set_append_right _ _ (Nat.le_refl _), Nat.sub_self]; rfl
  rw [decide_eq_true (show (0 : Int) < (((p ++ [z]).length : Nat) : Int) by rw [List.length_append]; show (0 : Int) < ((p.length + 1 : Nat) : Int); omega), cond_true, hl, hg, hset]
  have hz : ∀ s ∈ p, Qgy s ((k : Nat) : Int) = false := fun s hs => decide_eq_false (by have := h4 s hs; omega)
  cases hc : Qox z.Set (Qeg l f ((k : Nat) : Int)) with
  | true =>
    have he := Qasj hc
    refine ⟨_, rfl, .inr ⟨p, _, rfl, (by show ((k : Nat) : Int) = ((k + 1 : Nat) : Int) - 1; omega), (by show z.From ≤ ((k + 1 : Nat) : Int) - 1; omega), (by show z.Set = Qeg l f (((k + 1 : Nat) : Int) - 1); rw [he]; congr 1; omega), h4, fun v v0 v1 => ?_⟩⟩
    by_cases hv : v = ((k : Nat) : Int)
    · rw [hv, Qxk (decide_eq_true (by show z.From ≤ ((k : Nat) : Int) ∧ ((k : Nat) : Int) ≤ ((k : Nat) : Int); omega)) p hz]
      exact he
    rw [← h5 v v0 (by omega)]
    refine (Qaed (z := z) (z' := ⟨z.From, ((k : Nat) : Int), z.Set⟩) (v := v) ?_ rfl p).symm
    unfold Qgy
    apply decide_eq_decide.2
    show _ ↔ (z.From ≤ v ∧ v ≤ ((k : Nat) : Int))
    omega
  | false =>
    refine ⟨_, rfl, .inr ⟨p ++ [z], _, rfl, (by show ((k : Nat) : Int) = ((k + 1 : Nat) : Int) - 1; omega), (by show ((k : Nat) : Int) ≤ ((k + 1 : Nat) : Int) - 1; omega), (by show Qeg l f ((k : Nat) : Int) = Qeg l f (((k + 1 : Nat) : Int) - 1); congr 1; omega), fun s hs => ?_, fun v v0 v1 => ?_⟩⟩
    · show s.To < ((k : Nat) : Int)
      rcases List.mem_append.1 hs with h | h
      · have := h4 s h; omega
      rw [List.mem_singleton.1 h]; omega
    by_cases hv : v = ((k : Nat) : Int)
    · rw [hv, Qxk (decide_eq_true (by show ((k : Nat) : Int) ≤ ((k : Nat) : Int) ∧ ((k : Nat) : Int) ≤ ((k : Nat) : Int); omega)) (p ++ [z]) (fun s hs => by
        rcases List.mem_append.1 hs with h | h
        · exact hz s h
        rw [List.mem_singleton.1 h]; exact decide_eq_false (by omega))]
    rw [Qaee (decide_eq_false (by show ¬ (((k : Nat) : Int) ≤ v ∧ _); omega)), h5 v v0 (by omega)]
theorem Qaka {l : List Qar} {f v : Int} (hq : Qgd l = true) (hf : 0 ≤ f ∧ f ≤ 2) (hv : 0 ≤ v ∧ v ≤ 99) : Qfu (Qdy l f) v = Qeg l f v := by
  rw [Qajz]
  unfold Qdy
  rw [hq, Qfn, decide_eq_true hf, cond_true, cond_true]
  obtain ⟨d, e, h⟩ := Qkx (R := List Qcp) (body := fun k (s : List Qcp) => Qob l f k s) (n := 100) (Qwr (fun v => Qeg l f v)) (fun k d _ h => Qall k d h) (100 - 0) 0 [] (by omega) (.inl ⟨rfl, rfl⟩)
  rw [e]
  rcases h with ⟨h, _⟩ | ⟨p, z, _, _, _, _, _, h⟩
  · exact absurd h (by omega)
  exact h v (by omega) (by show v < 100; omega)
theorem Qalj {l : List Qar} {f v : Int} (hq : Qgd l = true) (hf : 0 ≤ f ∧ f ≤ 2) (hv : 0 ≤ v ∧ v ≤ 99) : Qeg l f v = (l.filter fun q => Qjd q f v).map fun q => q.Id := by
  unfold Qeg
  rw [Qzx (b := fun k d => cond (Qjd (gt l k) f v) (Sum.inr (d ++ [(gt l k).Id])) (Sum.inr d)) (fun j s => by
    unfold Qow
    rw [hq, Qfn, Qfn, decide_eq_true hf, decide_eq_true hv]
    cases Qjd (gt l j) f v <;> rfl)]
  rw [Qhb (xs := l) (f := fun d q => cond (Qjd q f v) (d ++ [q.Id]) d) (b := fun k d => cond (Qjd (gt l k) f v) (Sum.inr (d ++ [(gt l k).Id])) (Sum.inr d)) (fun j s _ => by cases Qjd (gt l j) f v <;> rfl), Qmd]
  rfl
theorem Qaky {q : Qar} (h : Qfb q = true) : (0 ≤ q.Id ∧ q.Id ≤ 23) ∧ ∀ c ∈ q.Conds, 0 ≤ c.Field ∧ c.Field ≤ 2 := by
  unfold Qfb at h
  rw [Qix (p := fun k => Qjb (gt q.Conds k) && (!decide (0 < ((k : Nat) : Int)) || !decide ((gt q.Conds k).Field ≤ (gt q.Conds (k - 1)).Field))) (r := false) (fun k _ => by
    unfold Qoa
    cases Qjb (gt q.Conds k) <;> cases decide (0 < ((k : Nat) : Int)) <;> cases decide ((gt q.Conds k).Field ≤ (gt q.Conds (k - 1)).Field) <;> rfl), Qfn q.Id] at h
  have ha : (List.range q.Conds.length).all (fun k => Qjb (gt q.Conds k) && (!decide (0 < ((k : Nat) : Int)) || !decide ((gt q.Conds k).Field ≤ (gt q.Conds (k - 1)).Field))) = true ∧ decide (0 ≤ q.Id ∧ q.Id ≤ 23) = true := by
    revert h
    cases (List.range q.Conds.length).all (fun k => Qjb (gt q.Conds k) && (!decide (0 < ((k : Nat) : Int)) || !decide ((gt q.Conds k).Field ≤ (gt q.Conds (k - 1)).Field))) <;> cases decide (0 ≤ q.Id ∧ q.Id ≤ 23) <;> intro h <;> first | exact ⟨rfl, rfl⟩ | cases h
  obtain ⟨ha, hi⟩ := ha
  rw [List.all_eq_true] at ha
  refine ⟨of_decide_eq_true hi, fun c hc => ?_⟩
  obtain ⟨i, hi, rfl⟩ := List.mem_iff_getElem.1 hc
  have := ha i (List.mem_range.2 hi)
  rw [Bool.and_eq_true, Qdo hi] at this
  have h1 := this.1
  unfold Qjb at h1
  rw [Qfn] at h1
  by_cases hf : 0 ≤ q.Conds[i].Field ∧ q.Conds[i].Field ≤ 2
  · exact hf
  rw [decide_eq_false hf] at h1; cases h1
def Qne (q : Qar) (f v : Int) : Bool := q.Conds.all fun c => !(c.Field == f) || decide (c.Low ≤ v ∧ v ≤ c.High)
theorem Qabo (q : Qar) (f v : Int) : Qjd q f v = Qne q f v := by
  unfold Qjd Qne
  rw [Qqj (xs := q.Conds) (p := fun c => !(c.Field == f) || decide (c.Low ≤ v ∧ v ≤ c.High)) (r := false) (fun k _ => by
    unfold Qaav
    rw [Qfn]
    cases (gt q.Conds k).Field == f <;> cases decide ((gt q.Conds k).Low ≤ v ∧ v ≤ (gt q.Conds k).High) <;> rfl)]
  cases q.Conds.all fun c => !(c.Field == f) || decide (c.Low ≤ v ∧ v ≤ c.High) <;> rfl
theorem Qakh {x : List Int} (h1 : x.Pairwise (fun a b => a < b)) (h2 : ∀ y ∈ x, 0 ≤ y ∧ y ≤ 23) : Qgt x = true := by
  unfold Qgt
  rw [Qml (fun k hk => by
    unfold Qso
    rw [Qfn, decide_eq_true (h2 _ (Qak hk)), cond_true]
    by_cases h0 : 0 < k
    · rw [decide_eq_true (show (0 : Int) < ((k : Nat) : Int) by omega), decide_eq_false (show ¬ gt x k ≤ gt x (k - 1) by
        have := List.pairwise_iff_getElem.1 h1 (k - 1) k (by omega) hk (by omega)
        rw [Qdo hk, Qdo (by omega)]
        omega)]
      rfl
    rw [decide_eq_false (show ¬ (0 : Int) < ((k : Nat) : Int) by omega)]
    rfl)]
  rfl
theorem Qaeq {l : List Qar} (hq : Qgd l = true) (p : Qar → Bool) : Qgt ((l.filter p).map fun q => q.Id) = true := by
  obtain ⟨_, hq1, hpw⟩ := Qwo hq
  refine Qakh ?_ (fun y hy => ?_)
  · rw [List.pairwise_map]; exact hpw.filter p
  obtain ⟨q, hq', rfl⟩ := List.mem_map.1 hy
  exact (Qaky (hq1 q (List.mem_filter.1 hq').1)).1
theorem Qaqk {l : List Qar} (h : l.Pairwise (fun a b => a.Id < b.Id)) {a b : Qar} (ha : a ∈ l) (hb : b ∈ l) (he : a.Id = b.Id) : a = b := by
  obtain ⟨i, hi, rfl⟩ := List.mem_iff_getElem.1 ha
  obtain ⟨j, hj, rfl⟩ := List.mem_iff_getElem.1 hb
  rcases Nat.lt_trichotomy i j with c | rfl | c
  · have := List.pairwise_iff_getElem.1 h i j hi hj c; omega
  · rfl
  have := List.pairwise_iff_getElem.1 h j i hj hi c; omega
theorem Qawr (x : List Int) (i : Int) : Qez x i = x.any fun y => y == i := by
  unfold Qez
  rw [Quu (p := fun y => y == i) (r := true) (fun j _ => rfl)]
  cases x.any fun y => y == i <;> rfl
theorem Qagn {l : List Qar} (hq : Qgd l = true) (r : Qar → Bool) {q : Qar} (hm : q ∈ l) : Qez ((l.filter r).map fun q => q.Id) q.Id = r q := by
  obtain ⟨_, _, hpw⟩ := Qwo hq
  rw [Qawr]
  cases hr : r q with
  | true => rw [List.any_eq_true]; exact ⟨q.Id, List.mem_map.2 ⟨q, List.mem_filter.2 ⟨hm, hr⟩, rfl⟩, beq_self_eq_true _⟩
  | false =>
    rw [List.any_eq_false]
    intro y hy
    obtain ⟨q', h1, rfl⟩ := List.mem_map.1 hy
    rw [beq_iff_eq]
    intro he
    obtain ⟨h2, h3⟩ := List.mem_filter.1 h1
    rw [Qaqk hpw h2 hm he, hr] at h3
    cases h3
theorem Qawq {l : List Qar} (hq : Qgd l = true) (p r : Qar → Bool) : Qkz ((l.filter p).map fun q => q.Id) ((l.filter r).map fun q => q.Id) = (l.filter fun q => p q && r q).map fun q => q.Id := by
  rw [Qahs, Qaeq hq, Qaeq hq]
  show List.filter _ (List.map _ _) = _
  rw [List.filter_map, List.filter_filter]
  refine congrArg (List.map _) (List.filter_congr fun q hq' => ?_)
  show (Qez ((l.filter r).map fun q => q.Id) q.Id && p q) = (p q && r q)
  rw [Qagn hq r hq', Bool.and_comm]
def Qhx (r : Qaa) (k : Nat) (q : Qar) : Bool := (List.range k).all fun f => Qne q ((f : Nat) : Int) (gt r.Values f)
def Qhy (r : Qaa) (o : List Int) (q : Qar) : Bool := o.all fun f => Qne q f (gt r.Values f.toNat)
theorem Qawt {o : List Int} (ho : Qlb o = true) : ∀ k : Nat, k < 3 → ((k : Nat) : Int) ∈ o := by
  have h1 := Qafh o
  rw [ho] at h1
  unfold Qqb at h1
  rw [Qix (n := 3) (p := fun k => Qhp o k) (r := false) (fun k _ => rfl)] at h1
  intro k hk
  cases ha : (List.range 3).all (fun k => Qhp o ((k : Nat) : Int)) with
  | false => rw [ha] at h1; cases h1
  | true =>
    have h2 := List.all_eq_true.1 ha k (List.mem_range.2 hk)
    have h3 : Qhp o ((k : Nat) : Int) = o.any fun z => z == ((k : Nat) : Int) := Qxm o _
    rw [h3, List.any_eq_true] at h2
    obtain ⟨z, hz, he⟩ := h2
    rw [← beq_iff_eq.1 he]
    exact hz
theorem Qalz {o : List Int} (ho : Qlb o = true) (r : Qaa) (q : Qar) : Qhy r o q = Qhx r 3 q := by
  rw [Bool.eq_iff_iff]
  unfold Qhy Qhx
  simp only [List.all_eq_true, List.mem_range]
  constructor
  · intro h k hk
    have := h _ (Qawt ho k hk)
    rw [Int.toNat_natCast] at this
    exact this
  intro h f hf
  have hr := Qaam ho f hf
  have := h f.toNat (by omega)
  rw [Int.toNat_of_nonneg hr.1] at this
  exact this
theorem Qakn {l : List Qar} {r : Qaa} {o : List Int} (hq : Qgd l = true) (hr : Qgh r = true) (ho : Qlb o = true) : (Qkc (Qey l) r o).1 = (l.filter (Qhx r 3)).map fun q => q.Id := by
  obtain ⟨hv, _, h3⟩ := (Qpn r).1 hr
  have hor := Qaam ho
  rw [Qabq hq]
  have hst : ∀ k, k < 3 → gt [Qdy l 0, Qdy l 1, Qdy l 2] k = Qdy l ((k : Nat) : Int) := fun k hk => by
    rcases k with _ | _ | _ | k
    · rfl
    · rfl
    · rfl
    omega
  have hfind : ∀ f : Int, 0 ≤ f ∧ f ≤ 2 → Qfu (gt [Qdy l 0, Qdy l 1, Qdy l 2] f.toNat) (gt r.Values f.toNat) = (l.filter fun q => Qne q f (gt r.Values f.toNat)).map fun q => q.Id := fun f hf => by
    rw [hst _ (by omega), Int.toNat_of_nonneg hf.1, Qaka hq hf (hv _ (Qak (by omega))), Qalj hq hf (hv _ (Qak (by omega)))]
    refine congrArg (List.map _) (List.filter_congr fun q _ => Qabo q _ _)
  unfold Qkc
  have hall : Qkb l = (l.filter (Qhy r (o.take 0))).map fun q => q.Id := by
    unfold Qkb
    rw [Qhb (xs := l) (f := fun d q => d ++ [q.Id]) (b := fun k s => Qvk l k s) (fun _ _ _ => rfl)]
    show l.foldl _ [] = _
    have h1 := Qmd (fun _ : Qar => true) (fun q : Qar => q.Id) l []
    have h2 : l.filter (Qhy r (o.take 0)) = l.filter (fun _ => true) := List.filter_congr fun q _ => rfl
    rw [h2]
    exact h1
  have hsucc : ∀ k, k < o.length → ∀ q, Qhy r (o.take (k + 1)) q = (Qhy r (o.take k) q && Qne q (gt o k) (gt r.Values (gt o k).toNat)) := fun k hk q => by
    unfold Qhy
    rw [List.take_add_one, Qbr hk, List.all_append]
    simp
  have hmono : ∀ k, ∀ q, Qhy r o q = true → Qhy r (o.take k) q = true := fun k q h => by
    unfold Qhy at h ⊢
    rw [List.all_eq_true] at h ⊢
    exact fun f hf => h f (List.mem_of_mem_take hf)
  obtain ⟨s', e, h⟩ := Qzz (R := (List Int) × Int) (b := fun k (s : (List Int) × Int) => Qoz ⟨l, [Qdy l 0, Qdy l 1, Qdy l 2]⟩ r o k s.1 s.2) (n := o.length) (P := fun k s => s.1 = (l.filter (Qhy r (o.take k))).map fun q => q.Id) (Q := fun s => s.1 = (l.filter (Qhy r o)).map fun q => q.Id) (fun k s hk hs => by
    show (∃ s', Qoz _ r o k s.1 s.2 = _ ∧ _) ∨ ∃ s', Qoz _ r o k s.1 s.2 = _ ∧ _
    unfold Qoz
    by_cases h0 : 0 < s.1.length
    · rw [decide_eq_true (show (0 : Int) < ((s.1.length : Nat) : Int) by omega), cond_true]
      refine .inl ⟨_, rfl, ?_⟩
      show Qkz s.1 _ = _
      rw [hfind _ (hor _ (Qak hk)), hs, Qawq hq]
      exact congrArg (List.map _) (List.filter_congr fun q _ => (hsucc k hk q).symm)
    rw [decide_eq_false (show ¬ (0 : Int) < ((s.1.length : Nat) : Int) by omega), cond_false]
    refine .inr ⟨_, rfl, ?_⟩
    have hnil : s.1 = [] := List.eq_nil_of_length_eq_zero (by omega)
    rw [hnil] at hs
    show s.1 = _
    rw [hnil]
    have h1 : l.filter (Qhy r (o.take k)) = [] := List.map_eq_nil_iff.1 hs.symm
    have h2 : l.filter (Qhy r o) = [] := by
      rw [List.filter_eq_nil_iff] at h1 ⊢
      exact fun q hq' h => h1 q hq' (hmono k q h)
    rw [h2]
    rfl) (o.length - 0) 0 ((Qkb l), 0) rfl hall
  have e2 : l.filter (Qhx r 3) = l.filter (Qhy r o) := List.filter_congr fun q _ => (Qalz ho r q).symm
  rw [e2]
  show (Sum.elim id (fun (s : (List Int) × Int) => (s.1, s.2)) (Qed (R := (List Int) × Int) (fun k (s : (List Int) × Int) => Qoz ⟨l, [Qdy l 0, Qdy l 1, Qdy l 2]⟩ r o k s.1 s.2) (o.length - 0) 0 ((Qkb l), 0))).1 = _
  rw [e]
  rcases h with h | h
  · exact h
  rw [List.take_length] at h; exact h
def Qfm (x : Qr) : List Qt := gt x.Store.Segments x.Cursor.toNat
def Qio (a : Qw) (v : Qt) : Bool := Qhx (⟨v.Id, v.Values⟩ : Qaa) 3 a.Query && Qfy v a.Time
def Qjv (x : Qr) (a : Qw) : List Qaa := Qhq (Qio a) (Qfm x)
def Qsy (x : Qr) (a : Qw) : Qw := ⟨a.Query, a.Time, a.Todo.filter (fun y => y != x.Cursor), a.Age, IntKind.i64.wrap (a.Sent + (((Qjv x a).length : Nat) : Int)), a.Cap, a.Rows ++ Qjv x a⟩
def Qen (x : Qr) (ids : List Int) : List Qw := x.Active.map fun a => cond (decide (a.Query.Id ∈ ids)) (Qsy x a) a
def atI (x : Qr) (y : Int) : Qw := gt x.Active (Qdh x y).toNat
theorem Qww (x : Qr) : Qen x [] = x.Active := by
  unfold Qen
  have h : ∀ a ∈ x.Active, (cond (decide (a.Query.Id ∈ ([] : List Int))) (Qsy x a) a) = a := fun a _ => by rw [decide_eq_false (by simp)]; rfl
  rw [List.map_congr_left h, List.map_id']
theorem Qnd (x : Qr) (ids : List Int) : (Qen x ids).length = x.Active.length := by unfold Qen; rw [List.length_map]
theorem Qtl (x : Qr) (ids : List Int) {i : Nat} (hi : i < x.Active.length) : gt (Qen x ids) i = cond (decide ((gt x.Active i).Query.Id ∈ ids)) (Qsy x (gt x.Active i)) (gt x.Active i) := by
  unfold Qen
  rw [Qdo (by rw [List.length_map]; exact hi), Qdo hi, List.getElem_map]
theorem Qaco (x : Qr) (ids : List Int) : (Qen x ids).map (fun (a : Qw) => a.Query.Id) = x.Active.map (fun (a : Qw) => a.Query.Id) := by
  unfold Qen
  rw [List.map_map]
  refine List.map_congr_left fun a _ => ?_
  show (cond (decide (a.Query.Id ∈ ids)) (Qsy x a) a).Query.Id = _
  cases decide (a.Query.Id ∈ ids) <;> rfl
theorem Qakl {x : Qr} (h : Eng x) : (Qbc x).Pairwise (fun a b => a < b) := by
  rw [Qrc h, List.pairwise_map]; exact h.srt.filter _
theorem Qrb {x : Qr} (h : Eng x) {y : Int} (hy : y ∈ Qbc x) : ∃ i, i < x.Active.length ∧ (gt x.Active i).Query.Id = y ∧ Qdh x y = ((i : Nat) : Int) ∧ Qny x.Cursor (gt x.Active i) = true := by
  rw [Qrc h] at hy
  obtain ⟨a, ha, rfl⟩ := List.mem_map.1 hy
  obtain ⟨ha, hb⟩ := List.mem_filter.1 ha
  obtain ⟨i, hi, rfl⟩ := List.mem_iff_getElem.1 ha
  rw [← Qdo hi] at hb ⊢
  exact ⟨i, hi, rfl, Qte h.srt hi, hb⟩
theorem Qakk {x : Qr} (h : Eng x) {k : Nat} (hk : k < (Qbc x).length) : gt (Qbc x) k ∉ (Qbc x).take k := fun hm => by
  obtain ⟨j, hj, he⟩ := List.mem_iff_getElem.1 hm
  rw [List.length_take] at hj
  rw [List.getElem_take] at he
  have := List.pairwise_iff_getElem.1 (Qakl h) j k (by omega) hk (by omega)
  rw [Qdo hk] at he
  omega
theorem Qwv {x : Qr} (h : Eng x) {k : Nat} (hk : k < (Qbc x).length) : gt (Qen x ((Qbc x).take k)) (Qdh x (gt (Qbc x) k)).toNat = atI x (gt (Qbc x) k) := by
  obtain ⟨i, hi, he, hf, _⟩ := Qrb h (Qak hk)
  unfold atI
  rw [hf, Int.toNat_natCast, Qtl x _ hi, he, decide_eq_false (Qakk h hk)]
  rfl
theorem Qacp {x : Qr} (h : Eng x) {k : Nat} (hk : k < (Qbc x).length) : (Qen x ((Qbc x).take k)).set (Qdh x (gt (Qbc x) k)).toNat (Qsy x (atI x (gt (Qbc x) k))) = Qen x ((Qbc x).take (k + 1)) := by
  obtain ⟨i, hi, he, hf, _⟩ := Qrb h (Qak hk)
  unfold atI
  rw [hf, Int.toNat_natCast]
  refine List.ext_getElem (by rw [List.length_set, Qnd, Qnd]) fun j h1 h2 => ?_
  have hj : j < x.Active.length := by rw [Qnd] at h2; exact h2
  rw [List.getElem_set]
  by_cases hij : i = j
  · subst hij
    rw [if_pos rfl, ← Qdo h2, Qtl x _ hi, he, decide_eq_true]
    · rfl
    rw [List.take_add_one, Qbr hk]
    simp
  rw [if_neg hij, ← Qdo h2, ← Qdo (by rw [Qnd]; exact hj), Qtl x _ hj, Qtl x _ hj]
  have hne : (gt x.Active j).Query.Id ≠ gt (Qbc x) k := fun e => by
    have h3 := Qte h.srt hj
    rw [e, hf] at h3
    omega
  congr 1
  rw [List.take_add_one, Qbr hk, decide_eq_decide, List.mem_append]
  simp [hne]
theorem Qaae {x : Qr} (h : Eng x) {v : Qt} (hv : v ∈ Qfm x) : Qgh (⟨v.Id, v.Values⟩ : Qaa) = true := by
  have hc := h.cur
  have hs := (Qkg _).1 h.st
  have := hs.2.2.2.1 _ (List.mem_flatten.2 ⟨_, Qak (show x.Cursor.toNat < x.Store.Segments.length by omega), hv⟩)
  exact ((Qacj hs.2.1.2).1 this).1
theorem Qayi (p : Qt → Bool) {l : List Qt} {j : Nat} (hj : j < l.length) : Qhq p (l.take (j + 1)) = Qhq p (l.take j) ++ cond (p (gt l j)) [(⟨(gt l j).Id, (gt l j).Values⟩ : Qaa)] [] := by
  unfold Qhq
  rw [List.take_add_one, Qbr hj, List.filter_append, List.map_append]
  congr 1
  show List.map _ (List.filter p [gt l j]) = _
  cases hp : p (gt l j) with
  | true => rw [List.filter_cons_of_pos hp]; rfl
  | false => rw [List.filter_cons_of_neg (by rw [hp]; exact Bool.false_ne_true)]; rfl
theorem Qayl {α : Type} [Inhabited α] (d : List α) (i : Nat) : d.set i (gt d i) = d := by
  by_cases hi : i < d.length
  · rw [Qdo hi]; exact List.set_getElem_self hi
  exact List.set_eq_of_length_le (by omega)
theorem Qaep {α : Type} [Inhabited α] {d : List α} {i : Nat} (hi : i < d.length) (y : α) : gt (d.set i y) i = y := by
  rw [Qdo (by rw [List.length_set]; exact hi), List.getElem_set_self]
def Qor (a : Qw) (l : List Qaa) : Qw := ⟨a.Query, a.Time, a.Todo, a.Age, a.Sent, a.Cap, a.Rows ++ l⟩
theorem Qalc {x : Qr} (h : Eng x) {k : Nat} (hk : k < (Qbc x).length) {d : List Qw} (hd : d.map (fun (a : Qw) => a.Query.Id) = x.Active.map (fun (a : Qw) => a.Query.Id)) (hc : gt d (Qdh x (gt (Qbc x) k)).toNat = atI x (gt (Qbc x) k)) :
    rng (R := Qr) (fun j (s : Int × (List Qw)) => Qqn x (Qbc x) (Qfq x (Qbc x)) k d j s.1 s.2) ((gt x.Store.Segments (x.Cursor.toNat)).length - 0) 0 (0, d) = .inr ((((Qjv x (atI x (gt (Qbc x) k))).length : Nat) : Int), d.set (Qdh x (gt (Qbc x) k)).toNat (Qor (atI x (gt (Qbc x) k)) (Qjv x (atI x (gt (Qbc x) k))))) := by
  obtain ⟨hfq, hdl⟩ := Qwp hd (gt (Qbc x) k)
  obtain ⟨i, hi, he, hf, hpb⟩ := Qrb h (Qak hk)
  have ha : atI x (gt (Qbc x) k) = gt x.Active i := by unfold atI; rw [hf, Int.toNat_natCast]
  have hare := Qacb h
  have hq : (gt x.Active i).Query ∈ Qfq x (Qbc x) := by
    rw [Qacc h]
    exact List.mem_map.2 ⟨_, List.mem_filter.2 ⟨Qak hi, hpb⟩, rfl⟩
  rw [ha] at hc ⊢
  rw [hf, Int.toNat_natCast] at hc ⊢
  have h4 := Qwq h
  obtain ⟨s', e, h1, h2⟩ := Qkx (R := Qr) (body := fun j (s : Int × (List Qw)) => Qqn x (Qbc x) (Qfq x (Qbc x)) k d j s.1 s.2) (n := (gt x.Store.Segments (x.Cursor.toNat)).length)
    (fun j s => s.1 = (((Qhq (Qio (gt x.Active i)) ((Qfm x).take j)).length : Nat) : Int) ∧ s.2 = d.set i (Qor (gt x.Active i) (Qhq (Qio (gt x.Active i)) ((Qfm x).take j)))) (fun j s hj hs => by
      obtain ⟨s1, s2⟩ := s
      obtain ⟨h1, h2⟩ := hs
      dsimp only at h1 h2
      show ∃ s', Qqn x (Qbc x) (Qfq x (Qbc x)) k d j s1 s2 = _ ∧ _
      unfold Qqn
      have hrow := Qaae h (show gt (gt x.Store.Segments x.Cursor.toNat) j ∈ Qfm x from Qak hj)
      have hadm : Qez ((Qkc (Qey (Qfq x (Qbc x))) (⟨(gt (gt x.Store.Segments (x.Cursor.toNat)) j).Id, (gt (gt x.Store.Segments (x.Cursor.toNat)) j).Values⟩ : Qaa) x.Order).1) (gt (Qbc x) k) = Qhx (⟨(gt (gt x.Store.Segments (x.Cursor.toNat)) j).Id, (gt (gt x.Store.Segments (x.Cursor.toNat)) j).Values⟩ : Qaa) 3 (gt x.Active i).Query := by
        rw [Qakn hare hrow h.ord, ← he, Qagn hare _ hq]
      rw [hadm, hfq, hf, Int.toNat_natCast]
      have hg : gt s2 i = Qor (gt x.Active i) (Qhq (Qio (gt x.Active i)) ((Qfm x).take j)) := by rw [h2]; exact Qaep (by omega) _
      have htm : (gt s2 i).Time = (gt x.Active i).Time := by rw [hg]; rfl
      rw [htm]
      have hsn := Qayi (Qio (gt x.Active i)) (l := Qfm x) hj
      have hvis : Qql (gt (gt x.Store.Segments x.Cursor.toNat) j) (gt x.Active i).Time = Qfy (gt (Qfm x) j) (gt x.Active i).Time := rfl
      have hadm2 : Qhx (⟨(gt (gt x.Store.Segments (x.Cursor.toNat)) j).Id, (gt (gt x.Store.Segments (x.Cursor.toNat)) j).Values⟩ : Qaa) 3 (gt x.Active i).Query = Qhx (⟨(gt (Qfm x) j).Id, (gt (Qfm x) j).Values⟩ : Qaa) 3 (gt x.Active i).Query := rfl
      rw [hvis, hadm2]
      have hl4 := Qaad (Qio (gt x.Active i)) ((Qfm x).take j)
      rw [List.length_take] at hl4
      have hsl : (Qfm x).length ≤ 4 := h4
      cases h5 : Qhx (⟨(gt (Qfm x) j).Id, (gt (Qfm x) j).Values⟩ : Qaa) 3 (gt x.Active i).Query with
      | false =>
        have hb : Qio (gt x.Active i) (gt (Qfm x) j) = false := by unfold Qio; rw [h5]; rfl
        rw [hb] at hsn
        refine ⟨(s1, s2), rfl, ?_, ?_⟩
        · dsimp only; rw [hsn, cond_false, List.append_nil]; exact h1
        dsimp only; rw [hsn, cond_false, List.append_nil]; exact h2
      | true =>
        cases h6 : Qfy (gt (Qfm x) j) (gt x.Active i).Time with
        | false =>
          have hb : Qio (gt x.Active i) (gt (Qfm x) j) = false := by unfold Qio; rw [h5, h6]; rfl
          rw [hb] at hsn
          refine ⟨(s1, s2), rfl, ?_, ?_⟩
          · dsimp only; rw [hsn, cond_false, List.append_nil]; exact h1
          dsimp only; rw [hsn, cond_false, List.append_nil]; exact h2
        | true =>
          have hb : Qio (gt x.Active i) (gt (Qfm x) j) = true := by unfold Qio; rw [h5, h6]; rfl
          rw [hb] at hsn
          refine ⟨_, rfl, ?_, ?_⟩
          · dsimp only
            rw [hsn, cond_true, List.length_append, h1, Qer (by omega) (by omega)]
            show _ + 1 = (((_ + 1 : Nat)) : Int)
            omega
          show Qoc x ((i : Nat) : Int) j s2 = _
          unfold Qoc Qjc
          rw [Int.toNat_natCast, hg, h2, List.set_set, hsn, cond_true]
          unfold Qor
          dsimp only
          rw [List.append_assoc]
          rfl) ((gt x.Store.Segments (x.Cursor.toNat)).length - 0) 0 (0, d) (by omega) ⟨rfl, by
      show d = d.set i (Qor (gt x.Active i) (Qhq (Qio (gt x.Active i)) ((Qfm x).take 0)))
      have e0 : Qor (gt x.Active i) (Qhq (Qio (gt x.Active i)) ((Qfm x).take 0)) = gt d i := by
        rw [hc]
        generalize gt x.Active i = a
        cases a
        simp [Qor, Qhq]
      rw [e0, Qayl]⟩
  rw [e]
  have ht : (Qfm x).take (gt x.Store.Segments (x.Cursor.toNat)).length = Qfm x := List.take_length
  rw [ht] at h1 h2
  obtain ⟨s1, s2⟩ := s'
  dsimp only at h1 h2
  rw [h1, h2]
  rfl
def Qmo (x : Qr) (ids : List Int) : List Int := ids.map fun y => (atI x y).Query.Tenant
def Qmc (x : Qr) (ids : List Int) : List Int := ids.map fun y => (((Qjv x (atI x y)).length : Nat) : Int)
def Qnj (x : Qr) : Qbb := ⟨x.Cursor, (((Qfm x).length : Nat) : Int), Qbc x, Qmo x (Qbc x), Qmc x (Qbc x)⟩
theorem Qus {β : Type} (f : Int → β) {l : List Int} {k : Nat} (hk : k < l.length) : (l.take (k + 1)).map f = (l.take k).map f ++ [f (gt l k)] := by
  rw [List.take_add_one, Qbr hk, List.map_append]
  rfl
theorem Qre {x : Qr} (h : Eng x) : Qla x (Qbc x) = ⟨x.Store, x.Cursor, x.Order, Qen x (Qbc x), x.Done, x.Ledger ++ [Qnj x], x.Steps⟩ := by
  have h8 := Qrf h
  unfold Qla
  obtain ⟨q, e1, hq⟩ := Qkx (R := Qr) (body := fun k (s : (List Qar)) => Qaar x (Qbc x) k s) (n := (Qbc x).length) (fun k s => s = Qfq x ((Qbc x).take k)) (fun k s hk hs => ⟨_, rfl, by rw [Qace hk, ← hs]⟩) ((Qbc x).length - 0) 0 [] (by omega) rfl
  rw [List.take_length] at hq
  rw [e1, hq]
  obtain ⟨s, e2, h1, h2, h3⟩ := Qkx (R := Qr) (body := fun k (s : (List Int) × (List Int) × (List Qw)) => Qqm x (Qbc x) (Qfq x (Qbc x)) k s.1 s.2.1 s.2.2) (n := (Qbc x).length)
    (fun k s => s.1 = Qmo x ((Qbc x).take k) ∧ s.2.1 = Qmc x ((Qbc x).take k) ∧ s.2.2 = Qen x ((Qbc x).take k)) (fun k s hk hs => by
      obtain ⟨s1, s2, s3⟩ := s
      obtain ⟨h1, h2, h3⟩ := hs
      dsimp only at h1 h2 h3
      subst h3
      show ∃ s', Qqm x (Qbc x) (Qfq x (Qbc x)) k s1 s2 _ = _ ∧ _
      unfold Qqm
      rw [Qalc h hk (Qaco x _) (Qwv h hk), (Qwp (Qaco x ((Qbc x).take k)) (gt (Qbc x) k)).1]
      refine ⟨_, rfl, ?_, ?_, ?_⟩
      · show s1 ++ [_] = _
        unfold Qmo at h1 ⊢
        rw [Qus _ hk, h1, Qwv h hk]
      · show s2 ++ [_] = _
        unfold Qmc at h2 ⊢
        rw [Qus _ hk, h2]
      obtain ⟨i, hi, he, hf, hpb⟩ := Qrb h (Qak hk)
      rw [← Qacp h hk]
      unfold Qqo
      dsimp only
      rw [Qaep (by rw [Qnd, hf]; omega), List.set_set, Qait]
      rfl) ((Qbc x).length - 0) 0 ([], [], x.Active) (by omega) ⟨rfl, rfl, by rw [List.take_zero, Qww]⟩
  show Sum.elim id _ (rng (R := Qr) (fun k (s : (List Int) × (List Int) × (List Qw)) => Qqm x (Qbc x) (Qfq x (Qbc x)) k s.1 s.2.1 s.2.2) ((Qbc x).length - 0) 0 ([], [], x.Active)) = _
  rw [e2]
  obtain ⟨s1, s2, s3⟩ := s
  dsimp only at h1 h2 h3
  rw [List.take_length] at h1 h2 h3
  rw [h1, h2, h3]
  rfl
theorem Qali {x : Qr} (h : Eng x) : (Qla x (Qbc x)).Store = x.Store := by rw [Qre h]
theorem Qalg {x : Qr} (h : Eng x) : (Qla x (Qbc x)).Store.Segments.length = x.Store.Segments.length := by rw [Qre h]
theorem Qalb {x : Qr} (h : Eng x) : (Qla x (Qbc x)).Active.length = x.Active.length := by rw [Qre h]; exact Qnd _ _
theorem Qald {x : Qr} (h : Eng x) : (Qla x (Qbc x)).Done.length = x.Done.length := by rw [Qre h]
abbrev Qvg (E36 : Qr) (k95 : Nat) (d96 : (List Qw)) : (List Qw) :=
 (d96 ++ [(⟨(gt E36.Active k95).Query, (gt E36.Active k95).Time, (gt E36.Active k95).Todo, (IntKind.i64.wrap (((gt E36.Active k95).Age) + 1)), 0, (gt E36.Active k95).Cap, (gt E36.Active k95).Rows⟩ : Qw)])
abbrev Qvh (E36 : Qr) (k95 : Nat) (d96 : (List Qw)) : (List Qw) :=
 (d96 ++ [(⟨(gt E36.Active k95).Query, (gt E36.Active k95).Time, (gt E36.Active k95).Todo, (IntKind.i64.wrap (((gt E36.Active k95).Age) + 1)), (gt E36.Active k95).Sent, (gt E36.Active k95).Cap, (gt E36.Active k95).Rows⟩ : Qw)])
def Qss (E36 : Qr) (k95 : Nat) (d96 : (List Qw)) (d100 : (List Qat)) : Qr ⊕ ((List Qw) × (List Qat)) :=
 cond ((Int.tmod (IntKind.i64.wrap (((gt E36.Active k95).Age) + 1)) ((E36.Store.Segments.length : Nat) : Int)) == 0) (cond (((((gt E36.Active k95).Todo).length : Nat) : Int) == 0) (Sum.inr (d96, (d100 ++ [(⟨(gt E36.Active k95).Query, (gt E36.Active k95).Time, (IntKind.i64.wrap (((gt E36.Active k95).Age) + 1)), (gt E36.Active k95).Rows⟩ : Qat)]))) (Sum.inr ((Qvg E36 k95 d96), d100))) (cond (((((gt E36.Active k95).Todo).length : Nat) : Int) == 0) (Sum.inr (d96, (d100 ++ [(⟨(gt E36.Active k95).Query, (gt E36.Active k95).Time, (IntKind.i64.wrap (((gt E36.Active k95).Age) + 1)), (gt E36.Active k95).Rows⟩ : Qat)]))) (Sum.inr ((Qvh E36 k95 d96), d100)))
def Qqq (x0 : Qr) : Qr ⊕ Qr :=
 cond (decide (0 < (((Qbc x0).length : Nat) : Int))) (Sum.inr (Qla x0 (Qbc x0))) (Sum.inr x0)
def Qfv (x0 : Qr) : Qr :=
 Sum.elim id (fun (s101_ : Qr) => Sum.elim id (fun (s : (List Qw) × (List Qat)) => (Qmn (⟨s101_.Store, (Int.tmod (IntKind.i64.wrap (s101_.Cursor + 1)) ((s101_.Store.Segments.length : Nat) : Int)), s101_.Order, s.1, s.2, s101_.Ledger, (IntKind.i64.wrap (s101_.Steps + 1))⟩ : Qr))) (rng (R := Qr) (fun k (s : (List Qw) × (List Qat)) => Qss s101_ k s.1 s.2) (s101_.Active.length - 0) 0 ([], s101_.Done))) ((Qqq x0))
theorem cb62 : Cb Tryz.prog 62 := ⟨f62, _, func62, rfl, by decide⟩
theorem Qazk (B : Nat) (w0 : World) (is : List It) (w : World) (p : Nat) (z0 : List Value) (x0 : Qr) (s_0 : Qgc 68719476736 x0) (hE : Eng x0) (hm : Mem B w0 (Qh p 39 z0 :: Qm Qcf z0 x0 :: is) w) :
  Calls Tryz.prog 62 #[.pointer (sA p)] w fun e w' => ∃ x : List Value, e = .returned (.tuple #[]) ∧ Mem B w0 (Qh p 39 x :: Qm Qcf x (Qfv x0) :: is) w' := by
 refine Qhz (L := [(0, .pointer (sA p))]) (N := 100) func62 rfl rfl (Nat.le_of_ble_eq_true rfl) (Qeb rfl Qgw) hm ?_
 refine Qdp (js := (Qm Qcf z0 x0 :: Qh p 39 z0 :: is)) (fun W hm => (hm.front (n := 1) rfl)) ?_
 refine Qjq (γ := Value × Value × Value × Value × Value) (js := fun g => [Qm (tSl (tSl Qag 163) 100) [g.1] x0.Store.Segments, Qm (tSl Qa 3) [g.2.1] x0.Order, Qm (tSl Qah 61) [g.2.2.1] x0.Active, Qm (tSl Qax 80) [g.2.2.2.1] x0.Done, Qm (tSl Qav 102) [g.2.2.2.2] x0.Ledger]) (C := fun g => z0 = [g.1, iV x0.Store.Now, iV x0.Cursor, g.2.1, g.2.2.1, g.2.2.2.1, g.2.2.2.2, iV x0.Steps]) (fun _ _ h => Qqx h) ?_
 rintro ⟨v1, v2, v3, v4, v5⟩ rfl
 refine Qdc (n := 0) rfl ?_
 rintro A6 c7 rfl m8
 refine Qdc (n := 1) rfl ?_
 rintro A10 c11 rfl m12
 refine Qdc (n := 2) rfl ?_
 rintro A14 c15 rfl m16
 refine Qdc (n := 3) rfl ?_
 rintro A18 c19 rfl m20
 refine Qdc (n := 4) rfl ?_
 rintro A22 c23 rfl m24
 have l26 : x0.Store.Segments.length ≤ 68719476736 := s_0.1.1
 have l27 := s_0.2.1
 have l28 := s_0.2.2.1.1
 have l29 := s_0.2.2.2.1.1
 have l30 := s_0.2.2.2.2.1
 have hE1 := hE.al
 have hE2 := hE.cur
 have hE3 := ((Qkg _).1 hE.st).1
 have hE4 := hE.dl
 have hE5 := hE.ll
 have hE6 := hE.stp
 refine sr (wm ?_)
 refine wv (fun W hm => Qee rfl) ?_
 let K1 : List Value := [.slice A6 x0.Store.Segments.length c7, iV x0.Store.Now, iV x0.Cursor, .slice A10 x0.Order.length c11, .slice A14 x0.Active.length c15, .slice A18 x0.Done.length c19, .slice A22 x0.Ledger.length c23, iV x0.Steps]
 refine wv (fun W hm => Qae (cs := K1) Qac Qbm rfl rfl (hm.boxCells (n := 5) rfl)) ?_
 refine wcl (tSl Qa 3) (Qbc x0) (Qq cb25 rfl) (fun W hm => Qayz W _ x0 (Qff (x := x0) (hm.rdSI (n := 0) rfl) (hm.rdSI (n := 1) rfl) (hm.rdSI (n := 2) rfl) (hm.rdSI (n := 3) rfl) (hm.rdSI (n := 4) rfl)) s_0) (fun z31 => ?_)
 have hP8 := Qrf hE
 refine fm 0 ?_
 rintro A32 c33 rfl m34
 refine wa (nt' (Qd (sr (wm ?_))))
 refine wv (Qaf Qp) ?_
 refine wv (fun W hm => Qet rfl rfl) ?_
 refine nt' ?_
 refine Qmy (σ := Qr × (Option Addr × Nat × Option Addr × Nat × Option Addr × Nat × Option Addr × Nat × Option Addr × Nat)) (fun s => [(0, bp p)]) (fun s => (iS (tSl Qag 163) 100 s.2.1 s.2.2.1 s.1.Store.Segments :: iS Qa 3 s.2.2.2.1 s.2.2.2.2.1 s.1.Order :: iS Qah 61 s.2.2.2.2.2.1 s.2.2.2.2.2.2.1 s.1.Active :: iS Qax 80 s.2.2.2.2.2.2.2.1 s.2.2.2.2.2.2.2.2.1 s.1.Done :: iS Qav 102 s.2.2.2.2.2.2.2.2.2.1 s.2.2.2.2.2.2.2.2.2.2 s.1.Ledger :: Qh p 39 [.slice s.2.1 s.1.Store.Segments.length s.2.2.1, iV s.1.Store.Now, iV s.1.Cursor, .slice s.2.2.2.1 s.1.Order.length s.2.2.2.2.1, .slice s.2.2.2.2.2.1 s.1.Active.length s.2.2.2.2.2.2.1, .slice s.2.2.2.2.2.2.2.1 s.1.Done.length s.2.2.2.2.2.2.2.2.1, .slice s.2.2.2.2.2.2.2.2.2.1 s.1.Ledger.length s.2.2.2.2.2.2.2.2.2.2, iV s.1.Steps] :: is)) (fun s => (Qqq x0) = Sum.inr s.1 ∧ s.1.Store = x0.Store ∧ s.1.Store.Segments.length = x0.Store.Segments.length ∧ s.1.Active.length = x0.Active.length ∧ s.1.Done.length = x0.Done.length) ?_ ?_
 ·
  rcases dcd (0 < (((Qbc x0).length : Nat) : Int)) with ⟨h52, g53⟩ | ⟨h52, g53⟩
  ·
   refine Ql rfl g53 ?_
   refine Qy (wm (wm ?_))
   let J16 : List It := iS Qa 3 A32 c33 (Qbc x0) :: Qh p 39 K1 :: is
   refine Qkh (js := (Qm Qcf K1 x0 :: J16)) (fun W hm => Mem.join (is := [iS (tSl Qag 163) 100 A6 c7 x0.Store.Segments, iS Qa 3 A10 c11 x0.Order, iS Qah 61 A14 c15 x0.Active, iS Qax 80 A18 c19 x0.Done, iS Qav 102 A22 c23 x0.Ledger]) (js := J16) (fun _ _ hs => Qfo (x := x0) hs) (hm.pickN 7 [1, 2, 3, 4, 5, 0, 6] (by decide))) ?_
   refine Qpq (χ := List Value) (val := fun x => .tuple #[]) (js := fun x => (Qh p 39 x :: Qm Qcf x (Qla x0 (Qbc x0)) :: iS Qa 3 A32 c33 (Qbc x0) :: (is))) (Qq Qamt rfl) (fun W hm => Qazj B w0 (is) W p _ x0 _ (Qbc x0) s_0 (show _ ≤ 68719476736 from by omega) (hE) (rfl) (((hm.front (n := 1) rfl).front (n := 1) rfl).front (n := 2) rfl)) (Qk rfl) (by decide) (fun z54 => ?_)
   have hS1 := Qali hE
   have hS2 := Qalg hE
   have hS3 := Qalb hE
   have hS4 := Qald hE
   obtain ⟨G55, hG55⟩ : ∃ G, G = (Qla x0 (Qbc x0)) := ⟨_, rfl⟩
   rw [← hG55]
   rw [← hG55] at hS1
   rw [← hG55] at hS2
   rw [← hG55] at hS3
   rw [← hG55] at hS4
   refine Qkh (js := (Qm Qcf z54 G55 :: Qh p 39 z54 :: iS Qa 3 A32 c33 (Qbc x0) :: is)) (fun W hm => (hm.front (n := 1) rfl)) ?_
   refine Qih ?_
   rintro ⟨v56, v57, v58, v59, v60⟩ rfl
   refine fm 0 ?_
   rintro A61 c62 rfl m63
   refine fm 1 ?_
   rintro A65 c66 rfl m67
   refine fm 2 ?_
   rintro A69 c70 rfl m71
   refine fm 3 ?_
   rintro A73 c74 rfl m75
   refine fm 4 ?_
   rintro A77 c78 rfl m79
   refine Qad ?_
   exact Qgl (G55, (A61, c62, A65, c66, A69, c70, A73, c74, A77, c78)) (Qbv rfl Qgi) (pn 7 [0, 1, 2, 3, 4, 5]) ⟨(show (Qqq x0) = Sum.inr G55 from by subst hG55; exact Qb g53 (rfl)), (show G55.Store = x0.Store from by first | rfl | exact hS1), (show G55.Store.Segments.length = x0.Store.Segments.length from by first | rfl | exact hS2), (show G55.Active.length = x0.Active.length from by first | rfl | exact hS3), (show G55.Done.length = x0.Done.length from by first | rfl | exact hS4)⟩
  refine Qn rfl g53 ?_
  refine Qo ?_
  exact Qgl (x0, (A6, c7, A10, c11, A14, c15, A18, c19, A22, c23)) (Qbv rfl Qgi) (pn 7 [1, 2, 3, 4, 5, 6]) ⟨(show (Qqq x0) = Sum.inr x0 from Qc g53 (rfl)), (show x0.Store = x0.Store from by first | rfl | exact hS1), (show x0.Store.Segments.length = x0.Store.Segments.length from by first | rfl | exact hS2), (show x0.Active.length = x0.Active.length from by first | rfl | exact hS3), (show x0.Done.length = x0.Done.length from by first | rfl | exact hS4)⟩
 rintro ⟨E36, ⟨A37, c38, A40, c41, A43, c44, A46, c47, A49, c50⟩⟩ H81
 dsimp only at H81
 obtain ⟨hE82, hS1, hS2, hS3, hS4⟩ := H81
 let I10 : It := iS (tSl Qag 163) 100 A37 c38 E36.Store.Segments
 show QM 100 _ _ _ .normal [(0, bp p)] (I10 :: iS Qa 3 A40 c41 E36.Order :: iS Qah 61 A43 c44 E36.Active :: iS Qax 80 A46 c47 E36.Done :: iS Qav 102 A49 c50 E36.Ledger :: Qh p 39 [.slice A37 E36.Store.Segments.length c38, iV E36.Store.Now, iV E36.Cursor, .slice A40 E36.Order.length c41, .slice A43 E36.Active.length c44, .slice A46 E36.Done.length c47, .slice A49 E36.Ledger.length c50, iV E36.Steps] :: is)
 refine Qna (n := 0) rfl ?_
 intro m83 m84
 refine Qna (n := 1) rfl ?_
 intro m85 m86
 refine Qna (n := 2) rfl ?_
 intro m87 m88
 refine Qna (n := 3) rfl ?_
 intro m89 m90
 refine Qna (n := 4) rfl ?_
 intro m91 m92
 refine Qe (sr (wm ?_))
 refine wv (fun W hm => Qee rfl) ?_
 refine wv (vf Qac rfl Qbt) ?_
 refine wv (fun W hm => Qea (o := 0) Qbx rfl Qdz (by decide) rfl rfl) ?_
 refine wv (vl 5 0 Qca) ?_
 refine wv (Qaf Qca) ?_
 refine wa (nt' (sr ?_))
 refine Qce (E := Qah) Qaw Qbd (Qk rfl) (by decide) (fun p93 => ?_)
 refine wa (nt' (Qd (sr (wa (nt' (Qx ?_))))))
 refine Qdp (fun W hm => Mem.toRest (hm.front (n := 3) rfl)) ?_
 refine Qbf (S := (List Qw) × (List Qat)) (R := Option Addr × Nat × Option Addr × Nat) (fun k (s : (List Qw) × (List Qat)) => Qss E36 k s.1 s.2) E36.Active.length 0 ([], E36.Done) ((sA p93), 0, A46, c47) (fun s => [(0, bp p), (3, nI E36.Store.Segments.length), (4, .slice s.2.2.1 s.2.1.1.length s.2.2.2.1), (5, nI s.1)]) (fun s => (Qhe Qah 61 A43 E36.Active.length E36.Active s.1 :: iS Qah 61 s.2.2.1 s.2.2.2.1 s.2.1.1 :: I10 :: iS Qa 3 A40 c41 E36.Order :: iS Qax 80 s.2.2.2.2.1 s.2.2.2.2.2 s.2.1.2 :: iS Qav 102 A49 c50 E36.Ledger :: Qh p 39 [.slice A37 E36.Store.Segments.length c38, iV E36.Store.Now, iV E36.Cursor, .slice A40 E36.Order.length c41, .slice A43 E36.Active.length c44, .slice s.2.2.2.2.1 s.2.1.2.length s.2.2.2.2.2, .slice A49 E36.Ledger.length c50, iV E36.Steps] :: is)) (fun s => s.2.1.1.length ≤ 0 + s.1 ∧ s.2.1.2.length ≤ E36.Done.length + s.1) sl4 ⟨Nat.le_refl _, Nat.le_refl _⟩ ?_
 rintro ⟨k95, ⟨d96, d100⟩, ⟨A97, c98, A101, c102⟩⟩ H105 _ _ e e'
 dsimp only at H105 ⊢
 subst e e'
 obtain ⟨hk103, hF104, hi106, hi107⟩ := H105
 refine Qd (sr (wm (wm ?_)))
 refine wv (fun W hm => Qee rfl) ?_
 refine wv (vf Qac rfl Qcz) ?_
 refine wv (vl 6 4 Qaw) ?_
 refine wv (Qaf Qaw) ?_
 refine wv Qai ?_
 refine nt' ?_
 rcases dcl k95 E36.Active.length with ⟨hl108, g109⟩ | ⟨hl108, g109⟩
 ·
  refine Ql rfl g109 ?_
  refine Qo (Qe (Qd (Qx (sr (wm ?_)))))
  refine wv (fun W hm => Qee rfl) ?_
  refine wv (vf Qac rfl Qcz) ?_
  refine wv (vl 6 4 Qaw) ?_
  refine wm ?_
  refine Qrg (n := 0) rfl (by omega) ?_
  rintro g110 rfl
  refine wv (vix 10 k95 Qaw Qbd) ?_
  let K2 : List Value := [.slice A37 E36.Store.Segments.length c38, iV E36.Store.Now, iV E36.Cursor, .slice A40 E36.Order.length c41, .slice (sA g110) E36.Active.length c44, .slice A101 d100.length c102, .slice A49 E36.Ledger.length c50, iV E36.Steps]
  let J17 : List It := iS Qav 102 A49 c50 E36.Ledger :: Qh p 39 K2 :: is
  let J18 : List It := I10 :: iS Qa 3 A40 c41 E36.Order :: iS Qax 80 A101 c102 d100 :: J17
  refine Qrh (E := Qah) (e := 61) (A := (sA g110)) (n := E36.Active.length) (xs := E36.Active) (k := k95) (js := (iS Qah 61 A97 c98 d96 :: J18)) (by omega) (fun W hm => (hm.front (n := 0) rfl)) (fun ck111 => ?_)
  refine Qod ?_
  rintro ⟨v112, v113, v114, v115⟩ rfl
  refine fm 0 ?_
  rintro A116 c117 rfl m118
  refine fm 1 ?_
  rintro A120 c121 rfl m122
  refine fm 2 ?_
  rintro A124 c125 rfl m126
  refine fm 3 ?_
  rintro A128 c129 rfl m130
  let K3 : List Value := [iV ((gt E36.Active k95).Query.Id), iV ((gt E36.Active k95).Query.Tenant), .slice A116 ((gt E36.Active k95).Query.Conds).length c117, .slice A120 ((gt E36.Active k95).Query.Out).length c121, iV ((gt E36.Active k95).Time), .slice A124 ((gt E36.Active k95).Todo).length c125, iV ((gt E36.Active k95).Age), iV ((gt E36.Active k95).Sent), iV ((gt E36.Active k95).Cap), .slice A128 ((gt E36.Active k95).Rows).length c129]
  refine wv (fun W hm => Qae (cs := K3) Qaj Qbd rfl rfl (hm.restCells (i := 4) rfl rfl)) ?_
  refine Qbs Qbd rfl (Qk rfl) (by decide) (fun p132 => ?_)
  refine Qgv (p := p132) (o := 0) (cs' := K3) (fun w hm => hm.front (n := 0) rfl) Qbd rfl (Nat.le_of_ble_eq_true rfl) rfl rfl rfl rfl (Qk rfl) ?_
  refine nt' (sr ?_)
  refine wv (vf Qaj rfl Qf) ?_
  refine wv (vl 0 6 Qs) ?_
  refine wv Qcw ?_
  refine wv (vf Qaj rfl Qf) ?_
  let K4 : List Value := [iV ((gt E36.Active k95).Query.Id), iV ((gt E36.Active k95).Query.Tenant), .slice A116 ((gt E36.Active k95).Query.Conds).length c117, .slice A120 ((gt E36.Active k95).Query.Out).length c121, iV ((gt E36.Active k95).Time), .slice A124 ((gt E36.Active k95).Todo).length c125, iV (IntKind.i64.wrap (((gt E36.Active k95).Age) + 1)), iV ((gt E36.Active k95).Sent), iV ((gt E36.Active k95).Cap), .slice A128 ((gt E36.Active k95).Rows).length c129]
  refine Qgv (p := p132) (o := 6) (cs' := K4) (fun w hm => hm.front (n := 0) rfl) Qf rfl (Nat.le_of_ble_eq_true rfl) rfl rfl rfl rfl (Qk rfl) ?_
  refine nt' (Qd (sr ?_))
  refine wv (vf Qaj rfl Qf) ?_
  refine wv (vl 0 6 Qs) ?_
  refine wm ?_
  refine wv (fun W hm => Qux rfl rfl (by omega)) ?_
  refine wv (fun W hm => Qfa rfl rfl) ?_
  refine nt' ?_
  rcases dce (Int.tmod (IntKind.i64.wrap (((gt E36.Active k95).Age) + 1)) ((E36.Store.Segments.length : Nat) : Int)) 0 with ⟨h133, g134⟩ | ⟨h133, g134⟩
  ·
   refine Ql rfl g134 ?_
   refine Qy ?_
   refine wv (vf Qaj rfl Qf) ?_
   let K5 : List Value := [iV ((gt E36.Active k95).Query.Id), iV ((gt E36.Active k95).Query.Tenant), .slice A116 ((gt E36.Active k95).Query.Conds).length c117, .slice A120 ((gt E36.Active k95).Query.Out).length c121, iV ((gt E36.Active k95).Time), .slice A124 ((gt E36.Active k95).Todo).length c125, iV (IntKind.i64.wrap (((gt E36.Active k95).Age) + 1)), iV 0, iV ((gt E36.Active k95).Cap), .slice A128 ((gt E36.Active k95).Rows).length c129]
   refine Qgv (p := p132) (o := 7) (cs' := K5) (fun w hm => hm.front (n := 0) rfl) Qf rfl (Nat.le_of_ble_eq_true rfl) rfl rfl rfl rfl (Qk rfl) ?_
   refine nt' (sr ?_)
   refine wv (vf Qaj rfl Qam) ?_
   refine wv (vl 0 5 Qp) ?_
   refine wv (Qaf Qp) ?_
   refine wv (fun W hm => Qfa rfl rfl) ?_
   refine nt' ?_
   rcases dce ((((gt E36.Active k95).Todo).length : Nat) : Int) 0 with ⟨h135, g136⟩ | ⟨h135, g136⟩
   ·
    refine Ql rfl g136 ?_
    let I11 : It := iS Qa 3 A124 c125 ((gt E36.Active k95).Todo)
    let I12 : It := Qil Qah 61 (sA g110) E36.Active.length E36.Active k95 K3
    let J19 : List It := Qh p132 61 K5 :: I11 :: I12 :: iS Qah 61 A97 c98 d96 :: I10 :: iS Qa 3 A40 c41 E36.Order :: J17
    refine rd2 19 [18] (s := (Qh p132 61 K5 :: I11 :: I12 :: iS Qah 61 A97 c98 d96 :: I10 :: iS Qa 3 A40 c41 E36.Order :: iS Qav 102 A49 c50 E36.Ledger :: is)) (s2 := J19) (pn 12 [0, 3, 5, 6, 7, 8, 10]) (pn 12 [0, 3, 5, 6, 7, 8, 10, 11]) ?_
    refine qtD 19 0 1 rfl vmv ?_
    refine qtD 19 1 3 rfl vmv ?_
    refine qtD 19 2 7 rfl (fun W hm => Qee rfl) ?_
    refine qtD 19 3 15 rfl (vf Qac rfl Qek) ?_
    refine qtD 19 4 31 rfl (vl 7 5 Qch) ?_
    refine qtD 19 5 63 rfl (vf Qaj rfl Qbi) ?_
    refine qtD 19 6 127 rfl (fun W hm => Qae (cs := [iV ((gt E36.Active k95).Query.Id), iV ((gt E36.Active k95).Query.Tenant), .slice A116 ((gt E36.Active k95).Query.Conds).length c117, .slice A120 ((gt E36.Active k95).Query.Out).length c121]) Qbo Qbi rfl rfl (hm.boxPart (n := 0) rfl rfl)) ?_
    refine qtD 19 7 255 rfl (vf Qaj rfl Qf) ?_
    refine qtD 19 8 511 rfl (vl 0 4 Qs) ?_
    refine qtD 19 9 1023 rfl (vf Qaj rfl Qf) ?_
    refine qtD 19 10 2047 rfl (vl 0 6 Qs) ?_
    refine qtD 19 11 4095 rfl (vf Qaj rfl Qdt) ?_
    refine qtD 19 12 8191 rfl (vl 0 9 Qci) ?_
    let K6 : List Value := [iV ((gt E36.Active k95).Query.Id), iV ((gt E36.Active k95).Query.Tenant), .slice A116 ((gt E36.Active k95).Query.Conds).length c117, .slice A120 ((gt E36.Active k95).Query.Out).length c121, iV ((gt E36.Active k95).Time), iV (IntKind.i64.wrap (((gt E36.Active k95).Age) + 1)), .slice A128 ((gt E36.Active k95).Rows).length c129]
    refine qtD 19 13 16383 rfl (fun W hm => Qef (cs := K6) rfl (by kernel_rfl)) ?_
    refine qoD 19 14 32767 rfl ?_
    refine Qde (cs := K6) Qch Qcq rfl (by decide) (by decide) rfl (by kernel_rfl) (Qk rfl) (by decide) (fun p137 => ?_)
    refine qnD (pn 13 [1, 4, 6, 7, 8, 9, 11]) (pn 13 [1, 4, 6, 7, 8, 9, 11, 12]) ?_
    refine qoD 19 15 65535 rfl ?_
    refine Qpp (E := Qax) (e := 80) (v := .slice A101 d100.length c102) (p := p137) (q := 1) (xs := d100) (ys := [(⟨(gt E36.Active k95).Query, (gt E36.Active k95).Time, (IntKind.i64.wrap (((gt E36.Active k95).Age) + 1)), (gt E36.Active k95).Rows⟩ : Qat)]) (eis := [iS Qbk 180 A116 c117 ((gt E36.Active k95).Query.Conds), iS Qa 3 A120 c121 ((gt E36.Active k95).Query.Out), iS Qap 70 A128 c129 ((gt E36.Active k95).Rows)]) (js := J19) (news := K6) (pn 13 [0, 10, 2, 3, 5, 1, 4, 6, 7, 8, 9, 11, 12]) (fun _ _ hs => Els.single (Qlt (x := (⟨(gt E36.Active k95).Query, (gt E36.Active k95).Time, (IntKind.i64.wrap (((gt E36.Active k95).Age) + 1)), (gt E36.Active k95).Rows⟩ : Qat)) hs)) Qch Qcq rfl rfl rfl (Nat.le_of_ble_eq_true rfl) rfl rfl rfl (show (d100.length + 1) * 104 ≤ 140737488355328 from by omega) (show d100.length + 1 ≤ 9223372036854775807 from by omega) (Qk rfl) (by decide) (fun v138 => ?_)
    refine fm 0 ?_
    rintro A139 c140 rfl m141
    refine qnD (pn 9 [1, 2, 3, 4, 5, 6, 7]) (pn 9 [1, 2, 3, 4, 5, 6, 7, 8]) ?_
    refine qtP 19 16 131071 rfl (fun W => Qee rfl) ?_
    refine qtD 19 17 262143 rfl (vf Qac rfl Qek) ?_
    refine qoD 19 18 524287 rfl ?_
    refine Qgv (p := p) (o := 5) (cs' := [.slice A37 E36.Store.Segments.length c38, iV E36.Store.Now, iV E36.Cursor, .slice A40 E36.Order.length c41, .slice (sA g110) E36.Active.length c44, .slice A139 (d100 ++ [(⟨(gt E36.Active k95).Query, (gt E36.Active k95).Time, (IntKind.i64.wrap (((gt E36.Active k95).Age) + 1)), (gt E36.Active k95).Rows⟩ : Qat)]).length c140, .slice A49 E36.Ledger.length c50, iV E36.Steps]) (fun w hm => hm.front (n := 8) rfl) Qek rfl (Nat.le_of_ble_eq_true rfl) rfl rfl rfl rfl (Qk rfl) ?_
    refine qxD (pn 9 [2, 3, 4, 5, 6, 7, 8]) ?_
    refine Qec (by kernel_rfl) ?_
    refine Qan (Qe (Qy (wm ?_)))
    refine wv (Qal k95 1 (by omega)) ?_
    refine wa (Qad ?_)
    refine Qdd (fun W hm => Mem.restNext (hm.front (n := 4) rfl)) ?_
    exact Qao (k95 + 1, (d96, (d100 ++ [(⟨(gt E36.Active k95).Query, (gt E36.Active k95).Time, (IntKind.i64.wrap (((gt E36.Active k95).Age) + 1)), (gt E36.Active k95).Rows⟩ : Qat)])), (A97, c98, A139, c140)) sl4 (pn 9 [0, 5, 6, 7, 2, 8, 1]) ⟨(by omega), nx hF104 (Qb g134 (Qb g136 (rfl))), (show d96.length ≤ 0 + (k95 + 1) from by first | omega | (simp only [List.length_append, List.length_cons, List.length_nil] at *; omega)), (show (d100 ++ [(⟨(gt E36.Active k95).Query, (gt E36.Active k95).Time, (IntKind.i64.wrap (((gt E36.Active k95).Age) + 1)), (gt E36.Active k95).Rows⟩ : Qat)]).length ≤ E36.Done.length + (k95 + 1) from by first | omega | (simp only [List.length_append, List.length_cons, List.length_nil] at *; omega))⟩ rl
   refine Qn rfl g136 ?_
   refine Qy (wm ?_)
   refine wv (fun W hm => Qae (cs := K5) Qaj Qbd rfl rfl (hm.boxCells (n := 0) rfl)) ?_
   refine Qde (cs := K5) Qaw Qbd rfl (by decide) (by decide) rfl (by kernel_rfl) (Qk rfl) (by decide) (fun p144 => ?_)
   refine Qpp (E := Qah) (e := 61) (v := .slice A97 d96.length c98) (p := p144) (q := 1) (xs := d96) (ys := [(⟨(gt E36.Active k95).Query, (gt E36.Active k95).Time, (gt E36.Active k95).Todo, (IntKind.i64.wrap (((gt E36.Active k95).Age) + 1)), 0, (gt E36.Active k95).Cap, (gt E36.Active k95).Rows⟩ : Qw)]) (eis := [iS Qbk 180 A116 c117 ((gt E36.Active k95).Query.Conds), iS Qa 3 A120 c121 ((gt E36.Active k95).Query.Out), iS Qa 3 A124 c125 ((gt E36.Active k95).Todo), iS Qap 70 A128 c129 ((gt E36.Active k95).Rows)]) (js := (Qh p132 61 K5 :: Qil Qah 61 (sA g110) E36.Active.length E36.Active k95 K3 :: J18)) (news := K5) (pn 13 [0, 7, 2, 3, 4, 5, 1, 6, 8, 9, 10, 11, 12]) (fun _ _ hs => Els.single (Qhl (x := (⟨(gt E36.Active k95).Query, (gt E36.Active k95).Time, (gt E36.Active k95).Todo, (IntKind.i64.wrap (((gt E36.Active k95).Age) + 1)), 0, (gt E36.Active k95).Cap, (gt E36.Active k95).Rows⟩ : Qw)) hs)) Qaw Qbd rfl rfl rfl (Nat.le_of_ble_eq_true rfl) rfl rfl rfl (show (d96.length + 1) * 144 ≤ 140737488355328 from by omega) (show d96.length + 1 ≤ 9223372036854775807 from by omega) (Qk rfl) (by decide) (fun v145 => ?_)
   refine fm 0 ?_
   rintro A146 c147 rfl m148
   refine wa (Qad (Qan (Qe (Qy (wm ?_)))))
   refine wv (Qal k95 1 (by omega)) ?_
   refine wa (Qad ?_)
   refine Qdd (fun W hm => Mem.restNext (hm.front (n := 2) rfl)) ?_
   exact Qao (k95 + 1, ((Qvg E36 k95 d96), d100), (A146, c147, A101, c102)) sl4 (pn 8 [0, 1, 3, 4, 5, 6, 7]) ⟨(by omega), nx hF104 (Qb g134 (Qc g136 (rfl))), (show (Qvg E36 k95 d96).length ≤ 0 + (k95 + 1) from by first | omega | (simp only [List.length_append, List.length_cons, List.length_nil] at *; omega)), (show d100.length ≤ E36.Done.length + (k95 + 1) from by first | omega | (simp only [List.length_append, List.length_cons, List.length_nil] at *; omega))⟩ rl
  refine Qn rfl g134 ?_
  refine Qo (Qe (sr ?_))
  refine wv (vf Qaj rfl Qam) ?_
  refine wv (vl 0 5 Qp) ?_
  refine wv (Qaf Qp) ?_
  refine wv (fun W hm => Qfa rfl rfl) ?_
  refine nt' ?_
  rcases dce ((((gt E36.Active k95).Todo).length : Nat) : Int) 0 with ⟨h151, g152⟩ | ⟨h151, g152⟩
  ·
   refine Ql rfl g152 ?_
   let I13 : It := iS Qa 3 A124 c125 ((gt E36.Active k95).Todo)
   let I14 : It := Qil Qah 61 (sA g110) E36.Active.length E36.Active k95 K3
   let J20 : List It := Qh p132 61 K4 :: I13 :: I14 :: iS Qah 61 A97 c98 d96 :: I10 :: iS Qa 3 A40 c41 E36.Order :: J17
   refine rd2 19 [18] (s := (Qh p132 61 K4 :: I13 :: I14 :: iS Qah 61 A97 c98 d96 :: I10 :: iS Qa 3 A40 c41 E36.Order :: iS Qav 102 A49 c50 E36.Ledger :: is)) (s2 := J20) (pn 12 [0, 3, 5, 6, 7, 8, 10]) (pn 12 [0, 3, 5, 6, 7, 8, 10, 11]) ?_
   refine qtD 19 0 1 rfl vmv ?_
   refine qtD 19 1 3 rfl vmv ?_
   refine qtD 19 2 7 rfl (fun W hm => Qee rfl) ?_
   refine qtD 19 3 15 rfl (vf Qac rfl Qek) ?_
   refine qtD 19 4 31 rfl (vl 7 5 Qch) ?_
   refine qtD 19 5 63 rfl (vf Qaj rfl Qbi) ?_
   refine qtD 19 6 127 rfl (fun W hm => Qae (cs := [iV ((gt E36.Active k95).Query.Id), iV ((gt E36.Active k95).Query.Tenant), .slice A116 ((gt E36.Active k95).Query.Conds).length c117, .slice A120 ((gt E36.Active k95).Query.Out).length c121]) Qbo Qbi rfl rfl (hm.boxPart (n := 0) rfl rfl)) ?_
   refine qtD 19 7 255 rfl (vf Qaj rfl Qf) ?_
   refine qtD 19 8 511 rfl (vl 0 4 Qs) ?_
   refine qtD 19 9 1023 rfl (vf Qaj rfl Qf) ?_
   refine qtD 19 10 2047 rfl (vl 0 6 Qs) ?_
   refine qtD 19 11 4095 rfl (vf Qaj rfl Qdt) ?_
   refine qtD 19 12 8191 rfl (vl 0 9 Qci) ?_
   let K7 : List Value := [iV ((gt E36.Active k95).Query.Id), iV ((gt E36.Active k95).Query.Tenant), .slice A116 ((gt E36.Active k95).Query.Conds).length c117, .slice A120 ((gt E36.Active k95).Query.Out).length c121, iV ((gt E36.Active k95).Time), iV (IntKind.i64.wrap (((gt E36.Active k95).Age) + 1)), .slice A128 ((gt E36.Active k95).Rows).length c129]
   refine qtD 19 13 16383 rfl (fun W hm => Qef (cs := K7) rfl (by kernel_rfl)) ?_
   refine qoD 19 14 32767 rfl ?_
   refine Qde (cs := K7) Qch Qcq rfl (by decide) (by decide) rfl (by kernel_rfl) (Qk rfl) (by decide) (fun p153 => ?_)
   refine qnD (pn 13 [1, 4, 6, 7, 8, 9, 11]) (pn 13 [1, 4, 6, 7, 8, 9, 11, 12]) ?_
   refine qoD 19 15 65535 rfl ?_
   refine Qpp (E := Qax) (e := 80) (v := .slice A101 d100.length c102) (p := p153) (q := 1) (xs := d100) (ys := [(⟨(gt E36.Active k95).Query, (gt E36.Active k95).Time, (IntKind.i64.wrap (((gt E36.Active k95).Age) + 1)), (gt E36.Active k95).Rows⟩ : Qat)]) (eis := [iS Qbk 180 A116 c117 ((gt E36.Active k95).Query.Conds), iS Qa 3 A120 c121 ((gt E36.Active k95).Query.Out), iS Qap 70 A128 c129 ((gt E36.Active k95).Rows)]) (js := J20) (news := K7) (pn 13 [0, 10, 2, 3, 5, 1, 4, 6, 7, 8, 9, 11, 12]) (fun _ _ hs => Els.single (Qlt (x := (⟨(gt E36.Active k95).Query, (gt E36.Active k95).Time, (IntKind.i64.wrap (((gt E36.Active k95).Age) + 1)), (gt E36.Active k95).Rows⟩ : Qat)) hs)) Qch Qcq rfl rfl rfl (Nat.le_of_ble_eq_true rfl) rfl rfl rfl (show (d100.length + 1) * 104 ≤ 140737488355328 from by omega) (show d100.length + 1 ≤ 9223372036854775807 from by omega) (Qk rfl) (by decide) (fun v154 => ?_)
   refine fm 0 ?_
   rintro A155 c156 rfl m157
   refine qnD (pn 9 [1, 2, 3, 4, 5, 6, 7]) (pn 9 [1, 2, 3, 4, 5, 6, 7, 8]) ?_
   refine qtP 19 16 131071 rfl (fun W => Qee rfl) ?_
   refine qtD 19 17 262143 rfl (vf Qac rfl Qek) ?_
   refine qoD 19 18 524287 rfl ?_
   refine Qgv (p := p) (o := 5) (cs' := [.slice A37 E36.Store.Segments.length c38, iV E36.Store.Now, iV E36.Cursor, .slice A40 E36.Order.length c41, .slice (sA g110) E36.Active.length c44, .slice A155 (d100 ++ [(⟨(gt E36.Active k95).Query, (gt E36.Active k95).Time, (IntKind.i64.wrap (((gt E36.Active k95).Age) + 1)), (gt E36.Active k95).Rows⟩ : Qat)]).length c156, .slice A49 E36.Ledger.length c50, iV E36.Steps]) (fun w hm => hm.front (n := 8) rfl) Qek rfl (Nat.le_of_ble_eq_true rfl) rfl rfl rfl rfl (Qk rfl) ?_
   refine qxD (pn 9 [2, 3, 4, 5, 6, 7, 8]) ?_
   refine Qec (by kernel_rfl) ?_
   refine Qan (Qe (Qy (wm ?_)))
   refine wv (Qal k95 1 (by omega)) ?_
   refine wa (Qad ?_)
   refine Qdd (fun W hm => Mem.restNext (hm.front (n := 4) rfl)) ?_
   exact Qao (k95 + 1, (d96, (d100 ++ [(⟨(gt E36.Active k95).Query, (gt E36.Active k95).Time, (IntKind.i64.wrap (((gt E36.Active k95).Age) + 1)), (gt E36.Active k95).Rows⟩ : Qat)])), (A97, c98, A155, c156)) sl4 (pn 9 [0, 5, 6, 7, 2, 8, 1]) ⟨(by omega), nx hF104 (Qc g134 (Qb g152 (rfl))), (show d96.length ≤ 0 + (k95 + 1) from by first | omega | (simp only [List.length_append, List.length_cons, List.length_nil] at *; omega)), (show (d100 ++ [(⟨(gt E36.Active k95).Query, (gt E36.Active k95).Time, (IntKind.i64.wrap (((gt E36.Active k95).Age) + 1)), (gt E36.Active k95).Rows⟩ : Qat)]).length ≤ E36.Done.length + (k95 + 1) from by first | omega | (simp only [List.length_append, List.length_cons, List.length_nil] at *; omega))⟩ rl
  refine Qn rfl g152 ?_
  refine Qy (wm ?_)
  refine wv (fun W hm => Qae (cs := K4) Qaj Qbd rfl rfl (hm.boxCells (n := 0) rfl)) ?_
  refine Qde (cs := K4) Qaw Qbd rfl (by decide) (by decide) rfl (by kernel_rfl) (Qk rfl) (by decide) (fun p160 => ?_)
  refine Qpp (E := Qah) (e := 61) (v := .slice A97 d96.length c98) (p := p160) (q := 1) (xs := d96) (ys := [(⟨(gt E36.Active k95).Query, (gt E36.Active k95).Time, (gt E36.Active k95).Todo, (IntKind.i64.wrap (((gt E36.Active k95).Age) + 1)), (gt E36.Active k95).Sent, (gt E36.Active k95).Cap, (gt E36.Active k95).Rows⟩ : Qw)]) (eis := [iS Qbk 180 A116 c117 ((gt E36.Active k95).Query.Conds), iS Qa 3 A120 c121 ((gt E36.Active k95).Query.Out), iS Qa 3 A124 c125 ((gt E36.Active k95).Todo), iS Qap 70 A128 c129 ((gt E36.Active k95).Rows)]) (js := (Qh p132 61 K4 :: Qil Qah 61 (sA g110) E36.Active.length E36.Active k95 K3 :: J18)) (news := K4) (pn 13 [0, 7, 2, 3, 4, 5, 1, 6, 8, 9, 10, 11, 12]) (fun _ _ hs => Els.single (Qhl (x := (⟨(gt E36.Active k95).Query, (gt E36.Active k95).Time, (gt E36.Active k95).Todo, (IntKind.i64.wrap (((gt E36.Active k95).Age) + 1)), (gt E36.Active k95).Sent, (gt E36.Active k95).Cap, (gt E36.Active k95).Rows⟩ : Qw)) hs)) Qaw Qbd rfl rfl rfl (Nat.le_of_ble_eq_true rfl) rfl rfl rfl (show (d96.length + 1) * 144 ≤ 140737488355328 from by omega) (show d96.length + 1 ≤ 9223372036854775807 from by omega) (Qk rfl) (by decide) (fun v161 => ?_)
  refine fm 0 ?_
  rintro A162 c163 rfl m164
  refine wa (Qad (Qan (Qe (Qy (wm ?_)))))
  refine wv (Qal k95 1 (by omega)) ?_
  refine wa (Qad ?_)
  refine Qdd (fun W hm => Mem.restNext (hm.front (n := 2) rfl)) ?_
  exact Qao (k95 + 1, ((Qvh E36 k95 d96), d100), (A162, c163, A101, c102)) sl4 (pn 8 [0, 1, 3, 4, 5, 6, 7]) ⟨(by omega), nx hF104 (Qc g134 (Qc g152 (rfl))), (show (Qvh E36 k95 d96).length ≤ 0 + (k95 + 1) from by first | omega | (simp only [List.length_append, List.length_cons, List.length_nil] at *; omega)), (show d100.length ≤ E36.Done.length + (k95 + 1) from by first | omega | (simp only [List.length_append, List.length_cons, List.length_nil] at *; omega))⟩ rl
 refine Qn rfl g109 ?_
 refine Qay (Qu (Qu ?_))
 have hE167 := Qbg hl108 hF104
 refine Qaz (Qe (sr (wm (wm ?_))))
 refine wv (fun W hm => Qee rfl) ?_
 refine wv (vf Qac rfl Qcz) ?_
 refine Qgv (p := p) (o := 4) (cs' := [.slice A37 E36.Store.Segments.length c38, iV E36.Store.Now, iV E36.Cursor, .slice A40 E36.Order.length c41, .slice A97 d96.length c98, .slice A101 d100.length c102, .slice A49 E36.Ledger.length c50, iV E36.Steps]) (fun w hm => hm.front (n := 6) rfl) Qcz rfl (Nat.le_of_ble_eq_true rfl) rfl rfl rfl rfl (Qk rfl) ?_
 refine nt' (sr (wm (wm ?_)))
 refine wv (fun W hm => Qee rfl) ?_
 refine wv (vf Qac rfl Qf) ?_
 refine wv (vl 0 2 Qs) ?_
 refine wv Qcw ?_
 refine wm ?_
 refine wv (fun W hm => Qux rfl rfl (by omega)) ?_
 refine wv (fun W hm => Qee rfl) ?_
 refine wv (vf Qac rfl Qf) ?_
 refine Qgv (p := p) (o := 2) (cs' := [.slice A37 E36.Store.Segments.length c38, iV E36.Store.Now, iV (Int.tmod (IntKind.i64.wrap (E36.Cursor + 1)) ((E36.Store.Segments.length : Nat) : Int)), .slice A40 E36.Order.length c41, .slice A97 d96.length c98, .slice A101 d100.length c102, .slice A49 E36.Ledger.length c50, iV E36.Steps]) (fun w hm => hm.front (n := 0) rfl) Qf rfl (Nat.le_of_ble_eq_true rfl) rfl rfl rfl rfl (Qk rfl) ?_
 refine nt' (sr (wm (wm ?_)))
 refine wv (fun W hm => Qee rfl) ?_
 refine wv (vf Qac rfl Qf) ?_
 refine wv (vl 0 7 Qs) ?_
 refine wv Qcw ?_
 refine wv (fun W hm => Qee rfl) ?_
 refine wv (vf Qac rfl Qf) ?_
 let K8 : List Value := [.slice A37 E36.Store.Segments.length c38, iV E36.Store.Now, iV (Int.tmod (IntKind.i64.wrap (E36.Cursor + 1)) ((E36.Store.Segments.length : Nat) : Int)), .slice A40 E36.Order.length c41, .slice A97 d96.length c98, .slice A101 d100.length c102, .slice A49 E36.Ledger.length c50, iV (IntKind.i64.wrap (E36.Steps + 1))]
 refine Qgv (p := p) (o := 7) (cs' := K8) (fun w hm => hm.front (n := 0) rfl) Qf rfl (Nat.le_of_ble_eq_true rfl) rfl rfl rfl rfl (Qk rfl) ?_
 refine nt' (Qy (wm ?_))
 let I15 : It := Qhe Qah 61 A43 E36.Active.length E36.Active k95
 refine Qkh (js := (Qm Qcf K8 (⟨E36.Store, (Int.tmod (IntKind.i64.wrap (E36.Cursor + 1)) ((E36.Store.Segments.length : Nat) : Int)), E36.Order, d96, d100, E36.Ledger, (IntKind.i64.wrap (E36.Steps + 1))⟩ : Qr) :: (Qh p 39 K8 :: I15 :: is))) (fun W hm => Mem.join (is := [I10, iS Qa 3 A40 c41 E36.Order, iS Qah 61 A97 c98 d96, iS Qax 80 A101 c102 d100, iS Qav 102 A49 c50 E36.Ledger]) (js := (Qh p 39 K8 :: I15 :: is)) (fun _ _ hs => Qfo (x := (⟨E36.Store, (Int.tmod (IntKind.i64.wrap (E36.Cursor + 1)) ((E36.Store.Segments.length : Nat) : Int)), E36.Order, d96, d100, E36.Ledger, (IntKind.i64.wrap (E36.Steps + 1))⟩ : Qr)) hs) (hm.pickN 7 [3, 4, 2, 5, 6, 0, 1] (by decide))) ?_
 refine Qpq (χ := List Value) (val := fun x => .tuple #[]) (js := fun x => (Qh p 39 x :: Qm Qcf x (Qmn (⟨E36.Store, (Int.tmod (IntKind.i64.wrap (E36.Cursor + 1)) ((E36.Store.Segments.length : Nat) : Int)), E36.Order, d96, d100, E36.Ledger, (IntKind.i64.wrap (E36.Steps + 1))⟩ : Qr)) :: (I15 :: is))) (Qq Qamj rfl) (fun W hm => Qban B w0 (I15 :: is) W p _ (⟨E36.Store, (Int.tmod (IntKind.i64.wrap (E36.Cursor + 1)) ((E36.Store.Segments.length : Nat) : Int)), E36.Order, d96, d100, E36.Ledger, (IntKind.i64.wrap (E36.Steps + 1))⟩ : Qr) ⟨(by rw [hS1]; exact s_0.1), (show d96.length ≤ 68719476736 from by omega)⟩ ((hm.front (n := 0) rfl).front (n := 1) rfl)) (Qk rfl) (by decide) (fun z168 => ?_)
 obtain ⟨G169, hG169⟩ : ∃ G, G = (Qmn (⟨E36.Store, (Int.tmod (IntKind.i64.wrap (E36.Cursor + 1)) ((E36.Store.Segments.length : Nat) : Int)), E36.Order, d96, d100, E36.Ledger, (IntKind.i64.wrap (E36.Steps + 1))⟩ : Qr)) := ⟨_, rfl⟩
 rw [← hG169]
 refine Qkh (js := (Qm Qcf z168 G169 :: Qh p 39 z168 :: I15 :: is)) (fun W hm => (hm.front (n := 1) rfl)) ?_
 refine Qih ?_
 rintro ⟨v170, v171, v172, v173, v174⟩ rfl
 refine fm 0 ?_
 rintro A175 c176 rfl m177
 refine fm 1 ?_
 rintro A179 c180 rfl m181
 refine fm 2 ?_
 rintro A183 c184 rfl m185
 refine fm 3 ?_
 rintro A187 c188 rfl m189
 refine fm 4 ?_
 rintro A191 c192 rfl m193
 refine Qad ?_
 let K9 : List Value := [.slice A175 G169.Store.Segments.length c176, iV G169.Store.Now, iV G169.Cursor, .slice A179 G169.Order.length c180, .slice A183 G169.Active.length c184, .slice A187 G169.Done.length c188, .slice A191 G169.Ledger.length c192, iV G169.Steps]
 refine Qdd (js := (Qm Qcf K9 G169 :: (Qh p 39 K9 :: I15 :: is))) (fun W hm => Mem.join (is := [iS (tSl Qag 163) 100 A175 c176 G169.Store.Segments, iS Qa 3 A179 c180 G169.Order, iS Qah 61 A183 c184 G169.Active, iS Qax 80 A187 c188 G169.Done, iS Qav 102 A191 c192 G169.Ledger]) (js := (Qh p 39 K9 :: I15 :: is)) (fun _ _ hs => Qfo (x := G169) hs) (hm.pickN 7 [0, 1, 2, 3, 4, 5, 6] (by decide))) ?_
 have he195 := (show Qfv x0 = G169 from by subst hG169; exact Qaq hE82 (Qaq hE167 (rfl)))
 refine Qwk rfl (fun W hm => ⟨K9, ?_, ?_⟩)
 ·rfl
 rw [he195]; exact (((hm.front (n := 0) rfl).front (n := 1) rfl).front (n := 2) rfl).tail

def Qhj (x0 : Qr) : (Qr × Bool) :=
 cond (Qig x0) (cond (decide (100000 ≤ x0.Steps)) (x0, false) (cond (decide (1000 ≤ ((x0.Ledger.length : Nat) : Int))) (x0, false) (cond (decide (1000 < ((x0.Done.length + x0.Active.length : Nat) : Int))) (x0, false) ((Qfv x0), true)))) (x0, false)
theorem cb10 : Cb Tryz.prog 10 := ⟨f10, _, func10, rfl, by decide⟩
theorem Qazf (w : World) (z0 : List Value) (x0 : Qr) (r_0 : Qcf.rd w w.heap.size z0 x0) (s_0 : Qgc 68719476736 x0) :
  Calls Tryz.prog 10 #[.agg z0.toArray] w fun e w' => ∃ v : List Value, e = .returned (.tuple #[.agg v.toArray, .bool ((Qhj x0).2)]) ∧ Mem w.heap.size w [Qm Qcf v (Qhj x0).1] w' := by
 obtain ⟨v1, v3, v5, v7, v9, rfl, r2, r4, r6, r8, r10⟩ := Qiq r_0
 obtain ⟨m11, A12, c13, rfl, q14, r15⟩ := Qi r2
 obtain ⟨m16, A17, c18, rfl, q19, r20⟩ := Qi r4
 obtain ⟨m21, A22, c23, rfl, q24, r25⟩ := Qi r6
 obtain ⟨m26, A27, c28, rfl, q29, r30⟩ := Qi r8
 obtain ⟨m31, A32, c33, rfl, q34, r35⟩ := Qi r10
 have l36 : x0.Store.Segments.length ≤ 68719476736 := s_0.1.1
 have l37 := s_0.2.1
 have l38 := s_0.2.2.1.1
 have l39 := s_0.2.2.2.1.1
 have l40 := s_0.2.2.2.2.1
 refine ce1 (L := [(0, .agg #[.slice A12 x0.Store.Segments.length c13, iV x0.Store.Now, iV x0.Cursor, .slice A17 x0.Order.length c18, .slice A22 x0.Active.length c23, .slice A27 x0.Done.length c28, .slice A32 x0.Ledger.length c33, iV x0.Steps])]) (N := 34) func10 ?_
 refine sr ?_
 refine Qbq rfl (Qk rfl) (by decide) (fun p41 => ?_)
 refine Qbs Qbm rfl (Qk rfl) (by decide) (fun p42 => ?_)
 refine wa (nt' (sr ?_))
 let K1 : List Value := [.slice A12 x0.Store.Segments.length c13, iV x0.Store.Now, iV x0.Cursor, .slice A17 x0.Order.length c18, .slice A22 x0.Active.length c23, .slice A27 x0.Done.length c28, .slice A32 x0.Ledger.length c33, iV x0.Steps]
 refine wv (fun W hm => Qae (cs := K1) Qac Qbm rfl rfl (hm.boxCells (n := 1) rfl)) ?_
 refine wcs Qcf x0 (Qq cb61 rfl) (fun W hm => Qbal W _ x0 (Qff (x := x0) (hm.rdS0 r15) (hm.rdS0 r20) (hm.rdS0 r25) (hm.rdS0 r30) (hm.rdS0 r35)) s_0) (fun z43 => ?_)
 refine Qih ?_
 rintro ⟨v44, v45, v46, v47, v48⟩ rfl
 refine fm 0 ?_
 rintro A49 c50 rfl m51
 refine fm 1 ?_
 rintro A53 c54 rfl m55
 refine fm 2 ?_
 rintro A57 c58 rfl m59
 refine fm 3 ?_
 rintro A61 c62 rfl m63
 refine fm 4 ?_
 rintro A65 c66 rfl m67
 refine Qbs Qbm rfl (Qk rfl) (by decide) (fun p69 => ?_)
 let K2 : List Value := [.slice A49 x0.Store.Segments.length c50, iV x0.Store.Now, iV x0.Cursor, .slice A53 x0.Order.length c54, .slice A57 x0.Active.length c58, .slice A61 x0.Done.length c62, .slice A65 x0.Ledger.length c66, iV x0.Steps]
 let K3 : List Value := [.slice none 0 0, iV 0, iV 0, .slice none 0 0, .slice none 0 0, .slice none 0 0, .slice none 0 0, iV 0]
 let I5 : It := iS (tSl Qag 163) 100 A49 c50 x0.Store.Segments
 let J10 : List It := [Qh p42 39 K3, Qh p41 39 K1]
 refine sb 0 K2 (I5 :: iS Qa 3 A53 c54 x0.Order :: iS Qah 61 A57 c58 x0.Active :: iS Qax 80 A61 c62 x0.Done :: iS Qav 102 A65 c66 x0.Ledger :: J10) idM Qbm ?_
 refine nt' (Qd (sr ?_))
 refine wv (fun W hm => Qae (cs := K1) Qac Qbm rfl rfl (hm.boxCells (n := 7) rfl)) ?_
 refine wcv (Qq Qxg rfl) (fun W hm => Qaai W _ x0 (Qff (x := x0) (hm.rdS0 r15) (hm.rdS0 r20) (hm.rdS0 r25) (hm.rdS0 r30) (hm.rdS0 r35)) s_0) ?_
 refine wv Qbp ?_
 refine wm ?_
 rcases bd (Qig x0) with g71 | g71
 ·
  have hE := (Qpm _).1 g71
  refine wg (vf Qac rfl Qf) (nt g71) ?_
  refine wg (vl 7 7 Qs) (nt g71) ?_
  refine wg (fun W hm => Qlp rfl rfl) (nt g71) ?_
  refine wv (vpF (nt g71)) ?_
  refine wm ?_
  rcases dcd (100000 ≤ x0.Steps) with ⟨h72, g73⟩ | ⟨h72, g73⟩
  ·
   iterate 15 first | refine ws g73 ?_ | refine wv (vpT g73) ?_ | refine wm ?_ | refine wk ?_ | refine wv (vpT rfl) ?_
   refine nt' ?_
   refine Ql rfl rfl ?_
   refine sr ?_
   refine wv (fun W hm => Qae (cs := K2) Qac Qbm rfl rfl (hm.boxCells (n := 0) rfl)) ?_
   refine sb 0 K2 [Qh p69 39 K2, I5, iS Qa 3 A53 c54 x0.Order, iS Qah 61 A57 c58 x0.Active, iS Qax 80 A61 c62 x0.Done, iS Qav 102 A65 c66 x0.Ledger, Qh p41 39 K1] (pk [6, 0, 1, 2, 3, 4, 5, 7]) Qbm ?_
   refine wa (nt' (Qj (Qg ?_)))
   have he74 := (show Qhj x0 = (x0, false) from Qb g71 (Qb g73 (rfl)))
   refine Qhw rfl (Qdw (n := 0) rfl rfl Qac Qbm rfl) (Qdm rfl) (fun W hm => ⟨K2, ?_, ?_⟩)
   ·first | rw [he74] | rfl
    try rfl
   rw [he74]; exact Mem.join (is := [I5, iS Qa 3 A53 c54 x0.Order, iS Qah 61 A57 c58 x0.Active, iS Qax 80 A61 c62 x0.Done, iS Qav 102 A65 c66 x0.Ledger]) (js := []) (fun _ _ hs => Qfo (x := x0) hs) (hm.pick [2, 3, 4, 5, 6] (by decide))
  refine wg (vf Qac rfl Qfc) g73 ?_
  refine wg (vl 7 6 Qcv) g73 ?_
  refine wg (Qaf Qcv) g73 ?_
  refine wg (fun W hm => Qlp rfl rfl) g73 ?_
  refine wv (vpF g73) ?_
  refine wm ?_
  rcases dcd (1000 ≤ ((x0.Ledger.length : Nat) : Int)) with ⟨h75, g76⟩ | ⟨h75, g76⟩
  ·
   iterate 9 first | refine ws g76 ?_ | refine wv (vpT g76) ?_
   refine nt' ?_
   refine Ql rfl rfl ?_
   refine sr ?_
   refine wv (fun W hm => Qae (cs := K2) Qac Qbm rfl rfl (hm.boxCells (n := 0) rfl)) ?_
   refine sb 0 K2 [Qh p69 39 K2, I5, iS Qa 3 A53 c54 x0.Order, iS Qah 61 A57 c58 x0.Active, iS Qax 80 A61 c62 x0.Done, iS Qav 102 A65 c66 x0.Ledger, Qh p41 39 K1] (pk [6, 0, 1, 2, 3, 4, 5, 7]) Qbm ?_
   refine wa (nt' (Qj (Qg ?_)))
   have he77 := (show Qhj x0 = (x0, false) from Qb g71 (Qc g73 (Qb g76 (rfl))))
   refine Qhw rfl (Qdw (n := 0) rfl rfl Qac Qbm rfl) (Qdm rfl) (fun W hm => ⟨K2, ?_, ?_⟩)
   ·first | rw [he77] | rfl
    try rfl
   rw [he77]; exact Mem.join (is := [I5, iS Qa 3 A53 c54 x0.Order, iS Qah 61 A57 c58 x0.Active, iS Qax 80 A61 c62 x0.Done, iS Qav 102 A65 c66 x0.Ledger]) (js := []) (fun _ _ hs => Qfo (x := x0) hs) (hm.pick [2, 3, 4, 5, 6] (by decide))
  refine wg (vf Qac rfl Qek) g76 ?_
  refine wg (vl 7 5 Qch) g76 ?_
  refine wg (Qaf Qch) g76 ?_
  refine wg (vf Qac rfl Qcz) g76 ?_
  refine wg (vl 7 4 Qaw) g76 ?_
  refine wg (Qaf Qaw) g76 ?_
  refine wg (Qal x0.Done.length x0.Active.length (by omega)) g76 ?_
  refine wg (fun W hm => Qet rfl rfl) g76 ?_
  refine wv (vpF g76) ?_
  refine nt' ?_
  rcases dcd (1000 < ((x0.Done.length + x0.Active.length : Nat) : Int)) with ⟨h78, g79⟩ | ⟨h78, g79⟩
  ·
   refine Ql rfl g79 ?_
   refine sr ?_
   refine wv (fun W hm => Qae (cs := K2) Qac Qbm rfl rfl (hm.boxCells (n := 0) rfl)) ?_
   refine sb 0 K2 [Qh p69 39 K2, I5, iS Qa 3 A53 c54 x0.Order, iS Qah 61 A57 c58 x0.Active, iS Qax 80 A61 c62 x0.Done, iS Qav 102 A65 c66 x0.Ledger, Qh p41 39 K1] (pk [6, 0, 1, 2, 3, 4, 5, 7]) Qbm ?_
   refine wa (nt' (Qj (Qg ?_)))
   have he80 := (show Qhj x0 = (x0, false) from Qb g71 (Qc g73 (Qc g76 (Qb g79 (rfl)))))
   refine Qhw rfl (Qdw (n := 0) rfl rfl Qac Qbm rfl) (Qdm rfl) (fun W hm => ⟨K2, ?_, ?_⟩)
   ·first | rw [he80] | rfl
    try rfl
   rw [he80]; exact Mem.join (is := [I5, iS Qa 3 A53 c54 x0.Order, iS Qah 61 A57 c58 x0.Active, iS Qax 80 A61 c62 x0.Done, iS Qav 102 A65 c66 x0.Ledger]) (js := []) (fun _ _ hs => Qfo (x := x0) hs) (hm.pick [2, 3, 4, 5, 6] (by decide))
  refine Qn rfl g79 ?_
  refine Qo (Qe (sr ?_))
  refine Qkh (js := (Qm Qcf K2 x0 :: (Qh p69 39 K2 :: J10))) (fun W hm => Mem.join (is := [I5, iS Qa 3 A53 c54 x0.Order, iS Qah 61 A57 c58 x0.Active, iS Qax 80 A61 c62 x0.Done, iS Qav 102 A65 c66 x0.Ledger]) (js := (Qh p69 39 K2 :: J10)) (fun _ _ hs => Qfo (x := x0) hs) (hm.pick [1, 2, 3, 4, 5, 0, 6, 7] (by decide))) ?_
  refine Qpq (χ := List Value) (val := fun x => .tuple #[]) (js := fun x => (Qh p69 39 x :: Qm Qcf x (Qfv x0) :: J10)) (Qq cb62 rfl) (fun W hm => Qazk w.heap.size w J10 W p69 _ x0 s_0 (hE) (hm.pick [1, 0, 2, 3] (by decide))) (Qk rfl) (by decide) (fun z81 => ?_)
  refine Qkh (js := (Qm Qcf z81 (Qfv x0) :: Qh p69 39 z81 :: J10)) (pk [1, 0, 2, 3]) ?_
  refine Qih ?_
  rintro ⟨v82, v83, v84, v85, v86⟩ rfl
  refine fm 0 ?_
  rintro A87 c88 rfl m89
  refine fm 1 ?_
  rintro A91 c92 rfl m93
  refine fm 2 ?_
  rintro A95 c96 rfl m97
  refine fm 3 ?_
  rintro A99 c100 rfl m101
  refine fm 4 ?_
  rintro A103 c104 rfl m105
  refine nt' (sr ?_)
  let K4 : List Value := [.slice A87 ((Qfv x0).Store.Segments).length c88, iV ((Qfv x0).Store.Now), iV ((Qfv x0).Cursor), .slice A91 ((Qfv x0).Order).length c92, .slice A95 ((Qfv x0).Active).length c96, .slice A99 ((Qfv x0).Done).length c100, .slice A103 ((Qfv x0).Ledger).length c104, iV ((Qfv x0).Steps)]
  refine wv (fun W hm => Qae (cs := K4) Qac Qbm rfl rfl (hm.boxCells (n := 5) rfl)) ?_
  let I6 : It := iS (tSl Qag 163) 100 A87 c88 ((Qfv x0).Store.Segments)
  let I7 : It := iS Qah 61 A95 c96 ((Qfv x0).Active)
  let I8 : It := iS Qax 80 A99 c100 ((Qfv x0).Done)
  let I9 : It := iS Qav 102 A103 c104 ((Qfv x0).Ledger)
  refine sb 0 K4 [I6, iS Qa 3 A91 c92 ((Qfv x0).Order), I7, I8, I9, Qh p69 39 K4, Qh p41 39 K1] (pk [6, 0, 1, 2, 3, 4, 5, 7]) Qbm ?_
  refine wa (nt' (Qj ?_))
  have he107 := (show Qhj x0 = ((Qfv x0), true) from Qb g71 (Qc g73 (Qc g76 (Qc g79 (rfl)))))
  refine Qhw rfl (Qdw (n := 0) rfl rfl Qac Qbm rfl) (Qdm rfl) (fun W hm => ⟨K4, ?_, ?_⟩)
  ·first | rw [he107] | rfl
   try rfl
  rw [he107]; exact Mem.join (is := [I6, iS Qa 3 A91 c92 ((Qfv x0).Order), I7, I8, I9]) (js := []) (fun _ _ hs => Qfo (x := (Qfv x0)) hs) (hm.pick [1, 2, 3, 4, 5] (by decide))
 refine ws (nf g71) ?_
 refine ws (nf g71) ?_
 refine ws (nf g71) ?_
 iterate 17 first | refine wv (vpT (nf g71)) ?_ | refine wm ?_ | refine wk ?_ | refine wv (vpT rfl) ?_
 refine nt' ?_
 refine Ql rfl rfl ?_
 refine sr ?_
 refine wv (fun W hm => Qae (cs := K2) Qac Qbm rfl rfl (hm.boxCells (n := 0) rfl)) ?_
 refine sb 0 K2 [Qh p69 39 K2, I5, iS Qa 3 A53 c54 x0.Order, iS Qah 61 A57 c58 x0.Active, iS Qax 80 A61 c62 x0.Done, iS Qav 102 A65 c66 x0.Ledger, Qh p41 39 K1] (pk [6, 0, 1, 2, 3, 4, 5, 7]) Qbm ?_
 refine wa (nt' (Qj (Qg ?_)))
 have he108 := (show Qhj x0 = (x0, false) from Qc g71 (rfl))
 refine Qhw rfl (Qdw (n := 0) rfl rfl Qac Qbm rfl) (Qdm rfl) (fun W hm => ⟨K2, ?_, ?_⟩)
 ·first | rw [he108] | rfl
  try rfl
 rw [he108]; exact Mem.join (is := [I5, iS Qa 3 A53 c54 x0.Order, iS Qah 61 A57 c58 x0.Active, iS Qax 80 A61 c62 x0.Done, iS Qav 102 A65 c66 x0.Ledger]) (js := []) (fun _ _ hs => Qfo (x := x0) hs) (hm.pick [2, 3, 4, 5, 6] (by decide))

def Qyj (x0 : Qas) (k12 : Nat) (k39 : Nat) (d40 : (List Qt)) : Qas ⊕ ((List Qt)) :=
 Sum.inr (d40 ++ [(⟨(gt (gt x0.Segments k12) k39).Id, ((gt (gt x0.Segments k12) k39).Values), (gt (gt x0.Segments k12) k39).Born, (gt (gt x0.Segments k12) k39).Died⟩ : Qt)])
def Quj (x0 : Qas) (k12 : Nat) (d15 : (List (List Qt))) : Qas ⊕ ((List (List Qt))) :=
 Sum.elim Sum.inl (fun (s : (List Qt)) => Sum.inr (d15 ++ [s])) (rng (R := Qas) (fun k (s : (List Qt)) => Qyj x0 k12 k s) (((gt x0.Segments k12)).length - 0) 0 [])
def Quk (x0 : Qas) : Qas :=
 Sum.elim id (fun (s : (List (List Qt))) => (⟨s, x0.Now⟩ : Qas)) (rng (R := Qas) (fun k (s : (List (List Qt))) => Quj x0 k s) (x0.Segments.length - 0) 0 [])
theorem Qxb : Cb Tryz.prog 138 := ⟨f138, _, func138, rfl, by decide⟩
theorem Qary (w : World) (z0 : List Value) (x0 : Qas) (r_0 : Qdn.rd w w.heap.size z0 x0) (s_0 : Qgs 68719476736 x0) :
  Calls Tryz.prog 138 #[.agg z0.toArray] w (rO w Qdn (Quk x0)) := by
 obtain ⟨v1, rfl, r2⟩ := Qjl r_0
 obtain ⟨m3, A4, c5, rfl, q6, r7⟩ := Qi r2
 have l8 : x0.Segments.length ≤ 68719476736 := s_0.1
 refine ce1 (L := [(0, .agg #[.slice A4 x0.Segments.length c5, iV x0.Now])]) (N := 48) func138 ?_
 refine sr ?_
 refine Qbq rfl (Qk rfl) (by decide) (fun p9 => ?_)
 refine Qbs Qbt rfl (Qk rfl) (by decide) (fun p10 => ?_)
 refine nt' (sr ?_)
 refine wv (vf Qbx rfl Qf) ?_
 refine wv (vl 1 1 Qs) ?_
 refine wv (fun W hm => Qef (cs := [.slice none 0 0, iV x0.Now]) rfl (by kernel_rfl)) ?_
 refine Qbs Qbt rfl (Qk rfl) (by decide) (fun p11 => ?_)
 let I3 : It := Qh p9 34 [.slice A4 x0.Segments.length c5, iV x0.Now]
 refine sb 0 [.slice none 0 0, iV x0.Now] [Qh p10 34 [.slice none 0 0, iV 0], I3] idM Qbt ?_
 refine nt' (Qd (sr ?_))
 refine wv (vf Qbx rfl Qdz) ?_
 refine wv (vl 2 0 Qca) ?_
 refine wv (Qaf Qca) ?_
 refine wm (nt' (Qx ?_))
 refine Qdp (fun W hm => (hm.addNil (E := (tSl Qag 163)) (e := 100)).last) ?_
 refine Qbf (S := (List (List Qt))) (R := Option Addr × Nat) (fun k (s : (List (List Qt))) => Quj x0 k s) x0.Segments.length 0 [] (none, 0) (fun s => [(2, bp p10), (3, bp p11), (13, .slice A4 x0.Segments.length c5), (14, nI x0.Segments.length), (15, nI s.1)]) (fun s => [Qh p11 34 [.slice s.2.2.1 s.2.1.length s.2.2.2, iV x0.Now], Qh p10 34 [.slice none 0 0, iV 0], I3, iS (tSl Qag 163) 100 s.2.2.1 s.2.2.2 s.2.1]) (fun s => s.2.1.length ≤ 0 + s.1) sl5 (Nat.le_refl _) ?_
 rintro ⟨k12, d15, ⟨A16, c17⟩⟩ H20 _ _ e e'
 dsimp only at H20 ⊢
 subst e e'
 obtain ⟨hk18, hF19, hi21⟩ := H20
 refine sr ?_
 refine wv Qai ?_
 refine nt' (Qd ?_)
 rcases dcl k12 x0.Segments.length with ⟨hl22, g23⟩ | ⟨hl22, g23⟩
 ·
  refine Ql rfl g23 ?_
  refine Qo (Qe (Qd (Qx (sr ?_))))
  obtain ⟨a24, rfl, hb25, he26⟩ := q6 (by omega)
  refine wv (vix 1 k12 Qca Qfg) ?_
  obtain ⟨_, e28, hc27⟩ := he26 k12 _ (Qbr (show k12 < x0.Segments.length from by omega))
  have l29 : (gt x0.Segments k12).length ≤ 68719476736 := (s_0.2 _ (Qak (show k12 < x0.Segments.length from by omega))).1
  obtain ⟨v30, rfl, r31⟩ := e28
  obtain ⟨m32, A33, c34, rfl, q35, r36⟩ := Qi r31
  refine wv (fun W hm => Qau Qbw rfl rfl ((hm.cell0 (show (a24.add (k12 * 1)).block < w.heap.size from by rw [Qab]; exact hb25.1)).trans (hc27 0 _ rfl))) ?_
  refine wa (nt' (sr ?_))
  refine Qce (E := Qag) Qbw Qbl (Qk rfl) (by decide) (fun p37 => ?_)
  refine wa (nt' (Qd (sr (wm ?_))))
  refine wv (Qaf Qbw) ?_
  refine wm (nt' (Qx ?_))
  let I4 : It := Qh p11 34 [.slice A16 d15.length c17, iV x0.Now]
  let I5 : It := Qh p9 34 [.slice (some a24) x0.Segments.length c5, iV x0.Now]
  let J6 : List It := [I4, Qh p10 34 [.slice none 0 0, iV 0], I5, iS (tSl Qag 163) 100 A16 c17 d15]
  refine Qbf (S := (List Qt)) (R := Option Addr × Nat) (fun k (s : (List Qt)) => Qyj x0 k12 k s) (((gt x0.Segments k12)).length) 0 [] ((sA p37), 0) (fun s => [(2, bp p10), (3, bp p11), (6, .slice s.2.2.1 s.2.1.length s.2.2.2), (13, .slice (some a24) x0.Segments.length c5), (14, nI x0.Segments.length), (15, nI k12), (20, .slice A33 ((gt x0.Segments k12)).length c34), (21, nI (((gt x0.Segments k12)).length)), (22, nI s.1)]) (fun s => (iS Qag 163 s.2.2.1 s.2.2.2 s.2.1 :: J6)) (fun s => s.2.1.length ≤ 0 + s.1) sl9 (Nat.le_refl _) ?_
  rintro ⟨k39, d40, ⟨A41, c42⟩⟩ H45 _ _ e e'
  dsimp only at H45 ⊢
  subst e e'
  obtain ⟨hk43, hF44, hi46⟩ := H45
  refine sr ?_
  refine wv Qai ?_
  refine nt' (Qd ?_)
  rcases dcl k39 (((gt x0.Segments k12)).length) with ⟨hl47, g48⟩ | ⟨hl47, g48⟩
  ·
   refine Ql rfl g48 ?_
   refine Qo (Qe (Qd (Qx (sr ?_))))
   obtain ⟨a49, rfl, hb50, he51⟩ := q35 (by omega)
   refine wv (vix 4 k39 Qbw Qbl) ?_
   obtain ⟨_, e55, hc52⟩ := he51 k39 _ (Qbr (show k39 < ((gt x0.Segments k12)).length from by omega))
   obtain ⟨v53, rfl, r54⟩ := Qfx e55
   have l56 : ((gt (gt x0.Segments k12) k39).Values).length ≤ 68719476736 := ((s_0.2 _ (Qak (show k12 < x0.Segments.length from by omega))).2 _ (Qak (show k39 < ((gt x0.Segments k12)).length from by omega)))
   obtain ⟨m57, A58, c59, rfl, q60, r61⟩ := Qi r54
   let K1 : List Value := [iV ((gt (gt x0.Segments k12) k39).Id), .slice A58 ((gt (gt x0.Segments k12) k39).Values).length c59, iV ((gt (gt x0.Segments k12) k39).Born), iV ((gt (gt x0.Segments k12) k39).Died)]
   refine wv (fun W hm => Qae (cs := K1) Qbn Qbl rfl rfl (hm.elCells (show (a49.add (k39 * 4)).block < w.heap.size from by rw [Qab]; exact hb50.1) hc52)) ?_
   refine Qbs Qbl rfl (Qk rfl) (by decide) (fun p62 => ?_)
   refine sb 0 K1 (iS Qag 163 A41 c42 d40 :: J6) idM Qbl ?_
   refine nt' ?_
   refine rb 14 (s := (Qh p62 163 K1 :: J6)) (pk [0, 2, 3, 4, 5]) ?_
   refine qt 14 0 1 rfl vmv ?_
   refine qt 14 1 3 rfl (vf Qbn rfl Qf) ?_
   refine qt 14 2 7 rfl (vl 0 0 Qs) ?_
   refine qt 14 3 15 rfl (vf Qbn rfl Qam) ?_
   refine qt 14 4 31 rfl (vl 0 1 Qp) ?_
   refine qt 14 6 95 rfl (vf Qbn rfl Qf) ?_
   refine qt 14 7 223 rfl (vl 0 2 Qs) ?_
   refine qt 14 8 479 rfl (vf Qbn rfl Qf) ?_
   refine qt 14 9 991 rfl (vl 0 3 Qs) ?_
   refine qo 14 5 1023 rfl ?_
   refine wcl (tSl Qa 3) ((gt (gt x0.Segments k12) k39).Values) (Qq Qkj rfl) (fun W hm => Qkn W _ ((gt (gt x0.Segments k12) k39).Values) (hm.rdS0 r61) ((s_0.2 _ (Qak (show k12 < x0.Segments.length from by omega))).2 _ (Qak (show k39 < ((gt x0.Segments k12)).length from by omega)))) (fun z63 => ?_)
   refine fm 0 ?_
   rintro A64 c65 rfl m66
   refine qn (pk [1, 3, 4, 5, 6]) ?_
   let K2 : List Value := [iV ((gt (gt x0.Segments k12) k39).Id), .slice A64 ((gt (gt x0.Segments k12) k39).Values).length c65, iV ((gt (gt x0.Segments k12) k39).Born), iV ((gt (gt x0.Segments k12) k39).Died)]
   refine qt 14 10 2047 rfl (fun W hm => Qef (cs := K2) rfl (by kernel_rfl)) ?_
   refine qo 14 11 4095 rfl ?_
   refine Qde (cs := K2) Qbw Qbl rfl (by decide) (by decide) rfl (by kernel_rfl) (Qk rfl) (by decide) (fun p68 => ?_)
   refine qn (pk [2, 4, 5, 6, 7]) ?_
   refine qo 14 12 8191 rfl ?_
   refine ap1 Qag 163 (.slice A41 d40.length c42) d40 (⟨(gt (gt x0.Segments k12) k39).Id, ((gt (gt x0.Segments k12) k39).Values), (gt (gt x0.Segments k12) k39).Born, (gt (gt x0.Segments k12) k39).Died⟩ : Qt) [iS Qa 3 A64 c65 ((gt (gt x0.Segments k12) k39).Values)] (Qh p62 163 K1 :: J6) K2 (pk [0, 3, 1, 2, 4, 5, 6, 7]) (fun _ _ hs => Els.single (Qlf (x := (⟨(gt (gt x0.Segments k12) k39).Id, ((gt (gt x0.Segments k12) k39).Values), (gt (gt x0.Segments k12) k39).Born, (gt (gt x0.Segments k12) k39).Died⟩ : Qt)) hs)) Qbw Qbl (show (d40.length + 1) * 48 ≤ 140737488355328 from by omega) (fun v69 => ?_)
   refine fm 0 ?_
   rintro A70 c71 rfl m72
   refine qn (pk [1, 2, 3, 4, 5]) ?_
   refine qt 14 13 16383 rfl (fun W hm => Qiz rfl) ?_
   refine Qec (by kernel_rfl) ?_
   refine Qan (Qe (Qy ?_))
   refine wv (Qal k39 1 (by omega)) ?_
   refine wm (Qad ?_)
   exact Qao (k39 + 1, (d40 ++ [(⟨(gt (gt x0.Segments k12) k39).Id, ((gt (gt x0.Segments k12) k39).Values), (gt (gt x0.Segments k12) k39).Born, (gt (gt x0.Segments k12) k39).Died⟩ : Qt)]), (A70, c71)) sl9 (pk [0, 2, 3, 4, 5]) ⟨(by omega), nx hF44 (rfl), (show (d40 ++ [(⟨(gt (gt x0.Segments k12) k39).Id, ((gt (gt x0.Segments k12) k39).Values), (gt (gt x0.Segments k12) k39).Born, (gt (gt x0.Segments k12) k39).Died⟩ : Qt)]).length ≤ 0 + (k39 + 1) from by first | omega | (simp only [List.length_append, List.length_cons, List.length_nil] at *; omega))⟩ (show ((gt x0.Segments k12)).length - (k39 + 1) < ((gt x0.Segments k12)).length - k39 from by omega)
  refine Qn rfl g48 ?_
  refine Qay (Qu (Qu ?_))
  have hE75 := Qbg hl47 hF44
  refine Qaz (Qe (Qy ?_))
  refine wv (vf Qbx rfl Qdz) ?_
  refine wv (vl 1 0 Qca) ?_
  refine wm ?_
  refine Qde (cs := [.slice A41 d40.length c42]) Qca Qfg rfl (by decide) (by decide) rfl (by kernel_rfl) (Qk rfl) (by decide) (fun p76 => ?_)
  refine ap1 (tSl Qag 163) 100 (.slice A16 d15.length c17) d15 d40 [iS Qag 163 A41 c42 d40] [I4, Qh p10 34 [.slice none 0 0, iV 0], I5] [.slice A41 d40.length c42] (pk [0, 5, 1, 2, 3, 4]) (fun _ _ hs => Els.single (Sep.one hs)) Qca Qfg (show (d15.length + 1) * 24 ≤ 140737488355328 from by omega) (fun v77 => ?_)
  refine fm 0 ?_
  rintro A78 c79 rfl m80
  refine wv (vf Qbx rfl Qdz) ?_
  refine sb 0 [.slice A78 (d15 ++ [d40]).length c79, iV x0.Now] [iS (tSl Qag 163) 100 A78 c79 (d15 ++ [d40]), Qh p10 34 [.slice none 0 0, iV 0], I5] (pk [1, 0, 2, 3]) Qdz ?_
  refine Qad (Qan (Qe (Qy ?_)))
  refine wv (Qal k12 1 (by omega)) ?_
  refine wm (Qad ?_)
  exact Qao (k12 + 1, (d15 ++ [d40]), (A78, c79)) sl5 (pk [0, 2, 3, 1]) ⟨(by omega), nx hF19 (Qaq hE75 (rfl)), (show (d15 ++ [d40]).length ≤ 0 + (k12 + 1) from by first | omega | (simp only [List.length_append, List.length_cons, List.length_nil] at *; omega))⟩ rl
 refine Qn rfl g23 ?_
 refine Qay (Qu (Qu ?_))
 have hE83 := Qbg hl22 hF19
 refine Qaz (Qe (sr ?_))
 refine wv (fun W hm => Qae (cs := [.slice A16 d15.length c17, iV x0.Now]) Qbx Qbt rfl rfl (hm.boxCells (n := 0) rfl)) ?_
 refine sb 0 [.slice A16 d15.length c17, iV x0.Now] [Qh p11 34 [.slice A16 d15.length c17, iV x0.Now], I3, iS (tSl Qag 163) 100 A16 c17 d15] (pk [1, 0, 2, 3]) Qbt ?_
 refine nt' (Qj ?_)
 have he84 := (show Quk x0 = (⟨d15, x0.Now⟩ : Qas) from Qaq hE83 (rfl))
 refine Qcy rfl (Qdw (n := 0) rfl rfl Qbx Qbt rfl) (fun W hm => ⟨[.slice A16 d15.length c17, iV x0.Now], ?_, ?_⟩)
 ·first | rw [he84] | rfl
 rw [he84]; exact Mem.join (is := [iS (tSl Qag 163) 100 A16 c17 d15]) (js := []) (fun _ _ hs => Qms (x := (⟨d15, x0.Now⟩ : Qas)) hs) (hm.pick [3] (by decide))
theorem Qarz (x0 : Qas) : Quk x0 = x0 := by
 unfold Quk; rw [Qiy (xs := x0.Segments) (b := fun k s => Quj x0 k s) (fun j s => by unfold Quj; rw [Qiy (xs := gt x0.Segments j) (b := fun k s => Qyj x0 j k s) (fun _ _ => rfl)]; rfl)]; rfl
theorem Qyk (w : World) (z0 : List Value) (x0 : Qas) (r_0 : Qdn.rd w w.heap.size z0 x0) (s_0 : Qgs 68719476736 x0) :
  Calls Tryz.prog 138 #[.agg z0.toArray] w (rO w Qdn x0) := by
 have h := Qary w z0 x0 r_0 s_0
 rw [Qarz] at h
 exact h

def Qyg (x0 : Qar) : Qar :=
 x0
theorem Qacx : Cb Tryz.prog 109 := ⟨f109, _, func109, rfl, by decide⟩
theorem Qarr (w : World) (z0 : List Value) (x0 : Qar) (r_0 : Qcm.rd w w.heap.size z0 x0) (s_0 : Qft 68719476736 x0) :
  Calls Tryz.prog 109 #[.agg z0.toArray] w (rO w Qcm (Qyg x0)) := by
 obtain ⟨v1, v3, rfl, r2, r4⟩ := Qis r_0
 obtain ⟨m5, A6, c7, rfl, q8, r9⟩ := Qi r2
 obtain ⟨m10, A11, c12, rfl, q13, r14⟩ := Qi r4
 have l15 := s_0.1
 have l16 := s_0.2
 refine ce1 (L := [(0, .agg #[iV x0.Id, iV x0.Tenant, .slice A6 x0.Conds.length c7, .slice A11 x0.Out.length c12])]) (N := 13) func109 ?_
 refine sr ?_
 refine Qbq rfl (Qk rfl) (by decide) (fun p17 => ?_)
 refine Qbs Qbi rfl (Qk rfl) (by decide) (fun p18 => ?_)
 refine nt' (sr ?_)
 refine Qce (E := Qbk) Qcs Qds (Qk rfl) (by decide) (fun p19 => ?_)
 refine wv (vf Qbo rfl Qfp) ?_
 refine wv (vl 2 2 Qcs) ?_
 let K1 : List Value := [iV 0, iV 0, .slice none 0 0, .slice none 0 0]
 refine apR Qbk Qbk 180 (.slice (sA p19) 0 0) [] x0.Conds [Qh p18 58 K1, Qh p17 58 [iV x0.Id, iV x0.Tenant, .slice A6 x0.Conds.length c7, .slice A11 x0.Out.length c12]] idM (fun W hm => Qdi (Qtt (Qnl Qcu (Qnl Qcu Qcu))) (hm.rdS0 r9)) Qcs Qds (show (0 + x0.Conds.length) * 24 ≤ 140737488355328 from by omega) (fun v21 => ?_)
 refine fm 0 ?_
 rintro A22 c23 rfl m24
 refine wv (vf Qbo rfl Qfp) ?_
 refine sb 2 [iV x0.Id, iV x0.Tenant, .slice A22 x0.Conds.length c23, .slice A11 x0.Out.length c12] [iS Qbk 180 A22 c23 x0.Conds, Qh p18 58 K1] (pk [2, 0, 1]) Qfp ?_
 refine nt' (sr ?_)
 refine wv (vf Qbo rfl Qam) ?_
 refine wv (vl 0 3 Qp) ?_
 refine wcl (tSl Qa 3) x0.Out (Qq Qkj rfl) (fun W hm => Qkn W _ x0.Out (hm.rdS0 r14) s_0.2) (fun z26 => ?_)
 refine fm 0 ?_
 rintro A27 c28 rfl m29
 refine wv (vf Qbo rfl Qam) ?_
 let K2 : List Value := [iV x0.Id, iV x0.Tenant, .slice A22 x0.Conds.length c23, .slice A27 x0.Out.length c28]
 refine sb 3 K2 [iS Qa 3 A27 c28 x0.Out, iS Qbk 180 A22 c23 x0.Conds, Qh p18 58 K1] (pk [1, 0, 2, 3]) Qam ?_
 refine nt' (sr ?_)
 refine wv (fun W hm => Qae (cs := K2) Qbo Qbi rfl rfl (hm.boxCells (n := 0) rfl)) ?_
 refine sb 0 K2 [Qh p17 58 K2, iS Qa 3 A27 c28 x0.Out, iS Qbk 180 A22 c23 x0.Conds] (pk [3, 0, 1, 2]) Qbi ?_
 refine nt' (Qj ?_)
 have he31 := (show Qyg x0 = x0 from rfl)
 refine Qcy rfl (Qdw (n := 0) rfl rfl Qbo Qbi rfl) (fun W hm => ⟨K2, ?_, ?_⟩)
 ·first | rw [he31] | rfl
 rw [he31]; exact Mem.join (is := [iS Qbk 180 A22 c23 x0.Conds, iS Qa 3 A27 c28 x0.Out]) (js := []) (fun _ _ hs => Qwb (x := x0) hs) (hm.pick [3, 2] (by decide))
theorem Qars (x0 : Qar) : Qyg x0 = x0 := by
 rfl
theorem Qaey (w : World) (z0 : List Value) (x0 : Qar) (r_0 : Qcm.rd w w.heap.size z0 x0) (s_0 : Qft 68719476736 x0) :
  Calls Tryz.prog 109 #[.agg z0.toArray] w (rO w Qcm x0) := by
 have h := Qarr w z0 x0 r_0 s_0
 rw [Qars] at h
 exact h

def Qyh (x0 : Qaa) : Qaa :=
 x0
theorem Qaoc : Cb Tryz.prog 206 := ⟨f206, _, func206, rfl, by decide⟩
theorem Qart (w : World) (z0 : List Value) (x0 : Qaa) (r_0 : Qap.rd w w.heap.size z0 x0) (s_0 : Qgr 68719476736 x0) :
  Calls Tryz.prog 206 #[.agg z0.toArray] w (rO w Qap (Qyh x0)) := by
 obtain ⟨v1, rfl, r2⟩ := Qij r_0
 obtain ⟨m3, A4, c5, rfl, q6, r7⟩ := Qi r2
 have l8 : x0.Values.length ≤ 68719476736 := s_0
 refine ce1 (L := [(0, .agg #[iV x0.Id, .slice A4 x0.Values.length c5])]) (N := 9) func206 ?_
 refine sr ?_
 refine Qbq rfl (Qk rfl) (by decide) (fun p9 => ?_)
 refine Qbs Qcg rfl (Qk rfl) (by decide) (fun p10 => ?_)
 refine nt' (Qd ?_)
 let I1 : It := Qh p9 70 [iV x0.Id, .slice A4 x0.Values.length c5]
 refine rd2 7 [6] (s := [I1]) (s2 := [Qh p10 70 [iV 0, .slice none 0 0], I1]) (pk [1]) idM ?_
 refine qtD 7 0 1 rfl (vf Qdv rfl Qf) ?_
 refine qtD 7 1 3 rfl (vl 1 0 Qs) ?_
 refine qtD 7 2 7 rfl (vf Qdv rfl Qam) ?_
 refine qtD 7 3 15 rfl (vl 1 1 Qp) ?_
 refine qoD 7 4 31 rfl ?_
 refine wcl (tSl Qa 3) x0.Values (Qq Qkj rfl) (fun W hm => Qkn W _ x0.Values (hm.rdS0 r7) s_0) (fun z11 => ?_)
 refine fm 0 ?_
 rintro A12 c13 rfl m14
 refine qnD (pk [2]) (pk [1, 2]) ?_
 refine qtD 7 5 63 rfl (fun W hm => Qef (cs := [iV x0.Id, .slice A12 x0.Values.length c13]) rfl (by kernel_rfl)) ?_
 refine qoD 7 6 127 rfl ?_
 refine sb 0 [iV x0.Id, .slice A12 x0.Values.length c13] [iS Qa 3 A12 c13 x0.Values, I1] (pk [1, 0, 2]) Qcg ?_
 refine qxD (pk [2]) ?_
 refine Qec (by kernel_rfl) ?_
 refine Qe (Qj ?_)
 have he16 := (show Qyh x0 = x0 from rfl)
 refine Qcy rfl (Qdw (n := 0) rfl rfl Qdv Qcg rfl) (fun W hm => ⟨[iV x0.Id, .slice A12 x0.Values.length c13], ?_, ?_⟩)
 ·first | rw [he16] | rfl
 rw [he16]; exact Mem.join (is := [iS Qa 3 A12 c13 x0.Values]) (js := []) (fun _ _ hs => Qjj (x := x0) hs) (hm.pick [1] (by decide))
theorem Qarv (x0 : Qaa) : Qyh x0 = x0 := by
 rfl
theorem Qaru (w : World) (z0 : List Value) (x0 : Qaa) (r_0 : Qap.rd w w.heap.size z0 x0) (s_0 : Qgr 68719476736 x0) :
  Calls Tryz.prog 206 #[.agg z0.toArray] w (rO w Qap x0) := by
 have h := Qart w z0 x0 r_0 s_0
 rw [Qarv] at h
 exact h

def Qyi (x0 : (List Qaa)) (k9 : Nat) (d10 : (List Qaa)) : (List Qaa) ⊕ ((List Qaa)) :=
 Sum.inr (d10 ++ [(gt x0 k9)])
def Qui (x0 : (List Qaa)) : (List Qaa) :=
 Sum.elim id (fun (s : (List Qaa)) => s) (rng (R := (List Qaa)) (fun k (s : (List Qaa)) => Qyi x0 k s) (x0.length - 0) 0 [])
theorem Qadm : Cb Tryz.prog 183 := ⟨f183, _, func183, rfl, by decide⟩
theorem Qarw (w : World) (z0 : Value) (x0 : (List Qaa)) (r_0 : rdS Qap w w.heap.size z0 x0) (s_0 : (x0.length ≤ 68719476736 ∧ ∀ y ∈ x0, Qgr 68719476736 y)) :
  Calls Tryz.prog 183 #[z0] w (rL w (tSl Qap 70) (Qui x0)) := by
 obtain ⟨m1, A2, c3, rfl, q4, r5⟩ := Qi r_0
 have l6 : x0.length ≤ 68719476736 := s_0.1
 refine ce1 (L := [(0, .slice A2 x0.length c3)]) (N := 20) func183 ?_
 refine sr (wa (nt' (sr ?_)))
 refine Qce (E := Qap) Qci Qcg (Qk rfl) (by decide) (fun p7 => ?_)
 refine wa (nt' (Qd (sr (wm ?_))))
 refine wv (Qaf Qci) ?_
 refine wm (nt' (Qx ?_))
 refine Qbf (S := (List Qaa)) (R := Option Addr × Nat) (fun k (s : (List Qaa)) => Qyi x0 k s) x0.length 0 [] ((sA p7), 0) (fun s => [(3, .slice s.2.2.1 s.2.1.length s.2.2.2), (7, .slice A2 x0.length c3), (8, nI x0.length), (9, nI s.1)]) (fun s => [iS Qap 70 s.2.2.1 s.2.2.2 s.2.1]) (fun s => s.2.1.length ≤ 0 + s.1) sl4 (Nat.le_refl _) ?_
 rintro ⟨k9, d10, ⟨A11, c12⟩⟩ H15 _ _ e e'
 dsimp only at H15 ⊢
 subst e e'
 obtain ⟨hk13, hF14, hi16⟩ := H15
 refine sr ?_
 refine wv Qai ?_
 refine nt' (Qd ?_)
 rcases dcl k9 x0.length with ⟨hl17, g18⟩ | ⟨hl17, g18⟩
 ·
  refine Ql rfl g18 ?_
  refine Qo (Qe (Qd (Qx (sr ?_))))
  obtain ⟨a19, rfl, hb20, he21⟩ := q4 (by omega)
  refine wv (vix 2 k9 Qci Qcg) ?_
  obtain ⟨_, e25, hc22⟩ := he21 k9 _ (Qbr (show k9 < x0.length from by omega))
  obtain ⟨v23, rfl, r24⟩ := Qij e25
  have l26 : ((gt x0 k9).Values).length ≤ 68719476736 := (s_0.2 _ (Qak (show k9 < x0.length from by omega)))
  obtain ⟨m27, A28, c29, rfl, q30, r31⟩ := Qi r24
  let K1 : List Value := [iV ((gt x0 k9).Id), .slice A28 ((gt x0 k9).Values).length c29]
  refine wv (fun W hm => Qae (cs := K1) Qdv Qcg rfl rfl (hm.elCells (show (a19.add (k9 * 2)).block < w.heap.size from by rw [Qab]; exact hb20.1) hc22)) ?_
  refine Qbs Qcg rfl (Qk rfl) (by decide) (fun p32 => ?_)
  refine sb 0 K1 [iS Qap 70 A11 c12 d10] idM Qcg ?_
  refine nt' (Qy (wm ?_))
  refine wv (fun W hm => Qae (cs := K1) Qdv Qcg rfl rfl (hm.boxCells (n := 0) rfl)) ?_
  refine wcs Qap (gt x0 k9) (Qq Qaoc rfl) (fun W hm => Qaru W _ (gt x0 k9) (Qjk (x := (gt x0 k9)) (hm.rdS0 r31)) (s_0.2 _ (Qak (show k9 < x0.length from by omega)))) (fun z33 => ?_)
  refine Qmr ?_
  rintro v34 rfl
  refine fm 0 ?_
  rintro A35 c36 rfl m37
  let K2 : List Value := [iV ((gt x0 k9).Id), .slice A35 ((gt x0 k9).Values).length c36]
  refine Qde (cs := K2) Qci Qcg rfl (by decide) (by decide) rfl (by kernel_rfl) (Qk rfl) (by decide) (fun p39 => ?_)
  refine ap1 Qap 70 (.slice A11 d10.length c12) d10 (gt x0 k9) [iS Qa 3 A35 c36 ((gt x0 k9).Values)] [Qh p32 70 K1] K2 (pk [0, 3, 1, 2]) (fun _ _ hs => Els.single (Qjj (x := (gt x0 k9)) hs)) Qci Qcg (show (d10.length + 1) * 32 ≤ 140737488355328 from by omega) (fun v40 => ?_)
  refine fm 0 ?_
  rintro A41 c42 rfl m43
  refine wa (Qad (Qan (Qe (Qy ?_))))
  refine wv (Qal k9 1 (by omega)) ?_
  refine wm (Qad ?_)
  exact Qao (k9 + 1, (d10 ++ [(gt x0 k9)]), (A41, c42)) sl4 (pk [0]) ⟨(by omega), nx hF14 (rfl), (show (d10 ++ [(gt x0 k9)]).length ≤ 0 + (k9 + 1) from by first | omega | (simp only [List.length_append, List.length_cons, List.length_nil] at *; omega))⟩ rl
 refine Qn rfl g18 ?_
 refine Qay (Qu (Qu ?_))
 have hE46 := Qbg hl17 hF14
 refine Qaz (Qe (sr (wm (wa (nt' (Qj ?_))))))
 have he47 := (show Qui x0 = d10 from Qaq hE46 (rfl))
 refine Qcy rfl (Qdm rfl) (fun W hm => ⟨.slice A11 d10.length c12, ?_, ?_⟩)
 ·first | rw [he47] | rfl
 rw [he47]; exact hm
theorem Qarx (x0 : (List Qaa)) : Qui x0 = x0 := by
 unfold Qui; rw [Qiy (xs := x0) (b := fun k s => Qyi x0 k s) (fun _ _ => rfl)]; rfl
theorem Qaez (w : World) (z0 : Value) (x0 : (List Qaa)) (r_0 : rdS Qap w w.heap.size z0 x0) (s_0 : (x0.length ≤ 68719476736 ∧ ∀ y ∈ x0, Qgr 68719476736 y)) :
  Calls Tryz.prog 183 #[z0] w (rL w (tSl Qap 70) x0) := by
 have h := Qarw w z0 x0 r_0 s_0
 rw [Qarx] at h
 exact h

def Qxz (x0 : Qw) : Qw :=
 x0
theorem Qamy : Cb Tryz.prog 139 := ⟨f139, _, func139, rfl, by decide⟩
theorem Qard (w : World) (z0 : List Value) (x0 : Qw) (r_0 : Qah.rd w w.heap.size z0 x0) (s_0 : Qjy 68719476736 x0) :
  Calls Tryz.prog 139 #[.agg z0.toArray] w (rO w Qah (Qxz x0)) := by
 obtain ⟨v1, v3, v5, v7, rfl, r2, r4, r6, r8⟩ := Qgj r_0
 obtain ⟨m9, A10, c11, rfl, q12, r13⟩ := Qi r2
 obtain ⟨m14, A15, c16, rfl, q17, r18⟩ := Qi r4
 obtain ⟨m19, A20, c21, rfl, q22, r23⟩ := Qi r6
 obtain ⟨m24, A25, c26, rfl, q27, r28⟩ := Qi r8
 have l29 := s_0.1.1
 have l30 := s_0.1.2
 have l31 := s_0.2.1
 have l32 := s_0.2.2.1
 refine ce1 (L := [(0, .agg #[iV x0.Query.Id, iV x0.Query.Tenant, .slice A10 x0.Query.Conds.length c11, .slice A15 x0.Query.Out.length c16, iV x0.Time, .slice A20 x0.Todo.length c21, iV x0.Age, iV x0.Sent, iV x0.Cap, .slice A25 x0.Rows.length c26])]) (N := 16) func139 ?_
 refine sr ?_
 refine Qbq rfl (Qk rfl) (by decide) (fun p33 => ?_)
 refine Qbs Qbd rfl (Qk rfl) (by decide) (fun p34 => ?_)
 refine nt' (Qd ?_)
 let K1 : List Value := [iV 0, iV 0, .slice none 0 0, .slice none 0 0, iV 0, .slice none 0 0, iV 0, iV 0, iV 0, .slice none 0 0]
 refine rd2 15 [10, 12, 14] (s := [Qh p34 61 K1]) (s2 := [Qh p34 61 K1, Qh p33 61 [iV x0.Query.Id, iV x0.Query.Tenant, .slice A10 x0.Query.Conds.length c11, .slice A15 x0.Query.Out.length c16, iV x0.Time, .slice A20 x0.Todo.length c21, iV x0.Age, iV x0.Sent, iV x0.Cap, .slice A25 x0.Rows.length c26]]) (pk [0]) idM ?_
 refine qtD 15 0 1 rfl (vf Qaj rfl Qbi) ?_
 refine qtD 15 1 3 rfl (fun W hm => Qae (cs := [iV x0.Query.Id, iV x0.Query.Tenant, .slice A10 x0.Query.Conds.length c11, .slice A15 x0.Query.Out.length c16]) Qbo Qbi rfl rfl (hm.boxPart (n := 1) rfl rfl)) ?_
 refine qtD 15 3 11 rfl (vf Qaj rfl Qam) ?_
 refine qtD 15 4 27 rfl (vl 1 5 Qp) ?_
 refine qtD 15 6 91 rfl (vf Qaj rfl Qdt) ?_
 refine qtD 15 7 219 rfl (vl 1 9 Qci) ?_
 refine qoD 15 2 223 rfl ?_
 refine wcs Qcm x0.Query (Qq Qacx rfl) (fun W hm => Qaey W _ x0.Query (Qhd (x := x0.Query) (hm.rdS0 r13) (hm.rdS0 r18)) s_0.1) (fun z35 => ?_)
 refine Qpc ?_
 rintro ⟨v36, v37⟩ rfl
 refine fm 0 ?_
 rintro A38 c39 rfl m40
 refine fm 1 ?_
 rintro A42 c43 rfl m44
 refine qnD (pk [2]) (pk [2, 3]) ?_
 refine qtD 15 9 735 rfl (vf Qaj rfl Qbi) ?_
 refine qoD 15 5 767 rfl ?_
 refine wcl (tSl Qa 3) x0.Todo (Qq Qkj rfl) (fun W hm => Qkn W _ x0.Todo (hm.rdS0 r23) s_0.2.1) (fun z46 => ?_)
 refine fm 0 ?_
 rintro A47 c48 rfl m49
 refine qnD (pk [3]) (pk [3, 4]) ?_
 refine qoD 15 8 1023 rfl ?_
 refine wcl (tSl Qap 70) x0.Rows (Qq Qadm rfl) (fun W hm => Qaez W _ x0.Rows (hm.rdS0 r28) s_0.2.2) (fun z51 => ?_)
 refine fm 0 ?_
 rintro A52 c53 rfl m54
 refine qnD (pk [4]) (pk [4, 5]) ?_
 refine qoD 15 10 2047 rfl ?_
 let J3 : List It := [iS Qap 70 A52 c53 x0.Rows, iS Qa 3 A47 c48 x0.Todo, iS Qbk 180 A38 c39 x0.Query.Conds, iS Qa 3 A42 c43 x0.Query.Out, Qh p34 61 K1]
 refine sb 0 [iV x0.Query.Id, iV x0.Query.Tenant, .slice A38 x0.Query.Conds.length c39, .slice A42 x0.Query.Out.length c43, iV x0.Time, .slice A20 x0.Todo.length c21, iV x0.Age, iV x0.Sent, iV x0.Cap, .slice A25 x0.Rows.length c26] J3 (pk [5, 0, 1, 2, 3, 4]) Qbi ?_
 refine qxD (pk [5]) ?_
 refine qt 15 11 4095 rfl (vf Qaj rfl Qam) ?_
 refine qo 15 12 8191 rfl ?_
 refine sb 5 [iV x0.Query.Id, iV x0.Query.Tenant, .slice A38 x0.Query.Conds.length c39, .slice A42 x0.Query.Out.length c43, iV x0.Time, .slice A47 x0.Todo.length c48, iV x0.Age, iV x0.Sent, iV x0.Cap, .slice A25 x0.Rows.length c26] J3 idM Qam ?_
 refine qn (pk [5]) ?_
 refine qt 15 13 16383 rfl (vf Qaj rfl Qdt) ?_
 refine qo 15 14 32767 rfl ?_
 let K2 : List Value := [iV x0.Query.Id, iV x0.Query.Tenant, .slice A38 x0.Query.Conds.length c39, .slice A42 x0.Query.Out.length c43, iV x0.Time, .slice A47 x0.Todo.length c48, iV x0.Age, iV x0.Sent, iV x0.Cap, .slice A52 x0.Rows.length c53]
 refine sb 9 K2 J3 idM Qdt ?_
 refine qn (pk [5]) ?_
 refine Qec (by kernel_rfl) ?_
 refine Qe (sr ?_)
 refine wv (fun W hm => Qae (cs := K2) Qaj Qbd rfl rfl (hm.boxCells (n := 0) rfl)) ?_
 refine sb 0 K2 [Qh p33 61 K2, iS Qap 70 A52 c53 x0.Rows, iS Qa 3 A47 c48 x0.Todo, iS Qbk 180 A38 c39 x0.Query.Conds, iS Qa 3 A42 c43 x0.Query.Out] (pk [5, 0, 1, 2, 3, 4]) Qbd ?_
 refine nt' (Qj ?_)
 have he56 := (show Qxz x0 = x0 from rfl)
 refine Qcy rfl (Qdw (n := 0) rfl rfl Qaj Qbd rfl) (fun W hm => ⟨K2, ?_, ?_⟩)
 ·first | rw [he56] | rfl
 rw [he56]; exact Mem.join (is := [iS Qbk 180 A38 c39 x0.Query.Conds, iS Qa 3 A42 c43 x0.Query.Out, iS Qa 3 A47 c48 x0.Todo, iS Qap 70 A52 c53 x0.Rows]) (js := []) (fun _ _ hs => Qhl (x := x0) hs) (hm.pick [4, 5, 3, 2] (by decide))
theorem Qarf (x0 : Qw) : Qxz x0 = x0 := by
 rfl
theorem Qare (w : World) (z0 : List Value) (x0 : Qw) (r_0 : Qah.rd w w.heap.size z0 x0) (s_0 : Qjy 68719476736 x0) :
  Calls Tryz.prog 139 #[.agg z0.toArray] w (rO w Qah x0) := by
 have h := Qard w z0 x0 r_0 s_0
 rw [Qarf] at h
 exact h

def Qye (x0 : Qat) : Qat :=
 x0
theorem Qamn : Cb Tryz.prog 125 := ⟨f125, _, func125, rfl, by decide⟩
theorem Qarm (w : World) (z0 : List Value) (x0 : Qat) (r_0 : Qax.rd w w.heap.size z0 x0) (s_0 : Qjz 68719476736 x0) :
  Calls Tryz.prog 125 #[.agg z0.toArray] w (rO w Qax (Qye x0)) := by
 obtain ⟨v1, v3, v5, rfl, r2, r4, r6⟩ := Qlu r_0
 obtain ⟨m7, A8, c9, rfl, q10, r11⟩ := Qi r2
 obtain ⟨m12, A13, c14, rfl, q15, r16⟩ := Qi r4
 obtain ⟨m17, A18, c19, rfl, q20, r21⟩ := Qi r6
 have l22 := s_0.1.1
 have l23 := s_0.1.2
 have l24 := s_0.2.1
 refine ce1 (L := [(0, .agg #[iV x0.Query.Id, iV x0.Query.Tenant, .slice A8 x0.Query.Conds.length c9, .slice A13 x0.Query.Out.length c14, iV x0.Time, iV x0.Steps, .slice A18 x0.Rows.length c19])]) (N := 12) func125 ?_
 refine sr ?_
 refine Qbq rfl (Qk rfl) (by decide) (fun p25 => ?_)
 refine Qbs Qcq rfl (Qk rfl) (by decide) (fun p26 => ?_)
 refine nt' (Qd ?_)
 let K1 : List Value := [iV 0, iV 0, .slice none 0 0, .slice none 0 0, iV 0, iV 0, .slice none 0 0]
 refine rd2 10 [7, 9] (s := [Qh p26 80 K1]) (s2 := [Qh p26 80 K1, Qh p25 80 [iV x0.Query.Id, iV x0.Query.Tenant, .slice A8 x0.Query.Conds.length c9, .slice A13 x0.Query.Out.length c14, iV x0.Time, iV x0.Steps, .slice A18 x0.Rows.length c19]]) (pk [0]) idM ?_
 refine qtD 10 0 1 rfl (vf Qda rfl Qbi) ?_
 refine qtD 10 1 3 rfl (fun W hm => Qae (cs := [iV x0.Query.Id, iV x0.Query.Tenant, .slice A8 x0.Query.Conds.length c9, .slice A13 x0.Query.Out.length c14]) Qbo Qbi rfl rfl (hm.boxPart (n := 1) rfl rfl)) ?_
 refine qtD 10 3 11 rfl (vf Qda rfl Qdt) ?_
 refine qtD 10 4 27 rfl (vl 1 6 Qci) ?_
 refine qoD 10 2 31 rfl ?_
 refine wcs Qcm x0.Query (Qq Qacx rfl) (fun W hm => Qaey W _ x0.Query (Qhd (x := x0.Query) (hm.rdS0 r11) (hm.rdS0 r16)) s_0.1) (fun z27 => ?_)
 refine Qpc ?_
 rintro ⟨v28, v29⟩ rfl
 refine fm 0 ?_
 rintro A30 c31 rfl m32
 refine fm 1 ?_
 rintro A34 c35 rfl m36
 refine qnD (pk [2]) (pk [2, 3]) ?_
 refine qtD 10 6 95 rfl (vf Qda rfl Qbi) ?_
 refine qoD 10 5 127 rfl ?_
 refine wcl (tSl Qap 70) x0.Rows (Qq Qadm rfl) (fun W hm => Qaez W _ x0.Rows (hm.rdS0 r21) s_0.2) (fun z38 => ?_)
 refine fm 0 ?_
 rintro A39 c40 rfl m41
 refine qnD (pk [3]) (pk [3, 4]) ?_
 refine qoD 10 7 255 rfl ?_
 let J3 : List It := [iS Qap 70 A39 c40 x0.Rows, iS Qbk 180 A30 c31 x0.Query.Conds, iS Qa 3 A34 c35 x0.Query.Out, Qh p26 80 K1]
 refine sb 0 [iV x0.Query.Id, iV x0.Query.Tenant, .slice A30 x0.Query.Conds.length c31, .slice A34 x0.Query.Out.length c35, iV x0.Time, iV x0.Steps, .slice A18 x0.Rows.length c19] J3 (pk [4, 0, 1, 2, 3]) Qbi ?_
 refine qxD (pk [4]) ?_
 refine qt 10 8 511 rfl (vf Qda rfl Qdt) ?_
 refine qo 10 9 1023 rfl ?_
 let K2 : List Value := [iV x0.Query.Id, iV x0.Query.Tenant, .slice A30 x0.Query.Conds.length c31, .slice A34 x0.Query.Out.length c35, iV x0.Time, iV x0.Steps, .slice A39 x0.Rows.length c40]
 refine sb 6 K2 J3 idM Qdt ?_
 refine qn (pk [4]) ?_
 refine Qec (by kernel_rfl) ?_
 refine Qe (sr ?_)
 refine wv (fun W hm => Qae (cs := K2) Qda Qcq rfl rfl (hm.boxCells (n := 0) rfl)) ?_
 refine sb 0 K2 [Qh p25 80 K2, iS Qap 70 A39 c40 x0.Rows, iS Qbk 180 A30 c31 x0.Query.Conds, iS Qa 3 A34 c35 x0.Query.Out] (pk [4, 0, 1, 2, 3]) Qcq ?_
 refine nt' (Qj ?_)
 have he43 := (show Qye x0 = x0 from rfl)
 refine Qcy rfl (Qdw (n := 0) rfl rfl Qda Qcq rfl) (fun W hm => ⟨K2, ?_, ?_⟩)
 ·first | rw [he43] | rfl
 rw [he43]; exact Mem.join (is := [iS Qbk 180 A30 c31 x0.Query.Conds, iS Qa 3 A34 c35 x0.Query.Out, iS Qap 70 A39 c40 x0.Rows]) (js := []) (fun _ _ hs => Qlt (x := x0) hs) (hm.pick [3, 4, 2] (by decide))
theorem Qaro (x0 : Qat) : Qye x0 = x0 := by
 rfl
theorem Qarn (w : World) (z0 : List Value) (x0 : Qat) (r_0 : Qax.rd w w.heap.size z0 x0) (s_0 : Qjz 68719476736 x0) :
  Calls Tryz.prog 125 #[.agg z0.toArray] w (rO w Qax x0) := by
 have h := Qarm w z0 x0 r_0 s_0
 rw [Qaro] at h
 exact h

def Qya (x0 : Qbb) : Qbb :=
 x0
theorem Qamz : Cb Tryz.prog 140 := ⟨f140, _, func140, rfl, by decide⟩
theorem Qarg (w : World) (z0 : List Value) (x0 : Qbb) (r_0 : Qav.rd w w.heap.size z0 x0) (s_0 : Qip 68719476736 x0) :
  Calls Tryz.prog 140 #[.agg z0.toArray] w (rO w Qav (Qya x0)) := by
 obtain ⟨v1, v3, v5, rfl, r2, r4, r6⟩ := Qjg r_0
 obtain ⟨m7, A8, c9, rfl, q10, r11⟩ := Qi r2
 obtain ⟨m12, A13, c14, rfl, q15, r16⟩ := Qi r4
 obtain ⟨m17, A18, c19, rfl, q20, r21⟩ := Qi r6
 have l22 := s_0.1
 have l23 := s_0.2.1
 have l24 := s_0.2.2
 refine ce1 (L := [(0, .agg #[iV x0.Segment, iV x0.Base, .slice A8 x0.Ids.length c9, .slice A13 x0.Tenants.length c14, .slice A18 x0.Rows.length c19])]) (N := 16) func140 ?_
 refine sr ?_
 refine Qbq rfl (Qk rfl) (by decide) (fun p25 => ?_)
 refine Qbs Qcr rfl (Qk rfl) (by decide) (fun p26 => ?_)
 refine nt' (Qd ?_)
 let K1 : List Value := [iV 0, iV 0, .slice none 0 0, .slice none 0 0, .slice none 0 0]
 refine rd2 15 [10, 12, 14] (s := [Qh p26 102 K1]) (s2 := [Qh p26 102 K1, Qh p25 102 [iV x0.Segment, iV x0.Base, .slice A8 x0.Ids.length c9, .slice A13 x0.Tenants.length c14, .slice A18 x0.Rows.length c19]]) (pk [0]) idM ?_
 refine qtD 15 0 1 rfl (vf Qbz rfl Qam) ?_
 refine qtD 15 1 3 rfl (vl 1 2 Qp) ?_
 refine qtD 15 3 11 rfl (vf Qbz rfl Qam) ?_
 refine qtD 15 4 27 rfl (vl 1 3 Qp) ?_
 refine qtD 15 6 91 rfl (vf Qbz rfl Qam) ?_
 refine qtD 15 7 219 rfl (vl 1 4 Qp) ?_
 refine qoD 15 2 223 rfl ?_
 refine wcl (tSl Qa 3) x0.Ids (Qq Qkj rfl) (fun W hm => Qkn W _ x0.Ids (hm.rdS0 r11) s_0.1) (fun z27 => ?_)
 refine fm 0 ?_
 rintro A28 c29 rfl m30
 refine qnD (pk [1]) (pk [1, 2]) ?_
 refine qtD 15 9 735 rfl (vf Qbz rfl Qam) ?_
 refine qoD 15 5 767 rfl ?_
 refine wcl (tSl Qa 3) x0.Tenants (Qq Qkj rfl) (fun W hm => Qkn W _ x0.Tenants (hm.rdS0 r16) s_0.2.1) (fun z32 => ?_)
 refine fm 0 ?_
 rintro A33 c34 rfl m35
 refine qnD (pk [2]) (pk [2, 3]) ?_
 refine qoD 15 8 1023 rfl ?_
 refine wcl (tSl Qa 3) x0.Rows (Qq Qkj rfl) (fun W hm => Qkn W _ x0.Rows (hm.rdS0 r21) s_0.2.2) (fun z37 => ?_)
 refine fm 0 ?_
 rintro A38 c39 rfl m40
 refine qnD (pk [3]) (pk [3, 4]) ?_
 refine qoD 15 10 2047 rfl ?_
 let J3 : List It := [iS Qa 3 A38 c39 x0.Rows, iS Qa 3 A33 c34 x0.Tenants, iS Qa 3 A28 c29 x0.Ids, Qh p26 102 K1]
 refine sb 2 [iV x0.Segment, iV x0.Base, .slice A28 x0.Ids.length c29, .slice A13 x0.Tenants.length c14, .slice A18 x0.Rows.length c19] J3 (pk [4, 0, 1, 2, 3]) Qam ?_
 refine qxD (pk [4]) ?_
 refine qt 15 11 4095 rfl (vf Qbz rfl Qam) ?_
 refine qo 15 12 8191 rfl ?_
 refine sb 3 [iV x0.Segment, iV x0.Base, .slice A28 x0.Ids.length c29, .slice A33 x0.Tenants.length c34, .slice A18 x0.Rows.length c19] J3 idM Qam ?_
 refine qn (pk [4]) ?_
 refine qt 15 13 16383 rfl (vf Qbz rfl Qam) ?_
 refine qo 15 14 32767 rfl ?_
 let K2 : List Value := [iV x0.Segment, iV x0.Base, .slice A28 x0.Ids.length c29, .slice A33 x0.Tenants.length c34, .slice A38 x0.Rows.length c39]
 refine sb 4 K2 J3 idM Qam ?_
 refine qn (pk [4]) ?_
 refine Qec (by kernel_rfl) ?_
 refine Qe (sr ?_)
 refine wv (fun W hm => Qae (cs := K2) Qbz Qcr rfl rfl (hm.boxCells (n := 0) rfl)) ?_
 refine sb 0 K2 [Qh p25 102 K2, iS Qa 3 A38 c39 x0.Rows, iS Qa 3 A33 c34 x0.Tenants, iS Qa 3 A28 c29 x0.Ids] (pk [4, 0, 1, 2, 3]) Qcr ?_
 refine nt' (Qj ?_)
 have he42 := (show Qya x0 = x0 from rfl)
 refine Qcy rfl (Qdw (n := 0) rfl rfl Qbz Qcr rfl) (fun W hm => ⟨K2, ?_, ?_⟩)
 ·first | rw [he42] | rfl
 rw [he42]; exact Mem.join (is := [iS Qa 3 A28 c29 x0.Ids, iS Qa 3 A33 c34 x0.Tenants, iS Qa 3 A38 c39 x0.Rows]) (js := []) (fun _ _ hs => Qmp (x := x0) hs) (hm.pick [4, 3, 2] (by decide))
theorem Qari (x0 : Qbb) : Qya x0 = x0 := by
 rfl
theorem Qarh (w : World) (z0 : List Value) (x0 : Qbb) (r_0 : Qav.rd w w.heap.size z0 x0) (s_0 : Qip 68719476736 x0) :
  Calls Tryz.prog 140 #[.agg z0.toArray] w (rO w Qav x0) := by
 have h := Qarg w z0 x0 r_0 s_0
 rw [Qari] at h
 exact h

def Qyd (x0 : Qr) (k204 : Nat) (d207 : (List Qbb)) : Qr ⊕ ((List Qbb)) :=
 Sum.inr (d207 ++ [(gt x0.Ledger k204)])
def Qyc (x0 : Qr) (k138 : Nat) (d141 : (List Qat)) : Qr ⊕ ((List Qat)) :=
 Sum.inr (d141 ++ [(gt x0.Done k138)])
def Qyb (x0 : Qr) (k59 : Nat) (d62 : (List Qw)) : Qr ⊕ ((List Qw)) :=
 Sum.inr (d62 ++ [(gt x0.Active k59)])
def Quh (x0 : Qr) : Qr :=
 Sum.elim id (fun (s1_ : (List Qw)) => Sum.elim id (fun (s2_ : (List Qat)) => Sum.elim id (fun (s : (List Qbb)) => (⟨x0.Store, x0.Cursor, x0.Order, s1_, s2_, s, x0.Steps⟩ : Qr)) (rng (R := Qr) (fun k (s : (List Qbb)) => Qyd x0 k s) (x0.Ledger.length - 0) 0 [])) (rng (R := Qr) (fun k (s : (List Qat)) => Qyc x0 k s) (x0.Done.length - 0) 0 [])) (rng (R := Qr) (fun k (s : (List Qw)) => Qyb x0 k s) (x0.Active.length - 0) 0 [])
theorem cb68 : Cb Tryz.prog 68 := ⟨f68, _, func68, rfl, by decide⟩
theorem Qarj (w : World) (z0 : List Value) (x0 : Qr) (r_0 : Qcf.rd w w.heap.size z0 x0) (s_0 : Qgc 68719476736 x0) :
  Calls Tryz.prog 68 #[.agg z0.toArray] w (rO w Qcf (Quh x0)) := by
 obtain ⟨v1, v3, v5, v7, v9, rfl, r2, r4, r6, r8, r10⟩ := Qiq r_0
 obtain ⟨m11, A12, c13, rfl, q14, r15⟩ := Qi r2
 obtain ⟨m16, A17, c18, rfl, q19, r20⟩ := Qi r4
 obtain ⟨m21, A22, c23, rfl, q24, r25⟩ := Qi r6
 obtain ⟨m26, A27, c28, rfl, q29, r30⟩ := Qi r8
 obtain ⟨m31, A32, c33, rfl, q34, r35⟩ := Qi r10
 have l36 : x0.Store.Segments.length ≤ 68719476736 := s_0.1.1
 have l37 := s_0.2.1
 have l38 := s_0.2.2.1.1
 have l39 := s_0.2.2.2.1.1
 have l40 := s_0.2.2.2.2.1
 refine ce1 (L := [(0, .agg #[.slice A12 x0.Store.Segments.length c13, iV x0.Store.Now, iV x0.Cursor, .slice A17 x0.Order.length c18, .slice A22 x0.Active.length c23, .slice A27 x0.Done.length c28, .slice A32 x0.Ledger.length c33, iV x0.Steps])]) (N := 67) func68 ?_
 refine sr ?_
 refine Qbq rfl (Qk rfl) (by decide) (fun p41 => ?_)
 refine Qbs Qbm rfl (Qk rfl) (by decide) (fun p42 => ?_)
 refine nt' (Qd ?_)
 let K1 : List Value := [.slice none 0 0, iV 0, iV 0, .slice none 0 0, .slice none 0 0, .slice none 0 0, .slice none 0 0, iV 0]
 let K2 : List Value := [.slice A12 x0.Store.Segments.length c13, iV x0.Store.Now, iV x0.Cursor, .slice A17 x0.Order.length c18, .slice A22 x0.Active.length c23, .slice A27 x0.Done.length c28, .slice A32 x0.Ledger.length c33, iV x0.Steps]
 let J17 : List It := [Qh p42 39 K1, Qh p41 39 K2]
 refine rd2 13 [12] (s := J17) (s2 := J17) idM idM ?_
 refine Qrd (σ := Option Addr × Nat × Option Addr × Nat × Nat) (fun s => J17) 13 4095 1 (fun s => [(1, bp p41), (2, bp p42), (20, .agg #[.slice s.1 x0.Store.Segments.length s.2.1, iV x0.Store.Now, iV x0.Cursor, .slice s.2.2.1 x0.Order.length s.2.2.2.1, .slice none 0 0, .slice none 0 0, .slice none 0 0, iV x0.Steps]), (3, .pointer (some (⟨s.2.2.2.2, 0, none⟩ : Addr)))]) (fun s => (Qh s.2.2.2.2 39 K1 :: iS Qa 3 s.2.2.1 s.2.2.2.1 x0.Order :: iS (tSl Qag 163) 100 s.1 s.2.1 x0.Store.Segments :: J17)) ?_ (fun H => ?_)
 ·
  rintro ⟨A45, c46, A50, c51, p54⟩
  let I16 : It := iS (tSl Qag 163) 100 A45 c46 x0.Store.Segments
  show QD _ _ _ _ _ _ _ _ [(1, bp p41), (2, bp p42), (20, .agg #[.slice A45 x0.Store.Segments.length c46, iV x0.Store.Now, iV x0.Cursor, .slice A50 x0.Order.length c51, .slice none 0 0, .slice none 0 0, .slice none 0 0, iV x0.Steps]), (3, bp p54)] _ J17 _ (Qh p54 39 K1 :: iS Qa 3 A50 c51 x0.Order :: I16 :: J17)
  refine Qli (n := 1) rfl ?_
  intro m55 m56
  refine Qli (n := 2) rfl ?_
  intro m57 m58
  refine qoD 13 12 8191 rfl ?_
  refine sb 0 [.slice A45 x0.Store.Segments.length c46, iV x0.Store.Now, iV x0.Cursor, .slice A50 x0.Order.length c51, .slice none 0 0, .slice none 0 0, .slice none 0 0, iV x0.Steps] (iS Qa 3 A50 c51 x0.Order :: I16 :: J17) idM Qbm ?_
  refine qxD (pk [3, 4]) ?_
  refine Qec (by kernel_rfl) ?_
  refine Qe (Qd (sr ?_))
  refine wv (vf Qac rfl Qcz) ?_
  refine wv (vl 4 4 Qaw) ?_
  refine wv (Qaf Qaw) ?_
  refine wm (nt' (Qx ?_))
  refine Qdp (fun W hm => (hm.addNil (E := Qah) (e := 61)).last) ?_
  refine Qbf (S := (List Qw)) (R := Option Addr × Nat) (fun k (s : (List Qw)) => Qyb x0 k s) x0.Active.length 0 [] (none, 0) (fun s => [(1, bp p41), (2, bp p42), (3, bp p54), (22, .slice A22 x0.Active.length c23), (23, nI x0.Active.length), (24, nI s.1)]) (fun s => [Qh p54 39 [.slice A45 x0.Store.Segments.length c46, iV x0.Store.Now, iV x0.Cursor, .slice A50 x0.Order.length c51, .slice s.2.2.1 s.2.1.length s.2.2.2, .slice none 0 0, .slice none 0 0, iV x0.Steps], iS Qa 3 A50 c51 x0.Order, I16, Qh p42 39 K1, Qh p41 39 K2, iS Qah 61 s.2.2.1 s.2.2.2 s.2.1]) (fun s => s.2.1.length ≤ 0 + s.1) sl6 (Nat.le_refl _) ?_
  rintro ⟨k59, d62, ⟨A63, c64⟩⟩ H67 _ _ e e'
  dsimp only at H67 ⊢
  subst e e'
  obtain ⟨hk65, hF66, hi68⟩ := H67
  refine sr ?_
  refine wv Qai ?_
  refine nt' (Qd ?_)
  rcases dcl k59 x0.Active.length with ⟨hl69, g70⟩ | ⟨hl69, g70⟩
  ·
   refine Ql rfl g70 ?_
   refine Qo (Qe (Qd (Qx (sr ?_))))
   obtain ⟨a71, rfl, hb72, he73⟩ := q24 (by omega)
   refine wv (vix 10 k59 Qaw Qbd) ?_
   obtain ⟨_, e83, hc74⟩ := he73 k59 _ (Qbr (show k59 < x0.Active.length from by omega))
   obtain ⟨v75, v77, v79, v81, rfl, r76, r78, r80, r82⟩ := Qgj e83
   have l84 := (s_0.2.2.1.2 _ (Qak (show k59 < x0.Active.length from by omega))).1.1
   have l85 := (s_0.2.2.1.2 _ (Qak (show k59 < x0.Active.length from by omega))).1.2
   have l86 := (s_0.2.2.1.2 _ (Qak (show k59 < x0.Active.length from by omega))).2.1
   have l87 := (s_0.2.2.1.2 _ (Qak (show k59 < x0.Active.length from by omega))).2.2.1
   obtain ⟨m88, A89, c90, rfl, q91, r92⟩ := Qi r76
   obtain ⟨m93, A94, c95, rfl, q96, r97⟩ := Qi r78
   obtain ⟨m98, A99, c100, rfl, q101, r102⟩ := Qi r80
   obtain ⟨m103, A104, c105, rfl, q106, r107⟩ := Qi r82
   let K3 : List Value := [iV ((gt x0.Active k59).Query.Id), iV ((gt x0.Active k59).Query.Tenant), .slice A89 ((gt x0.Active k59).Query.Conds).length c90, .slice A94 ((gt x0.Active k59).Query.Out).length c95, iV ((gt x0.Active k59).Time), .slice A99 ((gt x0.Active k59).Todo).length c100, iV ((gt x0.Active k59).Age), iV ((gt x0.Active k59).Sent), iV ((gt x0.Active k59).Cap), .slice A104 ((gt x0.Active k59).Rows).length c105]
   refine wv (fun W hm => Qae (cs := K3) Qaj Qbd rfl rfl (hm.elCells (show (a71.add (k59 * 10)).block < w.heap.size from by rw [Qab]; exact hb72.1) hc74)) ?_
   refine Qbs Qbd rfl (Qk rfl) (by decide) (fun p108 => ?_)
   let K4 : List Value := [.slice A45 x0.Store.Segments.length c46, iV x0.Store.Now, iV x0.Cursor, .slice A50 x0.Order.length c51, .slice A63 d62.length c64, .slice none 0 0, .slice none 0 0, iV x0.Steps]
   let K5 : List Value := [.slice A12 x0.Store.Segments.length c13, iV x0.Store.Now, iV x0.Cursor, .slice A17 x0.Order.length c18, .slice (some a71) x0.Active.length c23, .slice A27 x0.Done.length c28, .slice A32 x0.Ledger.length c33, iV x0.Steps]
   refine sb 0 K3 [Qh p54 39 K4, iS Qa 3 A50 c51 x0.Order, I16, Qh p42 39 K1, Qh p41 39 K5, iS Qah 61 A63 c64 d62] idM Qbd ?_
   refine nt' ?_
   let J18 : List It := [iS Qa 3 A50 c51 x0.Order, I16, Qh p42 39 K1, Qh p41 39 K5]
   refine rd2 8 [7] (s := (Qh p108 61 K3 :: J18)) (s2 := (Qh p108 61 K3 :: Qh p54 39 K4 :: J18)) (pk [0, 2, 3, 4, 5]) (pk [0, 1, 2, 3, 4, 5]) ?_
   refine qtD 8 0 1 rfl (vf Qac rfl Qcz) ?_
   refine qtD 8 1 3 rfl (vl 1 4 Qaw) ?_
   refine qtD 8 2 7 rfl (fun W hm => Qae (cs := K3) Qaj Qbd rfl rfl (hm.boxCells (n := 0) rfl)) ?_
   refine qoD 8 3 15 rfl ?_
   refine wcs Qah (gt x0.Active k59) (Qq Qamy rfl) (fun W hm => Qare W _ (gt x0.Active k59) (Qqv (x := (gt x0.Active k59)) (hm.rdS0 r92) (hm.rdS0 r97) (hm.rdS0 r102) (hm.rdS0 r107)) (s_0.2.2.1.2 _ (Qak (show k59 < x0.Active.length from by omega)))) (fun z109 => ?_)
   refine Qod ?_
   rintro ⟨v110, v111, v112, v113⟩ rfl
   refine fm 0 ?_
   rintro A114 c115 rfl m116
   refine fm 1 ?_
   rintro A118 c119 rfl m120
   refine fm 2 ?_
   rintro A122 c123 rfl m124
   refine fm 3 ?_
   rintro A126 c127 rfl m128
   refine qnD (pk [4, 6, 7, 8, 9]) (pk [4, 5, 6, 7, 8, 9]) ?_
   refine qoD 8 4 31 rfl ?_
   let K6 : List Value := [iV ((gt x0.Active k59).Query.Id), iV ((gt x0.Active k59).Query.Tenant), .slice A114 ((gt x0.Active k59).Query.Conds).length c115, .slice A118 ((gt x0.Active k59).Query.Out).length c119, iV ((gt x0.Active k59).Time), .slice A122 ((gt x0.Active k59).Todo).length c123, iV ((gt x0.Active k59).Age), iV ((gt x0.Active k59).Sent), iV ((gt x0.Active k59).Cap), .slice A126 ((gt x0.Active k59).Rows).length c127]
   refine Qde (cs := K6) Qaw Qbd rfl (by decide) (by decide) rfl (by kernel_rfl) (Qk rfl) (by decide) (fun p130 => ?_)
   refine qnD (pk [5, 7, 8, 9, 10]) (pk [5, 6, 7, 8, 9, 10]) ?_
   refine qoD 8 5 63 rfl ?_
   refine ap1 Qah 61 (.slice A63 d62.length c64) d62 (gt x0.Active k59) [iS Qbk 180 A114 c115 ((gt x0.Active k59).Query.Conds), iS Qa 3 A118 c119 ((gt x0.Active k59).Query.Out), iS Qa 3 A122 c123 ((gt x0.Active k59).Todo), iS Qap 70 A126 c127 ((gt x0.Active k59).Rows)] (Qh p108 61 K3 :: Qh p54 39 K4 :: J18) K6 (pk [0, 11, 1, 2, 3, 4, 5, 6, 7, 8, 9, 10]) (fun _ _ hs => Els.single (Qhl (x := (gt x0.Active k59)) hs)) Qaw Qbd (show (d62.length + 1) * 144 ≤ 140737488355328 from by omega) (fun v131 => ?_)
   refine fm 0 ?_
   rintro A132 c133 rfl m134
   refine qnD (pk [1, 3, 4, 5, 6]) (pk [1, 2, 3, 4, 5, 6]) ?_
   refine qtD 8 6 127 rfl (vf Qac rfl Qcz) ?_
   refine qoD 8 7 255 rfl ?_
   refine sb 4 [.slice A45 x0.Store.Segments.length c46, iV x0.Store.Now, iV x0.Cursor, .slice A50 x0.Order.length c51, .slice A132 (d62 ++ [(gt x0.Active k59)]).length c133, .slice none 0 0, .slice none 0 0, iV x0.Steps] (iS Qah 61 A132 c133 (d62 ++ [(gt x0.Active k59)]) :: Qh p108 61 K3 :: J18) (pk [2, 0, 1, 3, 4, 5, 6]) Qcz ?_
   refine qxD (pk [2, 3, 4, 5, 6]) ?_
   refine Qec (by kernel_rfl) ?_
   refine Qan (Qe (Qy ?_))
   refine wv (Qal k59 1 (by omega)) ?_
   refine wm (Qad ?_)
   exact Qao (k59 + 1, (d62 ++ [(gt x0.Active k59)]), (A132, c133)) sl6 (pk [0, 3, 4, 5, 6, 1]) ⟨(by omega), nx hF66 (rfl), (show (d62 ++ [(gt x0.Active k59)]).length ≤ 0 + (k59 + 1) from by first | omega | (simp only [List.length_append, List.length_cons, List.length_nil] at *; omega))⟩ rl
  refine Qn rfl g70 ?_
  refine Qay (Qu (Qu ?_))
  have hE137 := Qbg hl69 hF66
  refine Qaz (Qe (Qd (sr ?_)))
  refine wv (vf Qac rfl Qek) ?_
  refine wv (vl 4 5 Qch) ?_
  refine wv (Qaf Qch) ?_
  refine wm (nt' (Qx ?_))
  refine Qdp (fun W hm => (hm.addNil (E := Qax) (e := 80)).last) ?_
  refine Qbf (S := (List Qat)) (R := Option Addr × Nat) (fun k (s : (List Qat)) => Qyc x0 k s) x0.Done.length 0 [] (none, 0) (fun s => [(1, bp p41), (2, bp p42), (3, bp p54), (37, .slice A27 x0.Done.length c28), (38, nI x0.Done.length), (39, nI s.1)]) (fun s => [Qh p54 39 [.slice A45 x0.Store.Segments.length c46, iV x0.Store.Now, iV x0.Cursor, .slice A50 x0.Order.length c51, .slice A63 d62.length c64, .slice s.2.2.1 s.2.1.length s.2.2.2, .slice none 0 0, iV x0.Steps], iS Qa 3 A50 c51 x0.Order, I16, Qh p42 39 K1, Qh p41 39 K2, iS Qah 61 A63 c64 d62, iS Qax 80 s.2.2.1 s.2.2.2 s.2.1]) (fun s => s.2.1.length ≤ 0 + s.1) sl6 (Nat.le_refl _) ?_
  rintro ⟨k138, d141, ⟨A142, c143⟩⟩ H146 _ _ e e'
  dsimp only at H146 ⊢
  subst e e'
  obtain ⟨hk144, hF145, hi147⟩ := H146
  refine sr ?_
  refine wv Qai ?_
  refine nt' (Qd ?_)
  rcases dcl k138 x0.Done.length with ⟨hl148, g149⟩ | ⟨hl148, g149⟩
  ·
   refine Ql rfl g149 ?_
   refine Qo (Qe (Qd (Qx (sr ?_))))
   obtain ⟨a150, rfl, hb151, he152⟩ := q29 (by omega)
   refine wv (vix 7 k138 Qch Qcq) ?_
   obtain ⟨_, e160, hc153⟩ := he152 k138 _ (Qbr (show k138 < x0.Done.length from by omega))
   obtain ⟨v154, v156, v158, rfl, r155, r157, r159⟩ := Qlu e160
   have l161 := (s_0.2.2.2.1.2 _ (Qak (show k138 < x0.Done.length from by omega))).1.1
   have l162 := (s_0.2.2.2.1.2 _ (Qak (show k138 < x0.Done.length from by omega))).1.2
   have l163 := (s_0.2.2.2.1.2 _ (Qak (show k138 < x0.Done.length from by omega))).2.1
   obtain ⟨m164, A165, c166, rfl, q167, r168⟩ := Qi r155
   obtain ⟨m169, A170, c171, rfl, q172, r173⟩ := Qi r157
   obtain ⟨m174, A175, c176, rfl, q177, r178⟩ := Qi r159
   let K7 : List Value := [iV ((gt x0.Done k138).Query.Id), iV ((gt x0.Done k138).Query.Tenant), .slice A165 ((gt x0.Done k138).Query.Conds).length c166, .slice A170 ((gt x0.Done k138).Query.Out).length c171, iV ((gt x0.Done k138).Time), iV ((gt x0.Done k138).Steps), .slice A175 ((gt x0.Done k138).Rows).length c176]
   refine wv (fun W hm => Qae (cs := K7) Qda Qcq rfl rfl (hm.elCells (show (a150.add (k138 * 7)).block < w.heap.size from by rw [Qab]; exact hb151.1) hc153)) ?_
   refine Qbs Qcq rfl (Qk rfl) (by decide) (fun p179 => ?_)
   let K8 : List Value := [.slice A45 x0.Store.Segments.length c46, iV x0.Store.Now, iV x0.Cursor, .slice A50 x0.Order.length c51, .slice A63 d62.length c64, .slice A142 d141.length c143, .slice none 0 0, iV x0.Steps]
   let K9 : List Value := [.slice A12 x0.Store.Segments.length c13, iV x0.Store.Now, iV x0.Cursor, .slice A17 x0.Order.length c18, .slice A22 x0.Active.length c23, .slice (some a150) x0.Done.length c28, .slice A32 x0.Ledger.length c33, iV x0.Steps]
   refine sb 0 K7 [Qh p54 39 K8, iS Qa 3 A50 c51 x0.Order, I16, Qh p42 39 K1, Qh p41 39 K9, iS Qah 61 A63 c64 d62, iS Qax 80 A142 c143 d141] idM Qcq ?_
   refine nt' ?_
   let J19 : List It := [iS Qa 3 A50 c51 x0.Order, I16, Qh p42 39 K1, Qh p41 39 K9, iS Qah 61 A63 c64 d62]
   refine rd2 8 [7] (s := (Qh p179 80 K7 :: J19)) (s2 := (Qh p179 80 K7 :: Qh p54 39 K8 :: J19)) (pk [0, 2, 3, 4, 5, 6]) (pk [0, 1, 2, 3, 4, 5, 6]) ?_
   refine qtD 8 0 1 rfl (vf Qac rfl Qek) ?_
   refine qtD 8 1 3 rfl (vl 1 5 Qch) ?_
   refine qtD 8 2 7 rfl (fun W hm => Qae (cs := K7) Qda Qcq rfl rfl (hm.boxCells (n := 0) rfl)) ?_
   refine qoD 8 3 15 rfl ?_
   refine wcs Qax (gt x0.Done k138) (Qq Qamn rfl) (fun W hm => Qarn W _ (gt x0.Done k138) (Qabi (x := (gt x0.Done k138)) (hm.rdS0 r168) (hm.rdS0 r173) (hm.rdS0 r178)) (s_0.2.2.2.1.2 _ (Qak (show k138 < x0.Done.length from by omega)))) (fun z180 => ?_)
   refine Qabj ?_
   rintro ⟨v181, v182, v183⟩ rfl
   refine fm 0 ?_
   rintro A184 c185 rfl m186
   refine fm 1 ?_
   rintro A188 c189 rfl m190
   refine fm 2 ?_
   rintro A192 c193 rfl m194
   refine qnD (pk [3, 5, 6, 7, 8, 9]) (pk [3, 4, 5, 6, 7, 8, 9]) ?_
   refine qoD 8 4 31 rfl ?_
   let K10 : List Value := [iV ((gt x0.Done k138).Query.Id), iV ((gt x0.Done k138).Query.Tenant), .slice A184 ((gt x0.Done k138).Query.Conds).length c185, .slice A188 ((gt x0.Done k138).Query.Out).length c189, iV ((gt x0.Done k138).Time), iV ((gt x0.Done k138).Steps), .slice A192 ((gt x0.Done k138).Rows).length c193]
   refine Qde (cs := K10) Qch Qcq rfl (by decide) (by decide) rfl (by kernel_rfl) (Qk rfl) (by decide) (fun p196 => ?_)
   refine qnD (pk [4, 6, 7, 8, 9, 10]) (pk [4, 5, 6, 7, 8, 9, 10]) ?_
   refine qoD 8 5 63 rfl ?_
   refine ap1 Qax 80 (.slice A142 d141.length c143) d141 (gt x0.Done k138) [iS Qbk 180 A184 c185 ((gt x0.Done k138).Query.Conds), iS Qa 3 A188 c189 ((gt x0.Done k138).Query.Out), iS Qap 70 A192 c193 ((gt x0.Done k138).Rows)] (Qh p179 80 K7 :: Qh p54 39 K8 :: J19) K10 (pk [0, 11, 1, 2, 3, 4, 5, 6, 7, 8, 9, 10]) (fun _ _ hs => Els.single (Qlt (x := (gt x0.Done k138)) hs)) Qch Qcq (show (d141.length + 1) * 104 ≤ 140737488355328 from by omega) (fun v197 => ?_)
   refine fm 0 ?_
   rintro A198 c199 rfl m200
   refine qnD (pk [1, 3, 4, 5, 6, 7]) (pk [1, 2, 3, 4, 5, 6, 7]) ?_
   refine qtD 8 6 127 rfl (vf Qac rfl Qek) ?_
   refine qoD 8 7 255 rfl ?_
   refine sb 5 [.slice A45 x0.Store.Segments.length c46, iV x0.Store.Now, iV x0.Cursor, .slice A50 x0.Order.length c51, .slice A63 d62.length c64, .slice A198 (d141 ++ [(gt x0.Done k138)]).length c199, .slice none 0 0, iV x0.Steps] (iS Qax 80 A198 c199 (d141 ++ [(gt x0.Done k138)]) :: Qh p179 80 K7 :: J19) (pk [2, 0, 1, 3, 4, 5, 6, 7]) Qek ?_
   refine qxD (pk [2, 3, 4, 5, 6, 7]) ?_
   refine Qec (by kernel_rfl) ?_
   refine Qan (Qe (Qy ?_))
   refine wv (Qal k138 1 (by omega)) ?_
   refine wm (Qad ?_)
   exact Qao (k138 + 1, (d141 ++ [(gt x0.Done k138)]), (A198, c199)) sl6 (pk [0, 3, 4, 5, 6, 7, 1]) ⟨(by omega), nx hF145 (rfl), (show (d141 ++ [(gt x0.Done k138)]).length ≤ 0 + (k138 + 1) from by first | omega | (simp only [List.length_append, List.length_cons, List.length_nil] at *; omega))⟩ rl
  refine Qn rfl g149 ?_
  refine Qay (Qu (Qu ?_))
  have hE203 := Qbg hl148 hF145
  refine Qaz (Qe (Qd (sr ?_)))
  refine wv (vf Qac rfl Qfc) ?_
  refine wv (vl 4 6 Qcv) ?_
  refine wv (Qaf Qcv) ?_
  refine wm (nt' (Qx ?_))
  refine Qdp (fun W hm => (hm.addNil (E := Qav) (e := 102)).last) ?_
  refine Qbf (S := (List Qbb)) (R := Option Addr × Nat) (fun k (s : (List Qbb)) => Qyd x0 k s) x0.Ledger.length 0 [] (none, 0) (fun s => [(2, bp p42), (3, bp p54), (52, .slice A32 x0.Ledger.length c33), (53, nI x0.Ledger.length), (54, nI s.1)]) (fun s => [Qh p54 39 [.slice A45 x0.Store.Segments.length c46, iV x0.Store.Now, iV x0.Cursor, .slice A50 x0.Order.length c51, .slice A63 d62.length c64, .slice A142 d141.length c143, .slice s.2.2.1 s.2.1.length s.2.2.2, iV x0.Steps], iS Qa 3 A50 c51 x0.Order, I16, Qh p42 39 K1, Qh p41 39 K2, iS Qah 61 A63 c64 d62, iS Qax 80 A142 c143 d141, iS Qav 102 s.2.2.1 s.2.2.2 s.2.1]) (fun s => s.2.1.length ≤ 0 + s.1) sl5 (Nat.le_refl _) ?_
  rintro ⟨k204, d207, ⟨A208, c209⟩⟩ H212 _ _ e e'
  dsimp only at H212 ⊢
  subst e e'
  obtain ⟨hk210, hF211, hi213⟩ := H212
  refine sr ?_
  refine wv Qai ?_
  refine nt' (Qd ?_)
  rcases dcl k204 x0.Ledger.length with ⟨hl214, g215⟩ | ⟨hl214, g215⟩
  ·
   refine Ql rfl g215 ?_
   refine Qo (Qe (Qd (Qx (sr ?_))))
   obtain ⟨a216, rfl, hb217, he218⟩ := q34 (by omega)
   refine wv (vix 5 k204 Qcv Qcr) ?_
   obtain ⟨_, e226, hc219⟩ := he218 k204 _ (Qbr (show k204 < x0.Ledger.length from by omega))
   obtain ⟨v220, v222, v224, rfl, r221, r223, r225⟩ := Qjg e226
   have l227 := (s_0.2.2.2.2.2 _ (Qak (show k204 < x0.Ledger.length from by omega))).1
   have l228 := (s_0.2.2.2.2.2 _ (Qak (show k204 < x0.Ledger.length from by omega))).2.1
   have l229 := (s_0.2.2.2.2.2 _ (Qak (show k204 < x0.Ledger.length from by omega))).2.2
   obtain ⟨m230, A231, c232, rfl, q233, r234⟩ := Qi r221
   obtain ⟨m235, A236, c237, rfl, q238, r239⟩ := Qi r223
   obtain ⟨m240, A241, c242, rfl, q243, r244⟩ := Qi r225
   let K11 : List Value := [iV ((gt x0.Ledger k204).Segment), iV ((gt x0.Ledger k204).Base), .slice A231 ((gt x0.Ledger k204).Ids).length c232, .slice A236 ((gt x0.Ledger k204).Tenants).length c237, .slice A241 ((gt x0.Ledger k204).Rows).length c242]
   refine wv (fun W hm => Qae (cs := K11) Qbz Qcr rfl rfl (hm.elCells (show (a216.add (k204 * 5)).block < w.heap.size from by rw [Qab]; exact hb217.1) hc219)) ?_
   refine Qbs Qcr rfl (Qk rfl) (by decide) (fun p245 => ?_)
   let K12 : List Value := [.slice A45 x0.Store.Segments.length c46, iV x0.Store.Now, iV x0.Cursor, .slice A50 x0.Order.length c51, .slice A63 d62.length c64, .slice A142 d141.length c143, .slice A208 d207.length c209, iV x0.Steps]
   let K13 : List Value := [.slice A12 x0.Store.Segments.length c13, iV x0.Store.Now, iV x0.Cursor, .slice A17 x0.Order.length c18, .slice A22 x0.Active.length c23, .slice A27 x0.Done.length c28, .slice (some a216) x0.Ledger.length c33, iV x0.Steps]
   refine sb 0 K11 [Qh p54 39 K12, iS Qa 3 A50 c51 x0.Order, I16, Qh p42 39 K1, Qh p41 39 K13, iS Qah 61 A63 c64 d62, iS Qax 80 A142 c143 d141, iS Qav 102 A208 c209 d207] idM Qcr ?_
   refine nt' ?_
   let J20 : List It := [iS Qa 3 A50 c51 x0.Order, I16, Qh p42 39 K1, Qh p41 39 K13, iS Qah 61 A63 c64 d62, iS Qax 80 A142 c143 d141]
   refine rd2 8 [7] (s := (Qh p245 102 K11 :: J20)) (s2 := (Qh p245 102 K11 :: Qh p54 39 K12 :: J20)) (pk [0, 2, 3, 4, 5, 6, 7]) (pk [0, 1, 2, 3, 4, 5, 6, 7]) ?_
   refine qtD 8 0 1 rfl (vf Qac rfl Qfc) ?_
   refine qtD 8 1 3 rfl (vl 1 6 Qcv) ?_
   refine qtD 8 2 7 rfl (fun W hm => Qae (cs := K11) Qbz Qcr rfl rfl (hm.boxCells (n := 0) rfl)) ?_
   refine qoD 8 3 15 rfl ?_
   refine wcs Qav (gt x0.Ledger k204) (Qq Qamz rfl) (fun W hm => Qarh W _ (gt x0.Ledger k204) (Qqw (x := (gt x0.Ledger k204)) (hm.rdS0 r234) (hm.rdS0 r239) (hm.rdS0 r244)) (s_0.2.2.2.2.2 _ (Qak (show k204 < x0.Ledger.length from by omega)))) (fun z246 => ?_)
   refine Qvt ?_
   rintro ⟨v247, v248, v249⟩ rfl
   refine fm 0 ?_
   rintro A250 c251 rfl m252
   refine fm 1 ?_
   rintro A254 c255 rfl m256
   refine fm 2 ?_
   rintro A258 c259 rfl m260
   refine qnD (pk [3, 5, 6, 7, 8, 9, 10]) (pk [3, 4, 5, 6, 7, 8, 9, 10]) ?_
   refine qoD 8 4 31 rfl ?_
   let K14 : List Value := [iV ((gt x0.Ledger k204).Segment), iV ((gt x0.Ledger k204).Base), .slice A250 ((gt x0.Ledger k204).Ids).length c251, .slice A254 ((gt x0.Ledger k204).Tenants).length c255, .slice A258 ((gt x0.Ledger k204).Rows).length c259]
   refine Qde (cs := K14) Qcv Qcr rfl (by decide) (by decide) rfl (by kernel_rfl) (Qk rfl) (by decide) (fun p262 => ?_)
   refine qnD (pk [4, 6, 7, 8, 9, 10, 11]) (pk [4, 5, 6, 7, 8, 9, 10, 11]) ?_
   refine qoD 8 5 63 rfl ?_
   refine ap1 Qav 102 (.slice A208 d207.length c209) d207 (gt x0.Ledger k204) [iS Qa 3 A250 c251 ((gt x0.Ledger k204).Ids), iS Qa 3 A254 c255 ((gt x0.Ledger k204).Tenants), iS Qa 3 A258 c259 ((gt x0.Ledger k204).Rows)] (Qh p245 102 K11 :: Qh p54 39 K12 :: J20) K14 (pk [0, 12, 1, 2, 3, 4, 5, 6, 7, 8, 9, 10, 11]) (fun _ _ hs => Els.single (Qmp (x := (gt x0.Ledger k204)) hs)) Qcv Qcr (show (d207.length + 1) * 88 ≤ 140737488355328 from by omega) (fun v263 => ?_)
   refine fm 0 ?_
   rintro A264 c265 rfl m266
   refine qnD (pk [1, 3, 4, 5, 6, 7, 8]) (pk [1, 2, 3, 4, 5, 6, 7, 8]) ?_
   refine qtD 8 6 127 rfl (vf Qac rfl Qfc) ?_
   refine qoD 8 7 255 rfl ?_
   refine sb 6 [.slice A45 x0.Store.Segments.length c46, iV x0.Store.Now, iV x0.Cursor, .slice A50 x0.Order.length c51, .slice A63 d62.length c64, .slice A142 d141.length c143, .slice A264 (d207 ++ [(gt x0.Ledger k204)]).length c265, iV x0.Steps] (iS Qav 102 A264 c265 (d207 ++ [(gt x0.Ledger k204)]) :: Qh p245 102 K11 :: J20) (pk [2, 0, 1, 3, 4, 5, 6, 7, 8]) Qfc ?_
   refine qxD (pk [2, 3, 4, 5, 6, 7, 8]) ?_
   refine Qec (by kernel_rfl) ?_
   refine Qan (Qe (Qy ?_))
   refine wv (Qal k204 1 (by omega)) ?_
   refine wm (Qad ?_)
   exact Qao (k204 + 1, (d207 ++ [(gt x0.Ledger k204)]), (A264, c265)) sl5 (pk [0, 3, 4, 5, 6, 7, 8, 1]) ⟨(by omega), nx hF211 (rfl), (show (d207 ++ [(gt x0.Ledger k204)]).length ≤ 0 + (k204 + 1) from by first | omega | (simp only [List.length_append, List.length_cons, List.length_nil] at *; omega))⟩ rl
  refine Qn rfl g215 ?_
  refine Qay (Qu (Qu ?_))
  have hE269 := Qbg hl214 hF211
  refine Qaz (Qe (sr ?_))
  let K15 : List Value := [.slice A45 x0.Store.Segments.length c46, iV x0.Store.Now, iV x0.Cursor, .slice A50 x0.Order.length c51, .slice A63 d62.length c64, .slice A142 d141.length c143, .slice A208 d207.length c209, iV x0.Steps]
  refine wv (fun W hm => Qae (cs := K15) Qac Qbm rfl rfl (hm.boxCells (n := 0) rfl)) ?_
  let J21 : List It := [iS Qah 61 A63 c64 d62, iS Qax 80 A142 c143 d141, iS Qav 102 A208 c209 d207]
  refine sb 0 K15 (Qh p54 39 K15 :: iS Qa 3 A50 c51 x0.Order :: I16 :: Qh p41 39 K2 :: J21) (pk [3, 0, 1, 2, 4, 5, 6, 7]) Qbm ?_
  refine nt' (Qj ?_)
  have he270 := (show Quh x0 = (⟨x0.Store, x0.Cursor, x0.Order, d62, d141, d207, x0.Steps⟩ : Qr) from Qaq hE137 (Qaq hE203 (Qaq hE269 (rfl))))
  refine Qcy rfl (Qdw (n := 0) rfl rfl Qac Qbm rfl) (fun W hm => ⟨K15, ?_, ?_⟩)
  ·first | rw [he270] | rfl
  rw [he270]; exact Mem.join (is := (I16 :: iS Qa 3 A50 c51 x0.Order :: J21)) (js := []) (fun _ _ hs => Qfo (x := (⟨x0.Store, x0.Cursor, x0.Order, d62, d141, d207, x0.Steps⟩ : Qr)) hs) (hm.pick [3, 2, 5, 6, 7] (by decide))
 refine qtD 13 0 1 rfl (vf Qac rfl Qbt) ?_
 refine qtD 13 1 3 rfl (fun W hm => Qae (cs := [.slice A12 x0.Store.Segments.length c13, iV x0.Store.Now]) Qbx Qbt rfl rfl (hm.boxPart (n := 1) rfl rfl)) ?_
 refine qtD 13 3 11 rfl (vf Qac rfl Qf) ?_
 refine qtD 13 4 27 rfl (vl 1 2 Qs) ?_
 refine qtD 13 5 59 rfl (vf Qac rfl Qam) ?_
 refine qtD 13 6 123 rfl (vl 1 3 Qp) ?_
 refine qtD 13 8 379 rfl (vf Qac rfl Qf) ?_
 refine qtD 13 9 891 rfl (vl 1 7 Qs) ?_
 refine qaD [2, 11] ?_
 refine qcD 13 895 rfl ?_ ?_
 ·
  refine wcs Qdn x0.Store (Qq Qxb rfl) (fun W hm => Qyk W _ x0.Store (Qfw (x := x0.Store) (hm.rdS0 r15)) s_0.1) (fun z271 => ?_)
  refine Qjm ?_
  rintro v272 rfl
  refine fm 0 ?_
  rintro A273 c274 rfl m275
  refine qnD (pk [1, 2]) (pk [1, 2]) ?_
  refine qaD [7, 11] ?_
  refine qcD 13 1023 rfl ?_ ?_
  ·
   refine wcl (tSl Qa 3) x0.Order (Qq Qkj rfl) (fun W hm => Qkn W _ x0.Order (hm.rdS0 r20) s_0.2.1) (fun z277 => ?_)
   refine fm 0 ?_
   rintro A278 c279 rfl m280
   refine qnD (pk [2, 3]) (pk [2, 3]) ?_
   refine qtD 13 10 2047 rfl (fun W hm => Qef (cs := [.slice A273 x0.Store.Segments.length c274, iV x0.Store.Now, iV x0.Cursor, .slice A278 x0.Order.length c279, .slice none 0 0, .slice none 0 0, .slice none 0 0, iV x0.Steps]) rfl (by kernel_rfl)) ?_
   refine qoD 13 11 4095 rfl ?_
   refine Qbs Qbm rfl (Qk rfl) (by decide) (fun p282 => ?_)
   refine qnD (pk [3, 4]) (pk [3, 4]) ?_
   exact Qel sl4 idM (H (A273, c274, A278, c279, p282))
  refine qcD 13 2943 rfl ?_ ?_
  ·
   refine Qbs Qbm rfl (Qk rfl) (by decide) (fun p283 => ?_)
   refine qnD (pk [2, 3]) (pk [2, 3]) ?_
   refine qoD 13 7 3071 rfl ?_
   refine wcl (tSl Qa 3) x0.Order (Qq Qkj rfl) (fun W hm => Qkn W _ x0.Order (hm.rdS0 r20) s_0.2.1) (fun z284 => ?_)
   refine fm 0 ?_
   rintro A285 c286 rfl m287
   refine qnD (pk [3, 4]) (pk [3, 4]) ?_
   refine qtD 13 10 4095 rfl (fun W hm => Qef (cs := [.slice A273 x0.Store.Segments.length c274, iV x0.Store.Now, iV x0.Cursor, .slice A285 x0.Order.length c286, .slice none 0 0, .slice none 0 0, .slice none 0 0, iV x0.Steps]) rfl (by kernel_rfl)) ?_
   exact Qel sl4 (pk [1, 0, 2, 3, 4]) (H (A273, c274, A285, c286, p283))
  exact Qfh
 refine qcD 13 2939 rfl ?_ ?_
 ·
  refine Qbs Qbm rfl (Qk rfl) (by decide) (fun p289 => ?_)
  refine qnD (pk [1, 2]) (pk [1, 2]) ?_
  refine qoD 13 2 2943 rfl ?_
  refine wcs Qdn x0.Store (Qq Qxb rfl) (fun W hm => Qyk W _ x0.Store (Qfw (x := x0.Store) (hm.rdS0 r15)) s_0.1) (fun z290 => ?_)
  refine Qjm ?_
  rintro v291 rfl
  refine fm 0 ?_
  rintro A292 c293 rfl m294
  refine qnD (pk [2, 3]) (pk [2, 3]) ?_
  refine qoD 13 7 3071 rfl ?_
  refine wcl (tSl Qa 3) x0.Order (Qq Qkj rfl) (fun W hm => Qkn W _ x0.Order (hm.rdS0 r20) s_0.2.1) (fun z296 => ?_)
  refine fm 0 ?_
  rintro A297 c298 rfl m299
  refine qnD (pk [3, 4]) (pk [3, 4]) ?_
  refine qtD 13 10 4095 rfl (fun W hm => Qef (cs := [.slice A292 x0.Store.Segments.length c293, iV x0.Store.Now, iV x0.Cursor, .slice A297 x0.Order.length c298, .slice none 0 0, .slice none 0 0, .slice none 0 0, iV x0.Steps]) rfl (by kernel_rfl)) ?_
  exact Qel sl4 (pk [2, 0, 1, 3, 4]) (H (A292, c293, A297, c298, p289))
 exact Qfh
theorem Qarl (x0 : Qr) : Quh x0 = x0 := by
 unfold Quh; rw [Qiy (xs := x0.Active) (b := fun k s => Qyb x0 k s) (fun _ _ => rfl), Qiy (xs := x0.Done) (b := fun k s => Qyc x0 k s) (fun _ _ => rfl), Qiy (xs := x0.Ledger) (b := fun k s => Qyd x0 k s) (fun _ _ => rfl)]; rfl
theorem Qark (w : World) (z0 : List Value) (x0 : Qr) (r_0 : Qcf.rd w w.heap.size z0 x0) (s_0 : Qgc 68719476736 x0) :
  Calls Tryz.prog 68 #[.agg z0.toArray] w (rO w Qcf x0) := by
 have h := Qarj w z0 x0 r_0 s_0
 rw [Qarl] at h
 exact h

def Qpu (x0 : Qr) (x1 : Int) (k37 : Nat) : Int ⊕ (Unit) :=
 cond (((gt x0.Active k37).Query.Id) == x1) (Sum.inl ((k37 : Nat) : Int)) (Sum.inr ())
def Qei (x0 : Qr) (x1 : Int) : Int :=
 Sum.elim id (fun (s : Unit) => (-1)) (rng (R := Int) (fun k (_ : Unit) => Qpu x0 x1 k) (x0.Active.length - 0) 0 ())
theorem cb33 : Cb Tryz.prog 33 := ⟨f33, _, func33, rfl, by decide⟩
theorem Qaqm (w : World) (z0 : List Value) (x0 : Qr) (x1 : Int) (r_0 : Qcf.rd w w.heap.size z0 x0) :
  Calls Tryz.prog 33 #[.agg z0.toArray, iV x1] w (rI w (Qei x0 x1)) := by
 obtain ⟨v1, v3, v5, v7, v9, rfl, r2, r4, r6, r8, r10⟩ := Qiq r_0
 obtain ⟨m11, A12, c13, rfl, q14, r15⟩ := Qi r2
 obtain ⟨m16, A17, c18, rfl, q19, r20⟩ := Qi r4
 obtain ⟨m21, A22, c23, rfl, q24, r25⟩ := Qi r6
 obtain ⟨m26, A27, c28, rfl, q29, r30⟩ := Qi r8
 obtain ⟨m31, A32, c33, rfl, q34, r35⟩ := Qi r10
 refine ce2 (L := [(0, .agg #[.slice A12 x0.Store.Segments.length c13, iV x0.Store.Now, iV x0.Cursor, .slice A17 x0.Order.length c18, .slice A22 x0.Active.length c23, .slice A27 x0.Done.length c28, .slice A32 x0.Ledger.length c33, iV x0.Steps]), (1, iV x1)]) (N := 22) func33 ?_
 refine sr ?_
 refine Qbq rfl (Qk rfl) (by decide) (fun p36 => ?_)
 refine wa (nt' (Qd (sr ?_)))
 refine wv (vf Qac rfl Qcz) ?_
 refine wv (vl 0 4 Qaw) ?_
 refine wv (Qaf Qaw) ?_
 refine wm (nt' (Qx ?_))
 refine Qbf (S := Unit) (R := Unit) (fun k (_ : Unit) => Qpu x0 x1 k) x0.Active.length 0 () () (fun s => [(1, iV x1), (8, .slice A22 x0.Active.length c23), (9, nI x0.Active.length), (10, nI s.1)]) (fun s => [Qh p36 39 [.slice A12 x0.Store.Segments.length c13, iV x0.Store.Now, iV x0.Cursor, .slice A17 x0.Order.length c18, .slice A22 x0.Active.length c23, .slice A27 x0.Done.length c28, .slice A32 x0.Ledger.length c33, iV x0.Steps]]) (fun s => True) sl4 trivial ?_
 rintro ⟨k37, ⟨⟩, ⟨⟩⟩ H40 _ _ e e'
 dsimp only at H40 ⊢
 subst e e'
 obtain ⟨hk38, hF39, _⟩ := H40
 refine sr ?_
 refine wv Qai ?_
 refine nt' (Qd ?_)
 rcases dcl k37 x0.Active.length with ⟨hl41, g42⟩ | ⟨hl41, g42⟩
 ·
  refine Ql rfl g42 ?_
  refine Qo (Qe (Qd (Qx (sr (wm ?_)))))
  obtain ⟨a43, rfl, hb44, he45⟩ := q24 (by omega)
  refine wv (vix 10 k37 Qaw Qbd) ?_
  obtain ⟨_, e55, hc46⟩ := he45 k37 _ (Qbr (show k37 < x0.Active.length from by omega))
  obtain ⟨v47, v49, v51, v53, rfl, r48, r50, r52, r54⟩ := Qgj e55
  obtain ⟨m56, A57, c58, rfl, q59, r60⟩ := Qi r48
  obtain ⟨m61, A62, c63, rfl, q64, r65⟩ := Qi r50
  obtain ⟨m66, A67, c68, rfl, q69, r70⟩ := Qi r52
  obtain ⟨m71, A72, c73, rfl, q74, r75⟩ := Qi r54
  let K1 : List Value := [iV ((gt x0.Active k37).Query.Id), iV ((gt x0.Active k37).Query.Tenant), .slice A57 ((gt x0.Active k37).Query.Conds).length c58, .slice A62 ((gt x0.Active k37).Query.Out).length c63, iV ((gt x0.Active k37).Time), .slice A67 ((gt x0.Active k37).Todo).length c68, iV ((gt x0.Active k37).Age), iV ((gt x0.Active k37).Sent), iV ((gt x0.Active k37).Cap), .slice A72 ((gt x0.Active k37).Rows).length c73]
  refine wv (fun W hm => Qae (cs := K1) Qaj Qbd rfl rfl (hm.elCells (show (a43.add (k37 * 10)).block < w.heap.size from by rw [Qab]; exact hb44.1) hc46)) ?_
  refine Qbs Qbd rfl (Qk rfl) (by decide) (fun p76 => ?_)
  refine wa ?_
  refine sb 0 K1 [Qh p36 39 [.slice A12 x0.Store.Segments.length c13, iV x0.Store.Now, iV x0.Cursor, .slice A17 x0.Order.length c18, .slice (some a43) x0.Active.length c23, .slice A27 x0.Done.length c28, .slice A32 x0.Ledger.length c33, iV x0.Steps]] idM Qbd ?_
  refine nt' (sr ?_)
  refine wv (vf Qaj rfl Qbi) ?_
  refine wv (fun W hm => Qea (o := 0) Qbo rfl Qf (by decide) rfl rfl) ?_
  refine wv (vl 0 0 Qs) ?_
  refine wm ?_
  refine wv (fun W hm => Qfa rfl rfl) ?_
  refine nt' ?_
  rcases dce ((gt x0.Active k37).Query.Id) x1 with ⟨h77, g78⟩ | ⟨h77, g78⟩
  ·
   refine Ql rfl g78 ?_
   refine sr (wm (wa (nt' (Qj (Qz (Qg (Qg (Qz (Qg ?_)))))))))
   exact rti (h := Qbe (nr hF39 (Qb g78 (rfl))) rfl)
  refine Qn rfl g78 ?_
  refine Qo (Qan (Qe (Qy ?_)))
  refine wv (Qal k37 1 (by omega)) ?_
  refine wm (Qad ?_)
  exact Qao (k37 + 1, (), ()) sl4 (pk [1]) ⟨(by omega), nx hF39 (Qc g78 (rfl)), trivial⟩ rl
 refine Qn rfl g42 ?_
 refine Qay (Qu (Qu ?_))
 have hE80 := Qbg hl41 hF39
 refine Qaz (Qe (sr (wa (nt' (Qj ?_)))))
 exact rti (h := Qaq hE80 (rfl))

def Qum (x0 : Qas) (x1 : Int) (x2 : Int) (k25 : Nat) (d26 : (List Qaa)) : (List Qaa) ⊕ ((List Qaa)) :=
 cond (Qfy (gt (gt x0.Segments (x1.toNat)) k25) x2) (Sum.inr (d26 ++ [(Qgx (gt (gt x0.Segments (x1.toNat)) k25))])) (Sum.inr d26)
def Qdl (x0 : Qas) (x1 : Int) (x2 : Int) : (List Qaa) :=
 Sum.elim id (fun (s : (List Qaa)) => s) (rng (R := (List Qaa)) (fun k (s : (List Qaa)) => Qum x0 x1 x2 k s) (((gt x0.Segments (x1.toNat))).length - 0) 0 [])
theorem cb69 : Cb Tryz.prog 69 := ⟨f69, _, func69, rfl, by decide⟩
theorem Qase (w : World) (z0 : List Value) (x0 : Qas) (x1 : Int) (x2 : Int) (r_0 : Qdn.rd w w.heap.size z0 x0) (s_0 : Qgs 68719476736 x0) (hx1 : 0 ≤ x1 ∧ x1.toNat < x0.Segments.length) :
  Calls Tryz.prog 69 #[.agg z0.toArray, iV x1, iV x2] w (rL w (tSl Qap 70) (Qdl x0 x1 x2)) := by
 obtain ⟨v1, rfl, r2⟩ := Qjl r_0
 obtain ⟨m3, A4, c5, rfl, q6, r7⟩ := Qi r2
 have l8 : x0.Segments.length ≤ 68719476736 := s_0.1
 refine ce3 (L := [(0, .agg #[.slice A4 x0.Segments.length c5, iV x0.Now]), (1, iV x1), (2, iV x2)]) (N := 31) func69 ?_
 refine sr ?_
 refine Qbq rfl (Qk rfl) (by decide) (fun p9 => ?_)
 refine wa (nt' (sr ?_))
 refine Qce (E := Qap) Qci Qcg (Qk rfl) (by decide) (fun p10 => ?_)
 refine wa (nt' (Qd (sr ?_)))
 refine wv (vf Qbx rfl Qdz) ?_
 refine wv (vl 1 0 Qca) ?_
 refine wm ?_
 obtain ⟨a12, rfl, hb13, he14⟩ := q6 (by omega)
 refine wv (fun W hm => Qgg (sz := 1) (k := x1) Qca Qfg rfl rfl rfl (by omega) (by omega)) ?_
 obtain ⟨_, e16, hc15⟩ := he14 (x1.toNat) _ (Qbr (show (x1.toNat) < x0.Segments.length from by omega))
 have l17 : (gt x0.Segments (x1.toNat)).length ≤ 68719476736 := (s_0.2 _ (Qak (show (x1.toNat) < x0.Segments.length from by omega))).1
 obtain ⟨v18, rfl, r19⟩ := e16
 obtain ⟨m20, A21, c22, rfl, q23, r24⟩ := Qi r19
 refine wv (fun W hm => Qau Qbw rfl rfl ((hm.cell0 (show (a12.add ((x1.toNat) * 1)).block < w.heap.size from by rw [Qab]; exact hb13.1)).trans (hc15 0 _ rfl))) ?_
 refine wv (Qaf Qbw) ?_
 refine wm (nt' (Qx ?_))
 let I3 : It := Qh p9 34 [.slice (some a12) x0.Segments.length c5, iV x0.Now]
 refine Qbf (S := (List Qaa)) (R := Option Addr × Nat) (fun k (s : (List Qaa)) => Qum x0 x1 x2 k s) (((gt x0.Segments (x1.toNat))).length) 0 [] ((sA p10), 0) (fun s => [(2, iV x2), (7, .slice s.2.2.1 s.2.1.length s.2.2.2), (15, .slice A21 ((gt x0.Segments (x1.toNat))).length c22), (16, nI (((gt x0.Segments (x1.toNat))).length)), (17, nI s.1)]) (fun s => [iS Qap 70 s.2.2.1 s.2.2.2 s.2.1, I3]) (fun s => s.2.1.length ≤ 0 + s.1) sl5 (Nat.le_refl _) ?_
 rintro ⟨k25, d26, ⟨A27, c28⟩⟩ H31 _ _ e e'
 dsimp only at H31 ⊢
 subst e e'
 obtain ⟨hk29, hF30, hi32⟩ := H31
 refine sr ?_
 refine wv Qai ?_
 refine nt' (Qd ?_)
 rcases dcl k25 (((gt x0.Segments (x1.toNat))).length) with ⟨hl33, g34⟩ | ⟨hl33, g34⟩
 ·
  refine Ql rfl g34 ?_
  refine Qo (Qe (Qd (Qx (sr ?_))))
  obtain ⟨a35, rfl, hb36, he37⟩ := q23 (by omega)
  refine wv (vix 4 k25 Qbw Qbl) ?_
  obtain ⟨_, e41, hc38⟩ := he37 k25 _ (Qbr (show k25 < ((gt x0.Segments (x1.toNat))).length from by omega))
  obtain ⟨v39, rfl, r40⟩ := Qfx e41
  have l42 : ((gt (gt x0.Segments (x1.toNat)) k25).Values).length ≤ 68719476736 := ((s_0.2 _ (Qak (show (x1.toNat) < x0.Segments.length from by omega))).2 _ (Qak (show k25 < ((gt x0.Segments (x1.toNat))).length from by omega)))
  obtain ⟨m43, A44, c45, rfl, q46, r47⟩ := Qi r40
  let K1 : List Value := [iV ((gt (gt x0.Segments (x1.toNat)) k25).Id), .slice A44 ((gt (gt x0.Segments (x1.toNat)) k25).Values).length c45, iV ((gt (gt x0.Segments (x1.toNat)) k25).Born), iV ((gt (gt x0.Segments (x1.toNat)) k25).Died)]
  refine wv (fun W hm => Qae (cs := K1) Qbn Qbl rfl rfl (hm.elCells (show (a35.add (k25 * 4)).block < w.heap.size from by rw [Qab]; exact hb36.1) hc38)) ?_
  refine Qbs Qbl rfl (Qk rfl) (by decide) (fun p48 => ?_)
  refine sb 0 K1 [iS Qap 70 A27 c28 d26, I3] idM Qbl ?_
  refine nt' (sr ?_)
  refine wv (fun W hm => Qae (cs := K1) Qbn Qbl rfl rfl (hm.boxCells (n := 0) rfl)) ?_
  refine wm ?_
  refine wcv (Qq Qtp rfl) (fun W hm => Quc W _ (gt (gt x0.Segments (x1.toNat)) k25) x2 (Qgu (x := (gt (gt x0.Segments (x1.toNat)) k25)) (hm.rdS0 r47))) ?_
  refine nt' ?_
  rcases bd (Qfy (gt (gt x0.Segments (x1.toNat)) k25) x2) with g50 | g50
  ·
   refine Ql rfl g50 ?_
   refine Qy (wm ?_)
   refine wv (fun W hm => Qae (cs := K1) Qbn Qbl rfl rfl (hm.boxCells (n := 0) rfl)) ?_
   refine wcs Qap (Qgx (gt (gt x0.Segments (x1.toNat)) k25)) (Qq Qadd rfl) (fun W hm => Qafg W _ (gt (gt x0.Segments (x1.toNat)) k25) (Qgu (x := (gt (gt x0.Segments (x1.toNat)) k25)) (hm.rdS0 r47)) ((s_0.2 _ (Qak (show (x1.toNat) < x0.Segments.length from by omega))).2 _ (Qak (show k25 < ((gt x0.Segments (x1.toNat))).length from by omega)))) (fun z51 => ?_)
   refine Qmr ?_
   rintro v52 rfl
   refine fm 0 ?_
   rintro A53 c54 rfl m55
   let K2 : List Value := [iV ((Qgx (gt (gt x0.Segments (x1.toNat)) k25)).Id), .slice A53 ((Qgx (gt (gt x0.Segments (x1.toNat)) k25)).Values).length c54]
   refine Qde (cs := K2) Qci Qcg rfl (by decide) (by decide) rfl (by kernel_rfl) (Qk rfl) (by decide) (fun p57 => ?_)
   refine ap1 Qap 70 (.slice A27 d26.length c28) d26 (Qgx (gt (gt x0.Segments (x1.toNat)) k25)) [iS Qa 3 A53 c54 ((Qgx (gt (gt x0.Segments (x1.toNat)) k25)).Values)] [Qh p48 163 K1, I3] K2 (pk [0, 3, 1, 2, 4]) (fun _ _ hs => Els.single (Qjj (x := (Qgx (gt (gt x0.Segments (x1.toNat)) k25))) hs)) Qci Qcg (show (d26.length + 1) * 32 ≤ 140737488355328 from by omega) (fun v58 => ?_)
   refine fm 0 ?_
   rintro A59 c60 rfl m61
   refine wa (Qad (Qan (Qe (Qy ?_))))
   refine wv (Qal k25 1 (by omega)) ?_
   refine wm (Qad ?_)
   exact Qao (k25 + 1, (d26 ++ [(Qgx (gt (gt x0.Segments (x1.toNat)) k25))]), (A59, c60)) sl5 (pk [0, 2]) ⟨(by omega), nx hF30 (Qb g50 (rfl)), (show (d26 ++ [(Qgx (gt (gt x0.Segments (x1.toNat)) k25))]).length ≤ 0 + (k25 + 1) from by first | omega | (simp only [List.length_append, List.length_cons, List.length_nil] at *; omega))⟩ (show ((gt x0.Segments (x1.toNat))).length - (k25 + 1) < ((gt x0.Segments (x1.toNat))).length - k25 from by omega)
  refine Qn rfl g50 ?_
  refine Qo (Qan (Qe (Qy ?_)))
  refine wv (Qal k25 1 (by omega)) ?_
  refine wm (Qad ?_)
  exact Qao (k25 + 1, d26, (A27, c28)) sl5 (pk [1, 2]) ⟨(by omega), nx hF30 (Qc g50 (rfl)), (show d26.length ≤ 0 + (k25 + 1) from by first | omega | (simp only [List.length_append, List.length_cons, List.length_nil] at *; omega))⟩ (show ((gt x0.Segments (x1.toNat))).length - (k25 + 1) < ((gt x0.Segments (x1.toNat))).length - k25 from by omega)
 refine Qn rfl g34 ?_
 refine Qay (Qu (Qu ?_))
 have hE65 := Qbg hl33 hF30
 refine Qaz (Qe (sr (wm (wa (nt' (Qj ?_))))))
 have he66 := (show Qdl x0 x1 x2 = d26 from Qaq hE65 (rfl))
 refine Qcy rfl (Qdm rfl) (fun W hm => ⟨.slice A27 d26.length c28, ?_, ?_⟩)
 ·first | rw [he66] | rfl
 rw [he66]; exact (hm.pick [0] (by decide))

def Qaex (x0 : Qar) (x1 : Int) (x2 : Int) (k16 : Nat) : Bool ⊕ (Unit) :=
 cond (((gt x0.Conds k16).Field) == x1) (cond (Qcx x2 ((gt x0.Conds k16).Low) ((gt x0.Conds k16).High)) (Sum.inr ()) (Sum.inl false)) (Sum.inr ())
def Qug (x0 : Qar) (x1 : Int) (x2 : Int) : Bool :=
 Sum.elim id (fun (s : Unit) => true) (rng (R := Bool) (fun k (_ : Unit) => Qaex x0 x1 x2 k) (x0.Conds.length - 0) 0 ())
theorem Qana : Cb Tryz.prog 144 := ⟨f144, _, func144, rfl, by decide⟩
theorem Qarb (w : World) (z0 : List Value) (x0 : Qar) (x1 : Int) (x2 : Int) (r_0 : Qcm.rd w w.heap.size z0 x0) :
  Calls Tryz.prog 144 #[.agg z0.toArray, iV x1, iV x2] w (rB w (Qug x0 x1 x2)) := by
 obtain ⟨v1, v3, rfl, r2, r4⟩ := Qis r_0
 obtain ⟨m5, A6, c7, rfl, q8, r9⟩ := Qi r2
 obtain ⟨m10, A11, c12, rfl, q13, r14⟩ := Qi r4
 refine ce3 (L := [(0, .agg #[iV x0.Id, iV x0.Tenant, .slice A6 x0.Conds.length c7, .slice A11 x0.Out.length c12]), (1, iV x1), (2, iV x2)]) (N := 30) func144 ?_
 refine sr ?_
 refine Qbq rfl (Qk rfl) (by decide) (fun p15 => ?_)
 refine wa (nt' (Qd (sr ?_)))
 refine wv (vf Qbo rfl Qfp) ?_
 refine wv (vl 0 2 Qcs) ?_
 refine wv (Qaf Qcs) ?_
 refine wm (nt' (Qx ?_))
 refine Qbf (S := Unit) (R := Unit) (fun k (_ : Unit) => Qaex x0 x1 x2 k) x0.Conds.length 0 () () (fun s => [(1, iV x1), (2, iV x2), (10, .slice A6 x0.Conds.length c7), (11, nI x0.Conds.length), (12, nI s.1)]) (fun s => [Qh p15 58 [iV x0.Id, iV x0.Tenant, .slice A6 x0.Conds.length c7, .slice A11 x0.Out.length c12]]) (fun s => True) sl5 trivial ?_
 rintro ⟨k16, ⟨⟩, ⟨⟩⟩ H19 _ _ e e'
 dsimp only at H19 ⊢
 subst e e'
 obtain ⟨hk17, hF18, _⟩ := H19
 refine sr ?_
 refine wv Qai ?_
 refine nt' (Qd ?_)
 rcases dcl k16 x0.Conds.length with ⟨hl20, g21⟩ | ⟨hl20, g21⟩
 ·
  refine Ql rfl g21 ?_
  refine Qo (Qe (Qd (Qx (sr ?_))))
  obtain ⟨a22, rfl, hb23, he24⟩ := q8 (by omega)
  refine wv (vix 3 k16 Qcs Qds) ?_
  obtain ⟨_, e26, hc25⟩ := he24 k16 _ (Qbr (show k16 < x0.Conds.length from by omega))
  obtain rfl := Qjh e26
  let K1 : List Value := [iV ((gt x0.Conds k16).Field), iV ((gt x0.Conds k16).Low), iV ((gt x0.Conds k16).High)]
  refine wv (fun W hm => Qae (cs := K1) Qdu Qds rfl rfl (hm.elCells (show (a22.add (k16 * 3)).block < w.heap.size from by rw [Qab]; exact hb23.1) hc25)) ?_
  refine Qbs Qds rfl (Qk rfl) (by decide) (fun p27 => ?_)
  refine sb 0 K1 [Qh p15 58 [iV x0.Id, iV x0.Tenant, .slice (some a22) x0.Conds.length c7, .slice A11 x0.Out.length c12]] idM Qds ?_
  refine nt' (sr ?_)
  refine wv (vf Qdu rfl Qf) ?_
  refine wv (vl 0 0 Qs) ?_
  refine wm ?_
  refine wv (fun W hm => Qfa rfl rfl) ?_
  refine wm ?_
  rcases dce ((gt x0.Conds k16).Field) x1 with ⟨h28, g29⟩ | ⟨h28, g29⟩
  ·
   refine wg vmv g29 ?_
   refine wg (vf Qdu rfl Qf) g29 ?_
   refine wg (vl 0 1 Qs) g29 ?_
   refine wg (vf Qdu rfl Qf) g29 ?_
   refine wg (vl 0 2 Qs) g29 ?_
   refine Qct (Qq Qfi rfl) (fun W hm => Qfj W x2 ((gt x0.Conds k16).Low) ((gt x0.Conds k16).High)) (Qcb rfl rfl rfl (bw g29 rfl)) (by decide) ?_
   refine wg Qbp g29 ?_
   refine wv (vpT g29) ?_
   refine nt' ?_
   rcases bd (Qcx x2 ((gt x0.Conds k16).Low) ((gt x0.Conds k16).High)) with g31 | g31
   ·
    have hw := Qfz g31
    refine Qn rfl (nt g31) ?_
    refine Qo (Qan (Qe (Qy ?_)))
    refine wv (Qal k16 1 (by omega)) ?_
    refine wm (Qad ?_)
    exact Qao (k16 + 1, (), ()) sl5 (pk [1]) ⟨(by omega), nx hF18 (Qb g29 (Qb g31 (rfl))), trivial⟩ rl
   refine Ql rfl (nf g31) ?_
   refine sr (wa (nt' (Qj (Qz (Qg (Qg (Qz (Qg ?_))))))))
   exact rtb (h := Qbe (nr hF18 (Qb g29 (Qc g31 (rfl)))) rfl)
  iterate 8 first | refine ws g29 ?_ | refine wv (vpF g29) ?_
  refine nt' ?_
  refine Qn rfl rfl ?_
  refine Qo (Qan (Qe (Qy ?_)))
  refine wv (Qal k16 1 (by omega)) ?_
  refine wm (Qad ?_)
  exact Qao (k16 + 1, (), ()) sl5 (pk [1]) ⟨(by omega), nx hF18 (Qc g29 (rfl)), trivial⟩ rl
 refine Qn rfl g21 ?_
 refine Qay (Qu (Qu ?_))
 have hE34 := Qbg hl20 hF18
 refine Qaz (Qe (sr (wa (nt' (Qj ?_)))))
 exact rtb (h := Qaq hE34 (rfl))

def Qxu (x0 : Qar) (x1 : Qaa) (k28 : Nat) : Bool ⊕ (Unit) :=
 cond (Qug x0 ((k28 : Nat) : Int) (gt x1.Values k28)) (Sum.inr ()) (Sum.inl false)
def Qrm (x0 : Qar) (x1 : Qaa) : Bool :=
 cond (Qme x0) (cond (Qmf x1) (Sum.elim id (fun (s : Unit) => true) (rng (R := Bool) (fun k (_ : Unit) => Qxu x0 x1 k) (x1.Values.length - 0) 0 ())) false) false
theorem cb70 : Cb Tryz.prog 70 := ⟨f70, _, func70, rfl, by decide⟩
theorem Qaqs (w : World) (z0 : List Value) (x0 : Qar) (z1 : List Value) (x1 : Qaa) (r_0 : Qcm.rd w w.heap.size z0 x0) (r_1 : Qap.rd w w.heap.size z1 x1) :
  Calls Tryz.prog 70 #[.agg z0.toArray, .agg z1.toArray] w (rB w (Qrm x0 x1)) := by
 obtain ⟨v1, v3, rfl, r2, r4⟩ := Qis r_0
 obtain ⟨m5, A6, c7, rfl, q8, r9⟩ := Qi r2
 obtain ⟨m10, A11, c12, rfl, q13, r14⟩ := Qi r4
 obtain ⟨v15, rfl, r16⟩ := Qij r_1
 obtain ⟨m17, A18, c19, rfl, q20, r21⟩ := Qi r16
 refine ce2 (L := [(0, .agg #[iV x0.Id, iV x0.Tenant, .slice A6 x0.Conds.length c7, .slice A11 x0.Out.length c12]), (1, .agg #[iV x1.Id, .slice A18 x1.Values.length c19])]) (N := 29) func70 ?_
 refine sr ?_
 refine Qbq rfl (Qk rfl) (by decide) (fun p22 => ?_)
 refine Qbq rfl (Qk rfl) (by decide) (fun p23 => ?_)
 refine wa (nt' (Qd (sr ?_)))
 let K1 : List Value := [iV x0.Id, iV x0.Tenant, .slice A6 x0.Conds.length c7, .slice A11 x0.Out.length c12]
 refine wv (fun W hm => Qae (cs := K1) Qbo Qbi rfl rfl (hm.boxCells (n := 1) rfl)) ?_
 refine wcv (Qq Qwy rfl) (fun W hm => Qxr W _ x0 (Qhd (x := x0) (hm.rdS0 r9) (hm.rdS0 r14))) ?_
 refine wv Qbp ?_
 refine wm ?_
 rcases bd (Qme x0) with g25 | g25
 ·
  refine wg (fun W hm => Qae (cs := [iV x1.Id, .slice A18 x1.Values.length c19]) Qdv Qcg rfl rfl (hm.boxCells (n := 0) rfl)) (nt g25) ?_
  refine Qct (Qq Qxc rfl) (fun W hm => Qxs W _ x1 (Qjk (x := x1) (hm.rdS0 r21))) (Qcb rfl rfl rfl (bw (nt g25) rfl)) (by decide) ?_
  refine wg Qbp (nt g25) ?_
  refine wv (vpF (nt g25)) ?_
  refine nt' ?_
  rcases bd (Qmf x1) with g27 | g27
  ·
   refine Qn rfl (nt g27) ?_
   refine Qo (Qe (Qd (sr ?_)))
   refine wv (vf Qdv rfl Qam) ?_
   refine wv (vl 0 1 Qp) ?_
   refine wv (Qaf Qp) ?_
   refine wm (nt' (Qx ?_))
   refine Qbf (S := Unit) (R := Unit) (fun k (_ : Unit) => Qxu x0 x1 k) x1.Values.length 0 () () (fun s => [(2, bp p22), (16, .slice A18 x1.Values.length c19), (17, nI x1.Values.length), (18, nI s.1)]) (fun s => [Qh p23 70 [iV x1.Id, .slice A18 x1.Values.length c19], Qh p22 58 K1]) (fun s => True) sl4 trivial ?_
   rintro ⟨k28, ⟨⟩, ⟨⟩⟩ H31 _ _ e e'
   dsimp only at H31 ⊢
   subst e e'
   obtain ⟨hk29, hF30, _⟩ := H31
   refine sr ?_
   refine wv Qai ?_
   refine nt' (Qd ?_)
   rcases dcl k28 x1.Values.length with ⟨hl32, g33⟩ | ⟨hl32, g33⟩
   ·
    refine Ql rfl g33 ?_
    refine Qo (Qe (Qd (Qx (sr (wm ?_)))))
    obtain ⟨a34, rfl, hb35, he36⟩ := q20 (by omega)
    refine wv (vix 1 k28 Qp Qf) ?_
    refine wv (fun W hm => Qau Qs rfl rfl ((hm.cell0 (show (a34.add (k28 * 1)).block < w.heap.size from by rw [Qab]; exact hb35.1)).trans (Qdr he36 k28 (by omega)))) ?_
    refine wa (wa (nt' (sr ?_)))
    refine wv (fun W hm => Qae (cs := K1) Qbo Qbi rfl rfl (hm.boxCells (n := 1) rfl)) ?_
    refine wm (wm ?_)
    refine wcv (Qq Qana rfl) (fun W hm => Qarb W _ x0 ((k28 : Nat) : Int) (gt x1.Values k28) (Qhd (x := x0) (hm.rdS0 r9) (hm.rdS0 r14))) ?_
    refine wv Qbp ?_
    refine nt' ?_
    rcases bd (Qug x0 ((k28 : Nat) : Int) (gt x1.Values k28)) with g38 | g38
    ·
     refine Qn rfl (nt g38) ?_
     refine Qo (Qan (Qe (Qy ?_)))
     refine wv (Qal k28 1 (by omega)) ?_
     refine wm (Qad ?_)
     exact Qao (k28 + 1, (), ()) sl4 idM ⟨(by omega), nx hF30 (Qb g38 (rfl)), trivial⟩ rl
    refine Ql rfl (nf g38) ?_
    refine sr (wa (nt' (Qj (Qz (Qg (Qg (Qz (Qg ?_))))))))
    exact rtb (h := Qb g25 (Qb g27 (Qbe (nr hF30 (Qc g38 (rfl))) rfl)))
   refine Qn rfl g33 ?_
   refine Qay (Qu (Qu ?_))
   have hE40 := Qbg hl32 hF30
   refine Qaz (Qe (sr (wa (nt' (Qj ?_)))))
   exact rtb (h := Qb g25 (Qb g27 (Qaq hE40 (rfl))))
  refine Ql rfl (nf g27) ?_
  refine sr (wa (nt' (Qj (Qg ?_))))
  exact rtb (h := Qb g25 (Qc g27 (rfl)))
 refine ws (nf g25) ?_
 refine ws (nf g25) ?_
 refine ws (nf g25) ?_
 refine wv (vpT (nf g25)) ?_
 refine nt' ?_
 refine Ql rfl rfl ?_
 refine sr (wa (nt' (Qj (Qg ?_))))
 exact rtb (h := Qc g25 (rfl))

def Quo (x0 : (List Int)) (x1 : Int) (k9 : Nat) (d10 : (List Int)) : (List Int) ⊕ ((List Int)) :=
 cond ((gt x0 k9) != x1) (Sum.inr (d10 ++ [(gt x0 k9)])) (Sum.inr d10)
def Qlo (x0 : (List Int)) (x1 : Int) : (List Int) :=
 Sum.elim id (fun (s : (List Int)) => s) (rng (R := (List Int)) (fun k (s : (List Int)) => Quo x0 x1 k s) (x0.length - 0) 0 [])
theorem cb71 : Cb Tryz.prog 71 := ⟨f71, _, func71, rfl, by decide⟩
theorem Qasf (w : World) (z0 : Value) (x0 : (List Int)) (x1 : Int) (r_0 : rdS Qa w w.heap.size z0 x0) (s_0 : x0.length ≤ 68719476736) :
  Calls Tryz.prog 71 #[z0, iV x1] w (rL w (tSl Qa 3) (Qlo x0 x1)) := by
 obtain ⟨m1, A2, c3, rfl, q4, r5⟩ := Qi r_0
 have l6 : x0.length ≤ 68719476736 := s_0
 refine ce2 (L := [(0, .slice A2 x0.length c3), (1, iV x1)]) (N := 24) func71 ?_
 refine sr (wa (nt' (sr ?_)))
 refine Qce (E := Qa) Qp Qf (Qk rfl) (by decide) (fun p7 => ?_)
 refine wa (nt' (Qd (sr (wm ?_))))
 refine wv (Qaf Qp) ?_
 refine wm (nt' (Qx ?_))
 refine Qbf (S := (List Int)) (R := Option Addr × Nat) (fun k (s : (List Int)) => Quo x0 x1 k s) x0.length 0 [] ((sA p7), 0) (fun s => [(1, iV x1), (5, .slice s.2.2.1 s.2.1.length s.2.2.2), (9, .slice A2 x0.length c3), (10, nI x0.length), (11, nI s.1)]) (fun s => [iS Qa 3 s.2.2.1 s.2.2.2 s.2.1]) (fun s => s.2.1.length ≤ 0 + s.1) sl5 (Nat.le_refl _) ?_
 rintro ⟨k9, d10, ⟨A11, c12⟩⟩ H15 _ _ e e'
 dsimp only at H15 ⊢
 subst e e'
 obtain ⟨hk13, hF14, hi16⟩ := H15
 refine sr ?_
 refine wv Qai ?_
 refine nt' (Qd ?_)
 rcases dcl k9 x0.length with ⟨hl17, g18⟩ | ⟨hl17, g18⟩
 ·
  refine Ql rfl g18 ?_
  refine Qo (Qe (Qd (Qx (sr ?_))))
  obtain ⟨a19, rfl, hb20, he21⟩ := q4 (by omega)
  refine wv (vix 1 k9 Qp Qf) ?_
  refine wv (fun W hm => Qau Qs rfl rfl ((hm.cell0 (show (a19.add (k9 * 1)).block < w.heap.size from by rw [Qab]; exact hb20.1)).trans (Qdr he21 k9 (by omega)))) ?_
  refine wa (nt' (sr (wm (wm ?_))))
  refine wv Qcj ?_
  refine nt' ?_
  rcases dcn (gt x0 k9) x1 with ⟨h22, g23⟩ | ⟨h22, g23⟩
  ·
   refine Qn rfl g23 ?_
   refine Qo (Qan (Qe (Qy ?_)))
   refine wv (Qal k9 1 (by omega)) ?_
   refine wm (Qad ?_)
   exact Qao (k9 + 1, d10, (A11, c12)) sl5 idM ⟨(by omega), nx hF14 (Qc g23 (rfl)), (show d10.length ≤ 0 + (k9 + 1) from by first | omega | (simp only [List.length_append, List.length_cons, List.length_nil] at *; omega))⟩ rl
  refine Ql rfl g23 ?_
  refine Qy (wm (wm ?_))
  refine Qde (cs := [iV (gt x0 k9)]) Qp Qf rfl (by decide) (by decide) rfl (by kernel_rfl) (Qk rfl) (by decide) (fun p25 => ?_)
  refine ap1 Qa 3 (.slice A11 d10.length c12) d10 (gt x0 k9) [] [] [iV (gt x0 k9)] idM (fun _ _ hs => by cases (Sep.nil hs); exact (Qhn Qck Qho)) Qp Qf (show (d10.length + 1) * 8 ≤ 140737488355328 from by omega) (fun v26 => ?_)
  refine fm 0 ?_
  rintro A27 c28 rfl m29
  refine wa (Qad (Qan (Qe (Qy ?_))))
  refine wv (Qal k9 1 (by omega)) ?_
  refine wm (Qad ?_)
  exact Qao (k9 + 1, (d10 ++ [(gt x0 k9)]), (A27, c28)) sl5 idM ⟨(by omega), nx hF14 (Qb g23 (rfl)), (show (d10 ++ [(gt x0 k9)]).length ≤ 0 + (k9 + 1) from by first | omega | (simp only [List.length_append, List.length_cons, List.length_nil] at *; omega))⟩ rl
 refine Qn rfl g18 ?_
 refine Qay (Qu (Qu ?_))
 have hE32 := Qbg hl17 hF14
 refine Qaz (Qe (sr (wm (wa (nt' (Qj ?_))))))
 have he33 := (show Qlo x0 x1 = d10 from Qaq hE32 (rfl))
 refine Qcy rfl (Qdm rfl) (fun W hm => ⟨.slice A11 d10.length c12, ?_, ?_⟩)
 ·first | rw [he33] | rfl
 rw [he33]; exact hm

def Qyl (x0 : Qt) (x1 : (List Int)) (k14 : Nat) : Bool ⊕ (Unit) :=
 cond (Qfy x0 (gt x1 k14)) (Sum.inl true) (Sum.inr ())
def Qrp (x0 : Qt) (x1 : (List Int)) : Bool :=
 Sum.elim id (fun (s : Unit) => (x0.Died == (-1))) (rng (R := Bool) (fun k (_ : Unit) => Qyl x0 x1 k) (x1.length - 0) 0 ())
theorem Qany : Cb Tryz.prog 196 := ⟨f196, _, func196, rfl, by decide⟩
theorem Qasb (w : World) (z0 : List Value) (x0 : Qt) (z1 : Value) (x1 : (List Int)) (r_0 : Qag.rd w w.heap.size z0 x0) (r_1 : rdS Qa w w.heap.size z1 x1) :
  Calls Tryz.prog 196 #[.agg z0.toArray, z1] w (rB w (Qrp x0 x1)) := by
 obtain ⟨v1, rfl, r2⟩ := Qfx r_0
 obtain ⟨m3, A4, c5, rfl, q6, r7⟩ := Qi r2
 obtain ⟨m8, A9, c10, rfl, q11, r12⟩ := Qi r_1
 refine ce2 (L := [(0, .agg #[iV x0.Id, .slice A4 x0.Values.length c5, iV x0.Born, iV x0.Died]), (1, .slice A9 x1.length c10)]) (N := 20) func196 ?_
 refine sr ?_
 refine Qbq rfl (Qk rfl) (by decide) (fun p13 => ?_)
 refine wa (nt' (Qd (sr (wm ?_))))
 refine wv (Qaf Qp) ?_
 refine wm (nt' (Qx ?_))
 let K1 : List Value := [iV x0.Id, .slice A4 x0.Values.length c5, iV x0.Born, iV x0.Died]
 refine Qbf (S := Unit) (R := Unit) (fun k (_ : Unit) => Qyl x0 x1 k) x1.length 0 () () (fun s => [(2, bp p13), (7, .slice A9 x1.length c10), (8, nI x1.length), (9, nI s.1)]) (fun s => [Qh p13 163 K1]) (fun s => True) sl4 trivial ?_
 rintro ⟨k14, ⟨⟩, ⟨⟩⟩ H17 _ _ e e'
 dsimp only at H17 ⊢
 subst e e'
 obtain ⟨hk15, hF16, _⟩ := H17
 refine sr ?_
 refine wv Qai ?_
 refine nt' (Qd ?_)
 rcases dcl k14 x1.length with ⟨hl18, g19⟩ | ⟨hl18, g19⟩
 ·
  refine Ql rfl g19 ?_
  refine Qo (Qe (Qd (Qx (sr ?_))))
  obtain ⟨a20, rfl, hb21, he22⟩ := q11 (by omega)
  refine wv (vix 1 k14 Qp Qf) ?_
  refine wv (fun W hm => Qau Qs rfl rfl ((hm.cell0 (show (a20.add (k14 * 1)).block < w.heap.size from by rw [Qab]; exact hb21.1)).trans (Qdr he22 k14 (by omega)))) ?_
  refine wa (nt' (sr ?_))
  refine wv (fun W hm => Qae (cs := K1) Qbn Qbl rfl rfl (hm.boxCells (n := 0) rfl)) ?_
  refine wm ?_
  refine wcv (Qq Qtp rfl) (fun W hm => Quc W _ x0 (gt x1 k14) (Qgu (x := x0) (hm.rdS0 r7))) ?_
  refine nt' ?_
  rcases bd (Qfy x0 (gt x1 k14)) with g24 | g24
  ·
   refine Ql rfl g24 ?_
   refine sr (wa (nt' (Qj (Qz (Qg (Qg (Qz (Qg ?_))))))))
   exact rtb (h := Qbe (nr hF16 (Qb g24 (rfl))) rfl)
  refine Qn rfl g24 ?_
  refine Qo (Qan (Qe (Qy ?_)))
  refine wv (Qal k14 1 (by omega)) ?_
  refine wm (Qad ?_)
  exact Qao (k14 + 1, (), ()) sl4 idM ⟨(by omega), nx hF16 (Qc g24 (rfl)), trivial⟩ rl
 refine Qn rfl g19 ?_
 refine Qay (Qu (Qu ?_))
 have hE26 := Qbg hl18 hF16
 refine Qaz (Qe (sr ?_))
 refine wv (vf Qbn rfl Qf) ?_
 refine wv (vl 0 3 Qs) ?_
 refine wv (fun W hm => Qfa rfl rfl) ?_
 refine wa (nt' (Qj ?_))
 exact rtb (h := Qaq hE26 (rfl))

def Qxo (x0 : Qas) (k9 : Nat) (s10 : Int) : Int ⊕ (Int) :=
 Sum.inr (IntKind.i64.wrap (s10 + ((((gt x0.Segments k9)).length : Nat) : Int)))
def Qoh (x0 : Qas) : Int :=
 Sum.elim id (fun (s : Int) => s) (rng (R := Int) (fun k (s : Int) => Qxo x0 k s) (x0.Segments.length - 0) 0 0)
theorem Qads : Cb Tryz.prog 197 := ⟨f197, _, func197, rfl, by decide⟩
theorem Qaer (w : World) (z0 : List Value) (x0 : Qas) (r_0 : Qdn.rd w w.heap.size z0 x0) :
  Calls Tryz.prog 197 #[.agg z0.toArray] w (rI w (Qoh x0)) := by
 obtain ⟨v1, rfl, r2⟩ := Qjl r_0
 obtain ⟨m3, A4, c5, rfl, q6, r7⟩ := Qi r2
 refine ce1 (L := [(0, .agg #[.slice A4 x0.Segments.length c5, iV x0.Now])]) (N := 19) func197 ?_
 refine sr ?_
 refine Qbq rfl (Qk rfl) (by decide) (fun p8 => ?_)
 refine wa (nt' (sr (wa (nt' (Qd (sr ?_))))))
 refine wv (vf Qbx rfl Qdz) ?_
 refine wv (vl 0 0 Qca) ?_
 refine wv (Qaf Qca) ?_
 refine wm (nt' (Qx ?_))
 refine Qbf (S := Int) (R := Unit) (fun k (s : Int) => Qxo x0 k s) x0.Segments.length 0 0 () (fun s => [(3, iV s.2.1), (7, .slice A4 x0.Segments.length c5), (8, nI x0.Segments.length), (9, nI s.1)]) (fun s => [Qh p8 34 [.slice A4 x0.Segments.length c5, iV x0.Now]]) (fun s => True) sl4 trivial ?_
 rintro ⟨k9, s10, ⟨⟩⟩ H13 _ _ e e'
 dsimp only at H13 ⊢
 subst e e'
 obtain ⟨hk11, hF12, _⟩ := H13
 refine sr ?_
 refine wv Qai ?_
 refine nt' (Qd ?_)
 rcases dcl k9 x0.Segments.length with ⟨hl14, g15⟩ | ⟨hl14, g15⟩
 ·
  refine Ql rfl g15 ?_
  refine Qo (Qe (Qd (Qx (sr ?_))))
  obtain ⟨a16, rfl, hb17, he18⟩ := q6 (by omega)
  refine wv (vix 1 k9 Qca Qfg) ?_
  obtain ⟨_, e20, hc19⟩ := he18 k9 _ (Qbr (show k9 < x0.Segments.length from by omega))
  obtain ⟨v21, rfl, r22⟩ := e20
  obtain ⟨m23, A24, c25, rfl, q26, r27⟩ := Qi r22
  refine wv (fun W hm => Qau Qbw rfl rfl ((hm.cell0 (show (a16.add (k9 * 1)).block < w.heap.size from by rw [Qab]; exact hb17.1)).trans (hc19 0 _ rfl))) ?_
  refine wa (nt' (Qy (wm (wm ?_))))
  refine wv (Qaf Qbw) ?_
  refine wv Qcw ?_
  refine wa (Qad (Qan (Qe (Qy ?_))))
  refine wv (Qal k9 1 (by omega)) ?_
  refine wm (Qad ?_)
  exact Qao (k9 + 1, (IntKind.i64.wrap (s10 + ((((gt x0.Segments k9)).length : Nat) : Int))), ()) sl4 idM ⟨(by omega), nx hF12 (rfl), trivial⟩ rl
 refine Qn rfl g15 ?_
 refine Qay (Qu (Qu ?_))
 have hE29 := Qbg hl14 hF12
 refine Qaz (Qe (sr (wm (wa (nt' (Qj ?_))))))
 exact rti (h := Qaq hE29 (rfl))

def Qxv (x1 : (List Int)) (k26 : Nat) (d27 : (List (List Qt))) (k43 : Nat) (d44 : (List Qt)) : (Qas × Int) ⊕ ((List Qt)) :=
 cond (Qrp (gt (gt d27 k26) k43) x1) (Sum.inr (d44 ++ [(gt (gt d27 k26) k43)])) (Sum.inr d44)
def Qud (x1 : (List Int)) (k26 : Nat) (d27 : (List (List Qt))) : (Qas × Int) ⊕ ((List (List Qt))) :=
 Sum.elim Sum.inl (fun (s : (List Qt)) => Sum.inr (d27.set k26 s)) (rng (R := (Qas × Int)) (fun k (s : (List Qt)) => Qxv x1 k26 d27 k s) ((gt d27 k26).length - 0) 0 [])
def Qgn (x0 : Qas) (x1 : (List Int)) : (Qas × Int) :=
 cond (Qln x0) (Sum.elim id (fun (s : (List (List Qt))) => ((⟨s, x0.Now⟩ : Qas), (IntKind.i64.wrap ((Qoh x0) - (Qoh (⟨s, x0.Now⟩ : Qas)))))) (rng (R := (Qas × Int)) (fun k (s : (List (List Qt))) => Qud x1 k s) (x0.Segments.length - 0) 0 x0.Segments)) (x0, 0)
theorem Qanb : Cb Tryz.prog 145 := ⟨f145, _, func145, rfl, by decide⟩
theorem Qaqv (w : World) (z0 : List Value) (x0 : Qas) (z1 : Value) (x1 : (List Int)) (r_0 : Qdn.rd w w.heap.size z0 x0) (r_1 : rdS Qa w w.heap.size z1 x1) (s_0 : Qgs 68719476736 x0) (s_1 : x1.length ≤ 68719476736) :
  Calls Tryz.prog 145 #[.agg z0.toArray, z1] w fun e w' => ∃ v : List Value, e = .returned (.tuple #[.agg v.toArray, iV ((Qgn x0 x1).2)]) ∧ Mem w.heap.size w [Qm Qdn v (Qgn x0 x1).1] w' := by
 obtain ⟨v1, rfl, r2⟩ := Qjl r_0
 obtain ⟨m3, A4, c5, rfl, q6, r7⟩ := Qi r2
 obtain ⟨m8, A9, c10, rfl, q11, r12⟩ := Qi r_1
 have l13 : x0.Segments.length ≤ 68719476736 := s_0.1
 have l14 : x1.length ≤ 68719476736 := s_1
 refine ce2 (L := [(0, .agg #[.slice A4 x0.Segments.length c5, iV x0.Now]), (1, .slice A9 x1.length c10)]) (N := 53) func145 ?_
 refine sr ?_
 refine Qbq rfl (Qk rfl) (by decide) (fun p15 => ?_)
 refine Qbs Qbt rfl (Qk rfl) (by decide) (fun p16 => ?_)
 refine wa (nt' (sr ?_))
 refine wv (fun W hm => Qae (cs := [.slice A4 x0.Segments.length c5, iV x0.Now]) Qbx Qbt rfl rfl (hm.boxCells (n := 1) rfl)) ?_
 refine wcs Qdn x0 (Qq Qxb rfl) (fun W hm => Qyk W _ x0 (Qfw (x := x0) (hm.rdS0 r7)) s_0) (fun z17 => ?_)
 refine Qjm ?_
 rintro v18 rfl
 refine fm 0 ?_
 rintro A19 c20 rfl m21
 refine Qbs Qbt rfl (Qk rfl) (by decide) (fun p23 => ?_)
 let I3 : It := iS (tSl Qag 163) 100 A19 c20 x0.Segments
 let I4 : It := Qh p15 34 [.slice A4 x0.Segments.length c5, iV x0.Now]
 let J10 : List It := [Qh p16 34 [.slice none 0 0, iV 0], I4]
 refine sb 0 [.slice A19 x0.Segments.length c20, iV x0.Now] (I3 :: J10) idM Qbt ?_
 refine nt' (Qd (sr ?_))
 refine wv (fun W hm => Qae (cs := [.slice A4 x0.Segments.length c5, iV x0.Now]) Qbx Qbt rfl rfl (hm.boxCells (n := 3) rfl)) ?_
 refine wcv (Qq Qacv rfl) (fun W hm => Qaeu W _ x0 (Qfw (x := x0) (hm.rdS0 r7)) s_0) ?_
 refine wv Qbp ?_
 refine nt' ?_
 rcases bd (Qln x0) with g25 | g25
 ·
  refine Qn rfl (nt g25) ?_
  refine Qo (Qe (Qd (sr ?_)))
  refine wv (vf Qbx rfl Qdz) ?_
  refine wv (vl 0 0 Qca) ?_
  refine wv (Qaf Qca) ?_
  refine wm (nt' (Qx ?_))
  let I5 : It := Qh p23 34 [.slice A19 x0.Segments.length c20, iV x0.Now]
  refine Qbf (S := (List (List Qt))) (R := Unit) (fun k (s : (List (List Qt))) => Qud x1 k s) x0.Segments.length 0 x0.Segments () (fun s => [(1, .slice A9 x1.length c10), (2, bp p15), (4, bp p16), (6, bp p23), (19, .slice A19 x0.Segments.length c20), (20, nI x0.Segments.length), (21, nI s.1)]) (fun s => (I5 :: Qm (tSl (tSl Qag 163) 100) [.slice A19 x0.Segments.length c20] s.2.1 :: J10)) (fun s => ∀ j, s.1 ≤ j → gt s.2.1 j = gt x0.Segments j) sl7 (fun _ _ => rfl) ?_
  rintro ⟨k26, d27, ⟨⟩⟩ H30 _ _ e e'
  dsimp only at H30 ⊢
  subst e e'
  obtain ⟨hk28, hF29, hi31⟩ := H30
  refine sr ?_
  refine wv Qai ?_
  refine nt' (Qd ?_)
  rcases dcl k26 x0.Segments.length with ⟨hl32, g33⟩ | ⟨hl32, g33⟩
  ·
   have hq1 : (gt d27 k26).length ≤ 68719476736 := by rw [hi31 k26 (Nat.le_refl _)]; exact (s_0.2 _ (Qak (by omega))).1
   refine Ql rfl g33 ?_
   refine Qo (Qe (Qd (Qx (sr (wm ?_)))))
   refine Qht (n := 1) rfl (by omega) ?_
   rintro g34 rfl
   refine wv (vix 1 k26 Qca Qfg) ?_
   let K1 : List Value := [.slice (sA g34) x0.Segments.length c20, iV x0.Now]
   let J11 : List It := Qh p23 34 K1 :: J10
   refine Qjr (E := (tSl Qag 163)) (e := 100) (A := (sA g34)) (n := x0.Segments.length) (c := c20) (xs := d27) (k := k26) (js := J11) (by omega) (pk [1, 0, 2, 3]) (fun ck35 => ?_)
   refine Qit (γ := Value) (js := fun g => [Qm (tSl Qag 163) [g] (gt d27 k26)]) (C := fun g => ck35 = [g]) (fun _ _ h => Qvr h) ?_
   rintro v36 rfl
   refine fm 0 ?_
   rintro A37 c38 rfl m39
   refine wv (fun W hm => Qau Qbw rfl rfl (hm.focInt (i := 1) rfl rfl)) ?_
   refine wa (wa (nt' (sr ?_)))
   refine Qce (E := Qag) Qbw Qbl (Qk rfl) (by decide) (fun p41 => ?_)
   refine wa (nt' (Qd (sr (wm ?_))))
   refine wv (Qaf Qbw) ?_
   refine wm (nt' (Qx ?_))
   refine Qdp (fun W hm => Mem.toRest (hm.pick [1, 0, 2, 3, 4, 5] (by decide))) ?_
   refine Qbf (S := (List Qt)) (R := Option Addr × Nat) (fun k (s : (List Qt)) => Qxv x1 k26 d27 k s) ((gt d27 k26).length) 0 [] ((sA p41), 0) (fun s => [(1, .slice A9 x1.length c10), (2, bp p15), (4, bp p16), (6, bp p23), (7, nI k26), (9, .slice s.2.2.1 s.2.1.length s.2.2.2), (19, .slice (sA g34) x0.Segments.length c20), (20, nI x0.Segments.length), (21, nI k26), (27, .slice A37 (gt d27 k26).length c38), (28, nI ((gt d27 k26).length)), (29, nI s.1)]) (fun s => (Qhe Qag 163 A37 ((gt d27 k26).length) (gt d27 k26) s.1 :: iS Qag 163 s.2.2.1 s.2.2.2 s.2.1 :: Qdf (tSl Qag 163) 100 (sA g34) x0.Segments.length c20 d27 k26 [.slice A37 (gt d27 k26).length c38] :: J11)) (fun s => s.2.1.length ≤ 0 + s.1) Qjx (Nat.le_refl _) ?_
   rintro ⟨k43, d44, ⟨A45, c46⟩⟩ H49 _ _ e e'
   dsimp only at H49 ⊢
   subst e e'
   obtain ⟨hk47, hF48, hi50⟩ := H49
   refine sr ?_
   refine wv Qai ?_
   refine nt' (Qd ?_)
   rcases dcl k43 ((gt d27 k26).length) with ⟨hl51, g52⟩ | ⟨hl51, g52⟩
   ·
    refine Ql rfl g52 ?_
    refine Qo (Qe (Qd (Qx (sr ?_))))
    refine Qrg (n := 0) rfl (by omega) ?_
    rintro g53 rfl
    refine wv (vix 4 k43 Qbw Qbl) ?_
    let I6 : It := Qdf (tSl Qag 163) 100 (sA g34) x0.Segments.length c20 d27 k26 [.slice (sA g53) (gt d27 k26).length c38]
    refine Qrh (E := Qag) (e := 163) (A := (sA g53)) (n := (gt d27 k26).length) (xs := (gt d27 k26)) (k := k43) (js := (iS Qag 163 A45 c46 d44 :: I6 :: J11)) (by omega) idM (fun ck54 => ?_)
    refine Qta ?_
    rintro v55 rfl
    refine fm 0 ?_
    rintro A56 c57 rfl m58
    let K2 : List Value := [iV ((gt (gt d27 k26) k43).Id), .slice A56 ((gt (gt d27 k26) k43).Values).length c57, iV ((gt (gt d27 k26) k43).Born), iV ((gt (gt d27 k26) k43).Died)]
    refine wv (fun W hm => Qae (cs := K2) Qbn Qbl rfl rfl (hm.restCells (i := 1) rfl rfl)) ?_
    refine Qbs Qbl rfl (Qk rfl) (by decide) (fun p60 => ?_)
    let I7 : It := Qil Qag 163 (sA g53) ((gt d27 k26).length) (gt d27 k26) k43 K2
    refine sb 0 K2 (iS Qa 3 A56 c57 ((gt (gt d27 k26) k43).Values) :: I7 :: iS Qag 163 A45 c46 d44 :: I6 :: J11) idM Qbl ?_
    refine nt' (sr ?_)
    refine wv (fun W hm => Qae (cs := K2) Qbn Qbl rfl rfl (hm.boxCells (n := 0) rfl)) ?_
    refine wm ?_
    refine wcv (Qq Qany rfl) (fun W hm => Qasb W _ (gt (gt d27 k26) k43) _ x1 (Qgu (x := (gt (gt d27 k26) k43)) (hm.rdSI (n := 1) rfl)) (hm.rdS0 r12)) ?_
    refine nt' ?_
    rcases bd (Qrp (gt (gt d27 k26) k43) x1) with g62 | g62
    ·
     refine Ql rfl g62 ?_
     refine Qy (wm ?_)
     refine wv (fun W hm => Qae (cs := K2) Qbn Qbl rfl rfl (hm.boxCells (n := 0) rfl)) ?_
     refine Qde (cs := K2) Qbw Qbl rfl (by decide) (by decide) rfl (by kernel_rfl) (Qk rfl) (by decide) (fun p63 => ?_)
     refine ap1 Qag 163 (.slice A45 d44.length c46) d44 (gt (gt d27 k26) k43) [iS Qa 3 A56 c57 ((gt (gt d27 k26) k43).Values)] (Qh p60 163 K2 :: I7 :: I6 :: J11) K2 (pk [0, 4, 2, 1, 3, 5, 6, 7, 8]) (fun _ _ hs => Els.single (Qlf (x := (gt (gt d27 k26) k43)) hs)) Qbw Qbl (show (d44.length + 1) * 48 ≤ 140737488355328 from by omega) (fun v64 => ?_)
     refine fm 0 ?_
     rintro A65 c66 rfl m67
     refine wa (Qad (Qan (Qe (Qy ?_))))
     refine wv (Qal k43 1 (by omega)) ?_
     refine wm (Qad ?_)
     refine Qdd (fun W hm => Mem.restNext (hm.pick [2, 0, 1, 3, 4, 5, 6] (by decide))) ?_
     exact Qao (k43 + 1, (d44 ++ [(gt (gt d27 k26) k43)]), (A65, c66)) Qjx (pk [0, 1, 3, 4, 5, 6]) ⟨(by omega), nx hF48 (Qb g62 (rfl)), (show (d44 ++ [(gt (gt d27 k26) k43)]).length ≤ 0 + (k43 + 1) from by first | omega | (simp only [List.length_append, List.length_cons, List.length_nil] at *; omega))⟩ (show (gt d27 k26).length - (k43 + 1) < (gt d27 k26).length - k43 from by omega)
    refine Qn rfl g62 ?_
    refine Qo (Qan (Qe (Qy ?_)))
    refine wv (Qal k43 1 (by omega)) ?_
    refine wm (Qad ?_)
    refine Qdd (fun W hm => Mem.restNext (hm.pick [2, 0, 1, 3, 4, 5, 6, 7] (by decide))) ?_
    exact Qao (k43 + 1, d44, (A45, c46)) Qjx (pk [0, 3, 4, 5, 6, 7]) ⟨(by omega), nx hF48 (Qc g62 (rfl)), (show d44.length ≤ 0 + (k43 + 1) from by first | omega | (simp only [List.length_append, List.length_cons, List.length_nil] at *; omega))⟩ (show (gt d27 k26).length - (k43 + 1) < (gt d27 k26).length - k43 from by omega)
   refine Qn rfl g52 ?_
   refine Qay (Qu (Qu ?_))
   have hE71 := Qbg hl51 hF48
   refine Qaz (Qe (Qy ?_))
   refine wv (vf Qbx rfl Qdz) ?_
   refine wv (vl 3 0 Qca) ?_
   refine wm (wm ?_)
   refine wv (vix 1 k26 Qca Qfg) ?_
   let I8 : It := Qhe Qag 163 A37 ((gt d27 k26).length) (gt d27 k26) k43
   refine sf 0 1 [.slice A45 d44.length c46] (I8 :: iS Qag 163 A45 c46 d44 :: J11) (pk [2, 0, 1, 3, 4, 5]) Qfg ?_
   refine Qad (Qan (Qe (Qy ?_)))
   refine wv (Qal k26 1 (by omega)) ?_
   refine wm (Qad ?_)
   refine Qdd (fun W hm => Mem.unfocus (Mem.join (is := [iS Qag 163 A45 c46 d44]) (js := (Qdf (tSl Qag 163) 100 (sA g34) x0.Segments.length c20 d27 k26 [.slice A45 d44.length c46] :: (I8 :: J11))) (fun _ _ hs => Sep.one hs) (hm.pick [2, 0, 1, 3, 4, 5] (by decide)))) ?_
   exact Qao (k26 + 1, (d27.set k26 d44), ()) sl7 (pk [2, 0, 3, 4]) ⟨(by omega), nx hF29 (Qaq hE71 (rfl)), (show ∀ j, (k26 + 1) ≤ j → gt (d27.set k26 d44) j = gt x0.Segments j from by intro j hj; rw [Qog (by omega)]; exact hi31 j (by omega))⟩ rl
  refine Qn rfl g33 ?_
  refine Qay (Qu (Qu ?_))
  have hE73 := Qbg hl32 hF29
  refine Qaz (Qe (Qd ?_))
  let I9 : It := Qm (tSl (tSl Qag 163) 100) [.slice A19 x0.Segments.length c20] d27
  refine rb 8 (s := [I5, I9, I4]) (pk [0, 1, 3]) ?_
  refine qt 8 0 1 rfl (fun W hm => Qae (cs := [.slice A19 x0.Segments.length c20, iV x0.Now]) Qbx Qbt rfl rfl (hm.boxCells (n := 0) rfl)) ?_
  refine qt 8 1 3 rfl (fun W hm => Qae (cs := [.slice A4 x0.Segments.length c5, iV x0.Now]) Qbx Qbt rfl rfl (hm.boxCells (n := 2) rfl)) ?_
  refine qt 8 3 11 rfl (fun W hm => Qae (cs := [.slice A19 x0.Segments.length c20, iV x0.Now]) Qbx Qbt rfl rfl (hm.boxCells (n := 0) rfl)) ?_
  refine qo 8 2 15 rfl ?_
  refine wcv (Qq Qads rfl) (fun W hm => Qaer W _ x0 (Qfw (x := x0) (hm.rdS0 r7))) ?_
  refine qn (pk [0, 1, 3]) ?_
  refine qo 8 4 31 rfl ?_
  refine wcv (Qq Qads rfl) (fun W hm => Qaer W _ (⟨d27, x0.Now⟩ : Qas) (Qfw (x := (⟨d27, x0.Now⟩ : Qas)) (hm.rdSI (n := 1) rfl))) ?_
  refine qn (pk [0, 1, 3]) ?_
  refine qt 8 5 63 rfl (fun W hm => Qie rfl rfl) ?_
  refine qo 8 6 127 rfl ?_
  refine sb 0 [.slice A19 x0.Segments.length c20, iV x0.Now] [I5, I9, I4] (pk [2, 0, 1, 3]) Qbt ?_
  refine qn (pk [1, 2, 3]) ?_
  refine qt 8 7 255 rfl (fun W hm => Qiz rfl) ?_
  refine Qec (by kernel_rfl) ?_
  refine Qe (Qj ?_)
  have he74 := (show Qgn x0 x1 = ((⟨d27, x0.Now⟩ : Qas), (IntKind.i64.wrap ((Qoh x0) - (Qoh (⟨d27, x0.Now⟩ : Qas))))) from Qb g25 (Qaq hE73 (rfl)))
  refine Qhw rfl (Qdw (n := 0) rfl rfl Qbx Qbt rfl) (Qdm rfl) (fun W hm => ⟨[.slice A19 x0.Segments.length c20, iV x0.Now], ?_, ?_⟩)
  ·first | rw [he74] | rfl
   try rfl
  rw [he74]; exact Mem.join (is := [I9]) (js := []) (fun _ _ hs => Qms (x := (⟨d27, x0.Now⟩ : Qas)) hs) (hm.pick [2] (by decide))
 refine Ql rfl (nf g25) ?_
 refine sr ?_
 refine wv (fun W hm => Qae (cs := [.slice A19 x0.Segments.length c20, iV x0.Now]) Qbx Qbt rfl rfl (hm.boxCells (n := 0) rfl)) ?_
 refine sb 0 [.slice A19 x0.Segments.length c20, iV x0.Now] [Qh p23 34 [.slice A19 x0.Segments.length c20, iV x0.Now], I3, I4] (pk [2, 0, 1, 3]) Qbt ?_
 refine wa (nt' (Qj (Qg ?_)))
 have he75 := (show Qgn x0 x1 = (x0, 0) from Qc g25 (rfl))
 refine Qhw rfl (Qdw (n := 0) rfl rfl Qbx Qbt rfl) (Qdm rfl) (fun W hm => ⟨[.slice A19 x0.Segments.length c20, iV x0.Now], ?_, ?_⟩)
 ·first | rw [he75] | rfl
  try rfl
 rw [he75]; exact Mem.join (is := [I3]) (js := []) (fun _ _ hs => Qms (x := x0) hs) (hm.pick [2] (by decide))

def Qul (x0 : Qr) (k32 : Nat) (d33 : (List Int)) : Qr ⊕ ((List Int)) :=
 Sum.inr (d33 ++ [(gt x0.Active k32).Time])
def Qfr (x0 : Qr) : Qr :=
 Sum.elim id (fun (s : (List Int)) => (⟨((Qgn x0.Store s).1), x0.Cursor, x0.Order, x0.Active, x0.Done, x0.Ledger, x0.Steps⟩ : Qr)) (rng (R := Qr) (fun k (s : (List Int)) => Qul x0 k s) (x0.Active.length - 0) 0 [])
theorem cb72 : Cb Tryz.prog 72 := ⟨f72, _, func72, rfl, by decide⟩
theorem Qasd (B : Nat) (w0 : World) (is : List It) (w : World) (z0 : List Value) (x0 : Qr) (s_0 : Qgs 68719476736 x0.Store ∧ x0.Active.length ≤ 68719476736) (hm : Mem B w0 (Qm Qcf z0 x0 :: is) w) :
  Calls Tryz.prog 72 #[.agg z0.toArray] w fun e w' => ∃ v : List Value, e = .returned (.agg v.toArray) ∧ Mem B w0 (Qm Qcf v (Qfr x0) :: is) w' := by
 refine Qhz (L := [(0, .agg z0.toArray)]) (N := 29) func72 rfl rfl (Nat.le_of_ble_eq_true rfl) (Qeb rfl Qgw) hm ?_
 refine Qjq (γ := Value × Value × Value × Value × Value) (js := fun g => [Qm (tSl (tSl Qag 163) 100) [g.1] x0.Store.Segments, Qm (tSl Qa 3) [g.2.1] x0.Order, Qm (tSl Qah 61) [g.2.2.1] x0.Active, Qm (tSl Qax 80) [g.2.2.2.1] x0.Done, Qm (tSl Qav 102) [g.2.2.2.2] x0.Ledger]) (C := fun g => z0 = [g.1, iV x0.Store.Now, iV x0.Cursor, g.2.1, g.2.2.1, g.2.2.2.1, g.2.2.2.2, iV x0.Steps]) (fun _ _ h => Qqx h) ?_
 rintro ⟨v1, v2, v3, v4, v5⟩ rfl
 refine Qdc (n := 0) rfl ?_
 rintro A6 c7 rfl m8
 refine Qdc (n := 1) rfl ?_
 rintro A10 c11 rfl m12
 refine Qdc (n := 2) rfl ?_
 rintro A14 c15 rfl m16
 refine Qdc (n := 3) rfl ?_
 rintro A18 c19 rfl m20
 refine Qdc (n := 4) rfl ?_
 rintro A22 c23 rfl m24
 have l26 : x0.Store.Segments.length ≤ 68719476736 := s_0.1.1
 have l27 : x0.Active.length ≤ 68719476736 := s_0.2
 refine sr ?_
 refine Qbq rfl (Qk rfl) (by decide) (fun p28 => ?_)
 refine Qbs Qbm rfl (Qk rfl) (by decide) (fun p29 => ?_)
 refine nt' (sr ?_)
 refine Qce (E := Qa) Qp Qf (Qk rfl) (by decide) (fun p30 => ?_)
 refine wa (nt' (Qd (sr ?_)))
 refine wv (vf Qac rfl Qcz) ?_
 refine wv (vl 2 4 Qaw) ?_
 refine wv (Qaf Qaw) ?_
 refine wm (nt' (Qx ?_))
 let K1 : List Value := [.slice none 0 0, iV 0, iV 0, .slice none 0 0, .slice none 0 0, .slice none 0 0, .slice none 0 0, iV 0]
 let I5 : It := iS (tSl Qag 163) 100 A6 c7 x0.Store.Segments
 let J9 : List It := iS Qax 80 A18 c19 x0.Done :: iS Qav 102 A22 c23 x0.Ledger :: is
 refine Qbf (S := (List Int)) (R := Option Addr × Nat) (fun k (s : (List Int)) => Qul x0 k s) x0.Active.length 0 [] ((sA p30), 0) (fun s => [(1, bp p28), (2, bp p29), (3, .slice s.2.2.1 s.2.1.length s.2.2.2), (8, .slice A14 x0.Active.length c15), (9, nI x0.Active.length), (10, nI s.1)]) (fun s => (iS Qa 3 s.2.2.1 s.2.2.2 s.2.1 :: Qh p29 39 K1 :: Qh p28 39 [.slice A6 x0.Store.Segments.length c7, iV x0.Store.Now, iV x0.Cursor, .slice A10 x0.Order.length c11, .slice A14 x0.Active.length c15, .slice A18 x0.Done.length c19, .slice A22 x0.Ledger.length c23, iV x0.Steps] :: I5 :: iS Qa 3 A10 c11 x0.Order :: iS Qah 61 A14 c15 x0.Active :: J9)) (fun s => s.2.1.length ≤ 0 + s.1) sl6 (Nat.le_refl _) ?_
 rintro ⟨k32, d33, ⟨A34, c35⟩⟩ H38 _ _ e e'
 dsimp only at H38 ⊢
 subst e e'
 obtain ⟨hk36, hF37, hi39⟩ := H38
 refine sr ?_
 refine wv Qai ?_
 refine nt' (Qd ?_)
 rcases dcl k32 x0.Active.length with ⟨hl40, g41⟩ | ⟨hl40, g41⟩
 ·
  refine Ql rfl g41 ?_
  refine Qo (Qe (Qd (Qx (sr ?_))))
  refine Qht (n := 5) rfl (by omega) ?_
  rintro g42 rfl
  refine wv (vix 10 k32 Qaw Qbd) ?_
  let K2 : List Value := [.slice A6 x0.Store.Segments.length c7, iV x0.Store.Now, iV x0.Cursor, .slice A10 x0.Order.length c11, .slice (sA g42) x0.Active.length c15, .slice A18 x0.Done.length c19, .slice A22 x0.Ledger.length c23, iV x0.Steps]
  let J10 : List It := Qh p29 39 K1 :: Qh p28 39 K2 :: I5 :: iS Qa 3 A10 c11 x0.Order :: J9
  refine Qjr (E := Qah) (e := 61) (A := (sA g42)) (n := x0.Active.length) (c := c15) (xs := x0.Active) (k := k32) (js := (iS Qa 3 A34 c35 d33 :: J10)) (by omega) (fun W hm => (hm.front (n := 5) rfl)) (fun ck43 => ?_)
  refine Qod ?_
  rintro ⟨v44, v45, v46, v47⟩ rfl
  refine fm 0 ?_
  rintro A48 c49 rfl m50
  refine fm 1 ?_
  rintro A52 c53 rfl m54
  refine fm 2 ?_
  rintro A56 c57 rfl m58
  refine fm 3 ?_
  rintro A60 c61 rfl m62
  let K3 : List Value := [iV ((gt x0.Active k32).Query.Id), iV ((gt x0.Active k32).Query.Tenant), .slice A48 ((gt x0.Active k32).Query.Conds).length c49, .slice A52 ((gt x0.Active k32).Query.Out).length c53, iV ((gt x0.Active k32).Time), .slice A56 ((gt x0.Active k32).Todo).length c57, iV ((gt x0.Active k32).Age), iV ((gt x0.Active k32).Sent), iV ((gt x0.Active k32).Cap), .slice A60 ((gt x0.Active k32).Rows).length c61]
  refine wv (fun W hm => Qae (cs := K3) Qaj Qbd rfl rfl (hm.focCells (i := 4) rfl rfl)) ?_
  refine Qbs Qbd rfl (Qk rfl) (by decide) (fun p64 => ?_)
  refine Qgv (p := p64) (o := 0) (cs' := K3) (fun w hm => hm.front (n := 0) rfl) Qbd rfl (Nat.le_of_ble_eq_true rfl) rfl rfl rfl rfl (Qk rfl) ?_
  refine nt' (Qy (wm ?_))
  refine wv (vf Qaj rfl Qf) ?_
  refine wv (vl 0 4 Qs) ?_
  refine Qde (cs := [iV ((gt x0.Active k32).Time)]) Qp Qf rfl (by decide) (by decide) rfl (by kernel_rfl) (Qk rfl) (by decide) (fun p65 => ?_)
  let I6 : It := iS Qbk 180 A48 c49 ((gt x0.Active k32).Query.Conds)
  let I7 : It := iS Qa 3 A52 c53 ((gt x0.Active k32).Query.Out)
  let I8 : It := Qdf Qah 61 (sA g42) x0.Active.length c15 x0.Active k32 K3
  refine ap1 Qa 3 (.slice A34 d33.length c35) d33 ((gt x0.Active k32).Time) [] (Qh p64 61 K3 :: I6 :: I7 :: iS Qa 3 A56 c57 ((gt x0.Active k32).Todo) :: iS Qap 70 A60 c61 ((gt x0.Active k32).Rows) :: I8 :: J10) [iV ((gt x0.Active k32).Time)] (fun W hm => ((hm.front (n := 7) rfl).front (n := 1) rfl)) (fun _ _ hs => by cases (Sep.nil hs); exact (Qhn Qck Qho)) Qp Qf (show (d33.length + 1) * 8 ≤ 140737488355328 from by omega) (fun v66 => ?_)
  refine fm 0 ?_
  rintro A67 c68 rfl m69
  refine wa (Qad (Qan (Qe (Qy ?_))))
  refine wv (Qal k32 1 (by omega)) ?_
  refine wm (Qad ?_)
  refine Qdd (fun W hm => Mem.unfocus0 (Mem.join (is := [I6, I7, iS Qa 3 A56 c57 ((gt x0.Active k32).Todo), iS Qap 70 A60 c61 ((gt x0.Active k32).Rows)]) (js := (I8 :: (iS Qa 3 A67 c68 (d33 ++ [(gt x0.Active k32).Time]) :: Qh p64 61 K3 :: J10))) (fun _ _ hs => Qhl (x := (gt x0.Active k32)) hs) (hm.pickN 13 [2, 3, 4, 5, 6, 0, 1, 7, 8, 9, 10, 11, 12] (by decide)))) ?_
  exact Qao (k32 + 1, (d33 ++ [(gt x0.Active k32).Time]), (A67, c68)) sl6 (pn 9 [1, 3, 4, 5, 6, 0, 7, 8]) ⟨(by omega), nx hF37 (rfl), (show (d33 ++ [(gt x0.Active k32).Time]).length ≤ 0 + (k32 + 1) from by first | omega | (simp only [List.length_append, List.length_cons, List.length_nil] at *; omega))⟩ rl
 refine Qn rfl g41 ?_
 refine Qay (Qu (Qu ?_))
 have hE72 := Qbg hl40 hF37
 refine Qaz (Qe (sr ?_))
 refine wv (vf Qac rfl Qbt) ?_
 refine wv (fun W hm => Qae (cs := [.slice A6 x0.Store.Segments.length c7, iV x0.Store.Now]) Qbx Qbt rfl rfl (hm.boxPart (n := 2) rfl rfl)) ?_
 refine wm ?_
 refine Qnb (χ := List Value) (val := fun x => .tuple #[.agg x.toArray, iV ((Qgn x0.Store d33).2)]) (js := fun x => [Qm Qdn x ((Qgn x0.Store d33).1)]) (Qq Qanb rfl) (fun W hm => Qaqv W _ x0.Store _ d33 (Qfw (x := x0.Store) (hm.rdSI (n := 3) rfl)) (hm.rdSI (n := 0) rfl) s_0.1 (show _ ≤ 68719476736 from by omega)) (Qk rfl) (by decide) (fun z73 => ?_)
 refine Qjm ?_
 rintro v74 rfl
 refine fm 0 ?_
 rintro A75 c76 rfl m77
 refine wm ?_
 refine wv (fun W hm => Qjw rfl rfl) ?_
 refine wv (fun W hm => Qjw rfl rfl) ?_
 refine wv (vf Qac rfl Qbt) ?_
 let K4 : List Value := [.slice A75 (((Qgn x0.Store d33).1).Segments).length c76, iV (((Qgn x0.Store d33).1).Now), iV x0.Cursor, .slice A10 x0.Order.length c11, .slice A14 x0.Active.length c15, .slice A18 x0.Done.length c19, .slice A22 x0.Ledger.length c23, iV x0.Steps]
 refine Qgv (p := p28) (o := 0) (cs' := K4) (fun w hm => hm.front (n := 3) rfl) Qbt rfl (Nat.le_of_ble_eq_true rfl) rfl rfl rfl rfl (Qk rfl) ?_
 refine nt' (sr ?_)
 refine wv (fun W hm => Qae (cs := K4) Qac Qbm rfl rfl (hm.boxCells (n := 0) rfl)) ?_
 refine Qgv (p := p29) (o := 0) (cs' := K4) (fun w hm => hm.front (n := 3) rfl) Qbm rfl (Nat.le_of_ble_eq_true rfl) rfl rfl rfl rfl (Qk rfl) ?_
 refine nt' (Qj ?_)
 have he79 := (show Qfr x0 = (⟨((Qgn x0.Store d33).1), x0.Cursor, x0.Order, x0.Active, x0.Done, x0.Ledger, x0.Steps⟩ : Qr) from Qaq hE72 (rfl))
 refine Qcy rfl (Qdw (n := 0) rfl rfl Qac Qbm rfl) (fun W hm => ⟨K4, ?_, ?_⟩)
 ·first | rw [he79] | rfl
 rw [he79]; exact Mem.join (is := [iS (tSl Qag 163) 100 A75 c76 (((Qgn x0.Store d33).1).Segments), iS Qa 3 A10 c11 x0.Order, iS Qah 61 A14 c15 x0.Active, iS Qax 80 A18 c19 x0.Done, iS Qav 102 A22 c23 x0.Ledger]) (js := is) (fun _ _ hs => Qfo (x := (⟨((Qgn x0.Store d33).1), x0.Cursor, x0.Order, x0.Active, x0.Done, x0.Ledger, x0.Steps⟩ : Qr)) hs) (hm.pickN 9 [2, 5, 6, 7, 8] (by decide))

end Go.Proofs.YtdlminfjdodjoaaGreat
