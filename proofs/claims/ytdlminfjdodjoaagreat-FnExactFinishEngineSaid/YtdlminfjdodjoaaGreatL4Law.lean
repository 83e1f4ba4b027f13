/-
  The contract of the law.
-/
import Derived.Test.YtdlminfjdodjoaaGreatL4Pl
namespace Go.Proofs.YtdlminfjdodjoaaGreat
open Go.RowKit
set_option maxRecDepth 100000
set_option maxHeartbeats 4000000
open _root_.Go.Proofs.Tryz
def Qyy (x0 : Qo) : Bool :=
 cond (decide ((Qqj x0 1048576) < 0)) true (cond (Qmm (Qdy (Qca x0)) (Qob (Qca x0))) (cond (Qmm (Qca x0) (Qca x0)) (cond (decide ((Qcn (Qca x0) 1).1 < 0)) false (cond (decide ((Qnq (⟨(⟨(Qcn (Qdy (Qca x0)) 1).2.Store.Segments, (Qdy (Qca x0)).Store.Now⟩ : Qau), (Qdy (Qca x0)).Cursor, (Qcn (Qdy (Qca x0)) 1).2.Order, (Qcn (Qdy (Qca x0)) 1).2.Active, (Qcn (Qdy (Qca x0)) 1).2.Done, (Qcn (Qdy (Qca x0)) 1).2.Ledger, (Qdy (Qca x0)).Steps⟩ : Qo) 1) < 0)) false (cond ((Qnq (⟨(⟨(Qcn (Qdy (Qca x0)) 1).2.Store.Segments, (Qdy (Qca x0)).Store.Now⟩ : Qau), (Qdy (Qca x0)).Cursor, (Qcn (Qdy (Qca x0)) 1).2.Order, (Qcn (Qdy (Qca x0)) 1).2.Active, (Qcn (Qdy (Qca x0)) 1).2.Done, (Qcn (Qdy (Qca x0)) 1).2.Ledger, (Qdy (Qca x0)).Steps⟩ : Qo) 1) != ((Qcn (Qdy (Qca x0)) 1).1)) false (cond (Qmm (Qdy (Qca x0)) (Qob (Qca x0))) true false)))) false) false)
theorem cb4 : Cb Tryz.prog 4 := ⟨f4, _, func4, rfl, by decide⟩
theorem Qaup (w : World) (z0 : List Value) (x0 : Qo) (r_0 : Qpd.rd w w.heap.size z0 x0) :
  Calls Tryz.prog 4 #[.agg z0.toArray] w (rB w (Qyy x0)) := by
 have ok0 := (Qaiw r_0)
 obtain ⟨v1, v3, v5, v7, v9, rfl, r2, r4, r6, r8, r10⟩ := Qabs r_0
 obtain ⟨m11, A12, c13, rfl, q14, r15⟩ := Qi r2
 obtain ⟨m16, A17, c18, rfl, q19, r20⟩ := Qi r4
 obtain ⟨m21, A22, c23, rfl, q24, r25⟩ := Qi r6
 obtain ⟨m26, A27, c28, rfl, q29, r30⟩ := Qi r8
 obtain ⟨m31, A32, c33, rfl, q34, r35⟩ := Qi r10
 refine ce1 (L := [(0, .agg #[.slice A12 x0.Store.Segments.length c13, iV x0.Store.Now, iV x0.Cursor, .slice A17 x0.Order.length c18, .slice A22 x0.Active.length c23, .slice A27 x0.Done.length c28, .slice A32 x0.Ledger.length c33, iV x0.Steps])]) (N := 69) func4 ?_
 refine sr ?_
 refine Qbn rfl (Qk rfl) (by decide) (fun p36 => ?_)
 refine wa (nt' (sr (wa (nt' (sr ?_)))))
 let K1 : List Value := [.slice A12 x0.Store.Segments.length c13, iV x0.Store.Now, iV x0.Cursor, .slice A17 x0.Order.length c18, .slice A22 x0.Active.length c23, .slice A27 x0.Done.length c28, .slice A32 x0.Ledger.length c33, iV x0.Steps]
 refine wv (fun W hm => Qad (cs := K1) Qib type30 rfl rfl (hm.boxCells (n := 0) rfl)) ?_
 refine wm ?_
 refine wcv (Qr cb9 rfl) (fun W hm => Qaxa W _ x0 1048576 (Qtd (x := x0) (hm.rdS0 r15) (hm.rdS0 r20) (hm.rdS0 r25) (hm.rdS0 r30) (hm.rdS0 r35))) ?_
 refine wa (nt' (Qe (sr (wm ?_))))
 refine wv Qai ?_
 refine nt' ?_
 rcases dcd ((Qqj x0 1048576) < 0) with ⟨h37, g38⟩ | ⟨h37, g38⟩
 ·
  refine Ql rfl g38 ?_
  refine sr (wa (nt' (Qj (Qg ?_))))
  exact rtb (h := Qb g38 (rfl))
 obtain ⟨hz0, hy0, hw0⟩ := Qaip Qagm ok0 (by omega) (by omega) g38
 refine Qm rfl g38 ?_
 refine Qp (Qd (sr ?_))
 refine wv (fun W hm => Qad (cs := K1) Qib type30 rfl rfl (hm.boxCells (n := 0) rfl)) ?_
 refine wcs Qcb (Qca x0) (Qr Qtr rfl) (fun W hm => Quv W _ x0 (Qtd (x := x0) (hm.rdS0 r15) (hm.rdS0 r20) (hm.rdS0 r25) (hm.rdS0 r30) (hm.rdS0 r35)) (Qow (by omega))) (fun z39 => ?_)
 refine Qhf ?_
 rintro ⟨v40, v41, v42, v43, v44⟩ rfl
 refine fm 0 ?_
 rintro A45 c46 rfl m47
 refine fm 1 ?_
 rintro A49 c50 rfl m51
 refine fm 2 ?_
 rintro A53 c54 rfl m55
 refine fm 3 ?_
 rintro A57 c58 rfl m59
 refine fm 4 ?_
 rintro A61 c62 rfl m63
 refine wcs Qcb (Qob (Qca x0)) (Qr cb16 rfl) (fun W hm => Qbau W _ (Qca x0) (Qep (x := (Qca x0)) (hm.rdSI (n := 0) rfl) (hm.rdSI (n := 1) rfl) (hm.rdSI (n := 2) rfl) (hm.rdSI (n := 3) rfl) (hm.rdSI (n := 4) rfl)) (by rw [Quw]; exact (Qow (by omega)))) (fun z65 => ?_)
 obtain ⟨G66, hG66⟩ : ∃ G, G = (Qob (Qca x0)) := ⟨_, rfl⟩
 rw [← hG66]
 refine Qhf ?_
 rintro ⟨v67, v68, v69, v70, v71⟩ rfl
 refine fm 0 ?_
 rintro A72 c73 rfl m74
 refine fm 1 ?_
 rintro A76 c77 rfl m78
 refine fm 2 ?_
 rintro A80 c81 rfl m82
 refine fm 3 ?_
 rintro A84 c85 rfl m86
 refine fm 4 ?_
 rintro A88 c89 rfl m90
 refine Qbm Qbd rfl (Qk rfl) (by decide) (fun p92 => ?_)
 let K2 : List Value := [.slice A72 G66.Store.Segments.length c73, iV G66.Store.Now, iV G66.Cursor, .slice A76 G66.Order.length c77, .slice A80 G66.Active.length c81, .slice A84 G66.Done.length c85, .slice A88 G66.Ledger.length c89, iV G66.Steps]
 let I6 : It := iS (tSl Qaf 163) 100 A72 c73 G66.Store.Segments
 refine sb 0 K2 [I6, iS Qa 3 A76 c77 G66.Order, iS Qah 61 A80 c81 G66.Active, iS Qas 80 A84 c85 G66.Done, iS Qaq 102 A88 c89 G66.Ledger, iS (tSl Qaf 163) 100 A45 c46 ((Qca x0).Store.Segments), iS Qa 3 A49 c50 ((Qca x0).Order), iS Qah 61 A53 c54 ((Qca x0).Active), iS Qas 80 A57 c58 ((Qca x0).Done), iS Qaq 102 A61 c62 ((Qca x0).Ledger), Qh p36 30 K1] idM Qbd ?_
 refine nt' (Qe ?_)
 refine Qdw (pk [0, 1, 2, 3, 4, 5, 11]) ?_
 refine Qy ?_
 refine wv (fun W hm => Qad (cs := K1) Qib type30 rfl rfl (hm.boxCells (n := 6) rfl)) ?_
 refine wcs Qcb (Qca x0) (Qr Qtr rfl) (fun W hm => Quv W _ x0 (Qtd (x := x0) (hm.rdS0 r15) (hm.rdS0 r20) (hm.rdS0 r25) (hm.rdS0 r30) (hm.rdS0 r35)) (Qow (by omega))) (fun z93 => ?_)
 refine Qhf ?_
 rintro ⟨v94, v95, v96, v97, v98⟩ rfl
 refine fm 0 ?_
 rintro A99 c100 rfl m101
 refine fm 1 ?_
 rintro A103 c104 rfl m105
 refine fm 2 ?_
 rintro A107 c108 rfl m109
 refine fm 3 ?_
 rintro A111 c112 rfl m113
 refine fm 4 ?_
 rintro A115 c116 rfl m117
 refine Qbm Qbd rfl (Qk rfl) (by decide) (fun p119 => ?_)
 let K3 : List Value := [.slice A99 ((Qca x0).Store.Segments).length c100, iV ((Qca x0).Store.Now), iV ((Qca x0).Cursor), .slice A103 ((Qca x0).Order).length c104, .slice A107 ((Qca x0).Active).length c108, .slice A111 ((Qca x0).Done).length c112, .slice A115 ((Qca x0).Ledger).length c116, iV ((Qca x0).Steps)]
 let I7 : It := iS (tSl Qaf 163) 100 A99 c100 ((Qca x0).Store.Segments)
 let I8 : It := iS Qa 3 A103 c104 ((Qca x0).Order)
 let I9 : It := iS Qah 61 A107 c108 ((Qca x0).Active)
 let I10 : It := iS Qas 80 A111 c112 ((Qca x0).Done)
 let I11 : It := iS Qaq 102 A115 c116 ((Qca x0).Ledger)
 let J13 : List It := [Qh p92 39 K2, I6, iS Qa 3 A76 c77 G66.Order, iS Qah 61 A80 c81 G66.Active, iS Qas 80 A84 c85 G66.Done, iS Qaq 102 A88 c89 G66.Ledger, Qh p36 30 K1]
 let J14 : List It := I7 :: I8 :: I9 :: I10 :: I11 :: J13
 refine sb 0 K3 J14 idM Qbd ?_
 refine nt' (sr ?_)
 refine wv (fun W hm => Qad (cs := K3) Qz Qbd rfl rfl (hm.boxCells (n := 0) rfl)) ?_
 refine wcs Qcb (Qdy (Qca x0)) (Qr cb17 rfl) (fun W hm => Qaff W _ (Qca x0) (Qep (x := (Qca x0)) (hm.rdSI (n := 1) rfl) (hm.rdSI (n := 2) rfl) (hm.rdSI (n := 3) rfl) (hm.rdSI (n := 4) rfl) (hm.rdSI (n := 5) rfl)) (by rw [Quw]; exact (Qow (by omega)))) (fun z120 => ?_)
 obtain ⟨G121, hG121⟩ : ∃ G, G = (Qdy (Qca x0)) := ⟨_, rfl⟩
 rw [← hG121]
 refine Qhf ?_
 rintro ⟨v122, v123, v124, v125, v126⟩ rfl
 refine fm 0 ?_
 rintro A127 c128 rfl m129
 refine fm 1 ?_
 rintro A131 c132 rfl m133
 refine fm 2 ?_
 rintro A135 c136 rfl m137
 refine fm 3 ?_
 rintro A139 c140 rfl m141
 refine fm 4 ?_
 rintro A143 c144 rfl m145
 refine Qbm Qbd rfl (Qk rfl) (by decide) (fun p147 => ?_)
 let K4 : List Value := [.slice A127 G121.Store.Segments.length c128, iV G121.Store.Now, iV G121.Cursor, .slice A131 G121.Order.length c132, .slice A135 G121.Active.length c136, .slice A139 G121.Done.length c140, .slice A143 G121.Ledger.length c144, iV G121.Steps]
 let I12 : It := iS (tSl Qaf 163) 100 A127 c128 G121.Store.Segments
 let J15 : List It := I12 :: iS Qa 3 A131 c132 G121.Order :: iS Qah 61 A135 c136 G121.Active :: iS Qas 80 A139 c140 G121.Done :: iS Qaq 102 A143 c144 G121.Ledger :: Qh p119 39 K3 :: J14
 refine sb 0 K4 J15 idM Qbd ?_
 refine nt' (Qe (sr ?_))
 refine wv (fun W hm => Qad (cs := K4) Qz Qbd rfl rfl (hm.boxCells (n := 0) rfl)) ?_
 refine wv (fun W hm => Qad (cs := K2) Qz Qbd rfl rfl (hm.boxCells (n := 12) rfl)) ?_
 refine wcv (Qr Qts rfl) (fun W hm => Quu W _ G121 _ G66 (Qep (x := G121) (hm.rdSI (n := 1) rfl) (hm.rdSI (n := 2) rfl) (hm.rdSI (n := 3) rfl) (hm.rdSI (n := 4) rfl) (hm.rdSI (n := 5) rfl)) (Qep (x := G66) (hm.rdSI (n := 13) rfl) (hm.rdSI (n := 14) rfl) (hm.rdSI (n := 15) rfl) (hm.rdSI (n := 16) rfl) (hm.rdSI (n := 17) rfl))) ?_
 refine wv Qbr ?_
 refine nt' ?_
 rcases bd (Qmm G121 G66) with g149 | g149
 ·
  refine Qm rfl (nt g149) ?_
  refine Qp (Qd (Qe (Qe ?_)))
  refine rb 5 (s := (Qh p147 39 K4 :: J15)) idM ?_
  refine qt 5 0 1 rfl (fun W hm => Qad (cs := K3) Qz Qbd rfl rfl (hm.boxCells (n := 6) rfl)) ?_
  refine qt 5 1 3 rfl (fun W hm => Qad (cs := K1) Qib type30 rfl rfl (hm.boxCells (n := 18) rfl)) ?_
  refine qo 5 2 7 rfl ?_
  refine wcs Qcb (Qca x0) (Qr Qtr rfl) (fun W hm => Quv W _ x0 (Qtd (x := x0) (hm.rdS0 r15) (hm.rdS0 r20) (hm.rdS0 r25) (hm.rdS0 r30) (hm.rdS0 r35)) (Qow (by omega))) (fun z150 => ?_)
  refine Qhf ?_
  rintro ⟨v151, v152, v153, v154, v155⟩ rfl
  refine fm 0 ?_
  rintro A156 c157 rfl m158
  refine fm 1 ?_
  rintro A160 c161 rfl m162
  refine fm 2 ?_
  rintro A164 c165 rfl m166
  refine fm 3 ?_
  rintro A168 c169 rfl m170
  refine fm 4 ?_
  rintro A172 c173 rfl m174
  refine qn (pk [5, 6, 7, 8, 9, 10, 11, 12, 13, 14, 15, 16, 17, 18, 19, 20, 21, 22, 23]) ?_
  refine qo 5 3 15 rfl ?_
  refine wcv (Qr Qts rfl) (fun W hm => Quu W _ (Qca x0) _ (Qca x0) (Qep (x := (Qca x0)) (hm.rdSI (n := 12) rfl) (hm.rdSI (n := 13) rfl) (hm.rdSI (n := 14) rfl) (hm.rdSI (n := 15) rfl) (hm.rdSI (n := 16) rfl)) (Qep (x := (Qca x0)) (hm.rdSI (n := 0) rfl) (hm.rdSI (n := 1) rfl) (hm.rdSI (n := 2) rfl) (hm.rdSI (n := 3) rfl) (hm.rdSI (n := 4) rfl))) ?_
  refine qn (pk [5, 6, 7, 8, 9, 10, 11, 12, 13, 14, 15, 16, 17, 18, 19, 20, 21, 22, 23]) ?_
  refine qt 5 4 31 rfl Qbr ?_
  refine Qed (by kernel_rfl) ?_
  refine Qd ?_
  rcases bd (Qmm (Qca x0) (Qca x0)) with g177 | g177
  ·
   refine Qm rfl (nt g177) ?_
   refine Qp (Qd (Qe ?_))
   refine Qdw (pk [5, 6, 7, 8, 9, 10, 11, 12, 13, 14, 15, 16, 17, 18, 19, 20, 21, 22, 23]) ?_
   refine Qy (wa (nt' (sr ?_)))
   refine wv (fun W hm => Qad (cs := K3) Qz Qbd rfl rfl (hm.boxCells (n := 6) rfl)) ?_
   refine wm ?_
   let J16 : List It := Qh p147 39 K4 :: I12 :: iS Qa 3 A131 c132 G121.Order :: iS Qah 61 A135 c136 G121.Active :: iS Qas 80 A139 c140 G121.Done :: iS Qaq 102 A143 c144 G121.Ledger :: Qh p119 39 K3 :: J13
   refine Qkj (js := (Qn Qcb K3 (Qca x0) :: J16)) (fun W hm => Mem.join (is := [I7, I8, I9, I10, I11]) (js := J16) (fun _ _ hs => Qfk (x := (Qca x0)) hs) (hm.pick [7, 8, 9, 10, 11, 0, 1, 2, 3, 4, 5, 6, 12, 13, 14, 15, 16, 17, 18] (by decide))) ?_
   refine cw (Qr cb14 rfl) (fun W hm => Qagg w.heap.size w J16 W K3 (Qca x0) 1 hm) ?_
   obtain ⟨G178, hG178⟩ : ∃ G, G = (Qcn (Qca x0) 1) := ⟨_, rfl⟩
   rw [← hG178]
   refine Qhf ?_
   rintro ⟨v180, v181, v182, v183, v184⟩ h179
   simp +zetaDelta only [List.cons.injEq] at h179
   obtain ⟨rfl, -, -, rfl, rfl, rfl, rfl, -, -⟩ := h179
   refine wa (nt' (Qe (Qe ?_)))
   refine Qdw (pk [5, 6, 7, 8, 9, 10, 12, 13, 14, 15, 16, 17, 18]) ?_
   refine Qy (wm ?_)
   refine wv Qai ?_
   refine wm ?_
   rcases dcd (G178.1 < 0) with ⟨h185, g186⟩ | ⟨h185, g186⟩
   ·
    iterate 5 first | refine ws g186 ?_ | refine wv (vpT g186) ?_
    refine nt' ?_
    refine Ql rfl rfl ?_
    refine Qe ?_
    refine Qdw (pk []) ?_
    refine Qy (wa (nt' (Qj (Qg ?_))))
    exact rtb (h := by subst hG66 hG121 hG178; exact Qc g38 (Qb g149 (Qb g177 (Qb g186 (rfl)))))
   refine wg (fun W hm => Qad (cs := K4) Qz Qbd rfl rfl (hm.boxCells (n := 0) rfl)) g186 ?_
   refine wg (fun W hm => Qad (cs := K2) Qz Qbd rfl rfl (hm.boxCells (n := 6) rfl)) g186 ?_
   refine Qcr (Qr Qts rfl) (fun W hm => Quu W _ G121 _ G66 (Qep (x := G121) (hm.rdSI (n := 1) rfl) (hm.rdSI (n := 2) rfl) (hm.rdSI (n := 3) rfl) (hm.rdSI (n := 4) rfl) (hm.rdSI (n := 5) rfl)) (Qep (x := G66) (hm.rdSI (n := 7) rfl) (hm.rdSI (n := 8) rfl) (hm.rdSI (n := 9) rfl) (hm.rdSI (n := 10) rfl) (hm.rdSI (n := 11) rfl))) (Qcc rfl rfl rfl (bw g186 rfl)) (by decide) ?_
   refine wg Qbr g186 ?_
   refine wv (vpF g186) ?_
   refine nt' ?_
   refine Qm rfl (nt g149) ?_
   refine Qp (Qd (sr (wa (nt' (sr ?_)))))
   refine wv (fun W hm => Qad (cs := K4) Qz Qbd rfl rfl (hm.boxCells (n := 0) rfl)) ?_
   refine wm ?_
   let J17 : List It := Qh p147 39 K4 :: J13
   refine Qkj (js := (Qn Qcb K4 G121 :: J17)) (fun W hm => Mem.join (is := [I12, iS Qa 3 A131 c132 G121.Order, iS Qah 61 A135 c136 G121.Active, iS Qas 80 A139 c140 G121.Done, iS Qaq 102 A143 c144 G121.Ledger]) (js := J17) (fun _ _ hs => Qfk (x := G121) hs) (hm.pick [1, 2, 3, 4, 5, 0, 6, 7, 8, 9, 10, 11, 12] (by decide))) ?_
   refine cw (Qr cb14 rfl) (fun W hm => Qagg w.heap.size w J17 W K4 G121 1 hm) ?_
   refine Qhf ?_
   rintro ⟨v188, v189, v190, v191, v192⟩ h187
   simp +zetaDelta only [List.cons.injEq] at h187
   obtain ⟨rfl, -, -, rfl, rfl, rfl, rfl, -, -⟩ := h187
   refine wa (nt' (sr (wa (nt' (sr ?_)))))
   refine wv (fun W hm => Qad (cs := K4) Qz Qbd rfl rfl (hm.boxCells (n := 5) rfl)) ?_
   refine wm ?_
   refine wcv (Qr cb15 rfl) (fun W hm => Qagc W _ (⟨(⟨(Qcn G121 1).2.Store.Segments, G121.Store.Now⟩ : Qau), G121.Cursor, (Qcn G121 1).2.Order, (Qcn G121 1).2.Active, (Qcn G121 1).2.Done, (Qcn G121 1).2.Ledger, G121.Steps⟩ : Qo) 1 (Qep (x := (⟨(⟨(Qcn G121 1).2.Store.Segments, G121.Store.Now⟩ : Qau), G121.Cursor, (Qcn G121 1).2.Order, (Qcn G121 1).2.Active, (Qcn G121 1).2.Done, (Qcn G121 1).2.Ledger, G121.Steps⟩ : Qo)) (hm.rdSI (n := 0) rfl) (hm.rdSI (n := 1) rfl) (hm.rdSI (n := 2) rfl) (hm.rdSI (n := 3) rfl) (hm.rdSI (n := 4) rfl))) ?_
   refine wa (nt' (Qe (sr (wm ?_))))
   refine wv Qai ?_
   refine nt' ?_
   rcases dcd ((Qnq (⟨(⟨(Qcn G121 1).2.Store.Segments, G121.Store.Now⟩ : Qau), G121.Cursor, (Qcn G121 1).2.Order, (Qcn G121 1).2.Active, (Qcn G121 1).2.Done, (Qcn G121 1).2.Ledger, G121.Steps⟩ : Qo) 1) < 0) with ⟨h193, g194⟩ | ⟨h193, g194⟩
   ·
    refine Ql rfl g194 ?_
    refine Qe ?_
    refine Qdw (pk []) ?_
    refine Qy (wa (nt' (Qj (Qg ?_))))
    exact rtb (h := by subst hG66 hG121 hG178; exact Qc g38 (Qb g149 (Qb g177 (Qc g186 (Qb g194 (rfl))))))
   refine Qm rfl g194 ?_
   refine Qp (Qd (Qe (sr (wm (wm ?_)))))
   refine wv Qcj ?_
   refine nt' ?_
   rcases dcn (Qnq (⟨(⟨(Qcn G121 1).2.Store.Segments, G121.Store.Now⟩ : Qau), G121.Cursor, (Qcn G121 1).2.Order, (Qcn G121 1).2.Active, (Qcn G121 1).2.Done, (Qcn G121 1).2.Ledger, G121.Steps⟩ : Qo) 1) ((Qcn G121 1).1) with ⟨h195, g196⟩ | ⟨h195, g196⟩
   ·
    refine Qm rfl g196 ?_
    refine Qp (Qd (sr ?_))
    refine wv (fun W hm => Qad (cs := K1) Qib type30 rfl rfl (hm.boxCells (n := 12) rfl)) ?_
    refine wcs Qcb (Qca x0) (Qr Qtr rfl) (fun W hm => Quv W _ x0 (Qtd (x := x0) (hm.rdS0 r15) (hm.rdS0 r20) (hm.rdS0 r25) (hm.rdS0 r30) (hm.rdS0 r35)) (Qow (by omega))) (fun z197 => ?_)
    refine Qhf ?_
    rintro ⟨v198, v199, v200, v201, v202⟩ rfl
    refine fm 0 ?_
    rintro A203 c204 rfl m205
    refine fm 1 ?_
    rintro A207 c208 rfl m209
    refine fm 2 ?_
    rintro A211 c212 rfl m213
    refine fm 3 ?_
    rintro A215 c216 rfl m217
    refine fm 4 ?_
    rintro A219 c220 rfl m221
    refine wcs Qcb (Qdy (Qca x0)) (Qr cb17 rfl) (fun W hm => Qaff W _ (Qca x0) (Qep (x := (Qca x0)) (hm.rdSI (n := 0) rfl) (hm.rdSI (n := 1) rfl) (hm.rdSI (n := 2) rfl) (hm.rdSI (n := 3) rfl) (hm.rdSI (n := 4) rfl)) (by rw [Quw]; exact (Qow (by omega)))) (fun z223 => ?_)
    obtain ⟨G224, hG224⟩ : ∃ G, G = (Qdy (Qca x0)) := ⟨_, rfl⟩
    rw [← hG224]
    refine Qhf ?_
    rintro ⟨v225, v226, v227, v228, v229⟩ rfl
    refine fm 0 ?_
    rintro A230 c231 rfl m232
    refine fm 1 ?_
    rintro A234 c235 rfl m236
    refine fm 2 ?_
    rintro A238 c239 rfl m240
    refine fm 3 ?_
    rintro A242 c243 rfl m244
    refine fm 4 ?_
    rintro A246 c247 rfl m248
    refine Qbm Qbd rfl (Qk rfl) (by decide) (fun p250 => ?_)
    let K5 : List Value := [.slice A230 G224.Store.Segments.length c231, iV G224.Store.Now, iV G224.Cursor, .slice A234 G224.Order.length c235, .slice A238 G224.Active.length c239, .slice A242 G224.Done.length c243, .slice A246 G224.Ledger.length c247, iV G224.Steps]
    refine sb 0 K5 (iS (tSl Qaf 163) 100 A230 c231 G224.Store.Segments :: iS Qa 3 A234 c235 G224.Order :: iS Qah 61 A238 c239 G224.Active :: iS Qas 80 A242 c243 G224.Done :: iS Qaq 102 A246 c247 G224.Ledger :: iS (tSl Qaf 163) 100 A203 c204 ((Qca x0).Store.Segments) :: iS Qa 3 A207 c208 ((Qca x0).Order) :: iS Qah 61 A211 c212 ((Qca x0).Active) :: iS Qas 80 A215 c216 ((Qca x0).Done) :: iS Qaq 102 A219 c220 ((Qca x0).Ledger) :: Qn (tSl (tSl Qaf 163) 100) [.slice A127 G121.Store.Segments.length c128] ((Qcn G121 1).2.Store.Segments) :: Qn (tSl Qa 3) [.slice A131 G121.Order.length c132] ((Qcn G121 1).2.Order) :: Qn (tSl Qah 61) [.slice A135 G121.Active.length c136] ((Qcn G121 1).2.Active) :: Qn (tSl Qas 80) [.slice A139 G121.Done.length c140] ((Qcn G121 1).2.Done) :: Qn (tSl Qaq 102) [.slice A143 G121.Ledger.length c144] ((Qcn G121 1).2.Ledger) :: J17) idM Qbd ?_
    refine nt' (Qe (Qe ?_))
    refine Qdw (pk [0, 1, 2, 3, 4, 5, 11, 12, 13, 14, 15, 16, 17, 18, 19, 20, 21, 22]) ?_
    refine Qy ?_
    refine wv (fun W hm => Qad (cs := K5) Qz Qbd rfl rfl (hm.boxCells (n := 0) rfl)) ?_
    refine wv (fun W hm => Qad (cs := K2) Qz Qbd rfl rfl (hm.boxCells (n := 12) rfl)) ?_
    refine wcv (Qr Qts rfl) (fun W hm => Quu W _ G224 _ G66 (Qep (x := G224) (hm.rdSI (n := 1) rfl) (hm.rdSI (n := 2) rfl) (hm.rdSI (n := 3) rfl) (hm.rdSI (n := 4) rfl) (hm.rdSI (n := 5) rfl)) (Qep (x := G66) (hm.rdSI (n := 13) rfl) (hm.rdSI (n := 14) rfl) (hm.rdSI (n := 15) rfl) (hm.rdSI (n := 16) rfl) (hm.rdSI (n := 17) rfl))) ?_
    refine wv Qbr ?_
    refine nt' ?_
    rcases bd (Qmm G224 G66) with g252 | g252
    ·
     refine Qm rfl (nt g252) ?_
     refine Qp (Qd (Qe ?_))
     refine Qdw (pk [6, 7, 8, 9, 10, 11]) ?_
     refine Qy (wa (nt' (sr ?_)))
     refine wv (fun W hm => Qad (cs := K4) Qz Qbd rfl rfl (hm.boxCells (n := 5) rfl)) ?_
     refine wm ?_
     refine wcv (Qr cb15 rfl) (fun W hm => Qagc W _ (⟨(⟨(Qcn G121 1).2.Store.Segments, G121.Store.Now⟩ : Qau), G121.Cursor, (Qcn G121 1).2.Order, (Qcn G121 1).2.Active, (Qcn G121 1).2.Done, (Qcn G121 1).2.Ledger, G121.Steps⟩ : Qo) 1 (Qep (x := (⟨(⟨(Qcn G121 1).2.Store.Segments, G121.Store.Now⟩ : Qau), G121.Cursor, (Qcn G121 1).2.Order, (Qcn G121 1).2.Active, (Qcn G121 1).2.Done, (Qcn G121 1).2.Ledger, G121.Steps⟩ : Qo)) (hm.rdSI (n := 0) rfl) (hm.rdSI (n := 1) rfl) (hm.rdSI (n := 2) rfl) (hm.rdSI (n := 3) rfl) (hm.rdSI (n := 4) rfl))) ?_
     refine wa (nt' (Qe (Qe ?_)))
     refine Qdw (pk []) ?_
     refine Qy (wm ?_)
     refine wv Qai ?_
     refine nt' ?_
     refine Qm rfl g194 ?_
     refine Qp (Qd (Qe (sr (wm (wm ?_)))))
     refine wv Qcj ?_
     refine nt' ?_
     refine Qm rfl g196 ?_
     refine Qp (Qd (sr (wa (nt' (Qj ?_)))))
     exact rtb (h := by subst hG66 hG121 hG178 hG224; exact Qc g38 (Qb g149 (Qb g177 (Qc g186 (Qc g194 (Qc g196 (Qb g252 (rfl))))))))
    refine Ql rfl (nf g252) ?_
    refine Qe ?_
    refine Qdw (pk []) ?_
    refine Qy (wa (nt' (Qj (Qg ?_))))
    exact rtb (h := by subst hG66 hG121 hG178 hG224; exact Qc g38 (Qb g149 (Qb g177 (Qc g186 (Qc g194 (Qc g196 (Qc g252 (rfl))))))))
   refine Ql rfl g196 ?_
   refine Qe ?_
   refine Qdw (pk []) ?_
   refine Qy (wa (nt' (Qj (Qg ?_))))
   exact rtb (h := by subst hG66 hG121 hG178; exact Qc g38 (Qb g149 (Qb g177 (Qc g186 (Qc g194 (Qb g196 (rfl)))))))
  refine Ql rfl (nf g177) ?_
  refine Qe ?_
  refine Qdw (pk []) ?_
  refine Qy (wa (nt' (Qj (Qg ?_))))
  exact rtb (h := by subst hG66 hG121; exact Qc g38 (Qb g149 (Qc g177 (rfl))))
 refine Ql rfl (nf g149) ?_
 refine Qe ?_
 refine Qdw (pk []) ?_
 refine Qy (wa (nt' (Qj (Qg ?_))))
 exact rtb (h := by subst hG66 hG121; exact Qc g38 (Qc g149 (rfl)))

end Go.Proofs.YtdlminfjdodjoaaGreat
