/-
  The contract of the law.
-/
import Derived.Test.YtdlminfjdodjoaaGreatL3Pl
namespace Go.Proofs.YtdlminfjdodjoaaGreat
open Go.RowKit
set_option maxRecDepth 100000
set_option maxHeartbeats 4000000
open _root_.Go.Proofs.Tryz
def Qym (x0 : Qr) : Bool :=
 cond (decide ((Qqe x0 1048576) < 0)) true (cond (Qmg (Qdj (Qbu x0)).1 (Qhj (Qbu x0)).1) (cond ((Qdj (Qbu x0)).2 != (Qhj (Qbu x0)).2) false (cond (Qmg (Qbu x0) (Qbu x0)) (cond (decide ((Qcn (Qbu x0) 1).1 < 0)) false (cond (decide ((Qnp (⟨(⟨(Qcn (Qdj (Qbu x0)).1 1).2.Store.Segments, (Qdj (Qbu x0)).1.Store.Now⟩ : Qas), (Qdj (Qbu x0)).1.Cursor, (Qcn (Qdj (Qbu x0)).1 1).2.Order, (Qcn (Qdj (Qbu x0)).1 1).2.Active, (Qcn (Qdj (Qbu x0)).1 1).2.Done, (Qcn (Qdj (Qbu x0)).1 1).2.Ledger, (Qdj (Qbu x0)).1.Steps⟩ : Qr) 1) < 0)) false (cond ((Qnp (⟨(⟨(Qcn (Qdj (Qbu x0)).1 1).2.Store.Segments, (Qdj (Qbu x0)).1.Store.Now⟩ : Qas), (Qdj (Qbu x0)).1.Cursor, (Qcn (Qdj (Qbu x0)).1 1).2.Order, (Qcn (Qdj (Qbu x0)).1 1).2.Active, (Qcn (Qdj (Qbu x0)).1 1).2.Done, (Qcn (Qdj (Qbu x0)).1 1).2.Ledger, (Qdj (Qbu x0)).1.Steps⟩ : Qr) 1) != ((Qcn (Qdj (Qbu x0)).1 1).1)) false (cond (Qmg (Qdj (Qbu x0)).1 (Qhj (Qbu x0)).1) (cond ((Qdj (Qbu x0)).2 != (Qhj (Qbu x0)).2) false true) false)))) false)) false)
theorem cb3 : Cb Tryz.prog 3 := ⟨f3, _, func3, rfl, by decide⟩
theorem Qaso (w : World) (z0 : List Value) (x0 : Qr) (r_0 : Qpa.rd w w.heap.size z0 x0) :
  Calls Tryz.prog 3 #[.agg z0.toArray] w (rB w (Qym x0)) := by
 have ok0 := (Qaif r_0)
 obtain ⟨v1, v3, v5, v7, v9, rfl, r2, r4, r6, r8, r10⟩ := Qabk r_0
 obtain ⟨m11, A12, c13, rfl, q14, r15⟩ := Qi r2
 obtain ⟨m16, A17, c18, rfl, q19, r20⟩ := Qi r4
 obtain ⟨m21, A22, c23, rfl, q24, r25⟩ := Qi r6
 obtain ⟨m26, A27, c28, rfl, q29, r30⟩ := Qi r8
 obtain ⟨m31, A32, c33, rfl, q34, r35⟩ := Qi r10
 refine ce1 (L := [(0, .agg #[.slice A12 x0.Store.Segments.length c13, iV x0.Store.Now, iV x0.Cursor, .slice A17 x0.Order.length c18, .slice A22 x0.Active.length c23, .slice A27 x0.Done.length c28, .slice A32 x0.Ledger.length c33, iV x0.Steps])]) (N := 96) func3 ?_
 refine sr ?_
 refine Qbq rfl (Qk rfl) (by decide) (fun p36 => ?_)
 refine wa (nt' (sr (wa (nt' (sr ?_)))))
 let K1 : List Value := [.slice A12 x0.Store.Segments.length c13, iV x0.Store.Now, iV x0.Cursor, .slice A17 x0.Order.length c18, .slice A22 x0.Active.length c23, .slice A27 x0.Done.length c28, .slice A32 x0.Ledger.length c33, iV x0.Steps]
 refine wv (fun W hm => Qae (cs := K1) Qhv type30 rfl rfl (hm.boxCells (n := 0) rfl)) ?_
 refine wm ?_
 refine wcv (Qq cb9 rfl) (fun W hm => Qauz W _ x0 1048576 (Qsz (x := x0) (hm.rdS0 r15) (hm.rdS0 r20) (hm.rdS0 r25) (hm.rdS0 r30) (hm.rdS0 r35))) ?_
 refine wa (nt' (Qd (sr (wm ?_))))
 refine wv Qai ?_
 refine nt' ?_
 rcases dcd ((Qqe x0 1048576) < 0) with ⟨h37, g38⟩ | ⟨h37, g38⟩
 ·
  refine Ql rfl g38 ?_
  refine sr (wa (nt' (Qj (Qg ?_))))
  exact rtb (h := Qb g38 (rfl))
 obtain ⟨hz0, hy0, hw0⟩ := Qahy Qafz ok0 (by omega) (by omega) g38
 refine Qn rfl g38 ?_
 refine Qo (Qe (sr ?_))
 refine wv (fun W hm => Qae (cs := K1) Qhv type30 rfl rfl (hm.boxCells (n := 0) rfl)) ?_
 refine wcs Qcf (Qbu x0) (Qq Qtn rfl) (fun W hm => Quq W _ x0 (Qsz (x := x0) (hm.rdS0 r15) (hm.rdS0 r20) (hm.rdS0 r25) (hm.rdS0 r30) (hm.rdS0 r35)) (Qot (by omega))) (fun z39 => ?_)
 refine Qih ?_
 rintro ⟨v40, v41, v42, v43, v44⟩ rfl
 refine fm 0 ?_
 rintro A45 c46 rfl m47
 refine fm 1 ?_
 rintro A49 c50 rfl m51
 refine fm 2 ?_
 rintro A53 c54 rfl m55
 refine fm 3 ?_
 rintro A57 c58 rfl m59
 refine fm 4 ?_
 rintro A61 c62 rfl m63
 refine Qnb (χ := List Value) (val := fun x => .tuple #[.agg x.toArray, .bool ((Qhj (Qbu x0)).2)]) (js := fun x => [Qm Qcf x ((Qhj (Qbu x0)).1)]) (Qq cb10 rfl) (fun W hm => Qazf W _ (Qbu x0) (Qff (x := (Qbu x0)) (hm.rdSI (n := 0) rfl) (hm.rdSI (n := 1) rfl) (hm.rdSI (n := 2) rfl) (hm.rdSI (n := 3) rfl) (hm.rdSI (n := 4) rfl)) (by rw [Qur]; exact (Qot (by omega)))) (Qk rfl) (by decide) (fun z65 => ?_)
 obtain ⟨G66, hG66⟩ : ∃ G, G = (Qhj (Qbu x0)) := ⟨_, rfl⟩
 rw [← hG66]
 refine Qih ?_
 rintro ⟨v67, v68, v69, v70, v71⟩ rfl
 refine fm 0 ?_
 rintro A72 c73 rfl m74
 refine fm 1 ?_
 rintro A76 c77 rfl m78
 refine fm 2 ?_
 rintro A80 c81 rfl m82
 refine fm 3 ?_
 rintro A84 c85 rfl m86
 refine fm 4 ?_
 rintro A88 c89 rfl m90
 refine wm ?_
 refine wv (fun W hm => Qjw rfl rfl) ?_
 refine wv (fun W hm => Qjw rfl rfl) ?_
 refine Qbs Qbm rfl (Qk rfl) (by decide) (fun p92 => ?_)
 let K2 : List Value := [.slice A72 G66.1.Store.Segments.length c73, iV G66.1.Store.Now, iV G66.1.Cursor, .slice A76 G66.1.Order.length c77, .slice A80 G66.1.Active.length c81, .slice A84 G66.1.Done.length c85, .slice A88 G66.1.Ledger.length c89, iV G66.1.Steps]
 let I6 : It := iS (tSl Qag 163) 100 A72 c73 G66.1.Store.Segments
 refine sb 0 K2 [I6, iS Qa 3 A76 c77 G66.1.Order, iS Qah 61 A80 c81 G66.1.Active, iS Qax 80 A84 c85 G66.1.Done, iS Qav 102 A88 c89 G66.1.Ledger, iS (tSl Qag 163) 100 A45 c46 ((Qbu x0).Store.Segments), iS Qa 3 A49 c50 ((Qbu x0).Order), iS Qah 61 A53 c54 ((Qbu x0).Active), iS Qax 80 A57 c58 ((Qbu x0).Done), iS Qav 102 A61 c62 ((Qbu x0).Ledger), Qh p36 30 K1] idM Qbm ?_
 refine wa (nt' (Qd ?_))
 refine Qdp (pk [0, 1, 2, 3, 4, 5, 11]) ?_
 refine Qy ?_
 refine wv (fun W hm => Qae (cs := K1) Qhv type30 rfl rfl (hm.boxCells (n := 6) rfl)) ?_
 refine wcs Qcf (Qbu x0) (Qq Qtn rfl) (fun W hm => Quq W _ x0 (Qsz (x := x0) (hm.rdS0 r15) (hm.rdS0 r20) (hm.rdS0 r25) (hm.rdS0 r30) (hm.rdS0 r35)) (Qot (by omega))) (fun z93 => ?_)
 refine Qih ?_
 rintro ⟨v94, v95, v96, v97, v98⟩ rfl
 refine fm 0 ?_
 rintro A99 c100 rfl m101
 refine fm 1 ?_
 rintro A103 c104 rfl m105
 refine fm 2 ?_
 rintro A107 c108 rfl m109
 refine fm 3 ?_
 rintro A111 c112 rfl m113
 refine fm 4 ?_
 rintro A115 c116 rfl m117
 refine Qbs Qbm rfl (Qk rfl) (by decide) (fun p119 => ?_)
 let K3 : List Value := [.slice A99 ((Qbu x0).Store.Segments).length c100, iV ((Qbu x0).Store.Now), iV ((Qbu x0).Cursor), .slice A103 ((Qbu x0).Order).length c104, .slice A107 ((Qbu x0).Active).length c108, .slice A111 ((Qbu x0).Done).length c112, .slice A115 ((Qbu x0).Ledger).length c116, iV ((Qbu x0).Steps)]
 let I7 : It := iS (tSl Qag 163) 100 A99 c100 ((Qbu x0).Store.Segments)
 let I8 : It := iS Qa 3 A103 c104 ((Qbu x0).Order)
 let I9 : It := iS Qah 61 A107 c108 ((Qbu x0).Active)
 let I10 : It := iS Qax 80 A111 c112 ((Qbu x0).Done)
 let I11 : It := iS Qav 102 A115 c116 ((Qbu x0).Ledger)
 let J13 : List It := [Qh p92 39 K2, I6, iS Qa 3 A76 c77 G66.1.Order, iS Qah 61 A80 c81 G66.1.Active, iS Qax 80 A84 c85 G66.1.Done, iS Qav 102 A88 c89 G66.1.Ledger, Qh p36 30 K1]
 let J14 : List It := I7 :: I8 :: I9 :: I10 :: I11 :: J13
 refine sb 0 K3 J14 idM Qbm ?_
 refine nt' (sr ?_)
 refine wv (fun W hm => Qae (cs := K3) Qac Qbm rfl rfl (hm.boxCells (n := 0) rfl)) ?_
 refine Qnb (χ := List Value) (val := fun x => .tuple #[.agg x.toArray, .bool ((Qdj (Qbu x0)).2)]) (js := fun x => [Qm Qcf x ((Qdj (Qbu x0)).1)]) (Qq cb12 rfl) (fun W hm => Qaew W _ (Qbu x0) (Qff (x := (Qbu x0)) (hm.rdSI (n := 1) rfl) (hm.rdSI (n := 2) rfl) (hm.rdSI (n := 3) rfl) (hm.rdSI (n := 4) rfl) (hm.rdSI (n := 5) rfl)) (by rw [Qur]; exact (Qot (by omega)))) (Qk rfl) (by decide) (fun z120 => ?_)
 obtain ⟨G121, hG121⟩ : ∃ G, G = (Qdj (Qbu x0)) := ⟨_, rfl⟩
 rw [← hG121]
 refine Qih ?_
 rintro ⟨v122, v123, v124, v125, v126⟩ rfl
 refine fm 0 ?_
 rintro A127 c128 rfl m129
 refine fm 1 ?_
 rintro A131 c132 rfl m133
 refine fm 2 ?_
 rintro A135 c136 rfl m137
 refine fm 3 ?_
 rintro A139 c140 rfl m141
 refine fm 4 ?_
 rintro A143 c144 rfl m145
 refine wm ?_
 refine wv (fun W hm => Qjw rfl rfl) ?_
 refine wv (fun W hm => Qjw rfl rfl) ?_
 refine Qbs Qbm rfl (Qk rfl) (by decide) (fun p147 => ?_)
 let K4 : List Value := [.slice A127 G121.1.Store.Segments.length c128, iV G121.1.Store.Now, iV G121.1.Cursor, .slice A131 G121.1.Order.length c132, .slice A135 G121.1.Active.length c136, .slice A139 G121.1.Done.length c140, .slice A143 G121.1.Ledger.length c144, iV G121.1.Steps]
 let I12 : It := iS (tSl Qag 163) 100 A127 c128 G121.1.Store.Segments
 let J15 : List It := I12 :: iS Qa 3 A131 c132 G121.1.Order :: iS Qah 61 A135 c136 G121.1.Active :: iS Qax 80 A139 c140 G121.1.Done :: iS Qav 102 A143 c144 G121.1.Ledger :: Qh p119 39 K3 :: J14
 refine sb 0 K4 J15 idM Qbm ?_
 refine wa (nt' (Qd (sr ?_)))
 refine wv (fun W hm => Qae (cs := K4) Qac Qbm rfl rfl (hm.boxCells (n := 0) rfl)) ?_
 refine wv (fun W hm => Qae (cs := K2) Qac Qbm rfl rfl (hm.boxCells (n := 12) rfl)) ?_
 refine wcv (Qq Qto rfl) (fun W hm => Qup W _ G121.1 _ G66.1 (Qff (x := G121.1) (hm.rdSI (n := 1) rfl) (hm.rdSI (n := 2) rfl) (hm.rdSI (n := 3) rfl) (hm.rdSI (n := 4) rfl) (hm.rdSI (n := 5) rfl)) (Qff (x := G66.1) (hm.rdSI (n := 13) rfl) (hm.rdSI (n := 14) rfl) (hm.rdSI (n := 15) rfl) (hm.rdSI (n := 16) rfl) (hm.rdSI (n := 17) rfl))) ?_
 refine wv Qbp ?_
 refine wm ?_
 rcases bd (Qmg G121.1 G66.1) with g149 | g149
 ·
  refine wg vmv (nt g149) ?_
  refine wg vmv (nt g149) ?_
  refine wg (fun W hm => Qaac underlying4 rfl rfl) (nt g149) ?_
  refine wv (vpF (nt g149)) ?_
  refine nt' ?_
  rcases bd (G121.2 != G66.2) with g151 | g151
  ·
   refine Ql rfl g151 ?_
   refine Qd ?_
   refine Qdp (pk []) ?_
   refine Qy (wa (nt' (Qj (Qg ?_))))
   exact rtb (h := by subst hG66 hG121; exact Qc g38 (Qb g149 (Qb g151 (rfl))))
  refine Qn rfl g151 ?_
  refine Qo (Qe (Qd (Qd ?_)))
  refine rb 5 (s := (Qh p147 39 K4 :: J15)) idM ?_
  refine qt 5 0 1 rfl (fun W hm => Qae (cs := K3) Qac Qbm rfl rfl (hm.boxCells (n := 6) rfl)) ?_
  refine qt 5 1 3 rfl (fun W hm => Qae (cs := K1) Qhv type30 rfl rfl (hm.boxCells (n := 18) rfl)) ?_
  refine qo 5 2 7 rfl ?_
  refine wcs Qcf (Qbu x0) (Qq Qtn rfl) (fun W hm => Quq W _ x0 (Qsz (x := x0) (hm.rdS0 r15) (hm.rdS0 r20) (hm.rdS0 r25) (hm.rdS0 r30) (hm.rdS0 r35)) (Qot (by omega))) (fun z152 => ?_)
  refine Qih ?_
  rintro ⟨v153, v154, v155, v156, v157⟩ rfl
  refine fm 0 ?_
  rintro A158 c159 rfl m160
  refine fm 1 ?_
  rintro A162 c163 rfl m164
  refine fm 2 ?_
  rintro A166 c167 rfl m168
  refine fm 3 ?_
  rintro A170 c171 rfl m172
  refine fm 4 ?_
  rintro A174 c175 rfl m176
  refine qn (pk [5, 6, 7, 8, 9, 10, 11, 12, 13, 14, 15, 16, 17, 18, 19, 20, 21, 22, 23]) ?_
  refine qo 5 3 15 rfl ?_
  refine wcv (Qq Qto rfl) (fun W hm => Qup W _ (Qbu x0) _ (Qbu x0) (Qff (x := (Qbu x0)) (hm.rdSI (n := 12) rfl) (hm.rdSI (n := 13) rfl) (hm.rdSI (n := 14) rfl) (hm.rdSI (n := 15) rfl) (hm.rdSI (n := 16) rfl)) (Qff (x := (Qbu x0)) (hm.rdSI (n := 0) rfl) (hm.rdSI (n := 1) rfl) (hm.rdSI (n := 2) rfl) (hm.rdSI (n := 3) rfl) (hm.rdSI (n := 4) rfl))) ?_
  refine qn (pk [5, 6, 7, 8, 9, 10, 11, 12, 13, 14, 15, 16, 17, 18, 19, 20, 21, 22, 23]) ?_
  refine qt 5 4 31 rfl Qbp ?_
  refine Qec (by kernel_rfl) ?_
  refine Qe ?_
  rcases bd (Qmg (Qbu x0) (Qbu x0)) with g179 | g179
  ·
   refine Qn rfl (nt g179) ?_
   refine Qo (Qe (Qd ?_))
   refine Qdp (pk [5, 6, 7, 8, 9, 10, 11, 12, 13, 14, 15, 16, 17, 18, 19, 20, 21, 22, 23]) ?_
   refine Qy (wa (nt' (sr ?_)))
   refine wv (fun W hm => Qae (cs := K3) Qac Qbm rfl rfl (hm.boxCells (n := 6) rfl)) ?_
   refine wm ?_
   let J16 : List It := Qh p147 39 K4 :: I12 :: iS Qa 3 A131 c132 G121.1.Order :: iS Qah 61 A135 c136 G121.1.Active :: iS Qax 80 A139 c140 G121.1.Done :: iS Qav 102 A143 c144 G121.1.Ledger :: Qh p119 39 K3 :: J13
   refine Qkh (js := (Qm Qcf K3 (Qbu x0) :: J16)) (fun W hm => Mem.join (is := [I7, I8, I9, I10, I11]) (js := J16) (fun _ _ hs => Qfo (x := (Qbu x0)) hs) (hm.pick [7, 8, 9, 10, 11, 0, 1, 2, 3, 4, 5, 6, 12, 13, 14, 15, 16, 17, 18] (by decide))) ?_
   refine cw (Qq cb14 rfl) (fun W hm => Qaft w.heap.size w J16 W K3 (Qbu x0) 1 hm) ?_
   obtain ⟨G180, hG180⟩ : ∃ G, G = (Qcn (Qbu x0) 1) := ⟨_, rfl⟩
   rw [← hG180]
   refine Qih ?_
   rintro ⟨v182, v183, v184, v185, v186⟩ h181
   simp +zetaDelta only [List.cons.injEq] at h181
   obtain ⟨rfl, -, -, rfl, rfl, rfl, rfl, -, -⟩ := h181
   refine wa (nt' (Qd (Qd ?_)))
   refine Qdp (pk [5, 6, 7, 8, 9, 10, 12, 13, 14, 15, 16, 17, 18]) ?_
   refine Qy (wm ?_)
   refine wv Qai ?_
   refine wm ?_
   rcases dcd (G180.1 < 0) with ⟨h187, g188⟩ | ⟨h187, g188⟩
   ·
    iterate 10 first | refine ws g188 ?_ | refine wv (vpT g188) ?_ | refine wm ?_ | refine wk ?_ | refine wv (vpT rfl) ?_
    refine nt' ?_
    refine Ql rfl rfl ?_
    refine Qd ?_
    refine Qdp (pk []) ?_
    refine Qy (wa (nt' (Qj (Qg ?_))))
    exact rtb (h := by subst hG66 hG121 hG180; exact Qc g38 (Qb g149 (Qc g151 (Qb g179 (Qb g188 (rfl))))))
   refine wg (fun W hm => Qae (cs := K4) Qac Qbm rfl rfl (hm.boxCells (n := 0) rfl)) g188 ?_
   refine wg (fun W hm => Qae (cs := K2) Qac Qbm rfl rfl (hm.boxCells (n := 6) rfl)) g188 ?_
   refine Qct (Qq Qto rfl) (fun W hm => Qup W _ G121.1 _ G66.1 (Qff (x := G121.1) (hm.rdSI (n := 1) rfl) (hm.rdSI (n := 2) rfl) (hm.rdSI (n := 3) rfl) (hm.rdSI (n := 4) rfl) (hm.rdSI (n := 5) rfl)) (Qff (x := G66.1) (hm.rdSI (n := 7) rfl) (hm.rdSI (n := 8) rfl) (hm.rdSI (n := 9) rfl) (hm.rdSI (n := 10) rfl) (hm.rdSI (n := 11) rfl))) (Qcb rfl rfl rfl (bw g188 rfl)) (by decide) ?_
   refine wg Qbp g188 ?_
   refine wv (vpF g188) ?_
   refine wm ?_
   refine wg vmv (nt g149) ?_
   refine wg vmv (nt g149) ?_
   refine wg (fun W hm => Qaac underlying4 rfl rfl) (nt g149) ?_
   refine wv (vpF (nt g149)) ?_
   refine nt' ?_
   refine Qn rfl g151 ?_
   refine Qo (Qe (sr (wa (nt' (sr ?_)))))
   refine wv (fun W hm => Qae (cs := K4) Qac Qbm rfl rfl (hm.boxCells (n := 0) rfl)) ?_
   refine wm ?_
   let J17 : List It := Qh p147 39 K4 :: J13
   refine Qkh (js := (Qm Qcf K4 G121.1 :: J17)) (fun W hm => Mem.join (is := [I12, iS Qa 3 A131 c132 G121.1.Order, iS Qah 61 A135 c136 G121.1.Active, iS Qax 80 A139 c140 G121.1.Done, iS Qav 102 A143 c144 G121.1.Ledger]) (js := J17) (fun _ _ hs => Qfo (x := G121.1) hs) (hm.pick [1, 2, 3, 4, 5, 0, 6, 7, 8, 9, 10, 11, 12] (by decide))) ?_
   refine cw (Qq cb14 rfl) (fun W hm => Qaft w.heap.size w J17 W K4 G121.1 1 hm) ?_
   refine Qih ?_
   rintro ⟨v190, v191, v192, v193, v194⟩ h189
   simp +zetaDelta only [List.cons.injEq] at h189
   obtain ⟨rfl, -, -, rfl, rfl, rfl, rfl, -, -⟩ := h189
   refine wa (nt' (sr (wa (nt' (sr ?_)))))
   refine wv (fun W hm => Qae (cs := K4) Qac Qbm rfl rfl (hm.boxCells (n := 5) rfl)) ?_
   refine wm ?_
   refine wcv (Qq cb15 rfl) (fun W hm => Qafp W _ (⟨(⟨(Qcn G121.1 1).2.Store.Segments, G121.1.Store.Now⟩ : Qas), G121.1.Cursor, (Qcn G121.1 1).2.Order, (Qcn G121.1 1).2.Active, (Qcn G121.1 1).2.Done, (Qcn G121.1 1).2.Ledger, G121.1.Steps⟩ : Qr) 1 (Qff (x := (⟨(⟨(Qcn G121.1 1).2.Store.Segments, G121.1.Store.Now⟩ : Qas), G121.1.Cursor, (Qcn G121.1 1).2.Order, (Qcn G121.1 1).2.Active, (Qcn G121.1 1).2.Done, (Qcn G121.1 1).2.Ledger, G121.1.Steps⟩ : Qr)) (hm.rdSI (n := 0) rfl) (hm.rdSI (n := 1) rfl) (hm.rdSI (n := 2) rfl) (hm.rdSI (n := 3) rfl) (hm.rdSI (n := 4) rfl))) ?_
   refine wa (nt' (Qd (sr (wm ?_))))
   refine wv Qai ?_
   refine nt' ?_
   rcases dcd ((Qnp (⟨(⟨(Qcn G121.1 1).2.Store.Segments, G121.1.Store.Now⟩ : Qas), G121.1.Cursor, (Qcn G121.1 1).2.Order, (Qcn G121.1 1).2.Active, (Qcn G121.1 1).2.Done, (Qcn G121.1 1).2.Ledger, G121.1.Steps⟩ : Qr) 1) < 0) with ⟨h195, g196⟩ | ⟨h195, g196⟩
   ·
    refine Ql rfl g196 ?_
    refine Qd ?_
    refine Qdp (pk []) ?_
    refine Qy (wa (nt' (Qj (Qg ?_))))
    exact rtb (h := by subst hG66 hG121 hG180; exact Qc g38 (Qb g149 (Qc g151 (Qb g179 (Qc g188 (Qb g196 (rfl)))))))
   refine Qn rfl g196 ?_
   refine Qo (Qe (Qd (sr (wm (wm ?_)))))
   refine wv Qcj ?_
   refine nt' ?_
   rcases dcn (Qnp (⟨(⟨(Qcn G121.1 1).2.Store.Segments, G121.1.Store.Now⟩ : Qas), G121.1.Cursor, (Qcn G121.1 1).2.Order, (Qcn G121.1 1).2.Active, (Qcn G121.1 1).2.Done, (Qcn G121.1 1).2.Ledger, G121.1.Steps⟩ : Qr) 1) ((Qcn G121.1 1).1) with ⟨h197, g198⟩ | ⟨h197, g198⟩
   ·
    refine Qn rfl g198 ?_
    refine Qo (Qe (sr ?_))
    refine wv (fun W hm => Qae (cs := K1) Qhv type30 rfl rfl (hm.boxCells (n := 12) rfl)) ?_
    refine wcs Qcf (Qbu x0) (Qq Qtn rfl) (fun W hm => Quq W _ x0 (Qsz (x := x0) (hm.rdS0 r15) (hm.rdS0 r20) (hm.rdS0 r25) (hm.rdS0 r30) (hm.rdS0 r35)) (Qot (by omega))) (fun z199 => ?_)
    refine Qih ?_
    rintro ⟨v200, v201, v202, v203, v204⟩ rfl
    refine fm 0 ?_
    rintro A205 c206 rfl m207
    refine fm 1 ?_
    rintro A209 c210 rfl m211
    refine fm 2 ?_
    rintro A213 c214 rfl m215
    refine fm 3 ?_
    rintro A217 c218 rfl m219
    refine fm 4 ?_
    rintro A221 c222 rfl m223
    refine Qnb (χ := List Value) (val := fun x => .tuple #[.agg x.toArray, .bool ((Qdj (Qbu x0)).2)]) (js := fun x => [Qm Qcf x ((Qdj (Qbu x0)).1)]) (Qq cb12 rfl) (fun W hm => Qaew W _ (Qbu x0) (Qff (x := (Qbu x0)) (hm.rdSI (n := 0) rfl) (hm.rdSI (n := 1) rfl) (hm.rdSI (n := 2) rfl) (hm.rdSI (n := 3) rfl) (hm.rdSI (n := 4) rfl)) (by rw [Qur]; exact (Qot (by omega)))) (Qk rfl) (by decide) (fun z225 => ?_)
    obtain ⟨G226, hG226⟩ : ∃ G, G = (Qdj (Qbu x0)) := ⟨_, rfl⟩
    rw [← hG226]
    refine Qih ?_
    rintro ⟨v227, v228, v229, v230, v231⟩ rfl
    refine fm 0 ?_
    rintro A232 c233 rfl m234
    refine fm 1 ?_
    rintro A236 c237 rfl m238
    refine fm 2 ?_
    rintro A240 c241 rfl m242
    refine fm 3 ?_
    rintro A244 c245 rfl m246
    refine fm 4 ?_
    rintro A248 c249 rfl m250
    refine wm ?_
    refine wv (fun W hm => Qjw rfl rfl) ?_
    refine wv (fun W hm => Qjw rfl rfl) ?_
    refine Qbs Qbm rfl (Qk rfl) (by decide) (fun p252 => ?_)
    let K5 : List Value := [.slice A232 G226.1.Store.Segments.length c233, iV G226.1.Store.Now, iV G226.1.Cursor, .slice A236 G226.1.Order.length c237, .slice A240 G226.1.Active.length c241, .slice A244 G226.1.Done.length c245, .slice A248 G226.1.Ledger.length c249, iV G226.1.Steps]
    refine sb 0 K5 (iS (tSl Qag 163) 100 A232 c233 G226.1.Store.Segments :: iS Qa 3 A236 c237 G226.1.Order :: iS Qah 61 A240 c241 G226.1.Active :: iS Qax 80 A244 c245 G226.1.Done :: iS Qav 102 A248 c249 G226.1.Ledger :: iS (tSl Qag 163) 100 A205 c206 ((Qbu x0).Store.Segments) :: iS Qa 3 A209 c210 ((Qbu x0).Order) :: iS Qah 61 A213 c214 ((Qbu x0).Active) :: iS Qax 80 A217 c218 ((Qbu x0).Done) :: iS Qav 102 A221 c222 ((Qbu x0).Ledger) :: Qm (tSl (tSl Qag 163) 100) [.slice A127 G121.1.Store.Segments.length c128] ((Qcn G121.1 1).2.Store.Segments) :: Qm (tSl Qa 3) [.slice A131 G121.1.Order.length c132] ((Qcn G121.1 1).2.Order) :: Qm (tSl Qah 61) [.slice A135 G121.1.Active.length c136] ((Qcn G121.1 1).2.Active) :: Qm (tSl Qax 80) [.slice A139 G121.1.Done.length c140] ((Qcn G121.1 1).2.Done) :: Qm (tSl Qav 102) [.slice A143 G121.1.Ledger.length c144] ((Qcn G121.1 1).2.Ledger) :: J17) idM Qbm ?_
    refine wa (nt' (Qd (Qd ?_)))
    refine Qdp (pk [0, 1, 2, 3, 4, 5, 11, 12, 13, 14, 15, 16, 17, 18, 19, 20, 21, 22]) ?_
    refine Qy ?_
    refine wv (fun W hm => Qae (cs := K5) Qac Qbm rfl rfl (hm.boxCells (n := 0) rfl)) ?_
    refine wv (fun W hm => Qae (cs := K2) Qac Qbm rfl rfl (hm.boxCells (n := 12) rfl)) ?_
    refine wcv (Qq Qto rfl) (fun W hm => Qup W _ G226.1 _ G66.1 (Qff (x := G226.1) (hm.rdSI (n := 1) rfl) (hm.rdSI (n := 2) rfl) (hm.rdSI (n := 3) rfl) (hm.rdSI (n := 4) rfl) (hm.rdSI (n := 5) rfl)) (Qff (x := G66.1) (hm.rdSI (n := 13) rfl) (hm.rdSI (n := 14) rfl) (hm.rdSI (n := 15) rfl) (hm.rdSI (n := 16) rfl) (hm.rdSI (n := 17) rfl))) ?_
    refine wv Qbp ?_
    refine wm ?_
    rcases bd (Qmg G226.1 G66.1) with g254 | g254
    ·
     refine wg vmv (nt g254) ?_
     refine wg vmv (nt g254) ?_
     refine wg (fun W hm => Qaac underlying4 rfl rfl) (nt g254) ?_
     refine wv (vpF (nt g254)) ?_
     refine nt' ?_
     rcases bd (G226.2 != G66.2) with g256 | g256
     ·
      refine Ql rfl g256 ?_
      refine Qd ?_
      refine Qdp (pk []) ?_
      refine Qy (wa (nt' (Qj (Qg ?_))))
      exact rtb (h := by subst hG66 hG121 hG180 hG226; exact Qc g38 (Qb g149 (Qc g151 (Qb g179 (Qc g188 (Qc g196 (Qc g198 (Qb g254 (Qb g256 (rfl))))))))))
     refine Qn rfl g256 ?_
     refine Qo (Qe (Qd ?_))
     refine Qdp (pk [6, 7, 8, 9, 10, 11]) ?_
     refine Qy (wa (nt' (sr ?_)))
     refine wv (fun W hm => Qae (cs := K4) Qac Qbm rfl rfl (hm.boxCells (n := 5) rfl)) ?_
     refine wm ?_
     refine wcv (Qq cb15 rfl) (fun W hm => Qafp W _ (⟨(⟨(Qcn G121.1 1).2.Store.Segments, G121.1.Store.Now⟩ : Qas), G121.1.Cursor, (Qcn G121.1 1).2.Order, (Qcn G121.1 1).2.Active, (Qcn G121.1 1).2.Done, (Qcn G121.1 1).2.Ledger, G121.1.Steps⟩ : Qr) 1 (Qff (x := (⟨(⟨(Qcn G121.1 1).2.Store.Segments, G121.1.Store.Now⟩ : Qas), G121.1.Cursor, (Qcn G121.1 1).2.Order, (Qcn G121.1 1).2.Active, (Qcn G121.1 1).2.Done, (Qcn G121.1 1).2.Ledger, G121.1.Steps⟩ : Qr)) (hm.rdSI (n := 0) rfl) (hm.rdSI (n := 1) rfl) (hm.rdSI (n := 2) rfl) (hm.rdSI (n := 3) rfl) (hm.rdSI (n := 4) rfl))) ?_
     refine wa (nt' (Qd (Qd ?_)))
     refine Qdp (pk []) ?_
     refine Qy (wm ?_)
     refine wv Qai ?_
     refine nt' ?_
     refine Qn rfl g196 ?_
     refine Qo (Qe (Qd (sr (wm (wm ?_)))))
     refine wv Qcj ?_
     refine nt' ?_
     refine Qn rfl g198 ?_
     refine Qo (Qe (sr (wa (nt' (Qj ?_)))))
     exact rtb (h := by subst hG66 hG121 hG180 hG226; exact Qc g38 (Qb g149 (Qc g151 (Qb g179 (Qc g188 (Qc g196 (Qc g198 (Qb g254 (Qc g256 (rfl))))))))))
    refine ws (nf g254) ?_
    refine ws (nf g254) ?_
    refine ws (nf g254) ?_
    refine wv (vpT (nf g254)) ?_
    refine nt' ?_
    refine Ql rfl rfl ?_
    refine Qd ?_
    refine Qdp (pk []) ?_
    refine Qy (wa (nt' (Qj (Qg ?_))))
    exact rtb (h := by subst hG66 hG121 hG180 hG226; exact Qc g38 (Qb g149 (Qc g151 (Qb g179 (Qc g188 (Qc g196 (Qc g198 (Qc g254 (rfl)))))))))
   refine Ql rfl g198 ?_
   refine Qd ?_
   refine Qdp (pk []) ?_
   refine Qy (wa (nt' (Qj (Qg ?_))))
   exact rtb (h := by subst hG66 hG121 hG180; exact Qc g38 (Qb g149 (Qc g151 (Qb g179 (Qc g188 (Qc g196 (Qb g198 (rfl))))))))
  refine Ql rfl (nf g179) ?_
  refine Qd ?_
  refine Qdp (pk []) ?_
  refine Qy (wa (nt' (Qj (Qg ?_))))
  exact rtb (h := by subst hG66 hG121; exact Qc g38 (Qb g149 (Qc g151 (Qc g179 (rfl)))))
 refine ws (nf g149) ?_
 refine ws (nf g149) ?_
 refine ws (nf g149) ?_
 refine wv (vpT (nf g149)) ?_
 refine nt' ?_
 refine Ql rfl rfl ?_
 refine Qd ?_
 refine Qdp (pk []) ?_
 refine Qy (wa (nt' (Qj (Qg ?_))))
 exact rtb (h := by subst hG66 hG121; exact Qc g38 (Qc g149 (rfl)))

end Go.Proofs.YtdlminfjdodjoaaGreat
