/-
  Contracts of functions, printed by a program of ours.
-/
import Derived.Test.YtdlminfjdodjoaaGreatDat
namespace Go.Proofs.YtdlminfjdodjoaaGreat
open Go.RowKit
set_option maxRecDepth 100000
set_option maxHeartbeats 4000000
open _root_.Go.Proofs.Tryz
def Qdj (x0 : (List Int)) (x1 : Int) : Int :=
 cond (decide ((IntKind.i64.wrap (x1 - ((x0.length : Nat) : Int))) < 0)) (-1) (IntKind.i64.wrap (x1 - ((x0.length : Nat) : Int)))
theorem Qnh : Cb Tryz.prog 57 := ⟨f57, _, func57, rfl, by decide⟩
theorem Qnv (w : World) (z0 : Value) (x0 : (List Int)) (x1 : Int) (r_0 : rdS Qa w w.heap.size z0 x0) :
  Calls Tryz.prog 57 #[z0, iV x1] w (rI w (Qdj x0 x1)) := by
 obtain ⟨m1, A2, c3, rfl, q4, r5⟩ := Qi r_0
 refine ce2 (L := [(0, .slice A2 x0.length c3), (1, iV x1)]) (N := 12) func57 ?_
 refine sr (wa (nt' (sr (wm (wm ?_)))))
 refine wv (Qag Qq) ?_
 refine wv (fun W hm => Qik rfl rfl) ?_
 refine wa (nt' (Qe (sr (wm ?_))))
 refine wv Qai ?_
 refine nt' ?_
 rcases dcd ((IntKind.i64.wrap (x1 - ((x0.length : Nat) : Int))) < 0) with ⟨h6, g7⟩ | ⟨h6, g7⟩
 ·
  refine Ql rfl g7 ?_
  refine sr (wa (nt' (Qj (Qg ?_))))
  exact rti (h := Qb g7 (rfl))
 refine Qm rfl g7 ?_
 refine Qp (Qd (sr (wm (wa (nt' (Qj ?_))))))
 exact rti (h := Qc g7 (rfl))

def Qot (x0 : Qt) (x1 : Int) : Int :=
 cond (decide ((Qdj x0.Values x1) < 0)) (-1) (Qdj x0.Values x1)
theorem Qapa : Cb Tryz.prog 207 := ⟨f207, _, func207, rfl, by decide⟩
theorem Qaxn (w : World) (z0 : List Value) (x0 : Qt) (x1 : Int) (r_0 : Qim.rd w w.heap.size z0 x0) :
  Calls Tryz.prog 207 #[.agg z0.toArray, iV x1] w (rI w (Qot x0 x1)) := by
 obtain ⟨v1, rfl, r2⟩ := Qwj r_0
 obtain ⟨m3, A4, c5, rfl, q6, r7⟩ := Qi r2
 refine ce2 (L := [(0, .agg #[iV x0.Id, .slice A4 x0.Values.length c5, iV x0.Born, iV x0.Died]), (1, iV x1)]) (N := 12) func207 ?_
 refine sr ?_
 refine Qbn rfl (Qk rfl) (by decide) (fun p8 => ?_)
 refine wa (nt' (sr ?_))
 refine wv (vf Qrf rfl Qao) ?_
 refine wv (vl 0 1 Qq) ?_
 refine wm ?_
 refine wcv (Qr Qnh rfl) (fun W hm => Qnv W _ x0.Values x1 (hm.rdS0 r7)) ?_
 refine wa (nt' (Qe (sr (wm ?_))))
 refine wv Qai ?_
 refine nt' ?_
 rcases dcd ((Qdj x0.Values x1) < 0) with ⟨h9, g10⟩ | ⟨h9, g10⟩
 ·
  refine Ql rfl g10 ?_
  refine sr (wa (nt' (Qj (Qg ?_))))
  exact rti (h := Qb g10 (rfl))
 refine Qm rfl g10 ?_
 refine Qp (Qd (sr (wm (wa (nt' (Qj ?_))))))
 exact rti (h := Qc g10 (rfl))

def Qagu (x0 : (List Qt)) (k8 : Nat) (s9 : Int) : Int ⊕ (Int) :=
 cond (decide ((Qot (gt x0 k8) s9) < 0)) (Sum.inl (-1)) (Sum.inr (Qot (gt x0 k8) s9))
def Qqk (x0 : (List Qt)) (x1 : Int) : Int :=
 cond (decide ((IntKind.i64.wrap (x1 - ((x0.length : Nat) : Int))) < 0)) (-1) (Sum.elim id (fun (s : Int) => s) (rng (R := Int) (fun k (s : Int) => Qagu x0 k s) (x0.length - 0) 0 (IntKind.i64.wrap (x1 - ((x0.length : Nat) : Int)))))
theorem Qaop : Cb Tryz.prog 184 := ⟨f184, _, func184, rfl, by decide⟩
theorem Qaxl (w : World) (z0 : Value) (x0 : (List Qt)) (x1 : Int) (r_0 : rdS Qim w w.heap.size z0 x0) :
  Calls Tryz.prog 184 #[z0, iV x1] w (rI w (Qqk x0 x1)) := by
 obtain ⟨m1, A2, c3, rfl, q4, r5⟩ := Qi r_0
 refine ce2 (L := [(0, .slice A2 x0.length c3), (1, iV x1)]) (N := 27) func184 ?_
 refine sr (wa (nt' (sr (wm (wm ?_)))))
 refine wv (Qag Qph) ?_
 refine wv (fun W hm => Qik rfl rfl) ?_
 refine wa (nt' (Qe (sr (wm ?_))))
 refine wv Qai ?_
 refine nt' ?_
 rcases dcd ((IntKind.i64.wrap (x1 - ((x0.length : Nat) : Int))) < 0) with ⟨h6, g7⟩ | ⟨h6, g7⟩
 ·
  refine Ql rfl g7 ?_
  refine sr (wa (nt' (Qj (Qg ?_))))
  exact rti (h := Qb g7 (rfl))
 refine Qm rfl g7 ?_
 refine Qp (Qd (Qe (sr (wa (nt' (Qx ?_))))))
 refine Qbg (S := Int) (R := Unit) (fun k (s : Int) => Qagu x0 k s) x0.length 0 (IntKind.i64.wrap (x1 - ((x0.length : Nat) : Int))) () (fun s => [(0, .slice A2 x0.length c3), (1, iV s.2.1), (5, nI s.1)]) (fun s => []) (fun s => True) sl3 trivial ?_
 rintro ⟨k8, s9, ⟨⟩⟩ H12 _ _ e e'
 dsimp only at H12 ⊢
 subst e e'
 obtain ⟨hk10, hF11, _⟩ := H12
 refine Qe (sr (wm (wm ?_)))
 refine wv (Qag Qph) ?_
 refine wv Qai ?_
 refine nt' ?_
 rcases dcl k8 x0.length with ⟨hl13, g14⟩ | ⟨hl13, g14⟩
 ·
  refine Ql rfl g14 ?_
  refine Qp (Qd (Qe (Qx (sr (wm (wm ?_))))))
  obtain ⟨a15, rfl, hb16, he17⟩ := q4 (by omega)
  refine wv (vix 4 k8 Qph type218) ?_
  obtain ⟨_, e21, hc18⟩ := he17 k8 _ (Qbs (show k8 < x0.length from by omega))
  obtain ⟨v19, rfl, r20⟩ := Qwj e21
  obtain ⟨m22, A23, c24, rfl, q25, r26⟩ := Qi r20
  refine wv (fun W hm => Qad (cs := [iV ((gt x0 k8).Id), .slice A23 ((gt x0 k8).Values).length c24, iV ((gt x0 k8).Born), iV ((gt x0 k8).Died)]) Qrf type218 rfl rfl (hm.elCells (show (a15.add (k8 * 4)).block < w.heap.size from by rw [Qae]; exact hb16.1) hc18)) ?_
  refine wm ?_
  refine wcv (Qr Qapa rfl) (fun W hm => Qaxn W _ (gt x0 k8) s9 (Qajg (x := (gt x0 k8)) (hm.rdS0 r26))) ?_
  refine wa (nt' (sr (wm ?_)))
  refine wv Qai ?_
  refine nt' ?_
  rcases dcd ((Qot (gt x0 k8) s9) < 0) with ⟨h27, g28⟩ | ⟨h27, g28⟩
  ·
   refine Ql rfl g28 ?_
   refine sr (wa (nt' (Qj (Qaa (Qg (Qg (Qaa (Qg ?_))))))))
   exact rti (h := Qc g7 (Qbf (nr hF11 (Qb g28 (rfl))) rfl))
  refine Qm rfl g28 ?_
  refine Qp (Qam (Qd (Qy (wm ?_))))
  refine wv (Qal k8 1 (by omega)) ?_
  refine wa (Qac ?_)
  exact Qan (k8 + 1, (Qot (gt x0 k8) s9), ()) sl3 idM ⟨(by omega), nx hF11 (Qc g28 (rfl)), trivial⟩ rl
 refine Qm rfl g14 ?_
 refine Qay (Qu (Qu ?_))
 have hE30 := Qbh hl13 hF11
 refine Qaz (Qd (sr (wm (wa (nt' (Qj ?_))))))
 exact rti (h := Qc g7 (Qar hE30 (rfl)))

def Qagt (x0 : (List (List Qt))) (k8 : Nat) (s9 : Int) : Int ⊕ (Int) :=
 cond (decide ((Qqk (gt x0 k8) s9) < 0)) (Sum.inl (-1)) (Sum.inr (Qqk (gt x0 k8) s9))
def Qsl (x0 : (List (List Qt))) (x1 : Int) : Int :=
 cond (decide ((IntKind.i64.wrap (x1 - ((x0.length : Nat) : Int))) < 0)) (-1) (Sum.elim id (fun (s : Int) => s) (rng (R := Int) (fun k (s : Int) => Qagt x0 k s) (x0.length - 0) 0 (IntKind.i64.wrap (x1 - ((x0.length : Nat) : Int)))))
theorem Qank : Cb Tryz.prog 126 := ⟨f126, _, func126, rfl, by decide⟩
theorem Qaxj (w : World) (z0 : Value) (x0 : (List (List Qt))) (x1 : Int) (r_0 : rdS (tSl Qim 218) w w.heap.size z0 x0) :
  Calls Tryz.prog 126 #[z0, iV x1] w (rI w (Qsl x0 x1)) := by
 obtain ⟨m1, A2, c3, rfl, q4, r5⟩ := Qi r_0
 refine ce2 (L := [(0, .slice A2 x0.length c3), (1, iV x1)]) (N := 27) func126 ?_
 refine sr (wa (nt' (sr (wm (wm ?_)))))
 refine wv (Qag Qpj) ?_
 refine wv (fun W hm => Qik rfl rfl) ?_
 refine wa (nt' (Qe (sr (wm ?_))))
 refine wv Qai ?_
 refine nt' ?_
 rcases dcd ((IntKind.i64.wrap (x1 - ((x0.length : Nat) : Int))) < 0) with ⟨h6, g7⟩ | ⟨h6, g7⟩
 ·
  refine Ql rfl g7 ?_
  refine sr (wa (nt' (Qj (Qg ?_))))
  exact rti (h := Qb g7 (rfl))
 refine Qm rfl g7 ?_
 refine Qp (Qd (Qe (sr (wa (nt' (Qx ?_))))))
 refine Qbg (S := Int) (R := Unit) (fun k (s : Int) => Qagt x0 k s) x0.length 0 (IntKind.i64.wrap (x1 - ((x0.length : Nat) : Int))) () (fun s => [(0, .slice A2 x0.length c3), (1, iV s.2.1), (5, nI s.1)]) (fun s => []) (fun s => True) sl3 trivial ?_
 rintro ⟨k8, s9, ⟨⟩⟩ H12 _ _ e e'
 dsimp only at H12 ⊢
 subst e e'
 obtain ⟨hk10, hF11, _⟩ := H12
 refine Qe (sr (wm (wm ?_)))
 refine wv (Qag Qpj) ?_
 refine wv Qai ?_
 refine nt' ?_
 rcases dcl k8 x0.length with ⟨hl13, g14⟩ | ⟨hl13, g14⟩
 ·
  refine Ql rfl g14 ?_
  refine Qp (Qd (Qe (Qx (sr (wm (wm ?_))))))
  obtain ⟨a15, rfl, hb16, he17⟩ := q4 (by omega)
  refine wv (vix 1 k8 Qpj type196) ?_
  obtain ⟨_, e19, hc18⟩ := he17 k8 _ (Qbs (show k8 < x0.length from by omega))
  obtain ⟨v20, rfl, r21⟩ := e19
  obtain ⟨m22, A23, c24, rfl, q25, r26⟩ := Qi r21
  refine wv (fun W hm => Qaw Qph rfl rfl ((hm.cell0 (show (a15.add (k8 * 1)).block < w.heap.size from by rw [Qae]; exact hb16.1)).trans (hc18 0 _ rfl))) ?_
  refine wm ?_
  refine wcv (Qr Qaop rfl) (fun W hm => Qaxl W _ (gt x0 k8) s9 (hm.rdS0 r26)) ?_
  refine wa (nt' (sr (wm ?_)))
  refine wv Qai ?_
  refine nt' ?_
  rcases dcd ((Qqk (gt x0 k8) s9) < 0) with ⟨h27, g28⟩ | ⟨h27, g28⟩
  ·
   refine Ql rfl g28 ?_
   refine sr (wa (nt' (Qj (Qaa (Qg (Qg (Qaa (Qg ?_))))))))
   exact rti (h := Qc g7 (Qbf (nr hF11 (Qb g28 (rfl))) rfl))
  refine Qm rfl g28 ?_
  refine Qp (Qam (Qd (Qy (wm ?_))))
  refine wv (Qal k8 1 (by omega)) ?_
  refine wa (Qac ?_)
  exact Qan (k8 + 1, (Qqk (gt x0 k8) s9), ()) sl3 idM ⟨(by omega), nx hF11 (Qc g28 (rfl)), trivial⟩ rl
 refine Qm rfl g14 ?_
 refine Qay (Qu (Qu ?_))
 have hE30 := Qbh hl13 hF11
 refine Qaz (Qd (sr (wm (wa (nt' (Qj ?_))))))
 exact rti (h := Qc g7 (Qar hE30 (rfl)))

def Qhl (x0 : Qau) (x1 : Int) : Int :=
 cond (decide ((Qsl x0.Segments x1) < 0)) (-1) (Qsl x0.Segments x1)
theorem cb56 : Cb Tryz.prog 56 := ⟨f56, _, func56, rfl, by decide⟩
theorem Qaxh (w : World) (z0 : List Value) (x0 : Qau) (x1 : Int) (r_0 : Qpe.rd w w.heap.size z0 x0) :
  Calls Tryz.prog 56 #[.agg z0.toArray, iV x1] w (rI w (Qhl x0 x1)) := by
 obtain ⟨v1, rfl, r2⟩ := Qajf r_0
 obtain ⟨m3, A4, c5, rfl, q6, r7⟩ := Qi r2
 refine ce2 (L := [(0, .agg #[.slice A4 x0.Segments.length c5, iV x0.Now]), (1, iV x1)]) (N := 12) func56 ?_
 refine sr ?_
 refine Qbn rfl (Qk rfl) (by decide) (fun p8 => ?_)
 refine wa (nt' (sr ?_))
 refine wv (vf underlying24 rfl type22) ?_
 refine wv (vl 0 0 Qpj) ?_
 refine wm ?_
 refine wcv (Qr Qank rfl) (fun W hm => Qaxj W _ x0.Segments x1 (hm.rdS0 r7)) ?_
 refine wa (nt' (Qe (sr (wm ?_))))
 refine wv Qai ?_
 refine nt' ?_
 rcases dcd ((Qsl x0.Segments x1) < 0) with ⟨h9, g10⟩ | ⟨h9, g10⟩
 ·
  refine Ql rfl g10 ?_
  refine sr (wa (nt' (Qj (Qg ?_))))
  exact rti (h := Qb g10 (rfl))
 refine Qm rfl g10 ?_
 refine Qp (Qd (sr (wm (wa (nt' (Qj ?_))))))
 exact rti (h := Qc g10 (rfl))

def Qnt (x0 : (List Qcd)) (x1 : Int) : Int :=
 cond (decide ((IntKind.i64.wrap (x1 - ((x0.length : Nat) : Int))) < 0)) (-1) (IntKind.i64.wrap (x1 - ((x0.length : Nat) : Int)))
theorem Qapb : Cb Tryz.prog 208 := ⟨f208, _, func208, rfl, by decide⟩
theorem Qawy (w : World) (z0 : Value) (x0 : (List Qcd)) (x1 : Int) (r_0 : rdS Qjp w w.heap.size z0 x0) :
  Calls Tryz.prog 208 #[z0, iV x1] w (rI w (Qnt x0 x1)) := by
 obtain ⟨m1, A2, c3, rfl, q4, r5⟩ := Qi r_0
 refine ce2 (L := [(0, .slice A2 x0.length c3), (1, iV x1)]) (N := 12) func208 ?_
 refine sr (wa (nt' (sr (wm (wm ?_)))))
 refine wv (Qag Qtf) ?_
 refine wv (fun W hm => Qik rfl rfl) ?_
 refine wa (nt' (Qe (sr (wm ?_))))
 refine wv Qai ?_
 refine nt' ?_
 rcases dcd ((IntKind.i64.wrap (x1 - ((x0.length : Nat) : Int))) < 0) with ⟨h6, g7⟩ | ⟨h6, g7⟩
 ·
  refine Ql rfl g7 ?_
  refine sr (wa (nt' (Qj (Qg ?_))))
  exact rti (h := Qb g7 (rfl))
 refine Qm rfl g7 ?_
 refine Qp (Qd (sr (wm (wa (nt' (Qj ?_))))))
 exact rti (h := Qc g7 (rfl))

def Qhk (x0 : Qat) (x1 : Int) : Int :=
 cond (decide ((Qnt x0.Conds x1) < 0)) (-1) (cond (decide ((Qdj x0.Out (Qnt x0.Conds x1)) < 0)) (-1) (Qdj x0.Out (Qnt x0.Conds x1)))
theorem Qadx : Cb Tryz.prog 185 := ⟨f185, _, func185, rfl, by decide⟩
theorem Qago (w : World) (z0 : List Value) (x0 : Qat) (x1 : Int) (r_0 : Qog.rd w w.heap.size z0 x0) :
  Calls Tryz.prog 185 #[.agg z0.toArray, iV x1] w (rI w (Qhk x0 x1)) := by
 obtain ⟨v1, v3, rfl, r2, r4⟩ := Qaiz r_0
 obtain ⟨m5, A6, c7, rfl, q8, r9⟩ := Qi r2
 obtain ⟨m10, A11, c12, rfl, q13, r14⟩ := Qi r4
 refine ce2 (L := [(0, .agg #[iV x0.Id, iV x0.Tenant, .slice A6 x0.Conds.length c7, .slice A11 x0.Out.length c12]), (1, iV x1)]) (N := 18) func185 ?_
 refine sr ?_
 refine Qbn rfl (Qk rfl) (by decide) (fun p15 => ?_)
 refine wa (nt' (sr ?_))
 refine wv (vf Qmx rfl type142) ?_
 refine wv (vl 0 2 Qtf) ?_
 refine wm ?_
 refine wcv (Qr Qapb rfl) (fun W hm => Qawy W _ x0.Conds x1 (hm.rdS0 r9)) ?_
 refine wa (nt' (Qe (sr (wm ?_))))
 refine wv Qai ?_
 refine nt' ?_
 rcases dcd ((Qnt x0.Conds x1) < 0) with ⟨h16, g17⟩ | ⟨h16, g17⟩
 ·
  refine Ql rfl g17 ?_
  refine sr (wa (nt' (Qj (Qg ?_))))
  exact rti (h := Qb g17 (rfl))
 refine Qm rfl g17 ?_
 refine Qp (Qd (sr ?_))
 refine wv (vf Qmx rfl Qao) ?_
 refine wv (vl 0 3 Qq) ?_
 refine wm ?_
 refine wcv (Qr Qnh rfl) (fun W hm => Qnv W _ x0.Out (Qnt x0.Conds x1) (hm.rdS0 r14)) ?_
 refine wa (nt' (Qe (sr (wm ?_))))
 refine wv Qai ?_
 refine nt' ?_
 rcases dcd ((Qdj x0.Out (Qnt x0.Conds x1)) < 0) with ⟨h18, g19⟩ | ⟨h18, g19⟩
 ·
  refine Ql rfl g19 ?_
  refine sr (wa (nt' (Qj (Qg ?_))))
  exact rti (h := Qc g17 (Qb g19 (rfl)))
 refine Qm rfl g19 ?_
 refine Qp (Qd (sr (wm (wa (nt' (Qj ?_))))))
 exact rti (h := Qc g17 (Qc g19 (rfl)))

def Qos (x0 : Qab) (x1 : Int) : Int :=
 cond (decide ((Qdj x0.Values x1) < 0)) (-1) (Qdj x0.Values x1)
theorem Qapc : Cb Tryz.prog 209 := ⟨f209, _, func209, rfl, by decide⟩
theorem Qaxf (w : World) (z0 : List Value) (x0 : Qab) (x1 : Int) (r_0 : Qiu.rd w w.heap.size z0 x0) :
  Calls Tryz.prog 209 #[.agg z0.toArray, iV x1] w (rI w (Qos x0 x1)) := by
 obtain ⟨v1, rfl, r2⟩ := Qwi r_0
 obtain ⟨m3, A4, c5, rfl, q6, r7⟩ := Qi r2
 refine ce2 (L := [(0, .agg #[iV x0.Id, .slice A4 x0.Values.length c5]), (1, iV x1)]) (N := 12) func209 ?_
 refine sr ?_
 refine Qbn rfl (Qk rfl) (by decide) (fun p8 => ?_)
 refine wa (nt' (sr ?_))
 refine wv (vf underlying221 rfl Qao) ?_
 refine wv (vl 0 1 Qq) ?_
 refine wm ?_
 refine wcv (Qr Qnh rfl) (fun W hm => Qnv W _ x0.Values x1 (hm.rdS0 r7)) ?_
 refine wa (nt' (Qe (sr (wm ?_))))
 refine wv Qai ?_
 refine nt' ?_
 rcases dcd ((Qdj x0.Values x1) < 0) with ⟨h9, g10⟩ | ⟨h9, g10⟩
 ·
  refine Ql rfl g10 ?_
  refine sr (wa (nt' (Qj (Qg ?_))))
  exact rti (h := Qb g10 (rfl))
 refine Qm rfl g10 ?_
 refine Qp (Qd (sr (wm (wa (nt' (Qj ?_))))))
 exact rti (h := Qc g10 (rfl))

def Qagq (x0 : (List Qab)) (k8 : Nat) (s9 : Int) : Int ⊕ (Int) :=
 cond (decide ((Qos (gt x0 k8) s9) < 0)) (Sum.inl (-1)) (Sum.inr (Qos (gt x0 k8) s9))
def Qnx (x0 : (List Qab)) (x1 : Int) : Int :=
 cond (decide ((IntKind.i64.wrap (x1 - ((x0.length : Nat) : Int))) < 0)) (-1) (Sum.elim id (fun (s : Int) => s) (rng (R := Int) (fun k (s : Int) => Qagq x0 k s) (x0.length - 0) 0 (IntKind.i64.wrap (x1 - ((x0.length : Nat) : Int)))))
theorem Qady : Cb Tryz.prog 186 := ⟨f186, _, func186, rfl, by decide⟩
theorem Qagr (w : World) (z0 : Value) (x0 : (List Qab)) (x1 : Int) (r_0 : rdS Qiu w w.heap.size z0 x0) :
  Calls Tryz.prog 186 #[z0, iV x1] w (rI w (Qnx x0 x1)) := by
 obtain ⟨m1, A2, c3, rfl, q4, r5⟩ := Qi r_0
 refine ce2 (L := [(0, .slice A2 x0.length c3), (1, iV x1)]) (N := 27) func186 ?_
 refine sr (wa (nt' (sr (wm (wm ?_)))))
 refine wv (Qag Qmy) ?_
 refine wv (fun W hm => Qik rfl rfl) ?_
 refine wa (nt' (Qe (sr (wm ?_))))
 refine wv Qai ?_
 refine nt' ?_
 rcases dcd ((IntKind.i64.wrap (x1 - ((x0.length : Nat) : Int))) < 0) with ⟨h6, g7⟩ | ⟨h6, g7⟩
 ·
  refine Ql rfl g7 ?_
  refine sr (wa (nt' (Qj (Qg ?_))))
  exact rti (h := Qb g7 (rfl))
 refine Qm rfl g7 ?_
 refine Qp (Qd (Qe (sr (wa (nt' (Qx ?_))))))
 refine Qbg (S := Int) (R := Unit) (fun k (s : Int) => Qagq x0 k s) x0.length 0 (IntKind.i64.wrap (x1 - ((x0.length : Nat) : Int))) () (fun s => [(0, .slice A2 x0.length c3), (1, iV s.2.1), (5, nI s.1)]) (fun s => []) (fun s => True) sl3 trivial ?_
 rintro ⟨k8, s9, ⟨⟩⟩ H12 _ _ e e'
 dsimp only at H12 ⊢
 subst e e'
 obtain ⟨hk10, hF11, _⟩ := H12
 refine Qe (sr (wm (wm ?_)))
 refine wv (Qag Qmy) ?_
 refine wv Qai ?_
 refine nt' ?_
 rcases dcl k8 x0.length with ⟨hl13, g14⟩ | ⟨hl13, g14⟩
 ·
  refine Ql rfl g14 ?_
  refine Qp (Qd (Qe (Qx (sr (wm (wm ?_))))))
  obtain ⟨a15, rfl, hb16, he17⟩ := q4 (by omega)
  refine wv (vix 2 k8 Qmy type221) ?_
  obtain ⟨_, e21, hc18⟩ := he17 k8 _ (Qbs (show k8 < x0.length from by omega))
  obtain ⟨v19, rfl, r20⟩ := Qwi e21
  obtain ⟨m22, A23, c24, rfl, q25, r26⟩ := Qi r20
  refine wv (fun W hm => Qad (cs := [iV ((gt x0 k8).Id), .slice A23 ((gt x0 k8).Values).length c24]) underlying221 type221 rfl rfl (hm.elCells (show (a15.add (k8 * 2)).block < w.heap.size from by rw [Qae]; exact hb16.1) hc18)) ?_
  refine wm ?_
  refine wcv (Qr Qapc rfl) (fun W hm => Qaxf W _ (gt x0 k8) s9 (Qajc (x := (gt x0 k8)) (hm.rdS0 r26))) ?_
  refine wa (nt' (sr (wm ?_)))
  refine wv Qai ?_
  refine nt' ?_
  rcases dcd ((Qos (gt x0 k8) s9) < 0) with ⟨h27, g28⟩ | ⟨h27, g28⟩
  ·
   refine Ql rfl g28 ?_
   refine sr (wa (nt' (Qj (Qaa (Qg (Qg (Qaa (Qg ?_))))))))
   exact rti (h := Qc g7 (Qbf (nr hF11 (Qb g28 (rfl))) rfl))
  refine Qm rfl g28 ?_
  refine Qp (Qam (Qd (Qy (wm ?_))))
  refine wv (Qal k8 1 (by omega)) ?_
  refine wa (Qac ?_)
  exact Qan (k8 + 1, (Qos (gt x0 k8) s9), ()) sl3 idM ⟨(by omega), nx hF11 (Qc g28 (rfl)), trivial⟩ rl
 refine Qm rfl g14 ?_
 refine Qay (Qu (Qu ?_))
 have hE30 := Qbh hl13 hF11
 refine Qaz (Qd (sr (wm (wa (nt' (Qj ?_))))))
 exact rti (h := Qc g7 (Qar hE30 (rfl)))

def Qop (x0 : Qw) (x1 : Int) : Int :=
 cond (decide ((Qhk x0.Query x1) < 0)) (-1) (cond (decide ((Qdj x0.Todo (Qhk x0.Query x1)) < 0)) (-1) (cond (decide ((Qnx x0.Rows (Qdj x0.Todo (Qhk x0.Query x1))) < 0)) (-1) (Qnx x0.Rows (Qdj x0.Todo (Qhk x0.Query x1)))))
theorem Qanl : Cb Tryz.prog 127 := ⟨f127, _, func127, rfl, by decide⟩
theorem Qaws (w : World) (z0 : List Value) (x0 : Qw) (x1 : Int) (r_0 : Qle.rd w w.heap.size z0 x0) :
  Calls Tryz.prog 127 #[.agg z0.toArray, iV x1] w (rI w (Qop x0 x1)) := by
 obtain ⟨v1, v3, v5, v7, rfl, r2, r4, r6, r8⟩ := Qwe r_0
 obtain ⟨m9, A10, c11, rfl, q12, r13⟩ := Qi r2
 obtain ⟨m14, A15, c16, rfl, q17, r18⟩ := Qi r4
 obtain ⟨m19, A20, c21, rfl, q22, r23⟩ := Qi r6
 obtain ⟨m24, A25, c26, rfl, q27, r28⟩ := Qi r8
 refine ce2 (L := [(0, .agg #[iV x0.Query.Id, iV x0.Query.Tenant, .slice A10 x0.Query.Conds.length c11, .slice A15 x0.Query.Out.length c16, iV x0.Time, .slice A20 x0.Todo.length c21, iV x0.Age, iV x0.Sent, iV x0.Cap, .slice A25 x0.Rows.length c26]), (1, iV x1)]) (N := 24) func127 ?_
 refine sr ?_
 refine Qbn rfl (Qk rfl) (by decide) (fun p29 => ?_)
 refine wa (nt' (sr ?_))
 refine wv (vf Qli rfl type144) ?_
 refine wv (fun W hm => Qad (cs := [iV x0.Query.Id, iV x0.Query.Tenant, .slice A10 x0.Query.Conds.length c11, .slice A15 x0.Query.Out.length c16]) Qmx type144 rfl rfl (hm.boxPart (n := 0) rfl rfl)) ?_
 refine wm ?_
 refine wcv (Qr Qadx rfl) (fun W hm => Qago W _ x0.Query x1 (Qwh (x := x0.Query) (hm.rdS0 r13) (hm.rdS0 r18))) ?_
 refine wa (nt' (Qe (sr (wm ?_))))
 refine wv Qai ?_
 refine nt' ?_
 rcases dcd ((Qhk x0.Query x1) < 0) with ⟨h30, g31⟩ | ⟨h30, g31⟩
 ·
  refine Ql rfl g31 ?_
  refine sr (wa (nt' (Qj (Qg ?_))))
  exact rti (h := Qb g31 (rfl))
 refine Qm rfl g31 ?_
 refine Qp (Qd (sr ?_))
 refine wv (vf Qli rfl Qao) ?_
 refine wv (vl 0 5 Qq) ?_
 refine wm ?_
 refine wcv (Qr Qnh rfl) (fun W hm => Qnv W _ x0.Todo (Qhk x0.Query x1) (hm.rdS0 r23)) ?_
 refine wa (nt' (Qe (sr (wm ?_))))
 refine wv Qai ?_
 refine nt' ?_
 rcases dcd ((Qdj x0.Todo (Qhk x0.Query x1)) < 0) with ⟨h32, g33⟩ | ⟨h32, g33⟩
 ·
  refine Ql rfl g33 ?_
  refine sr (wa (nt' (Qj (Qg ?_))))
  exact rti (h := Qc g31 (Qb g33 (rfl)))
 refine Qm rfl g33 ?_
 refine Qp (Qd (sr ?_))
 refine wv (vf Qli rfl type145) ?_
 refine wv (vl 0 9 Qmy) ?_
 refine wm ?_
 refine wcv (Qr Qady rfl) (fun W hm => Qagr W _ x0.Rows (Qdj x0.Todo (Qhk x0.Query x1)) (hm.rdS0 r28)) ?_
 refine wa (nt' (Qe (sr (wm ?_))))
 refine wv Qai ?_
 refine nt' ?_
 rcases dcd ((Qnx x0.Rows (Qdj x0.Todo (Qhk x0.Query x1))) < 0) with ⟨h34, g35⟩ | ⟨h34, g35⟩
 ·
  refine Ql rfl g35 ?_
  refine sr (wa (nt' (Qj (Qg ?_))))
  exact rti (h := Qc g31 (Qc g33 (Qb g35 (rfl))))
 refine Qm rfl g35 ?_
 refine Qp (Qd (sr (wm (wa (nt' (Qj ?_))))))
 exact rti (h := Qc g31 (Qc g33 (Qc g35 (rfl))))

def Qagk (x0 : (List Qw)) (k8 : Nat) (s9 : Int) : Int ⊕ (Int) :=
 cond (decide ((Qop (gt x0 k8) s9) < 0)) (Sum.inl (-1)) (Sum.inr (Qop (gt x0 k8) s9))
def Qks (x0 : (List Qw)) (x1 : Int) : Int :=
 cond (decide ((IntKind.i64.wrap (x1 - ((x0.length : Nat) : Int))) < 0)) (-1) (Sum.elim id (fun (s : Int) => s) (rng (R := Int) (fun k (s : Int) => Qagk x0 k s) (x0.length - 0) 0 (IntKind.i64.wrap (x1 - ((x0.length : Nat) : Int)))))
theorem cb58 : Cb Tryz.prog 58 := ⟨f58, _, func58, rfl, by decide⟩
theorem Qawq (w : World) (z0 : Value) (x0 : (List Qw)) (x1 : Int) (r_0 : rdS Qle w w.heap.size z0 x0) :
  Calls Tryz.prog 58 #[z0, iV x1] w (rI w (Qks x0 x1)) := by
 obtain ⟨m1, A2, c3, rfl, q4, r5⟩ := Qi r_0
 refine ce2 (L := [(0, .slice A2 x0.length c3), (1, iV x1)]) (N := 27) func58 ?_
 refine sr (wa (nt' (sr (wm (wm ?_)))))
 refine wv (Qag Qpk) ?_
 refine wv (fun W hm => Qik rfl rfl) ?_
 refine wa (nt' (Qe (sr (wm ?_))))
 refine wv Qai ?_
 refine nt' ?_
 rcases dcd ((IntKind.i64.wrap (x1 - ((x0.length : Nat) : Int))) < 0) with ⟨h6, g7⟩ | ⟨h6, g7⟩
 ·
  refine Ql rfl g7 ?_
  refine sr (wa (nt' (Qj (Qg ?_))))
  exact rti (h := Qb g7 (rfl))
 refine Qm rfl g7 ?_
 refine Qp (Qd (Qe (sr (wa (nt' (Qx ?_))))))
 refine Qbg (S := Int) (R := Unit) (fun k (s : Int) => Qagk x0 k s) x0.length 0 (IntKind.i64.wrap (x1 - ((x0.length : Nat) : Int))) () (fun s => [(0, .slice A2 x0.length c3), (1, iV s.2.1), (5, nI s.1)]) (fun s => []) (fun s => True) sl3 trivial ?_
 rintro ⟨k8, s9, ⟨⟩⟩ H12 _ _ e e'
 dsimp only at H12 ⊢
 subst e e'
 obtain ⟨hk10, hF11, _⟩ := H12
 refine Qe (sr (wm (wm ?_)))
 refine wv (Qag Qpk) ?_
 refine wv Qai ?_
 refine nt' ?_
 rcases dcl k8 x0.length with ⟨hl13, g14⟩ | ⟨hl13, g14⟩
 ·
  refine Ql rfl g14 ?_
  refine Qp (Qd (Qe (Qx (sr (wm (wm ?_))))))
  obtain ⟨a15, rfl, hb16, he17⟩ := q4 (by omega)
  refine wv (vix 10 k8 Qpk type147) ?_
  obtain ⟨_, e27, hc18⟩ := he17 k8 _ (Qbs (show k8 < x0.length from by omega))
  obtain ⟨v19, v21, v23, v25, rfl, r20, r22, r24, r26⟩ := Qwe e27
  obtain ⟨m28, A29, c30, rfl, q31, r32⟩ := Qi r20
  obtain ⟨m33, A34, c35, rfl, q36, r37⟩ := Qi r22
  obtain ⟨m38, A39, c40, rfl, q41, r42⟩ := Qi r24
  obtain ⟨m43, A44, c45, rfl, q46, r47⟩ := Qi r26
  refine wv (fun W hm => Qad (cs := [iV ((gt x0 k8).Query.Id), iV ((gt x0 k8).Query.Tenant), .slice A29 ((gt x0 k8).Query.Conds).length c30, .slice A34 ((gt x0 k8).Query.Out).length c35, iV ((gt x0 k8).Time), .slice A39 ((gt x0 k8).Todo).length c40, iV ((gt x0 k8).Age), iV ((gt x0 k8).Sent), iV ((gt x0 k8).Cap), .slice A44 ((gt x0 k8).Rows).length c45]) Qli type147 rfl rfl (hm.elCells (show (a15.add (k8 * 10)).block < w.heap.size from by rw [Qae]; exact hb16.1) hc18)) ?_
  refine wm ?_
  refine wcv (Qr Qanl rfl) (fun W hm => Qaws W _ (gt x0 k8) s9 (Qait (x := (gt x0 k8)) (hm.rdS0 r32) (hm.rdS0 r37) (hm.rdS0 r42) (hm.rdS0 r47))) ?_
  refine wa (nt' (sr (wm ?_)))
  refine wv Qai ?_
  refine nt' ?_
  rcases dcd ((Qop (gt x0 k8) s9) < 0) with ⟨h48, g49⟩ | ⟨h48, g49⟩
  ·
   refine Ql rfl g49 ?_
   refine sr (wa (nt' (Qj (Qaa (Qg (Qg (Qaa (Qg ?_))))))))
   exact rti (h := Qc g7 (Qbf (nr hF11 (Qb g49 (rfl))) rfl))
  refine Qm rfl g49 ?_
  refine Qp (Qam (Qd (Qy (wm ?_))))
  refine wv (Qal k8 1 (by omega)) ?_
  refine wa (Qac ?_)
  exact Qan (k8 + 1, (Qop (gt x0 k8) s9), ()) sl3 idM ⟨(by omega), nx hF11 (Qc g49 (rfl)), trivial⟩ rl
 refine Qm rfl g14 ?_
 refine Qay (Qu (Qu ?_))
 have hE51 := Qbh hl13 hF11
 refine Qaz (Qd (sr (wm (wa (nt' (Qj ?_))))))
 exact rti (h := Qc g7 (Qar hE51 (rfl)))

def Qor (x0 : Qav) (x1 : Int) : Int :=
 cond (decide ((Qhk x0.Query x1) < 0)) (-1) (cond (decide ((Qnx x0.Rows (Qhk x0.Query x1)) < 0)) (-1) (Qnx x0.Rows (Qhk x0.Query x1)))
theorem Qanm : Cb Tryz.prog 128 := ⟨f128, _, func128, rfl, by decide⟩
theorem Qaxd (w : World) (z0 : List Value) (x0 : Qav) (x1 : Int) (r_0 : Qlg.rd w w.heap.size z0 x0) :
  Calls Tryz.prog 128 #[.agg z0.toArray, iV x1] w (rI w (Qor x0 x1)) := by
 obtain ⟨v1, v3, v5, rfl, r2, r4, r6⟩ := Qwg r_0
 obtain ⟨m7, A8, c9, rfl, q10, r11⟩ := Qi r2
 obtain ⟨m12, A13, c14, rfl, q15, r16⟩ := Qi r4
 obtain ⟨m17, A18, c19, rfl, q20, r21⟩ := Qi r6
 refine ce2 (L := [(0, .agg #[iV x0.Query.Id, iV x0.Query.Tenant, .slice A8 x0.Query.Conds.length c9, .slice A13 x0.Query.Out.length c14, iV x0.Time, iV x0.Steps, .slice A18 x0.Rows.length c19]), (1, iV x1)]) (N := 18) func128 ?_
 refine sr ?_
 refine Qbn rfl (Qk rfl) (by decide) (fun p22 => ?_)
 refine wa (nt' (sr ?_))
 refine wv (vf Qpg rfl type144) ?_
 refine wv (fun W hm => Qad (cs := [iV x0.Query.Id, iV x0.Query.Tenant, .slice A8 x0.Query.Conds.length c9, .slice A13 x0.Query.Out.length c14]) Qmx type144 rfl rfl (hm.boxPart (n := 0) rfl rfl)) ?_
 refine wm ?_
 refine wcv (Qr Qadx rfl) (fun W hm => Qago W _ x0.Query x1 (Qwh (x := x0.Query) (hm.rdS0 r11) (hm.rdS0 r16))) ?_
 refine wa (nt' (Qe (sr (wm ?_))))
 refine wv Qai ?_
 refine nt' ?_
 rcases dcd ((Qhk x0.Query x1) < 0) with ⟨h23, g24⟩ | ⟨h23, g24⟩
 ·
  refine Ql rfl g24 ?_
  refine sr (wa (nt' (Qj (Qg ?_))))
  exact rti (h := Qb g24 (rfl))
 refine Qm rfl g24 ?_
 refine Qp (Qd (sr ?_))
 refine wv (vf Qpg rfl type145) ?_
 refine wv (vl 0 6 Qmy) ?_
 refine wm ?_
 refine wcv (Qr Qady rfl) (fun W hm => Qagr W _ x0.Rows (Qhk x0.Query x1) (hm.rdS0 r21)) ?_
 refine wa (nt' (Qe (sr (wm ?_))))
 refine wv Qai ?_
 refine nt' ?_
 rcases dcd ((Qnx x0.Rows (Qhk x0.Query x1)) < 0) with ⟨h25, g26⟩ | ⟨h25, g26⟩
 ·
  refine Ql rfl g26 ?_
  refine sr (wa (nt' (Qj (Qg ?_))))
  exact rti (h := Qc g24 (Qb g26 (rfl)))
 refine Qm rfl g26 ?_
 refine Qp (Qd (sr (wm (wa (nt' (Qj ?_))))))
 exact rti (h := Qc g24 (Qc g26 (rfl)))

def Qagn (x0 : (List Qav)) (k8 : Nat) (s9 : Int) : Int ⊕ (Int) :=
 cond (decide ((Qor (gt x0 k8) s9) < 0)) (Sum.inl (-1)) (Sum.inr (Qor (gt x0 k8) s9))
def Qnu (x0 : (List Qav)) (x1 : Int) : Int :=
 cond (decide ((IntKind.i64.wrap (x1 - ((x0.length : Nat) : Int))) < 0)) (-1) (Sum.elim id (fun (s : Int) => s) (rng (R := Int) (fun k (s : Int) => Qagn x0 k s) (x0.length - 0) 0 (IntKind.i64.wrap (x1 - ((x0.length : Nat) : Int)))))
theorem cb59 : Cb Tryz.prog 59 := ⟨f59, _, func59, rfl, by decide⟩
theorem Qaxb (w : World) (z0 : Value) (x0 : (List Qav)) (x1 : Int) (r_0 : rdS Qlg w w.heap.size z0 x0) :
  Calls Tryz.prog 59 #[z0, iV x1] w (rI w (Qnu x0 x1)) := by
 obtain ⟨m1, A2, c3, rfl, q4, r5⟩ := Qi r_0
 refine ce2 (L := [(0, .slice A2 x0.length c3), (1, iV x1)]) (N := 27) func59 ?_
 refine sr (wa (nt' (sr (wm (wm ?_)))))
 refine wv (Qag Qpl) ?_
 refine wv (fun W hm => Qik rfl rfl) ?_
 refine wa (nt' (Qe (sr (wm ?_))))
 refine wv Qai ?_
 refine nt' ?_
 rcases dcd ((IntKind.i64.wrap (x1 - ((x0.length : Nat) : Int))) < 0) with ⟨h6, g7⟩ | ⟨h6, g7⟩
 ·
  refine Ql rfl g7 ?_
  refine sr (wa (nt' (Qj (Qg ?_))))
  exact rti (h := Qb g7 (rfl))
 refine Qm rfl g7 ?_
 refine Qp (Qd (Qe (sr (wa (nt' (Qx ?_))))))
 refine Qbg (S := Int) (R := Unit) (fun k (s : Int) => Qagn x0 k s) x0.length 0 (IntKind.i64.wrap (x1 - ((x0.length : Nat) : Int))) () (fun s => [(0, .slice A2 x0.length c3), (1, iV s.2.1), (5, nI s.1)]) (fun s => []) (fun s => True) sl3 trivial ?_
 rintro ⟨k8, s9, ⟨⟩⟩ H12 _ _ e e'
 dsimp only at H12 ⊢
 subst e e'
 obtain ⟨hk10, hF11, _⟩ := H12
 refine Qe (sr (wm (wm ?_)))
 refine wv (Qag Qpl) ?_
 refine wv Qai ?_
 refine nt' ?_
 rcases dcl k8 x0.length with ⟨hl13, g14⟩ | ⟨hl13, g14⟩
 ·
  refine Ql rfl g14 ?_
  refine Qp (Qd (Qe (Qx (sr (wm (wm ?_))))))
  obtain ⟨a15, rfl, hb16, he17⟩ := q4 (by omega)
  refine wv (vix 7 k8 Qpl type150) ?_
  obtain ⟨_, e25, hc18⟩ := he17 k8 _ (Qbs (show k8 < x0.length from by omega))
  obtain ⟨v19, v21, v23, rfl, r20, r22, r24⟩ := Qwg e25
  obtain ⟨m26, A27, c28, rfl, q29, r30⟩ := Qi r20
  obtain ⟨m31, A32, c33, rfl, q34, r35⟩ := Qi r22
  obtain ⟨m36, A37, c38, rfl, q39, r40⟩ := Qi r24
  refine wv (fun W hm => Qad (cs := [iV ((gt x0 k8).Query.Id), iV ((gt x0 k8).Query.Tenant), .slice A27 ((gt x0 k8).Query.Conds).length c28, .slice A32 ((gt x0 k8).Query.Out).length c33, iV ((gt x0 k8).Time), iV ((gt x0 k8).Steps), .slice A37 ((gt x0 k8).Rows).length c38]) Qpg type150 rfl rfl (hm.elCells (show (a15.add (k8 * 7)).block < w.heap.size from by rw [Qae]; exact hb16.1) hc18)) ?_
  refine wm ?_
  refine wcv (Qr Qanm rfl) (fun W hm => Qaxd W _ (gt x0 k8) s9 (Qaix (x := (gt x0 k8)) (hm.rdS0 r30) (hm.rdS0 r35) (hm.rdS0 r40))) ?_
  refine wa (nt' (sr (wm ?_)))
  refine wv Qai ?_
  refine nt' ?_
  rcases dcd ((Qor (gt x0 k8) s9) < 0) with ⟨h41, g42⟩ | ⟨h41, g42⟩
  ·
   refine Ql rfl g42 ?_
   refine sr (wa (nt' (Qj (Qaa (Qg (Qg (Qaa (Qg ?_))))))))
   exact rti (h := Qc g7 (Qbf (nr hF11 (Qb g42 (rfl))) rfl))
  refine Qm rfl g42 ?_
  refine Qp (Qam (Qd (Qy (wm ?_))))
  refine wv (Qal k8 1 (by omega)) ?_
  refine wa (Qac ?_)
  exact Qan (k8 + 1, (Qor (gt x0 k8) s9), ()) sl3 idM ⟨(by omega), nx hF11 (Qc g42 (rfl)), trivial⟩ rl
 refine Qm rfl g14 ?_
 refine Qay (Qu (Qu ?_))
 have hE44 := Qbh hl13 hF11
 refine Qaz (Qd (sr (wm (wa (nt' (Qj ?_))))))
 exact rti (h := Qc g7 (Qar hE44 (rfl)))

def Qoq (x0 : Qbc) (x1 : Int) : Int :=
 cond (decide ((Qdj x0.Ids x1) < 0)) (-1) (cond (decide ((Qdj x0.Tenants (Qdj x0.Ids x1)) < 0)) (-1) (cond (decide ((Qdj x0.Rows (Qdj x0.Tenants (Qdj x0.Ids x1))) < 0)) (-1) (Qdj x0.Rows (Qdj x0.Tenants (Qdj x0.Ids x1)))))
theorem Qann : Cb Tryz.prog 129 := ⟨f129, _, func129, rfl, by decide⟩
theorem Qaww (w : World) (z0 : List Value) (x0 : Qbc) (x1 : Int) (r_0 : Qlf.rd w w.heap.size z0 x0) :
  Calls Tryz.prog 129 #[.agg z0.toArray, iV x1] w (rI w (Qoq x0 x1)) := by
 obtain ⟨v1, v3, v5, rfl, r2, r4, r6⟩ := Qwf r_0
 obtain ⟨m7, A8, c9, rfl, q10, r11⟩ := Qi r2
 obtain ⟨m12, A13, c14, rfl, q15, r16⟩ := Qi r4
 obtain ⟨m17, A18, c19, rfl, q20, r21⟩ := Qi r6
 refine ce2 (L := [(0, .agg #[iV x0.Segment, iV x0.Base, .slice A8 x0.Ids.length c9, .slice A13 x0.Tenants.length c14, .slice A18 x0.Rows.length c19]), (1, iV x1)]) (N := 24) func129 ?_
 refine sr ?_
 refine Qbn rfl (Qk rfl) (by decide) (fun p22 => ?_)
 refine wa (nt' (sr ?_))
 refine wv (vf Qmz rfl Qao) ?_
 refine wv (vl 0 2 Qq) ?_
 refine wm ?_
 refine wcv (Qr Qnh rfl) (fun W hm => Qnv W _ x0.Ids x1 (hm.rdS0 r11)) ?_
 refine wa (nt' (Qe (sr (wm ?_))))
 refine wv Qai ?_
 refine nt' ?_
 rcases dcd ((Qdj x0.Ids x1) < 0) with ⟨h23, g24⟩ | ⟨h23, g24⟩
 ·
  refine Ql rfl g24 ?_
  refine sr (wa (nt' (Qj (Qg ?_))))
  exact rti (h := Qb g24 (rfl))
 refine Qm rfl g24 ?_
 refine Qp (Qd (sr ?_))
 refine wv (vf Qmz rfl Qao) ?_
 refine wv (vl 0 3 Qq) ?_
 refine wm ?_
 refine wcv (Qr Qnh rfl) (fun W hm => Qnv W _ x0.Tenants (Qdj x0.Ids x1) (hm.rdS0 r16)) ?_
 refine wa (nt' (Qe (sr (wm ?_))))
 refine wv Qai ?_
 refine nt' ?_
 rcases dcd ((Qdj x0.Tenants (Qdj x0.Ids x1)) < 0) with ⟨h25, g26⟩ | ⟨h25, g26⟩
 ·
  refine Ql rfl g26 ?_
  refine sr (wa (nt' (Qj (Qg ?_))))
  exact rti (h := Qc g24 (Qb g26 (rfl)))
 refine Qm rfl g26 ?_
 refine Qp (Qd (sr ?_))
 refine wv (vf Qmz rfl Qao) ?_
 refine wv (vl 0 4 Qq) ?_
 refine wm ?_
 refine wcv (Qr Qnh rfl) (fun W hm => Qnv W _ x0.Rows (Qdj x0.Tenants (Qdj x0.Ids x1)) (hm.rdS0 r21)) ?_
 refine wa (nt' (Qe (sr (wm ?_))))
 refine wv Qai ?_
 refine nt' ?_
 rcases dcd ((Qdj x0.Rows (Qdj x0.Tenants (Qdj x0.Ids x1))) < 0) with ⟨h27, g28⟩ | ⟨h27, g28⟩
 ·
  refine Ql rfl g28 ?_
  refine sr (wa (nt' (Qj (Qg ?_))))
  exact rti (h := Qc g24 (Qc g26 (Qb g28 (rfl))))
 refine Qm rfl g28 ?_
 refine Qp (Qd (sr (wm (wa (nt' (Qj ?_))))))
 exact rti (h := Qc g24 (Qc g26 (Qc g28 (rfl))))

def Qagl (x0 : (List Qbc)) (k8 : Nat) (s9 : Int) : Int ⊕ (Int) :=
 cond (decide ((Qoq (gt x0 k8) s9) < 0)) (Sum.inl (-1)) (Sum.inr (Qoq (gt x0 k8) s9))
def Qsk (x0 : (List Qbc)) (x1 : Int) : Int :=
 cond (decide ((IntKind.i64.wrap (x1 - ((x0.length : Nat) : Int))) < 0)) (-1) (Sum.elim id (fun (s : Int) => s) (rng (R := Int) (fun k (s : Int) => Qagl x0 k s) (x0.length - 0) 0 (IntKind.i64.wrap (x1 - ((x0.length : Nat) : Int)))))
theorem cb60 : Cb Tryz.prog 60 := ⟨f60, _, func60, rfl, by decide⟩
theorem Qawu (w : World) (z0 : Value) (x0 : (List Qbc)) (x1 : Int) (r_0 : rdS Qlf w w.heap.size z0 x0) :
  Calls Tryz.prog 60 #[z0, iV x1] w (rI w (Qsk x0 x1)) := by
 obtain ⟨m1, A2, c3, rfl, q4, r5⟩ := Qi r_0
 refine ce2 (L := [(0, .slice A2 x0.length c3), (1, iV x1)]) (N := 27) func60 ?_
 refine sr (wa (nt' (sr (wm (wm ?_)))))
 refine wv (Qag Qpm) ?_
 refine wv (fun W hm => Qik rfl rfl) ?_
 refine wa (nt' (Qe (sr (wm ?_))))
 refine wv Qai ?_
 refine nt' ?_
 rcases dcd ((IntKind.i64.wrap (x1 - ((x0.length : Nat) : Int))) < 0) with ⟨h6, g7⟩ | ⟨h6, g7⟩
 ·
  refine Ql rfl g7 ?_
  refine sr (wa (nt' (Qj (Qg ?_))))
  exact rti (h := Qb g7 (rfl))
 refine Qm rfl g7 ?_
 refine Qp (Qd (Qe (sr (wa (nt' (Qx ?_))))))
 refine Qbg (S := Int) (R := Unit) (fun k (s : Int) => Qagl x0 k s) x0.length 0 (IntKind.i64.wrap (x1 - ((x0.length : Nat) : Int))) () (fun s => [(0, .slice A2 x0.length c3), (1, iV s.2.1), (5, nI s.1)]) (fun s => []) (fun s => True) sl3 trivial ?_
 rintro ⟨k8, s9, ⟨⟩⟩ H12 _ _ e e'
 dsimp only at H12 ⊢
 subst e e'
 obtain ⟨hk10, hF11, _⟩ := H12
 refine Qe (sr (wm (wm ?_)))
 refine wv (Qag Qpm) ?_
 refine wv Qai ?_
 refine nt' ?_
 rcases dcl k8 x0.length with ⟨hl13, g14⟩ | ⟨hl13, g14⟩
 ·
  refine Ql rfl g14 ?_
  refine Qp (Qd (Qe (Qx (sr (wm (wm ?_))))))
  obtain ⟨a15, rfl, hb16, he17⟩ := q4 (by omega)
  refine wv (vix 5 k8 Qpm type152) ?_
  obtain ⟨_, e25, hc18⟩ := he17 k8 _ (Qbs (show k8 < x0.length from by omega))
  obtain ⟨v19, v21, v23, rfl, r20, r22, r24⟩ := Qwf e25
  obtain ⟨m26, A27, c28, rfl, q29, r30⟩ := Qi r20
  obtain ⟨m31, A32, c33, rfl, q34, r35⟩ := Qi r22
  obtain ⟨m36, A37, c38, rfl, q39, r40⟩ := Qi r24
  refine wv (fun W hm => Qad (cs := [iV ((gt x0 k8).Segment), iV ((gt x0 k8).Base), .slice A27 ((gt x0 k8).Ids).length c28, .slice A32 ((gt x0 k8).Tenants).length c33, .slice A37 ((gt x0 k8).Rows).length c38]) Qmz type152 rfl rfl (hm.elCells (show (a15.add (k8 * 5)).block < w.heap.size from by rw [Qae]; exact hb16.1) hc18)) ?_
  refine wm ?_
  refine wcv (Qr Qann rfl) (fun W hm => Qaww W _ (gt x0 k8) s9 (Qaiu (x := (gt x0 k8)) (hm.rdS0 r30) (hm.rdS0 r35) (hm.rdS0 r40))) ?_
  refine wa (nt' (sr (wm ?_)))
  refine wv Qai ?_
  refine nt' ?_
  rcases dcd ((Qoq (gt x0 k8) s9) < 0) with ⟨h41, g42⟩ | ⟨h41, g42⟩
  ·
   refine Ql rfl g42 ?_
   refine sr (wa (nt' (Qj (Qaa (Qg (Qg (Qaa (Qg ?_))))))))
   exact rti (h := Qc g7 (Qbf (nr hF11 (Qb g42 (rfl))) rfl))
  refine Qm rfl g42 ?_
  refine Qp (Qam (Qd (Qy (wm ?_))))
  refine wv (Qal k8 1 (by omega)) ?_
  refine wa (Qac ?_)
  exact Qan (k8 + 1, (Qoq (gt x0 k8) s9), ()) sl3 idM ⟨(by omega), nx hF11 (Qc g42 (rfl)), trivial⟩ rl
 refine Qm rfl g14 ?_
 refine Qay (Qu (Qu ?_))
 have hE44 := Qbh hl13 hF11
 refine Qaz (Qd (sr (wm (wa (nt' (Qj ?_))))))
 exact rti (h := Qc g7 (Qar hE44 (rfl)))

def Qqj (x0 : Qo) (x1 : Int) : Int :=
 cond (decide ((Qhl x0.Store x1) < 0)) (-1) (cond (decide ((Qdj x0.Order (Qhl x0.Store x1)) < 0)) (-1) (cond (decide ((Qks x0.Active (Qdj x0.Order (Qhl x0.Store x1))) < 0)) (-1) (cond (decide ((Qnu x0.Done (Qks x0.Active (Qdj x0.Order (Qhl x0.Store x1)))) < 0)) (-1) (cond (decide ((Qsk x0.Ledger (Qnu x0.Done (Qks x0.Active (Qdj x0.Order (Qhl x0.Store x1))))) < 0)) (-1) (Qsk x0.Ledger (Qnu x0.Done (Qks x0.Active (Qdj x0.Order (Qhl x0.Store x1)))))))))
theorem cb9 : Cb Tryz.prog 9 := ⟨f9, _, func9, rfl, by decide⟩
theorem Qaxa (w : World) (z0 : List Value) (x0 : Qo) (x1 : Int) (r_0 : Qpd.rd w w.heap.size z0 x0) :
  Calls Tryz.prog 9 #[.agg z0.toArray, iV x1] w (rI w (Qqj x0 x1)) := by
 obtain ⟨v1, v3, v5, v7, v9, rfl, r2, r4, r6, r8, r10⟩ := Qabs r_0
 obtain ⟨m11, A12, c13, rfl, q14, r15⟩ := Qi r2
 obtain ⟨m16, A17, c18, rfl, q19, r20⟩ := Qi r4
 obtain ⟨m21, A22, c23, rfl, q24, r25⟩ := Qi r6
 obtain ⟨m26, A27, c28, rfl, q29, r30⟩ := Qi r8
 obtain ⟨m31, A32, c33, rfl, q34, r35⟩ := Qi r10
 refine ce2 (L := [(0, .agg #[.slice A12 x0.Store.Segments.length c13, iV x0.Store.Now, iV x0.Cursor, .slice A17 x0.Order.length c18, .slice A22 x0.Active.length c23, .slice A27 x0.Done.length c28, .slice A32 x0.Ledger.length c33, iV x0.Steps]), (1, iV x1)]) (N := 36) func9 ?_
 refine sr ?_
 refine Qbn rfl (Qk rfl) (by decide) (fun p36 => ?_)
 refine wa (nt' (sr ?_))
 refine wv (vf Qib rfl type24) ?_
 refine wv (fun W hm => Qad (cs := [.slice A12 x0.Store.Segments.length c13, iV x0.Store.Now]) underlying24 type24 rfl rfl (hm.boxPart (n := 0) rfl rfl)) ?_
 refine wm ?_
 refine wcv (Qr cb56 rfl) (fun W hm => Qaxh W _ x0.Store x1 (Qaje (x := x0.Store) (hm.rdS0 r15))) ?_
 refine wa (nt' (Qe (sr (wm ?_))))
 refine wv Qai ?_
 refine nt' ?_
 rcases dcd ((Qhl x0.Store x1) < 0) with ⟨h37, g38⟩ | ⟨h37, g38⟩
 ·
  refine Ql rfl g38 ?_
  refine sr (wa (nt' (Qj (Qg ?_))))
  exact rti (h := Qb g38 (rfl))
 refine Qm rfl g38 ?_
 refine Qp (Qd (sr ?_))
 refine wv (vf Qib rfl Qao) ?_
 refine wv (vl 0 3 Qq) ?_
 refine wm ?_
 refine wcv (Qr Qnh rfl) (fun W hm => Qnv W _ x0.Order (Qhl x0.Store x1) (hm.rdS0 r20)) ?_
 refine wa (nt' (Qe (sr (wm ?_))))
 refine wv Qai ?_
 refine nt' ?_
 rcases dcd ((Qdj x0.Order (Qhl x0.Store x1)) < 0) with ⟨h39, g40⟩ | ⟨h39, g40⟩
 ·
  refine Ql rfl g40 ?_
  refine sr (wa (nt' (Qj (Qg ?_))))
  exact rti (h := Qc g38 (Qb g40 (rfl)))
 refine Qm rfl g40 ?_
 refine Qp (Qd (sr ?_))
 refine wv (vf Qib rfl type26) ?_
 refine wv (vl 0 4 Qpk) ?_
 refine wm ?_
 refine wcv (Qr cb58 rfl) (fun W hm => Qawq W _ x0.Active (Qdj x0.Order (Qhl x0.Store x1)) (hm.rdS0 r25)) ?_
 refine wa (nt' (Qe (sr (wm ?_))))
 refine wv Qai ?_
 refine nt' ?_
 rcases dcd ((Qks x0.Active (Qdj x0.Order (Qhl x0.Store x1))) < 0) with ⟨h41, g42⟩ | ⟨h41, g42⟩
 ·
  refine Ql rfl g42 ?_
  refine sr (wa (nt' (Qj (Qg ?_))))
  exact rti (h := Qc g38 (Qc g40 (Qb g42 (rfl))))
 refine Qm rfl g42 ?_
 refine Qp (Qd (sr ?_))
 refine wv (vf Qib rfl type27) ?_
 refine wv (vl 0 5 Qpl) ?_
 refine wm ?_
 refine wcv (Qr cb59 rfl) (fun W hm => Qaxb W _ x0.Done (Qks x0.Active (Qdj x0.Order (Qhl x0.Store x1))) (hm.rdS0 r30)) ?_
 refine wa (nt' (Qe (sr (wm ?_))))
 refine wv Qai ?_
 refine nt' ?_
 rcases dcd ((Qnu x0.Done (Qks x0.Active (Qdj x0.Order (Qhl x0.Store x1)))) < 0) with ⟨h43, g44⟩ | ⟨h43, g44⟩
 ·
  refine Ql rfl g44 ?_
  refine sr (wa (nt' (Qj (Qg ?_))))
  exact rti (h := Qc g38 (Qc g40 (Qc g42 (Qb g44 (rfl)))))
 refine Qm rfl g44 ?_
 refine Qp (Qd (sr ?_))
 refine wv (vf Qib rfl type28) ?_
 refine wv (vl 0 6 Qpm) ?_
 refine wm ?_
 refine wcv (Qr cb60 rfl) (fun W hm => Qawu W _ x0.Ledger (Qnu x0.Done (Qks x0.Active (Qdj x0.Order (Qhl x0.Store x1)))) (hm.rdS0 r35)) ?_
 refine wa (nt' (Qe (sr (wm ?_))))
 refine wv Qai ?_
 refine nt' ?_
 rcases dcd ((Qsk x0.Ledger (Qnu x0.Done (Qks x0.Active (Qdj x0.Order (Qhl x0.Store x1))))) < 0) with ⟨h45, g46⟩ | ⟨h45, g46⟩
 ·
  refine Ql rfl g46 ?_
  refine sr (wa (nt' (Qj (Qg ?_))))
  exact rti (h := Qc g38 (Qc g40 (Qc g42 (Qc g44 (Qb g46 (rfl))))))
 refine Qm rfl g46 ?_
 refine Qp (Qd (sr (wm (wa (nt' (Qj ?_))))))
 exact rti (h := Qc g38 (Qc g40 (Qc g42 (Qc g44 (Qc g46 (rfl))))))

def Qaab (x0 : (List Int)) (k9 : Nat) (d10 : (List Int)) : (List Int) ⊕ ((List Int)) :=
 Sum.inr (d10.set k9 (gt x0 k9))
def Qbx (x0 : (List Int)) : (List Int) :=
 Sum.elim id (fun (s : (List Int)) => s) (rng (R := (List Int)) (fun k (s : (List Int)) => Qaab x0 k s) (x0.length - 0) 0 (List.replicate x0.length (0 : Int)))
theorem Qni : Cb Tryz.prog 64 := ⟨f64, _, func64, rfl, by decide⟩
theorem Qny (w : World) (z0 : Value) (x0 : (List Int)) (r_0 : rdS Qa w w.heap.size z0 x0) (s_0 : x0.length ≤ 68719476736) :
  Calls Tryz.prog 64 #[z0] w (rL w (tSl Qa 3) (Qbx x0)) := by
 obtain ⟨m1, A2, c3, rfl, q4, r5⟩ := Qi r_0
 have l6 : x0.length ≤ 68719476736 := s_0
 refine ce1 (L := [(0, .slice A2 x0.length c3)]) (N := 22) func64 ?_
 refine sr (wa (nt' (sr (wm ?_))))
 refine wv (Qag Qq) ?_
 refine Qne (E := Qa) (n := x0.length) (x0 := (0 : Int)) Qq Qf rfl rfl rfl (fun _ => Qck) rfl rfl (show x0.length * 8 ≤ 281474976710656 from by omega) (by omega) (Qk rfl) (by decide) (fun p7 => ?_)
 refine wa (nt' (Qe (sr (wa (nt' (Qx ?_))))))
 refine Qbg (S := (List Int)) (R := Unit) (fun k (s : (List Int)) => Qaab x0 k s) x0.length 0 (List.replicate x0.length (0 : Int)) () (fun s => [(0, .slice A2 x0.length c3), (3, .slice (sA p7) x0.length x0.length), (4, nI s.1)]) (fun s => [Qn (tSl Qa 3) [.slice (sA p7) x0.length x0.length] s.2.1]) (fun s => True) sl3 trivial ?_
 rintro ⟨k9, d10, ⟨⟩⟩ H13 _ _ e e'
 dsimp only at H13 ⊢
 subst e e'
 obtain ⟨hk11, hF12, _⟩ := H13
 refine Qe (sr (wm (wm ?_)))
 refine wv (Qag Qq) ?_
 refine wv Qai ?_
 refine nt' ?_
 rcases dcl k9 x0.length with ⟨hl14, g15⟩ | ⟨hl14, g15⟩
 ·
  refine Ql rfl g15 ?_
  refine Qp (Qd (Qe (Qx (Qy ?_))))
  iterate 4 refine wm ?_
  obtain ⟨a16, rfl, hb17, he18⟩ := q4 (by omega)
  refine wv (vix 1 k9 Qq Qf) ?_
  refine wv (fun W hm => Qaw Qs rfl rfl ((hm.cell0 (show (a16.add (k9 * 1)).block < w.heap.size from by rw [Qae]; exact hb17.1)).trans (Qdr he18 k9 (by omega)))) ?_
  refine wv (vix 1 k9 Qq Qf) ?_
  refine Qme (E := Qa) (e := 3) (u := iV (gt x0 k9)) (k := k9) (p := p7) (n := x0.length) (xs := d10) (eis := []) (js := []) (yv := (gt x0 k9)) idM (fun _ _ hs => (Sep.nil hs ▸ Qck)) rfl Qf rfl (by omega) rfl rfl (Qk rfl) ?_
  refine Qac (Qam (Qd (Qy (wm ?_))))
  refine wv (Qal k9 1 (by omega)) ?_
  refine wa (Qac ?_)
  exact Qan (k9 + 1, (d10.set k9 (gt x0 k9)), ()) sl3 idM ⟨(by omega), nx hF12 (rfl), trivial⟩ rl
 refine Qm rfl g15 ?_
 refine Qay (Qu (Qu ?_))
 have hE20 := Qbh hl14 hF12
 refine Qaz (Qd (sr (wm (wa (nt' (Qj ?_))))))
 have he21 := (show Qbx x0 = d10 from Qar hE20 (rfl))
 refine Qcu rfl (Qdl rfl) (fun W hm => ⟨.slice (sA p7) x0.length x0.length, ?_, ?_⟩)
 ·first | rw [he21] | rfl
 rw [he21]; exact hm

def Qij (x0 : Qt) : Qt :=
 (⟨x0.Id, (Qbx x0.Values), x0.Born, x0.Died⟩ : Qt)
theorem Qapi : Cb Tryz.prog 217 := ⟨f217, _, func217, rfl, by decide⟩
theorem Qayn (w : World) (z0 : List Value) (x0 : Qt) (r_0 : Qim.rd w w.heap.size z0 x0) (s_0 : Qhu 68719476736 x0) :
  Calls Tryz.prog 217 #[.agg z0.toArray] w (rO w Qaf (Qij x0)) := by
 obtain ⟨v1, rfl, r2⟩ := Qwj r_0
 obtain ⟨m3, A4, c5, rfl, q6, r7⟩ := Qi r2
 have l8 : x0.Values.length ≤ 68719476736 := s_0
 refine ce1 (L := [(0, .agg #[iV x0.Id, .slice A4 x0.Values.length c5, iV x0.Born, iV x0.Died])]) (N := 18) func217 ?_
 refine sr ?_
 refine Qbn rfl (Qk rfl) (by decide) (fun p9 => ?_)
 refine Qbm Qbo rfl (Qk rfl) (by decide) (fun p10 => ?_)
 refine nt' (sr ?_)
 refine Qbm Qbo rfl (Qk rfl) (by decide) (fun p11 => ?_)
 refine nt' (sr ?_)
 refine wv (vf Qrf rfl Qf) ?_
 refine wv (vl 2 0 Qs) ?_
 refine wv (vf Qbp rfl Qf) ?_
 let K1 : List Value := [iV x0.Id, .slice A4 x0.Values.length c5, iV x0.Born, iV x0.Died]
 let I3 : It := Qh p10 163 [iV 0, .slice none 0 0, iV 0, iV 0]
 refine sb 0 [iV x0.Id, .slice none 0 0, iV 0, iV 0] [I3, Qh p9 218 K1] idM Qf ?_
 refine nt' (sr ?_)
 refine wv (vf Qrf rfl Qao) ?_
 refine wv (vl 2 1 Qq) ?_
 refine wcl (tSl Qa 3) (Qbx x0.Values) (Qr Qni rfl) (fun W hm => Qny W _ x0.Values (hm.rdS0 r7) s_0) (fun z12 => ?_)
 refine fm 0 ?_
 rintro A13 c14 rfl m15
 refine wv (vf Qbp rfl Qao) ?_
 let J4 : List It := [iS Qa 3 A13 c14 (Qbx x0.Values), I3, Qh p9 218 K1]
 refine sb 1 [iV x0.Id, .slice A13 (Qbx x0.Values).length c14, iV 0, iV 0] J4 (pk [1, 0, 2, 3]) Qao ?_
 refine nt' (sr ?_)
 refine wv (vf Qrf rfl Qf) ?_
 refine wv (vl 3 2 Qs) ?_
 refine wv (vf Qbp rfl Qf) ?_
 refine sb 2 [iV x0.Id, .slice A13 (Qbx x0.Values).length c14, iV x0.Born, iV 0] J4 idM Qf ?_
 refine nt' (sr ?_)
 refine wv (vf Qrf rfl Qf) ?_
 refine wv (vl 3 3 Qs) ?_
 refine wv (vf Qbp rfl Qf) ?_
 let K2 : List Value := [iV x0.Id, .slice A13 (Qbx x0.Values).length c14, iV x0.Born, iV x0.Died]
 refine sb 3 K2 J4 idM Qf ?_
 refine nt' (sr ?_)
 refine wv (fun W hm => Qad (cs := K2) Qbp Qbo rfl rfl (hm.boxCells (n := 0) rfl)) ?_
 refine sb 0 K2 [Qh p11 163 K2, iS Qa 3 A13 c14 (Qbx x0.Values), Qh p9 218 K1] (pk [2, 0, 1, 3]) Qbo ?_
 refine nt' (Qj ?_)
 have he17 := (show Qij x0 = (⟨x0.Id, (Qbx x0.Values), x0.Born, x0.Died⟩ : Qt) from rfl)
 refine Qcu rfl (Qdp (n := 0) rfl rfl Qbp Qbo rfl) (fun W hm => ⟨K2, ?_, ?_⟩)
 ·first | rw [he17] | rfl
 rw [he17]; exact Mem.join (is := [iS Qa 3 A13 c14 (Qbx x0.Values)]) (js := []) (fun _ _ hs => Qlh (x := (⟨x0.Id, (Qbx x0.Values), x0.Born, x0.Died⟩ : Qt)) hs) (hm.pick [2] (by decide))

def Qaae (x0 : (List Qt)) (k9 : Nat) (d10 : (List Qt)) : (List Qt) ⊕ ((List Qt)) :=
 Sum.inr (d10.set k9 (Qij (gt x0 k9)))
def Qkw (x0 : (List Qt)) : (List Qt) :=
 Sum.elim id (fun (s : (List Qt)) => s) (rng (R := (List Qt)) (fun k (s : (List Qt)) => Qaae x0 k s) (x0.length - 0) 0 (List.replicate x0.length (⟨(0 : Int), [], (0 : Int), (0 : Int)⟩ : Qt)))
theorem Qaou : Cb Tryz.prog 193 := ⟨f193, _, func193, rfl, by decide⟩
theorem Qayl (w : World) (z0 : Value) (x0 : (List Qt)) (r_0 : rdS Qim w w.heap.size z0 x0) (s_0 : (x0.length ≤ 68719476736 ∧ ∀ y ∈ x0, Qhu 68719476736 y)) :
  Calls Tryz.prog 193 #[z0] w (rL w (tSl Qaf 163) (Qkw x0)) := by
 obtain ⟨m1, A2, c3, rfl, q4, r5⟩ := Qi r_0
 have l6 : x0.length ≤ 68719476736 := s_0.1
 refine ce1 (L := [(0, .slice A2 x0.length c3)]) (N := 23) func193 ?_
 refine sr (wa (nt' (sr (wm ?_))))
 refine wv (Qag Qph) ?_
 refine Qne (E := Qaf) (n := x0.length) (x0 := (⟨(0 : Int), [], (0 : Int), (0 : Int)⟩ : Qt)) Qbv Qbo rfl rfl rfl (fun _ => ⟨[], [], _, _, rfl, rfl, Qck, ⟨[], [], _, _, rfl, rfl, Qis, ⟨[], [], _, _, rfl, rfl, Qck, Qck⟩⟩⟩) rfl rfl (show x0.length * 48 ≤ 281474976710656 from by omega) (by omega) (Qk rfl) (by decide) (fun p7 => ?_)
 refine wa (nt' (Qe (sr (wa (nt' (Qx ?_))))))
 refine Qbg (S := (List Qt)) (R := Unit) (fun k (s : (List Qt)) => Qaae x0 k s) x0.length 0 (List.replicate x0.length (⟨(0 : Int), [], (0 : Int), (0 : Int)⟩ : Qt)) () (fun s => [(0, .slice A2 x0.length c3), (3, .slice (sA p7) x0.length x0.length), (4, nI s.1)]) (fun s => [Qn (tSl Qaf 163) [.slice (sA p7) x0.length x0.length] s.2.1]) (fun s => True) sl3 trivial ?_
 rintro ⟨k9, d10, ⟨⟩⟩ H13 _ _ e e'
 dsimp only at H13 ⊢
 subst e e'
 obtain ⟨hk11, hF12, _⟩ := H13
 refine Qe (sr (wm (wm ?_)))
 refine wv (Qag Qph) ?_
 refine wv Qai ?_
 refine nt' ?_
 rcases dcl k9 x0.length with ⟨hl14, g15⟩ | ⟨hl14, g15⟩
 ·
  refine Ql rfl g15 ?_
  refine Qp (Qd (Qe (Qx (Qy ?_))))
  iterate 4 refine wm ?_
  obtain ⟨a16, rfl, hb17, he18⟩ := q4 (by omega)
  refine wv (vix 4 k9 Qph type218) ?_
  obtain ⟨_, e22, hc19⟩ := he18 k9 _ (Qbs (show k9 < x0.length from by omega))
  obtain ⟨v20, rfl, r21⟩ := Qwj e22
  have l23 : ((gt x0 k9).Values).length ≤ 68719476736 := (s_0.2 _ (Qak (show k9 < x0.length from by omega)))
  obtain ⟨m24, A25, c26, rfl, q27, r28⟩ := Qi r21
  refine wv (fun W hm => Qad (cs := [iV ((gt x0 k9).Id), .slice A25 ((gt x0 k9).Values).length c26, iV ((gt x0 k9).Born), iV ((gt x0 k9).Died)]) Qrf type218 rfl rfl (hm.elCells (show (a16.add (k9 * 4)).block < w.heap.size from by rw [Qae]; exact hb17.1) hc19)) ?_
  refine wcs Qaf (Qij (gt x0 k9)) (Qr Qapi rfl) (fun W hm => Qayn W _ (gt x0 k9) (Qajg (x := (gt x0 k9)) (hm.rdS0 r28)) (s_0.2 _ (Qak (show k9 < x0.length from by omega)))) (fun z29 => ?_)
  refine Qte ?_
  rintro v30 rfl
  refine fm 0 ?_
  rintro A31 c32 rfl m33
  refine wv (vix 4 k9 Qbv Qbo) ?_
  refine Qme (E := Qaf) (e := 163) (u := .agg #[iV ((Qij (gt x0 k9)).Id), .slice A31 ((Qij (gt x0 k9)).Values).length c32, iV ((Qij (gt x0 k9)).Born), iV ((Qij (gt x0 k9)).Died)]) (k := k9) (p := p7) (n := x0.length) (xs := d10) (eis := [iS Qa 3 A31 c32 ((Qij (gt x0 k9)).Values)]) (js := []) (yv := (Qij (gt x0 k9))) (pk [1, 0]) (fun _ _ hs => (Qlh (x := (Qij (gt x0 k9))) hs)) rfl Qbo rfl (by omega) rfl rfl (Qk rfl) ?_
  refine Qac (Qam (Qd (Qy (wm ?_))))
  refine wv (Qal k9 1 (by omega)) ?_
  refine wa (Qac ?_)
  exact Qan (k9 + 1, (d10.set k9 (Qij (gt x0 k9))), ()) sl3 idM ⟨(by omega), nx hF12 (rfl), trivial⟩ rl
 refine Qm rfl g15 ?_
 refine Qay (Qu (Qu ?_))
 have hE36 := Qbh hl14 hF12
 refine Qaz (Qd (sr (wm (wa (nt' (Qj ?_))))))
 have he37 := (show Qkw x0 = d10 from Qar hE36 (rfl))
 refine Qcu rfl (Qdl rfl) (fun W hm => ⟨.slice (sA p7) x0.length x0.length, ?_, ?_⟩)
 ·first | rw [he37] | rfl
 rw [he37]; exact hm

def Qaad (x0 : (List (List Qt))) (k9 : Nat) (d10 : (List (List Qt))) : (List (List Qt)) ⊕ ((List (List Qt))) :=
 Sum.inr (d10.set k9 (Qkw (gt x0 k9)))
def Qkv (x0 : (List (List Qt))) : (List (List Qt)) :=
 Sum.elim id (fun (s : (List (List Qt))) => s) (rng (R := (List (List Qt))) (fun k (s : (List (List Qt))) => Qaad x0 k s) (x0.length - 0) 0 (List.replicate x0.length []))
theorem Qanq : Cb Tryz.prog 134 := ⟨f134, _, func134, rfl, by decide⟩
theorem Qayj (w : World) (z0 : Value) (x0 : (List (List Qt))) (r_0 : rdS (tSl Qim 218) w w.heap.size z0 x0) (s_0 : (x0.length ≤ 68719476736 ∧ ∀ y ∈ x0, (y.length ≤ 68719476736 ∧ ∀ y1 ∈ y, Qhu 68719476736 y1))) :
  Calls Tryz.prog 134 #[z0] w (rL w (tSl (tSl Qaf 163) 100) (Qkv x0)) := by
 obtain ⟨m1, A2, c3, rfl, q4, r5⟩ := Qi r_0
 have l6 : x0.length ≤ 68719476736 := s_0.1
 refine ce1 (L := [(0, .slice A2 x0.length c3)]) (N := 23) func134 ?_
 refine sr (wa (nt' (sr (wm ?_))))
 refine wv (Qag Qpj) ?_
 refine Qne (E := (tSl Qaf 163)) (n := x0.length) (x0 := []) Qbz Qfl rfl rfl rfl (fun _ => Qis) rfl rfl (show x0.length * 24 ≤ 281474976710656 from by omega) (by omega) (Qk rfl) (by decide) (fun p7 => ?_)
 refine wa (nt' (Qe (sr (wa (nt' (Qx ?_))))))
 refine Qbg (S := (List (List Qt))) (R := Unit) (fun k (s : (List (List Qt))) => Qaad x0 k s) x0.length 0 (List.replicate x0.length []) () (fun s => [(0, .slice A2 x0.length c3), (3, .slice (sA p7) x0.length x0.length), (4, nI s.1)]) (fun s => [Qn (tSl (tSl Qaf 163) 100) [.slice (sA p7) x0.length x0.length] s.2.1]) (fun s => True) sl3 trivial ?_
 rintro ⟨k9, d10, ⟨⟩⟩ H13 _ _ e e'
 dsimp only at H13 ⊢
 subst e e'
 obtain ⟨hk11, hF12, _⟩ := H13
 refine Qe (sr (wm (wm ?_)))
 refine wv (Qag Qpj) ?_
 refine wv Qai ?_
 refine nt' ?_
 rcases dcl k9 x0.length with ⟨hl14, g15⟩ | ⟨hl14, g15⟩
 ·
  refine Ql rfl g15 ?_
  refine Qp (Qd (Qe (Qx (Qy ?_))))
  iterate 4 refine wm ?_
  obtain ⟨a16, rfl, hb17, he18⟩ := q4 (by omega)
  refine wv (vix 1 k9 Qpj type196) ?_
  obtain ⟨_, e20, hc19⟩ := he18 k9 _ (Qbs (show k9 < x0.length from by omega))
  have l21 : (gt x0 k9).length ≤ 68719476736 := (s_0.2 _ (Qak (show k9 < x0.length from by omega))).1
  obtain ⟨v22, rfl, r23⟩ := e20
  obtain ⟨m24, A25, c26, rfl, q27, r28⟩ := Qi r23
  refine wv (fun W hm => Qaw Qph rfl rfl ((hm.cell0 (show (a16.add (k9 * 1)).block < w.heap.size from by rw [Qae]; exact hb17.1)).trans (hc19 0 _ rfl))) ?_
  refine wcl (tSl Qaf 163) (Qkw (gt x0 k9)) (Qr Qaou rfl) (fun W hm => Qayl W _ (gt x0 k9) (hm.rdS0 r28) (s_0.2 _ (Qak (show k9 < x0.length from by omega)))) (fun z29 => ?_)
  refine fm 0 ?_
  rintro A30 c31 rfl m32
  refine wv (vix 1 k9 Qbz Qfl) ?_
  refine Qme (E := (tSl Qaf 163)) (e := 100) (u := .slice A30 (Qkw (gt x0 k9)).length c31) (k := k9) (p := p7) (n := x0.length) (xs := d10) (eis := [iS Qaf 163 A30 c31 (Qkw (gt x0 k9))]) (js := []) (yv := (Qkw (gt x0 k9))) (pk [1, 0]) (fun _ _ hs => (Sep.one hs)) rfl Qfl rfl (by omega) rfl rfl (Qk rfl) ?_
  refine Qac (Qam (Qd (Qy (wm ?_))))
  refine wv (Qal k9 1 (by omega)) ?_
  refine wa (Qac ?_)
  exact Qan (k9 + 1, (d10.set k9 (Qkw (gt x0 k9))), ()) sl3 idM ⟨(by omega), nx hF12 (rfl), trivial⟩ rl
 refine Qm rfl g15 ?_
 refine Qay (Qu (Qu ?_))
 have hE35 := Qbh hl14 hF12
 refine Qaz (Qd (sr (wm (wa (nt' (Qj ?_))))))
 have he36 := (show Qkv x0 = d10 from Qar hE35 (rfl))
 refine Qcu rfl (Qdl rfl) (fun W hm => ⟨.slice (sA p7) x0.length x0.length, ?_, ?_⟩)
 ·first | rw [he36] | rfl
 rw [he36]; exact hm

def Qfx (x0 : Qau) : Qau :=
 (⟨(Qkv x0.Segments), x0.Now⟩ : Qau)
theorem cb63 : Cb Tryz.prog 63 := ⟨f63, _, func63, rfl, by decide⟩
theorem Qayh (w : World) (z0 : List Value) (x0 : Qau) (r_0 : Qpe.rd w w.heap.size z0 x0) (s_0 : Qgh 68719476736 x0) :
  Calls Tryz.prog 63 #[.agg z0.toArray] w (rO w Qdm (Qfx x0)) := by
 obtain ⟨v1, rfl, r2⟩ := Qajf r_0
 obtain ⟨m3, A4, c5, rfl, q6, r7⟩ := Qi r2
 have l8 : x0.Segments.length ≤ 68719476736 := s_0.1
 refine ce1 (L := [(0, .agg #[.slice A4 x0.Segments.length c5, iV x0.Now])]) (N := 12) func63 ?_
 refine sr ?_
 refine Qbn rfl (Qk rfl) (by decide) (fun p9 => ?_)
 refine Qbm Qbt rfl (Qk rfl) (by decide) (fun p10 => ?_)
 refine nt' (sr ?_)
 refine Qbm Qbt rfl (Qk rfl) (by decide) (fun p11 => ?_)
 refine nt' (sr ?_)
 refine wv (vf underlying24 rfl type22) ?_
 refine wv (vl 2 0 Qpj) ?_
 refine wcl (tSl (tSl Qaf 163) 100) (Qkv x0.Segments) (Qr Qanq rfl) (fun W hm => Qayj W _ x0.Segments (hm.rdS0 r7) s_0) (fun z12 => ?_)
 refine fm 0 ?_
 rintro A13 c14 rfl m15
 refine wv (vf Qbw rfl Qea) ?_
 let I2 : It := iS (tSl Qaf 163) 100 A13 c14 (Qkv x0.Segments)
 let I3 : It := Qh p9 24 [.slice A4 x0.Segments.length c5, iV x0.Now]
 refine sb 0 [.slice A13 (Qkv x0.Segments).length c14, iV 0] [I2, Qh p10 34 [.slice none 0 0, iV 0], I3] (pk [1, 0, 2, 3]) Qea ?_
 refine nt' (sr ?_)
 refine wv (vf underlying24 rfl Qf) ?_
 refine wv (vl 3 1 Qs) ?_
 refine wv (vf Qbw rfl Qf) ?_
 let K1 : List Value := [.slice A13 (Qkv x0.Segments).length c14, iV x0.Now]
 refine sb 1 K1 [I2, Qh p10 34 [.slice none 0 0, iV 0], I3] idM Qf ?_
 refine nt' (sr ?_)
 refine wv (fun W hm => Qad (cs := K1) Qbw Qbt rfl rfl (hm.boxCells (n := 0) rfl)) ?_
 refine sb 0 K1 [Qh p11 34 K1, I2, I3] (pk [2, 0, 1, 3]) Qbt ?_
 refine nt' (Qj ?_)
 have he17 := (show Qfx x0 = (⟨(Qkv x0.Segments), x0.Now⟩ : Qau) from rfl)
 refine Qcu rfl (Qdp (n := 0) rfl rfl Qbw Qbt rfl) (fun W hm => ⟨K1, ?_, ?_⟩)
 ·first | rw [he17] | rfl
 rw [he17]; exact Mem.join (is := [I2]) (js := []) (fun _ _ hs => Qmw (x := (⟨(Qkv x0.Segments), x0.Now⟩ : Qau)) hs) (hm.pick [2] (by decide))

def Qjz (x0 : Qcd) : Qcd :=
 x0
theorem Qapq : Cb Tryz.prog 226 := ⟨f226, _, func226, rfl, by decide⟩
theorem Qaxz (w : World) (z0 : List Value) (x0 : Qcd) (r_0 : Qjp.rd w w.heap.size z0 x0) :
  Calls Tryz.prog 226 #[.agg z0.toArray] w (rO w Qbl (Qjz x0)) := by
 obtain rfl := Qaiv r_0
 refine ce1 (L := [(0, .agg #[iV x0.Field, iV x0.Low, iV x0.High])]) (N := 14) func226 ?_
 refine sr ?_
 refine Qbn rfl (Qk rfl) (by decide) (fun p1 => ?_)
 refine Qbm Qds rfl (Qk rfl) (by decide) (fun p2 => ?_)
 refine nt' (sr ?_)
 refine Qbm Qds rfl (Qk rfl) (by decide) (fun p3 => ?_)
 refine nt' (sr ?_)
 refine wv (vf underlying240 rfl Qf) ?_
 refine wv (vl 2 0 Qs) ?_
 refine wv (vf Qdu rfl Qf) ?_
 let I1 : It := Qh p2 180 [iV 0, iV 0, iV 0]
 let I2 : It := Qh p1 240 [iV x0.Field, iV x0.Low, iV x0.High]
 refine sb 0 [iV x0.Field, iV 0, iV 0] [I1, I2] idM Qf ?_
 refine nt' (sr ?_)
 refine wv (vf underlying240 rfl Qf) ?_
 refine wv (vl 2 1 Qs) ?_
 refine wv (vf Qdu rfl Qf) ?_
 refine sb 1 [iV x0.Field, iV x0.Low, iV 0] [I1, I2] idM Qf ?_
 refine nt' (sr ?_)
 refine wv (vf underlying240 rfl Qf) ?_
 refine wv (vl 2 2 Qs) ?_
 refine wv (vf Qdu rfl Qf) ?_
 refine sb 2 [iV x0.Field, iV x0.Low, iV x0.High] [I1, I2] idM Qf ?_
 refine nt' (sr ?_)
 refine wv (fun W hm => Qad (cs := [iV x0.Field, iV x0.Low, iV x0.High]) Qdu Qds rfl rfl (hm.boxCells (n := 0) rfl)) ?_
 refine sb 0 [iV x0.Field, iV x0.Low, iV x0.High] [Qh p3 180 [iV x0.Field, iV x0.Low, iV x0.High], I2] (pk [1, 0, 2]) Qds ?_
 refine nt' (Qj ?_)
 have he4 := (show Qjz x0 = x0 from rfl)
 refine Qcu rfl (Qdp (n := 0) rfl rfl Qdu Qds rfl) (fun W hm => ⟨[iV x0.Field, iV x0.Low, iV x0.High], ?_, ?_⟩)
 ·first | rw [he4] | rfl
 rw [he4]; exact Mem.join (is := []) (js := []) (fun _ _ hs => Qabp (x := x0) hs) (hm.pick [] (by decide))

def Qzz (x0 : (List Qcd)) (k9 : Nat) (d10 : (List Qcd)) : (List Qcd) ⊕ ((List Qcd)) :=
 Sum.inr (d10.set k9 (Qjz (gt x0 k9)))
def Qku (x0 : (List Qcd)) : (List Qcd) :=
 Sum.elim id (fun (s : (List Qcd)) => s) (rng (R := (List Qcd)) (fun k (s : (List Qcd)) => Qzz x0 k s) (x0.length - 0) 0 (List.replicate x0.length (⟨(0 : Int), (0 : Int), (0 : Int)⟩ : Qcd)))
theorem Qapj : Cb Tryz.prog 218 := ⟨f218, _, func218, rfl, by decide⟩
theorem Qaxx (w : World) (z0 : Value) (x0 : (List Qcd)) (r_0 : rdS Qjp w w.heap.size z0 x0) (s_0 : x0.length ≤ 68719476736) :
  Calls Tryz.prog 218 #[z0] w (rL w (tSl Qbl 180) (Qku x0)) := by
 obtain ⟨m1, A2, c3, rfl, q4, r5⟩ := Qi r_0
 have l6 : x0.length ≤ 68719476736 := s_0
 refine ce1 (L := [(0, .slice A2 x0.length c3)]) (N := 23) func218 ?_
 refine sr (wa (nt' (sr (wm ?_))))
 refine wv (Qag Qtf) ?_
 refine Qne (E := Qbl) (n := x0.length) (x0 := (⟨(0 : Int), (0 : Int), (0 : Int)⟩ : Qcd)) Qct Qds rfl rfl rfl (fun _ => ⟨[], [], _, _, rfl, rfl, Qck, ⟨[], [], _, _, rfl, rfl, Qck, Qck⟩⟩) rfl rfl (show x0.length * 24 ≤ 281474976710656 from by omega) (by omega) (Qk rfl) (by decide) (fun p7 => ?_)
 refine wa (nt' (Qe (sr (wa (nt' (Qx ?_))))))
 refine Qbg (S := (List Qcd)) (R := Unit) (fun k (s : (List Qcd)) => Qzz x0 k s) x0.length 0 (List.replicate x0.length (⟨(0 : Int), (0 : Int), (0 : Int)⟩ : Qcd)) () (fun s => [(0, .slice A2 x0.length c3), (3, .slice (sA p7) x0.length x0.length), (4, nI s.1)]) (fun s => [Qn (tSl Qbl 180) [.slice (sA p7) x0.length x0.length] s.2.1]) (fun s => True) sl3 trivial ?_
 rintro ⟨k9, d10, ⟨⟩⟩ H13 _ _ e e'
 dsimp only at H13 ⊢
 subst e e'
 obtain ⟨hk11, hF12, _⟩ := H13
 refine Qe (sr (wm (wm ?_)))
 refine wv (Qag Qtf) ?_
 refine wv Qai ?_
 refine nt' ?_
 rcases dcl k9 x0.length with ⟨hl14, g15⟩ | ⟨hl14, g15⟩
 ·
  refine Ql rfl g15 ?_
  refine Qp (Qd (Qe (Qx (Qy ?_))))
  iterate 4 refine wm ?_
  obtain ⟨a16, rfl, hb17, he18⟩ := q4 (by omega)
  refine wv (vix 3 k9 Qtf type240) ?_
  obtain ⟨_, e20, hc19⟩ := he18 k9 _ (Qbs (show k9 < x0.length from by omega))
  obtain rfl := Qaiv e20
  refine wv (fun W hm => Qad (cs := [iV ((gt x0 k9).Field), iV ((gt x0 k9).Low), iV ((gt x0 k9).High)]) underlying240 type240 rfl rfl (hm.elCells (show (a16.add (k9 * 3)).block < w.heap.size from by rw [Qae]; exact hb17.1) hc19)) ?_
  refine wcs Qbl (Qjz (gt x0 k9)) (Qr Qapq rfl) (fun W hm => Qaxz W _ (gt x0 k9) (Qbdj (x := (gt x0 k9)))) (fun z21 => ?_)
  refine Qair ?_
  rintro ⟨⟩ rfl
  refine wv (vix 3 k9 Qct Qds) ?_
  refine Qme (E := Qbl) (e := 180) (u := .agg #[iV ((Qjz (gt x0 k9)).Field), iV ((Qjz (gt x0 k9)).Low), iV ((Qjz (gt x0 k9)).High)]) (k := k9) (p := p7) (n := x0.length) (xs := d10) (eis := []) (js := []) (yv := (Qjz (gt x0 k9))) idM (fun _ _ hs => (Qabp (x := (Qjz (gt x0 k9))) hs)) rfl Qds rfl (by omega) rfl rfl (Qk rfl) ?_
  refine Qac (Qam (Qd (Qy (wm ?_))))
  refine wv (Qal k9 1 (by omega)) ?_
  refine wa (Qac ?_)
  exact Qan (k9 + 1, (d10.set k9 (Qjz (gt x0 k9))), ()) sl3 idM ⟨(by omega), nx hF12 (rfl), trivial⟩ rl
 refine Qm rfl g15 ?_
 refine Qay (Qu (Qu ?_))
 have hE23 := Qbh hl14 hF12
 refine Qaz (Qd (sr (wm (wa (nt' (Qj ?_))))))
 have he24 := (show Qku x0 = d10 from Qar hE23 (rfl))
 refine Qcu rfl (Qdl rfl) (fun W hm => ⟨.slice (sA p7) x0.length x0.length, ?_, ?_⟩)
 ·first | rw [he24] | rfl
 rw [he24]; exact hm

def Qco (x0 : Qat) : Qat :=
 (⟨x0.Id, x0.Tenant, (Qku x0.Conds), (Qbx x0.Out)⟩ : Qat)
theorem Qaea : Cb Tryz.prog 194 := ⟨f194, _, func194, rfl, by decide⟩
theorem Qagv (w : World) (z0 : List Value) (x0 : Qat) (r_0 : Qog.rd w w.heap.size z0 x0) (s_0 : Qfy 68719476736 x0) :
  Calls Tryz.prog 194 #[.agg z0.toArray] w (rO w Qcm (Qco x0)) := by
 obtain ⟨v1, v3, rfl, r2, r4⟩ := Qaiz r_0
 obtain ⟨m5, A6, c7, rfl, q8, r9⟩ := Qi r2
 obtain ⟨m10, A11, c12, rfl, q13, r14⟩ := Qi r4
 have l15 := s_0.1
 have l16 := s_0.2
 refine ce1 (L := [(0, .agg #[iV x0.Id, iV x0.Tenant, .slice A6 x0.Conds.length c7, .slice A11 x0.Out.length c12])]) (N := 19) func194 ?_
 refine sr ?_
 refine Qbn rfl (Qk rfl) (by decide) (fun p17 => ?_)
 refine Qbm Qbj rfl (Qk rfl) (by decide) (fun p18 => ?_)
 refine nt' (sr ?_)
 refine Qbm Qbj rfl (Qk rfl) (by decide) (fun p19 => ?_)
 refine nt' (sr ?_)
 refine wv (vf Qmx rfl Qf) ?_
 refine wv (vl 2 0 Qs) ?_
 refine wv (vf Qbq rfl Qf) ?_
 let K1 : List Value := [iV 0, iV 0, .slice none 0 0, .slice none 0 0]
 let K2 : List Value := [iV x0.Id, iV x0.Tenant, .slice A6 x0.Conds.length c7, .slice A11 x0.Out.length c12]
 let J5 : List It := [Qh p18 58 K1, Qh p17 144 K2]
 refine sb 0 [iV x0.Id, iV 0, .slice none 0 0, .slice none 0 0] J5 idM Qf ?_
 refine nt' (sr ?_)
 refine wv (vf Qmx rfl Qf) ?_
 refine wv (vl 2 1 Qs) ?_
 refine wv (vf Qbq rfl Qf) ?_
 refine sb 1 [iV x0.Id, iV x0.Tenant, .slice none 0 0, .slice none 0 0] J5 idM Qf ?_
 refine nt' (sr ?_)
 refine wv (vf Qmx rfl type142) ?_
 refine wv (vl 2 2 Qtf) ?_
 refine wcl (tSl Qbl 180) (Qku x0.Conds) (Qr Qapj rfl) (fun W hm => Qaxx W _ x0.Conds (hm.rdS0 r9) s_0.1) (fun z20 => ?_)
 refine fm 0 ?_
 rintro A21 c22 rfl m23
 refine wv (vf Qbq rfl Qfu) ?_
 let I4 : It := iS Qbl 180 A21 c22 (Qku x0.Conds)
 refine sb 2 [iV x0.Id, iV x0.Tenant, .slice A21 (Qku x0.Conds).length c22, .slice none 0 0] (I4 :: J5) (pk [1, 0, 2, 3]) Qfu ?_
 refine nt' (sr ?_)
 refine wv (vf Qmx rfl Qao) ?_
 refine wv (vl 3 3 Qq) ?_
 refine wcl (tSl Qa 3) (Qbx x0.Out) (Qr Qni rfl) (fun W hm => Qny W _ x0.Out (hm.rdS0 r14) s_0.2) (fun z25 => ?_)
 refine fm 0 ?_
 rintro A26 c27 rfl m28
 refine wv (vf Qbq rfl Qao) ?_
 let K3 : List Value := [iV x0.Id, iV x0.Tenant, .slice A21 (Qku x0.Conds).length c22, .slice A26 (Qbx x0.Out).length c27]
 refine sb 3 K3 (iS Qa 3 A26 c27 (Qbx x0.Out) :: I4 :: J5) (pk [1, 0, 2, 3, 4]) Qao ?_
 refine nt' (sr ?_)
 refine wv (fun W hm => Qad (cs := K3) Qbq Qbj rfl rfl (hm.boxCells (n := 0) rfl)) ?_
 refine sb 0 K3 [Qh p19 58 K3, iS Qa 3 A26 c27 (Qbx x0.Out), I4, Qh p17 144 K2] (pk [3, 0, 1, 2, 4]) Qbj ?_
 refine nt' (Qj ?_)
 have he30 := (show Qco x0 = (⟨x0.Id, x0.Tenant, (Qku x0.Conds), (Qbx x0.Out)⟩ : Qat) from rfl)
 refine Qcu rfl (Qdp (n := 0) rfl rfl Qbq Qbj rfl) (fun W hm => ⟨K3, ?_, ?_⟩)
 ·first | rw [he30] | rfl
 rw [he30]; exact Mem.join (is := [I4, iS Qa 3 A26 c27 (Qbx x0.Out)]) (js := []) (fun _ _ hs => Qwk (x := (⟨x0.Id, x0.Tenant, (Qku x0.Conds), (Qbx x0.Out)⟩ : Qat)) hs) (hm.pick [3, 2] (by decide))

def Qiz (x0 : Qab) : Qab :=
 (⟨x0.Id, (Qbx x0.Values)⟩ : Qab)
theorem Qapk : Cb Tryz.prog 219 := ⟨f219, _, func219, rfl, by decide⟩
theorem Qayf (w : World) (z0 : List Value) (x0 : Qab) (r_0 : Qiu.rd w w.heap.size z0 x0) (s_0 : Qgm 68719476736 x0) :
  Calls Tryz.prog 219 #[.agg z0.toArray] w (rO w Qap (Qiz x0)) := by
 obtain ⟨v1, rfl, r2⟩ := Qwi r_0
 obtain ⟨m3, A4, c5, rfl, q6, r7⟩ := Qi r2
 have l8 : x0.Values.length ≤ 68719476736 := s_0
 refine ce1 (L := [(0, .agg #[iV x0.Id, .slice A4 x0.Values.length c5])]) (N := 12) func219 ?_
 refine sr ?_
 refine Qbn rfl (Qk rfl) (by decide) (fun p9 => ?_)
 refine Qbm Qcg rfl (Qk rfl) (by decide) (fun p10 => ?_)
 refine nt' (sr ?_)
 refine Qbm Qcg rfl (Qk rfl) (by decide) (fun p11 => ?_)
 refine nt' (sr ?_)
 refine wv (vf underlying221 rfl Qf) ?_
 refine wv (vl 2 0 Qs) ?_
 refine wv (vf Qdv rfl Qf) ?_
 let I2 : It := Qh p9 221 [iV x0.Id, .slice A4 x0.Values.length c5]
 refine sb 0 [iV x0.Id, .slice none 0 0] [Qh p10 70 [iV 0, .slice none 0 0], I2] idM Qf ?_
 refine nt' (sr ?_)
 refine wv (vf underlying221 rfl Qao) ?_
 refine wv (vl 2 1 Qq) ?_
 refine wcl (tSl Qa 3) (Qbx x0.Values) (Qr Qni rfl) (fun W hm => Qny W _ x0.Values (hm.rdS0 r7) s_0) (fun z12 => ?_)
 refine fm 0 ?_
 rintro A13 c14 rfl m15
 refine wv (vf Qdv rfl Qao) ?_
 let K1 : List Value := [iV x0.Id, .slice A13 (Qbx x0.Values).length c14]
 refine sb 1 K1 [iS Qa 3 A13 c14 (Qbx x0.Values), Qh p10 70 [iV 0, .slice none 0 0], I2] (pk [1, 0, 2, 3]) Qao ?_
 refine nt' (sr ?_)
 refine wv (fun W hm => Qad (cs := K1) Qdv Qcg rfl rfl (hm.boxCells (n := 0) rfl)) ?_
 refine sb 0 K1 [Qh p11 70 K1, iS Qa 3 A13 c14 (Qbx x0.Values), I2] (pk [2, 0, 1, 3]) Qcg ?_
 refine nt' (Qj ?_)
 have he17 := (show Qiz x0 = (⟨x0.Id, (Qbx x0.Values)⟩ : Qab) from rfl)
 refine Qcu rfl (Qdp (n := 0) rfl rfl Qdv Qcg rfl) (fun W hm => ⟨K1, ?_, ?_⟩)
 ·first | rw [he17] | rfl
 rw [he17]; exact Mem.join (is := [iS Qa 3 A13 c14 (Qbx x0.Values)]) (js := []) (fun _ _ hs => Qjq (x := (⟨x0.Id, (Qbx x0.Values)⟩ : Qab)) hs) (hm.pick [2] (by decide))

def Qaac (x0 : (List Qab)) (k9 : Nat) (d10 : (List Qab)) : (List Qab) ⊕ ((List Qab)) :=
 Sum.inr (d10.set k9 (Qiz (gt x0 k9)))
def Qgu (x0 : (List Qab)) : (List Qab) :=
 Sum.elim id (fun (s : (List Qab)) => s) (rng (R := (List Qab)) (fun k (s : (List Qab)) => Qaac x0 k s) (x0.length - 0) 0 (List.replicate x0.length (⟨(0 : Int), []⟩ : Qab)))
theorem Qaeb : Cb Tryz.prog 195 := ⟨f195, _, func195, rfl, by decide⟩
theorem Qagx (w : World) (z0 : Value) (x0 : (List Qab)) (r_0 : rdS Qiu w w.heap.size z0 x0) (s_0 : (x0.length ≤ 68719476736 ∧ ∀ y ∈ x0, Qgm 68719476736 y)) :
  Calls Tryz.prog 195 #[z0] w (rL w (tSl Qap 70) (Qgu x0)) := by
 obtain ⟨m1, A2, c3, rfl, q4, r5⟩ := Qi r_0
 have l6 : x0.length ≤ 68719476736 := s_0.1
 refine ce1 (L := [(0, .slice A2 x0.length c3)]) (N := 23) func195 ?_
 refine sr (wa (nt' (sr (wm ?_))))
 refine wv (Qag Qmy) ?_
 refine Qne (E := Qap) (n := x0.length) (x0 := (⟨(0 : Int), []⟩ : Qab)) Qci Qcg rfl rfl rfl (fun _ => ⟨[], [], _, _, rfl, rfl, Qck, Qis⟩) rfl rfl (show x0.length * 32 ≤ 281474976710656 from by omega) (by omega) (Qk rfl) (by decide) (fun p7 => ?_)
 refine wa (nt' (Qe (sr (wa (nt' (Qx ?_))))))
 refine Qbg (S := (List Qab)) (R := Unit) (fun k (s : (List Qab)) => Qaac x0 k s) x0.length 0 (List.replicate x0.length (⟨(0 : Int), []⟩ : Qab)) () (fun s => [(0, .slice A2 x0.length c3), (3, .slice (sA p7) x0.length x0.length), (4, nI s.1)]) (fun s => [Qn (tSl Qap 70) [.slice (sA p7) x0.length x0.length] s.2.1]) (fun s => True) sl3 trivial ?_
 rintro ⟨k9, d10, ⟨⟩⟩ H13 _ _ e e'
 dsimp only at H13 ⊢
 subst e e'
 obtain ⟨hk11, hF12, _⟩ := H13
 refine Qe (sr (wm (wm ?_)))
 refine wv (Qag Qmy) ?_
 refine wv Qai ?_
 refine nt' ?_
 rcases dcl k9 x0.length with ⟨hl14, g15⟩ | ⟨hl14, g15⟩
 ·
  refine Ql rfl g15 ?_
  refine Qp (Qd (Qe (Qx (Qy ?_))))
  iterate 4 refine wm ?_
  obtain ⟨a16, rfl, hb17, he18⟩ := q4 (by omega)
  refine wv (vix 2 k9 Qmy type221) ?_
  obtain ⟨_, e22, hc19⟩ := he18 k9 _ (Qbs (show k9 < x0.length from by omega))
  obtain ⟨v20, rfl, r21⟩ := Qwi e22
  have l23 : ((gt x0 k9).Values).length ≤ 68719476736 := (s_0.2 _ (Qak (show k9 < x0.length from by omega)))
  obtain ⟨m24, A25, c26, rfl, q27, r28⟩ := Qi r21
  refine wv (fun W hm => Qad (cs := [iV ((gt x0 k9).Id), .slice A25 ((gt x0 k9).Values).length c26]) underlying221 type221 rfl rfl (hm.elCells (show (a16.add (k9 * 2)).block < w.heap.size from by rw [Qae]; exact hb17.1) hc19)) ?_
  refine wcs Qap (Qiz (gt x0 k9)) (Qr Qapk rfl) (fun W hm => Qayf W _ (gt x0 k9) (Qajc (x := (gt x0 k9)) (hm.rdS0 r28)) (s_0.2 _ (Qak (show k9 < x0.length from by omega)))) (fun z29 => ?_)
  refine Qmv ?_
  rintro v30 rfl
  refine fm 0 ?_
  rintro A31 c32 rfl m33
  refine wv (vix 2 k9 Qci Qcg) ?_
  refine Qme (E := Qap) (e := 70) (u := .agg #[iV ((Qiz (gt x0 k9)).Id), .slice A31 ((Qiz (gt x0 k9)).Values).length c32]) (k := k9) (p := p7) (n := x0.length) (xs := d10) (eis := [iS Qa 3 A31 c32 ((Qiz (gt x0 k9)).Values)]) (js := []) (yv := (Qiz (gt x0 k9))) (pk [1, 0]) (fun _ _ hs => (Qjq (x := (Qiz (gt x0 k9))) hs)) rfl Qcg rfl (by omega) rfl rfl (Qk rfl) ?_
  refine Qac (Qam (Qd (Qy (wm ?_))))
  refine wv (Qal k9 1 (by omega)) ?_
  refine wa (Qac ?_)
  exact Qan (k9 + 1, (d10.set k9 (Qiz (gt x0 k9))), ()) sl3 idM ⟨(by omega), nx hF12 (rfl), trivial⟩ rl
 refine Qm rfl g15 ?_
 refine Qay (Qu (Qu ?_))
 have hE36 := Qbh hl14 hF12
 refine Qaz (Qd (sr (wm (wa (nt' (Qj ?_))))))
 have he37 := (show Qgu x0 = d10 from Qar hE36 (rfl))
 refine Qcu rfl (Qdl rfl) (fun W hm => ⟨.slice (sA p7) x0.length x0.length, ?_, ?_⟩)
 ·first | rw [he37] | rfl
 rw [he37]; exact hm

def Qfr (x0 : Qw) : Qw :=
 (⟨(Qco x0.Query), x0.Time, (Qbx x0.Todo), x0.Age, x0.Sent, x0.Cap, (Qgu x0.Rows)⟩ : Qw)
theorem Qanr : Cb Tryz.prog 135 := ⟨f135, _, func135, rfl, by decide⟩
theorem Qaxr (w : World) (z0 : List Value) (x0 : Qw) (r_0 : Qle.rd w w.heap.size z0 x0) (s_0 : Qjf 68719476736 x0) :
  Calls Tryz.prog 135 #[.agg z0.toArray] w (rO w Qah (Qfr x0)) := by
 obtain ⟨v1, v3, v5, v7, rfl, r2, r4, r6, r8⟩ := Qwe r_0
 obtain ⟨m9, A10, c11, rfl, q12, r13⟩ := Qi r2
 obtain ⟨m14, A15, c16, rfl, q17, r18⟩ := Qi r4
 obtain ⟨m19, A20, c21, rfl, q22, r23⟩ := Qi r6
 obtain ⟨m24, A25, c26, rfl, q27, r28⟩ := Qi r8
 have l29 := s_0.1.1
 have l30 := s_0.1.2
 have l31 := s_0.2.1
 have l32 := s_0.2.2.1
 refine ce1 (L := [(0, .agg #[iV x0.Query.Id, iV x0.Query.Tenant, .slice A10 x0.Query.Conds.length c11, .slice A15 x0.Query.Out.length c16, iV x0.Time, .slice A20 x0.Todo.length c21, iV x0.Age, iV x0.Sent, iV x0.Cap, .slice A25 x0.Rows.length c26])]) (N := 29) func135 ?_
 refine sr ?_
 refine Qbn rfl (Qk rfl) (by decide) (fun p33 => ?_)
 refine Qbm Qbe rfl (Qk rfl) (by decide) (fun p34 => ?_)
 refine nt' (sr ?_)
 refine Qbm Qbe rfl (Qk rfl) (by decide) (fun p35 => ?_)
 refine nt' (sr ?_)
 refine wv (vf Qli rfl type144) ?_
 refine wv (fun W hm => Qad (cs := [iV x0.Query.Id, iV x0.Query.Tenant, .slice A10 x0.Query.Conds.length c11, .slice A15 x0.Query.Out.length c16]) Qmx type144 rfl rfl (hm.boxPart (n := 2) rfl rfl)) ?_
 refine wcs Qcm (Qco x0.Query) (Qr Qaea rfl) (fun W hm => Qagv W _ x0.Query (Qwh (x := x0.Query) (hm.rdS0 r13) (hm.rdS0 r18)) s_0.1) (fun z36 => ?_)
 refine Qpf ?_
 rintro ⟨v37, v38⟩ rfl
 refine fm 0 ?_
 rintro A39 c40 rfl m41
 refine fm 1 ?_
 rintro A43 c44 rfl m45
 refine wv (vf Qaj rfl Qbj) ?_
 let K1 : List Value := [iV 0, iV 0, .slice none 0 0, .slice none 0 0, iV 0, .slice none 0 0, iV 0, iV 0, iV 0, .slice none 0 0]
 let K2 : List Value := [iV x0.Query.Id, iV x0.Query.Tenant, .slice A10 x0.Query.Conds.length c11, .slice A15 x0.Query.Out.length c16, iV x0.Time, .slice A20 x0.Todo.length c21, iV x0.Age, iV x0.Sent, iV x0.Cap, .slice A25 x0.Rows.length c26]
 let I4 : It := iS Qbl 180 A39 c40 ((Qco x0.Query).Conds)
 let I5 : It := iS Qa 3 A43 c44 ((Qco x0.Query).Out)
 let J6 : List It := [I4, I5, Qh p34 61 K1, Qh p33 147 K2]
 refine sb 0 [iV ((Qco x0.Query).Id), iV ((Qco x0.Query).Tenant), .slice A39 ((Qco x0.Query).Conds).length c40, .slice A43 ((Qco x0.Query).Out).length c44, iV 0, .slice none 0 0, iV 0, iV 0, iV 0, .slice none 0 0] J6 (pk [2, 0, 1, 3, 4]) Qbj ?_
 refine nt' (sr ?_)
 refine wv (vf Qli rfl Qf) ?_
 refine wv (vl 4 4 Qs) ?_
 refine wv (vf Qaj rfl Qf) ?_
 refine sb 4 [iV ((Qco x0.Query).Id), iV ((Qco x0.Query).Tenant), .slice A39 ((Qco x0.Query).Conds).length c40, .slice A43 ((Qco x0.Query).Out).length c44, iV x0.Time, .slice none 0 0, iV 0, iV 0, iV 0, .slice none 0 0] J6 idM Qf ?_
 refine nt' (sr ?_)
 refine wv (vf Qli rfl Qao) ?_
 refine wv (vl 4 5 Qq) ?_
 refine wcl (tSl Qa 3) (Qbx x0.Todo) (Qr Qni rfl) (fun W hm => Qny W _ x0.Todo (hm.rdS0 r23) s_0.2.1) (fun z47 => ?_)
 refine fm 0 ?_
 rintro A48 c49 rfl m50
 refine wv (vf Qaj rfl Qao) ?_
 let J7 : List It := iS Qa 3 A48 c49 (Qbx x0.Todo) :: J6
 refine sb 5 [iV ((Qco x0.Query).Id), iV ((Qco x0.Query).Tenant), .slice A39 ((Qco x0.Query).Conds).length c40, .slice A43 ((Qco x0.Query).Out).length c44, iV x0.Time, .slice A48 (Qbx x0.Todo).length c49, iV 0, iV 0, iV 0, .slice none 0 0] J7 (pk [1, 0, 2, 3, 4, 5]) Qao ?_
 refine nt' (sr ?_)
 refine wv (vf Qli rfl Qf) ?_
 refine wv (vl 5 6 Qs) ?_
 refine wv (vf Qaj rfl Qf) ?_
 refine sb 6 [iV ((Qco x0.Query).Id), iV ((Qco x0.Query).Tenant), .slice A39 ((Qco x0.Query).Conds).length c40, .slice A43 ((Qco x0.Query).Out).length c44, iV x0.Time, .slice A48 (Qbx x0.Todo).length c49, iV x0.Age, iV 0, iV 0, .slice none 0 0] J7 idM Qf ?_
 refine nt' (sr ?_)
 refine wv (vf Qli rfl Qf) ?_
 refine wv (vl 5 7 Qs) ?_
 refine wv (vf Qaj rfl Qf) ?_
 refine sb 7 [iV ((Qco x0.Query).Id), iV ((Qco x0.Query).Tenant), .slice A39 ((Qco x0.Query).Conds).length c40, .slice A43 ((Qco x0.Query).Out).length c44, iV x0.Time, .slice A48 (Qbx x0.Todo).length c49, iV x0.Age, iV x0.Sent, iV 0, .slice none 0 0] J7 idM Qf ?_
 refine nt' (sr ?_)
 refine wv (vf Qli rfl Qf) ?_
 refine wv (vl 5 8 Qs) ?_
 refine wv (vf Qaj rfl Qf) ?_
 refine sb 8 [iV ((Qco x0.Query).Id), iV ((Qco x0.Query).Tenant), .slice A39 ((Qco x0.Query).Conds).length c40, .slice A43 ((Qco x0.Query).Out).length c44, iV x0.Time, .slice A48 (Qbx x0.Todo).length c49, iV x0.Age, iV x0.Sent, iV x0.Cap, .slice none 0 0] J7 idM Qf ?_
 refine nt' (sr ?_)
 refine wv (vf Qli rfl type145) ?_
 refine wv (vl 5 9 Qmy) ?_
 refine wcl (tSl Qap 70) (Qgu x0.Rows) (Qr Qaeb rfl) (fun W hm => Qagx W _ x0.Rows (hm.rdS0 r28) s_0.2.2) (fun z52 => ?_)
 refine fm 0 ?_
 rintro A53 c54 rfl m55
 refine wv (vf Qaj rfl Qdt) ?_
 let K3 : List Value := [iV ((Qco x0.Query).Id), iV ((Qco x0.Query).Tenant), .slice A39 ((Qco x0.Query).Conds).length c40, .slice A43 ((Qco x0.Query).Out).length c44, iV x0.Time, .slice A48 (Qbx x0.Todo).length c49, iV x0.Age, iV x0.Sent, iV x0.Cap, .slice A53 (Qgu x0.Rows).length c54]
 refine sb 9 K3 (iS Qap 70 A53 c54 (Qgu x0.Rows) :: J7) (pk [1, 0, 2, 3, 4, 5, 6]) Qdt ?_
 refine nt' (sr ?_)
 refine wv (fun W hm => Qad (cs := K3) Qaj Qbe rfl rfl (hm.boxCells (n := 0) rfl)) ?_
 refine sb 0 K3 [Qh p35 61 K3, iS Qap 70 A53 c54 (Qgu x0.Rows), iS Qa 3 A48 c49 (Qbx x0.Todo), I4, I5, Qh p33 147 K2] (pk [5, 0, 1, 2, 3, 4, 6]) Qbe ?_
 refine nt' (Qj ?_)
 have he57 := (show Qfr x0 = (⟨(Qco x0.Query), x0.Time, (Qbx x0.Todo), x0.Age, x0.Sent, x0.Cap, (Qgu x0.Rows)⟩ : Qw) from rfl)
 refine Qcu rfl (Qdp (n := 0) rfl rfl Qaj Qbe rfl) (fun W hm => ⟨K3, ?_, ?_⟩)
 ·first | rw [he57] | rfl
 rw [he57]; exact Mem.join (is := [I4, I5, iS Qa 3 A48 c49 (Qbx x0.Todo), iS Qap 70 A53 c54 (Qgu x0.Rows)]) (js := []) (fun _ _ hs => Qho (x := (⟨(Qco x0.Query), x0.Time, (Qbx x0.Todo), x0.Age, x0.Sent, x0.Cap, (Qgu x0.Rows)⟩ : Qw)) hs) (hm.pick [4, 5, 3, 2] (by decide))

def Qzx (x0 : (List Qw)) (k9 : Nat) (d10 : (List Qw)) : (List Qw) ⊕ ((List Qw)) :=
 Sum.inr (d10.set k9 (Qfr (gt x0 k9)))
def Qiy (x0 : (List Qw)) : (List Qw) :=
 Sum.elim id (fun (s : (List Qw)) => s) (rng (R := (List Qw)) (fun k (s : (List Qw)) => Qzx x0 k s) (x0.length - 0) 0 (List.replicate x0.length (⟨(⟨(0 : Int), (0 : Int), [], []⟩ : Qat), (0 : Int), [], (0 : Int), (0 : Int), (0 : Int), []⟩ : Qw)))
theorem cb65 : Cb Tryz.prog 65 := ⟨f65, _, func65, rfl, by decide⟩
theorem Qaxp (w : World) (z0 : Value) (x0 : (List Qw)) (r_0 : rdS Qle w w.heap.size z0 x0) (s_0 : (x0.length ≤ 68719476736 ∧ ∀ y ∈ x0, Qjf 68719476736 y)) :
  Calls Tryz.prog 65 #[z0] w (rL w (tSl Qah 61) (Qiy x0)) := by
 obtain ⟨m1, A2, c3, rfl, q4, r5⟩ := Qi r_0
 have l6 : x0.length ≤ 68719476736 := s_0.1
 refine ce1 (L := [(0, .slice A2 x0.length c3)]) (N := 23) func65 ?_
 refine sr (wa (nt' (sr (wm ?_))))
 refine wv (Qag Qpk) ?_
 refine Qne (E := Qah) (n := x0.length) (x0 := (⟨(⟨(0 : Int), (0 : Int), [], []⟩ : Qat), (0 : Int), [], (0 : Int), (0 : Int), (0 : Int), []⟩ : Qw)) Qax Qbe rfl rfl rfl (fun _ => ⟨[], [], _, _, rfl, rfl, ⟨[], [], _, _, rfl, rfl, Qck, ⟨[], [], _, _, rfl, rfl, Qck, ⟨[], [], _, _, rfl, rfl, Qis, Qis⟩⟩⟩, ⟨[], [], _, _, rfl, rfl, Qck, ⟨[], [], _, _, rfl, rfl, Qis, ⟨[], [], _, _, rfl, rfl, Qck, ⟨[], [], _, _, rfl, rfl, Qck, ⟨[], [], _, _, rfl, rfl, Qck, Qis⟩⟩⟩⟩⟩⟩) rfl rfl (show x0.length * 144 ≤ 281474976710656 from by omega) (by omega) (Qk rfl) (by decide) (fun p7 => ?_)
 refine wa (nt' (Qe (sr (wa (nt' (Qx ?_))))))
 refine Qbg (S := (List Qw)) (R := Unit) (fun k (s : (List Qw)) => Qzx x0 k s) x0.length 0 (List.replicate x0.length (⟨(⟨(0 : Int), (0 : Int), [], []⟩ : Qat), (0 : Int), [], (0 : Int), (0 : Int), (0 : Int), []⟩ : Qw)) () (fun s => [(0, .slice A2 x0.length c3), (3, .slice (sA p7) x0.length x0.length), (4, nI s.1)]) (fun s => [Qn (tSl Qah 61) [.slice (sA p7) x0.length x0.length] s.2.1]) (fun s => True) sl3 trivial ?_
 rintro ⟨k9, d10, ⟨⟩⟩ H13 _ _ e e'
 dsimp only at H13 ⊢
 subst e e'
 obtain ⟨hk11, hF12, _⟩ := H13
 refine Qe (sr (wm (wm ?_)))
 refine wv (Qag Qpk) ?_
 refine wv Qai ?_
 refine nt' ?_
 rcases dcl k9 x0.length with ⟨hl14, g15⟩ | ⟨hl14, g15⟩
 ·
  refine Ql rfl g15 ?_
  refine Qp (Qd (Qe (Qx (Qy ?_))))
  iterate 4 refine wm ?_
  obtain ⟨a16, rfl, hb17, he18⟩ := q4 (by omega)
  refine wv (vix 10 k9 Qpk type147) ?_
  obtain ⟨_, e28, hc19⟩ := he18 k9 _ (Qbs (show k9 < x0.length from by omega))
  obtain ⟨v20, v22, v24, v26, rfl, r21, r23, r25, r27⟩ := Qwe e28
  have l29 := (s_0.2 _ (Qak (show k9 < x0.length from by omega))).1.1
  have l30 := (s_0.2 _ (Qak (show k9 < x0.length from by omega))).1.2
  have l31 := (s_0.2 _ (Qak (show k9 < x0.length from by omega))).2.1
  have l32 := (s_0.2 _ (Qak (show k9 < x0.length from by omega))).2.2.1
  obtain ⟨m33, A34, c35, rfl, q36, r37⟩ := Qi r21
  obtain ⟨m38, A39, c40, rfl, q41, r42⟩ := Qi r23
  obtain ⟨m43, A44, c45, rfl, q46, r47⟩ := Qi r25
  obtain ⟨m48, A49, c50, rfl, q51, r52⟩ := Qi r27
  refine wv (fun W hm => Qad (cs := [iV ((gt x0 k9).Query.Id), iV ((gt x0 k9).Query.Tenant), .slice A34 ((gt x0 k9).Query.Conds).length c35, .slice A39 ((gt x0 k9).Query.Out).length c40, iV ((gt x0 k9).Time), .slice A44 ((gt x0 k9).Todo).length c45, iV ((gt x0 k9).Age), iV ((gt x0 k9).Sent), iV ((gt x0 k9).Cap), .slice A49 ((gt x0 k9).Rows).length c50]) Qli type147 rfl rfl (hm.elCells (show (a16.add (k9 * 10)).block < w.heap.size from by rw [Qae]; exact hb17.1) hc19)) ?_
  refine wcs Qah (Qfr (gt x0 k9)) (Qr Qanr rfl) (fun W hm => Qaxr W _ (gt x0 k9) (Qait (x := (gt x0 k9)) (hm.rdS0 r37) (hm.rdS0 r42) (hm.rdS0 r47) (hm.rdS0 r52)) (s_0.2 _ (Qak (show k9 < x0.length from by omega)))) (fun z53 => ?_)
  refine Qof ?_
  rintro ⟨v54, v55, v56, v57⟩ rfl
  refine fm 0 ?_
  rintro A58 c59 rfl m60
  refine fm 1 ?_
  rintro A62 c63 rfl m64
  refine fm 2 ?_
  rintro A66 c67 rfl m68
  refine fm 3 ?_
  rintro A70 c71 rfl m72
  refine wv (vix 10 k9 Qax Qbe) ?_
  refine Qme (E := Qah) (e := 61) (u := .agg #[iV ((Qfr (gt x0 k9)).Query.Id), iV ((Qfr (gt x0 k9)).Query.Tenant), .slice A58 ((Qfr (gt x0 k9)).Query.Conds).length c59, .slice A62 ((Qfr (gt x0 k9)).Query.Out).length c63, iV ((Qfr (gt x0 k9)).Time), .slice A66 ((Qfr (gt x0 k9)).Todo).length c67, iV ((Qfr (gt x0 k9)).Age), iV ((Qfr (gt x0 k9)).Sent), iV ((Qfr (gt x0 k9)).Cap), .slice A70 ((Qfr (gt x0 k9)).Rows).length c71]) (k := k9) (p := p7) (n := x0.length) (xs := d10) (eis := [iS Qbl 180 A58 c59 ((Qfr (gt x0 k9)).Query.Conds), iS Qa 3 A62 c63 ((Qfr (gt x0 k9)).Query.Out), iS Qa 3 A66 c67 ((Qfr (gt x0 k9)).Todo), iS Qap 70 A70 c71 ((Qfr (gt x0 k9)).Rows)]) (js := []) (yv := (Qfr (gt x0 k9))) (pk [4, 0, 1, 2, 3]) (fun _ _ hs => (Qho (x := (Qfr (gt x0 k9))) hs)) rfl Qbe rfl (by omega) rfl rfl (Qk rfl) ?_
  refine Qac (Qam (Qd (Qy (wm ?_))))
  refine wv (Qal k9 1 (by omega)) ?_
  refine wa (Qac ?_)
  exact Qan (k9 + 1, (d10.set k9 (Qfr (gt x0 k9))), ()) sl3 idM ⟨(by omega), nx hF12 (rfl), trivial⟩ rl
 refine Qm rfl g15 ?_
 refine Qay (Qu (Qu ?_))
 have hE75 := Qbh hl14 hF12
 refine Qaz (Qd (sr (wm (wa (nt' (Qj ?_))))))
 have he76 := (show Qiy x0 = d10 from Qar hE75 (rfl))
 refine Qcu rfl (Qdl rfl) (fun W hm => ⟨.slice (sA p7) x0.length x0.length, ?_, ?_⟩)
 ·first | rw [he76] | rfl
 rw [he76]; exact hm

def Qgt (x0 : Qav) : Qav :=
 (⟨(Qco x0.Query), x0.Time, x0.Steps, (Qgu x0.Rows)⟩ : Qav)
theorem Qans : Cb Tryz.prog 136 := ⟨f136, _, func136, rfl, by decide⟩
theorem Qayd (w : World) (z0 : List Value) (x0 : Qav) (r_0 : Qlg.rd w w.heap.size z0 x0) (s_0 : Qjg 68719476736 x0) :
  Calls Tryz.prog 136 #[.agg z0.toArray] w (rO w Qas (Qgt x0)) := by
 obtain ⟨v1, v3, v5, rfl, r2, r4, r6⟩ := Qwg r_0
 obtain ⟨m7, A8, c9, rfl, q10, r11⟩ := Qi r2
 obtain ⟨m12, A13, c14, rfl, q15, r16⟩ := Qi r4
 obtain ⟨m17, A18, c19, rfl, q20, r21⟩ := Qi r6
 have l22 := s_0.1.1
 have l23 := s_0.1.2
 have l24 := s_0.2.1
 refine ce1 (L := [(0, .agg #[iV x0.Query.Id, iV x0.Query.Tenant, .slice A8 x0.Query.Conds.length c9, .slice A13 x0.Query.Out.length c14, iV x0.Time, iV x0.Steps, .slice A18 x0.Rows.length c19])]) (N := 19) func136 ?_
 refine sr ?_
 refine Qbn rfl (Qk rfl) (by decide) (fun p25 => ?_)
 refine Qbm Qcq rfl (Qk rfl) (by decide) (fun p26 => ?_)
 refine nt' (sr ?_)
 refine Qbm Qcq rfl (Qk rfl) (by decide) (fun p27 => ?_)
 refine nt' (sr ?_)
 refine wv (vf Qpg rfl type144) ?_
 refine wv (fun W hm => Qad (cs := [iV x0.Query.Id, iV x0.Query.Tenant, .slice A8 x0.Query.Conds.length c9, .slice A13 x0.Query.Out.length c14]) Qmx type144 rfl rfl (hm.boxPart (n := 2) rfl rfl)) ?_
 refine wcs Qcm (Qco x0.Query) (Qr Qaea rfl) (fun W hm => Qagv W _ x0.Query (Qwh (x := x0.Query) (hm.rdS0 r11) (hm.rdS0 r16)) s_0.1) (fun z28 => ?_)
 refine Qpf ?_
 rintro ⟨v29, v30⟩ rfl
 refine fm 0 ?_
 rintro A31 c32 rfl m33
 refine fm 1 ?_
 rintro A35 c36 rfl m37
 refine wv (vf Qda rfl Qbj) ?_
 let K1 : List Value := [iV 0, iV 0, .slice none 0 0, .slice none 0 0, iV 0, iV 0, .slice none 0 0]
 let K2 : List Value := [iV x0.Query.Id, iV x0.Query.Tenant, .slice A8 x0.Query.Conds.length c9, .slice A13 x0.Query.Out.length c14, iV x0.Time, iV x0.Steps, .slice A18 x0.Rows.length c19]
 let I4 : It := iS Qbl 180 A31 c32 ((Qco x0.Query).Conds)
 let I5 : It := iS Qa 3 A35 c36 ((Qco x0.Query).Out)
 let J6 : List It := [I4, I5, Qh p26 80 K1, Qh p25 150 K2]
 refine sb 0 [iV ((Qco x0.Query).Id), iV ((Qco x0.Query).Tenant), .slice A31 ((Qco x0.Query).Conds).length c32, .slice A35 ((Qco x0.Query).Out).length c36, iV 0, iV 0, .slice none 0 0] J6 (pk [2, 0, 1, 3, 4]) Qbj ?_
 refine nt' (sr ?_)
 refine wv (vf Qpg rfl Qf) ?_
 refine wv (vl 4 4 Qs) ?_
 refine wv (vf Qda rfl Qf) ?_
 refine sb 4 [iV ((Qco x0.Query).Id), iV ((Qco x0.Query).Tenant), .slice A31 ((Qco x0.Query).Conds).length c32, .slice A35 ((Qco x0.Query).Out).length c36, iV x0.Time, iV 0, .slice none 0 0] J6 idM Qf ?_
 refine nt' (sr ?_)
 refine wv (vf Qpg rfl Qf) ?_
 refine wv (vl 4 5 Qs) ?_
 refine wv (vf Qda rfl Qf) ?_
 refine sb 5 [iV ((Qco x0.Query).Id), iV ((Qco x0.Query).Tenant), .slice A31 ((Qco x0.Query).Conds).length c32, .slice A35 ((Qco x0.Query).Out).length c36, iV x0.Time, iV x0.Steps, .slice none 0 0] J6 idM Qf ?_
 refine nt' (sr ?_)
 refine wv (vf Qpg rfl type145) ?_
 refine wv (vl 4 6 Qmy) ?_
 refine wcl (tSl Qap 70) (Qgu x0.Rows) (Qr Qaeb rfl) (fun W hm => Qagx W _ x0.Rows (hm.rdS0 r21) s_0.2) (fun z39 => ?_)
 refine fm 0 ?_
 rintro A40 c41 rfl m42
 refine wv (vf Qda rfl Qdt) ?_
 let K3 : List Value := [iV ((Qco x0.Query).Id), iV ((Qco x0.Query).Tenant), .slice A31 ((Qco x0.Query).Conds).length c32, .slice A35 ((Qco x0.Query).Out).length c36, iV x0.Time, iV x0.Steps, .slice A40 (Qgu x0.Rows).length c41]
 refine sb 6 K3 (iS Qap 70 A40 c41 (Qgu x0.Rows) :: J6) (pk [1, 0, 2, 3, 4, 5]) Qdt ?_
 refine nt' (sr ?_)
 refine wv (fun W hm => Qad (cs := K3) Qda Qcq rfl rfl (hm.boxCells (n := 0) rfl)) ?_
 refine sb 0 K3 [Qh p27 80 K3, iS Qap 70 A40 c41 (Qgu x0.Rows), I4, I5, Qh p25 150 K2] (pk [4, 0, 1, 2, 3, 5]) Qcq ?_
 refine nt' (Qj ?_)
 have he44 := (show Qgt x0 = (⟨(Qco x0.Query), x0.Time, x0.Steps, (Qgu x0.Rows)⟩ : Qav) from rfl)
 refine Qcu rfl (Qdp (n := 0) rfl rfl Qda Qcq rfl) (fun W hm => ⟨K3, ?_, ?_⟩)
 ·first | rw [he44] | rfl
 rw [he44]; exact Mem.join (is := [I4, I5, iS Qap 70 A40 c41 (Qgu x0.Rows)]) (js := []) (fun _ _ hs => Qly (x := (⟨(Qco x0.Query), x0.Time, x0.Steps, (Qgu x0.Rows)⟩ : Qav)) hs) (hm.pick [3, 4, 2] (by decide))

def Qaaa (x0 : (List Qav)) (k9 : Nat) (d10 : (List Qav)) : (List Qav) ⊕ ((List Qav)) :=
 Sum.inr (d10.set k9 (Qgt (gt x0 k9)))
def Qka (x0 : (List Qav)) : (List Qav) :=
 Sum.elim id (fun (s : (List Qav)) => s) (rng (R := (List Qav)) (fun k (s : (List Qav)) => Qaaa x0 k s) (x0.length - 0) 0 (List.replicate x0.length (⟨(⟨(0 : Int), (0 : Int), [], []⟩ : Qat), (0 : Int), (0 : Int), []⟩ : Qav)))
theorem cb66 : Cb Tryz.prog 66 := ⟨f66, _, func66, rfl, by decide⟩
theorem Qayb (w : World) (z0 : Value) (x0 : (List Qav)) (r_0 : rdS Qlg w w.heap.size z0 x0) (s_0 : (x0.length ≤ 68719476736 ∧ ∀ y ∈ x0, Qjg 68719476736 y)) :
  Calls Tryz.prog 66 #[z0] w (rL w (tSl Qas 80) (Qka x0)) := by
 obtain ⟨m1, A2, c3, rfl, q4, r5⟩ := Qi r_0
 have l6 : x0.length ≤ 68719476736 := s_0.1
 refine ce1 (L := [(0, .slice A2 x0.length c3)]) (N := 23) func66 ?_
 refine sr (wa (nt' (sr (wm ?_))))
 refine wv (Qag Qpl) ?_
 refine Qne (E := Qas) (n := x0.length) (x0 := (⟨(⟨(0 : Int), (0 : Int), [], []⟩ : Qat), (0 : Int), (0 : Int), []⟩ : Qav)) Qch Qcq rfl rfl rfl (fun _ => ⟨[], [], _, _, rfl, rfl, ⟨[], [], _, _, rfl, rfl, Qck, ⟨[], [], _, _, rfl, rfl, Qck, ⟨[], [], _, _, rfl, rfl, Qis, Qis⟩⟩⟩, ⟨[], [], _, _, rfl, rfl, Qck, ⟨[], [], _, _, rfl, rfl, Qck, Qis⟩⟩⟩) rfl rfl (show x0.length * 104 ≤ 281474976710656 from by omega) (by omega) (Qk rfl) (by decide) (fun p7 => ?_)
 refine wa (nt' (Qe (sr (wa (nt' (Qx ?_))))))
 refine Qbg (S := (List Qav)) (R := Unit) (fun k (s : (List Qav)) => Qaaa x0 k s) x0.length 0 (List.replicate x0.length (⟨(⟨(0 : Int), (0 : Int), [], []⟩ : Qat), (0 : Int), (0 : Int), []⟩ : Qav)) () (fun s => [(0, .slice A2 x0.length c3), (3, .slice (sA p7) x0.length x0.length), (4, nI s.1)]) (fun s => [Qn (tSl Qas 80) [.slice (sA p7) x0.length x0.length] s.2.1]) (fun s => True) sl3 trivial ?_
 rintro ⟨k9, d10, ⟨⟩⟩ H13 _ _ e e'
 dsimp only at H13 ⊢
 subst e e'
 obtain ⟨hk11, hF12, _⟩ := H13
 refine Qe (sr (wm (wm ?_)))
 refine wv (Qag Qpl) ?_
 refine wv Qai ?_
 refine nt' ?_
 rcases dcl k9 x0.length with ⟨hl14, g15⟩ | ⟨hl14, g15⟩
 ·
  refine Ql rfl g15 ?_
  refine Qp (Qd (Qe (Qx (Qy ?_))))
  iterate 4 refine wm ?_
  obtain ⟨a16, rfl, hb17, he18⟩ := q4 (by omega)
  refine wv (vix 7 k9 Qpl type150) ?_
  obtain ⟨_, e26, hc19⟩ := he18 k9 _ (Qbs (show k9 < x0.length from by omega))
  obtain ⟨v20, v22, v24, rfl, r21, r23, r25⟩ := Qwg e26
  have l27 := (s_0.2 _ (Qak (show k9 < x0.length from by omega))).1.1
  have l28 := (s_0.2 _ (Qak (show k9 < x0.length from by omega))).1.2
  have l29 := (s_0.2 _ (Qak (show k9 < x0.length from by omega))).2.1
  obtain ⟨m30, A31, c32, rfl, q33, r34⟩ := Qi r21
  obtain ⟨m35, A36, c37, rfl, q38, r39⟩ := Qi r23
  obtain ⟨m40, A41, c42, rfl, q43, r44⟩ := Qi r25
  refine wv (fun W hm => Qad (cs := [iV ((gt x0 k9).Query.Id), iV ((gt x0 k9).Query.Tenant), .slice A31 ((gt x0 k9).Query.Conds).length c32, .slice A36 ((gt x0 k9).Query.Out).length c37, iV ((gt x0 k9).Time), iV ((gt x0 k9).Steps), .slice A41 ((gt x0 k9).Rows).length c42]) Qpg type150 rfl rfl (hm.elCells (show (a16.add (k9 * 7)).block < w.heap.size from by rw [Qae]; exact hb17.1) hc19)) ?_
  refine wcs Qas (Qgt (gt x0 k9)) (Qr Qans rfl) (fun W hm => Qayd W _ (gt x0 k9) (Qaix (x := (gt x0 k9)) (hm.rdS0 r34) (hm.rdS0 r39) (hm.rdS0 r44)) (s_0.2 _ (Qak (show k9 < x0.length from by omega)))) (fun z45 => ?_)
  refine Qabr ?_
  rintro ⟨v46, v47, v48⟩ rfl
  refine fm 0 ?_
  rintro A49 c50 rfl m51
  refine fm 1 ?_
  rintro A53 c54 rfl m55
  refine fm 2 ?_
  rintro A57 c58 rfl m59
  refine wv (vix 7 k9 Qch Qcq) ?_
  refine Qme (E := Qas) (e := 80) (u := .agg #[iV ((Qgt (gt x0 k9)).Query.Id), iV ((Qgt (gt x0 k9)).Query.Tenant), .slice A49 ((Qgt (gt x0 k9)).Query.Conds).length c50, .slice A53 ((Qgt (gt x0 k9)).Query.Out).length c54, iV ((Qgt (gt x0 k9)).Time), iV ((Qgt (gt x0 k9)).Steps), .slice A57 ((Qgt (gt x0 k9)).Rows).length c58]) (k := k9) (p := p7) (n := x0.length) (xs := d10) (eis := [iS Qbl 180 A49 c50 ((Qgt (gt x0 k9)).Query.Conds), iS Qa 3 A53 c54 ((Qgt (gt x0 k9)).Query.Out), iS Qap 70 A57 c58 ((Qgt (gt x0 k9)).Rows)]) (js := []) (yv := (Qgt (gt x0 k9))) (pk [3, 0, 1, 2]) (fun _ _ hs => (Qly (x := (Qgt (gt x0 k9))) hs)) rfl Qcq rfl (by omega) rfl rfl (Qk rfl) ?_
  refine Qac (Qam (Qd (Qy (wm ?_))))
  refine wv (Qal k9 1 (by omega)) ?_
  refine wa (Qac ?_)
  exact Qan (k9 + 1, (d10.set k9 (Qgt (gt x0 k9))), ()) sl3 idM ⟨(by omega), nx hF12 (rfl), trivial⟩ rl
 refine Qm rfl g15 ?_
 refine Qay (Qu (Qu ?_))
 have hE62 := Qbh hl14 hF12
 refine Qaz (Qd (sr (wm (wa (nt' (Qj ?_))))))
 have he63 := (show Qka x0 = d10 from Qar hE62 (rfl))
 refine Qcu rfl (Qdl rfl) (fun W hm => ⟨.slice (sA p7) x0.length x0.length, ?_, ?_⟩)
 ·first | rw [he63] | rfl
 rw [he63]; exact hm

def Qhm (x0 : Qbc) : Qbc :=
 (⟨x0.Segment, x0.Base, (Qbx x0.Ids), (Qbx x0.Tenants), (Qbx x0.Rows)⟩ : Qbc)
theorem Qant : Cb Tryz.prog 137 := ⟨f137, _, func137, rfl, by decide⟩
theorem Qaxv (w : World) (z0 : List Value) (x0 : Qbc) (r_0 : Qlf.rd w w.heap.size z0 x0) (s_0 : Qil 68719476736 x0) :
  Calls Tryz.prog 137 #[.agg z0.toArray] w (rO w Qaq (Qhm x0)) := by
 obtain ⟨v1, v3, v5, rfl, r2, r4, r6⟩ := Qwf r_0
 obtain ⟨m7, A8, c9, rfl, q10, r11⟩ := Qi r2
 obtain ⟨m12, A13, c14, rfl, q15, r16⟩ := Qi r4
 obtain ⟨m17, A18, c19, rfl, q20, r21⟩ := Qi r6
 have l22 := s_0.1
 have l23 := s_0.2.1
 have l24 := s_0.2.2
 refine ce1 (L := [(0, .agg #[iV x0.Segment, iV x0.Base, .slice A8 x0.Ids.length c9, .slice A13 x0.Tenants.length c14, .slice A18 x0.Rows.length c19])]) (N := 23) func137 ?_
 refine sr ?_
 refine Qbn rfl (Qk rfl) (by decide) (fun p25 => ?_)
 refine Qbm Qcs rfl (Qk rfl) (by decide) (fun p26 => ?_)
 refine nt' (sr ?_)
 refine Qbm Qcs rfl (Qk rfl) (by decide) (fun p27 => ?_)
 refine nt' (sr ?_)
 refine wv (vf Qmz rfl Qf) ?_
 refine wv (vl 2 0 Qs) ?_
 refine wv (vf Qby rfl Qf) ?_
 let K1 : List Value := [iV 0, iV 0, .slice none 0 0, .slice none 0 0, .slice none 0 0]
 let K2 : List Value := [iV x0.Segment, iV x0.Base, .slice A8 x0.Ids.length c9, .slice A13 x0.Tenants.length c14, .slice A18 x0.Rows.length c19]
 let J4 : List It := [Qh p26 102 K1, Qh p25 152 K2]
 refine sb 0 [iV x0.Segment, iV 0, .slice none 0 0, .slice none 0 0, .slice none 0 0] J4 idM Qf ?_
 refine nt' (sr ?_)
 refine wv (vf Qmz rfl Qf) ?_
 refine wv (vl 2 1 Qs) ?_
 refine wv (vf Qby rfl Qf) ?_
 refine sb 1 [iV x0.Segment, iV x0.Base, .slice none 0 0, .slice none 0 0, .slice none 0 0] J4 idM Qf ?_
 refine nt' (sr ?_)
 refine wv (vf Qmz rfl Qao) ?_
 refine wv (vl 2 2 Qq) ?_
 refine wcl (tSl Qa 3) (Qbx x0.Ids) (Qr Qni rfl) (fun W hm => Qny W _ x0.Ids (hm.rdS0 r11) s_0.1) (fun z28 => ?_)
 refine fm 0 ?_
 rintro A29 c30 rfl m31
 refine wv (vf Qby rfl Qao) ?_
 let J5 : List It := iS Qa 3 A29 c30 (Qbx x0.Ids) :: J4
 refine sb 2 [iV x0.Segment, iV x0.Base, .slice A29 (Qbx x0.Ids).length c30, .slice none 0 0, .slice none 0 0] J5 (pk [1, 0, 2, 3]) Qao ?_
 refine nt' (sr ?_)
 refine wv (vf Qmz rfl Qao) ?_
 refine wv (vl 3 3 Qq) ?_
 refine wcl (tSl Qa 3) (Qbx x0.Tenants) (Qr Qni rfl) (fun W hm => Qny W _ x0.Tenants (hm.rdS0 r16) s_0.2.1) (fun z33 => ?_)
 refine fm 0 ?_
 rintro A34 c35 rfl m36
 refine wv (vf Qby rfl Qao) ?_
 refine sb 3 [iV x0.Segment, iV x0.Base, .slice A29 (Qbx x0.Ids).length c30, .slice A34 (Qbx x0.Tenants).length c35, .slice none 0 0] (iS Qa 3 A34 c35 (Qbx x0.Tenants) :: J5) (pk [1, 0, 2, 3, 4]) Qao ?_
 refine nt' (sr ?_)
 refine wv (vf Qmz rfl Qao) ?_
 refine wv (vl 4 4 Qq) ?_
 refine wcl (tSl Qa 3) (Qbx x0.Rows) (Qr Qni rfl) (fun W hm => Qny W _ x0.Rows (hm.rdS0 r21) s_0.2.2) (fun z38 => ?_)
 refine fm 0 ?_
 rintro A39 c40 rfl m41
 refine wv (vf Qby rfl Qao) ?_
 let K3 : List Value := [iV x0.Segment, iV x0.Base, .slice A29 (Qbx x0.Ids).length c30, .slice A34 (Qbx x0.Tenants).length c35, .slice A39 (Qbx x0.Rows).length c40]
 refine sb 4 K3 (iS Qa 3 A39 c40 (Qbx x0.Rows) :: iS Qa 3 A34 c35 (Qbx x0.Tenants) :: J5) (pk [1, 0, 2, 3, 4, 5]) Qao ?_
 refine nt' (sr ?_)
 refine wv (fun W hm => Qad (cs := K3) Qby Qcs rfl rfl (hm.boxCells (n := 0) rfl)) ?_
 refine sb 0 K3 [Qh p27 102 K3, iS Qa 3 A39 c40 (Qbx x0.Rows), iS Qa 3 A34 c35 (Qbx x0.Tenants), iS Qa 3 A29 c30 (Qbx x0.Ids), Qh p25 152 K2] (pk [4, 0, 1, 2, 3, 5]) Qcs ?_
 refine nt' (Qj ?_)
 have he43 := (show Qhm x0 = (⟨x0.Segment, x0.Base, (Qbx x0.Ids), (Qbx x0.Tenants), (Qbx x0.Rows)⟩ : Qbc) from rfl)
 refine Qcu rfl (Qdp (n := 0) rfl rfl Qby Qcs rfl) (fun W hm => ⟨K3, ?_, ?_⟩)
 ·first | rw [he43] | rfl
 rw [he43]; exact Mem.join (is := [iS Qa 3 A29 c30 (Qbx x0.Ids), iS Qa 3 A34 c35 (Qbx x0.Tenants), iS Qa 3 A39 c40 (Qbx x0.Rows)]) (js := []) (fun _ _ hs => Qmt (x := (⟨x0.Segment, x0.Base, (Qbx x0.Ids), (Qbx x0.Tenants), (Qbx x0.Rows)⟩ : Qbc)) hs) (hm.pick [4, 3, 2] (by decide))

def Qzy (x0 : (List Qbc)) (k9 : Nat) (d10 : (List Qbc)) : (List Qbc) ⊕ ((List Qbc)) :=
 Sum.inr (d10.set k9 (Qhm (gt x0 k9)))
def Qkt (x0 : (List Qbc)) : (List Qbc) :=
 Sum.elim id (fun (s : (List Qbc)) => s) (rng (R := (List Qbc)) (fun k (s : (List Qbc)) => Qzy x0 k s) (x0.length - 0) 0 (List.replicate x0.length (⟨(0 : Int), (0 : Int), [], [], []⟩ : Qbc)))
theorem cb67 : Cb Tryz.prog 67 := ⟨f67, _, func67, rfl, by decide⟩
theorem Qaxt (w : World) (z0 : Value) (x0 : (List Qbc)) (r_0 : rdS Qlf w w.heap.size z0 x0) (s_0 : (x0.length ≤ 68719476736 ∧ ∀ y ∈ x0, Qil 68719476736 y)) :
  Calls Tryz.prog 67 #[z0] w (rL w (tSl Qaq 102) (Qkt x0)) := by
 obtain ⟨m1, A2, c3, rfl, q4, r5⟩ := Qi r_0
 have l6 : x0.length ≤ 68719476736 := s_0.1
 refine ce1 (L := [(0, .slice A2 x0.length c3)]) (N := 23) func67 ?_
 refine sr (wa (nt' (sr (wm ?_))))
 refine wv (Qag Qpm) ?_
 refine Qne (E := Qaq) (n := x0.length) (x0 := (⟨(0 : Int), (0 : Int), [], [], []⟩ : Qbc)) Qcx Qcs rfl rfl rfl (fun _ => ⟨[], [], _, _, rfl, rfl, Qck, ⟨[], [], _, _, rfl, rfl, Qck, ⟨[], [], _, _, rfl, rfl, Qis, ⟨[], [], _, _, rfl, rfl, Qis, Qis⟩⟩⟩⟩) rfl rfl (show x0.length * 88 ≤ 281474976710656 from by omega) (by omega) (Qk rfl) (by decide) (fun p7 => ?_)
 refine wa (nt' (Qe (sr (wa (nt' (Qx ?_))))))
 refine Qbg (S := (List Qbc)) (R := Unit) (fun k (s : (List Qbc)) => Qzy x0 k s) x0.length 0 (List.replicate x0.length (⟨(0 : Int), (0 : Int), [], [], []⟩ : Qbc)) () (fun s => [(0, .slice A2 x0.length c3), (3, .slice (sA p7) x0.length x0.length), (4, nI s.1)]) (fun s => [Qn (tSl Qaq 102) [.slice (sA p7) x0.length x0.length] s.2.1]) (fun s => True) sl3 trivial ?_
 rintro ⟨k9, d10, ⟨⟩⟩ H13 _ _ e e'
 dsimp only at H13 ⊢
 subst e e'
 obtain ⟨hk11, hF12, _⟩ := H13
 refine Qe (sr (wm (wm ?_)))
 refine wv (Qag Qpm) ?_
 refine wv Qai ?_
 refine nt' ?_
 rcases dcl k9 x0.length with ⟨hl14, g15⟩ | ⟨hl14, g15⟩
 ·
  refine Ql rfl g15 ?_
  refine Qp (Qd (Qe (Qx (Qy ?_))))
  iterate 4 refine wm ?_
  obtain ⟨a16, rfl, hb17, he18⟩ := q4 (by omega)
  refine wv (vix 5 k9 Qpm type152) ?_
  obtain ⟨_, e26, hc19⟩ := he18 k9 _ (Qbs (show k9 < x0.length from by omega))
  obtain ⟨v20, v22, v24, rfl, r21, r23, r25⟩ := Qwf e26
  have l27 := (s_0.2 _ (Qak (show k9 < x0.length from by omega))).1
  have l28 := (s_0.2 _ (Qak (show k9 < x0.length from by omega))).2.1
  have l29 := (s_0.2 _ (Qak (show k9 < x0.length from by omega))).2.2
  obtain ⟨m30, A31, c32, rfl, q33, r34⟩ := Qi r21
  obtain ⟨m35, A36, c37, rfl, q38, r39⟩ := Qi r23
  obtain ⟨m40, A41, c42, rfl, q43, r44⟩ := Qi r25
  refine wv (fun W hm => Qad (cs := [iV ((gt x0 k9).Segment), iV ((gt x0 k9).Base), .slice A31 ((gt x0 k9).Ids).length c32, .slice A36 ((gt x0 k9).Tenants).length c37, .slice A41 ((gt x0 k9).Rows).length c42]) Qmz type152 rfl rfl (hm.elCells (show (a16.add (k9 * 5)).block < w.heap.size from by rw [Qae]; exact hb17.1) hc19)) ?_
  refine wcs Qaq (Qhm (gt x0 k9)) (Qr Qant rfl) (fun W hm => Qaxv W _ (gt x0 k9) (Qaiu (x := (gt x0 k9)) (hm.rdS0 r34) (hm.rdS0 r39) (hm.rdS0 r44)) (s_0.2 _ (Qak (show k9 < x0.length from by omega)))) (fun z45 => ?_)
  refine Qwc ?_
  rintro ⟨v46, v47, v48⟩ rfl
  refine fm 0 ?_
  rintro A49 c50 rfl m51
  refine fm 1 ?_
  rintro A53 c54 rfl m55
  refine fm 2 ?_
  rintro A57 c58 rfl m59
  refine wv (vix 5 k9 Qcx Qcs) ?_
  refine Qme (E := Qaq) (e := 102) (u := .agg #[iV ((Qhm (gt x0 k9)).Segment), iV ((Qhm (gt x0 k9)).Base), .slice A49 ((Qhm (gt x0 k9)).Ids).length c50, .slice A53 ((Qhm (gt x0 k9)).Tenants).length c54, .slice A57 ((Qhm (gt x0 k9)).Rows).length c58]) (k := k9) (p := p7) (n := x0.length) (xs := d10) (eis := [iS Qa 3 A49 c50 ((Qhm (gt x0 k9)).Ids), iS Qa 3 A53 c54 ((Qhm (gt x0 k9)).Tenants), iS Qa 3 A57 c58 ((Qhm (gt x0 k9)).Rows)]) (js := []) (yv := (Qhm (gt x0 k9))) (pk [3, 0, 1, 2]) (fun _ _ hs => (Qmt (x := (Qhm (gt x0 k9))) hs)) rfl Qcs rfl (by omega) rfl rfl (Qk rfl) ?_
  refine Qac (Qam (Qd (Qy (wm ?_))))
  refine wv (Qal k9 1 (by omega)) ?_
  refine wa (Qac ?_)
  exact Qan (k9 + 1, (d10.set k9 (Qhm (gt x0 k9))), ()) sl3 idM ⟨(by omega), nx hF12 (rfl), trivial⟩ rl
 refine Qm rfl g15 ?_
 refine Qay (Qu (Qu ?_))
 have hE62 := Qbh hl14 hF12
 refine Qaz (Qd (sr (wm (wa (nt' (Qj ?_))))))
 have he63 := (show Qkt x0 = d10 from Qar hE62 (rfl))
 refine Qcu rfl (Qdl rfl) (fun W hm => ⟨.slice (sA p7) x0.length x0.length, ?_, ?_⟩)
 ·first | rw [he63] | rfl
 rw [he63]; exact hm

def Qca (x0 : Qo) : Qo :=
 (⟨(Qfx x0.Store), x0.Cursor, (Qbx x0.Order), (Qiy x0.Active), (Qka x0.Done), (Qkt x0.Ledger), x0.Steps⟩ : Qo)
theorem Qtr : Cb Tryz.prog 11 := ⟨f11, _, func11, rfl, by decide⟩
theorem Quv (w : World) (z0 : List Value) (x0 : Qo) (r_0 : Qpd.rd w w.heap.size z0 x0) (s_0 : Qen 68719476736 x0) :
  Calls Tryz.prog 11 #[.agg z0.toArray] w (rO w Qcb (Qca x0)) := by
 obtain ⟨v1, v3, v5, v7, v9, rfl, r2, r4, r6, r8, r10⟩ := Qabs r_0
 obtain ⟨m11, A12, c13, rfl, q14, r15⟩ := Qi r2
 obtain ⟨m16, A17, c18, rfl, q19, r20⟩ := Qi r4
 obtain ⟨m21, A22, c23, rfl, q24, r25⟩ := Qi r6
 obtain ⟨m26, A27, c28, rfl, q29, r30⟩ := Qi r8
 obtain ⟨m31, A32, c33, rfl, q34, r35⟩ := Qi r10
 have l36 : x0.Store.Segments.length ≤ 68719476736 := s_0.1.1
 have l37 := s_0.2.1
 have l38 := s_0.2.2.1.1
 have l39 := s_0.2.2.2.1.1
 have l40 := s_0.2.2.2.2.1
 refine ce1 (L := [(0, .agg #[.slice A12 x0.Store.Segments.length c13, iV x0.Store.Now, iV x0.Cursor, .slice A17 x0.Order.length c18, .slice A22 x0.Active.length c23, .slice A27 x0.Done.length c28, .slice A32 x0.Ledger.length c33, iV x0.Steps])]) (N := 31) func11 ?_
 refine sr ?_
 refine Qbn rfl (Qk rfl) (by decide) (fun p41 => ?_)
 refine Qbm Qbd rfl (Qk rfl) (by decide) (fun p42 => ?_)
 refine nt' (sr ?_)
 refine Qbm Qbd rfl (Qk rfl) (by decide) (fun p43 => ?_)
 refine nt' (sr ?_)
 refine wv (vf Qib rfl type24) ?_
 refine wv (fun W hm => Qad (cs := [.slice A12 x0.Store.Segments.length c13, iV x0.Store.Now]) underlying24 type24 rfl rfl (hm.boxPart (n := 2) rfl rfl)) ?_
 refine wcs Qdm (Qfx x0.Store) (Qr cb63 rfl) (fun W hm => Qayh W _ x0.Store (Qaje (x := x0.Store) (hm.rdS0 r15)) s_0.1) (fun z44 => ?_)
 refine Qjt ?_
 rintro v45 rfl
 refine fm 0 ?_
 rintro A46 c47 rfl m48
 refine wv (vf Qz rfl Qbt) ?_
 let K1 : List Value := [.slice none 0 0, iV 0, iV 0, .slice none 0 0, .slice none 0 0, .slice none 0 0, .slice none 0 0, iV 0]
 let K2 : List Value := [.slice A12 x0.Store.Segments.length c13, iV x0.Store.Now, iV x0.Cursor, .slice A17 x0.Order.length c18, .slice A22 x0.Active.length c23, .slice A27 x0.Done.length c28, .slice A32 x0.Ledger.length c33, iV x0.Steps]
 let I4 : It := iS (tSl Qaf 163) 100 A46 c47 ((Qfx x0.Store).Segments)
 let J8 : List It := [I4, Qh p42 39 K1, Qh p41 30 K2]
 refine sb 0 [.slice A46 ((Qfx x0.Store).Segments).length c47, iV ((Qfx x0.Store).Now), iV 0, .slice none 0 0, .slice none 0 0, .slice none 0 0, .slice none 0 0, iV 0] J8 (pk [1, 0, 2, 3]) Qbt ?_
 refine nt' (sr ?_)
 refine wv (vf Qib rfl Qf) ?_
 refine wv (vl 3 2 Qs) ?_
 refine wv (vf Qz rfl Qf) ?_
 refine sb 2 [.slice A46 ((Qfx x0.Store).Segments).length c47, iV ((Qfx x0.Store).Now), iV x0.Cursor, .slice none 0 0, .slice none 0 0, .slice none 0 0, .slice none 0 0, iV 0] J8 idM Qf ?_
 refine nt' (sr ?_)
 refine wv (vf Qib rfl Qao) ?_
 refine wv (vl 3 3 Qq) ?_
 refine wcl (tSl Qa 3) (Qbx x0.Order) (Qr Qni rfl) (fun W hm => Qny W _ x0.Order (hm.rdS0 r20) s_0.2.1) (fun z50 => ?_)
 refine fm 0 ?_
 rintro A51 c52 rfl m53
 refine wv (vf Qz rfl Qao) ?_
 let J9 : List It := iS Qa 3 A51 c52 (Qbx x0.Order) :: J8
 refine sb 3 [.slice A46 ((Qfx x0.Store).Segments).length c47, iV ((Qfx x0.Store).Now), iV x0.Cursor, .slice A51 (Qbx x0.Order).length c52, .slice none 0 0, .slice none 0 0, .slice none 0 0, iV 0] J9 (pk [1, 0, 2, 3, 4]) Qao ?_
 refine nt' (sr ?_)
 refine wv (vf Qib rfl type26) ?_
 refine wv (vl 4 4 Qpk) ?_
 refine wcl (tSl Qah 61) (Qiy x0.Active) (Qr cb65 rfl) (fun W hm => Qaxp W _ x0.Active (hm.rdS0 r25) s_0.2.2.1) (fun z55 => ?_)
 refine fm 0 ?_
 rintro A56 c57 rfl m58
 refine wv (vf Qz rfl Qcw) ?_
 let I5 : It := iS Qah 61 A56 c57 (Qiy x0.Active)
 refine sb 4 [.slice A46 ((Qfx x0.Store).Segments).length c47, iV ((Qfx x0.Store).Now), iV x0.Cursor, .slice A51 (Qbx x0.Order).length c52, .slice A56 (Qiy x0.Active).length c57, .slice none 0 0, .slice none 0 0, iV 0] (I5 :: J9) (pk [1, 0, 2, 3, 4, 5]) Qcw ?_
 refine nt' (sr ?_)
 refine wv (vf Qib rfl type27) ?_
 refine wv (vl 5 5 Qpl) ?_
 refine wcl (tSl Qas 80) (Qka x0.Done) (Qr cb66 rfl) (fun W hm => Qayb W _ x0.Done (hm.rdS0 r30) s_0.2.2.2.1) (fun z60 => ?_)
 refine fm 0 ?_
 rintro A61 c62 rfl m63
 refine wv (vf Qz rfl Qek) ?_
 let I6 : It := iS Qas 80 A61 c62 (Qka x0.Done)
 refine sb 5 [.slice A46 ((Qfx x0.Store).Segments).length c47, iV ((Qfx x0.Store).Now), iV x0.Cursor, .slice A51 (Qbx x0.Order).length c52, .slice A56 (Qiy x0.Active).length c57, .slice A61 (Qka x0.Done).length c62, .slice none 0 0, iV 0] (I6 :: I5 :: J9) (pk [1, 0, 2, 3, 4, 5, 6]) Qek ?_
 refine nt' (sr ?_)
 refine wv (vf Qib rfl type28) ?_
 refine wv (vl 6 6 Qpm) ?_
 refine wcl (tSl Qaq 102) (Qkt x0.Ledger) (Qr cb67 rfl) (fun W hm => Qaxt W _ x0.Ledger (hm.rdS0 r35) s_0.2.2.2.2) (fun z65 => ?_)
 refine fm 0 ?_
 rintro A66 c67 rfl m68
 refine wv (vf Qz rfl Qfg) ?_
 let I7 : It := iS Qaq 102 A66 c67 (Qkt x0.Ledger)
 refine sb 6 [.slice A46 ((Qfx x0.Store).Segments).length c47, iV ((Qfx x0.Store).Now), iV x0.Cursor, .slice A51 (Qbx x0.Order).length c52, .slice A56 (Qiy x0.Active).length c57, .slice A61 (Qka x0.Done).length c62, .slice A66 (Qkt x0.Ledger).length c67, iV 0] (I7 :: I6 :: I5 :: J9) (pk [1, 0, 2, 3, 4, 5, 6, 7]) Qfg ?_
 refine nt' (sr ?_)
 refine wv (vf Qib rfl Qf) ?_
 refine wv (vl 7 7 Qs) ?_
 refine wv (vf Qz rfl Qf) ?_
 let K3 : List Value := [.slice A46 ((Qfx x0.Store).Segments).length c47, iV ((Qfx x0.Store).Now), iV x0.Cursor, .slice A51 (Qbx x0.Order).length c52, .slice A56 (Qiy x0.Active).length c57, .slice A61 (Qka x0.Done).length c62, .slice A66 (Qkt x0.Ledger).length c67, iV x0.Steps]
 refine sb 7 K3 (I7 :: I6 :: I5 :: J9) idM Qf ?_
 refine nt' (sr ?_)
 refine wv (fun W hm => Qad (cs := K3) Qz Qbd rfl rfl (hm.boxCells (n := 0) rfl)) ?_
 refine sb 0 K3 [Qh p43 39 K3, I7, I6, I5, iS Qa 3 A51 c52 (Qbx x0.Order), I4, Qh p41 30 K2] (pk [6, 0, 1, 2, 3, 4, 5, 7]) Qbd ?_
 refine nt' (Qj ?_)
 have he70 := (show Qca x0 = (⟨(Qfx x0.Store), x0.Cursor, (Qbx x0.Order), (Qiy x0.Active), (Qka x0.Done), (Qkt x0.Ledger), x0.Steps⟩ : Qo) from rfl)
 refine Qcu rfl (Qdp (n := 0) rfl rfl Qz Qbd rfl) (fun W hm => ⟨K3, ?_, ?_⟩)
 ·first | rw [he70] | rfl
 rw [he70]; exact Mem.join (is := [I4, iS Qa 3 A51 c52 (Qbx x0.Order), I5, I6, I7]) (js := []) (fun _ _ hs => Qfk (x := (⟨(Qfx x0.Store), x0.Cursor, (Qbx x0.Order), (Qiy x0.Active), (Qka x0.Done), (Qkt x0.Ledger), x0.Steps⟩ : Qo)) hs) (hm.pick [6, 5, 4, 3, 2] (by decide))

def Qjm (x0 : Int) (x1 : (List Int)) (x2 : Int) (x3 : Int) : Qt :=
 (⟨x0, x1, x2, x3⟩ : Qt)
theorem Qapd : Cb Tryz.prog 210 := ⟨f210, _, func210, rfl, by decide⟩
theorem Qbcf (w : World) (x0 : Int) (z1 : Value) (x1 : (List Int)) (x2 : Int) (x3 : Int) (r_1 : rdS Qa w w.heap.size z1 x1) (s_1 : x1.length ≤ 68719476736) :
  Calls Tryz.prog 210 #[iV x0, z1, iV x2, iV x3] w (rO w Qaf (Qjm x0 x1 x2 x3)) := by
 obtain ⟨m1, A2, c3, rfl, q4, r5⟩ := Qi r_1
 have l6 : x1.length ≤ 68719476736 := s_1
 refine ce4 (L := [(0, iV x0), (1, .slice A2 x1.length c3), (2, iV x2), (3, iV x3)]) (N := 16) func210 ?_
 refine sr ?_
 refine Qbm Qbo rfl (Qk rfl) (by decide) (fun p7 => ?_)
 refine nt' (sr (wm ?_))
 refine Qcf (E := Qa) Qq Qf (Qk rfl) (by decide) (fun p8 => ?_)
 refine wm ?_
 refine apR Qa Qa 3 (.slice (sA p8) 0 0) [] x1 [Qh p7 163 [iV 0, .slice none 0 0, iV 0, iV 0]] idM (fun W hm => Qdi Qcv (hm.rdS0 r5)) Qq Qf (show (0 + x1.length) * 8 ≤ 140737488355328 from by omega) (fun v10 => ?_)
 refine fm 0 ?_
 rintro A11 c12 rfl m13
 refine wm (wm ?_)
 let K1 : List Value := [iV x0, .slice A11 x1.length c12, iV x2, iV x3]
 refine wv (fun W hm => Qef (cs := K1) rfl (by kernel_rfl)) ?_
 refine sb 0 K1 [iS Qa 3 A11 c12 x1] (pk [1, 0]) Qbo ?_
 refine nt' (Qj ?_)
 have he15 := (show Qjm x0 x1 x2 x3 = (⟨x0, x1, x2, x3⟩ : Qt) from rfl)
 refine Qcu rfl (Qdp (n := 0) rfl rfl Qbp Qbo rfl) (fun W hm => ⟨K1, ?_, ?_⟩)
 ·first | rw [he15] | rfl
 rw [he15]; exact Mem.join (is := [iS Qa 3 A11 c12 x1]) (js := []) (fun _ _ hs => Qlh (x := (⟨x0, x1, x2, x3⟩ : Qt)) hs) (hm.pick [1] (by decide))

def Qabk (x0 : (List Qt)) (k9 : Nat) (d10 : (List Qt)) : (List Qt) ⊕ ((List Qt)) :=
 Sum.inr (d10 ++ [(Qjm ((gt x0 k9).Id) ((gt x0 k9).Values) ((gt x0 k9).Born) ((gt x0 k9).Died))])
def Qvw (x0 : (List Qt)) : (List Qt) :=
 Sum.elim id (fun (s : (List Qt)) => s) (rng (R := (List Qt)) (fun k (s : (List Qt)) => Qabk x0 k s) (x0.length - 0) 0 [])
theorem Qaoq : Cb Tryz.prog 187 := ⟨f187, _, func187, rfl, by decide⟩
theorem Qbcg (w : World) (z0 : Value) (x0 : (List Qt)) (r_0 : rdS Qaf w w.heap.size z0 x0) (s_0 : (x0.length ≤ 68719476736 ∧ ∀ y ∈ x0, Qhu 68719476736 y)) :
  Calls Tryz.prog 187 #[z0] w (rL w (tSl Qaf 163) (Qvw x0)) := by
 obtain ⟨m1, A2, c3, rfl, q4, r5⟩ := Qi r_0
 have l6 : x0.length ≤ 68719476736 := s_0.1
 refine ce1 (L := [(0, .slice A2 x0.length c3)]) (N := 37) func187 ?_
 refine sr (wa (nt' (sr ?_)))
 refine Qcf (E := Qaf) Qbv Qbo (Qk rfl) (by decide) (fun p7 => ?_)
 refine wa (nt' (Qe (sr (wa (nt' (Qx ?_))))))
 refine Qbg (S := (List Qt)) (R := Option Addr × Nat) (fun k (s : (List Qt)) => Qabk x0 k s) x0.length 0 [] ((sA p7), 0) (fun s => [(0, .slice A2 x0.length c3), (3, .slice s.2.2.1 s.2.1.length s.2.2.2), (4, nI s.1)]) (fun s => [iS Qaf 163 s.2.2.1 s.2.2.2 s.2.1]) (fun s => s.2.1.length ≤ 0 + s.1) sl3 (Nat.le_refl _) ?_
 rintro ⟨k9, d10, ⟨A11, c12⟩⟩ H15 _ _ e e'
 dsimp only at H15 ⊢
 subst e e'
 obtain ⟨hk13, hF14, hi16⟩ := H15
 refine Qe (sr (wm (wm ?_)))
 refine wv (Qag Qbv) ?_
 refine wv Qai ?_
 refine nt' ?_
 rcases dcl k9 x0.length with ⟨hl17, g18⟩ | ⟨hl17, g18⟩
 ·
  refine Ql rfl g18 ?_
  refine Qp (Qd (Qe (Qx ?_)))
  refine rb 25 (s := []) (pk []) ?_
  refine qt 25 0 1 rfl vmv ?_
  refine qt 25 1 3 rfl vmv ?_
  refine qt 25 2 7 rfl vmv ?_
  obtain ⟨a19, rfl, hb20, he21⟩ := q4 (by omega)
  refine qt 25 3 15 rfl (vix 4 k9 Qbv Qbo) ?_
  refine qt 25 4 31 rfl (vf Qbp rfl Qf) ?_
  obtain ⟨_, e25, hc22⟩ := he21 k9 _ (Qbs (show k9 < x0.length from by omega))
  obtain ⟨v23, rfl, r24⟩ := Qgd e25
  have l26 : ((gt x0 k9).Values).length ≤ 68719476736 := (s_0.2 _ (Qak (show k9 < x0.length from by omega)))
  obtain ⟨m27, A28, c29, rfl, q30, r31⟩ := Qi r24
  refine qt 25 5 63 rfl (fun W hm => Qaw Qs rfl rfl ((hm.cell0 (show ((a19.add (k9 * 4)).add 0).block < w.heap.size from by rw [Qae, Qae]; exact hb20.1)).trans (hc22 0 _ rfl))) ?_
  refine qt 25 6 127 rfl vmv ?_
  refine qt 25 7 255 rfl vmv ?_
  refine qt 25 8 511 rfl (vix 4 k9 Qbv Qbo) ?_
  refine qt 25 9 1023 rfl (vf Qbp rfl Qao) ?_
  refine qt 25 10 2047 rfl (fun W hm => Qaw Qq rfl rfl ((hm.cell0 (show ((a19.add (k9 * 4)).add 1).block < w.heap.size from by rw [Qae, Qae]; exact hb20.1)).trans (hc22 1 _ rfl))) ?_
  refine qt 25 11 4095 rfl vmv ?_
  refine qt 25 12 8191 rfl vmv ?_
  refine qt 25 13 16383 rfl (vix 4 k9 Qbv Qbo) ?_
  refine qt 25 14 32767 rfl (vf Qbp rfl Qf) ?_
  refine qt 25 15 65535 rfl (fun W hm => Qaw Qs rfl rfl ((hm.cell0 (show ((a19.add (k9 * 4)).add 2).block < w.heap.size from by rw [Qae, Qae]; exact hb20.1)).trans (hc22 2 _ rfl))) ?_
  refine qt 25 16 131071 rfl vmv ?_
  refine qt 25 17 262143 rfl vmv ?_
  refine qt 25 18 524287 rfl (vix 4 k9 Qbv Qbo) ?_
  refine qt 25 19 1048575 rfl (vf Qbp rfl Qf) ?_
  refine qt 25 20 2097151 rfl (fun W hm => Qaw Qs rfl rfl ((hm.cell0 (show ((a19.add (k9 * 4)).add 3).block < w.heap.size from by rw [Qae, Qae]; exact hb20.1)).trans (hc22 3 _ rfl))) ?_
  refine qo 25 21 4194303 rfl ?_
  refine wcs Qaf (Qjm ((gt x0 k9).Id) ((gt x0 k9).Values) ((gt x0 k9).Born) ((gt x0 k9).Died)) (Qr Qapd rfl) (fun W hm => Qbcf W ((gt x0 k9).Id) _ ((gt x0 k9).Values) ((gt x0 k9).Born) ((gt x0 k9).Died) (hm.rdS0 r31) (s_0.2 _ (Qak (show k9 < x0.length from by omega)))) (fun z32 => ?_)
  refine Qte ?_
  rintro v33 rfl
  refine fm 0 ?_
  rintro A34 c35 rfl m36
  refine qn (pk []) ?_
  refine qo 25 22 8388607 rfl ?_
  let K1 : List Value := [iV ((Qjm ((gt x0 k9).Id) ((gt x0 k9).Values) ((gt x0 k9).Born) ((gt x0 k9).Died)).Id), .slice A34 ((Qjm ((gt x0 k9).Id) ((gt x0 k9).Values) ((gt x0 k9).Born) ((gt x0 k9).Died)).Values).length c35, iV ((Qjm ((gt x0 k9).Id) ((gt x0 k9).Values) ((gt x0 k9).Born) ((gt x0 k9).Died)).Born), iV ((Qjm ((gt x0 k9).Id) ((gt x0 k9).Values) ((gt x0 k9).Born) ((gt x0 k9).Died)).Died)]
  refine Qde (cs := K1) Qbv Qbo rfl (by decide) (by decide) rfl (by kernel_rfl) (Qk rfl) (by decide) (fun p38 => ?_)
  refine qn (pk []) ?_
  refine qo 25 23 16777215 rfl ?_
  refine ap1 Qaf 163 (.slice A11 d10.length c12) d10 (Qjm ((gt x0 k9).Id) ((gt x0 k9).Values) ((gt x0 k9).Born) ((gt x0 k9).Died)) [iS Qa 3 A34 c35 ((Qjm ((gt x0 k9).Id) ((gt x0 k9).Values) ((gt x0 k9).Born) ((gt x0 k9).Died)).Values)] [] K1 (pk [0, 2, 1]) (fun _ _ hs => Els.single (Qlh (x := (Qjm ((gt x0 k9).Id) ((gt x0 k9).Values) ((gt x0 k9).Born) ((gt x0 k9).Died))) hs)) Qbv Qbo (show (d10.length + 1) * 48 ≤ 140737488355328 from by omega) (fun v39 => ?_)
  refine fm 0 ?_
  rintro A40 c41 rfl m42
  refine qn (pk []) ?_
  refine qt 25 24 33554431 rfl (fun W hm => Qjd rfl) ?_
  refine Qed (by kernel_rfl) ?_
  refine Qam (Qd (Qy (wm ?_)))
  refine wv (Qal k9 1 (by omega)) ?_
  refine wa (Qac ?_)
  exact Qan (k9 + 1, (d10 ++ [(Qjm ((gt x0 k9).Id) ((gt x0 k9).Values) ((gt x0 k9).Born) ((gt x0 k9).Died))]), (A40, c41)) sl3 idM ⟨(by omega), nx hF14 (rfl), (show (d10 ++ [(Qjm ((gt x0 k9).Id) ((gt x0 k9).Values) ((gt x0 k9).Born) ((gt x0 k9).Died))]).length ≤ 0 + (k9 + 1) from by first | omega | (simp only [List.length_append, List.length_cons, List.length_nil] at *; omega))⟩ rl
 refine Qm rfl g18 ?_
 refine Qay (Qu (Qu ?_))
 have hE45 := Qbh hl17 hF14
 refine Qaz (Qd (sr (wm (wa (nt' (Qj ?_))))))
 have he46 := (show Qvw x0 = d10 from Qar hE45 (rfl))
 refine Qcu rfl (Qdl rfl) (fun W hm => ⟨.slice A11 d10.length c12, ?_, ?_⟩)
 ·first | rw [he46] | rfl
 rw [he46]; exact hm
theorem Qbci (x0 : (List Qt)) : Qvw x0 = x0 := by
 unfold Qvw; rw [Qjc (xs := x0) (b := fun k s => Qabk x0 k s) (fun _ _ => rfl)]; rfl
theorem Qbch (w : World) (z0 : Value) (x0 : (List Qt)) (r_0 : rdS Qaf w w.heap.size z0 x0) (s_0 : (x0.length ≤ 68719476736 ∧ ∀ y ∈ x0, Qhu 68719476736 y)) :
  Calls Tryz.prog 187 #[z0] w (rL w (tSl Qaf 163) x0) := by
 have h := Qbcg w z0 x0 r_0 s_0
 rw [Qbci] at h
 exact h

def Qabj (x0 : Qau) (k12 : Nat) (d15 : (List (List Qt))) : Qau ⊕ ((List (List Qt))) :=
 Sum.inr (d15 ++ [(gt x0.Segments k12)])
def Qvv (x0 : Qau) : Qau :=
 Sum.elim id (fun (s : (List (List Qt))) => (⟨s, x0.Now⟩ : Qau)) (rng (R := Qau) (fun k (s : (List (List Qt))) => Qabj x0 k s) (x0.Segments.length - 0) 0 [])
theorem Qpx : Cb Tryz.prog 130 := ⟨f130, _, func130, rfl, by decide⟩
theorem Qbcd (w : World) (z0 : List Value) (x0 : Qau) (r_0 : Qdm.rd w w.heap.size z0 x0) (s_0 : Qgh 68719476736 x0) :
  Calls Tryz.prog 130 #[.agg z0.toArray] w (rO w Qdm (Qvv x0)) := by
 obtain ⟨v1, rfl, r2⟩ := Qjs r_0
 obtain ⟨m3, A4, c5, rfl, q6, r7⟩ := Qi r2
 have l8 : x0.Segments.length ≤ 68719476736 := s_0.1
 refine ce1 (L := [(0, .agg #[.slice A4 x0.Segments.length c5, iV x0.Now])]) (N := 27) func130 ?_
 refine sr ?_
 refine Qbn rfl (Qk rfl) (by decide) (fun p9 => ?_)
 refine Qbm Qbt rfl (Qk rfl) (by decide) (fun p10 => ?_)
 refine nt' (sr ?_)
 refine wv (vf Qbw rfl Qf) ?_
 refine wv (vl 1 1 Qs) ?_
 refine wv (fun W hm => Qef (cs := [.slice none 0 0, iV x0.Now]) rfl (by kernel_rfl)) ?_
 refine Qbm Qbt rfl (Qk rfl) (by decide) (fun p11 => ?_)
 let I1 : It := Qh p9 34 [.slice A4 x0.Segments.length c5, iV x0.Now]
 refine sb 0 [.slice none 0 0, iV x0.Now] [Qh p10 34 [.slice none 0 0, iV 0], I1] idM Qbt ?_
 refine nt' (Qe (sr (wa (nt' (Qx ?_)))))
 refine Qdw (fun W hm => (hm.addNil (E := (tSl Qaf 163)) (e := 100)).last) ?_
 refine Qbg (S := (List (List Qt))) (R := Option Addr × Nat) (fun k (s : (List (List Qt))) => Qabj x0 k s) x0.Segments.length 0 [] (none, 0) (fun s => [(1, bp p9), (2, bp p10), (3, bp p11), (4, nI s.1)]) (fun s => [Qh p11 34 [.slice s.2.2.1 s.2.1.length s.2.2.2, iV x0.Now], Qh p10 34 [.slice none 0 0, iV 0], I1, iS (tSl Qaf 163) 100 s.2.2.1 s.2.2.2 s.2.1]) (fun s => s.2.1.length ≤ 0 + s.1) sl4 (Nat.le_refl _) ?_
 rintro ⟨k12, d15, ⟨A16, c17⟩⟩ H20 _ _ e e'
 dsimp only at H20 ⊢
 subst e e'
 obtain ⟨hk18, hF19, hi21⟩ := H20
 refine Qe (sr (wm ?_))
 refine wv (vf Qbw rfl Qea) ?_
 refine wv (vl 2 0 Qbz) ?_
 refine wv (Qag Qbz) ?_
 refine wv Qai ?_
 refine nt' ?_
 rcases dcl k12 x0.Segments.length with ⟨hl22, g23⟩ | ⟨hl22, g23⟩
 ·
  refine Ql rfl g23 ?_
  refine Qp (Qd (Qe (Qx ?_)))
  let I2 : It := Qh p11 34 [.slice A16 d15.length c17, iV x0.Now]
  refine rd2 12 [11] (s := [Qh p10 34 [.slice none 0 0, iV 0]]) (s2 := [I2, Qh p10 34 [.slice none 0 0, iV 0], I1]) (pk [1]) (pk [0, 1, 2]) ?_
  refine qtD 12 0 1 rfl (vf Qbw rfl Qea) ?_
  refine qtD 12 1 3 rfl (vl 0 0 Qbz) ?_
  refine qtD 12 2 7 rfl (vf Qbw rfl Qea) ?_
  refine qtD 12 3 15 rfl (vl 2 0 Qbz) ?_
  refine qtD 12 4 31 rfl vmv ?_
  obtain ⟨a24, rfl, hb25, he26⟩ := q6 (by omega)
  refine qtD 12 5 63 rfl (vix 1 k12 Qbz Qfl) ?_
  obtain ⟨_, e28, hc27⟩ := he26 k12 _ (Qbs (show k12 < x0.Segments.length from by omega))
  have l29 : (gt x0.Segments k12).length ≤ 68719476736 := (s_0.2 _ (Qak (show k12 < x0.Segments.length from by omega))).1
  obtain ⟨v30, rfl, r31⟩ := e28
  obtain ⟨m32, A33, c34, rfl, q35, r36⟩ := Qi r31
  refine qtD 12 6 127 rfl (fun W hm => Qaw Qbv rfl rfl ((hm.cell0 (show (a24.add (k12 * 1)).block < w.heap.size from by rw [Qae]; exact hb25.1)).trans (hc27 0 _ rfl))) ?_
  refine qoD 12 7 255 rfl ?_
  refine wcl (tSl Qaf 163) (gt x0.Segments k12) (Qr Qaoq rfl) (fun W hm => Qbch W _ (gt x0.Segments k12) (hm.rdS0 r36) (s_0.2 _ (Qak (show k12 < x0.Segments.length from by omega)))) (fun z37 => ?_)
  refine fm 0 ?_
  rintro A38 c39 rfl m40
  refine qnD (pk [2]) (pk [1, 2, 3]) ?_
  refine qoD 12 8 511 rfl ?_
  refine Qde (cs := [.slice A38 (gt x0.Segments k12).length c39]) Qbz Qfl rfl (by decide) (by decide) rfl (by kernel_rfl) (Qk rfl) (by decide) (fun p42 => ?_)
  refine qnD (pk [3]) (pk [2, 3, 4]) ?_
  refine qoD 12 9 1023 rfl ?_
  let I3 : It := Qh p9 34 [.slice (some a24) x0.Segments.length c5, iV x0.Now]
  refine ap1 (tSl Qaf 163) 100 (.slice A16 d15.length c17) d15 (gt x0.Segments k12) [iS Qaf 163 A38 c39 (gt x0.Segments k12)] [I2, Qh p10 34 [.slice none 0 0, iV 0], I3] [.slice A38 (gt x0.Segments k12).length c39] (pk [0, 5, 1, 2, 3, 4]) (fun _ _ hs => Els.single (Sep.one hs)) Qbz Qfl (show (d15.length + 1) * 24 ≤ 140737488355328 from by omega) (fun v43 => ?_)
  refine fm 0 ?_
  rintro A44 c45 rfl m46
  refine qnD (pk [2]) (pk [1, 2, 3]) ?_
  refine qtD 12 10 2047 rfl (vf Qbw rfl Qea) ?_
  refine qoD 12 11 4095 rfl ?_
  refine sb 0 [.slice A44 (d15 ++ [(gt x0.Segments k12)]).length c45, iV x0.Now] [iS (tSl Qaf 163) 100 A44 c45 (d15 ++ [(gt x0.Segments k12)]), Qh p10 34 [.slice none 0 0, iV 0], I3] (pk [1, 0, 2, 3]) Qea ?_
  refine qxD (pk [2]) ?_
  refine Qed (by kernel_rfl) ?_
  refine Qam (Qd (Qy (wm ?_)))
  refine wv (Qal k12 1 (by omega)) ?_
  refine wa (Qac ?_)
  exact Qan (k12 + 1, (d15 ++ [(gt x0.Segments k12)]), (A44, c45)) sl4 (pk [0, 2, 3, 1]) ⟨(by omega), nx hF19 (rfl), (show (d15 ++ [(gt x0.Segments k12)]).length ≤ 0 + (k12 + 1) from by first | omega | (simp only [List.length_append, List.length_cons, List.length_nil] at *; omega))⟩ rl
 refine Qm rfl g23 ?_
 refine Qay (Qu (Qu ?_))
 have hE49 := Qbh hl22 hF19
 refine Qaz (Qd (sr ?_))
 refine wv (fun W hm => Qad (cs := [.slice A16 d15.length c17, iV x0.Now]) Qbw Qbt rfl rfl (hm.boxCells (n := 0) rfl)) ?_
 refine sb 0 [.slice A16 d15.length c17, iV x0.Now] [Qh p11 34 [.slice A16 d15.length c17, iV x0.Now], I1, iS (tSl Qaf 163) 100 A16 c17 d15] (pk [1, 0, 2, 3]) Qbt ?_
 refine nt' (Qj ?_)
 have he50 := (show Qvv x0 = (⟨d15, x0.Now⟩ : Qau) from Qar hE49 (rfl))
 refine Qcu rfl (Qdp (n := 0) rfl rfl Qbw Qbt rfl) (fun W hm => ⟨[.slice A16 d15.length c17, iV x0.Now], ?_, ?_⟩)
 ·first | rw [he50] | rfl
 rw [he50]; exact Mem.join (is := [iS (tSl Qaf 163) 100 A16 c17 d15]) (js := []) (fun _ _ hs => Qmw (x := (⟨d15, x0.Now⟩ : Qau)) hs) (hm.pick [3] (by decide))
theorem Qbce (x0 : Qau) : Qvv x0 = x0 := by
 unfold Qvv; rw [Qjc (xs := x0.Segments) (b := fun k s => Qabj x0 k s) (fun _ _ => rfl)]; rfl
theorem Qqx (w : World) (z0 : List Value) (x0 : Qau) (r_0 : Qdm.rd w w.heap.size z0 x0) (s_0 : Qgh 68719476736 x0) :
  Calls Tryz.prog 130 #[.agg z0.toArray] w (rO w Qdm x0) := by
 have h := Qbcd w z0 x0 r_0 s_0
 rw [Qbce] at h
 exact h

def Qabh (x0 : Qat) : Qat :=
 x0
theorem Qxl : Cb Tryz.prog 112 := ⟨f112, _, func112, rfl, by decide⟩
theorem Qbbz (w : World) (z0 : List Value) (x0 : Qat) (r_0 : Qcm.rd w w.heap.size z0 x0) (s_0 : Qfy 68719476736 x0) :
  Calls Tryz.prog 112 #[.agg z0.toArray] w (rO w Qcm (Qabh x0)) := by
 obtain ⟨v1, v3, rfl, r2, r4⟩ := Qiv r_0
 obtain ⟨m5, A6, c7, rfl, q8, r9⟩ := Qi r2
 obtain ⟨m10, A11, c12, rfl, q13, r14⟩ := Qi r4
 have l15 := s_0.1
 have l16 := s_0.2
 refine ce1 (L := [(0, .agg #[iV x0.Id, iV x0.Tenant, .slice A6 x0.Conds.length c7, .slice A11 x0.Out.length c12])]) (N := 16) func112 ?_
 refine sr ?_
 refine Qbn rfl (Qk rfl) (by decide) (fun p17 => ?_)
 refine Qbm Qbj rfl (Qk rfl) (by decide) (fun p18 => ?_)
 refine nt' (Qe ?_)
 let K1 : List Value := [iV x0.Id, iV x0.Tenant, .slice A6 x0.Conds.length c7, .slice A11 x0.Out.length c12]
 let K2 : List Value := [iV 0, iV 0, .slice none 0 0, .slice none 0 0]
 let J4 : List It := [Qh p18 58 K2, Qh p17 58 K1]
 refine rd2 14 [13] (s := [Qh p17 58 K1]) (s2 := J4) (pk [1]) idM ?_
 refine Qrj (σ := Option Addr × Nat × Nat) (fun s => J4) 14 2047 3 (fun s => [(2, bp p18), (4, iV x0.Id), (6, iV x0.Tenant), (13, .slice A11 x0.Out.length c12), (10, .slice s.1 x0.Conds.length s.2.1), (11, .slice (some ⟨s.2.2, 0, none⟩) 0 0)]) (fun s => (Qn (tSl Qa 3) [.slice (some ⟨s.2.2, 0, none⟩) 0 0] [] :: iS Qbl 180 s.1 s.2.1 x0.Conds :: J4)) ?_ (fun H => ?_)
 ·
  rintro ⟨A22, c23, p26⟩
  show QD _ _ _ _ _ _ _ _ [(2, bp p18), (4, iV x0.Id), (6, iV x0.Tenant), (13, .slice A11 x0.Out.length c12), (10, .slice A22 x0.Conds.length c23), (11, .slice (sA p26) 0 0)] _ J4 _ (Qn (tSl Qa 3) [.slice (sA p26) 0 0] [] :: iS Qbl 180 A22 c23 x0.Conds :: J4)
  refine Qll (n := 0) rfl ?_
  intro m28 m29
  refine Qll (n := 1) rfl ?_
  intro m30 m31
  refine qoD 14 11 4095 rfl ?_
  refine apR Qa Qa 3 (.slice (sA p26) 0 0) [] x0.Out (iS Qbl 180 A22 c23 x0.Conds :: J4) idM (fun W hm => Qdi Qcv (hm.rdS0 r14)) Qq Qf (show (0 + x0.Out.length) * 8 ≤ 140737488355328 from by omega) (fun v32 => ?_)
  refine fm 0 ?_
  rintro A33 c34 rfl m35
  refine qnD (pk [3]) (pk [2, 3]) ?_
  let K3 : List Value := [iV x0.Id, iV x0.Tenant, .slice A22 x0.Conds.length c23, .slice A33 x0.Out.length c34]
  refine qtD 14 12 8191 rfl (fun W hm => Qef (cs := K3) rfl (by kernel_rfl)) ?_
  refine qoD 14 13 16383 rfl ?_
  refine sb 0 K3 [iS Qa 3 A33 c34 x0.Out, iS Qbl 180 A22 c23 x0.Conds, Qh p17 58 K1] (pk [2, 0, 1, 3]) Qbj ?_
  refine qxD (pk [3]) ?_
  refine Qed (by kernel_rfl) ?_
  refine Qd (Qj ?_)
  have he37 := (show Qabh x0 = x0 from rfl)
  refine Qcu rfl (Qdp (n := 0) rfl rfl Qbq Qbj rfl) (fun W hm => ⟨K3, ?_, ?_⟩)
  ·first | rw [he37] | rfl
  rw [he37]; exact Mem.join (is := [iS Qbl 180 A22 c23 x0.Conds, iS Qa 3 A33 c34 x0.Out]) (js := []) (fun _ _ hs => Qwk (x := x0) hs) (hm.pick [2, 1] (by decide))
 refine qtD 14 0 1 rfl (vf Qbq rfl Qf) ?_
 refine qtD 14 1 3 rfl (vl 1 0 Qs) ?_
 refine qtD 14 2 7 rfl (vf Qbq rfl Qf) ?_
 refine qtD 14 3 15 rfl (vl 1 1 Qs) ?_
 refine qtD 14 5 47 rfl (vf Qbq rfl Qfu) ?_
 refine qtD 14 6 111 rfl (vl 1 2 Qct) ?_
 refine qtD 14 9 623 rfl (vf Qbq rfl Qao) ?_
 refine qtD 14 10 1647 rfl (vl 1 3 Qq) ?_
 refine qaD [4, 8] ?_
 refine qcD 14 1663 rfl ?_ ?_
 ·
  refine Qcf (E := Qbl) Qct Qds (Qk rfl) (by decide) (fun p38 => ?_)
  refine qnD (pk [2]) (pk [1, 2]) ?_
  refine qaD [7, 8] ?_
  refine qcD 14 1791 rfl ?_ ?_
  ·
   refine apR Qbl Qbl 180 (.slice (sA p38) 0 0) [] x0.Conds J4 idM (fun W hm => Qdi (Qty (Qnl Qcv (Qnl Qcv Qcv))) (hm.rdS0 r9)) Qct Qds (show (0 + x0.Conds.length) * 24 ≤ 140737488355328 from by omega) (fun v40 => ?_)
   refine fm 0 ?_
   rintro A41 c42 rfl m43
   refine qnD (pk [2]) (pk [1, 2]) ?_
   refine qoD 14 8 2047 rfl ?_
   refine Qcf (E := Qa) Qq Qf (Qk rfl) (by decide) (fun p45 => ?_)
   refine qnD (pk [3]) (pk [2, 3]) ?_
   exact Qel sl6 idM (H (A41, c42, p45))
  refine qcD 14 1919 rfl ?_ ?_
  ·
   refine Qcf (E := Qa) Qq Qf (Qk rfl) (by decide) (fun p47 => ?_)
   refine qnD (pk [3]) (pk [2, 3]) ?_
   refine qoD 14 7 2047 rfl ?_
   refine apR Qbl Qbl 180 (.slice (sA p38) 0 0) [] x0.Conds (Qn (tSl Qa 3) [.slice (sA p47) 0 0] [] :: J4) (pk [1, 0, 2, 3]) (fun W hm => Qdi (Qty (Qnl Qcv (Qnl Qcv Qcv))) (hm.rdS0 r9)) Qct Qds (show (0 + x0.Conds.length) * 24 ≤ 140737488355328 from by omega) (fun v49 => ?_)
   refine fm 0 ?_
   rintro A50 c51 rfl m52
   refine qnD (pk [3]) (pk [2, 3]) ?_
   exact Qel sl6 (pk [1, 0, 2, 3]) (H (A50, c51, p47))
  exact Qfm
 refine qcD 14 1903 rfl ?_ ?_
 ·
  refine Qcf (E := Qa) Qq Qf (Qk rfl) (by decide) (fun p54 => ?_)
  refine qnD (pk [2]) (pk [1, 2]) ?_
  refine qoD 14 4 1919 rfl ?_
  refine Qcf (E := Qbl) Qct Qds (Qk rfl) (by decide) (fun p56 => ?_)
  refine qnD (pk [3]) (pk [2, 3]) ?_
  refine qoD 14 7 2047 rfl ?_
  refine apR Qbl Qbl 180 (.slice (sA p56) 0 0) [] x0.Conds (Qn (tSl Qa 3) [.slice (sA p54) 0 0] [] :: J4) idM (fun W hm => Qdi (Qty (Qnl Qcv (Qnl Qcv Qcv))) (hm.rdS0 r9)) Qct Qds (show (0 + x0.Conds.length) * 24 ≤ 140737488355328 from by omega) (fun v58 => ?_)
  refine fm 0 ?_
  rintro A59 c60 rfl m61
  refine qnD (pk [3]) (pk [2, 3]) ?_
  exact Qel sl6 (pk [1, 0, 2, 3]) (H (A59, c60, p54))
 exact Qfm
theorem Qbca (x0 : Qat) : Qabh x0 = x0 := by
 rfl
theorem Qabg (w : World) (z0 : List Value) (x0 : Qat) (r_0 : Qcm.rd w w.heap.size z0 x0) (s_0 : Qfy 68719476736 x0) :
  Calls Tryz.prog 112 #[.agg z0.toArray] w (rO w Qcm x0) := by
 have h := Qbbz w z0 x0 r_0 s_0
 rw [Qbca] at h
 exact h

def Qabd (x0 : Qab) : Qab :=
 x0
theorem Qxp : Cb Tryz.prog 188 := ⟨f188, _, func188, rfl, by decide⟩
theorem Qbbo (w : World) (z0 : List Value) (x0 : Qab) (r_0 : Qap.rd w w.heap.size z0 x0) (s_0 : Qgm 68719476736 x0) :
  Calls Tryz.prog 188 #[.agg z0.toArray] w (rO w Qap (Qabd x0)) := by
 obtain ⟨v1, rfl, r2⟩ := Qin r_0
 obtain ⟨m3, A4, c5, rfl, q6, r7⟩ := Qi r2
 have l8 : x0.Values.length ≤ 68719476736 := s_0
 refine ce1 (L := [(0, .agg #[iV x0.Id, .slice A4 x0.Values.length c5])]) (N := 10) func188 ?_
 refine sr ?_
 refine Qbn rfl (Qk rfl) (by decide) (fun p9 => ?_)
 refine Qbm Qcg rfl (Qk rfl) (by decide) (fun p10 => ?_)
 refine nt' (Qe ?_)
 let I1 : It := Qh p9 70 [iV x0.Id, .slice A4 x0.Values.length c5]
 refine rd2 8 [7] (s := [I1]) (s2 := [Qh p10 70 [iV 0, .slice none 0 0], I1]) (pk [1]) idM ?_
 refine qtD 8 0 1 rfl (vf Qdv rfl Qf) ?_
 refine qtD 8 1 3 rfl (vl 1 0 Qs) ?_
 refine qtD 8 3 11 rfl (vf Qdv rfl Qao) ?_
 refine qtD 8 4 27 rfl (vl 1 1 Qq) ?_
 refine qoD 8 2 31 rfl ?_
 refine Qcf (E := Qa) Qq Qf (Qk rfl) (by decide) (fun p11 => ?_)
 refine qnD (pk [2]) (pk [1, 2]) ?_
 refine qoD 8 5 63 rfl ?_
 refine apR Qa Qa 3 (.slice (sA p11) 0 0) [] x0.Values [Qh p10 70 [iV 0, .slice none 0 0], I1] idM (fun W hm => Qdi Qcv (hm.rdS0 r7)) Qq Qf (show (0 + x0.Values.length) * 8 ≤ 140737488355328 from by omega) (fun v13 => ?_)
 refine fm 0 ?_
 rintro A14 c15 rfl m16
 refine qnD (pk [2]) (pk [1, 2]) ?_
 refine qtD 8 6 127 rfl (fun W hm => Qef (cs := [iV x0.Id, .slice A14 x0.Values.length c15]) rfl (by kernel_rfl)) ?_
 refine qoD 8 7 255 rfl ?_
 refine sb 0 [iV x0.Id, .slice A14 x0.Values.length c15] [iS Qa 3 A14 c15 x0.Values, I1] (pk [1, 0, 2]) Qcg ?_
 refine qxD (pk [2]) ?_
 refine Qed (by kernel_rfl) ?_
 refine Qd (Qj ?_)
 have he18 := (show Qabd x0 = x0 from rfl)
 refine Qcu rfl (Qdp (n := 0) rfl rfl Qdv Qcg rfl) (fun W hm => ⟨[iV x0.Id, .slice A14 x0.Values.length c15], ?_, ?_⟩)
 ·first | rw [he18] | rfl
 rw [he18]; exact Mem.join (is := [iS Qa 3 A14 c15 x0.Values]) (js := []) (fun _ _ hs => Qjq (x := x0) hs) (hm.pick [1] (by decide))
theorem Qbbp (x0 : Qab) : Qabd x0 = x0 := by
 rfl
theorem Qabc (w : World) (z0 : List Value) (x0 : Qab) (r_0 : Qap.rd w w.heap.size z0 x0) (s_0 : Qgm 68719476736 x0) :
  Calls Tryz.prog 188 #[.agg z0.toArray] w (rO w Qap x0) := by
 have h := Qbbo w z0 x0 r_0 s_0
 rw [Qbbp] at h
 exact h

def Qabo (x0 : (List Qab)) (k9 : Nat) (d10 : (List Qab)) : (List Qab) ⊕ ((List Qab)) :=
 Sum.inr (d10 ++ [(gt x0 k9)])
def Qvz (x0 : (List Qab)) : (List Qab) :=
 Sum.elim id (fun (s : (List Qab)) => s) (rng (R := (List Qab)) (fun k (s : (List Qab)) => Qabo x0 k s) (x0.length - 0) 0 [])
theorem Qadk : Cb Tryz.prog 131 := ⟨f131, _, func131, rfl, by decide⟩
theorem Qbco (w : World) (z0 : Value) (x0 : (List Qab)) (r_0 : rdS Qap w w.heap.size z0 x0) (s_0 : (x0.length ≤ 68719476736 ∧ ∀ y ∈ x0, Qgm 68719476736 y)) :
  Calls Tryz.prog 131 #[z0] w (rL w (tSl Qap 70) (Qvz x0)) := by
 obtain ⟨m1, A2, c3, rfl, q4, r5⟩ := Qi r_0
 have l6 : x0.length ≤ 68719476736 := s_0.1
 refine ce1 (L := [(0, .slice A2 x0.length c3)]) (N := 21) func131 ?_
 refine sr (wa (nt' (sr ?_)))
 refine Qcf (E := Qap) Qci Qcg (Qk rfl) (by decide) (fun p7 => ?_)
 refine wa (nt' (Qe (sr (wa (nt' (Qx ?_))))))
 refine Qbg (S := (List Qab)) (R := Option Addr × Nat) (fun k (s : (List Qab)) => Qabo x0 k s) x0.length 0 [] ((sA p7), 0) (fun s => [(0, .slice A2 x0.length c3), (3, .slice s.2.2.1 s.2.1.length s.2.2.2), (4, nI s.1)]) (fun s => [iS Qap 70 s.2.2.1 s.2.2.2 s.2.1]) (fun s => s.2.1.length ≤ 0 + s.1) sl3 (Nat.le_refl _) ?_
 rintro ⟨k9, d10, ⟨A11, c12⟩⟩ H15 _ _ e e'
 dsimp only at H15 ⊢
 subst e e'
 obtain ⟨hk13, hF14, hi16⟩ := H15
 refine Qe (sr (wm (wm ?_)))
 refine wv (Qag Qci) ?_
 refine wv Qai ?_
 refine nt' ?_
 rcases dcl k9 x0.length with ⟨hl17, g18⟩ | ⟨hl17, g18⟩
 ·
  refine Ql rfl g18 ?_
  refine Qp (Qd (Qe (Qx (Qy ?_))))
  iterate 3 refine wm ?_
  obtain ⟨a19, rfl, hb20, he21⟩ := q4 (by omega)
  refine wv (vix 2 k9 Qci Qcg) ?_
  obtain ⟨_, e25, hc22⟩ := he21 k9 _ (Qbs (show k9 < x0.length from by omega))
  obtain ⟨v23, rfl, r24⟩ := Qin e25
  have l26 : ((gt x0 k9).Values).length ≤ 68719476736 := (s_0.2 _ (Qak (show k9 < x0.length from by omega)))
  obtain ⟨m27, A28, c29, rfl, q30, r31⟩ := Qi r24
  refine wv (fun W hm => Qad (cs := [iV ((gt x0 k9).Id), .slice A28 ((gt x0 k9).Values).length c29]) Qdv Qcg rfl rfl (hm.elCells (show (a19.add (k9 * 2)).block < w.heap.size from by rw [Qae]; exact hb20.1) hc22)) ?_
  refine wcs Qap (gt x0 k9) (Qr Qxp rfl) (fun W hm => Qabc W _ (gt x0 k9) (Qjr (x := (gt x0 k9)) (hm.rdS0 r31)) (s_0.2 _ (Qak (show k9 < x0.length from by omega)))) (fun z32 => ?_)
  refine Qmv ?_
  rintro v33 rfl
  refine fm 0 ?_
  rintro A34 c35 rfl m36
  let K1 : List Value := [iV ((gt x0 k9).Id), .slice A34 ((gt x0 k9).Values).length c35]
  refine Qde (cs := K1) Qci Qcg rfl (by decide) (by decide) rfl (by kernel_rfl) (Qk rfl) (by decide) (fun p38 => ?_)
  refine ap1 Qap 70 (.slice A11 d10.length c12) d10 (gt x0 k9) [iS Qa 3 A34 c35 ((gt x0 k9).Values)] [] K1 (pk [0, 2, 1]) (fun _ _ hs => Els.single (Qjq (x := (gt x0 k9)) hs)) Qci Qcg (show (d10.length + 1) * 32 ≤ 140737488355328 from by omega) (fun v39 => ?_)
  refine fm 0 ?_
  rintro A40 c41 rfl m42
  refine wa (Qac (Qam (Qd (Qy (wm ?_)))))
  refine wv (Qal k9 1 (by omega)) ?_
  refine wa (Qac ?_)
  exact Qan (k9 + 1, (d10 ++ [(gt x0 k9)]), (A40, c41)) sl3 idM ⟨(by omega), nx hF14 (rfl), (show (d10 ++ [(gt x0 k9)]).length ≤ 0 + (k9 + 1) from by first | omega | (simp only [List.length_append, List.length_cons, List.length_nil] at *; omega))⟩ rl
 refine Qm rfl g18 ?_
 refine Qay (Qu (Qu ?_))
 have hE45 := Qbh hl17 hF14
 refine Qaz (Qd (sr (wm (wa (nt' (Qj ?_))))))
 have he46 := (show Qvz x0 = d10 from Qar hE45 (rfl))
 refine Qcu rfl (Qdl rfl) (fun W hm => ⟨.slice A11 d10.length c12, ?_, ?_⟩)
 ·first | rw [he46] | rfl
 rw [he46]; exact hm
theorem Qbcp (x0 : (List Qab)) : Qvz x0 = x0 := by
 unfold Qvz; rw [Qjc (xs := x0) (b := fun k s => Qabo x0 k s) (fun _ _ => rfl)]; rfl
theorem Qail (w : World) (z0 : Value) (x0 : (List Qab)) (r_0 : rdS Qap w w.heap.size z0 x0) (s_0 : (x0.length ≤ 68719476736 ∧ ∀ y ∈ x0, Qgm 68719476736 y)) :
  Calls Tryz.prog 131 #[z0] w (rL w (tSl Qap 70) x0) := by
 have h := Qbco w z0 x0 r_0 s_0
 rw [Qbcp] at h
 exact h

def Qaaz (x0 : Qbc) : Qbc :=
 x0
theorem Qano : Cb Tryz.prog 132 := ⟨f132, _, func132, rfl, by decide⟩
theorem Qbbh (w : World) (z0 : List Value) (x0 : Qbc) (r_0 : Qaq.rd w w.heap.size z0 x0) (s_0 : Qil 68719476736 x0) :
  Calls Tryz.prog 132 #[.agg z0.toArray] w (rO w Qaq (Qaaz x0)) := by
 obtain ⟨v1, v3, v5, rfl, r2, r4, r6⟩ := Qjn r_0
 obtain ⟨m7, A8, c9, rfl, q10, r11⟩ := Qi r2
 obtain ⟨m12, A13, c14, rfl, q15, r16⟩ := Qi r4
 obtain ⟨m17, A18, c19, rfl, q20, r21⟩ := Qi r6
 have l22 := s_0.1
 have l23 := s_0.2.1
 have l24 := s_0.2.2
 refine ce1 (L := [(0, .agg #[iV x0.Segment, iV x0.Base, .slice A8 x0.Ids.length c9, .slice A13 x0.Tenants.length c14, .slice A18 x0.Rows.length c19])]) (N := 20) func132 ?_
 refine sr ?_
 refine Qbn rfl (Qk rfl) (by decide) (fun p25 => ?_)
 refine Qbm Qcs rfl (Qk rfl) (by decide) (fun p26 => ?_)
 refine nt' (Qe ?_)
 let K1 : List Value := [iV x0.Segment, iV x0.Base, .slice A8 x0.Ids.length c9, .slice A13 x0.Tenants.length c14, .slice A18 x0.Rows.length c19]
 let K2 : List Value := [iV 0, iV 0, .slice none 0 0, .slice none 0 0, .slice none 0 0]
 let J12 : List It := [Qh p26 102 K2, Qh p25 102 K1]
 refine rd2 18 [17] (s := [Qh p25 102 K1]) (s2 := J12) (pk [1]) idM ?_
 refine Qrj (σ := Option Addr × Nat × Option Addr × Nat × Nat) (fun s => J12) 18 32767 3 (fun s => [(2, bp p26), (4, iV x0.Segment), (6, iV x0.Base), (17, .slice A18 x0.Rows.length c19), (10, .slice s.1 x0.Ids.length s.2.1), (14, .slice s.2.2.1 x0.Tenants.length s.2.2.2.1), (15, .slice (some ⟨s.2.2.2.2, 0, none⟩) 0 0)]) (fun s => (Qn (tSl Qa 3) [.slice (some ⟨s.2.2.2.2, 0, none⟩) 0 0] [] :: iS Qa 3 s.2.2.1 s.2.2.2.1 x0.Tenants :: iS Qa 3 s.1 s.2.1 x0.Ids :: J12)) ?_ (fun H => ?_)
 ·
  rintro ⟨A30, c31, A37, c38, p41⟩
  let J13 : List It := iS Qa 3 A37 c38 x0.Tenants :: iS Qa 3 A30 c31 x0.Ids :: J12
  show QD _ _ _ _ _ _ _ _ [(2, bp p26), (4, iV x0.Segment), (6, iV x0.Base), (17, .slice A18 x0.Rows.length c19), (10, .slice A30 x0.Ids.length c31), (14, .slice A37 x0.Tenants.length c38), (15, .slice (sA p41) 0 0)] _ J12 _ (Qn (tSl Qa 3) [.slice (sA p41) 0 0] [] :: J13)
  refine Qll (n := 0) rfl ?_
  intro m43 m44
  refine Qll (n := 1) rfl ?_
  intro m45 m46
  refine Qll (n := 2) rfl ?_
  intro m47 m48
  refine qoD 18 15 65535 rfl ?_
  refine apR Qa Qa 3 (.slice (sA p41) 0 0) [] x0.Rows J13 idM (fun W hm => Qdi Qcv (hm.rdS0 r21)) Qq Qf (show (0 + x0.Rows.length) * 8 ≤ 140737488355328 from by omega) (fun v49 => ?_)
  refine fm 0 ?_
  rintro A50 c51 rfl m52
  refine qnD (pk [4]) (pk [3, 4]) ?_
  let K3 : List Value := [iV x0.Segment, iV x0.Base, .slice A30 x0.Ids.length c31, .slice A37 x0.Tenants.length c38, .slice A50 x0.Rows.length c51]
  refine qtD 18 16 131071 rfl (fun W hm => Qef (cs := K3) rfl (by kernel_rfl)) ?_
  refine qoD 18 17 262143 rfl ?_
  refine sb 0 K3 [iS Qa 3 A50 c51 x0.Rows, iS Qa 3 A37 c38 x0.Tenants, iS Qa 3 A30 c31 x0.Ids, Qh p25 102 K1] (pk [3, 0, 1, 2, 4]) Qcs ?_
  refine qxD (pk [4]) ?_
  refine Qed (by kernel_rfl) ?_
  refine Qd (Qj ?_)
  have he54 := (show Qaaz x0 = x0 from rfl)
  refine Qcu rfl (Qdp (n := 0) rfl rfl Qby Qcs rfl) (fun W hm => ⟨K3, ?_, ?_⟩)
  ·first | rw [he54] | rfl
  rw [he54]; exact Mem.join (is := [iS Qa 3 A30 c31 x0.Ids, iS Qa 3 A37 c38 x0.Tenants, iS Qa 3 A50 c51 x0.Rows]) (js := []) (fun _ _ hs => Qmt (x := x0) hs) (hm.pick [3, 2, 1] (by decide))
 refine qtD 18 0 1 rfl (vf Qby rfl Qf) ?_
 refine qtD 18 1 3 rfl (vl 1 0 Qs) ?_
 refine qtD 18 2 7 rfl (vf Qby rfl Qf) ?_
 refine qtD 18 3 15 rfl (vl 1 1 Qs) ?_
 refine qtD 18 5 47 rfl (vf Qby rfl Qao) ?_
 refine qtD 18 6 111 rfl (vl 1 2 Qq) ?_
 refine qtD 18 9 623 rfl (vf Qby rfl Qao) ?_
 refine qtD 18 10 1647 rfl (vl 1 3 Qq) ?_
 refine qtD 18 13 9839 rfl (vf Qby rfl Qao) ?_
 refine qtD 18 14 26223 rfl (vl 1 4 Qq) ?_
 refine qaD [4, 8, 12] ?_
 refine qcD 18 26239 rfl ?_ ?_
 ·
  refine Qcf (E := Qa) Qq Qf (Qk rfl) (by decide) (fun p55 => ?_)
  refine qnD (pk [2]) (pk [1, 2]) ?_
  refine qaD [7, 8, 12] ?_
  refine qcD 18 26367 rfl ?_ ?_
  ·
   refine apR Qa Qa 3 (.slice (sA p55) 0 0) [] x0.Ids J12 idM (fun W hm => Qdi Qcv (hm.rdS0 r11)) Qq Qf (show (0 + x0.Ids.length) * 8 ≤ 140737488355328 from by omega) (fun v57 => ?_)
   refine fm 0 ?_
   rintro A58 c59 rfl m60
   refine qnD (pk [2]) (pk [1, 2]) ?_
   refine qaD [8, 12] ?_
   refine qcD 18 26623 rfl ?_ ?_
   ·
    refine Qcf (E := Qa) Qq Qf (Qk rfl) (by decide) (fun p62 => ?_)
    refine qnD (pk [3]) (pk [2, 3]) ?_
    refine qaD [11, 12] ?_
    refine qcD 18 28671 rfl ?_ ?_
    ·
     refine apR Qa Qa 3 (.slice (sA p62) 0 0) [] x0.Tenants (iS Qa 3 A58 c59 x0.Ids :: J12) idM (fun W hm => Qdi Qcv (hm.rdS0 r16)) Qq Qf (show (0 + x0.Tenants.length) * 8 ≤ 140737488355328 from by omega) (fun v64 => ?_)
     refine fm 0 ?_
     rintro A65 c66 rfl m67
     refine qnD (pk [3]) (pk [2, 3]) ?_
     refine qoD 18 12 32767 rfl ?_
     refine Qcf (E := Qa) Qq Qf (Qk rfl) (by decide) (fun p69 => ?_)
     refine qnD (pk [4]) (pk [3, 4]) ?_
     exact Qel sl7 idM (H (A58, c59, A65, c66, p69))
    refine qcD 18 30719 rfl ?_ ?_
    ·
     refine Qcf (E := Qa) Qq Qf (Qk rfl) (by decide) (fun p71 => ?_)
     refine qnD (pk [4]) (pk [3, 4]) ?_
     refine qoD 18 11 32767 rfl ?_
     refine apR Qa Qa 3 (.slice (sA p62) 0 0) [] x0.Tenants (Qn (tSl Qa 3) [.slice (sA p71) 0 0] [] :: iS Qa 3 A58 c59 x0.Ids :: J12) (pk [1, 0, 2, 3, 4]) (fun W hm => Qdi Qcv (hm.rdS0 r16)) Qq Qf (show (0 + x0.Tenants.length) * 8 ≤ 140737488355328 from by omega) (fun v73 => ?_)
     refine fm 0 ?_
     rintro A74 c75 rfl m76
     refine qnD (pk [4]) (pk [3, 4]) ?_
     exact Qel sl7 (pk [1, 0, 2, 3, 4]) (H (A58, c59, A74, c75, p71))
    exact Qfm
   refine qcD 18 30463 rfl ?_ ?_
   ·
    refine Qcf (E := Qa) Qq Qf (Qk rfl) (by decide) (fun p78 => ?_)
    refine qnD (pk [3]) (pk [2, 3]) ?_
    refine qoD 18 8 30719 rfl ?_
    refine Qcf (E := Qa) Qq Qf (Qk rfl) (by decide) (fun p80 => ?_)
    refine qnD (pk [4]) (pk [3, 4]) ?_
    refine qoD 18 11 32767 rfl ?_
    refine apR Qa Qa 3 (.slice (sA p80) 0 0) [] x0.Tenants (Qn (tSl Qa 3) [.slice (sA p78) 0 0] [] :: iS Qa 3 A58 c59 x0.Ids :: J12) idM (fun W hm => Qdi Qcv (hm.rdS0 r16)) Qq Qf (show (0 + x0.Tenants.length) * 8 ≤ 140737488355328 from by omega) (fun v82 => ?_)
    refine fm 0 ?_
    rintro A83 c84 rfl m85
    refine qnD (pk [4]) (pk [3, 4]) ?_
    exact Qel sl7 (pk [1, 0, 2, 3, 4]) (H (A58, c59, A83, c84, p78))
   exact Qfm
  refine qcD 18 26495 rfl ?_ ?_
  ·
   refine Qcf (E := Qa) Qq Qf (Qk rfl) (by decide) (fun p87 => ?_)
   refine qnD (pk [3]) (pk [2, 3]) ?_
   refine qaD [7, 12] ?_
   refine qcD 18 26623 rfl ?_ ?_
   ·
    refine apR Qa Qa 3 (.slice (sA p55) 0 0) [] x0.Ids (Qn (tSl Qa 3) [.slice (sA p87) 0 0] [] :: J12) (pk [1, 0, 2, 3]) (fun W hm => Qdi Qcv (hm.rdS0 r11)) Qq Qf (show (0 + x0.Ids.length) * 8 ≤ 140737488355328 from by omega) (fun v89 => ?_)
    refine fm 0 ?_
    rintro A90 c91 rfl m92
    refine qnD (pk [3]) (pk [2, 3]) ?_
    refine qaD [11, 12] ?_
    refine qcD 18 28671 rfl ?_ ?_
    ·
     refine apR Qa Qa 3 (.slice (sA p87) 0 0) [] x0.Tenants (iS Qa 3 A90 c91 x0.Ids :: J12) (pk [1, 0, 2, 3]) (fun W hm => Qdi Qcv (hm.rdS0 r16)) Qq Qf (show (0 + x0.Tenants.length) * 8 ≤ 140737488355328 from by omega) (fun v94 => ?_)
     refine fm 0 ?_
     rintro A95 c96 rfl m97
     refine qnD (pk [3]) (pk [2, 3]) ?_
     refine qoD 18 12 32767 rfl ?_
     refine Qcf (E := Qa) Qq Qf (Qk rfl) (by decide) (fun p99 => ?_)
     refine qnD (pk [4]) (pk [3, 4]) ?_
     exact Qel sl7 idM (H (A90, c91, A95, c96, p99))
    refine qcD 18 30719 rfl ?_ ?_
    ·
     refine Qcf (E := Qa) Qq Qf (Qk rfl) (by decide) (fun p101 => ?_)
     refine qnD (pk [4]) (pk [3, 4]) ?_
     refine qoD 18 11 32767 rfl ?_
     refine apR Qa Qa 3 (.slice (sA p87) 0 0) [] x0.Tenants (Qn (tSl Qa 3) [.slice (sA p101) 0 0] [] :: iS Qa 3 A90 c91 x0.Ids :: J12) (pk [2, 0, 1, 3, 4]) (fun W hm => Qdi Qcv (hm.rdS0 r16)) Qq Qf (show (0 + x0.Tenants.length) * 8 ≤ 140737488355328 from by omega) (fun v103 => ?_)
     refine fm 0 ?_
     rintro A104 c105 rfl m106
     refine qnD (pk [4]) (pk [3, 4]) ?_
     exact Qel sl7 (pk [1, 0, 2, 3, 4]) (H (A90, c91, A104, c105, p101))
    exact Qfm
   refine qcD 18 30591 rfl ?_ ?_
   ·
    refine Qcf (E := Qa) Qq Qf (Qk rfl) (by decide) (fun p108 => ?_)
    refine qnD (pk [4]) (pk [3, 4]) ?_
    refine qoD 18 7 30719 rfl ?_
    let I4 : It := Qn (tSl Qa 3) [.slice (sA p108) 0 0] []
    refine apR Qa Qa 3 (.slice (sA p55) 0 0) [] x0.Ids (I4 :: Qn (tSl Qa 3) [.slice (sA p87) 0 0] [] :: J12) (pk [2, 0, 1, 3, 4]) (fun W hm => Qdi Qcv (hm.rdS0 r11)) Qq Qf (show (0 + x0.Ids.length) * 8 ≤ 140737488355328 from by omega) (fun v110 => ?_)
    refine fm 0 ?_
    rintro A111 c112 rfl m113
    refine qnD (pk [4]) (pk [3, 4]) ?_
    refine qoD 18 11 32767 rfl ?_
    refine apR Qa Qa 3 (.slice (sA p87) 0 0) [] x0.Tenants (iS Qa 3 A111 c112 x0.Ids :: I4 :: J12) (pk [2, 0, 1, 3, 4]) (fun W hm => Qdi Qcv (hm.rdS0 r16)) Qq Qf (show (0 + x0.Tenants.length) * 8 ≤ 140737488355328 from by omega) (fun v115 => ?_)
    refine fm 0 ?_
    rintro A116 c117 rfl m118
    refine qnD (pk [4]) (pk [3, 4]) ?_
    exact Qel sl7 (pk [2, 0, 1, 3, 4]) (H (A111, c112, A116, c117, p108))
   exact Qfm
  refine qcD 18 30335 rfl ?_ ?_
  ·
   refine Qcf (E := Qa) Qq Qf (Qk rfl) (by decide) (fun p120 => ?_)
   refine qnD (pk [3]) (pk [2, 3]) ?_
   refine qaD [7, 8] ?_
   refine qcD 18 30463 rfl ?_ ?_
   ·
    let I5 : It := Qn (tSl Qa 3) [.slice (sA p120) 0 0] []
    refine apR Qa Qa 3 (.slice (sA p55) 0 0) [] x0.Ids (I5 :: J12) (pk [1, 0, 2, 3]) (fun W hm => Qdi Qcv (hm.rdS0 r11)) Qq Qf (show (0 + x0.Ids.length) * 8 ≤ 140737488355328 from by omega) (fun v122 => ?_)
    refine fm 0 ?_
    rintro A123 c124 rfl m125
    refine qnD (pk [3]) (pk [2, 3]) ?_
    refine qoD 18 8 30719 rfl ?_
    refine Qcf (E := Qa) Qq Qf (Qk rfl) (by decide) (fun p127 => ?_)
    refine qnD (pk [4]) (pk [3, 4]) ?_
    refine qoD 18 11 32767 rfl ?_
    refine apR Qa Qa 3 (.slice (sA p127) 0 0) [] x0.Tenants (iS Qa 3 A123 c124 x0.Ids :: I5 :: J12) idM (fun W hm => Qdi Qcv (hm.rdS0 r16)) Qq Qf (show (0 + x0.Tenants.length) * 8 ≤ 140737488355328 from by omega) (fun v129 => ?_)
    refine fm 0 ?_
    rintro A130 c131 rfl m132
    refine qnD (pk [4]) (pk [3, 4]) ?_
    exact Qel sl7 (pk [2, 0, 1, 3, 4]) (H (A123, c124, A130, c131, p120))
   refine qcD 18 30591 rfl ?_ ?_
   ·
    refine Qcf (E := Qa) Qq Qf (Qk rfl) (by decide) (fun p134 => ?_)
    refine qnD (pk [4]) (pk [3, 4]) ?_
    refine qoD 18 7 30719 rfl ?_
    let I6 : It := Qn (tSl Qa 3) [.slice (sA p120) 0 0] []
    refine apR Qa Qa 3 (.slice (sA p55) 0 0) [] x0.Ids (Qn (tSl Qa 3) [.slice (sA p134) 0 0] [] :: I6 :: J12) (pk [2, 0, 1, 3, 4]) (fun W hm => Qdi Qcv (hm.rdS0 r11)) Qq Qf (show (0 + x0.Ids.length) * 8 ≤ 140737488355328 from by omega) (fun v136 => ?_)
    refine fm 0 ?_
    rintro A137 c138 rfl m139
    refine qnD (pk [4]) (pk [3, 4]) ?_
    refine qoD 18 11 32767 rfl ?_
    refine apR Qa Qa 3 (.slice (sA p134) 0 0) [] x0.Tenants (iS Qa 3 A137 c138 x0.Ids :: I6 :: J12) (pk [1, 0, 2, 3, 4]) (fun W hm => Qdi Qcv (hm.rdS0 r16)) Qq Qf (show (0 + x0.Tenants.length) * 8 ≤ 140737488355328 from by omega) (fun v141 => ?_)
    refine fm 0 ?_
    rintro A142 c143 rfl m144
    refine qnD (pk [4]) (pk [3, 4]) ?_
    exact Qel sl7 (pk [2, 0, 1, 3, 4]) (H (A137, c138, A142, c143, p120))
   exact Qfm
  exact Qfm
 refine qcD 18 26479 rfl ?_ ?_
 ·
  refine Qcf (E := Qa) Qq Qf (Qk rfl) (by decide) (fun p146 => ?_)
  refine qnD (pk [2]) (pk [1, 2]) ?_
  refine qaD [4, 12] ?_
  refine qcD 18 26495 rfl ?_ ?_
  ·
   refine Qcf (E := Qa) Qq Qf (Qk rfl) (by decide) (fun p148 => ?_)
   refine qnD (pk [3]) (pk [2, 3]) ?_
   refine qaD [7, 12] ?_
   refine qcD 18 26623 rfl ?_ ?_
   ·
    refine apR Qa Qa 3 (.slice (sA p148) 0 0) [] x0.Ids (Qn (tSl Qa 3) [.slice (sA p146) 0 0] [] :: J12) idM (fun W hm => Qdi Qcv (hm.rdS0 r11)) Qq Qf (show (0 + x0.Ids.length) * 8 ≤ 140737488355328 from by omega) (fun v150 => ?_)
    refine fm 0 ?_
    rintro A151 c152 rfl m153
    refine qnD (pk [3]) (pk [2, 3]) ?_
    refine qaD [11, 12] ?_
    refine qcD 18 28671 rfl ?_ ?_
    ·
     refine apR Qa Qa 3 (.slice (sA p146) 0 0) [] x0.Tenants (iS Qa 3 A151 c152 x0.Ids :: J12) (pk [1, 0, 2, 3]) (fun W hm => Qdi Qcv (hm.rdS0 r16)) Qq Qf (show (0 + x0.Tenants.length) * 8 ≤ 140737488355328 from by omega) (fun v155 => ?_)
     refine fm 0 ?_
     rintro A156 c157 rfl m158
     refine qnD (pk [3]) (pk [2, 3]) ?_
     refine qoD 18 12 32767 rfl ?_
     refine Qcf (E := Qa) Qq Qf (Qk rfl) (by decide) (fun p160 => ?_)
     refine qnD (pk [4]) (pk [3, 4]) ?_
     exact Qel sl7 idM (H (A151, c152, A156, c157, p160))
    refine qcD 18 30719 rfl ?_ ?_
    ·
     refine Qcf (E := Qa) Qq Qf (Qk rfl) (by decide) (fun p162 => ?_)
     refine qnD (pk [4]) (pk [3, 4]) ?_
     refine qoD 18 11 32767 rfl ?_
     refine apR Qa Qa 3 (.slice (sA p146) 0 0) [] x0.Tenants (Qn (tSl Qa 3) [.slice (sA p162) 0 0] [] :: iS Qa 3 A151 c152 x0.Ids :: J12) (pk [2, 0, 1, 3, 4]) (fun W hm => Qdi Qcv (hm.rdS0 r16)) Qq Qf (show (0 + x0.Tenants.length) * 8 ≤ 140737488355328 from by omega) (fun v164 => ?_)
     refine fm 0 ?_
     rintro A165 c166 rfl m167
     refine qnD (pk [4]) (pk [3, 4]) ?_
     exact Qel sl7 (pk [1, 0, 2, 3, 4]) (H (A151, c152, A165, c166, p162))
    exact Qfm
   refine qcD 18 30591 rfl ?_ ?_
   ·
    refine Qcf (E := Qa) Qq Qf (Qk rfl) (by decide) (fun p169 => ?_)
    refine qnD (pk [4]) (pk [3, 4]) ?_
    refine qoD 18 7 30719 rfl ?_
    let I7 : It := Qn (tSl Qa 3) [.slice (sA p169) 0 0] []
    refine apR Qa Qa 3 (.slice (sA p148) 0 0) [] x0.Ids (I7 :: Qn (tSl Qa 3) [.slice (sA p146) 0 0] [] :: J12) (pk [1, 0, 2, 3, 4]) (fun W hm => Qdi Qcv (hm.rdS0 r11)) Qq Qf (show (0 + x0.Ids.length) * 8 ≤ 140737488355328 from by omega) (fun v171 => ?_)
    refine fm 0 ?_
    rintro A172 c173 rfl m174
    refine qnD (pk [4]) (pk [3, 4]) ?_
    refine qoD 18 11 32767 rfl ?_
    refine apR Qa Qa 3 (.slice (sA p146) 0 0) [] x0.Tenants (iS Qa 3 A172 c173 x0.Ids :: I7 :: J12) (pk [2, 0, 1, 3, 4]) (fun W hm => Qdi Qcv (hm.rdS0 r16)) Qq Qf (show (0 + x0.Tenants.length) * 8 ≤ 140737488355328 from by omega) (fun v176 => ?_)
    refine fm 0 ?_
    rintro A177 c178 rfl m179
    refine qnD (pk [4]) (pk [3, 4]) ?_
    exact Qel sl7 (pk [2, 0, 1, 3, 4]) (H (A172, c173, A177, c178, p169))
   exact Qfm
  refine qcD 18 30575 rfl ?_ ?_
  ·
   refine Qcf (E := Qa) Qq Qf (Qk rfl) (by decide) (fun p181 => ?_)
   refine qnD (pk [3]) (pk [2, 3]) ?_
   refine qoD 18 4 30591 rfl ?_
   refine Qcf (E := Qa) Qq Qf (Qk rfl) (by decide) (fun p183 => ?_)
   refine qnD (pk [4]) (pk [3, 4]) ?_
   refine qoD 18 7 30719 rfl ?_
   let I8 : It := Qn (tSl Qa 3) [.slice (sA p181) 0 0] []
   refine apR Qa Qa 3 (.slice (sA p183) 0 0) [] x0.Ids (I8 :: Qn (tSl Qa 3) [.slice (sA p146) 0 0] [] :: J12) idM (fun W hm => Qdi Qcv (hm.rdS0 r11)) Qq Qf (show (0 + x0.Ids.length) * 8 ≤ 140737488355328 from by omega) (fun v185 => ?_)
   refine fm 0 ?_
   rintro A186 c187 rfl m188
   refine qnD (pk [4]) (pk [3, 4]) ?_
   refine qoD 18 11 32767 rfl ?_
   refine apR Qa Qa 3 (.slice (sA p146) 0 0) [] x0.Tenants (iS Qa 3 A186 c187 x0.Ids :: I8 :: J12) (pk [2, 0, 1, 3, 4]) (fun W hm => Qdi Qcv (hm.rdS0 r16)) Qq Qf (show (0 + x0.Tenants.length) * 8 ≤ 140737488355328 from by omega) (fun v190 => ?_)
   refine fm 0 ?_
   rintro A191 c192 rfl m193
   refine qnD (pk [4]) (pk [3, 4]) ?_
   exact Qel sl7 (pk [2, 0, 1, 3, 4]) (H (A186, c187, A191, c192, p181))
  exact Qfm
 refine qcD 18 30319 rfl ?_ ?_
 ·
  refine Qcf (E := Qa) Qq Qf (Qk rfl) (by decide) (fun p195 => ?_)
  refine qnD (pk [2]) (pk [1, 2]) ?_
  refine qaD [4, 8] ?_
  refine qcD 18 30335 rfl ?_ ?_
  ·
   refine Qcf (E := Qa) Qq Qf (Qk rfl) (by decide) (fun p197 => ?_)
   refine qnD (pk [3]) (pk [2, 3]) ?_
   refine qaD [7, 8] ?_
   refine qcD 18 30463 rfl ?_ ?_
   ·
    let I9 : It := Qn (tSl Qa 3) [.slice (sA p195) 0 0] []
    refine apR Qa Qa 3 (.slice (sA p197) 0 0) [] x0.Ids (I9 :: J12) idM (fun W hm => Qdi Qcv (hm.rdS0 r11)) Qq Qf (show (0 + x0.Ids.length) * 8 ≤ 140737488355328 from by omega) (fun v199 => ?_)
    refine fm 0 ?_
    rintro A200 c201 rfl m202
    refine qnD (pk [3]) (pk [2, 3]) ?_
    refine qoD 18 8 30719 rfl ?_
    refine Qcf (E := Qa) Qq Qf (Qk rfl) (by decide) (fun p204 => ?_)
    refine qnD (pk [4]) (pk [3, 4]) ?_
    refine qoD 18 11 32767 rfl ?_
    refine apR Qa Qa 3 (.slice (sA p204) 0 0) [] x0.Tenants (iS Qa 3 A200 c201 x0.Ids :: I9 :: J12) idM (fun W hm => Qdi Qcv (hm.rdS0 r16)) Qq Qf (show (0 + x0.Tenants.length) * 8 ≤ 140737488355328 from by omega) (fun v206 => ?_)
    refine fm 0 ?_
    rintro A207 c208 rfl m209
    refine qnD (pk [4]) (pk [3, 4]) ?_
    exact Qel sl7 (pk [2, 0, 1, 3, 4]) (H (A200, c201, A207, c208, p195))
   refine qcD 18 30591 rfl ?_ ?_
   ·
    refine Qcf (E := Qa) Qq Qf (Qk rfl) (by decide) (fun p211 => ?_)
    refine qnD (pk [4]) (pk [3, 4]) ?_
    refine qoD 18 7 30719 rfl ?_
    let I10 : It := Qn (tSl Qa 3) [.slice (sA p195) 0 0] []
    refine apR Qa Qa 3 (.slice (sA p197) 0 0) [] x0.Ids (Qn (tSl Qa 3) [.slice (sA p211) 0 0] [] :: I10 :: J12) (pk [1, 0, 2, 3, 4]) (fun W hm => Qdi Qcv (hm.rdS0 r11)) Qq Qf (show (0 + x0.Ids.length) * 8 ≤ 140737488355328 from by omega) (fun v213 => ?_)
    refine fm 0 ?_
    rintro A214 c215 rfl m216
    refine qnD (pk [4]) (pk [3, 4]) ?_
    refine qoD 18 11 32767 rfl ?_
    refine apR Qa Qa 3 (.slice (sA p211) 0 0) [] x0.Tenants (iS Qa 3 A214 c215 x0.Ids :: I10 :: J12) (pk [1, 0, 2, 3, 4]) (fun W hm => Qdi Qcv (hm.rdS0 r16)) Qq Qf (show (0 + x0.Tenants.length) * 8 ≤ 140737488355328 from by omega) (fun v218 => ?_)
    refine fm 0 ?_
    rintro A219 c220 rfl m221
    refine qnD (pk [4]) (pk [3, 4]) ?_
    exact Qel sl7 (pk [2, 0, 1, 3, 4]) (H (A214, c215, A219, c220, p195))
   exact Qfm
  refine qcD 18 30575 rfl ?_ ?_
  ·
   refine Qcf (E := Qa) Qq Qf (Qk rfl) (by decide) (fun p223 => ?_)
   refine qnD (pk [3]) (pk [2, 3]) ?_
   refine qoD 18 4 30591 rfl ?_
   refine Qcf (E := Qa) Qq Qf (Qk rfl) (by decide) (fun p225 => ?_)
   refine qnD (pk [4]) (pk [3, 4]) ?_
   refine qoD 18 7 30719 rfl ?_
   let I11 : It := Qn (tSl Qa 3) [.slice (sA p195) 0 0] []
   refine apR Qa Qa 3 (.slice (sA p225) 0 0) [] x0.Ids (Qn (tSl Qa 3) [.slice (sA p223) 0 0] [] :: I11 :: J12) idM (fun W hm => Qdi Qcv (hm.rdS0 r11)) Qq Qf (show (0 + x0.Ids.length) * 8 ≤ 140737488355328 from by omega) (fun v227 => ?_)
   refine fm 0 ?_
   rintro A228 c229 rfl m230
   refine qnD (pk [4]) (pk [3, 4]) ?_
   refine qoD 18 11 32767 rfl ?_
   refine apR Qa Qa 3 (.slice (sA p223) 0 0) [] x0.Tenants (iS Qa 3 A228 c229 x0.Ids :: I11 :: J12) (pk [1, 0, 2, 3, 4]) (fun W hm => Qdi Qcv (hm.rdS0 r16)) Qq Qf (show (0 + x0.Tenants.length) * 8 ≤ 140737488355328 from by omega) (fun v232 => ?_)
   refine fm 0 ?_
   rintro A233 c234 rfl m235
   refine qnD (pk [4]) (pk [3, 4]) ?_
   exact Qel sl7 (pk [2, 0, 1, 3, 4]) (H (A228, c229, A233, c234, p195))
  exact Qfm
 exact Qfm
theorem Qbbj (x0 : Qbc) : Qaaz x0 = x0 := by
 rfl
theorem Qbbi (w : World) (z0 : List Value) (x0 : Qbc) (r_0 : Qaq.rd w w.heap.size z0 x0) (s_0 : Qil 68719476736 x0) :
  Calls Tryz.prog 132 #[.agg z0.toArray] w (rO w Qaq x0) := by
 have h := Qbbh w z0 x0 r_0 s_0
 rw [Qbbj] at h
 exact h

abbrev Qsx (x0 : Qo) (k61 : Nat) (d64 : (List Qw)) : (List Qw) :=
 (d64 ++ [(⟨((gt x0.Active k61).Query), (gt x0.Active k61).Time, (gt x0.Active k61).Todo, (gt x0.Active k61).Age, (gt x0.Active k61).Sent, (gt x0.Active k61).Cap, ((gt x0.Active k61).Rows)⟩ : Qw)])
def Qabn (x0 : Qo) (k208 : Nat) (d211 : (List Qbc)) : Qo ⊕ ((List Qbc)) :=
 Sum.inr (d211 ++ [(gt x0.Ledger k208)])
def Qabm (x0 : Qo) (k142 : Nat) (d145 : (List Qav)) : Qo ⊕ ((List Qav)) :=
 Sum.inr (d145 ++ [(⟨((gt x0.Done k142).Query), (gt x0.Done k142).Time, (gt x0.Done k142).Steps, ((gt x0.Done k142).Rows)⟩ : Qav)])
def Qabl (x0 : Qo) (k61 : Nat) (d64 : (List Qw)) : Qo ⊕ ((List Qw)) :=
 Sum.inr (Qsx x0 k61 d64)
def Qvx (x0 : Qo) : Qo :=
 Sum.elim id (fun (s1_ : (List Qw)) => Sum.elim id (fun (s2_ : (List Qav)) => Sum.elim id (fun (s : (List Qbc)) => (⟨x0.Store, x0.Cursor, x0.Order, s1_, s2_, s, x0.Steps⟩ : Qo)) (rng (R := Qo) (fun k (s : (List Qbc)) => Qabn x0 k s) (x0.Ledger.length - 0) 0 [])) (rng (R := Qo) (fun k (s : (List Qav)) => Qabm x0 k s) (x0.Done.length - 0) 0 [])) (rng (R := Qo) (fun k (s : (List Qw)) => Qabl x0 k s) (x0.Active.length - 0) 0 [])
theorem cb61 : Cb Tryz.prog 61 := ⟨f61, _, func61, rfl, by decide⟩
theorem Qbcl (w : World) (z0 : List Value) (x0 : Qo) (r_0 : Qcb.rd w w.heap.size z0 x0) (s_0 : Qen 68719476736 x0) :
  Calls Tryz.prog 61 #[.agg z0.toArray] w (rO w Qcb (Qvx x0)) := by
 obtain ⟨v1, v3, v5, v7, v9, rfl, r2, r4, r6, r8, r10⟩ := Qia r_0
 obtain ⟨m11, A12, c13, rfl, q14, r15⟩ := Qi r2
 obtain ⟨m16, A17, c18, rfl, q19, r20⟩ := Qi r4
 obtain ⟨m21, A22, c23, rfl, q24, r25⟩ := Qi r6
 obtain ⟨m26, A27, c28, rfl, q29, r30⟩ := Qi r8
 obtain ⟨m31, A32, c33, rfl, q34, r35⟩ := Qi r10
 have l36 : x0.Store.Segments.length ≤ 68719476736 := s_0.1.1
 have l37 := s_0.2.1
 have l38 := s_0.2.2.1.1
 have l39 := s_0.2.2.2.1.1
 have l40 := s_0.2.2.2.2.1
 refine ce1 (L := [(0, .agg #[.slice A12 x0.Store.Segments.length c13, iV x0.Store.Now, iV x0.Cursor, .slice A17 x0.Order.length c18, .slice A22 x0.Active.length c23, .slice A27 x0.Done.length c28, .slice A32 x0.Ledger.length c33, iV x0.Steps])]) (N := 97) func61 ?_
 refine sr ?_
 refine Qbn rfl (Qk rfl) (by decide) (fun p41 => ?_)
 refine Qbm Qbd rfl (Qk rfl) (by decide) (fun p42 => ?_)
 refine nt' (Qe ?_)
 let K1 : List Value := [.slice none 0 0, iV 0, iV 0, .slice none 0 0, .slice none 0 0, .slice none 0 0, .slice none 0 0, iV 0]
 let K2 : List Value := [.slice A12 x0.Store.Segments.length c13, iV x0.Store.Now, iV x0.Cursor, .slice A17 x0.Order.length c18, .slice A22 x0.Active.length c23, .slice A27 x0.Done.length c28, .slice A32 x0.Ledger.length c33, iV x0.Steps]
 let J22 : List It := [Qh p42 39 K1, Qh p41 39 K2]
 refine rd2 14 [13] (s := J22) (s2 := J22) idM idM ?_
 refine Qrj (σ := Option Addr × Nat × Option Addr × Nat × Nat) (fun s => J22) 14 8191 1 (fun s => [(1, bp p41), (2, bp p42), (20, .agg #[.slice s.1 x0.Store.Segments.length s.2.1, iV x0.Store.Now, iV x0.Cursor, .slice s.2.2.1 x0.Order.length s.2.2.2.1, .slice none 0 0, .slice none 0 0, .slice none 0 0, iV x0.Steps]), (3, .pointer (some (⟨s.2.2.2.2, 0, none⟩ : Addr)))]) (fun s => (Qh s.2.2.2.2 39 K1 :: iS Qa 3 s.2.2.1 s.2.2.2.1 x0.Order :: iS (tSl Qaf 163) 100 s.1 s.2.1 x0.Store.Segments :: J22)) ?_ (fun H => ?_)
 ·
  rintro ⟨A45, c46, A52, c53, p56⟩
  let I16 : It := iS (tSl Qaf 163) 100 A45 c46 x0.Store.Segments
  show QD _ _ _ _ _ _ _ _ [(1, bp p41), (2, bp p42), (20, .agg #[.slice A45 x0.Store.Segments.length c46, iV x0.Store.Now, iV x0.Cursor, .slice A52 x0.Order.length c53, .slice none 0 0, .slice none 0 0, .slice none 0 0, iV x0.Steps]), (3, bp p56)] _ J22 _ (Qh p56 39 K1 :: iS Qa 3 A52 c53 x0.Order :: I16 :: J22)
  refine Qll (n := 1) rfl ?_
  intro m57 m58
  refine Qll (n := 2) rfl ?_
  intro m59 m60
  refine qoD 14 13 16383 rfl ?_
  refine sb 0 [.slice A45 x0.Store.Segments.length c46, iV x0.Store.Now, iV x0.Cursor, .slice A52 x0.Order.length c53, .slice none 0 0, .slice none 0 0, .slice none 0 0, iV x0.Steps] (iS Qa 3 A52 c53 x0.Order :: I16 :: J22) idM Qbd ?_
  refine qxD (pk [3, 4]) ?_
  refine Qed (by kernel_rfl) ?_
  refine Qd (Qe (sr (wa (nt' (Qx ?_)))))
  refine Qdw (fun W hm => (hm.addNil (E := Qah) (e := 61)).last) ?_
  refine Qbg (S := (List Qw)) (R := Option Addr × Nat) (fun k (s : (List Qw)) => Qabl x0 k s) x0.Active.length 0 [] (none, 0) (fun s => [(1, bp p41), (2, bp p42), (3, bp p56), (4, nI s.1)]) (fun s => [Qh p56 39 [.slice A45 x0.Store.Segments.length c46, iV x0.Store.Now, iV x0.Cursor, .slice A52 x0.Order.length c53, .slice s.2.2.1 s.2.1.length s.2.2.2, .slice none 0 0, .slice none 0 0, iV x0.Steps], iS Qa 3 A52 c53 x0.Order, I16, Qh p42 39 K1, Qh p41 39 K2, iS Qah 61 s.2.2.1 s.2.2.2 s.2.1]) (fun s => s.2.1.length ≤ 0 + s.1) sl4 (Nat.le_refl _) ?_
  rintro ⟨k61, d64, ⟨A65, c66⟩⟩ H69 _ _ e e'
  dsimp only at H69 ⊢
  subst e e'
  obtain ⟨hk67, hF68, hi70⟩ := H69
  refine Qe (sr (wm ?_))
  refine wv (vf Qz rfl Qcw) ?_
  refine wv (vl 4 4 Qax) ?_
  refine wv (Qag Qax) ?_
  refine wv Qai ?_
  refine nt' ?_
  rcases dcl k61 x0.Active.length with ⟨hl71, g72⟩ | ⟨hl71, g72⟩
  ·
   refine Ql rfl g72 ?_
   refine Qp (Qd (Qe (Qx (sr ?_))))
   refine wv (vf Qz rfl Qcw) ?_
   refine wv (vl 4 4 Qax) ?_
   refine wm ?_
   obtain ⟨a73, rfl, hb74, he75⟩ := q24 (by omega)
   refine wv (vix 10 k61 Qax Qbe) ?_
   obtain ⟨_, e85, hc76⟩ := he75 k61 _ (Qbs (show k61 < x0.Active.length from by omega))
   obtain ⟨v77, v79, v81, v83, rfl, r78, r80, r82, r84⟩ := Qgp e85
   have l86 := (s_0.2.2.1.2 _ (Qak (show k61 < x0.Active.length from by omega))).1.1
   have l87 := (s_0.2.2.1.2 _ (Qak (show k61 < x0.Active.length from by omega))).1.2
   have l88 := (s_0.2.2.1.2 _ (Qak (show k61 < x0.Active.length from by omega))).2.1
   have l89 := (s_0.2.2.1.2 _ (Qak (show k61 < x0.Active.length from by omega))).2.2.1
   obtain ⟨m90, A91, c92, rfl, q93, r94⟩ := Qi r78
   obtain ⟨m95, A96, c97, rfl, q98, r99⟩ := Qi r80
   obtain ⟨m100, A101, c102, rfl, q103, r104⟩ := Qi r82
   obtain ⟨m105, A106, c107, rfl, q108, r109⟩ := Qi r84
   let K3 : List Value := [iV ((gt x0.Active k61).Query.Id), iV ((gt x0.Active k61).Query.Tenant), .slice A91 ((gt x0.Active k61).Query.Conds).length c92, .slice A96 ((gt x0.Active k61).Query.Out).length c97, iV ((gt x0.Active k61).Time), .slice A101 ((gt x0.Active k61).Todo).length c102, iV ((gt x0.Active k61).Age), iV ((gt x0.Active k61).Sent), iV ((gt x0.Active k61).Cap), .slice A106 ((gt x0.Active k61).Rows).length c107]
   refine wv (fun W hm => Qad (cs := K3) Qaj Qbe rfl rfl (hm.elCells (show (a73.add (k61 * 10)).block < w.heap.size from by rw [Qae]; exact hb74.1) hc76)) ?_
   refine Qbm Qbe rfl (Qk rfl) (by decide) (fun p110 => ?_)
   let K4 : List Value := [.slice A45 x0.Store.Segments.length c46, iV x0.Store.Now, iV x0.Cursor, .slice A52 x0.Order.length c53, .slice A65 d64.length c66, .slice none 0 0, .slice none 0 0, iV x0.Steps]
   let K5 : List Value := [.slice A12 x0.Store.Segments.length c13, iV x0.Store.Now, iV x0.Cursor, .slice A17 x0.Order.length c18, .slice (some a73) x0.Active.length c23, .slice A27 x0.Done.length c28, .slice A32 x0.Ledger.length c33, iV x0.Steps]
   let J23 : List It := [Qh p56 39 K4, iS Qa 3 A52 c53 x0.Order, I16, Qh p42 39 K1, Qh p41 39 K5, iS Qah 61 A65 c66 d64]
   refine sb 0 K3 J23 idM Qbe ?_
   refine nt' (sr ?_)
   refine wv (vf Qaj rfl Qbj) ?_
   refine wv (fun W hm => Qad (cs := [iV ((gt x0.Active k61).Query.Id), iV ((gt x0.Active k61).Query.Tenant), .slice A91 ((gt x0.Active k61).Query.Conds).length c92, .slice A96 ((gt x0.Active k61).Query.Out).length c97]) Qbq Qbj rfl rfl (hm.boxPart (n := 0) rfl rfl)) ?_
   refine wcs Qcm ((gt x0.Active k61).Query) (Qr Qxl rfl) (fun W hm => Qabg W _ ((gt x0.Active k61).Query) (Qhg (x := ((gt x0.Active k61).Query)) (hm.rdS0 r94) (hm.rdS0 r99)) (s_0.2.2.1.2 _ (Qak (show k61 < x0.Active.length from by omega))).1) (fun z111 => ?_)
   refine Qpf ?_
   rintro ⟨v112, v113⟩ rfl
   refine fm 0 ?_
   rintro A114 c115 rfl m116
   refine fm 1 ?_
   rintro A118 c119 rfl m120
   refine wv (vf Qaj rfl Qbj) ?_
   let K6 : List Value := [iV (((gt x0.Active k61).Query).Id), iV (((gt x0.Active k61).Query).Tenant), .slice A114 (((gt x0.Active k61).Query).Conds).length c115, .slice A118 (((gt x0.Active k61).Query).Out).length c119, iV ((gt x0.Active k61).Time), .slice A101 ((gt x0.Active k61).Todo).length c102, iV ((gt x0.Active k61).Age), iV ((gt x0.Active k61).Sent), iV ((gt x0.Active k61).Cap), .slice A106 ((gt x0.Active k61).Rows).length c107]
   let I17 : It := iS Qbl 180 A114 c115 (((gt x0.Active k61).Query).Conds)
   let I18 : It := iS Qa 3 A118 c119 (((gt x0.Active k61).Query).Out)
   refine sb 0 K6 (I17 :: I18 :: J23) (pk [2, 0, 1, 3, 4, 5, 6, 7, 8]) Qbj ?_
   refine nt' (sr ?_)
   refine Qcf (E := Qa) Qq Qf (Qk rfl) (by decide) (fun p122 => ?_)
   refine wv (vf Qaj rfl Qao) ?_
   refine wv (vl 1 5 Qq) ?_
   refine apR Qa Qa 3 (.slice (sA p122) 0 0) [] ((gt x0.Active k61).Todo) (Qh p110 61 K6 :: I17 :: I18 :: J23) idM (fun W hm => Qdi Qcv (hm.rdS0 r104)) Qq Qf (show (0 + ((gt x0.Active k61).Todo).length) * 8 ≤ 140737488355328 from by omega) (fun v124 => ?_)
   refine fm 0 ?_
   rintro A125 c126 rfl m127
   refine wv (vf Qaj rfl Qao) ?_
   let I19 : It := iS Qa 3 A125 c126 ((gt x0.Active k61).Todo)
   refine sb 5 [iV (((gt x0.Active k61).Query).Id), iV (((gt x0.Active k61).Query).Tenant), .slice A114 (((gt x0.Active k61).Query).Conds).length c115, .slice A118 (((gt x0.Active k61).Query).Out).length c119, iV ((gt x0.Active k61).Time), .slice A125 ((gt x0.Active k61).Todo).length c126, iV ((gt x0.Active k61).Age), iV ((gt x0.Active k61).Sent), iV ((gt x0.Active k61).Cap), .slice A106 ((gt x0.Active k61).Rows).length c107] (I19 :: I17 :: I18 :: J23) (pk [1, 0, 2, 3, 4, 5, 6, 7, 8, 9]) Qao ?_
   refine nt' (sr ?_)
   refine wv (vf Qaj rfl Qdt) ?_
   refine wv (vl 0 9 Qci) ?_
   refine wcl (tSl Qap 70) ((gt x0.Active k61).Rows) (Qr Qadk rfl) (fun W hm => Qail W _ ((gt x0.Active k61).Rows) (hm.rdS0 r109) (s_0.2.2.1.2 _ (Qak (show k61 < x0.Active.length from by omega))).2.2) (fun z129 => ?_)
   refine fm 0 ?_
   rintro A130 c131 rfl m132
   refine wv (vf Qaj rfl Qdt) ?_
   let K7 : List Value := [iV (((gt x0.Active k61).Query).Id), iV (((gt x0.Active k61).Query).Tenant), .slice A114 (((gt x0.Active k61).Query).Conds).length c115, .slice A118 (((gt x0.Active k61).Query).Out).length c119, iV ((gt x0.Active k61).Time), .slice A125 ((gt x0.Active k61).Todo).length c126, iV ((gt x0.Active k61).Age), iV ((gt x0.Active k61).Sent), iV ((gt x0.Active k61).Cap), .slice A130 ((gt x0.Active k61).Rows).length c131]
   refine sb 9 K7 (iS Qap 70 A130 c131 ((gt x0.Active k61).Rows) :: I19 :: I17 :: I18 :: J23) (pk [1, 0, 2, 3, 4, 5, 6, 7, 8, 9, 10]) Qdt ?_
   refine nt' (Qy ?_)
   refine wv (vf Qz rfl Qcw) ?_
   refine wv (vl 5 4 Qax) ?_
   refine wv (fun W hm => Qad (cs := K7) Qaj Qbe rfl rfl (hm.boxCells (n := 0) rfl)) ?_
   refine Qde (cs := K7) Qax Qbe rfl (by decide) (by decide) rfl (by kernel_rfl) (Qk rfl) (by decide) (fun p134 => ?_)
   let J24 : List It := [iS Qa 3 A52 c53 x0.Order, I16, Qh p42 39 K1, Qh p41 39 K5]
   refine ap1 Qah 61 (.slice A65 d64.length c66) d64 (⟨((gt x0.Active k61).Query), (gt x0.Active k61).Time, (gt x0.Active k61).Todo, (gt x0.Active k61).Age, (gt x0.Active k61).Sent, (gt x0.Active k61).Cap, ((gt x0.Active k61).Rows)⟩ : Qw) [I17, I18, I19, iS Qap 70 A130 c131 ((gt x0.Active k61).Rows)] (Qh p110 61 K7 :: Qh p56 39 K4 :: J24) K7 (pk [0, 11, 4, 5, 3, 2, 1, 6, 7, 8, 9, 10]) (fun _ _ hs => Els.single (Qho (x := (⟨((gt x0.Active k61).Query), (gt x0.Active k61).Time, (gt x0.Active k61).Todo, (gt x0.Active k61).Age, (gt x0.Active k61).Sent, (gt x0.Active k61).Cap, ((gt x0.Active k61).Rows)⟩ : Qw)) hs)) Qax Qbe (show (d64.length + 1) * 144 ≤ 140737488355328 from by omega) (fun v135 => ?_)
   refine fm 0 ?_
   rintro A136 c137 rfl m138
   refine wv (vf Qz rfl Qcw) ?_
   refine sb 4 [.slice A45 x0.Store.Segments.length c46, iV x0.Store.Now, iV x0.Cursor, .slice A52 x0.Order.length c53, .slice A136 (Qsx x0 k61 d64).length c137, .slice none 0 0, .slice none 0 0, iV x0.Steps] (iS Qah 61 A136 c137 (Qsx x0 k61 d64) :: Qh p110 61 K7 :: J24) (pk [2, 0, 1, 3, 4, 5, 6]) Qcw ?_
   refine Qac (Qam (Qd (Qy (wm ?_))))
   refine wv (Qal k61 1 (by omega)) ?_
   refine wa (Qac ?_)
   exact Qan (k61 + 1, (Qsx x0 k61 d64), (A136, c137)) sl4 (pk [0, 3, 4, 5, 6, 1]) ⟨(by omega), nx hF68 (rfl), (show (Qsx x0 k61 d64).length ≤ 0 + (k61 + 1) from by first | omega | (simp only [List.length_append, List.length_cons, List.length_nil] at *; omega))⟩ rl
  refine Qm rfl g72 ?_
  refine Qay (Qu (Qu ?_))
  have hE141 := Qbh hl71 hF68
  refine Qaz (Qd (Qe (sr (wa (nt' (Qx ?_))))))
  refine Qdw (fun W hm => (hm.addNil (E := Qas) (e := 80)).last) ?_
  refine Qbg (S := (List Qav)) (R := Option Addr × Nat) (fun k (s : (List Qav)) => Qabm x0 k s) x0.Done.length 0 [] (none, 0) (fun s => [(1, bp p41), (2, bp p42), (3, bp p56), (6, nI s.1)]) (fun s => [Qh p56 39 [.slice A45 x0.Store.Segments.length c46, iV x0.Store.Now, iV x0.Cursor, .slice A52 x0.Order.length c53, .slice A65 d64.length c66, .slice s.2.2.1 s.2.1.length s.2.2.2, .slice none 0 0, iV x0.Steps], iS Qa 3 A52 c53 x0.Order, I16, Qh p42 39 K1, Qh p41 39 K2, iS Qah 61 A65 c66 d64, iS Qas 80 s.2.2.1 s.2.2.2 s.2.1]) (fun s => s.2.1.length ≤ 0 + s.1) sl4 (Nat.le_refl _) ?_
  rintro ⟨k142, d145, ⟨A146, c147⟩⟩ H150 _ _ e e'
  dsimp only at H150 ⊢
  subst e e'
  obtain ⟨hk148, hF149, hi151⟩ := H150
  refine Qe (sr (wm ?_))
  refine wv (vf Qz rfl Qek) ?_
  refine wv (vl 4 5 Qch) ?_
  refine wv (Qag Qch) ?_
  refine wv Qai ?_
  refine nt' ?_
  rcases dcl k142 x0.Done.length with ⟨hl152, g153⟩ | ⟨hl152, g153⟩
  ·
   refine Ql rfl g153 ?_
   refine Qp (Qd (Qe (Qx (sr ?_))))
   refine wv (vf Qz rfl Qek) ?_
   refine wv (vl 4 5 Qch) ?_
   refine wm ?_
   obtain ⟨a154, rfl, hb155, he156⟩ := q29 (by omega)
   refine wv (vix 7 k142 Qch Qcq) ?_
   obtain ⟨_, e164, hc157⟩ := he156 k142 _ (Qbs (show k142 < x0.Done.length from by omega))
   obtain ⟨v158, v160, v162, rfl, r159, r161, r163⟩ := Qlz e164
   have l165 := (s_0.2.2.2.1.2 _ (Qak (show k142 < x0.Done.length from by omega))).1.1
   have l166 := (s_0.2.2.2.1.2 _ (Qak (show k142 < x0.Done.length from by omega))).1.2
   have l167 := (s_0.2.2.2.1.2 _ (Qak (show k142 < x0.Done.length from by omega))).2.1
   obtain ⟨m168, A169, c170, rfl, q171, r172⟩ := Qi r159
   obtain ⟨m173, A174, c175, rfl, q176, r177⟩ := Qi r161
   obtain ⟨m178, A179, c180, rfl, q181, r182⟩ := Qi r163
   let K8 : List Value := [iV ((gt x0.Done k142).Query.Id), iV ((gt x0.Done k142).Query.Tenant), .slice A169 ((gt x0.Done k142).Query.Conds).length c170, .slice A174 ((gt x0.Done k142).Query.Out).length c175, iV ((gt x0.Done k142).Time), iV ((gt x0.Done k142).Steps), .slice A179 ((gt x0.Done k142).Rows).length c180]
   refine wv (fun W hm => Qad (cs := K8) Qda Qcq rfl rfl (hm.elCells (show (a154.add (k142 * 7)).block < w.heap.size from by rw [Qae]; exact hb155.1) hc157)) ?_
   refine Qbm Qcq rfl (Qk rfl) (by decide) (fun p183 => ?_)
   let K9 : List Value := [.slice A45 x0.Store.Segments.length c46, iV x0.Store.Now, iV x0.Cursor, .slice A52 x0.Order.length c53, .slice A65 d64.length c66, .slice A146 d145.length c147, .slice none 0 0, iV x0.Steps]
   let K10 : List Value := [.slice A12 x0.Store.Segments.length c13, iV x0.Store.Now, iV x0.Cursor, .slice A17 x0.Order.length c18, .slice A22 x0.Active.length c23, .slice (some a154) x0.Done.length c28, .slice A32 x0.Ledger.length c33, iV x0.Steps]
   let J25 : List It := [Qh p56 39 K9, iS Qa 3 A52 c53 x0.Order, I16, Qh p42 39 K1, Qh p41 39 K10, iS Qah 61 A65 c66 d64, iS Qas 80 A146 c147 d145]
   refine sb 0 K8 J25 idM Qcq ?_
   refine nt' (sr ?_)
   refine wv (vf Qda rfl Qbj) ?_
   refine wv (fun W hm => Qad (cs := [iV ((gt x0.Done k142).Query.Id), iV ((gt x0.Done k142).Query.Tenant), .slice A169 ((gt x0.Done k142).Query.Conds).length c170, .slice A174 ((gt x0.Done k142).Query.Out).length c175]) Qbq Qbj rfl rfl (hm.boxPart (n := 0) rfl rfl)) ?_
   refine wcs Qcm ((gt x0.Done k142).Query) (Qr Qxl rfl) (fun W hm => Qabg W _ ((gt x0.Done k142).Query) (Qhg (x := ((gt x0.Done k142).Query)) (hm.rdS0 r172) (hm.rdS0 r177)) (s_0.2.2.2.1.2 _ (Qak (show k142 < x0.Done.length from by omega))).1) (fun z184 => ?_)
   refine Qpf ?_
   rintro ⟨v185, v186⟩ rfl
   refine fm 0 ?_
   rintro A187 c188 rfl m189
   refine fm 1 ?_
   rintro A191 c192 rfl m193
   refine wv (vf Qda rfl Qbj) ?_
   let I20 : It := iS Qbl 180 A187 c188 (((gt x0.Done k142).Query).Conds)
   let I21 : It := iS Qa 3 A191 c192 (((gt x0.Done k142).Query).Out)
   refine sb 0 [iV (((gt x0.Done k142).Query).Id), iV (((gt x0.Done k142).Query).Tenant), .slice A187 (((gt x0.Done k142).Query).Conds).length c188, .slice A191 (((gt x0.Done k142).Query).Out).length c192, iV ((gt x0.Done k142).Time), iV ((gt x0.Done k142).Steps), .slice A179 ((gt x0.Done k142).Rows).length c180] (I20 :: I21 :: J25) (pk [2, 0, 1, 3, 4, 5, 6, 7, 8, 9]) Qbj ?_
   refine nt' (sr ?_)
   refine wv (vf Qda rfl Qdt) ?_
   refine wv (vl 0 6 Qci) ?_
   refine wcl (tSl Qap 70) ((gt x0.Done k142).Rows) (Qr Qadk rfl) (fun W hm => Qail W _ ((gt x0.Done k142).Rows) (hm.rdS0 r182) (s_0.2.2.2.1.2 _ (Qak (show k142 < x0.Done.length from by omega))).2) (fun z195 => ?_)
   refine fm 0 ?_
   rintro A196 c197 rfl m198
   refine wv (vf Qda rfl Qdt) ?_
   let K11 : List Value := [iV (((gt x0.Done k142).Query).Id), iV (((gt x0.Done k142).Query).Tenant), .slice A187 (((gt x0.Done k142).Query).Conds).length c188, .slice A191 (((gt x0.Done k142).Query).Out).length c192, iV ((gt x0.Done k142).Time), iV ((gt x0.Done k142).Steps), .slice A196 ((gt x0.Done k142).Rows).length c197]
   refine sb 6 K11 (iS Qap 70 A196 c197 ((gt x0.Done k142).Rows) :: I20 :: I21 :: J25) (pk [1, 0, 2, 3, 4, 5, 6, 7, 8, 9, 10]) Qdt ?_
   refine nt' (Qy ?_)
   refine wv (vf Qz rfl Qek) ?_
   refine wv (vl 4 5 Qch) ?_
   refine wv (fun W hm => Qad (cs := K11) Qda Qcq rfl rfl (hm.boxCells (n := 0) rfl)) ?_
   refine Qde (cs := K11) Qch Qcq rfl (by decide) (by decide) rfl (by kernel_rfl) (Qk rfl) (by decide) (fun p200 => ?_)
   let J26 : List It := [iS Qa 3 A52 c53 x0.Order, I16, Qh p42 39 K1, Qh p41 39 K10, iS Qah 61 A65 c66 d64]
   refine ap1 Qas 80 (.slice A146 d145.length c147) d145 (⟨((gt x0.Done k142).Query), (gt x0.Done k142).Time, (gt x0.Done k142).Steps, ((gt x0.Done k142).Rows)⟩ : Qav) [I20, I21, iS Qap 70 A196 c197 ((gt x0.Done k142).Rows)] (Qh p183 80 K11 :: Qh p56 39 K9 :: J26) K11 (pk [0, 11, 3, 4, 2, 1, 5, 6, 7, 8, 9, 10]) (fun _ _ hs => Els.single (Qly (x := (⟨((gt x0.Done k142).Query), (gt x0.Done k142).Time, (gt x0.Done k142).Steps, ((gt x0.Done k142).Rows)⟩ : Qav)) hs)) Qch Qcq (show (d145.length + 1) * 104 ≤ 140737488355328 from by omega) (fun v201 => ?_)
   refine fm 0 ?_
   rintro A202 c203 rfl m204
   refine wv (vf Qz rfl Qek) ?_
   refine sb 5 [.slice A45 x0.Store.Segments.length c46, iV x0.Store.Now, iV x0.Cursor, .slice A52 x0.Order.length c53, .slice A65 d64.length c66, .slice A202 (d145 ++ [(⟨((gt x0.Done k142).Query), (gt x0.Done k142).Time, (gt x0.Done k142).Steps, ((gt x0.Done k142).Rows)⟩ : Qav)]).length c203, .slice none 0 0, iV x0.Steps] (iS Qas 80 A202 c203 (d145 ++ [(⟨((gt x0.Done k142).Query), (gt x0.Done k142).Time, (gt x0.Done k142).Steps, ((gt x0.Done k142).Rows)⟩ : Qav)]) :: Qh p183 80 K11 :: J26) (pk [2, 0, 1, 3, 4, 5, 6, 7]) Qek ?_
   refine Qac (Qam (Qd (Qy (wm ?_))))
   refine wv (Qal k142 1 (by omega)) ?_
   refine wa (Qac ?_)
   exact Qan (k142 + 1, (d145 ++ [(⟨((gt x0.Done k142).Query), (gt x0.Done k142).Time, (gt x0.Done k142).Steps, ((gt x0.Done k142).Rows)⟩ : Qav)]), (A202, c203)) sl4 (pk [0, 3, 4, 5, 6, 7, 1]) ⟨(by omega), nx hF149 (rfl), (show (d145 ++ [(⟨((gt x0.Done k142).Query), (gt x0.Done k142).Time, (gt x0.Done k142).Steps, ((gt x0.Done k142).Rows)⟩ : Qav)]).length ≤ 0 + (k142 + 1) from by first | omega | (simp only [List.length_append, List.length_cons, List.length_nil] at *; omega))⟩ rl
  refine Qm rfl g153 ?_
  refine Qay (Qu (Qu ?_))
  have hE207 := Qbh hl152 hF149
  refine Qaz (Qd (Qe (sr (wa (nt' (Qx ?_))))))
  refine Qdw (fun W hm => (hm.addNil (E := Qaq) (e := 102)).last) ?_
  refine Qbg (S := (List Qbc)) (R := Option Addr × Nat) (fun k (s : (List Qbc)) => Qabn x0 k s) x0.Ledger.length 0 [] (none, 0) (fun s => [(1, bp p41), (2, bp p42), (3, bp p56), (8, nI s.1)]) (fun s => [Qh p56 39 [.slice A45 x0.Store.Segments.length c46, iV x0.Store.Now, iV x0.Cursor, .slice A52 x0.Order.length c53, .slice A65 d64.length c66, .slice A146 d145.length c147, .slice s.2.2.1 s.2.1.length s.2.2.2, iV x0.Steps], iS Qa 3 A52 c53 x0.Order, I16, Qh p42 39 K1, Qh p41 39 K2, iS Qah 61 A65 c66 d64, iS Qas 80 A146 c147 d145, iS Qaq 102 s.2.2.1 s.2.2.2 s.2.1]) (fun s => s.2.1.length ≤ 0 + s.1) sl4 (Nat.le_refl _) ?_
  rintro ⟨k208, d211, ⟨A212, c213⟩⟩ H216 _ _ e e'
  dsimp only at H216 ⊢
  subst e e'
  obtain ⟨hk214, hF215, hi217⟩ := H216
  refine Qe (sr (wm ?_))
  refine wv (vf Qz rfl Qfg) ?_
  refine wv (vl 4 6 Qcx) ?_
  refine wv (Qag Qcx) ?_
  refine wv Qai ?_
  refine nt' ?_
  rcases dcl k208 x0.Ledger.length with ⟨hl218, g219⟩ | ⟨hl218, g219⟩
  ·
   refine Ql rfl g219 ?_
   refine Qp (Qd (Qe (Qx ?_)))
   let K12 : List Value := [.slice A45 x0.Store.Segments.length c46, iV x0.Store.Now, iV x0.Cursor, .slice A52 x0.Order.length c53, .slice A65 d64.length c66, .slice A146 d145.length c147, .slice A212 d211.length c213, iV x0.Steps]
   let J27 : List It := [iS Qah 61 A65 c66 d64, iS Qas 80 A146 c147 d145]
   refine rd2 12 [11] (s := (iS Qa 3 A52 c53 x0.Order :: I16 :: Qh p42 39 K1 :: J27)) (s2 := (Qh p56 39 K12 :: iS Qa 3 A52 c53 x0.Order :: I16 :: Qh p42 39 K1 :: Qh p41 39 K2 :: J27)) (pk [1, 2, 3, 5, 6]) (pk [0, 1, 2, 3, 4, 5, 6]) ?_
   refine qtD 12 0 1 rfl (vf Qz rfl Qfg) ?_
   refine qtD 12 1 3 rfl (vl 0 6 Qcx) ?_
   refine qtD 12 2 7 rfl (vf Qz rfl Qfg) ?_
   refine qtD 12 3 15 rfl (vl 4 6 Qcx) ?_
   refine qtD 12 4 31 rfl vmv ?_
   obtain ⟨a220, rfl, hb221, he222⟩ := q34 (by omega)
   refine qtD 12 5 63 rfl (vix 5 k208 Qcx Qcs) ?_
   obtain ⟨_, e230, hc223⟩ := he222 k208 _ (Qbs (show k208 < x0.Ledger.length from by omega))
   obtain ⟨v224, v226, v228, rfl, r225, r227, r229⟩ := Qjn e230
   have l231 := (s_0.2.2.2.2.2 _ (Qak (show k208 < x0.Ledger.length from by omega))).1
   have l232 := (s_0.2.2.2.2.2 _ (Qak (show k208 < x0.Ledger.length from by omega))).2.1
   have l233 := (s_0.2.2.2.2.2 _ (Qak (show k208 < x0.Ledger.length from by omega))).2.2
   obtain ⟨m234, A235, c236, rfl, q237, r238⟩ := Qi r225
   obtain ⟨m239, A240, c241, rfl, q242, r243⟩ := Qi r227
   obtain ⟨m244, A245, c246, rfl, q247, r248⟩ := Qi r229
   refine qtD 12 6 127 rfl (fun W hm => Qad (cs := [iV ((gt x0.Ledger k208).Segment), iV ((gt x0.Ledger k208).Base), .slice A235 ((gt x0.Ledger k208).Ids).length c236, .slice A240 ((gt x0.Ledger k208).Tenants).length c241, .slice A245 ((gt x0.Ledger k208).Rows).length c246]) Qby Qcs rfl rfl (hm.elCells (show (a220.add (k208 * 5)).block < w.heap.size from by rw [Qae]; exact hb221.1) hc223)) ?_
   refine qoD 12 7 255 rfl ?_
   refine wcs Qaq (gt x0.Ledger k208) (Qr Qano rfl) (fun W hm => Qbbi W _ (gt x0.Ledger k208) (Qrc (x := (gt x0.Ledger k208)) (hm.rdS0 r238) (hm.rdS0 r243) (hm.rdS0 r248)) (s_0.2.2.2.2.2 _ (Qak (show k208 < x0.Ledger.length from by omega)))) (fun z249 => ?_)
   refine Qwc ?_
   rintro ⟨v250, v251, v252⟩ rfl
   refine fm 0 ?_
   rintro A253 c254 rfl m255
   refine fm 1 ?_
   rintro A257 c258 rfl m259
   refine fm 2 ?_
   rintro A261 c262 rfl m263
   refine qnD (pk [4, 5, 6, 8, 9]) (pk [3, 4, 5, 6, 7, 8, 9]) ?_
   refine qoD 12 8 511 rfl ?_
   let K13 : List Value := [iV ((gt x0.Ledger k208).Segment), iV ((gt x0.Ledger k208).Base), .slice A253 ((gt x0.Ledger k208).Ids).length c254, .slice A257 ((gt x0.Ledger k208).Tenants).length c258, .slice A261 ((gt x0.Ledger k208).Rows).length c262]
   refine Qde (cs := K13) Qcx Qcs rfl (by decide) (by decide) rfl (by kernel_rfl) (Qk rfl) (by decide) (fun p265 => ?_)
   refine qnD (pk [5, 6, 7, 9, 10]) (pk [4, 5, 6, 7, 8, 9, 10]) ?_
   refine qoD 12 9 1023 rfl ?_
   let K14 : List Value := [.slice A12 x0.Store.Segments.length c13, iV x0.Store.Now, iV x0.Cursor, .slice A17 x0.Order.length c18, .slice A22 x0.Active.length c23, .slice A27 x0.Done.length c28, .slice (some a220) x0.Ledger.length c33, iV x0.Steps]
   let J28 : List It := iS Qa 3 A52 c53 x0.Order :: I16 :: Qh p42 39 K1 :: Qh p41 39 K14 :: J27
   refine ap1 Qaq 102 (.slice A212 d211.length c213) d211 (gt x0.Ledger k208) [iS Qa 3 A253 c254 ((gt x0.Ledger k208).Ids), iS Qa 3 A257 c258 ((gt x0.Ledger k208).Tenants), iS Qa 3 A261 c262 ((gt x0.Ledger k208).Rows)] (Qh p56 39 K12 :: J28) K13 (pk [0, 11, 1, 2, 3, 4, 5, 6, 7, 8, 9, 10]) (fun _ _ hs => Els.single (Qmt (x := (gt x0.Ledger k208)) hs)) Qcx Qcs (show (d211.length + 1) * 88 ≤ 140737488355328 from by omega) (fun v266 => ?_)
   refine fm 0 ?_
   rintro A267 c268 rfl m269
   refine qnD (pk [2, 3, 4, 6, 7]) (pk [1, 2, 3, 4, 5, 6, 7]) ?_
   refine qtD 12 10 2047 rfl (vf Qz rfl Qfg) ?_
   refine qoD 12 11 4095 rfl ?_
   refine sb 6 [.slice A45 x0.Store.Segments.length c46, iV x0.Store.Now, iV x0.Cursor, .slice A52 x0.Order.length c53, .slice A65 d64.length c66, .slice A146 d145.length c147, .slice A267 (d211 ++ [(gt x0.Ledger k208)]).length c268, iV x0.Steps] (iS Qaq 102 A267 c268 (d211 ++ [(gt x0.Ledger k208)]) :: J28) (pk [1, 0, 2, 3, 4, 5, 6, 7]) Qfg ?_
   refine qxD (pk [2, 3, 4, 6, 7]) ?_
   refine Qed (by kernel_rfl) ?_
   refine Qam (Qd (Qy (wm ?_)))
   refine wv (Qal k208 1 (by omega)) ?_
   refine wa (Qac ?_)
   exact Qan (k208 + 1, (d211 ++ [(gt x0.Ledger k208)]), (A267, c268)) sl4 (pk [0, 2, 3, 4, 5, 6, 7, 1]) ⟨(by omega), nx hF215 (rfl), (show (d211 ++ [(gt x0.Ledger k208)]).length ≤ 0 + (k208 + 1) from by first | omega | (simp only [List.length_append, List.length_cons, List.length_nil] at *; omega))⟩ rl
  refine Qm rfl g219 ?_
  refine Qay (Qu (Qu ?_))
  have hE272 := Qbh hl218 hF215
  refine Qaz (Qd (sr ?_))
  let K15 : List Value := [.slice A45 x0.Store.Segments.length c46, iV x0.Store.Now, iV x0.Cursor, .slice A52 x0.Order.length c53, .slice A65 d64.length c66, .slice A146 d145.length c147, .slice A212 d211.length c213, iV x0.Steps]
  refine wv (fun W hm => Qad (cs := K15) Qz Qbd rfl rfl (hm.boxCells (n := 0) rfl)) ?_
  let J29 : List It := [iS Qah 61 A65 c66 d64, iS Qas 80 A146 c147 d145, iS Qaq 102 A212 c213 d211]
  refine sb 0 K15 (Qh p56 39 K15 :: iS Qa 3 A52 c53 x0.Order :: I16 :: Qh p41 39 K2 :: J29) (pk [3, 0, 1, 2, 4, 5, 6, 7]) Qbd ?_
  refine nt' (Qj ?_)
  have he273 := (show Qvx x0 = (⟨x0.Store, x0.Cursor, x0.Order, d64, d145, d211, x0.Steps⟩ : Qo) from Qar hE141 (Qar hE207 (Qar hE272 (rfl))))
  refine Qcu rfl (Qdp (n := 0) rfl rfl Qz Qbd rfl) (fun W hm => ⟨K15, ?_, ?_⟩)
  ·first | rw [he273] | rfl
  rw [he273]; exact Mem.join (is := (I16 :: iS Qa 3 A52 c53 x0.Order :: J29)) (js := []) (fun _ _ hs => Qfk (x := (⟨x0.Store, x0.Cursor, x0.Order, d64, d145, d211, x0.Steps⟩ : Qo)) hs) (hm.pick [3, 2, 5, 6, 7] (by decide))
 refine qtD 14 0 1 rfl (vf Qz rfl Qbt) ?_
 refine qtD 14 1 3 rfl (fun W hm => Qad (cs := [.slice A12 x0.Store.Segments.length c13, iV x0.Store.Now]) Qbw Qbt rfl rfl (hm.boxPart (n := 1) rfl rfl)) ?_
 refine qtD 14 3 11 rfl (vf Qz rfl Qf) ?_
 refine qtD 14 4 27 rfl (vl 1 2 Qs) ?_
 refine qtD 14 6 91 rfl (vf Qz rfl Qao) ?_
 refine qtD 14 7 219 rfl (vl 1 3 Qq) ?_
 refine qtD 14 9 731 rfl (vf Qz rfl Qf) ?_
 refine qtD 14 10 1755 rfl (vl 1 7 Qs) ?_
 refine qaD [2, 5, 12] ?_
 refine qcD 14 1759 rfl ?_ ?_
 ·
  refine wcs Qdm x0.Store (Qr Qpx rfl) (fun W hm => Qqx W _ x0.Store (Qgc (x := x0.Store) (hm.rdS0 r15)) s_0.1) (fun z274 => ?_)
  refine Qjt ?_
  rintro v275 rfl
  refine fm 0 ?_
  rintro A276 c277 rfl m278
  refine qnD (pk [1, 2]) (pk [1, 2]) ?_
  refine qaD [5, 12] ?_
  refine qcD 14 1791 rfl ?_ ?_
  ·
   refine Qcf (E := Qa) Qq Qf (Qk rfl) (by decide) (fun p280 => ?_)
   refine qnD (pk [2, 3]) (pk [2, 3]) ?_
   refine qaD [8, 12] ?_
   refine qcD 14 2047 rfl ?_ ?_
   ·
    refine apR Qa Qa 3 (.slice (sA p280) 0 0) [] x0.Order (iS (tSl Qaf 163) 100 A276 c277 x0.Store.Segments :: J22) idM (fun W hm => Qdi Qcv (hm.rdS0 r20)) Qq Qf (show (0 + x0.Order.length) * 8 ≤ 140737488355328 from by omega) (fun v282 => ?_)
    refine fm 0 ?_
    rintro A283 c284 rfl m285
    refine qnD (pk [2, 3]) (pk [2, 3]) ?_
    refine qtD 14 11 4095 rfl (fun W hm => Qef (cs := [.slice A276 x0.Store.Segments.length c277, iV x0.Store.Now, iV x0.Cursor, .slice A283 x0.Order.length c284, .slice none 0 0, .slice none 0 0, .slice none 0 0, iV x0.Steps]) rfl (by kernel_rfl)) ?_
    refine qoD 14 12 8191 rfl ?_
    refine Qbm Qbd rfl (Qk rfl) (by decide) (fun p287 => ?_)
    refine qnD (pk [3, 4]) (pk [3, 4]) ?_
    exact Qel sl4 idM (H (A276, c277, A283, c284, p287))
   refine qcD 14 5887 rfl ?_ ?_
   ·
    refine Qbm Qbd rfl (Qk rfl) (by decide) (fun p288 => ?_)
    refine qnD (pk [3, 4]) (pk [3, 4]) ?_
    refine qoD 14 8 6143 rfl ?_
    refine apR Qa Qa 3 (.slice (sA p280) 0 0) [] x0.Order (Qh p288 39 K1 :: iS (tSl Qaf 163) 100 A276 c277 x0.Store.Segments :: J22) (pk [1, 0, 2, 3, 4]) (fun W hm => Qdi Qcv (hm.rdS0 r20)) Qq Qf (show (0 + x0.Order.length) * 8 ≤ 140737488355328 from by omega) (fun v289 => ?_)
    refine fm 0 ?_
    rintro A290 c291 rfl m292
    refine qnD (pk [3, 4]) (pk [3, 4]) ?_
    refine qtD 14 11 8191 rfl (fun W hm => Qef (cs := [.slice A276 x0.Store.Segments.length c277, iV x0.Store.Now, iV x0.Cursor, .slice A290 x0.Order.length c291, .slice none 0 0, .slice none 0 0, .slice none 0 0, iV x0.Steps]) rfl (by kernel_rfl)) ?_
    exact Qel sl4 (pk [1, 0, 2, 3, 4]) (H (A276, c277, A290, c291, p288))
   exact Qfm
  refine qcD 14 5855 rfl ?_ ?_
  ·
   refine Qbm Qbd rfl (Qk rfl) (by decide) (fun p294 => ?_)
   refine qnD (pk [2, 3]) (pk [2, 3]) ?_
   refine qoD 14 5 5887 rfl ?_
   refine Qcf (E := Qa) Qq Qf (Qk rfl) (by decide) (fun p295 => ?_)
   refine qnD (pk [3, 4]) (pk [3, 4]) ?_
   refine qoD 14 8 6143 rfl ?_
   refine apR Qa Qa 3 (.slice (sA p295) 0 0) [] x0.Order (Qh p294 39 K1 :: iS (tSl Qaf 163) 100 A276 c277 x0.Store.Segments :: J22) idM (fun W hm => Qdi Qcv (hm.rdS0 r20)) Qq Qf (show (0 + x0.Order.length) * 8 ≤ 140737488355328 from by omega) (fun v297 => ?_)
   refine fm 0 ?_
   rintro A298 c299 rfl m300
   refine qnD (pk [3, 4]) (pk [3, 4]) ?_
   refine qtD 14 11 8191 rfl (fun W hm => Qef (cs := [.slice A276 x0.Store.Segments.length c277, iV x0.Store.Now, iV x0.Cursor, .slice A298 x0.Order.length c299, .slice none 0 0, .slice none 0 0, .slice none 0 0, iV x0.Steps]) rfl (by kernel_rfl)) ?_
   exact Qel sl4 (pk [1, 0, 2, 3, 4]) (H (A276, c277, A298, c299, p294))
  exact Qfm
 refine qcD 14 1787 rfl ?_ ?_
 ·
  refine Qcf (E := Qa) Qq Qf (Qk rfl) (by decide) (fun p302 => ?_)
  refine qnD (pk [1, 2]) (pk [1, 2]) ?_
  refine qaD [2, 12] ?_
  refine qcD 14 1791 rfl ?_ ?_
  ·
   refine wcs Qdm x0.Store (Qr Qpx rfl) (fun W hm => Qqx W _ x0.Store (Qgc (x := x0.Store) (hm.rdS0 r15)) s_0.1) (fun z304 => ?_)
   refine Qjt ?_
   rintro v305 rfl
   refine fm 0 ?_
   rintro A306 c307 rfl m308
   refine qnD (pk [2, 3]) (pk [2, 3]) ?_
   refine qaD [8, 12] ?_
   refine qcD 14 2047 rfl ?_ ?_
   ·
    refine apR Qa Qa 3 (.slice (sA p302) 0 0) [] x0.Order (iS (tSl Qaf 163) 100 A306 c307 x0.Store.Segments :: J22) (pk [1, 0, 2, 3]) (fun W hm => Qdi Qcv (hm.rdS0 r20)) Qq Qf (show (0 + x0.Order.length) * 8 ≤ 140737488355328 from by omega) (fun v310 => ?_)
    refine fm 0 ?_
    rintro A311 c312 rfl m313
    refine qnD (pk [2, 3]) (pk [2, 3]) ?_
    refine qtD 14 11 4095 rfl (fun W hm => Qef (cs := [.slice A306 x0.Store.Segments.length c307, iV x0.Store.Now, iV x0.Cursor, .slice A311 x0.Order.length c312, .slice none 0 0, .slice none 0 0, .slice none 0 0, iV x0.Steps]) rfl (by kernel_rfl)) ?_
    refine qoD 14 12 8191 rfl ?_
    refine Qbm Qbd rfl (Qk rfl) (by decide) (fun p315 => ?_)
    refine qnD (pk [3, 4]) (pk [3, 4]) ?_
    exact Qel sl4 idM (H (A306, c307, A311, c312, p315))
   refine qcD 14 5887 rfl ?_ ?_
   ·
    refine Qbm Qbd rfl (Qk rfl) (by decide) (fun p316 => ?_)
    refine qnD (pk [3, 4]) (pk [3, 4]) ?_
    refine qoD 14 8 6143 rfl ?_
    refine apR Qa Qa 3 (.slice (sA p302) 0 0) [] x0.Order (Qh p316 39 K1 :: iS (tSl Qaf 163) 100 A306 c307 x0.Store.Segments :: J22) (pk [2, 0, 1, 3, 4]) (fun W hm => Qdi Qcv (hm.rdS0 r20)) Qq Qf (show (0 + x0.Order.length) * 8 ≤ 140737488355328 from by omega) (fun v317 => ?_)
    refine fm 0 ?_
    rintro A318 c319 rfl m320
    refine qnD (pk [3, 4]) (pk [3, 4]) ?_
    refine qtD 14 11 8191 rfl (fun W hm => Qef (cs := [.slice A306 x0.Store.Segments.length c307, iV x0.Store.Now, iV x0.Cursor, .slice A318 x0.Order.length c319, .slice none 0 0, .slice none 0 0, .slice none 0 0, iV x0.Steps]) rfl (by kernel_rfl)) ?_
    exact Qel sl4 (pk [1, 0, 2, 3, 4]) (H (A306, c307, A318, c319, p316))
   exact Qfm
  refine qcD 14 5883 rfl ?_ ?_
  ·
   refine Qbm Qbd rfl (Qk rfl) (by decide) (fun p322 => ?_)
   refine qnD (pk [2, 3]) (pk [2, 3]) ?_
   refine qoD 14 2 5887 rfl ?_
   refine wcs Qdm x0.Store (Qr Qpx rfl) (fun W hm => Qqx W _ x0.Store (Qgc (x := x0.Store) (hm.rdS0 r15)) s_0.1) (fun z323 => ?_)
   refine Qjt ?_
   rintro v324 rfl
   refine fm 0 ?_
   rintro A325 c326 rfl m327
   refine qnD (pk [3, 4]) (pk [3, 4]) ?_
   refine qoD 14 8 6143 rfl ?_
   refine apR Qa Qa 3 (.slice (sA p302) 0 0) [] x0.Order (iS (tSl Qaf 163) 100 A325 c326 x0.Store.Segments :: Qh p322 39 K1 :: J22) (pk [2, 0, 1, 3, 4]) (fun W hm => Qdi Qcv (hm.rdS0 r20)) Qq Qf (show (0 + x0.Order.length) * 8 ≤ 140737488355328 from by omega) (fun v329 => ?_)
   refine fm 0 ?_
   rintro A330 c331 rfl m332
   refine qnD (pk [3, 4]) (pk [3, 4]) ?_
   refine qtD 14 11 8191 rfl (fun W hm => Qef (cs := [.slice A325 x0.Store.Segments.length c326, iV x0.Store.Now, iV x0.Cursor, .slice A330 x0.Order.length c331, .slice none 0 0, .slice none 0 0, .slice none 0 0, iV x0.Steps]) rfl (by kernel_rfl)) ?_
   exact Qel sl4 (pk [2, 0, 1, 3, 4]) (H (A325, c326, A330, c331, p322))
  exact Qfm
 refine qcD 14 5851 rfl ?_ ?_
 ·
  refine Qbm Qbd rfl (Qk rfl) (by decide) (fun p334 => ?_)
  refine qnD (pk [1, 2]) (pk [1, 2]) ?_
  refine qaD [2, 5] ?_
  refine qcD 14 5855 rfl ?_ ?_
  ·
   refine wcs Qdm x0.Store (Qr Qpx rfl) (fun W hm => Qqx W _ x0.Store (Qgc (x := x0.Store) (hm.rdS0 r15)) s_0.1) (fun z335 => ?_)
   refine Qjt ?_
   rintro v336 rfl
   refine fm 0 ?_
   rintro A337 c338 rfl m339
   refine qnD (pk [2, 3]) (pk [2, 3]) ?_
   refine qoD 14 5 5887 rfl ?_
   refine Qcf (E := Qa) Qq Qf (Qk rfl) (by decide) (fun p341 => ?_)
   refine qnD (pk [3, 4]) (pk [3, 4]) ?_
   refine qoD 14 8 6143 rfl ?_
   refine apR Qa Qa 3 (.slice (sA p341) 0 0) [] x0.Order (iS (tSl Qaf 163) 100 A337 c338 x0.Store.Segments :: Qh p334 39 K1 :: J22) idM (fun W hm => Qdi Qcv (hm.rdS0 r20)) Qq Qf (show (0 + x0.Order.length) * 8 ≤ 140737488355328 from by omega) (fun v343 => ?_)
   refine fm 0 ?_
   rintro A344 c345 rfl m346
   refine qnD (pk [3, 4]) (pk [3, 4]) ?_
   refine qtD 14 11 8191 rfl (fun W hm => Qef (cs := [.slice A337 x0.Store.Segments.length c338, iV x0.Store.Now, iV x0.Cursor, .slice A344 x0.Order.length c345, .slice none 0 0, .slice none 0 0, .slice none 0 0, iV x0.Steps]) rfl (by kernel_rfl)) ?_
   exact Qel sl4 (pk [2, 0, 1, 3, 4]) (H (A337, c338, A344, c345, p334))
  refine qcD 14 5883 rfl ?_ ?_
  ·
   refine Qcf (E := Qa) Qq Qf (Qk rfl) (by decide) (fun p348 => ?_)
   refine qnD (pk [2, 3]) (pk [2, 3]) ?_
   refine qoD 14 2 5887 rfl ?_
   refine wcs Qdm x0.Store (Qr Qpx rfl) (fun W hm => Qqx W _ x0.Store (Qgc (x := x0.Store) (hm.rdS0 r15)) s_0.1) (fun z350 => ?_)
   refine Qjt ?_
   rintro v351 rfl
   refine fm 0 ?_
   rintro A352 c353 rfl m354
   refine qnD (pk [3, 4]) (pk [3, 4]) ?_
   refine qoD 14 8 6143 rfl ?_
   refine apR Qa Qa 3 (.slice (sA p348) 0 0) [] x0.Order (iS (tSl Qaf 163) 100 A352 c353 x0.Store.Segments :: Qh p334 39 K1 :: J22) (pk [1, 0, 2, 3, 4]) (fun W hm => Qdi Qcv (hm.rdS0 r20)) Qq Qf (show (0 + x0.Order.length) * 8 ≤ 140737488355328 from by omega) (fun v356 => ?_)
   refine fm 0 ?_
   rintro A357 c358 rfl m359
   refine qnD (pk [3, 4]) (pk [3, 4]) ?_
   refine qtD 14 11 8191 rfl (fun W hm => Qef (cs := [.slice A352 x0.Store.Segments.length c353, iV x0.Store.Now, iV x0.Cursor, .slice A357 x0.Order.length c358, .slice none 0 0, .slice none 0 0, .slice none 0 0, iV x0.Steps]) rfl (by kernel_rfl)) ?_
   exact Qel sl4 (pk [2, 0, 1, 3, 4]) (H (A352, c353, A357, c358, p334))
  exact Qfm
 exact Qfm
theorem Qbcm (x0 : Qo) : Qvx x0 = x0 := by
 unfold Qvx; rw [Qjc (xs := x0.Active) (b := fun k s => Qabl x0 k s) (fun _ _ => rfl), Qjc (xs := x0.Done) (b := fun k s => Qabm x0 k s) (fun _ _ => rfl), Qjc (xs := x0.Ledger) (b := fun k s => Qabn x0 k s) (fun _ _ => rfl)]; rfl
theorem Qaij (w : World) (z0 : List Value) (x0 : Qo) (r_0 : Qcb.rd w w.heap.size z0 x0) (s_0 : Qen 68719476736 x0) :
  Calls Tryz.prog 61 #[.agg z0.toArray] w (rO w Qcb x0) := by
 have h := Qbcl w z0 x0 r_0 s_0
 rw [Qbcm] at h
 exact h

def Qbk (x0 : Int) (x1 : Int) (x2 : Int) : Bool :=
 cond (decide (x1 ≤ x0)) (decide (x0 ≤ x2)) false
theorem Qeh : Cb Tryz.prog 111 := ⟨f111, _, func111, rfl, by decide⟩
theorem Qej (w : World) (x0 : Int) (x1 : Int) (x2 : Int) :
  Calls Tryz.prog 111 #[iV x0, iV x1, iV x2] w (rB w (Qbk x0 x1 x2)) := by
 refine ce3 (L := [(0, iV x0), (1, iV x1), (2, iV x2)]) (N := 15) func111 ?_
 refine sr (wa (nt' (sr (wm (wm ?_)))))
 refine wv (fun W hm => Qlu rfl rfl) ?_
 refine wm ?_
 rcases dcd (x1 ≤ x0) with ⟨h1, g2⟩ | ⟨h1, g2⟩
 ·
  refine wg vmv g2 ?_
  refine wg vmv g2 ?_
  refine wg (fun W hm => Qgw rfl rfl) g2 ?_
  refine wv (vpT g2) ?_
  refine wa (nt' (Qj ?_))
  exact rtb (h := Qb g2 (rfl))
 refine ws g2 ?_
 refine ws g2 ?_
 refine ws g2 ?_
 refine wv (vpF g2) ?_
 refine wa (nt' (Qj ?_))
 exact rtb (h := Qc g2 (rfl))

theorem Qeo {x a b : Int} (h : Qbk x a b = true) : a ≤ x ∧ x ≤ b := by
  unfold Qbk at h
  by_cases h1 : a ≤ x
  · rw [decide_eq_true h1] at h
    exact ⟨h1, of_decide_eq_true h⟩
  rw [decide_eq_false h1] at h
  cases h
theorem Qft (x a b : Int) : Qbk x a b = decide (a ≤ x ∧ x ≤ b) := by
  unfold Qbk
  by_cases h1 : a ≤ x
  · by_cases h2 : x ≤ b
    · simp [h1, h2]
    simp [h1, h2]
  simp [h1]

def Qabi (x0 : Qau) (k12 : Nat) (d13 : (List Qt)) : (List Qt) ⊕ ((List Qt)) :=
 Sum.inr (d13 ++ (gt x0.Segments k12))
def Qdg (x0 : Qau) : (List Qt) :=
 Sum.elim id (fun (s : (List Qt)) => s) (rng (R := (List Qt)) (fun k (s : (List Qt)) => Qabi x0 k s) (x0.Segments.length - 0) 0 [])
theorem Qaol : Cb Tryz.prog 177 := ⟨f177, _, func177, rfl, by decide⟩
theorem Qbcb (B : Nat) (w0 : World) (is : List It) (w : World) (z0 : List Value) (x0 : Qau) (r_0 : Qdm.rd w0 B z0 x0) (s_0 : Qgh 68719476736 x0) (hq : (x0.Segments.map List.length).sum ≤ 68719476736) (hm : Mem B w0 is w) :
  Calls Tryz.prog 177 #[.agg z0.toArray] w fun e w' => ∃ v : Value, e = .returned (v) ∧ Mem B w0 (Qn (tSl (Qes Qaf w0 B) 163) [v] (Qdg x0) :: is) w' := by
 obtain ⟨v1, rfl, r2⟩ := Qjs r_0
 obtain ⟨m3, A4, c5, rfl, q6, r7⟩ := Qi r2
 have l8 : x0.Segments.length ≤ 68719476736 := s_0.1
 refine Qif (L := [(0, .agg #[.slice A4 x0.Segments.length c5, iV x0.Now])]) (N := 21) func177 rfl rfl (Nat.le_of_ble_eq_true rfl) (Qec rfl Qha) hm ?_
 refine sr ?_
 refine Qbn rfl (Qk rfl) (by decide) (fun p9 => ?_)
 refine wa (nt' (sr ?_))
 refine Qcf (E := (Qes Qaf w0 B)) Qbv Qbo (Qk rfl) (by decide) (fun p10 => ?_)
 refine wa (nt' (Qe (sr (wa (nt' (Qx ?_))))))
 refine Qbg (S := (List Qt)) (R := Option Addr × Nat) (fun k (s : (List Qt)) => Qabi x0 k s) x0.Segments.length 0 [] ((sA p10), 0) (fun s => [(1, bp p9), (3, .slice s.2.2.1 s.2.1.length s.2.2.2), (4, nI s.1)]) (fun s => (iS (Qes Qaf w0 B) 163 s.2.2.1 s.2.2.2 s.2.1 :: Qh p9 34 [.slice A4 x0.Segments.length c5, iV x0.Now] :: is)) (fun s => s.2.1.length ≤ ((x0.Segments.take s.1).map List.length).sum) sl3 (Nat.zero_le _) ?_
 rintro ⟨k12, d13, ⟨A14, c15⟩⟩ H18 _ _ e e'
 dsimp only at H18 ⊢
 subst e e'
 obtain ⟨hk16, hF17, hi19⟩ := H18
 refine Qe (sr (wm ?_))
 refine wv (vf Qbw rfl Qea) ?_
 refine wv (vl 1 0 Qbz) ?_
 refine wv (Qag Qbz) ?_
 refine wv Qai ?_
 refine nt' ?_
 rcases dcl k12 x0.Segments.length with ⟨hl20, g21⟩ | ⟨hl20, g21⟩
 ·
  refine Ql rfl g21 ?_
  refine Qp (Qd (Qe (Qx (Qy (wm ?_)))))
  refine wv (vf Qbw rfl Qea) ?_
  refine wv (vl 1 0 Qbz) ?_
  refine wm ?_
  obtain ⟨a22, rfl, hb23, he24⟩ := q6 (by omega)
  refine wv (vix 1 k12 Qbz Qfl) ?_
  obtain ⟨_, e26, hc25⟩ := he24 k12 _ (Qbs (show k12 < x0.Segments.length from by omega))
  have l27 : (gt x0.Segments k12).length ≤ 68719476736 := (s_0.2 _ (Qak (show k12 < x0.Segments.length from by omega))).1
  obtain ⟨v28, rfl, r29⟩ := e26
  obtain ⟨m30, A31, c32, rfl, q33, r34⟩ := Qi r29
  refine wv (fun W hm => Qaw Qbv rfl rfl ((hm.cell0 (show (a22.add (k12 * 1)).block < B from by rw [Qae]; exact hb23.1)).trans (hc25 0 _ rfl))) ?_
  refine apR (Qes Qaf w0 B) Qaf 163 (.slice A14 d13.length c15) d13 (gt x0.Segments k12) (Qh p9 34 [.slice (some a22) x0.Segments.length c5, iV x0.Now] :: is) (fun W hm => (hm.front (n := 0) rfl)) (fun W hm => Qbcr hm r34) Qbv Qbo (show (d13.length + (gt x0.Segments k12).length) * 48 ≤ 140737488355328 from by have h1 := Qtb (w := List.length) (xs := x0.Segments) (j := k12) (by omega); have h2 := Qbct (w := List.length) (xs := x0.Segments) (k12 + 1); omega) (fun v35 => ?_)
  refine fm 0 ?_
  rintro A36 c37 rfl m38
  refine wa (Qac (Qam (Qd (Qy (wm ?_)))))
  refine wv (Qal k12 1 (by omega)) ?_
  refine wa (Qac ?_)
  exact Qan (k12 + 1, (d13 ++ (gt x0.Segments k12)), (A36, c37)) sl3 idM ⟨(by omega), nx hF17 (rfl), (show (d13 ++ (gt x0.Segments k12)).length ≤ ((x0.Segments.take (k12 + 1)).map List.length).sum from by rw [List.length_append, Qtb (by omega)]; omega)⟩ rl
 refine Qm rfl g21 ?_
 refine Qay (Qu (Qu ?_))
 have hE41 := Qbh hl20 hF17
 refine Qaz (Qd (sr (wm (wa (nt' (Qj ?_))))))
 have he42 := (show Qdg x0 = d13 from Qar hE41 (rfl))
 refine Qcu rfl (Qdl rfl) (fun W hm => ⟨.slice A14 d13.length c15, ?_, ?_⟩)
 ·first | rw [he42] | rfl
 rw [he42]; exact ((hm.front (n := 0) rfl).front (n := 1) rfl).tail

def Qaat (x0 : Qab) (k9 : Nat) : Bool ⊕ (Unit) :=
 cond (Qbk (gt x0.Values k9) 0 99) (Sum.inr ()) (Sum.inl false)
def Qgn (x0 : Qab) : Bool :=
 Sum.elim id (fun (s : Unit) => cond (Qbk x0.Id 0 999) (((x0.Values.length : Nat) : Int) == 3) false) (rng (R := Bool) (fun k (_ : Unit) => Qaat x0 k) (x0.Values.length - 0) 0 ())
theorem Qadv : Cb Tryz.prog 181 := ⟨f181, _, func181, rfl, by decide⟩
theorem Qaic (w : World) (z0 : List Value) (x0 : Qab) (r_0 : Qap.rd w w.heap.size z0 x0) :
  Calls Tryz.prog 181 #[.agg z0.toArray] w (rB w (Qgn x0)) := by
 obtain ⟨v1, rfl, r2⟩ := Qin r_0
 obtain ⟨m3, A4, c5, rfl, q6, r7⟩ := Qi r2
 refine ce1 (L := [(0, .agg #[iV x0.Id, .slice A4 x0.Values.length c5])]) (N := 27) func181 ?_
 refine sr ?_
 refine Qbn rfl (Qk rfl) (by decide) (fun p8 => ?_)
 refine wa (nt' (Qe (sr (wa (nt' (Qx ?_))))))
 refine Qbg (S := Unit) (R := Unit) (fun k (_ : Unit) => Qaat x0 k) x0.Values.length 0 () () (fun s => [(1, bp p8), (3, nI s.1)]) (fun s => [Qh p8 70 [iV x0.Id, .slice A4 x0.Values.length c5]]) (fun s => True) sl2 trivial ?_
 rintro ⟨k9, ⟨⟩, ⟨⟩⟩ H12 _ _ e e'
 dsimp only at H12 ⊢
 subst e e'
 obtain ⟨hk10, hF11, _⟩ := H12
 refine Qe (sr (wm ?_))
 refine wv (vf Qdv rfl Qao) ?_
 refine wv (vl 0 1 Qq) ?_
 refine wv (Qag Qq) ?_
 refine wv Qai ?_
 refine nt' ?_
 rcases dcl k9 x0.Values.length with ⟨hl13, g14⟩ | ⟨hl13, g14⟩
 ·
  refine Ql rfl g14 ?_
  refine Qp (Qd (Qe (Qx (sr ?_))))
  refine wv (vf Qdv rfl Qao) ?_
  refine wv (vl 0 1 Qq) ?_
  refine wm ?_
  obtain ⟨a15, rfl, hb16, he17⟩ := q6 (by omega)
  refine wv (vix 1 k9 Qq Qf) ?_
  refine wv (fun W hm => Qaw Qs rfl rfl ((hm.cell0 (show (a15.add (k9 * 1)).block < w.heap.size from by rw [Qae]; exact hb16.1)).trans (Qdr he17 k9 (by omega)))) ?_
  refine wcv (Qr Qeh rfl) (fun W hm => Qej W (gt x0.Values k9) 0 99) ?_
  refine wv Qbr ?_
  refine nt' ?_
  rcases bd (Qbk (gt x0.Values k9) 0 99) with g19 | g19
  ·
   have hw := Qeo g19
   refine Qm rfl (nt g19) ?_
   refine Qp (Qam (Qd (Qy (wm ?_))))
   refine wv (Qal k9 1 (by omega)) ?_
   refine wa (Qac ?_)
   exact Qan (k9 + 1, (), ()) sl2 idM ⟨(by omega), nx hF11 (Qb g19 (rfl)), trivial⟩ rl
  refine Ql rfl (nf g19) ?_
  refine sr (wa (nt' (Qj (Qaa (Qg (Qg (Qaa (Qg ?_))))))))
  exact rtb (h := Qbf (nr hF11 (Qc g19 (rfl))) rfl)
 refine Qm rfl g14 ?_
 refine Qay (Qu (Qu ?_))
 have hE21 := Qbh hl13 hF11
 refine Qaz (Qd (sr ?_))
 refine wv (vf Qdv rfl Qf) ?_
 refine wv (vl 0 0 Qs) ?_
 refine wcv (Qr Qeh rfl) (fun W hm => Qej W x0.Id 0 999) ?_
 refine wm ?_
 rcases bd (Qbk x0.Id 0 999) with g23 | g23
 ·
  have hw := Qeo g23
  refine wg (vf Qdv rfl Qao) g23 ?_
  refine wg (vl 0 1 Qq) g23 ?_
  refine wg (Qag Qq) g23 ?_
  refine wg (fun W hm => Qfe rfl rfl) g23 ?_
  refine wv (vpT g23) ?_
  refine wa (nt' (Qj ?_))
  exact rtb (h := Qar hE21 (Qb g23 (rfl)))
 iterate 5 first | refine ws g23 ?_ | refine wv (vpF g23) ?_
 refine wa (nt' (Qj ?_))
 exact rtb (h := Qar hE21 (Qc g23 (rfl)))

def Qhz (x0 : Qt) (x1 : Int) : Bool :=
 cond (Qgn (⟨x0.Id, x0.Values⟩ : Qab)) (cond (Qbk x0.Born 0 x1) (cond (x0.Died == (-1)) true (Qbk x0.Died (IntKind.i64.wrap (x0.Born + 1)) x1)) false) false
theorem Qaom : Cb Tryz.prog 178 := ⟨f178, _, func178, rfl, by decide⟩
theorem Qbcj (w : World) (z0 : List Value) (x0 : Qt) (x1 : Int) (r_0 : Qaf.rd w w.heap.size z0 x0) :
  Calls Tryz.prog 178 #[.agg z0.toArray, iV x1] w (rB w (Qhz x0 x1)) := by
 obtain ⟨v1, rfl, r2⟩ := Qgd r_0
 obtain ⟨m3, A4, c5, rfl, q6, r7⟩ := Qi r2
 refine ce2 (L := [(0, .agg #[iV x0.Id, .slice A4 x0.Values.length c5, iV x0.Born, iV x0.Died]), (1, iV x1)]) (N := 31) func178 ?_
 refine sr ?_
 refine Qbn rfl (Qk rfl) (by decide) (fun p8 => ?_)
 refine wa (nt' (sr ?_))
 refine wv (vf Qbp rfl Qf) ?_
 refine wv (vl 0 0 Qs) ?_
 refine wv (vf Qbp rfl Qao) ?_
 refine wv (vl 0 1 Qq) ?_
 refine wv (fun W hm => Qef (cs := [iV x0.Id, .slice A4 x0.Values.length c5]) rfl (by kernel_rfl)) ?_
 refine wcv (Qr Qadv rfl) (fun W hm => Qaic W _ (⟨x0.Id, x0.Values⟩ : Qab) (Qjr (x := (⟨x0.Id, x0.Values⟩ : Qab)) (hm.rdS0 r7))) ?_
 refine wm ?_
 rcases bd (Qgn (⟨x0.Id, x0.Values⟩ : Qab)) with g10 | g10
 ·
  refine wg (vf Qbp rfl Qf) g10 ?_
  refine wg (vl 0 2 Qs) g10 ?_
  refine wg vmv g10 ?_
  refine Qcr (Qr Qeh rfl) (fun W hm => Qej W x0.Born 0 x1) (Qcc rfl rfl rfl (bw g10 rfl)) (by decide) ?_
  refine wv (vpT g10) ?_
  refine wm ?_
  rcases bd (Qbk x0.Born 0 x1) with g12 | g12
  ·
   have hw := Qeo g12
   refine wg (vf Qbp rfl Qf) g12 ?_
   refine wg (vl 0 3 Qs) g12 ?_
   refine wg (fun W hm => Qfe rfl rfl) g12 ?_
   refine wg vmv g12 ?_
   rcases dce x0.Died (-1) with ⟨h13, g14⟩ | ⟨h13, g14⟩
   ·
    iterate 7 refine ws g14 ?_
    refine wg (vpT g14) g12 ?_
    refine wv (vpT g12) ?_
    refine wa (nt' (Qj ?_))
    exact rtb (h := Qb g10 (Qb g12 (Qb g14 (rfl))))
   refine wg (vf Qbp rfl Qf) g14 ?_
   refine wg (vl 0 3 Qs) g14 ?_
   refine wg (vf Qbp rfl Qf) g14 ?_
   refine wg (vl 0 2 Qs) g14 ?_
   refine wg Qcy g14 ?_
   refine wg vmv g14 ?_
   refine Qcr (Qr Qeh rfl) (fun W hm => Qej W x0.Died (IntKind.i64.wrap (x0.Born + 1)) x1) (Qcc rfl rfl rfl (bw g14 rfl)) (by decide) ?_
   refine wg (vpF g14) g12 ?_
   refine wv (vpT g12) ?_
   refine wa (nt' (Qj ?_))
   exact rtb (h := Qb g10 (Qb g12 (Qc g14 (rfl))))
  iterate 13 first | refine ws g12 ?_ | refine wu ?_ | refine wv (vpF g12) ?_
  refine wa (nt' (Qj ?_))
  exact rtb (h := Qb g10 (Qc g12 (rfl)))
 iterate 19 first | refine ws g10 ?_ | refine wv (vpF g10) ?_ | refine wm ?_ | refine wk ?_ | refine wu ?_ | refine wv (vpF rfl) ?_
 refine wa (nt' (Qj ?_))
 exact rtb (h := Qc g10 (rfl))

def Qjl (x0 : Qt) (x1 : Qt) : Bool :=
 cond (x0.Id != x1.Id) true (cond (x0.Died != (-1)) (cond (decide (x0.Died ≤ x1.Born)) true (cond (x1.Died != (-1)) (decide (x1.Died ≤ x0.Born)) false)) (cond (x1.Died != (-1)) (decide (x1.Died ≤ x0.Born)) false))
theorem Qaon : Cb Tryz.prog 179 := ⟨f179, _, func179, rfl, by decide⟩
theorem Qbcc (w : World) (z0 : List Value) (x0 : Qt) (z1 : List Value) (x1 : Qt) (r_0 : Qaf.rd w w.heap.size z0 x0) (r_1 : Qaf.rd w w.heap.size z1 x1) :
  Calls Tryz.prog 179 #[.agg z0.toArray, .agg z1.toArray] w (rB w (Qjl x0 x1)) := by
 obtain ⟨v1, rfl, r2⟩ := Qgd r_0
 obtain ⟨m3, A4, c5, rfl, q6, r7⟩ := Qi r2
 obtain ⟨v8, rfl, r9⟩ := Qgd r_1
 obtain ⟨m10, A11, c12, rfl, q13, r14⟩ := Qi r9
 refine ce2 (L := [(0, .agg #[iV x0.Id, .slice A4 x0.Values.length c5, iV x0.Born, iV x0.Died]), (1, .agg #[iV x1.Id, .slice A11 x1.Values.length c12, iV x1.Born, iV x1.Died])]) (N := 34) func179 ?_
 refine sr ?_
 refine Qbn rfl (Qk rfl) (by decide) (fun p15 => ?_)
 refine Qbn rfl (Qk rfl) (by decide) (fun p16 => ?_)
 refine wa (nt' (sr ?_))
 refine wv (vf Qbp rfl Qf) ?_
 refine wv (vl 1 0 Qs) ?_
 refine wv (vf Qbp rfl Qf) ?_
 refine wv (vl 0 0 Qs) ?_
 refine wv Qcj ?_
 refine wm ?_
 rcases dcn x0.Id x1.Id with ⟨h17, g18⟩ | ⟨h17, g18⟩
 ·
  refine wg (vf Qbp rfl Qf) g18 ?_
  refine wg (vl 1 3 Qs) g18 ?_
  refine wg Qcj g18 ?_
  refine wg vmv g18 ?_
  rcases dcn x0.Died (-1) with ⟨h19, g20⟩ | ⟨h19, g20⟩
  ·
   iterate 5 refine ws g20 ?_
   refine wg (vpF g20) g18 ?_
   refine wv (vpF g18) ?_
   refine wm ?_
   refine Qln (vf Qbp rfl Qf) (Qcc rfl rfl rfl rfl) rfl (by decide) ?_
   refine Qln (vl 0 3 Qs) (Qcc rfl rfl rfl rfl) rfl (by decide) ?_
   refine Qln Qcj (Qcc rfl rfl rfl rfl) rfl (by decide) ?_
   refine Qln vmv (Qcc rfl rfl rfl rfl) rfl (by decide) ?_
   rcases dcn x1.Died (-1) with ⟨h21, g22⟩ | ⟨h21, g22⟩
   ·
    iterate 5 refine ws g22 ?_
    refine Qln (vpF g22) (Qcc rfl rfl rfl rfl) rfl (by decide) ?_
    refine wv (vpF rfl) ?_
    refine wa (nt' (Qj ?_))
    exact rtb (h := Qc g18 (Qc g20 (Qc g22 (rfl))))
   refine wg (vf Qbp rfl Qf) g22 ?_
   refine wg (vl 0 3 Qs) g22 ?_
   refine wg (vf Qbp rfl Qf) g22 ?_
   refine wg (vl 1 2 Qs) g22 ?_
   refine wg (fun W hm => Qgw rfl rfl) g22 ?_
   refine Qln (vpT g22) (Qcc rfl rfl rfl rfl) rfl (by decide) ?_
   refine wv (vpF rfl) ?_
   refine wa (nt' (Qj ?_))
   exact rtb (h := Qc g18 (Qc g20 (Qb g22 (rfl))))
  refine wg (vf Qbp rfl Qf) g20 ?_
  refine wg (vl 1 3 Qs) g20 ?_
  refine wg (vf Qbp rfl Qf) g20 ?_
  refine wg (vl 0 2 Qs) g20 ?_
  refine wg (fun W hm => Qgw rfl rfl) g20 ?_
  refine wg (vpT g20) g18 ?_
  refine wv (vpF g18) ?_
  refine wm ?_
  rcases dcd (x0.Died ≤ x1.Born) with ⟨h23, g24⟩ | ⟨h23, g24⟩
  ·
   iterate 11 first | refine ws g24 ?_ | refine wu ?_ | refine wv (vpT g24) ?_
   refine wa (nt' (Qj ?_))
   exact rtb (h := Qc g18 (Qb g20 (Qb g24 (rfl))))
  refine wg (vf Qbp rfl Qf) g24 ?_
  refine wg (vl 0 3 Qs) g24 ?_
  refine wg Qcj g24 ?_
  refine wg vmv g24 ?_
  rcases dcn x1.Died (-1) with ⟨h25, g26⟩ | ⟨h25, g26⟩
  ·
   iterate 5 refine ws g26 ?_
   refine wg (vpF g26) g24 ?_
   refine wv (vpF g24) ?_
   refine wa (nt' (Qj ?_))
   exact rtb (h := Qc g18 (Qb g20 (Qc g24 (Qc g26 (rfl)))))
  refine wg (vf Qbp rfl Qf) g26 ?_
  refine wg (vl 0 3 Qs) g26 ?_
  refine wg (vf Qbp rfl Qf) g26 ?_
  refine wg (vl 1 2 Qs) g26 ?_
  refine wg (fun W hm => Qgw rfl rfl) g26 ?_
  refine wg (vpT g26) g24 ?_
  refine wv (vpF g24) ?_
  refine wa (nt' (Qj ?_))
  exact rtb (h := Qc g18 (Qb g20 (Qc g24 (Qb g26 (rfl)))))
 iterate 23 first | refine ws g18 ?_ | refine wu ?_ | refine wv (vpT g18) ?_ | refine wm ?_ | refine wk ?_ | refine wv (vpT rfl) ?_
 refine wa (nt' (Qj ?_))
 exact rtb (h := Qb g18 (rfl))

end Go.Proofs.YtdlminfjdodjoaaGreat
