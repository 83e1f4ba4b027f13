/-
  Contracts of functions, printed by a program of ours.
-/
import Derived.Test.YtdlminfjdodjoaaGreatL3F5
namespace Go.Proofs.YtdlminfjdodjoaaGreat
open Go.RowKit
set_option maxRecDepth 100000
set_option maxHeartbeats 4000000
open _root_.Go.Proofs.Tryz
def Qyx (x0 : (List Qcc)) (k6 : Nat) (s7 : Int) : Int ⊕ (Int) :=
 cond (((gt x0 k6).Field) != s7) (Sum.inl (-1)) (cond (((gt x0 k6).Low) != (IntKind.i64.wrap (s7 + 1))) (Sum.inl (-1)) (cond (((gt x0 k6).High) != (IntKind.i64.wrap ((IntKind.i64.wrap (s7 + 1)) + 1))) (Sum.inl (-1)) (Sum.inr (IntKind.i64.wrap ((IntKind.i64.wrap ((IntKind.i64.wrap (s7 + 1)) + 1)) + 1)))))
def Qdb (x0 : (List Qcc)) (x1 : Int) : Int :=
 Sum.elim id (fun (s : Int) => s) (rng (R := Int) (fun k (s : Int) => Qyx x0 k s) (x0.length - 0) 0 x1)
theorem Qadh : Cb Tryz.prog 154 := ⟨f154, _, func154, rfl, by decide⟩
theorem Qafo (w : World) (z0 : Value) (x0 : (List Qcc)) (x1 : Int) (r_0 : rdS Qbk w w.heap.size z0 x0) :
  Calls Tryz.prog 154 #[z0, iV x1] w (rI w (Qdb x0 x1)) := by
 obtain ⟨m1, A2, c3, rfl, q4, r5⟩ := Qi r_0
 refine ce2 (L := [(0, .slice A2 x0.length c3), (1, iV x1)]) (N := 40) func154 ?_
 refine sr (wa (nt' (Qd (sr (wa (nt' (Qx ?_)))))))
 refine Qbf (S := Int) (R := Unit) (fun k (s : Int) => Qyx x0 k s) x0.length 0 x1 () (fun s => [(0, .slice A2 x0.length c3), (1, iV s.2.1), (5, nI s.1)]) (fun s => []) (fun s => True) sl3 trivial ?_
 rintro ⟨k6, s7, ⟨⟩⟩ H10 _ _ e e'
 dsimp only at H10 ⊢
 subst e e'
 obtain ⟨hk8, hF9, _⟩ := H10
 refine Qd (sr (wm (wm ?_)))
 refine wv (Qaf Qcs) ?_
 refine wv Qai ?_
 refine nt' ?_
 rcases dcl k6 x0.length with ⟨hl11, g12⟩ | ⟨hl11, g12⟩
 ·
  refine Ql rfl g12 ?_
  refine Qo (Qe (Qd (Qx (Qd (sr (wm (wm ?_)))))))
  obtain ⟨a13, rfl, hb14, he15⟩ := q4 (by omega)
  refine wv (vix 3 k6 Qcs Qds) ?_
  refine wv (vf Qdu rfl Qf) ?_
  obtain ⟨_, e17, hc16⟩ := he15 k6 _ (Qbr (show k6 < x0.length from by omega))
  obtain rfl := Qjh e17
  refine wv (fun W hm => Qau Qs rfl rfl ((hm.cell0 (show ((a13.add (k6 * 3)).add 0).block < w.heap.size from by rw [Qab, Qab]; exact hb14.1)).trans (hc16 0 _ rfl))) ?_
  refine wm ?_
  refine wv Qcj ?_
  refine nt' ?_
  rcases dcn ((gt x0 k6).Field) s7 with ⟨h18, g19⟩ | ⟨h18, g19⟩
  ·
   refine Qn rfl g19 ?_
   refine Qo (Qe (sr (wm ?_)))
   refine wv Qcw ?_
   refine wa (nt' (Qd (sr (wm (wm ?_)))))
   refine wv (vix 3 k6 Qcs Qds) ?_
   refine wv (vf Qdu rfl Qf) ?_
   refine wv (fun W hm => Qau Qs rfl rfl ((hm.cell0 (show ((a13.add (k6 * 3)).add 1).block < w.heap.size from by rw [Qab, Qab]; exact hb14.1)).trans (hc16 1 _ rfl))) ?_
   refine wm ?_
   refine wv Qcj ?_
   refine nt' ?_
   rcases dcn ((gt x0 k6).Low) (IntKind.i64.wrap (s7 + 1)) with ⟨h20, g21⟩ | ⟨h20, g21⟩
   ·
    refine Qn rfl g21 ?_
    refine Qo (Qe (sr (wm ?_)))
    refine wv Qcw ?_
    refine wa (nt' (Qd (sr (wm (wm ?_)))))
    refine wv (vix 3 k6 Qcs Qds) ?_
    refine wv (vf Qdu rfl Qf) ?_
    refine wv (fun W hm => Qau Qs rfl rfl ((hm.cell0 (show ((a13.add (k6 * 3)).add 2).block < w.heap.size from by rw [Qab, Qab]; exact hb14.1)).trans (hc16 2 _ rfl))) ?_
    refine wm ?_
    refine wv Qcj ?_
    refine nt' ?_
    rcases dcn ((gt x0 k6).High) (IntKind.i64.wrap ((IntKind.i64.wrap (s7 + 1)) + 1)) with ⟨h22, g23⟩ | ⟨h22, g23⟩
    ·
     refine Qn rfl g23 ?_
     refine Qo (Qe (Qy (wm ?_)))
     refine wv Qcw ?_
     refine wa (Qad (Qan (Qe (Qy (wm ?_)))))
     refine wv (Qal k6 1 (by omega)) ?_
     refine wa (Qad ?_)
     exact Qao (k6 + 1, (IntKind.i64.wrap ((IntKind.i64.wrap ((IntKind.i64.wrap (s7 + 1)) + 1)) + 1)), ()) sl3 idM ⟨(by omega), nx hF9 (Qc g19 (Qc g21 (Qc g23 (rfl)))), trivial⟩ rl
    refine Ql rfl g23 ?_
    refine sr (wa (nt' (Qj (Qg (Qz (Qg (Qg (Qz (Qg ?_)))))))))
    exact rti (h := Qbe (nr hF9 (Qc g19 (Qc g21 (Qb g23 (rfl))))) rfl)
   refine Ql rfl g21 ?_
   refine sr (wa (nt' (Qj (Qg (Qz (Qg (Qg (Qz (Qg ?_)))))))))
   exact rti (h := Qbe (nr hF9 (Qc g19 (Qb g21 (rfl)))) rfl)
  refine Ql rfl g19 ?_
  refine sr (wa (nt' (Qj (Qg (Qz (Qg (Qg (Qz (Qg ?_)))))))))
  exact rti (h := Qbe (nr hF9 (Qb g19 (rfl))) rfl)
 refine Qn rfl g12 ?_
 refine Qay (Qu (Qu ?_))
 have hE25 := Qbg hl11 hF9
 refine Qaz (Qe (sr (wm (wa (nt' (Qj ?_))))))
 exact rti (h := Qaq hE25 (rfl))

def Qza (x0 : (List Qaa)) (k6 : Nat) (s7 : Int) : Int ⊕ (Int) :=
 cond (((gt x0 k6).Id) != s7) (Sum.inl (-1)) (cond (decide ((Qba ((gt x0 k6).Values) (IntKind.i64.wrap (s7 + 1))) < 0)) (Sum.inl (-1)) (Sum.inr (Qba ((gt x0 k6).Values) (IntKind.i64.wrap (s7 + 1)))))
def Qim (x0 : (List Qaa)) (x1 : Int) : Int :=
 Sum.elim id (fun (s : Int) => s) (rng (R := Int) (fun k (s : Int) => Qza x0 k s) (x0.length - 0) 0 x1)
theorem Qadi : Cb Tryz.prog 155 := ⟨f155, _, func155, rfl, by decide⟩
theorem Qafq (w : World) (z0 : Value) (x0 : (List Qaa)) (x1 : Int) (r_0 : rdS Qap w w.heap.size z0 x0) :
  Calls Tryz.prog 155 #[z0, iV x1] w (rI w (Qim x0 x1)) := by
 obtain ⟨m1, A2, c3, rfl, q4, r5⟩ := Qi r_0
 refine ce2 (L := [(0, .slice A2 x0.length c3), (1, iV x1)]) (N := 31) func155 ?_
 refine sr (wa (nt' (Qd (sr (wa (nt' (Qx ?_)))))))
 refine Qbf (S := Int) (R := Unit) (fun k (s : Int) => Qza x0 k s) x0.length 0 x1 () (fun s => [(0, .slice A2 x0.length c3), (1, iV s.2.1), (5, nI s.1)]) (fun s => []) (fun s => True) sl3 trivial ?_
 rintro ⟨k6, s7, ⟨⟩⟩ H10 _ _ e e'
 dsimp only at H10 ⊢
 subst e e'
 obtain ⟨hk8, hF9, _⟩ := H10
 refine Qd (sr (wm (wm ?_)))
 refine wv (Qaf Qci) ?_
 refine wv Qai ?_
 refine nt' ?_
 rcases dcl k6 x0.length with ⟨hl11, g12⟩ | ⟨hl11, g12⟩
 ·
  refine Ql rfl g12 ?_
  refine Qo (Qe (Qd (Qx (Qd (sr (wm (wm ?_)))))))
  obtain ⟨a13, rfl, hb14, he15⟩ := q4 (by omega)
  refine wv (vix 2 k6 Qci Qcg) ?_
  refine wv (vf Qdv rfl Qf) ?_
  obtain ⟨_, e19, hc16⟩ := he15 k6 _ (Qbr (show k6 < x0.length from by omega))
  obtain ⟨v17, rfl, r18⟩ := Qij e19
  obtain ⟨m20, A21, c22, rfl, q23, r24⟩ := Qi r18
  refine wv (fun W hm => Qau Qs rfl rfl ((hm.cell0 (show ((a13.add (k6 * 2)).add 0).block < w.heap.size from by rw [Qab, Qab]; exact hb14.1)).trans (hc16 0 _ rfl))) ?_
  refine wm ?_
  refine wv Qcj ?_
  refine nt' ?_
  rcases dcn ((gt x0 k6).Id) s7 with ⟨h25, g26⟩ | ⟨h25, g26⟩
  ·
   refine Qn rfl g26 ?_
   refine Qo (Qe (sr (wm ?_)))
   refine wv Qcw ?_
   refine wa (nt' (sr (wm (wm ?_))))
   refine wv (vix 2 k6 Qci Qcg) ?_
   refine wv (vf Qdv rfl Qam) ?_
   refine wv (fun W hm => Qau Qp rfl rfl ((hm.cell0 (show ((a13.add (k6 * 2)).add 1).block < w.heap.size from by rw [Qab, Qab]; exact hb14.1)).trans (hc16 1 _ rfl))) ?_
   refine wm ?_
   refine wcv (Qq Qmb rfl) (fun W hm => Qmh W _ ((gt x0 k6).Values) (IntKind.i64.wrap (s7 + 1)) (hm.rdS0 r24)) ?_
   refine wa (nt' (sr (wm ?_)))
   refine wv Qai ?_
   refine nt' ?_
   rcases dcd ((Qba ((gt x0 k6).Values) (IntKind.i64.wrap (s7 + 1))) < 0) with ⟨h27, g28⟩ | ⟨h27, g28⟩
   ·
    refine Ql rfl g28 ?_
    refine sr (wa (nt' (Qj (Qz (Qg (Qg (Qz (Qg ?_))))))))
    exact rti (h := Qbe (nr hF9 (Qc g26 (Qb g28 (rfl)))) rfl)
   refine Qn rfl g28 ?_
   refine Qo (Qan (Qe (Qy (wm ?_))))
   refine wv (Qal k6 1 (by omega)) ?_
   refine wa (Qad ?_)
   exact Qao (k6 + 1, (Qba ((gt x0 k6).Values) (IntKind.i64.wrap (s7 + 1))), ()) sl3 idM ⟨(by omega), nx hF9 (Qc g26 (Qc g28 (rfl))), trivial⟩ rl
  refine Ql rfl g26 ?_
  refine sr (wa (nt' (Qj (Qg (Qz (Qg (Qg (Qz (Qg ?_)))))))))
  exact rti (h := Qbe (nr hF9 (Qb g26 (rfl))) rfl)
 refine Qn rfl g12 ?_
 refine Qay (Qu (Qu ?_))
 have hE30 := Qbg hl11 hF9
 refine Qaz (Qe (sr (wm (wa (nt' (Qj ?_))))))
 exact rti (h := Qaq hE30 (rfl))

def Qyv (x0 : (List Qw)) (k6 : Nat) (s7 : Int) : Int ⊕ (Int) :=
 cond (((gt x0 k6).Query.Id) != s7) (Sum.inl (-1)) (cond (((gt x0 k6).Query.Tenant) != (IntKind.i64.wrap (s7 + 1))) (Sum.inl (-1)) (cond (decide ((Qdb ((gt x0 k6).Query.Conds) (IntKind.i64.wrap ((IntKind.i64.wrap (s7 + 1)) + 1))) < 0)) (Sum.inl (-1)) (cond (decide ((Qba ((gt x0 k6).Query.Out) (Qdb ((gt x0 k6).Query.Conds) (IntKind.i64.wrap ((IntKind.i64.wrap (s7 + 1)) + 1)))) < 0)) (Sum.inl (-1)) (cond (((gt x0 k6).Time) != (Qba ((gt x0 k6).Query.Out) (Qdb ((gt x0 k6).Query.Conds) (IntKind.i64.wrap ((IntKind.i64.wrap (s7 + 1)) + 1))))) (Sum.inl (-1)) (cond (decide ((Qba ((gt x0 k6).Todo) (IntKind.i64.wrap ((Qba ((gt x0 k6).Query.Out) (Qdb ((gt x0 k6).Query.Conds) (IntKind.i64.wrap ((IntKind.i64.wrap (s7 + 1)) + 1)))) + 1))) < 0)) (Sum.inl (-1)) (cond (((gt x0 k6).Age) != (Qba ((gt x0 k6).Todo) (IntKind.i64.wrap ((Qba ((gt x0 k6).Query.Out) (Qdb ((gt x0 k6).Query.Conds) (IntKind.i64.wrap ((IntKind.i64.wrap (s7 + 1)) + 1)))) + 1)))) (Sum.inl (-1)) (cond (((gt x0 k6).Sent) != (IntKind.i64.wrap ((Qba ((gt x0 k6).Todo) (IntKind.i64.wrap ((Qba ((gt x0 k6).Query.Out) (Qdb ((gt x0 k6).Query.Conds) (IntKind.i64.wrap ((IntKind.i64.wrap (s7 + 1)) + 1)))) + 1))) + 1))) (Sum.inl (-1)) (cond (((gt x0 k6).Cap) != (IntKind.i64.wrap ((IntKind.i64.wrap ((Qba ((gt x0 k6).Todo) (IntKind.i64.wrap ((Qba ((gt x0 k6).Query.Out) (Qdb ((gt x0 k6).Query.Conds) (IntKind.i64.wrap ((IntKind.i64.wrap (s7 + 1)) + 1)))) + 1))) + 1)) + 1))) (Sum.inl (-1)) (cond (decide ((Qim ((gt x0 k6).Rows) (IntKind.i64.wrap ((IntKind.i64.wrap ((IntKind.i64.wrap ((Qba ((gt x0 k6).Todo) (IntKind.i64.wrap ((Qba ((gt x0 k6).Query.Out) (Qdb ((gt x0 k6).Query.Conds) (IntKind.i64.wrap ((IntKind.i64.wrap (s7 + 1)) + 1)))) + 1))) + 1)) + 1)) + 1))) < 0)) (Sum.inl (-1)) (Sum.inr (Qim ((gt x0 k6).Rows) (IntKind.i64.wrap ((IntKind.i64.wrap ((IntKind.i64.wrap ((Qba ((gt x0 k6).Todo) (IntKind.i64.wrap ((Qba ((gt x0 k6).Query.Out) (Qdb ((gt x0 k6).Query.Conds) (IntKind.i64.wrap ((IntKind.i64.wrap (s7 + 1)) + 1)))) + 1))) + 1)) + 1)) + 1)))))))))))))
def Qko (x0 : (List Qw)) (x1 : Int) : Int :=
 Sum.elim id (fun (s : Int) => s) (rng (R := Int) (fun k (s : Int) => Qyv x0 k s) (x0.length - 0) 0 x1)
theorem cb85 : Cb Tryz.prog 85 := ⟨f85, _, func85, rfl, by decide⟩
theorem Qatp (w : World) (z0 : Value) (x0 : (List Qw)) (x1 : Int) (r_0 : rdS Qah w w.heap.size z0 x0) :
  Calls Tryz.prog 85 #[z0, iV x1] w (rI w (Qko x0 x1)) := by
 obtain ⟨m1, A2, c3, rfl, q4, r5⟩ := Qi r_0
 refine ce2 (L := [(0, .slice A2 x0.length c3), (1, iV x1)]) (N := 107) func85 ?_
 refine sr (wa (nt' (Qd (sr (wa (nt' (Qx ?_)))))))
 refine Qbf (S := Int) (R := Unit) (fun k (s : Int) => Qyv x0 k s) x0.length 0 x1 () (fun s => [(0, .slice A2 x0.length c3), (1, iV s.2.1), (5, nI s.1)]) (fun s => []) (fun s => True) sl3 trivial ?_
 rintro ⟨k6, s7, ⟨⟩⟩ H10 _ _ e e'
 dsimp only at H10 ⊢
 subst e e'
 obtain ⟨hk8, hF9, _⟩ := H10
 refine Qd (sr (wm (wm ?_)))
 refine wv (Qaf Qaw) ?_
 refine wv Qai ?_
 refine nt' ?_
 rcases dcl k6 x0.length with ⟨hl11, g12⟩ | ⟨hl11, g12⟩
 ·
  refine Ql rfl g12 ?_
  refine Qo (Qe (Qd (Qx (Qd (sr (wm (wm ?_)))))))
  obtain ⟨a13, rfl, hb14, he15⟩ := q4 (by omega)
  refine wv (vix 10 k6 Qaw Qbd) ?_
  refine wv (vf Qaj rfl Qbi) ?_
  refine wv (fun W hm => Qea (o := 0) Qbo rfl Qf (by decide) rfl rfl) ?_
  obtain ⟨_, e25, hc16⟩ := he15 k6 _ (Qbr (show k6 < x0.length from by omega))
  obtain ⟨v17, v19, v21, v23, rfl, r18, r20, r22, r24⟩ := Qgj e25
  obtain ⟨m26, A27, c28, rfl, q29, r30⟩ := Qi r18
  obtain ⟨m31, A32, c33, rfl, q34, r35⟩ := Qi r20
  obtain ⟨m36, A37, c38, rfl, q39, r40⟩ := Qi r22
  obtain ⟨m41, A42, c43, rfl, q44, r45⟩ := Qi r24
  refine wv (fun W hm => Qau Qs rfl rfl ((hm.cell0 (show ((a13.add (k6 * 10)).add 0).block < w.heap.size from by rw [Qab, Qab]; exact hb14.1)).trans (hc16 0 _ rfl))) ?_
  refine wm ?_
  refine wv Qcj ?_
  refine nt' ?_
  rcases dcn ((gt x0 k6).Query.Id) s7 with ⟨h46, g47⟩ | ⟨h46, g47⟩
  ·
   refine Qn rfl g47 ?_
   refine Qo (Qe (sr (wm ?_)))
   refine wv Qcw ?_
   refine wa (nt' (Qd (sr (wm (wm ?_)))))
   refine wv (vix 10 k6 Qaw Qbd) ?_
   refine wv (vf Qaj rfl Qbi) ?_
   refine wv (fun W hm => Qea (o := 1) Qbo rfl Qf (by decide) rfl rfl) ?_
   refine wv (fun W hm => Qau Qs rfl rfl ((hm.cell0 (show ((a13.add (k6 * 10)).add 1).block < w.heap.size from by rw [Qab, Qab]; exact hb14.1)).trans (hc16 1 _ rfl))) ?_
   refine wm ?_
   refine wv Qcj ?_
   refine nt' ?_
   rcases dcn ((gt x0 k6).Query.Tenant) (IntKind.i64.wrap (s7 + 1)) with ⟨h48, g49⟩ | ⟨h48, g49⟩
   ·
    refine Qn rfl g49 ?_
    refine Qo (Qe (sr (wm ?_)))
    refine wv Qcw ?_
    refine wa (nt' (sr (wm (wm ?_))))
    refine wv (vix 10 k6 Qaw Qbd) ?_
    refine wv (vf Qaj rfl Qbi) ?_
    refine wv (fun W hm => Qea (o := 2) Qbo rfl Qfp (by decide) rfl rfl) ?_
    refine wv (fun W hm => Qau Qcs rfl rfl ((hm.cell0 (show ((a13.add (k6 * 10)).add 2).block < w.heap.size from by rw [Qab, Qab]; exact hb14.1)).trans (hc16 2 _ rfl))) ?_
    refine wm ?_
    refine wcv (Qq Qadh rfl) (fun W hm => Qafo W _ ((gt x0 k6).Query.Conds) (IntKind.i64.wrap ((IntKind.i64.wrap (s7 + 1)) + 1)) (hm.rdS0 r30)) ?_
    refine wa (nt' (Qd (sr (wm ?_))))
    refine wv Qai ?_
    refine nt' ?_
    rcases dcd ((Qdb ((gt x0 k6).Query.Conds) (IntKind.i64.wrap ((IntKind.i64.wrap (s7 + 1)) + 1))) < 0) with ⟨h50, g51⟩ | ⟨h50, g51⟩
    ·
     refine Ql rfl g51 ?_
     refine sr (wa (nt' (Qj (Qg (Qz (Qg (Qg (Qz (Qg ?_)))))))))
     exact rti (h := Qbe (nr hF9 (Qc g47 (Qc g49 (Qb g51 (rfl))))) rfl)
    refine Qn rfl g51 ?_
    refine Qo (Qe (sr (wm (wm ?_))))
    refine wv (vix 10 k6 Qaw Qbd) ?_
    refine wv (vf Qaj rfl Qbi) ?_
    refine wv (fun W hm => Qea (o := 3) Qbo rfl Qam (by decide) rfl rfl) ?_
    refine wv (fun W hm => Qau Qp rfl rfl ((hm.cell0 (show ((a13.add (k6 * 10)).add 3).block < w.heap.size from by rw [Qab, Qab]; exact hb14.1)).trans (hc16 3 _ rfl))) ?_
    refine wm ?_
    refine wcv (Qq Qmb rfl) (fun W hm => Qmh W _ ((gt x0 k6).Query.Out) (Qdb ((gt x0 k6).Query.Conds) (IntKind.i64.wrap ((IntKind.i64.wrap (s7 + 1)) + 1))) (hm.rdS0 r35)) ?_
    refine wa (nt' (Qd (sr (wm ?_))))
    refine wv Qai ?_
    refine nt' ?_
    rcases dcd ((Qba ((gt x0 k6).Query.Out) (Qdb ((gt x0 k6).Query.Conds) (IntKind.i64.wrap ((IntKind.i64.wrap (s7 + 1)) + 1)))) < 0) with ⟨h52, g53⟩ | ⟨h52, g53⟩
    ·
     refine Ql rfl g53 ?_
     refine sr (wa (nt' (Qj (Qg (Qz (Qg (Qg (Qz (Qg ?_)))))))))
     exact rti (h := Qbe (nr hF9 (Qc g47 (Qc g49 (Qc g51 (Qb g53 (rfl)))))) rfl)
    refine Qn rfl g53 ?_
    refine Qo (Qe (Qd (sr (wm (wm ?_)))))
    refine wv (vix 10 k6 Qaw Qbd) ?_
    refine wv (vf Qaj rfl Qf) ?_
    refine wv (fun W hm => Qau Qs rfl rfl ((hm.cell0 (show ((a13.add (k6 * 10)).add 4).block < w.heap.size from by rw [Qab, Qab]; exact hb14.1)).trans (hc16 4 _ rfl))) ?_
    refine wm ?_
    refine wv Qcj ?_
    refine nt' ?_
    rcases dcn ((gt x0 k6).Time) (Qba ((gt x0 k6).Query.Out) (Qdb ((gt x0 k6).Query.Conds) (IntKind.i64.wrap ((IntKind.i64.wrap (s7 + 1)) + 1)))) with ⟨h54, g55⟩ | ⟨h54, g55⟩
    ·
     refine Qn rfl g55 ?_
     refine Qo (Qe (sr (wm ?_)))
     refine wv Qcw ?_
     refine wa (nt' (sr (wm (wm ?_))))
     refine wv (vix 10 k6 Qaw Qbd) ?_
     refine wv (vf Qaj rfl Qam) ?_
     refine wv (fun W hm => Qau Qp rfl rfl ((hm.cell0 (show ((a13.add (k6 * 10)).add 5).block < w.heap.size from by rw [Qab, Qab]; exact hb14.1)).trans (hc16 5 _ rfl))) ?_
     refine wm ?_
     refine wcv (Qq Qmb rfl) (fun W hm => Qmh W _ ((gt x0 k6).Todo) (IntKind.i64.wrap ((Qba ((gt x0 k6).Query.Out) (Qdb ((gt x0 k6).Query.Conds) (IntKind.i64.wrap ((IntKind.i64.wrap (s7 + 1)) + 1)))) + 1)) (hm.rdS0 r40)) ?_
     refine wa (nt' (Qd (sr (wm ?_))))
     refine wv Qai ?_
     refine nt' ?_
     rcases dcd ((Qba ((gt x0 k6).Todo) (IntKind.i64.wrap ((Qba ((gt x0 k6).Query.Out) (Qdb ((gt x0 k6).Query.Conds) (IntKind.i64.wrap ((IntKind.i64.wrap (s7 + 1)) + 1)))) + 1))) < 0) with ⟨h56, g57⟩ | ⟨h56, g57⟩
     ·
      refine Ql rfl g57 ?_
      refine sr (wa (nt' (Qj (Qg (Qz (Qg (Qg (Qz (Qg ?_)))))))))
      exact rti (h := Qbe (nr hF9 (Qc g47 (Qc g49 (Qc g51 (Qc g53 (Qc g55 (Qb g57 (rfl)))))))) rfl)
     refine Qn rfl g57 ?_
     refine Qo (Qe (Qd (sr (wm (wm ?_)))))
     refine wv (vix 10 k6 Qaw Qbd) ?_
     refine wv (vf Qaj rfl Qf) ?_
     refine wv (fun W hm => Qau Qs rfl rfl ((hm.cell0 (show ((a13.add (k6 * 10)).add 6).block < w.heap.size from by rw [Qab, Qab]; exact hb14.1)).trans (hc16 6 _ rfl))) ?_
     refine wm ?_
     refine wv Qcj ?_
     refine nt' ?_
     rcases dcn ((gt x0 k6).Age) (Qba ((gt x0 k6).Todo) (IntKind.i64.wrap ((Qba ((gt x0 k6).Query.Out) (Qdb ((gt x0 k6).Query.Conds) (IntKind.i64.wrap ((IntKind.i64.wrap (s7 + 1)) + 1)))) + 1))) with ⟨h58, g59⟩ | ⟨h58, g59⟩
     ·
      refine Qn rfl g59 ?_
      refine Qo (Qe (sr (wm ?_)))
      refine wv Qcw ?_
      refine wa (nt' (Qd (sr (wm (wm ?_)))))
      refine wv (vix 10 k6 Qaw Qbd) ?_
      refine wv (vf Qaj rfl Qf) ?_
      refine wv (fun W hm => Qau Qs rfl rfl ((hm.cell0 (show ((a13.add (k6 * 10)).add 7).block < w.heap.size from by rw [Qab, Qab]; exact hb14.1)).trans (hc16 7 _ rfl))) ?_
      refine wm ?_
      refine wv Qcj ?_
      refine nt' ?_
      rcases dcn ((gt x0 k6).Sent) (IntKind.i64.wrap ((Qba ((gt x0 k6).Todo) (IntKind.i64.wrap ((Qba ((gt x0 k6).Query.Out) (Qdb ((gt x0 k6).Query.Conds) (IntKind.i64.wrap ((IntKind.i64.wrap (s7 + 1)) + 1)))) + 1))) + 1)) with ⟨h60, g61⟩ | ⟨h60, g61⟩
      ·
       refine Qn rfl g61 ?_
       refine Qo (Qe (sr (wm ?_)))
       refine wv Qcw ?_
       refine wa (nt' (Qd (sr (wm (wm ?_)))))
       refine wv (vix 10 k6 Qaw Qbd) ?_
       refine wv (vf Qaj rfl Qf) ?_
       refine wv (fun W hm => Qau Qs rfl rfl ((hm.cell0 (show ((a13.add (k6 * 10)).add 8).block < w.heap.size from by rw [Qab, Qab]; exact hb14.1)).trans (hc16 8 _ rfl))) ?_
       refine wm ?_
       refine wv Qcj ?_
       refine nt' ?_
       rcases dcn ((gt x0 k6).Cap) (IntKind.i64.wrap ((IntKind.i64.wrap ((Qba ((gt x0 k6).Todo) (IntKind.i64.wrap ((Qba ((gt x0 k6).Query.Out) (Qdb ((gt x0 k6).Query.Conds) (IntKind.i64.wrap ((IntKind.i64.wrap (s7 + 1)) + 1)))) + 1))) + 1)) + 1)) with ⟨h62, g63⟩ | ⟨h62, g63⟩
       ·
        refine Qn rfl g63 ?_
        refine Qo (Qe (sr (wm ?_)))
        refine wv Qcw ?_
        refine wa (nt' (sr (wm (wm ?_))))
        refine wv (vix 10 k6 Qaw Qbd) ?_
        refine wv (vf Qaj rfl Qdt) ?_
        refine wv (fun W hm => Qau Qci rfl rfl ((hm.cell0 (show ((a13.add (k6 * 10)).add 9).block < w.heap.size from by rw [Qab, Qab]; exact hb14.1)).trans (hc16 9 _ rfl))) ?_
        refine wm ?_
        refine wcv (Qq Qadi rfl) (fun W hm => Qafq W _ ((gt x0 k6).Rows) (IntKind.i64.wrap ((IntKind.i64.wrap ((IntKind.i64.wrap ((Qba ((gt x0 k6).Todo) (IntKind.i64.wrap ((Qba ((gt x0 k6).Query.Out) (Qdb ((gt x0 k6).Query.Conds) (IntKind.i64.wrap ((IntKind.i64.wrap (s7 + 1)) + 1)))) + 1))) + 1)) + 1)) + 1)) (hm.rdS0 r45)) ?_
        refine wa (nt' (sr (wm ?_)))
        refine wv Qai ?_
        refine nt' ?_
        rcases dcd ((Qim ((gt x0 k6).Rows) (IntKind.i64.wrap ((IntKind.i64.wrap ((IntKind.i64.wrap ((Qba ((gt x0 k6).Todo) (IntKind.i64.wrap ((Qba ((gt x0 k6).Query.Out) (Qdb ((gt x0 k6).Query.Conds) (IntKind.i64.wrap ((IntKind.i64.wrap (s7 + 1)) + 1)))) + 1))) + 1)) + 1)) + 1))) < 0) with ⟨h64, g65⟩ | ⟨h64, g65⟩
        ·
         refine Ql rfl g65 ?_
         refine sr (wa (nt' (Qj (Qz (Qg (Qg (Qz (Qg ?_))))))))
         exact rti (h := Qbe (nr hF9 (Qc g47 (Qc g49 (Qc g51 (Qc g53 (Qc g55 (Qc g57 (Qc g59 (Qc g61 (Qc g63 (Qb g65 (rfl)))))))))))) rfl)
        refine Qn rfl g65 ?_
        refine Qo (Qan (Qe (Qy (wm ?_))))
        refine wv (Qal k6 1 (by omega)) ?_
        refine wa (Qad ?_)
        exact Qao (k6 + 1, (Qim ((gt x0 k6).Rows) (IntKind.i64.wrap ((IntKind.i64.wrap ((IntKind.i64.wrap ((Qba ((gt x0 k6).Todo) (IntKind.i64.wrap ((Qba ((gt x0 k6).Query.Out) (Qdb ((gt x0 k6).Query.Conds) (IntKind.i64.wrap ((IntKind.i64.wrap (s7 + 1)) + 1)))) + 1))) + 1)) + 1)) + 1))), ()) sl3 idM ⟨(by omega), nx hF9 (Qc g47 (Qc g49 (Qc g51 (Qc g53 (Qc g55 (Qc g57 (Qc g59 (Qc g61 (Qc g63 (Qc g65 (rfl))))))))))), trivial⟩ rl
       refine Ql rfl g63 ?_
       refine sr (wa (nt' (Qj (Qg (Qz (Qg (Qg (Qz (Qg ?_)))))))))
       exact rti (h := Qbe (nr hF9 (Qc g47 (Qc g49 (Qc g51 (Qc g53 (Qc g55 (Qc g57 (Qc g59 (Qc g61 (Qb g63 (rfl))))))))))) rfl)
      refine Ql rfl g61 ?_
      refine sr (wa (nt' (Qj (Qg (Qz (Qg (Qg (Qz (Qg ?_)))))))))
      exact rti (h := Qbe (nr hF9 (Qc g47 (Qc g49 (Qc g51 (Qc g53 (Qc g55 (Qc g57 (Qc g59 (Qb g61 (rfl)))))))))) rfl)
     refine Ql rfl g59 ?_
     refine sr (wa (nt' (Qj (Qg (Qz (Qg (Qg (Qz (Qg ?_)))))))))
     exact rti (h := Qbe (nr hF9 (Qc g47 (Qc g49 (Qc g51 (Qc g53 (Qc g55 (Qc g57 (Qb g59 (rfl))))))))) rfl)
    refine Ql rfl g55 ?_
    refine sr (wa (nt' (Qj (Qg (Qz (Qg (Qg (Qz (Qg ?_)))))))))
    exact rti (h := Qbe (nr hF9 (Qc g47 (Qc g49 (Qc g51 (Qc g53 (Qb g55 (rfl))))))) rfl)
   refine Ql rfl g49 ?_
   refine sr (wa (nt' (Qj (Qg (Qz (Qg (Qg (Qz (Qg ?_)))))))))
   exact rti (h := Qbe (nr hF9 (Qc g47 (Qb g49 (rfl)))) rfl)
  refine Ql rfl g47 ?_
  refine sr (wa (nt' (Qj (Qg (Qz (Qg (Qg (Qz (Qg ?_)))))))))
  exact rti (h := Qbe (nr hF9 (Qb g47 (rfl))) rfl)
 refine Qn rfl g12 ?_
 refine Qay (Qu (Qu ?_))
 have hE67 := Qbg hl11 hF9
 refine Qaz (Qe (sr (wm (wa (nt' (Qj ?_))))))
 exact rti (h := Qaq hE67 (rfl))

def Qyy (x0 : (List Qat)) (k6 : Nat) (s7 : Int) : Int ⊕ (Int) :=
 cond (((gt x0 k6).Query.Id) != s7) (Sum.inl (-1)) (cond (((gt x0 k6).Query.Tenant) != (IntKind.i64.wrap (s7 + 1))) (Sum.inl (-1)) (cond (decide ((Qdb ((gt x0 k6).Query.Conds) (IntKind.i64.wrap ((IntKind.i64.wrap (s7 + 1)) + 1))) < 0)) (Sum.inl (-1)) (cond (decide ((Qba ((gt x0 k6).Query.Out) (Qdb ((gt x0 k6).Query.Conds) (IntKind.i64.wrap ((IntKind.i64.wrap (s7 + 1)) + 1)))) < 0)) (Sum.inl (-1)) (cond (((gt x0 k6).Time) != (Qba ((gt x0 k6).Query.Out) (Qdb ((gt x0 k6).Query.Conds) (IntKind.i64.wrap ((IntKind.i64.wrap (s7 + 1)) + 1))))) (Sum.inl (-1)) (cond (((gt x0 k6).Steps) != (IntKind.i64.wrap ((Qba ((gt x0 k6).Query.Out) (Qdb ((gt x0 k6).Query.Conds) (IntKind.i64.wrap ((IntKind.i64.wrap (s7 + 1)) + 1)))) + 1))) (Sum.inl (-1)) (cond (decide ((Qim ((gt x0 k6).Rows) (IntKind.i64.wrap ((IntKind.i64.wrap ((Qba ((gt x0 k6).Query.Out) (Qdb ((gt x0 k6).Query.Conds) (IntKind.i64.wrap ((IntKind.i64.wrap (s7 + 1)) + 1)))) + 1)) + 1))) < 0)) (Sum.inl (-1)) (Sum.inr (Qim ((gt x0 k6).Rows) (IntKind.i64.wrap ((IntKind.i64.wrap ((Qba ((gt x0 k6).Query.Out) (Qdb ((gt x0 k6).Query.Conds) (IntKind.i64.wrap ((IntKind.i64.wrap (s7 + 1)) + 1)))) + 1)) + 1))))))))))
def Qnq (x0 : (List Qat)) (x1 : Int) : Int :=
 Sum.elim id (fun (s : Int) => s) (rng (R := Int) (fun k (s : Int) => Qyy x0 k s) (x0.length - 0) 0 x1)
theorem cb86 : Cb Tryz.prog 86 := ⟨f86, _, func86, rfl, by decide⟩
theorem Qatr (w : World) (z0 : Value) (x0 : (List Qat)) (x1 : Int) (r_0 : rdS Qax w w.heap.size z0 x0) :
  Calls Tryz.prog 86 #[z0, iV x1] w (rI w (Qnq x0 x1)) := by
 obtain ⟨m1, A2, c3, rfl, q4, r5⟩ := Qi r_0
 refine ce2 (L := [(0, .slice A2 x0.length c3), (1, iV x1)]) (N := 80) func86 ?_
 refine sr (wa (nt' (Qd (sr (wa (nt' (Qx ?_)))))))
 refine Qbf (S := Int) (R := Unit) (fun k (s : Int) => Qyy x0 k s) x0.length 0 x1 () (fun s => [(0, .slice A2 x0.length c3), (1, iV s.2.1), (5, nI s.1)]) (fun s => []) (fun s => True) sl3 trivial ?_
 rintro ⟨k6, s7, ⟨⟩⟩ H10 _ _ e e'
 dsimp only at H10 ⊢
 subst e e'
 obtain ⟨hk8, hF9, _⟩ := H10
 refine Qd (sr (wm (wm ?_)))
 refine wv (Qaf Qch) ?_
 refine wv Qai ?_
 refine nt' ?_
 rcases dcl k6 x0.length with ⟨hl11, g12⟩ | ⟨hl11, g12⟩
 ·
  refine Ql rfl g12 ?_
  refine Qo (Qe (Qd (Qx (Qd (sr (wm (wm ?_)))))))
  obtain ⟨a13, rfl, hb14, he15⟩ := q4 (by omega)
  refine wv (vix 7 k6 Qch Qcq) ?_
  refine wv (vf Qda rfl Qbi) ?_
  refine wv (fun W hm => Qea (o := 0) Qbo rfl Qf (by decide) rfl rfl) ?_
  obtain ⟨_, e23, hc16⟩ := he15 k6 _ (Qbr (show k6 < x0.length from by omega))
  obtain ⟨v17, v19, v21, rfl, r18, r20, r22⟩ := Qlu e23
  obtain ⟨m24, A25, c26, rfl, q27, r28⟩ := Qi r18
  obtain ⟨m29, A30, c31, rfl, q32, r33⟩ := Qi r20
  obtain ⟨m34, A35, c36, rfl, q37, r38⟩ := Qi r22
  refine wv (fun W hm => Qau Qs rfl rfl ((hm.cell0 (show ((a13.add (k6 * 7)).add 0).block < w.heap.size from by rw [Qab, Qab]; exact hb14.1)).trans (hc16 0 _ rfl))) ?_
  refine wm ?_
  refine wv Qcj ?_
  refine nt' ?_
  rcases dcn ((gt x0 k6).Query.Id) s7 with ⟨h39, g40⟩ | ⟨h39, g40⟩
  ·
   refine Qn rfl g40 ?_
   refine Qo (Qe (sr (wm ?_)))
   refine wv Qcw ?_
   refine wa (nt' (Qd (sr (wm (wm ?_)))))
   refine wv (vix 7 k6 Qch Qcq) ?_
   refine wv (vf Qda rfl Qbi) ?_
   refine wv (fun W hm => Qea (o := 1) Qbo rfl Qf (by decide) rfl rfl) ?_
   refine wv (fun W hm => Qau Qs rfl rfl ((hm.cell0 (show ((a13.add (k6 * 7)).add 1).block < w.heap.size from by rw [Qab, Qab]; exact hb14.1)).trans (hc16 1 _ rfl))) ?_
   refine wm ?_
   refine wv Qcj ?_
   refine nt' ?_
   rcases dcn ((gt x0 k6).Query.Tenant) (IntKind.i64.wrap (s7 + 1)) with ⟨h41, g42⟩ | ⟨h41, g42⟩
   ·
    refine Qn rfl g42 ?_
    refine Qo (Qe (sr (wm ?_)))
    refine wv Qcw ?_
    refine wa (nt' (sr (wm (wm ?_))))
    refine wv (vix 7 k6 Qch Qcq) ?_
    refine wv (vf Qda rfl Qbi) ?_
    refine wv (fun W hm => Qea (o := 2) Qbo rfl Qfp (by decide) rfl rfl) ?_
    refine wv (fun W hm => Qau Qcs rfl rfl ((hm.cell0 (show ((a13.add (k6 * 7)).add 2).block < w.heap.size from by rw [Qab, Qab]; exact hb14.1)).trans (hc16 2 _ rfl))) ?_
    refine wm ?_
    refine wcv (Qq Qadh rfl) (fun W hm => Qafo W _ ((gt x0 k6).Query.Conds) (IntKind.i64.wrap ((IntKind.i64.wrap (s7 + 1)) + 1)) (hm.rdS0 r28)) ?_
    refine wa (nt' (Qd (sr (wm ?_))))
    refine wv Qai ?_
    refine nt' ?_
    rcases dcd ((Qdb ((gt x0 k6).Query.Conds) (IntKind.i64.wrap ((IntKind.i64.wrap (s7 + 1)) + 1))) < 0) with ⟨h43, g44⟩ | ⟨h43, g44⟩
    ·
     refine Ql rfl g44 ?_
     refine sr (wa (nt' (Qj (Qg (Qz (Qg (Qg (Qz (Qg ?_)))))))))
     exact rti (h := Qbe (nr hF9 (Qc g40 (Qc g42 (Qb g44 (rfl))))) rfl)
    refine Qn rfl g44 ?_
    refine Qo (Qe (sr (wm (wm ?_))))
    refine wv (vix 7 k6 Qch Qcq) ?_
    refine wv (vf Qda rfl Qbi) ?_
    refine wv (fun W hm => Qea (o := 3) Qbo rfl Qam (by decide) rfl rfl) ?_
    refine wv (fun W hm => Qau Qp rfl rfl ((hm.cell0 (show ((a13.add (k6 * 7)).add 3).block < w.heap.size from by rw [Qab, Qab]; exact hb14.1)).trans (hc16 3 _ rfl))) ?_
    refine wm ?_
    refine wcv (Qq Qmb rfl) (fun W hm => Qmh W _ ((gt x0 k6).Query.Out) (Qdb ((gt x0 k6).Query.Conds) (IntKind.i64.wrap ((IntKind.i64.wrap (s7 + 1)) + 1))) (hm.rdS0 r33)) ?_
    refine wa (nt' (Qd (sr (wm ?_))))
    refine wv Qai ?_
    refine nt' ?_
    rcases dcd ((Qba ((gt x0 k6).Query.Out) (Qdb ((gt x0 k6).Query.Conds) (IntKind.i64.wrap ((IntKind.i64.wrap (s7 + 1)) + 1)))) < 0) with ⟨h45, g46⟩ | ⟨h45, g46⟩
    ·
     refine Ql rfl g46 ?_
     refine sr (wa (nt' (Qj (Qg (Qz (Qg (Qg (Qz (Qg ?_)))))))))
     exact rti (h := Qbe (nr hF9 (Qc g40 (Qc g42 (Qc g44 (Qb g46 (rfl)))))) rfl)
    refine Qn rfl g46 ?_
    refine Qo (Qe (Qd (sr (wm (wm ?_)))))
    refine wv (vix 7 k6 Qch Qcq) ?_
    refine wv (vf Qda rfl Qf) ?_
    refine wv (fun W hm => Qau Qs rfl rfl ((hm.cell0 (show ((a13.add (k6 * 7)).add 4).block < w.heap.size from by rw [Qab, Qab]; exact hb14.1)).trans (hc16 4 _ rfl))) ?_
    refine wm ?_
    refine wv Qcj ?_
    refine nt' ?_
    rcases dcn ((gt x0 k6).Time) (Qba ((gt x0 k6).Query.Out) (Qdb ((gt x0 k6).Query.Conds) (IntKind.i64.wrap ((IntKind.i64.wrap (s7 + 1)) + 1)))) with ⟨h47, g48⟩ | ⟨h47, g48⟩
    ·
     refine Qn rfl g48 ?_
     refine Qo (Qe (sr (wm ?_)))
     refine wv Qcw ?_
     refine wa (nt' (Qd (sr (wm (wm ?_)))))
     refine wv (vix 7 k6 Qch Qcq) ?_
     refine wv (vf Qda rfl Qf) ?_
     refine wv (fun W hm => Qau Qs rfl rfl ((hm.cell0 (show ((a13.add (k6 * 7)).add 5).block < w.heap.size from by rw [Qab, Qab]; exact hb14.1)).trans (hc16 5 _ rfl))) ?_
     refine wm ?_
     refine wv Qcj ?_
     refine nt' ?_
     rcases dcn ((gt x0 k6).Steps) (IntKind.i64.wrap ((Qba ((gt x0 k6).Query.Out) (Qdb ((gt x0 k6).Query.Conds) (IntKind.i64.wrap ((IntKind.i64.wrap (s7 + 1)) + 1)))) + 1)) with ⟨h49, g50⟩ | ⟨h49, g50⟩
     ·
      refine Qn rfl g50 ?_
      refine Qo (Qe (sr (wm ?_)))
      refine wv Qcw ?_
      refine wa (nt' (sr (wm (wm ?_))))
      refine wv (vix 7 k6 Qch Qcq) ?_
      refine wv (vf Qda rfl Qdt) ?_
      refine wv (fun W hm => Qau Qci rfl rfl ((hm.cell0 (show ((a13.add (k6 * 7)).add 6).block < w.heap.size from by rw [Qab, Qab]; exact hb14.1)).trans (hc16 6 _ rfl))) ?_
      refine wm ?_
      refine wcv (Qq Qadi rfl) (fun W hm => Qafq W _ ((gt x0 k6).Rows) (IntKind.i64.wrap ((IntKind.i64.wrap ((Qba ((gt x0 k6).Query.Out) (Qdb ((gt x0 k6).Query.Conds) (IntKind.i64.wrap ((IntKind.i64.wrap (s7 + 1)) + 1)))) + 1)) + 1)) (hm.rdS0 r38)) ?_
      refine wa (nt' (sr (wm ?_)))
      refine wv Qai ?_
      refine nt' ?_
      rcases dcd ((Qim ((gt x0 k6).Rows) (IntKind.i64.wrap ((IntKind.i64.wrap ((Qba ((gt x0 k6).Query.Out) (Qdb ((gt x0 k6).Query.Conds) (IntKind.i64.wrap ((IntKind.i64.wrap (s7 + 1)) + 1)))) + 1)) + 1))) < 0) with ⟨h51, g52⟩ | ⟨h51, g52⟩
      ·
       refine Ql rfl g52 ?_
       refine sr (wa (nt' (Qj (Qz (Qg (Qg (Qz (Qg ?_))))))))
       exact rti (h := Qbe (nr hF9 (Qc g40 (Qc g42 (Qc g44 (Qc g46 (Qc g48 (Qc g50 (Qb g52 (rfl))))))))) rfl)
      refine Qn rfl g52 ?_
      refine Qo (Qan (Qe (Qy (wm ?_))))
      refine wv (Qal k6 1 (by omega)) ?_
      refine wa (Qad ?_)
      exact Qao (k6 + 1, (Qim ((gt x0 k6).Rows) (IntKind.i64.wrap ((IntKind.i64.wrap ((Qba ((gt x0 k6).Query.Out) (Qdb ((gt x0 k6).Query.Conds) (IntKind.i64.wrap ((IntKind.i64.wrap (s7 + 1)) + 1)))) + 1)) + 1))), ()) sl3 idM ⟨(by omega), nx hF9 (Qc g40 (Qc g42 (Qc g44 (Qc g46 (Qc g48 (Qc g50 (Qc g52 (rfl)))))))), trivial⟩ rl
     refine Ql rfl g50 ?_
     refine sr (wa (nt' (Qj (Qg (Qz (Qg (Qg (Qz (Qg ?_)))))))))
     exact rti (h := Qbe (nr hF9 (Qc g40 (Qc g42 (Qc g44 (Qc g46 (Qc g48 (Qb g50 (rfl)))))))) rfl)
    refine Ql rfl g48 ?_
    refine sr (wa (nt' (Qj (Qg (Qz (Qg (Qg (Qz (Qg ?_)))))))))
    exact rti (h := Qbe (nr hF9 (Qc g40 (Qc g42 (Qc g44 (Qc g46 (Qb g48 (rfl))))))) rfl)
   refine Ql rfl g42 ?_
   refine sr (wa (nt' (Qj (Qg (Qz (Qg (Qg (Qz (Qg ?_)))))))))
   exact rti (h := Qbe (nr hF9 (Qc g40 (Qb g42 (rfl)))) rfl)
  refine Ql rfl g40 ?_
  refine sr (wa (nt' (Qj (Qg (Qz (Qg (Qg (Qz (Qg ?_)))))))))
  exact rti (h := Qbe (nr hF9 (Qb g40 (rfl))) rfl)
 refine Qn rfl g12 ?_
 refine Qay (Qu (Qu ?_))
 have hE54 := Qbg hl11 hF9
 refine Qaz (Qe (sr (wm (wa (nt' (Qj ?_))))))
 exact rti (h := Qaq hE54 (rfl))

def Qyw (x0 : (List Qbb)) (k6 : Nat) (s7 : Int) : Int ⊕ (Int) :=
 cond (((gt x0 k6).Segment) != s7) (Sum.inl (-1)) (cond (((gt x0 k6).Base) != (IntKind.i64.wrap (s7 + 1))) (Sum.inl (-1)) (cond (decide ((Qba ((gt x0 k6).Ids) (IntKind.i64.wrap ((IntKind.i64.wrap (s7 + 1)) + 1))) < 0)) (Sum.inl (-1)) (cond (decide ((Qba ((gt x0 k6).Tenants) (Qba ((gt x0 k6).Ids) (IntKind.i64.wrap ((IntKind.i64.wrap (s7 + 1)) + 1)))) < 0)) (Sum.inl (-1)) (cond (decide ((Qba ((gt x0 k6).Rows) (Qba ((gt x0 k6).Tenants) (Qba ((gt x0 k6).Ids) (IntKind.i64.wrap ((IntKind.i64.wrap (s7 + 1)) + 1))))) < 0)) (Sum.inl (-1)) (Sum.inr (Qba ((gt x0 k6).Rows) (Qba ((gt x0 k6).Tenants) (Qba ((gt x0 k6).Ids) (IntKind.i64.wrap ((IntKind.i64.wrap (s7 + 1)) + 1))))))))))
def Qsd (x0 : (List Qbb)) (x1 : Int) : Int :=
 Sum.elim id (fun (s : Int) => s) (rng (R := Int) (fun k (s : Int) => Qyw x0 k s) (x0.length - 0) 0 x1)
theorem cb87 : Cb Tryz.prog 87 := ⟨f87, _, func87, rfl, by decide⟩
theorem Qatq (w : World) (z0 : Value) (x0 : (List Qbb)) (x1 : Int) (r_0 : rdS Qav w w.heap.size z0 x0) :
  Calls Tryz.prog 87 #[z0, iV x1] w (rI w (Qsd x0 x1)) := by
 obtain ⟨m1, A2, c3, rfl, q4, r5⟩ := Qi r_0
 refine ce2 (L := [(0, .slice A2 x0.length c3), (1, iV x1)]) (N := 58) func87 ?_
 refine sr (wa (nt' (Qd (sr (wa (nt' (Qx ?_)))))))
 refine Qbf (S := Int) (R := Unit) (fun k (s : Int) => Qyw x0 k s) x0.length 0 x1 () (fun s => [(0, .slice A2 x0.length c3), (1, iV s.2.1), (5, nI s.1)]) (fun s => []) (fun s => True) sl3 trivial ?_
 rintro ⟨k6, s7, ⟨⟩⟩ H10 _ _ e e'
 dsimp only at H10 ⊢
 subst e e'
 obtain ⟨hk8, hF9, _⟩ := H10
 refine Qd (sr (wm (wm ?_)))
 refine wv (Qaf Qcv) ?_
 refine wv Qai ?_
 refine nt' ?_
 rcases dcl k6 x0.length with ⟨hl11, g12⟩ | ⟨hl11, g12⟩
 ·
  refine Ql rfl g12 ?_
  refine Qo (Qe (Qd (Qx (Qd (sr (wm (wm ?_)))))))
  obtain ⟨a13, rfl, hb14, he15⟩ := q4 (by omega)
  refine wv (vix 5 k6 Qcv Qcr) ?_
  refine wv (vf Qbz rfl Qf) ?_
  obtain ⟨_, e23, hc16⟩ := he15 k6 _ (Qbr (show k6 < x0.length from by omega))
  obtain ⟨v17, v19, v21, rfl, r18, r20, r22⟩ := Qjg e23
  obtain ⟨m24, A25, c26, rfl, q27, r28⟩ := Qi r18
  obtain ⟨m29, A30, c31, rfl, q32, r33⟩ := Qi r20
  obtain ⟨m34, A35, c36, rfl, q37, r38⟩ := Qi r22
  refine wv (fun W hm => Qau Qs rfl rfl ((hm.cell0 (show ((a13.add (k6 * 5)).add 0).block < w.heap.size from by rw [Qab, Qab]; exact hb14.1)).trans (hc16 0 _ rfl))) ?_
  refine wm ?_
  refine wv Qcj ?_
  refine nt' ?_
  rcases dcn ((gt x0 k6).Segment) s7 with ⟨h39, g40⟩ | ⟨h39, g40⟩
  ·
   refine Qn rfl g40 ?_
   refine Qo (Qe (sr (wm ?_)))
   refine wv Qcw ?_
   refine wa (nt' (Qd (sr (wm (wm ?_)))))
   refine wv (vix 5 k6 Qcv Qcr) ?_
   refine wv (vf Qbz rfl Qf) ?_
   refine wv (fun W hm => Qau Qs rfl rfl ((hm.cell0 (show ((a13.add (k6 * 5)).add 1).block < w.heap.size from by rw [Qab, Qab]; exact hb14.1)).trans (hc16 1 _ rfl))) ?_
   refine wm ?_
   refine wv Qcj ?_
   refine nt' ?_
   rcases dcn ((gt x0 k6).Base) (IntKind.i64.wrap (s7 + 1)) with ⟨h41, g42⟩ | ⟨h41, g42⟩
   ·
    refine Qn rfl g42 ?_
    refine Qo (Qe (sr (wm ?_)))
    refine wv Qcw ?_
    refine wa (nt' (sr (wm (wm ?_))))
    refine wv (vix 5 k6 Qcv Qcr) ?_
    refine wv (vf Qbz rfl Qam) ?_
    refine wv (fun W hm => Qau Qp rfl rfl ((hm.cell0 (show ((a13.add (k6 * 5)).add 2).block < w.heap.size from by rw [Qab, Qab]; exact hb14.1)).trans (hc16 2 _ rfl))) ?_
    refine wm ?_
    refine wcv (Qq Qmb rfl) (fun W hm => Qmh W _ ((gt x0 k6).Ids) (IntKind.i64.wrap ((IntKind.i64.wrap (s7 + 1)) + 1)) (hm.rdS0 r28)) ?_
    refine wa (nt' (Qd (sr (wm ?_))))
    refine wv Qai ?_
    refine nt' ?_
    rcases dcd ((Qba ((gt x0 k6).Ids) (IntKind.i64.wrap ((IntKind.i64.wrap (s7 + 1)) + 1))) < 0) with ⟨h43, g44⟩ | ⟨h43, g44⟩
    ·
     refine Ql rfl g44 ?_
     refine sr (wa (nt' (Qj (Qg (Qz (Qg (Qg (Qz (Qg ?_)))))))))
     exact rti (h := Qbe (nr hF9 (Qc g40 (Qc g42 (Qb g44 (rfl))))) rfl)
    refine Qn rfl g44 ?_
    refine Qo (Qe (sr (wm (wm ?_))))
    refine wv (vix 5 k6 Qcv Qcr) ?_
    refine wv (vf Qbz rfl Qam) ?_
    refine wv (fun W hm => Qau Qp rfl rfl ((hm.cell0 (show ((a13.add (k6 * 5)).add 3).block < w.heap.size from by rw [Qab, Qab]; exact hb14.1)).trans (hc16 3 _ rfl))) ?_
    refine wm ?_
    refine wcv (Qq Qmb rfl) (fun W hm => Qmh W _ ((gt x0 k6).Tenants) (Qba ((gt x0 k6).Ids) (IntKind.i64.wrap ((IntKind.i64.wrap (s7 + 1)) + 1))) (hm.rdS0 r33)) ?_
    refine wa (nt' (Qd (sr (wm ?_))))
    refine wv Qai ?_
    refine nt' ?_
    rcases dcd ((Qba ((gt x0 k6).Tenants) (Qba ((gt x0 k6).Ids) (IntKind.i64.wrap ((IntKind.i64.wrap (s7 + 1)) + 1)))) < 0) with ⟨h45, g46⟩ | ⟨h45, g46⟩
    ·
     refine Ql rfl g46 ?_
     refine sr (wa (nt' (Qj (Qg (Qz (Qg (Qg (Qz (Qg ?_)))))))))
     exact rti (h := Qbe (nr hF9 (Qc g40 (Qc g42 (Qc g44 (Qb g46 (rfl)))))) rfl)
    refine Qn rfl g46 ?_
    refine Qo (Qe (sr (wm (wm ?_))))
    refine wv (vix 5 k6 Qcv Qcr) ?_
    refine wv (vf Qbz rfl Qam) ?_
    refine wv (fun W hm => Qau Qp rfl rfl ((hm.cell0 (show ((a13.add (k6 * 5)).add 4).block < w.heap.size from by rw [Qab, Qab]; exact hb14.1)).trans (hc16 4 _ rfl))) ?_
    refine wm ?_
    refine wcv (Qq Qmb rfl) (fun W hm => Qmh W _ ((gt x0 k6).Rows) (Qba ((gt x0 k6).Tenants) (Qba ((gt x0 k6).Ids) (IntKind.i64.wrap ((IntKind.i64.wrap (s7 + 1)) + 1)))) (hm.rdS0 r38)) ?_
    refine wa (nt' (sr (wm ?_)))
    refine wv Qai ?_
    refine nt' ?_
    rcases dcd ((Qba ((gt x0 k6).Rows) (Qba ((gt x0 k6).Tenants) (Qba ((gt x0 k6).Ids) (IntKind.i64.wrap ((IntKind.i64.wrap (s7 + 1)) + 1))))) < 0) with ⟨h47, g48⟩ | ⟨h47, g48⟩
    ·
     refine Ql rfl g48 ?_
     refine sr (wa (nt' (Qj (Qz (Qg (Qg (Qz (Qg ?_))))))))
     exact rti (h := Qbe (nr hF9 (Qc g40 (Qc g42 (Qc g44 (Qc g46 (Qb g48 (rfl))))))) rfl)
    refine Qn rfl g48 ?_
    refine Qo (Qan (Qe (Qy (wm ?_))))
    refine wv (Qal k6 1 (by omega)) ?_
    refine wa (Qad ?_)
    exact Qao (k6 + 1, (Qba ((gt x0 k6).Rows) (Qba ((gt x0 k6).Tenants) (Qba ((gt x0 k6).Ids) (IntKind.i64.wrap ((IntKind.i64.wrap (s7 + 1)) + 1))))), ()) sl3 idM ⟨(by omega), nx hF9 (Qc g40 (Qc g42 (Qc g44 (Qc g46 (Qc g48 (rfl)))))), trivial⟩ rl
   refine Ql rfl g42 ?_
   refine sr (wa (nt' (Qj (Qg (Qz (Qg (Qg (Qz (Qg ?_)))))))))
   exact rti (h := Qbe (nr hF9 (Qc g40 (Qb g42 (rfl)))) rfl)
  refine Ql rfl g40 ?_
  refine sr (wa (nt' (Qj (Qg (Qz (Qg (Qg (Qz (Qg ?_)))))))))
  exact rti (h := Qbe (nr hF9 (Qb g40 (rfl))) rfl)
 refine Qn rfl g12 ?_
 refine Qay (Qu (Qu ?_))
 have hE50 := Qbg hl11 hF9
 refine Qaz (Qe (sr (wm (wa (nt' (Qj ?_))))))
 exact rti (h := Qaq hE50 (rfl))

def Qnp (x0 : Qr) (x1 : Int) : Int :=
 cond (decide ((Qha x0.Store x1) < 0)) (-1) (cond (decide ((Qba x0.Order (Qha x0.Store x1)) < 0)) (-1) (cond (decide ((Qko x0.Active (Qba x0.Order (Qha x0.Store x1))) < 0)) (-1) (cond (decide ((Qnq x0.Done (Qko x0.Active (Qba x0.Order (Qha x0.Store x1)))) < 0)) (-1) (cond (decide ((Qsd x0.Ledger (Qnq x0.Done (Qko x0.Active (Qba x0.Order (Qha x0.Store x1))))) < 0)) (-1) (Qsd x0.Ledger (Qnq x0.Done (Qko x0.Active (Qba x0.Order (Qha x0.Store x1)))))))))
theorem cb15 : Cb Tryz.prog 15 := ⟨f15, _, func15, rfl, by decide⟩
theorem Qafp (w : World) (z0 : List Value) (x0 : Qr) (x1 : Int) (r_0 : Qcf.rd w w.heap.size z0 x0) :
  Calls Tryz.prog 15 #[.agg z0.toArray, iV x1] w (rI w (Qnp x0 x1)) := by
 obtain ⟨v1, v3, v5, v7, v9, rfl, r2, r4, r6, r8, r10⟩ := Qiq r_0
 obtain ⟨m11, A12, c13, rfl, q14, r15⟩ := Qi r2
 obtain ⟨m16, A17, c18, rfl, q19, r20⟩ := Qi r4
 obtain ⟨m21, A22, c23, rfl, q24, r25⟩ := Qi r6
 obtain ⟨m26, A27, c28, rfl, q29, r30⟩ := Qi r8
 obtain ⟨m31, A32, c33, rfl, q34, r35⟩ := Qi r10
 refine ce2 (L := [(0, .agg #[.slice A12 x0.Store.Segments.length c13, iV x0.Store.Now, iV x0.Cursor, .slice A17 x0.Order.length c18, .slice A22 x0.Active.length c23, .slice A27 x0.Done.length c28, .slice A32 x0.Ledger.length c33, iV x0.Steps]), (1, iV x1)]) (N := 36) func15 ?_
 refine sr ?_
 refine Qbq rfl (Qk rfl) (by decide) (fun p36 => ?_)
 refine wa (nt' (sr ?_))
 refine wv (vf Qac rfl Qbt) ?_
 refine wv (fun W hm => Qae (cs := [.slice A12 x0.Store.Segments.length c13, iV x0.Store.Now]) Qbx Qbt rfl rfl (hm.boxPart (n := 0) rfl rfl)) ?_
 refine wm ?_
 refine wcv (Qq cb83 rfl) (fun W hm => Qats W _ x0.Store x1 (Qfw (x := x0.Store) (hm.rdS0 r15))) ?_
 refine wa (nt' (Qd (sr (wm ?_))))
 refine wv Qai ?_
 refine nt' ?_
 rcases dcd ((Qha x0.Store x1) < 0) with ⟨h37, g38⟩ | ⟨h37, g38⟩
 ·
  refine Ql rfl g38 ?_
  refine sr (wa (nt' (Qj (Qg ?_))))
  exact rti (h := Qb g38 (rfl))
 refine Qn rfl g38 ?_
 refine Qo (Qe (sr ?_))
 refine wv (vf Qac rfl Qam) ?_
 refine wv (vl 0 3 Qp) ?_
 refine wm ?_
 refine wcv (Qq Qmb rfl) (fun W hm => Qmh W _ x0.Order (Qha x0.Store x1) (hm.rdS0 r20)) ?_
 refine wa (nt' (Qd (sr (wm ?_))))
 refine wv Qai ?_
 refine nt' ?_
 rcases dcd ((Qba x0.Order (Qha x0.Store x1)) < 0) with ⟨h39, g40⟩ | ⟨h39, g40⟩
 ·
  refine Ql rfl g40 ?_
  refine sr (wa (nt' (Qj (Qg ?_))))
  exact rti (h := Qc g38 (Qb g40 (rfl)))
 refine Qn rfl g40 ?_
 refine Qo (Qe (sr ?_))
 refine wv (vf Qac rfl Qcz) ?_
 refine wv (vl 0 4 Qaw) ?_
 refine wm ?_
 refine wcv (Qq cb85 rfl) (fun W hm => Qatp W _ x0.Active (Qba x0.Order (Qha x0.Store x1)) (hm.rdS0 r25)) ?_
 refine wa (nt' (Qd (sr (wm ?_))))
 refine wv Qai ?_
 refine nt' ?_
 rcases dcd ((Qko x0.Active (Qba x0.Order (Qha x0.Store x1))) < 0) with ⟨h41, g42⟩ | ⟨h41, g42⟩
 ·
  refine Ql rfl g42 ?_
  refine sr (wa (nt' (Qj (Qg ?_))))
  exact rti (h := Qc g38 (Qc g40 (Qb g42 (rfl))))
 refine Qn rfl g42 ?_
 refine Qo (Qe (sr ?_))
 refine wv (vf Qac rfl Qek) ?_
 refine wv (vl 0 5 Qch) ?_
 refine wm ?_
 refine wcv (Qq cb86 rfl) (fun W hm => Qatr W _ x0.Done (Qko x0.Active (Qba x0.Order (Qha x0.Store x1))) (hm.rdS0 r30)) ?_
 refine wa (nt' (Qd (sr (wm ?_))))
 refine wv Qai ?_
 refine nt' ?_
 rcases dcd ((Qnq x0.Done (Qko x0.Active (Qba x0.Order (Qha x0.Store x1)))) < 0) with ⟨h43, g44⟩ | ⟨h43, g44⟩
 ·
  refine Ql rfl g44 ?_
  refine sr (wa (nt' (Qj (Qg ?_))))
  exact rti (h := Qc g38 (Qc g40 (Qc g42 (Qb g44 (rfl)))))
 refine Qn rfl g44 ?_
 refine Qo (Qe (sr ?_))
 refine wv (vf Qac rfl Qfc) ?_
 refine wv (vl 0 6 Qcv) ?_
 refine wm ?_
 refine wcv (Qq cb87 rfl) (fun W hm => Qatq W _ x0.Ledger (Qnq x0.Done (Qko x0.Active (Qba x0.Order (Qha x0.Store x1)))) (hm.rdS0 r35)) ?_
 refine wa (nt' (Qd (sr (wm ?_))))
 refine wv Qai ?_
 refine nt' ?_
 rcases dcd ((Qsd x0.Ledger (Qnq x0.Done (Qko x0.Active (Qba x0.Order (Qha x0.Store x1))))) < 0) with ⟨h45, g46⟩ | ⟨h45, g46⟩
 ·
  refine Ql rfl g46 ?_
  refine sr (wa (nt' (Qj (Qg ?_))))
  exact rti (h := Qc g38 (Qc g40 (Qc g42 (Qc g44 (Qb g46 (rfl))))))
 refine Qn rfl g46 ?_
 refine Qo (Qe (sr (wm (wa (nt' (Qj ?_))))))
 exact rti (h := Qc g38 (Qc g40 (Qc g42 (Qc g44 (Qc g46 (rfl))))))

end Go.Proofs.YtdlminfjdodjoaaGreat
