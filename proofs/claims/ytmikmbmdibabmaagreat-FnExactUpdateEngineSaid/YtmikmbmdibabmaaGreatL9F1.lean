/-
  Contracts of functions, printed by a program of ours.
-/
import Derived.Test.YtmikmbmdibabmaaGreatDat
namespace Go.Proofs.YtmikmbmdibabmaaGreat
open Go.RowKit
set_option maxRecDepth 100000
set_option maxHeartbeats 4000000
open _root_.Go.Proofs.Tryz
def Qdo (x0 : (List Int)) (x1 : Int) : Int :=
 cond (decide ((IntKind.i64.wrap (x1 - ((x0.length : Nat) : Int))) < 0)) (-1) (IntKind.i64.wrap (x1 - ((x0.length : Nat) : Int)))
theorem Qlo : Cb Tryz.prog 77 := ⟨f77, _, func77, rfl, by decide⟩
theorem Qmb (w : World) (z0 : Value) (x0 : (List Int)) (x1 : Int) (r_0 : rdS Qg w w.heap.size z0 x0) :
  Calls Tryz.prog 77 #[z0, .int .i64 x1] w fun e w' => e = .returned (.int .i64 (Qdo x0 x1)) ∧ Below w.heap.size w w' := by
 obtain ⟨m1, A2, c3, rfl, q4, r5⟩ := Qk r_0
 refine ce2 (L := [(0, .slice A2 x0.length c3), (1, .int .i64 x1)]) (N := 12) func77 ?_
 refine sr (wa (nt' (sr (wm (wm ?_)))))
 refine wv (Qai Qv) ?_
 refine wv (fun W hm => Qhw rfl rfl) ?_
 refine wa (nt' (Qf (sr (wm ?_))))
 refine wv Qak ?_
 refine nt' ?_
 by_cases h6 : (IntKind.i64.wrap (x1 - ((x0.length : Nat) : Int))) < 0
 ·have g7 := decide_eq_true h6
  refine Ql rfl g7 ?_
  refine sr (wa (nt' (Qj (Qe ?_))))
  exact rti (h := Qb g7 (rfl))
 have g7 := decide_eq_false h6
 refine Qp rfl g7 ?_
 refine Qq (Qi (sr (wm (wa (nt' (Qj ?_))))))
 exact rti (h := Qc g7 (rfl))

def Qme (x0 : Qn) (x1 : Int) : Int :=
 cond (decide ((Qdo x0.Values x1) < 0)) (-1) (Qdo x0.Values x1)
theorem Qaih : Cb Tryz.prog 230 := ⟨f230, _, func230, rfl, by decide⟩
theorem Qaoq (w : World) (z0 : List Value) (x0 : Qn) (x1 : Int) (r_0 : Qhr.rd w w.heap.size z0 x0) :
  Calls Tryz.prog 230 #[.agg z0.toArray, .int .i64 x1] w fun e w' => e = .returned (.int .i64 (Qme x0 x1)) ∧ Below w.heap.size w w' := by
 obtain ⟨v1, rfl, r2⟩ := Qsz r_0
 obtain ⟨m3, A4, c5, rfl, q6, r7⟩ := Qk r2
 refine ce2 (L := [(0, .agg #[.int .i64 x0.Id, .slice A4 x0.Values.length c5, .int .i64 x0.Born, .int .i64 x0.Died]), (1, .int .i64 x1)]) (N := 12) func230 ?_
 refine sr ?_
 refine Qbj rfl (Qo rfl) (by decide) (fun p8 => ?_)
 refine wa (nt' (sr ?_))
 refine wv (vf Qpc rfl Qap) ?_
 refine wv (vl 0 1 Qv) ?_
 refine wm ?_
 refine wcv (Qr Qlo rfl) (fun W hm => Qmb W _ x0.Values x1 (hm.rdS0 r7)) ?_
 refine wa (nt' (Qf (sr (wm ?_))))
 refine wv Qak ?_
 refine nt' ?_
 by_cases h9 : (Qdo x0.Values x1) < 0
 ·have g10 := decide_eq_true h9
  refine Ql rfl g10 ?_
  refine sr (wa (nt' (Qj (Qe ?_))))
  exact rti (h := Qb g10 (rfl))
 have g10 := decide_eq_false h9
 refine Qp rfl g10 ?_
 refine Qq (Qi (sr (wm (wa (nt' (Qj ?_))))))
 exact rti (h := Qc g10 (rfl))

def Qabi (x0 : (List Qn)) (k8 : Nat) (s9 : Int) : Int ⊕ (Int) :=
 cond (decide ((Qme (gt x0 k8) s9) < 0)) (Sum.inl (-1)) (Sum.inr (Qme (gt x0 k8) s9))
def Qnb (x0 : (List Qn)) (x1 : Int) : Int :=
 cond (decide ((IntKind.i64.wrap (x1 - ((x0.length : Nat) : Int))) < 0)) (-1) (Sum.elim id (fun (s : Int) => s) (rng (R := Int) (fun k (s : Int) => Qabi x0 k s) (x0.length - 0) 0 (IntKind.i64.wrap (x1 - ((x0.length : Nat) : Int)))))
theorem Qahx : Cb Tryz.prog 211 := ⟨f211, _, func211, rfl, by decide⟩
theorem Qaoo (w : World) (z0 : Value) (x0 : (List Qn)) (x1 : Int) (r_0 : rdS Qhr w w.heap.size z0 x0) :
  Calls Tryz.prog 211 #[z0, .int .i64 x1] w fun e w' => e = .returned (.int .i64 (Qnb x0 x1)) ∧ Below w.heap.size w w' := by
 obtain ⟨m1, A2, c3, rfl, q4, r5⟩ := Qk r_0
 refine ce2 (L := [(0, .slice A2 x0.length c3), (1, .int .i64 x1)]) (N := 27) func211 ?_
 refine sr (wa (nt' (sr (wm (wm ?_)))))
 refine wv (Qai Qnw) ?_
 refine wv (fun W hm => Qhw rfl rfl) ?_
 refine wa (nt' (Qf (sr (wm ?_))))
 refine wv Qak ?_
 refine nt' ?_
 by_cases h6 : (IntKind.i64.wrap (x1 - ((x0.length : Nat) : Int))) < 0
 ·have g7 := decide_eq_true h6
  refine Ql rfl g7 ?_
  refine sr (wa (nt' (Qj (Qe ?_))))
  exact rti (h := Qb g7 (rfl))
 have g7 := decide_eq_false h6
 refine Qp rfl g7 ?_
 refine Qq (Qi (Qf (sr (wa (nt' (Qab ?_))))))
 let F1 := fun k (s : Int) => Qabi x0 k s
 let R2 := rng (R := Int) F1
 refine Qbl (σ := Nat × (Int) × (Unit)) (fun s => [(0, .slice A2 x0.length c3), (1, .int .i64 s.2.1), (5, .int .i64 ((s.1 : Nat) : Int))]) (fun s => []) (fun s => s.1 ≤ x0.length ∧ R2 (x0.length - s.1) s.1 s.2.1 = R2 (x0.length - 0) 0 (IntKind.i64.wrap (x1 - ((x0.length : Nat) : Int)))) (fun s => x0.length - s.1) (0, (IntKind.i64.wrap (x1 - ((x0.length : Nat) : Int))), ()) sl3 (fun W hm => hm) ⟨(by omega), rfl⟩ ?_
 rintro ⟨k8, s9, ⟨⟩⟩ H12
 obtain ⟨hk10, hF11⟩ : k8 ≤ x0.length ∧ R2 (x0.length - k8) k8 s9 = R2 (x0.length - 0) 0 (IntKind.i64.wrap (x1 - ((x0.length : Nat) : Int))) := H12
 show CM Tryz.prog 27 _ _ _ _ [(0, .slice A2 x0.length c3), (1, .int .i64 s9), (5, .int .i64 ((k8 : Nat) : Int))] []
 refine Qf (sr (wm (wm ?_)))
 refine wv (Qai Qnw) ?_
 refine wv Qak ?_
 refine nt' ?_
 by_cases hl13 : k8 < x0.length
 ·have g14 := dlT hl13
  refine Ql rfl g14 ?_
  refine Qq (Qi (Qf (Qab (sr (wm (wm ?_))))))
  obtain ⟨a15, rfl, hb16, he17⟩ := q4 (by omega)
  refine wv (vix 4 k8 Qnw type239) ?_
  obtain ⟨_, e21, hc18⟩ := he17 k8 _ (Qca (show k8 < x0.length from by omega))
  obtain ⟨v19, rfl, r20⟩ := Qsz e21
  obtain ⟨m22, A23, c24, rfl, q25, r26⟩ := Qk r20
  refine wv (fun W hm => Qz (cs := [.int .i64 ((gt x0 k8).Id), .slice A23 ((gt x0 k8).Values).length c24, .int .i64 ((gt x0 k8).Born), .int .i64 ((gt x0 k8).Died)]) Qpc type239 rfl rfl (hm.elCells (show (a15.add (k8 * 4)).block < w.heap.size from by rw [Qah]; exact hb16.1) hc18)) ?_
  refine wm ?_
  refine wcv (Qr Qaih rfl) (fun W hm => Qaoq W _ (gt x0 k8) s9 (Qadk (x := (gt x0 k8)) (hm.rdS0 r26))) ?_
  refine wa (nt' (sr (wm ?_)))
  refine wv Qak ?_
  refine nt' ?_
  by_cases h27 : (Qme (gt x0 k8) s9) < 0
  ·have g28 := decide_eq_true h27
   refine Ql rfl g28 ?_
   refine sr (wa (nt' (Qj (Qy (Qe (Qe (Qy (Qe ?_))))))))
   exact rti (h := Qc g7 (Qba (Qbc (body := F1) (k := k8) (s := s9) (show k8 < x0.length from by omega) (Qb g28 (rfl)) hF11) rfl))
  have g28 := decide_eq_false h27
  refine Qp rfl g28 ?_
  refine Qq (Qax (Qi (Qad (wm ?_))))
  refine wv (Qbd k8 1 (by omega)) ?_
  refine wa (Qal ?_)
  have hn29 := Qbb (R := Int) (body := F1) (k := k8) (s := s9) (s' := (Qme (gt x0 k8) s9)) (show k8 < x0.length from by omega) (Qc g28 (rfl)) hF11
  exact Qaz (k8 + 1, (Qme (gt x0 k8) s9), ()) sl3 (fun W hm => hm) ⟨(by omega), hn29⟩ (rl (by omega))
 have g14 := dlF hl13
 refine Qp rfl g14 ?_
 refine Qbk (Qac (Qac ?_))
 have hE30 : R2 (x0.length - 0) 0 (IntKind.i64.wrap (x1 - ((x0.length : Nat) : Int))) = Sum.inr s9 := Qbn hl13 hF11
 refine Qbm (Qi (sr (wm (wa (nt' (Qj ?_))))))
 exact rti (h := Qc g7 (Qat hE30 (rfl)))

def Qabh (x0 : (List (List Qn))) (k8 : Nat) (s9 : Int) : Int ⊕ (Int) :=
 cond (decide ((Qnb (gt x0 k8) s9) < 0)) (Sum.inl (-1)) (Sum.inr (Qnb (gt x0 k8) s9))
def Qqe (x0 : (List (List Qn))) (x1 : Int) : Int :=
 cond (decide ((IntKind.i64.wrap (x1 - ((x0.length : Nat) : Int))) < 0)) (-1) (Sum.elim id (fun (s : Int) => s) (rng (R := Int) (fun k (s : Int) => Qabh x0 k s) (x0.length - 0) 0 (IntKind.i64.wrap (x1 - ((x0.length : Nat) : Int)))))
theorem Qagm : Cb Tryz.prog 155 := ⟨f155, _, func155, rfl, by decide⟩
theorem Qaom (w : World) (z0 : Value) (x0 : (List (List Qn))) (x1 : Int) (r_0 : rdS (tSl Qhr 239) w w.heap.size z0 x0) :
  Calls Tryz.prog 155 #[z0, .int .i64 x1] w fun e w' => e = .returned (.int .i64 (Qqe x0 x1)) ∧ Below w.heap.size w w' := by
 obtain ⟨m1, A2, c3, rfl, q4, r5⟩ := Qk r_0
 refine ce2 (L := [(0, .slice A2 x0.length c3), (1, .int .i64 x1)]) (N := 27) func155 ?_
 refine sr (wa (nt' (sr (wm (wm ?_)))))
 refine wv (Qai Qnx) ?_
 refine wv (fun W hm => Qhw rfl rfl) ?_
 refine wa (nt' (Qf (sr (wm ?_))))
 refine wv Qak ?_
 refine nt' ?_
 by_cases h6 : (IntKind.i64.wrap (x1 - ((x0.length : Nat) : Int))) < 0
 ·have g7 := decide_eq_true h6
  refine Ql rfl g7 ?_
  refine sr (wa (nt' (Qj (Qe ?_))))
  exact rti (h := Qb g7 (rfl))
 have g7 := decide_eq_false h6
 refine Qp rfl g7 ?_
 refine Qq (Qi (Qf (sr (wa (nt' (Qab ?_))))))
 let F1 := fun k (s : Int) => Qabh x0 k s
 let R2 := rng (R := Int) F1
 refine Qbl (σ := Nat × (Int) × (Unit)) (fun s => [(0, .slice A2 x0.length c3), (1, .int .i64 s.2.1), (5, .int .i64 ((s.1 : Nat) : Int))]) (fun s => []) (fun s => s.1 ≤ x0.length ∧ R2 (x0.length - s.1) s.1 s.2.1 = R2 (x0.length - 0) 0 (IntKind.i64.wrap (x1 - ((x0.length : Nat) : Int)))) (fun s => x0.length - s.1) (0, (IntKind.i64.wrap (x1 - ((x0.length : Nat) : Int))), ()) sl3 (fun W hm => hm) ⟨(by omega), rfl⟩ ?_
 rintro ⟨k8, s9, ⟨⟩⟩ H12
 obtain ⟨hk10, hF11⟩ : k8 ≤ x0.length ∧ R2 (x0.length - k8) k8 s9 = R2 (x0.length - 0) 0 (IntKind.i64.wrap (x1 - ((x0.length : Nat) : Int))) := H12
 show CM Tryz.prog 27 _ _ _ _ [(0, .slice A2 x0.length c3), (1, .int .i64 s9), (5, .int .i64 ((k8 : Nat) : Int))] []
 refine Qf (sr (wm (wm ?_)))
 refine wv (Qai Qnx) ?_
 refine wv Qak ?_
 refine nt' ?_
 by_cases hl13 : k8 < x0.length
 ·have g14 := dlT hl13
  refine Ql rfl g14 ?_
  refine Qq (Qi (Qf (Qab (sr (wm (wm ?_))))))
  obtain ⟨a15, rfl, hb16, he17⟩ := q4 (by omega)
  refine wv (vix 1 k8 Qnx type219) ?_
  obtain ⟨_, e19, hc18⟩ := he17 k8 _ (Qca (show k8 < x0.length from by omega))
  obtain ⟨v20, rfl, r21⟩ := e19
  obtain ⟨m22, A23, c24, rfl, q25, r26⟩ := Qk r21
  refine wv (fun W hm => Qaw Qnw rfl rfl ((hm.cell0 (show (a15.add (k8 * 1)).block < w.heap.size from by rw [Qah]; exact hb16.1)).trans (hc18 0 _ rfl))) ?_
  refine wm ?_
  refine wcv (Qr Qahx rfl) (fun W hm => Qaoo W _ (gt x0 k8) s9 (hm.rdS0 r26)) ?_
  refine wa (nt' (sr (wm ?_)))
  refine wv Qak ?_
  refine nt' ?_
  by_cases h27 : (Qnb (gt x0 k8) s9) < 0
  ·have g28 := decide_eq_true h27
   refine Ql rfl g28 ?_
   refine sr (wa (nt' (Qj (Qy (Qe (Qe (Qy (Qe ?_))))))))
   exact rti (h := Qc g7 (Qba (Qbc (body := F1) (k := k8) (s := s9) (show k8 < x0.length from by omega) (Qb g28 (rfl)) hF11) rfl))
  have g28 := decide_eq_false h27
  refine Qp rfl g28 ?_
  refine Qq (Qax (Qi (Qad (wm ?_))))
  refine wv (Qbd k8 1 (by omega)) ?_
  refine wa (Qal ?_)
  have hn29 := Qbb (R := Int) (body := F1) (k := k8) (s := s9) (s' := (Qnb (gt x0 k8) s9)) (show k8 < x0.length from by omega) (Qc g28 (rfl)) hF11
  exact Qaz (k8 + 1, (Qnb (gt x0 k8) s9), ()) sl3 (fun W hm => hm) ⟨(by omega), hn29⟩ (rl (by omega))
 have g14 := dlF hl13
 refine Qp rfl g14 ?_
 refine Qbk (Qac (Qac ?_))
 have hE30 : R2 (x0.length - 0) 0 (IntKind.i64.wrap (x1 - ((x0.length : Nat) : Int))) = Sum.inr s9 := Qbn hl13 hF11
 refine Qbm (Qi (sr (wm (wa (nt' (Qj ?_))))))
 exact rti (h := Qc g7 (Qat hE30 (rfl)))

def Qgs (x0 : Qx) (x1 : Int) : Int :=
 cond (decide ((Qqe x0.Segments x1) < 0)) (-1) (Qqe x0.Segments x1)
theorem cb76 : Cb Tryz.prog 76 := ⟨f76, _, func76, rfl, by decide⟩
theorem Qaoj (w : World) (z0 : List Value) (x0 : Qx) (x1 : Int) (r_0 : Qns.rd w w.heap.size z0 x0) :
  Calls Tryz.prog 76 #[.agg z0.toArray, .int .i64 x1] w fun e w' => e = .returned (.int .i64 (Qgs x0 x1)) ∧ Below w.heap.size w w' := by
 obtain ⟨v1, rfl, r2⟩ := Qadi r_0
 obtain ⟨m3, A4, c5, rfl, q6, r7⟩ := Qk r2
 refine ce2 (L := [(0, .agg #[.slice A4 x0.Segments.length c5, .int .i64 x0.Now]), (1, .int .i64 x1)]) (N := 12) func76 ?_
 refine sr ?_
 refine Qbj rfl (Qo rfl) (by decide) (fun p8 => ?_)
 refine wa (nt' (sr ?_))
 refine wv (vf underlying24 rfl type22) ?_
 refine wv (vl 0 0 Qnx) ?_
 refine wm ?_
 refine wcv (Qr Qagm rfl) (fun W hm => Qaom W _ x0.Segments x1 (hm.rdS0 r7)) ?_
 refine wa (nt' (Qf (sr (wm ?_))))
 refine wv Qak ?_
 refine nt' ?_
 by_cases h9 : (Qqe x0.Segments x1) < 0
 ·have g10 := decide_eq_true h9
  refine Ql rfl g10 ?_
  refine sr (wa (nt' (Qj (Qe ?_))))
  exact rti (h := Qb g10 (rfl))
 have g10 := decide_eq_false h9
 refine Qp rfl g10 ?_
 refine Qq (Qi (sr (wm (wa (nt' (Qj ?_))))))
 exact rti (h := Qc g10 (rfl))

def Qly (x0 : (List Qby)) (x1 : Int) : Int :=
 cond (decide ((IntKind.i64.wrap (x1 - ((x0.length : Nat) : Int))) < 0)) (-1) (IntKind.i64.wrap (x1 - ((x0.length : Nat) : Int)))
theorem Qagg : Cb Tryz.prog 143 := ⟨f143, _, func143, rfl, by decide⟩
theorem Qaoc (w : World) (z0 : Value) (x0 : (List Qby)) (x1 : Int) (r_0 : rdS Qil w w.heap.size z0 x0) :
  Calls Tryz.prog 143 #[z0, .int .i64 x1] w fun e w' => e = .returned (.int .i64 (Qly x0 x1)) ∧ Below w.heap.size w w' := by
 obtain ⟨m1, A2, c3, rfl, q4, r5⟩ := Qk r_0
 refine ce2 (L := [(0, .slice A2 x0.length c3), (1, .int .i64 x1)]) (N := 12) func143 ?_
 refine sr (wa (nt' (sr (wm (wm ?_)))))
 refine wv (Qai Qqw) ?_
 refine wv (fun W hm => Qhw rfl rfl) ?_
 refine wa (nt' (Qf (sr (wm ?_))))
 refine wv Qak ?_
 refine nt' ?_
 by_cases h6 : (IntKind.i64.wrap (x1 - ((x0.length : Nat) : Int))) < 0
 ·have g7 := decide_eq_true h6
  refine Ql rfl g7 ?_
  refine sr (wa (nt' (Qj (Qe ?_))))
  exact rti (h := Qb g7 (rfl))
 have g7 := decide_eq_false h6
 refine Qp rfl g7 ?_
 refine Qq (Qi (sr (wm (wa (nt' (Qj ?_))))))
 exact rti (h := Qc g7 (rfl))

def Qgr (x0 : Qcg) (x1 : Int) : Int :=
 cond (decide ((Qly x0.Conds x1) < 0)) (-1) (cond (decide ((Qdo x0.Out (Qly x0.Conds x1)) < 0)) (-1) (Qdo x0.Out (Qly x0.Conds x1)))
theorem Qyz : Cb Tryz.prog 52 := ⟨f52, _, func52, rfl, by decide⟩
theorem Qaaz (w : World) (z0 : List Value) (x0 : Qcg) (x1 : Int) (r_0 : Qmn.rd w w.heap.size z0 x0) :
  Calls Tryz.prog 52 #[.agg z0.toArray, .int .i64 x1] w fun e w' => e = .returned (.int .i64 (Qgr x0 x1)) ∧ Below w.heap.size w w' := by
 obtain ⟨v1, v3, rfl, r2, r4⟩ := Qadf r_0
 obtain ⟨m5, A6, c7, rfl, q8, r9⟩ := Qk r2
 obtain ⟨m10, A11, c12, rfl, q13, r14⟩ := Qk r4
 refine ce2 (L := [(0, .agg #[.int .i64 x0.Id, .int .i64 x0.Tenant, .slice A6 x0.Conds.length c7, .slice A11 x0.Out.length c12]), (1, .int .i64 x1)]) (N := 18) func52 ?_
 refine sr ?_
 refine Qbj rfl (Qo rfl) (by decide) (fun p15 => ?_)
 refine wa (nt' (sr ?_))
 refine wv (vf Qla rfl type85) ?_
 refine wv (vl 0 2 Qqw) ?_
 refine wm ?_
 refine wcv (Qr Qagg rfl) (fun W hm => Qaoc W _ x0.Conds x1 (hm.rdS0 r9)) ?_
 refine wa (nt' (Qf (sr (wm ?_))))
 refine wv Qak ?_
 refine nt' ?_
 by_cases h16 : (Qly x0.Conds x1) < 0
 ·have g17 := decide_eq_true h16
  refine Ql rfl g17 ?_
  refine sr (wa (nt' (Qj (Qe ?_))))
  exact rti (h := Qb g17 (rfl))
 have g17 := decide_eq_false h16
 refine Qp rfl g17 ?_
 refine Qq (Qi (sr ?_))
 refine wv (vf Qla rfl Qap) ?_
 refine wv (vl 0 3 Qv) ?_
 refine wm ?_
 refine wcv (Qr Qlo rfl) (fun W hm => Qmb W _ x0.Out (Qly x0.Conds x1) (hm.rdS0 r14)) ?_
 refine wa (nt' (Qf (sr (wm ?_))))
 refine wv Qak ?_
 refine nt' ?_
 by_cases h18 : (Qdo x0.Out (Qly x0.Conds x1)) < 0
 ·have g19 := decide_eq_true h18
  refine Ql rfl g19 ?_
  refine sr (wa (nt' (Qj (Qe ?_))))
  exact rti (h := Qc g17 (Qb g19 (rfl)))
 have g19 := decide_eq_false h18
 refine Qp rfl g19 ?_
 refine Qq (Qi (sr (wm (wa (nt' (Qj ?_))))))
 exact rti (h := Qc g17 (Qc g19 (rfl)))

def Qjj (x0 : Qaj) (x1 : Int) : Int :=
 cond (decide ((Qdo x0.Values x1) < 0)) (-1) (Qdo x0.Values x1)
theorem Qym : Cb Tryz.prog 147 := ⟨f147, _, func147, rfl, by decide⟩
theorem Qabe (w : World) (z0 : List Value) (x0 : Qaj) (x1 : Int) (r_0 : Qhq.rd w w.heap.size z0 x0) :
  Calls Tryz.prog 147 #[.agg z0.toArray, .int .i64 x1] w fun e w' => e = .returned (.int .i64 (Qjj x0 x1)) ∧ Below w.heap.size w w' := by
 obtain ⟨v1, rfl, r2⟩ := Qsy r_0
 obtain ⟨m3, A4, c5, rfl, q6, r7⟩ := Qk r2
 refine ce2 (L := [(0, .agg #[.int .i64 x0.Id, .slice A4 x0.Values.length c5]), (1, .int .i64 x1)]) (N := 12) func147 ?_
 refine sr ?_
 refine Qbj rfl (Qo rfl) (by decide) (fun p8 => ?_)
 refine wa (nt' (sr ?_))
 refine wv (vf Qpd rfl Qap) ?_
 refine wv (vl 0 1 Qv) ?_
 refine wm ?_
 refine wcv (Qr Qlo rfl) (fun W hm => Qmb W _ x0.Values x1 (hm.rdS0 r7)) ?_
 refine wa (nt' (Qf (sr (wm ?_))))
 refine wv Qak ?_
 refine nt' ?_
 by_cases h9 : (Qdo x0.Values x1) < 0
 ·have g10 := decide_eq_true h9
  refine Ql rfl g10 ?_
  refine sr (wa (nt' (Qj (Qe ?_))))
  exact rti (h := Qb g10 (rfl))
 have g10 := decide_eq_false h9
 refine Qp rfl g10 ?_
 refine Qq (Qi (sr (wm (wa (nt' (Qj ?_))))))
 exact rti (h := Qc g10 (rfl))

def Qabb (x0 : (List Qaj)) (k8 : Nat) (s9 : Int) : Int ⊕ (Int) :=
 cond (decide ((Qjj (gt x0 k8) s9) < 0)) (Sum.inl (-1)) (Sum.inr (Qjj (gt x0 k8) s9))
def Qmd (x0 : (List Qaj)) (x1 : Int) : Int :=
 cond (decide ((IntKind.i64.wrap (x1 - ((x0.length : Nat) : Int))) < 0)) (-1) (Sum.elim id (fun (s : Int) => s) (rng (R := Int) (fun k (s : Int) => Qabb x0 k s) (x0.length - 0) 0 (IntKind.i64.wrap (x1 - ((x0.length : Nat) : Int)))))
theorem Qyv : Cb Tryz.prog 212 := ⟨f212, _, func212, rfl, by decide⟩
theorem Qabc (w : World) (z0 : Value) (x0 : (List Qaj)) (x1 : Int) (r_0 : rdS Qhq w w.heap.size z0 x0) :
  Calls Tryz.prog 212 #[z0, .int .i64 x1] w fun e w' => e = .returned (.int .i64 (Qmd x0 x1)) ∧ Below w.heap.size w w' := by
 obtain ⟨m1, A2, c3, rfl, q4, r5⟩ := Qk r_0
 refine ce2 (L := [(0, .slice A2 x0.length c3), (1, .int .i64 x1)]) (N := 27) func212 ?_
 refine sr (wa (nt' (sr (wm (wm ?_)))))
 refine wv (Qai Qky) ?_
 refine wv (fun W hm => Qhw rfl rfl) ?_
 refine wa (nt' (Qf (sr (wm ?_))))
 refine wv Qak ?_
 refine nt' ?_
 by_cases h6 : (IntKind.i64.wrap (x1 - ((x0.length : Nat) : Int))) < 0
 ·have g7 := decide_eq_true h6
  refine Ql rfl g7 ?_
  refine sr (wa (nt' (Qj (Qe ?_))))
  exact rti (h := Qb g7 (rfl))
 have g7 := decide_eq_false h6
 refine Qp rfl g7 ?_
 refine Qq (Qi (Qf (sr (wa (nt' (Qab ?_))))))
 let F1 := fun k (s : Int) => Qabb x0 k s
 let R2 := rng (R := Int) F1
 refine Qbl (σ := Nat × (Int) × (Unit)) (fun s => [(0, .slice A2 x0.length c3), (1, .int .i64 s.2.1), (5, .int .i64 ((s.1 : Nat) : Int))]) (fun s => []) (fun s => s.1 ≤ x0.length ∧ R2 (x0.length - s.1) s.1 s.2.1 = R2 (x0.length - 0) 0 (IntKind.i64.wrap (x1 - ((x0.length : Nat) : Int)))) (fun s => x0.length - s.1) (0, (IntKind.i64.wrap (x1 - ((x0.length : Nat) : Int))), ()) sl3 (fun W hm => hm) ⟨(by omega), rfl⟩ ?_
 rintro ⟨k8, s9, ⟨⟩⟩ H12
 obtain ⟨hk10, hF11⟩ : k8 ≤ x0.length ∧ R2 (x0.length - k8) k8 s9 = R2 (x0.length - 0) 0 (IntKind.i64.wrap (x1 - ((x0.length : Nat) : Int))) := H12
 show CM Tryz.prog 27 _ _ _ _ [(0, .slice A2 x0.length c3), (1, .int .i64 s9), (5, .int .i64 ((k8 : Nat) : Int))] []
 refine Qf (sr (wm (wm ?_)))
 refine wv (Qai Qky) ?_
 refine wv Qak ?_
 refine nt' ?_
 by_cases hl13 : k8 < x0.length
 ·have g14 := dlT hl13
  refine Ql rfl g14 ?_
  refine Qq (Qi (Qf (Qab (sr (wm (wm ?_))))))
  obtain ⟨a15, rfl, hb16, he17⟩ := q4 (by omega)
  refine wv (vix 2 k8 Qky type93) ?_
  obtain ⟨_, e21, hc18⟩ := he17 k8 _ (Qca (show k8 < x0.length from by omega))
  obtain ⟨v19, rfl, r20⟩ := Qsy e21
  obtain ⟨m22, A23, c24, rfl, q25, r26⟩ := Qk r20
  refine wv (fun W hm => Qz (cs := [.int .i64 ((gt x0 k8).Id), .slice A23 ((gt x0 k8).Values).length c24]) Qpd type93 rfl rfl (hm.elCells (show (a15.add (k8 * 2)).block < w.heap.size from by rw [Qah]; exact hb16.1) hc18)) ?_
  refine wm ?_
  refine wcv (Qr Qym rfl) (fun W hm => Qabe W _ (gt x0 k8) s9 (Qsx (x := (gt x0 k8)) (hm.rdS0 r26))) ?_
  refine wa (nt' (sr (wm ?_)))
  refine wv Qak ?_
  refine nt' ?_
  by_cases h27 : (Qjj (gt x0 k8) s9) < 0
  ·have g28 := decide_eq_true h27
   refine Ql rfl g28 ?_
   refine sr (wa (nt' (Qj (Qy (Qe (Qe (Qy (Qe ?_))))))))
   exact rti (h := Qc g7 (Qba (Qbc (body := F1) (k := k8) (s := s9) (show k8 < x0.length from by omega) (Qb g28 (rfl)) hF11) rfl))
  have g28 := decide_eq_false h27
  refine Qp rfl g28 ?_
  refine Qq (Qax (Qi (Qad (wm ?_))))
  refine wv (Qbd k8 1 (by omega)) ?_
  refine wa (Qal ?_)
  have hn29 := Qbb (R := Int) (body := F1) (k := k8) (s := s9) (s' := (Qjj (gt x0 k8) s9)) (show k8 < x0.length from by omega) (Qc g28 (rfl)) hF11
  exact Qaz (k8 + 1, (Qjj (gt x0 k8) s9), ()) sl3 (fun W hm => hm) ⟨(by omega), hn29⟩ (rl (by omega))
 have g14 := dlF hl13
 refine Qp rfl g14 ?_
 refine Qbk (Qac (Qac ?_))
 have hE30 : R2 (x0.length - 0) 0 (IntKind.i64.wrap (x1 - ((x0.length : Nat) : Int))) = Sum.inr s9 := Qbn hl13 hF11
 refine Qbm (Qi (sr (wm (wa (nt' (Qj ?_))))))
 exact rti (h := Qc g7 (Qat hE30 (rfl)))

def Qlw (x0 : Qbf) (x1 : Int) : Int :=
 cond (decide ((Qgr x0.Query x1) < 0)) (-1) (cond (decide ((Qdo x0.Todo (Qgr x0.Query x1)) < 0)) (-1) (cond (decide ((Qmd x0.Rows (Qdo x0.Todo (Qgr x0.Query x1))) < 0)) (-1) (Qmd x0.Rows (Qdo x0.Todo (Qgr x0.Query x1)))))
theorem Qagn : Cb Tryz.prog 156 := ⟨f156, _, func156, rfl, by decide⟩
theorem Qanw (w : World) (z0 : List Value) (x0 : Qbf) (x1 : Int) (r_0 : Qjl.rd w w.heap.size z0 x0) :
  Calls Tryz.prog 156 #[.agg z0.toArray, .int .i64 x1] w fun e w' => e = .returned (.int .i64 (Qlw x0 x1)) ∧ Below w.heap.size w w' := by
 obtain ⟨v1, v3, v5, v7, rfl, r2, r4, r6, r8⟩ := Qst r_0
 obtain ⟨m9, A10, c11, rfl, q12, r13⟩ := Qk r2
 obtain ⟨m14, A15, c16, rfl, q17, r18⟩ := Qk r4
 obtain ⟨m19, A20, c21, rfl, q22, r23⟩ := Qk r6
 obtain ⟨m24, A25, c26, rfl, q27, r28⟩ := Qk r8
 refine ce2 (L := [(0, .agg #[.int .i64 x0.Query.Id, .int .i64 x0.Query.Tenant, .slice A10 x0.Query.Conds.length c11, .slice A15 x0.Query.Out.length c16, .int .i64 x0.Time, .slice A20 x0.Todo.length c21, .int .i64 x0.Age, .int .i64 x0.Sent, .int .i64 x0.Cap, .slice A25 x0.Rows.length c26]), (1, .int .i64 x1)]) (N := 24) func156 ?_
 refine sr ?_
 refine Qbj rfl (Qo rfl) (by decide) (fun p29 => ?_)
 refine wa (nt' (sr ?_))
 refine wv (vf Qjo rfl type87) ?_
 refine wv (fun W hm => Qz (cs := [.int .i64 x0.Query.Id, .int .i64 x0.Query.Tenant, .slice A10 x0.Query.Conds.length c11, .slice A15 x0.Query.Out.length c16]) Qla type87 rfl rfl (hm.boxPart (n := 0) rfl rfl)) ?_
 refine wm ?_
 refine wcv (Qr Qyz rfl) (fun W hm => Qaaz W _ x0.Query x1 (Qsw (x := x0.Query) (hm.rdS0 r13) (hm.rdS0 r18))) ?_
 refine wa (nt' (Qf (sr (wm ?_))))
 refine wv Qak ?_
 refine nt' ?_
 by_cases h30 : (Qgr x0.Query x1) < 0
 ·have g31 := decide_eq_true h30
  refine Ql rfl g31 ?_
  refine sr (wa (nt' (Qj (Qe ?_))))
  exact rti (h := Qb g31 (rfl))
 have g31 := decide_eq_false h30
 refine Qp rfl g31 ?_
 refine Qq (Qi (sr ?_))
 refine wv (vf Qjo rfl Qap) ?_
 refine wv (vl 0 5 Qv) ?_
 refine wm ?_
 refine wcv (Qr Qlo rfl) (fun W hm => Qmb W _ x0.Todo (Qgr x0.Query x1) (hm.rdS0 r23)) ?_
 refine wa (nt' (Qf (sr (wm ?_))))
 refine wv Qak ?_
 refine nt' ?_
 by_cases h32 : (Qdo x0.Todo (Qgr x0.Query x1)) < 0
 ·have g33 := decide_eq_true h32
  refine Ql rfl g33 ?_
  refine sr (wa (nt' (Qj (Qe ?_))))
  exact rti (h := Qc g31 (Qb g33 (rfl)))
 have g33 := decide_eq_false h32
 refine Qp rfl g33 ?_
 refine Qq (Qi (sr ?_))
 refine wv (vf Qjo rfl type169) ?_
 refine wv (vl 0 9 Qky) ?_
 refine wm ?_
 refine wcv (Qr Qyv rfl) (fun W hm => Qabc W _ x0.Rows (Qdo x0.Todo (Qgr x0.Query x1)) (hm.rdS0 r28)) ?_
 refine wa (nt' (Qf (sr (wm ?_))))
 refine wv Qak ?_
 refine nt' ?_
 by_cases h34 : (Qmd x0.Rows (Qdo x0.Todo (Qgr x0.Query x1))) < 0
 ·have g35 := decide_eq_true h34
  refine Ql rfl g35 ?_
  refine sr (wa (nt' (Qj (Qe ?_))))
  exact rti (h := Qc g31 (Qc g33 (Qb g35 (rfl))))
 have g35 := decide_eq_false h34
 refine Qp rfl g35 ?_
 refine Qq (Qi (sr (wm (wa (nt' (Qj ?_))))))
 exact rti (h := Qc g31 (Qc g33 (Qc g35 (rfl))))

def Qaav (x0 : (List Qbf)) (k8 : Nat) (s9 : Int) : Int ⊕ (Int) :=
 cond (decide ((Qlw (gt x0 k8) s9) < 0)) (Sum.inl (-1)) (Sum.inr (Qlw (gt x0 k8) s9))
def Qji (x0 : (List Qbf)) (x1 : Int) : Int :=
 cond (decide ((IntKind.i64.wrap (x1 - ((x0.length : Nat) : Int))) < 0)) (-1) (Sum.elim id (fun (s : Int) => s) (rng (R := Int) (fun k (s : Int) => Qaav x0 k s) (x0.length - 0) 0 (IntKind.i64.wrap (x1 - ((x0.length : Nat) : Int)))))
theorem cb78 : Cb Tryz.prog 78 := ⟨f78, _, func78, rfl, by decide⟩
theorem Qanu (w : World) (z0 : Value) (x0 : (List Qbf)) (x1 : Int) (r_0 : rdS Qjl w w.heap.size z0 x0) :
  Calls Tryz.prog 78 #[z0, .int .i64 x1] w fun e w' => e = .returned (.int .i64 (Qji x0 x1)) ∧ Below w.heap.size w w' := by
 obtain ⟨m1, A2, c3, rfl, q4, r5⟩ := Qk r_0
 refine ce2 (L := [(0, .slice A2 x0.length c3), (1, .int .i64 x1)]) (N := 27) func78 ?_
 refine sr (wa (nt' (sr (wm (wm ?_)))))
 refine wv (Qai Qny) ?_
 refine wv (fun W hm => Qhw rfl rfl) ?_
 refine wa (nt' (Qf (sr (wm ?_))))
 refine wv Qak ?_
 refine nt' ?_
 by_cases h6 : (IntKind.i64.wrap (x1 - ((x0.length : Nat) : Int))) < 0
 ·have g7 := decide_eq_true h6
  refine Ql rfl g7 ?_
  refine sr (wa (nt' (Qj (Qe ?_))))
  exact rti (h := Qb g7 (rfl))
 have g7 := decide_eq_false h6
 refine Qp rfl g7 ?_
 refine Qq (Qi (Qf (sr (wa (nt' (Qab ?_))))))
 let F1 := fun k (s : Int) => Qaav x0 k s
 let R2 := rng (R := Int) F1
 refine Qbl (σ := Nat × (Int) × (Unit)) (fun s => [(0, .slice A2 x0.length c3), (1, .int .i64 s.2.1), (5, .int .i64 ((s.1 : Nat) : Int))]) (fun s => []) (fun s => s.1 ≤ x0.length ∧ R2 (x0.length - s.1) s.1 s.2.1 = R2 (x0.length - 0) 0 (IntKind.i64.wrap (x1 - ((x0.length : Nat) : Int)))) (fun s => x0.length - s.1) (0, (IntKind.i64.wrap (x1 - ((x0.length : Nat) : Int))), ()) sl3 (fun W hm => hm) ⟨(by omega), rfl⟩ ?_
 rintro ⟨k8, s9, ⟨⟩⟩ H12
 obtain ⟨hk10, hF11⟩ : k8 ≤ x0.length ∧ R2 (x0.length - k8) k8 s9 = R2 (x0.length - 0) 0 (IntKind.i64.wrap (x1 - ((x0.length : Nat) : Int))) := H12
 show CM Tryz.prog 27 _ _ _ _ [(0, .slice A2 x0.length c3), (1, .int .i64 s9), (5, .int .i64 ((k8 : Nat) : Int))] []
 refine Qf (sr (wm (wm ?_)))
 refine wv (Qai Qny) ?_
 refine wv Qak ?_
 refine nt' ?_
 by_cases hl13 : k8 < x0.length
 ·have g14 := dlT hl13
  refine Ql rfl g14 ?_
  refine Qq (Qi (Qf (Qab (sr (wm (wm ?_))))))
  obtain ⟨a15, rfl, hb16, he17⟩ := q4 (by omega)
  refine wv (vix 10 k8 Qny type171) ?_
  obtain ⟨_, e27, hc18⟩ := he17 k8 _ (Qca (show k8 < x0.length from by omega))
  obtain ⟨v19, v21, v23, v25, rfl, r20, r22, r24, r26⟩ := Qst e27
  obtain ⟨m28, A29, c30, rfl, q31, r32⟩ := Qk r20
  obtain ⟨m33, A34, c35, rfl, q36, r37⟩ := Qk r22
  obtain ⟨m38, A39, c40, rfl, q41, r42⟩ := Qk r24
  obtain ⟨m43, A44, c45, rfl, q46, r47⟩ := Qk r26
  refine wv (fun W hm => Qz (cs := [.int .i64 ((gt x0 k8).Query.Id), .int .i64 ((gt x0 k8).Query.Tenant), .slice A29 ((gt x0 k8).Query.Conds).length c30, .slice A34 ((gt x0 k8).Query.Out).length c35, .int .i64 ((gt x0 k8).Time), .slice A39 ((gt x0 k8).Todo).length c40, .int .i64 ((gt x0 k8).Age), .int .i64 ((gt x0 k8).Sent), .int .i64 ((gt x0 k8).Cap), .slice A44 ((gt x0 k8).Rows).length c45]) Qjo type171 rfl rfl (hm.elCells (show (a15.add (k8 * 10)).block < w.heap.size from by rw [Qah]; exact hb16.1) hc18)) ?_
  refine wm ?_
  refine wcv (Qr Qagn rfl) (fun W hm => Qanw W _ (gt x0 k8) s9 (Qacz (x := (gt x0 k8)) (hm.rdS0 r32) (hm.rdS0 r37) (hm.rdS0 r42) (hm.rdS0 r47))) ?_
  refine wa (nt' (sr (wm ?_)))
  refine wv Qak ?_
  refine nt' ?_
  by_cases h48 : (Qlw (gt x0 k8) s9) < 0
  ·have g49 := decide_eq_true h48
   refine Ql rfl g49 ?_
   refine sr (wa (nt' (Qj (Qy (Qe (Qe (Qy (Qe ?_))))))))
   exact rti (h := Qc g7 (Qba (Qbc (body := F1) (k := k8) (s := s9) (show k8 < x0.length from by omega) (Qb g49 (rfl)) hF11) rfl))
  have g49 := decide_eq_false h48
  refine Qp rfl g49 ?_
  refine Qq (Qax (Qi (Qad (wm ?_))))
  refine wv (Qbd k8 1 (by omega)) ?_
  refine wa (Qal ?_)
  have hn50 := Qbb (R := Int) (body := F1) (k := k8) (s := s9) (s' := (Qlw (gt x0 k8) s9)) (show k8 < x0.length from by omega) (Qc g49 (rfl)) hF11
  exact Qaz (k8 + 1, (Qlw (gt x0 k8) s9), ()) sl3 (fun W hm => hm) ⟨(by omega), hn50⟩ (rl (by omega))
 have g14 := dlF hl13
 refine Qp rfl g14 ?_
 refine Qbk (Qac (Qac ?_))
 have hE51 : R2 (x0.length - 0) 0 (IntKind.i64.wrap (x1 - ((x0.length : Nat) : Int))) = Sum.inr s9 := Qbn hl13 hF11
 refine Qbm (Qi (sr (wm (wa (nt' (Qj ?_))))))
 exact rti (h := Qc g7 (Qat hE51 (rfl)))

def Qma (x0 : Qbg) (x1 : Int) : Int :=
 cond (decide ((Qgr x0.Query x1) < 0)) (-1) (cond (decide ((Qmd x0.Rows (Qgr x0.Query x1)) < 0)) (-1) (Qmd x0.Rows (Qgr x0.Query x1)))
theorem Qago : Cb Tryz.prog 157 := ⟨f157, _, func157, rfl, by decide⟩
theorem Qaoh (w : World) (z0 : List Value) (x0 : Qbg) (x1 : Int) (r_0 : Qjn.rd w w.heap.size z0 x0) :
  Calls Tryz.prog 157 #[.agg z0.toArray, .int .i64 x1] w fun e w' => e = .returned (.int .i64 (Qma x0 x1)) ∧ Below w.heap.size w w' := by
 obtain ⟨v1, v3, v5, rfl, r2, r4, r6⟩ := Qsv r_0
 obtain ⟨m7, A8, c9, rfl, q10, r11⟩ := Qk r2
 obtain ⟨m12, A13, c14, rfl, q15, r16⟩ := Qk r4
 obtain ⟨m17, A18, c19, rfl, q20, r21⟩ := Qk r6
 refine ce2 (L := [(0, .agg #[.int .i64 x0.Query.Id, .int .i64 x0.Query.Tenant, .slice A8 x0.Query.Conds.length c9, .slice A13 x0.Query.Out.length c14, .int .i64 x0.Time, .int .i64 x0.Steps, .slice A18 x0.Rows.length c19]), (1, .int .i64 x1)]) (N := 18) func157 ?_
 refine sr ?_
 refine Qbj rfl (Qo rfl) (by decide) (fun p22 => ?_)
 refine wa (nt' (sr ?_))
 refine wv (vf Qnv rfl type87) ?_
 refine wv (fun W hm => Qz (cs := [.int .i64 x0.Query.Id, .int .i64 x0.Query.Tenant, .slice A8 x0.Query.Conds.length c9, .slice A13 x0.Query.Out.length c14]) Qla type87 rfl rfl (hm.boxPart (n := 0) rfl rfl)) ?_
 refine wm ?_
 refine wcv (Qr Qyz rfl) (fun W hm => Qaaz W _ x0.Query x1 (Qsw (x := x0.Query) (hm.rdS0 r11) (hm.rdS0 r16))) ?_
 refine wa (nt' (Qf (sr (wm ?_))))
 refine wv Qak ?_
 refine nt' ?_
 by_cases h23 : (Qgr x0.Query x1) < 0
 ·have g24 := decide_eq_true h23
  refine Ql rfl g24 ?_
  refine sr (wa (nt' (Qj (Qe ?_))))
  exact rti (h := Qb g24 (rfl))
 have g24 := decide_eq_false h23
 refine Qp rfl g24 ?_
 refine Qq (Qi (sr ?_))
 refine wv (vf Qnv rfl type169) ?_
 refine wv (vl 0 6 Qky) ?_
 refine wm ?_
 refine wcv (Qr Qyv rfl) (fun W hm => Qabc W _ x0.Rows (Qgr x0.Query x1) (hm.rdS0 r21)) ?_
 refine wa (nt' (Qf (sr (wm ?_))))
 refine wv Qak ?_
 refine nt' ?_
 by_cases h25 : (Qmd x0.Rows (Qgr x0.Query x1)) < 0
 ·have g26 := decide_eq_true h25
  refine Ql rfl g26 ?_
  refine sr (wa (nt' (Qj (Qe ?_))))
  exact rti (h := Qc g24 (Qb g26 (rfl)))
 have g26 := decide_eq_false h25
 refine Qp rfl g26 ?_
 refine Qq (Qi (sr (wm (wa (nt' (Qj ?_))))))
 exact rti (h := Qc g24 (Qc g26 (rfl)))

def Qaay (x0 : (List Qbg)) (k8 : Nat) (s9 : Int) : Int ⊕ (Int) :=
 cond (decide ((Qma (gt x0 k8) s9) < 0)) (Sum.inl (-1)) (Sum.inr (Qma (gt x0 k8) s9))
def Qlz (x0 : (List Qbg)) (x1 : Int) : Int :=
 cond (decide ((IntKind.i64.wrap (x1 - ((x0.length : Nat) : Int))) < 0)) (-1) (Sum.elim id (fun (s : Int) => s) (rng (R := Int) (fun k (s : Int) => Qaay x0 k s) (x0.length - 0) 0 (IntKind.i64.wrap (x1 - ((x0.length : Nat) : Int)))))
theorem cb79 : Cb Tryz.prog 79 := ⟨f79, _, func79, rfl, by decide⟩
theorem Qaof (w : World) (z0 : Value) (x0 : (List Qbg)) (x1 : Int) (r_0 : rdS Qjn w w.heap.size z0 x0) :
  Calls Tryz.prog 79 #[z0, .int .i64 x1] w fun e w' => e = .returned (.int .i64 (Qlz x0 x1)) ∧ Below w.heap.size w w' := by
 obtain ⟨m1, A2, c3, rfl, q4, r5⟩ := Qk r_0
 refine ce2 (L := [(0, .slice A2 x0.length c3), (1, .int .i64 x1)]) (N := 27) func79 ?_
 refine sr (wa (nt' (sr (wm (wm ?_)))))
 refine wv (Qai Qnz) ?_
 refine wv (fun W hm => Qhw rfl rfl) ?_
 refine wa (nt' (Qf (sr (wm ?_))))
 refine wv Qak ?_
 refine nt' ?_
 by_cases h6 : (IntKind.i64.wrap (x1 - ((x0.length : Nat) : Int))) < 0
 ·have g7 := decide_eq_true h6
  refine Ql rfl g7 ?_
  refine sr (wa (nt' (Qj (Qe ?_))))
  exact rti (h := Qb g7 (rfl))
 have g7 := decide_eq_false h6
 refine Qp rfl g7 ?_
 refine Qq (Qi (Qf (sr (wa (nt' (Qab ?_))))))
 let F1 := fun k (s : Int) => Qaay x0 k s
 let R2 := rng (R := Int) F1
 refine Qbl (σ := Nat × (Int) × (Unit)) (fun s => [(0, .slice A2 x0.length c3), (1, .int .i64 s.2.1), (5, .int .i64 ((s.1 : Nat) : Int))]) (fun s => []) (fun s => s.1 ≤ x0.length ∧ R2 (x0.length - s.1) s.1 s.2.1 = R2 (x0.length - 0) 0 (IntKind.i64.wrap (x1 - ((x0.length : Nat) : Int)))) (fun s => x0.length - s.1) (0, (IntKind.i64.wrap (x1 - ((x0.length : Nat) : Int))), ()) sl3 (fun W hm => hm) ⟨(by omega), rfl⟩ ?_
 rintro ⟨k8, s9, ⟨⟩⟩ H12
 obtain ⟨hk10, hF11⟩ : k8 ≤ x0.length ∧ R2 (x0.length - k8) k8 s9 = R2 (x0.length - 0) 0 (IntKind.i64.wrap (x1 - ((x0.length : Nat) : Int))) := H12
 show CM Tryz.prog 27 _ _ _ _ [(0, .slice A2 x0.length c3), (1, .int .i64 s9), (5, .int .i64 ((k8 : Nat) : Int))] []
 refine Qf (sr (wm (wm ?_)))
 refine wv (Qai Qnz) ?_
 refine wv Qak ?_
 refine nt' ?_
 by_cases hl13 : k8 < x0.length
 ·have g14 := dlT hl13
  refine Ql rfl g14 ?_
  refine Qq (Qi (Qf (Qab (sr (wm (wm ?_))))))
  obtain ⟨a15, rfl, hb16, he17⟩ := q4 (by omega)
  refine wv (vix 7 k8 Qnz type174) ?_
  obtain ⟨_, e25, hc18⟩ := he17 k8 _ (Qca (show k8 < x0.length from by omega))
  obtain ⟨v19, v21, v23, rfl, r20, r22, r24⟩ := Qsv e25
  obtain ⟨m26, A27, c28, rfl, q29, r30⟩ := Qk r20
  obtain ⟨m31, A32, c33, rfl, q34, r35⟩ := Qk r22
  obtain ⟨m36, A37, c38, rfl, q39, r40⟩ := Qk r24
  refine wv (fun W hm => Qz (cs := [.int .i64 ((gt x0 k8).Query.Id), .int .i64 ((gt x0 k8).Query.Tenant), .slice A27 ((gt x0 k8).Query.Conds).length c28, .slice A32 ((gt x0 k8).Query.Out).length c33, .int .i64 ((gt x0 k8).Time), .int .i64 ((gt x0 k8).Steps), .slice A37 ((gt x0 k8).Rows).length c38]) Qnv type174 rfl rfl (hm.elCells (show (a15.add (k8 * 7)).block < w.heap.size from by rw [Qah]; exact hb16.1) hc18)) ?_
  refine wm ?_
  refine wcv (Qr Qago rfl) (fun W hm => Qaoh W _ (gt x0 k8) s9 (Qadd (x := (gt x0 k8)) (hm.rdS0 r30) (hm.rdS0 r35) (hm.rdS0 r40))) ?_
  refine wa (nt' (sr (wm ?_)))
  refine wv Qak ?_
  refine nt' ?_
  by_cases h41 : (Qma (gt x0 k8) s9) < 0
  ·have g42 := decide_eq_true h41
   refine Ql rfl g42 ?_
   refine sr (wa (nt' (Qj (Qy (Qe (Qe (Qy (Qe ?_))))))))
   exact rti (h := Qc g7 (Qba (Qbc (body := F1) (k := k8) (s := s9) (show k8 < x0.length from by omega) (Qb g42 (rfl)) hF11) rfl))
  have g42 := decide_eq_false h41
  refine Qp rfl g42 ?_
  refine Qq (Qax (Qi (Qad (wm ?_))))
  refine wv (Qbd k8 1 (by omega)) ?_
  refine wa (Qal ?_)
  have hn43 := Qbb (R := Int) (body := F1) (k := k8) (s := s9) (s' := (Qma (gt x0 k8) s9)) (show k8 < x0.length from by omega) (Qc g42 (rfl)) hF11
  exact Qaz (k8 + 1, (Qma (gt x0 k8) s9), ()) sl3 (fun W hm => hm) ⟨(by omega), hn43⟩ (rl (by omega))
 have g14 := dlF hl13
 refine Qp rfl g14 ?_
 refine Qbk (Qac (Qac ?_))
 have hE44 : R2 (x0.length - 0) 0 (IntKind.i64.wrap (x1 - ((x0.length : Nat) : Int))) = Sum.inr s9 := Qbn hl13 hF11
 refine Qbm (Qi (sr (wm (wa (nt' (Qj ?_))))))
 exact rti (h := Qc g7 (Qat hE44 (rfl)))

def Qlx (x0 : Qay) (x1 : Int) : Int :=
 cond (decide ((Qdo x0.Ids x1) < 0)) (-1) (cond (decide ((Qdo x0.Tenants (Qdo x0.Ids x1)) < 0)) (-1) (cond (decide ((Qdo x0.Rows (Qdo x0.Tenants (Qdo x0.Ids x1))) < 0)) (-1) (Qdo x0.Rows (Qdo x0.Tenants (Qdo x0.Ids x1)))))
theorem Qagp : Cb Tryz.prog 158 := ⟨f158, _, func158, rfl, by decide⟩
theorem Qaoa (w : World) (z0 : List Value) (x0 : Qay) (x1 : Int) (r_0 : Qjm.rd w w.heap.size z0 x0) :
  Calls Tryz.prog 158 #[.agg z0.toArray, .int .i64 x1] w fun e w' => e = .returned (.int .i64 (Qlx x0 x1)) ∧ Below w.heap.size w w' := by
 obtain ⟨v1, v3, v5, rfl, r2, r4, r6⟩ := Qsu r_0
 obtain ⟨m7, A8, c9, rfl, q10, r11⟩ := Qk r2
 obtain ⟨m12, A13, c14, rfl, q15, r16⟩ := Qk r4
 obtain ⟨m17, A18, c19, rfl, q20, r21⟩ := Qk r6
 refine ce2 (L := [(0, .agg #[.int .i64 x0.Segment, .int .i64 x0.Base, .slice A8 x0.Ids.length c9, .slice A13 x0.Tenants.length c14, .slice A18 x0.Rows.length c19]), (1, .int .i64 x1)]) (N := 24) func158 ?_
 refine sr ?_
 refine Qbj rfl (Qo rfl) (by decide) (fun p22 => ?_)
 refine wa (nt' (sr ?_))
 refine wv (vf Qkz rfl Qap) ?_
 refine wv (vl 0 2 Qv) ?_
 refine wm ?_
 refine wcv (Qr Qlo rfl) (fun W hm => Qmb W _ x0.Ids x1 (hm.rdS0 r11)) ?_
 refine wa (nt' (Qf (sr (wm ?_))))
 refine wv Qak ?_
 refine nt' ?_
 by_cases h23 : (Qdo x0.Ids x1) < 0
 ·have g24 := decide_eq_true h23
  refine Ql rfl g24 ?_
  refine sr (wa (nt' (Qj (Qe ?_))))
  exact rti (h := Qb g24 (rfl))
 have g24 := decide_eq_false h23
 refine Qp rfl g24 ?_
 refine Qq (Qi (sr ?_))
 refine wv (vf Qkz rfl Qap) ?_
 refine wv (vl 0 3 Qv) ?_
 refine wm ?_
 refine wcv (Qr Qlo rfl) (fun W hm => Qmb W _ x0.Tenants (Qdo x0.Ids x1) (hm.rdS0 r16)) ?_
 refine wa (nt' (Qf (sr (wm ?_))))
 refine wv Qak ?_
 refine nt' ?_
 by_cases h25 : (Qdo x0.Tenants (Qdo x0.Ids x1)) < 0
 ·have g26 := decide_eq_true h25
  refine Ql rfl g26 ?_
  refine sr (wa (nt' (Qj (Qe ?_))))
  exact rti (h := Qc g24 (Qb g26 (rfl)))
 have g26 := decide_eq_false h25
 refine Qp rfl g26 ?_
 refine Qq (Qi (sr ?_))
 refine wv (vf Qkz rfl Qap) ?_
 refine wv (vl 0 4 Qv) ?_
 refine wm ?_
 refine wcv (Qr Qlo rfl) (fun W hm => Qmb W _ x0.Rows (Qdo x0.Tenants (Qdo x0.Ids x1)) (hm.rdS0 r21)) ?_
 refine wa (nt' (Qf (sr (wm ?_))))
 refine wv Qak ?_
 refine nt' ?_
 by_cases h27 : (Qdo x0.Rows (Qdo x0.Tenants (Qdo x0.Ids x1))) < 0
 ·have g28 := decide_eq_true h27
  refine Ql rfl g28 ?_
  refine sr (wa (nt' (Qj (Qe ?_))))
  exact rti (h := Qc g24 (Qc g26 (Qb g28 (rfl))))
 have g28 := decide_eq_false h27
 refine Qp rfl g28 ?_
 refine Qq (Qi (sr (wm (wa (nt' (Qj ?_))))))
 exact rti (h := Qc g24 (Qc g26 (Qc g28 (rfl))))

def Qaaw (x0 : (List Qay)) (k8 : Nat) (s9 : Int) : Int ⊕ (Int) :=
 cond (decide ((Qlx (gt x0 k8) s9) < 0)) (Sum.inl (-1)) (Sum.inr (Qlx (gt x0 k8) s9))
def Qqd (x0 : (List Qay)) (x1 : Int) : Int :=
 cond (decide ((IntKind.i64.wrap (x1 - ((x0.length : Nat) : Int))) < 0)) (-1) (Sum.elim id (fun (s : Int) => s) (rng (R := Int) (fun k (s : Int) => Qaaw x0 k s) (x0.length - 0) 0 (IntKind.i64.wrap (x1 - ((x0.length : Nat) : Int)))))
theorem cb80 : Cb Tryz.prog 80 := ⟨f80, _, func80, rfl, by decide⟩
theorem Qany (w : World) (z0 : Value) (x0 : (List Qay)) (x1 : Int) (r_0 : rdS Qjm w w.heap.size z0 x0) :
  Calls Tryz.prog 80 #[z0, .int .i64 x1] w fun e w' => e = .returned (.int .i64 (Qqd x0 x1)) ∧ Below w.heap.size w w' := by
 obtain ⟨m1, A2, c3, rfl, q4, r5⟩ := Qk r_0
 refine ce2 (L := [(0, .slice A2 x0.length c3), (1, .int .i64 x1)]) (N := 27) func80 ?_
 refine sr (wa (nt' (sr (wm (wm ?_)))))
 refine wv (Qai Qoa) ?_
 refine wv (fun W hm => Qhw rfl rfl) ?_
 refine wa (nt' (Qf (sr (wm ?_))))
 refine wv Qak ?_
 refine nt' ?_
 by_cases h6 : (IntKind.i64.wrap (x1 - ((x0.length : Nat) : Int))) < 0
 ·have g7 := decide_eq_true h6
  refine Ql rfl g7 ?_
  refine sr (wa (nt' (Qj (Qe ?_))))
  exact rti (h := Qb g7 (rfl))
 have g7 := decide_eq_false h6
 refine Qp rfl g7 ?_
 refine Qq (Qi (Qf (sr (wa (nt' (Qab ?_))))))
 let F1 := fun k (s : Int) => Qaaw x0 k s
 let R2 := rng (R := Int) F1
 refine Qbl (σ := Nat × (Int) × (Unit)) (fun s => [(0, .slice A2 x0.length c3), (1, .int .i64 s.2.1), (5, .int .i64 ((s.1 : Nat) : Int))]) (fun s => []) (fun s => s.1 ≤ x0.length ∧ R2 (x0.length - s.1) s.1 s.2.1 = R2 (x0.length - 0) 0 (IntKind.i64.wrap (x1 - ((x0.length : Nat) : Int)))) (fun s => x0.length - s.1) (0, (IntKind.i64.wrap (x1 - ((x0.length : Nat) : Int))), ()) sl3 (fun W hm => hm) ⟨(by omega), rfl⟩ ?_
 rintro ⟨k8, s9, ⟨⟩⟩ H12
 obtain ⟨hk10, hF11⟩ : k8 ≤ x0.length ∧ R2 (x0.length - k8) k8 s9 = R2 (x0.length - 0) 0 (IntKind.i64.wrap (x1 - ((x0.length : Nat) : Int))) := H12
 show CM Tryz.prog 27 _ _ _ _ [(0, .slice A2 x0.length c3), (1, .int .i64 s9), (5, .int .i64 ((k8 : Nat) : Int))] []
 refine Qf (sr (wm (wm ?_)))
 refine wv (Qai Qoa) ?_
 refine wv Qak ?_
 refine nt' ?_
 by_cases hl13 : k8 < x0.length
 ·have g14 := dlT hl13
  refine Ql rfl g14 ?_
  refine Qq (Qi (Qf (Qab (sr (wm (wm ?_))))))
  obtain ⟨a15, rfl, hb16, he17⟩ := q4 (by omega)
  refine wv (vix 5 k8 Qoa type176) ?_
  obtain ⟨_, e25, hc18⟩ := he17 k8 _ (Qca (show k8 < x0.length from by omega))
  obtain ⟨v19, v21, v23, rfl, r20, r22, r24⟩ := Qsu e25
  obtain ⟨m26, A27, c28, rfl, q29, r30⟩ := Qk r20
  obtain ⟨m31, A32, c33, rfl, q34, r35⟩ := Qk r22
  obtain ⟨m36, A37, c38, rfl, q39, r40⟩ := Qk r24
  refine wv (fun W hm => Qz (cs := [.int .i64 ((gt x0 k8).Segment), .int .i64 ((gt x0 k8).Base), .slice A27 ((gt x0 k8).Ids).length c28, .slice A32 ((gt x0 k8).Tenants).length c33, .slice A37 ((gt x0 k8).Rows).length c38]) Qkz type176 rfl rfl (hm.elCells (show (a15.add (k8 * 5)).block < w.heap.size from by rw [Qah]; exact hb16.1) hc18)) ?_
  refine wm ?_
  refine wcv (Qr Qagp rfl) (fun W hm => Qaoa W _ (gt x0 k8) s9 (Qada (x := (gt x0 k8)) (hm.rdS0 r30) (hm.rdS0 r35) (hm.rdS0 r40))) ?_
  refine wa (nt' (sr (wm ?_)))
  refine wv Qak ?_
  refine nt' ?_
  by_cases h41 : (Qlx (gt x0 k8) s9) < 0
  ·have g42 := decide_eq_true h41
   refine Ql rfl g42 ?_
   refine sr (wa (nt' (Qj (Qy (Qe (Qe (Qy (Qe ?_))))))))
   exact rti (h := Qc g7 (Qba (Qbc (body := F1) (k := k8) (s := s9) (show k8 < x0.length from by omega) (Qb g42 (rfl)) hF11) rfl))
  have g42 := decide_eq_false h41
  refine Qp rfl g42 ?_
  refine Qq (Qax (Qi (Qad (wm ?_))))
  refine wv (Qbd k8 1 (by omega)) ?_
  refine wa (Qal ?_)
  have hn43 := Qbb (R := Int) (body := F1) (k := k8) (s := s9) (s' := (Qlx (gt x0 k8) s9)) (show k8 < x0.length from by omega) (Qc g42 (rfl)) hF11
  exact Qaz (k8 + 1, (Qlx (gt x0 k8) s9), ()) sl3 (fun W hm => hm) ⟨(by omega), hn43⟩ (rl (by omega))
 have g14 := dlF hl13
 refine Qp rfl g14 ?_
 refine Qbk (Qac (Qac ?_))
 have hE44 : R2 (x0.length - 0) 0 (IntKind.i64.wrap (x1 - ((x0.length : Nat) : Int))) = Sum.inr s9 := Qbn hl13 hF11
 refine Qbm (Qi (sr (wm (wa (nt' (Qj ?_))))))
 exact rti (h := Qc g7 (Qat hE44 (rfl)))

def Qkb (x0 : Qag) (x1 : Int) : Int :=
 cond (decide ((Qgs x0.Store x1) < 0)) (-1) (cond (decide ((Qdo x0.Order (Qgs x0.Store x1)) < 0)) (-1) (cond (decide ((Qji x0.Active (Qdo x0.Order (Qgs x0.Store x1))) < 0)) (-1) (cond (decide ((Qlz x0.Done (Qji x0.Active (Qdo x0.Order (Qgs x0.Store x1)))) < 0)) (-1) (cond (decide ((Qqd x0.Ledger (Qlz x0.Done (Qji x0.Active (Qdo x0.Order (Qgs x0.Store x1))))) < 0)) (-1) (Qqd x0.Ledger (Qlz x0.Done (Qji x0.Active (Qdo x0.Order (Qgs x0.Store x1)))))))))
theorem cb14 : Cb Tryz.prog 14 := ⟨f14, _, func14, rfl, by decide⟩
theorem Qaoe (w : World) (z0 : List Value) (x0 : Qag) (x1 : Int) (r_0 : Qnq.rd w w.heap.size z0 x0) :
  Calls Tryz.prog 14 #[.agg z0.toArray, .int .i64 x1] w fun e w' => e = .returned (.int .i64 (Qkb x0 x1)) ∧ Below w.heap.size w w' := by
 obtain ⟨v1, v3, v5, v7, v9, rfl, r2, r4, r6, r8, r10⟩ := Qxc r_0
 obtain ⟨m11, A12, c13, rfl, q14, r15⟩ := Qk r2
 obtain ⟨m16, A17, c18, rfl, q19, r20⟩ := Qk r4
 obtain ⟨m21, A22, c23, rfl, q24, r25⟩ := Qk r6
 obtain ⟨m26, A27, c28, rfl, q29, r30⟩ := Qk r8
 obtain ⟨m31, A32, c33, rfl, q34, r35⟩ := Qk r10
 refine ce2 (L := [(0, .agg #[.slice A12 x0.Store.Segments.length c13, .int .i64 x0.Store.Now, .int .i64 x0.Cursor, .slice A17 x0.Order.length c18, .slice A22 x0.Active.length c23, .slice A27 x0.Done.length c28, .slice A32 x0.Ledger.length c33, .int .i64 x0.Steps]), (1, .int .i64 x1)]) (N := 36) func14 ?_
 refine sr ?_
 refine Qbj rfl (Qo rfl) (by decide) (fun p36 => ?_)
 refine wa (nt' (sr ?_))
 refine wv (vf Qhf rfl type24) ?_
 refine wv (fun W hm => Qz (cs := [.slice A12 x0.Store.Segments.length c13, .int .i64 x0.Store.Now]) underlying24 type24 rfl rfl (hm.boxPart (n := 0) rfl rfl)) ?_
 refine wm ?_
 refine wcv (Qr cb76 rfl) (fun W hm => Qaoj W _ x0.Store x1 (Qadh (x := x0.Store) (hm.rdS0 r15))) ?_
 refine wa (nt' (Qf (sr (wm ?_))))
 refine wv Qak ?_
 refine nt' ?_
 by_cases h37 : (Qgs x0.Store x1) < 0
 ·have g38 := decide_eq_true h37
  refine Ql rfl g38 ?_
  refine sr (wa (nt' (Qj (Qe ?_))))
  exact rti (h := Qb g38 (rfl))
 have g38 := decide_eq_false h37
 refine Qp rfl g38 ?_
 refine Qq (Qi (sr ?_))
 refine wv (vf Qhf rfl Qap) ?_
 refine wv (vl 0 3 Qv) ?_
 refine wm ?_
 refine wcv (Qr Qlo rfl) (fun W hm => Qmb W _ x0.Order (Qgs x0.Store x1) (hm.rdS0 r20)) ?_
 refine wa (nt' (Qf (sr (wm ?_))))
 refine wv Qak ?_
 refine nt' ?_
 by_cases h39 : (Qdo x0.Order (Qgs x0.Store x1)) < 0
 ·have g40 := decide_eq_true h39
  refine Ql rfl g40 ?_
  refine sr (wa (nt' (Qj (Qe ?_))))
  exact rti (h := Qc g38 (Qb g40 (rfl)))
 have g40 := decide_eq_false h39
 refine Qp rfl g40 ?_
 refine Qq (Qi (sr ?_))
 refine wv (vf Qhf rfl type26) ?_
 refine wv (vl 0 4 Qny) ?_
 refine wm ?_
 refine wcv (Qr cb78 rfl) (fun W hm => Qanu W _ x0.Active (Qdo x0.Order (Qgs x0.Store x1)) (hm.rdS0 r25)) ?_
 refine wa (nt' (Qf (sr (wm ?_))))
 refine wv Qak ?_
 refine nt' ?_
 by_cases h41 : (Qji x0.Active (Qdo x0.Order (Qgs x0.Store x1))) < 0
 ·have g42 := decide_eq_true h41
  refine Ql rfl g42 ?_
  refine sr (wa (nt' (Qj (Qe ?_))))
  exact rti (h := Qc g38 (Qc g40 (Qb g42 (rfl))))
 have g42 := decide_eq_false h41
 refine Qp rfl g42 ?_
 refine Qq (Qi (sr ?_))
 refine wv (vf Qhf rfl type27) ?_
 refine wv (vl 0 5 Qnz) ?_
 refine wm ?_
 refine wcv (Qr cb79 rfl) (fun W hm => Qaof W _ x0.Done (Qji x0.Active (Qdo x0.Order (Qgs x0.Store x1))) (hm.rdS0 r30)) ?_
 refine wa (nt' (Qf (sr (wm ?_))))
 refine wv Qak ?_
 refine nt' ?_
 by_cases h43 : (Qlz x0.Done (Qji x0.Active (Qdo x0.Order (Qgs x0.Store x1)))) < 0
 ·have g44 := decide_eq_true h43
  refine Ql rfl g44 ?_
  refine sr (wa (nt' (Qj (Qe ?_))))
  exact rti (h := Qc g38 (Qc g40 (Qc g42 (Qb g44 (rfl)))))
 have g44 := decide_eq_false h43
 refine Qp rfl g44 ?_
 refine Qq (Qi (sr ?_))
 refine wv (vf Qhf rfl type28) ?_
 refine wv (vl 0 6 Qoa) ?_
 refine wm ?_
 refine wcv (Qr cb80 rfl) (fun W hm => Qany W _ x0.Ledger (Qlz x0.Done (Qji x0.Active (Qdo x0.Order (Qgs x0.Store x1)))) (hm.rdS0 r35)) ?_
 refine wa (nt' (Qf (sr (wm ?_))))
 refine wv Qak ?_
 refine nt' ?_
 by_cases h45 : (Qqd x0.Ledger (Qlz x0.Done (Qji x0.Active (Qdo x0.Order (Qgs x0.Store x1))))) < 0
 ·have g46 := decide_eq_true h45
  refine Ql rfl g46 ?_
  refine sr (wa (nt' (Qj (Qe ?_))))
  exact rti (h := Qc g38 (Qc g40 (Qc g42 (Qc g44 (Qb g46 (rfl))))))
 have g46 := decide_eq_false h45
 refine Qp rfl g46 ?_
 refine Qq (Qi (sr (wm (wa (nt' (Qj ?_))))))
 exact rti (h := Qc g38 (Qc g40 (Qc g42 (Qc g44 (Qc g46 (rfl))))))

def Qon (x0 : Qci) (x1 : Int) : Int :=
 cond (decide ((Qjj x0.Row x1) < 0)) (-1) (Qjj x0.Row x1)
theorem cb56 : Cb Tryz.prog 56 := ⟨f56, _, func56, rfl, by decide⟩
theorem Qaol (w : World) (z0 : List Value) (x0 : Qci) (x1 : Int) (r_0 : Qnt.rd w w.heap.size z0 x0) :
  Calls Tryz.prog 56 #[.agg z0.toArray, .int .i64 x1] w fun e w' => e = .returned (.int .i64 (Qon x0 x1)) ∧ Below w.heap.size w w' := by
 obtain ⟨v1, rfl, r2⟩ := Qxf r_0
 obtain ⟨m3, A4, c5, rfl, q6, r7⟩ := Qk r2
 refine ce2 (L := [(0, .agg #[.int .i64 x0.Kind, .int .i64 x0.Row.Id, .slice A4 x0.Row.Values.length c5, .int .i64 x0.Field, .int .i64 x0.Value]), (1, .int .i64 x1)]) (N := 12) func56 ?_
 refine sr ?_
 refine Qbj rfl (Qo rfl) (by decide) (fun p8 => ?_)
 refine wa (nt' (sr ?_))
 refine wv (vf Qlb rfl type93) ?_
 refine wv (fun W hm => Qz (cs := [.int .i64 x0.Row.Id, .slice A4 x0.Row.Values.length c5]) Qpd type93 rfl rfl (hm.boxPart (n := 0) rfl rfl)) ?_
 refine wm ?_
 refine wcv (Qr Qym rfl) (fun W hm => Qabe W _ x0.Row x1 (Qsx (x := x0.Row) (hm.rdS0 r7))) ?_
 refine wa (nt' (Qf (sr (wm ?_))))
 refine wv Qak ?_
 refine nt' ?_
 by_cases h9 : (Qjj x0.Row x1) < 0
 ·have g10 := decide_eq_true h9
  refine Ql rfl g10 ?_
  refine sr (wa (nt' (Qj (Qe ?_))))
  exact rti (h := Qb g10 (rfl))
 have g10 := decide_eq_false h9
 refine Qp rfl g10 ?_
 refine Qq (Qi (sr (wm (wa (nt' (Qj ?_))))))
 exact rti (h := Qc g10 (rfl))

def Qvs (x0 : (List Int)) (k9 : Nat) (d10 : (List Int)) : (List Int) ⊕ ((List Int)) :=
 Sum.inr (d10.set k9 (gt x0 k9))
def Qcd (x0 : (List Int)) : (List Int) :=
 Sum.elim id (fun (s : (List Int)) => s) (rng (R := (List Int)) (fun k (s : (List Int)) => Qvs x0 k s) (x0.length - 0) 0 (List.replicate x0.length (0 : Int)))
theorem Qll : Cb Tryz.prog 48 := ⟨f48, _, func48, rfl, by decide⟩
theorem Qmf (w : World) (z0 : Value) (x0 : (List Int)) (r_0 : rdS Qg w w.heap.size z0 x0) (s_0 : x0.length ≤ 68719476736) :
  Calls Tryz.prog 48 #[z0] w fun e w' => ∃ v : Value, e = .returned (v) ∧ Mem w.heap.size w [Qd (tSl Qg 3) [v] (Qcd x0)] w' := by
 obtain ⟨m1, A2, c3, rfl, q4, r5⟩ := Qk r_0
 have l6 : x0.length ≤ 68719476736 := s_0
 refine ce1 (L := [(0, .slice A2 x0.length c3)]) (N := 22) func48 ?_
 refine sr (wa (nt' (sr (wm ?_))))
 refine wv (Qai Qv) ?_
 refine Qlj (E := Qg) (n := x0.length) (x0 := (0 : Int)) Qv Qh rfl rfl rfl (fun _ => Qcy) rfl rfl (show x0.length * 8 ≤ 281474976710656 from by omega) (by omega) (Qo rfl) (by decide) (fun p7 => ?_)
 refine wa (nt' (Qf (sr (wa (nt' (Qab ?_))))))
 let F1 := fun k (s : (List Int)) => Qvs x0 k s
 let R2 := rng (R := (List Int)) F1
 refine Qbl (σ := Nat × ((List Int)) × (Unit)) (fun s => [(0, .slice A2 x0.length c3), (3, .slice (some ⟨p7, 0, none⟩) x0.length x0.length), (4, .int .i64 ((s.1 : Nat) : Int))]) (fun s => [Qd (tSl Qg 3) [.slice (some ⟨p7, 0, none⟩) x0.length x0.length] s.2.1]) (fun s => s.1 ≤ x0.length ∧ R2 (x0.length - s.1) s.1 s.2.1 = R2 (x0.length - 0) 0 (List.replicate x0.length (0 : Int))) (fun s => x0.length - s.1) (0, (List.replicate x0.length (0 : Int)), ()) sl3 (fun W hm => hm) ⟨(by omega), rfl⟩ ?_
 rintro ⟨k9, d10, ⟨⟩⟩ H13
 obtain ⟨hk11, hF12⟩ : k9 ≤ x0.length ∧ R2 (x0.length - k9) k9 d10 = R2 (x0.length - 0) 0 (List.replicate x0.length (0 : Int)) := H13
 show CM Tryz.prog 22 _ _ _ _ [(0, .slice A2 x0.length c3), (3, .slice (some ⟨p7, 0, none⟩) x0.length x0.length), (4, .int .i64 ((k9 : Nat) : Int))] [Qd (tSl Qg 3) [.slice (some ⟨p7, 0, none⟩) x0.length x0.length] d10]
 refine Qf (sr (wm (wm ?_)))
 refine wv (Qai Qv) ?_
 refine wv Qak ?_
 refine nt' ?_
 by_cases hl14 : k9 < x0.length
 ·have g15 := dlT hl14
  refine Ql rfl g15 ?_
  refine Qq (Qi (Qf (Qab (Qad (wm (wm (wm (wm ?_))))))))
  obtain ⟨a16, rfl, hb17, he18⟩ := q4 (by omega)
  refine wv (vix 1 k9 Qv Qh) ?_
  refine wv (fun W hm => Qaw Qt rfl rfl ((hm.cell0 (show (a16.add (k9 * 1)).block < w.heap.size from by rw [Qah]; exact hb17.1)).trans (Qex he18 k9 (by omega)))) ?_
  refine wv (vix 1 k9 Qv Qh) ?_
  refine Qhh (E := Qg) (e := 3) (u := .int .i64 (gt x0 k9)) (k := k9) (p := p7) (n := x0.length) (xs := d10) (eis := []) (js := []) (yv := (gt x0 k9)) (fun W hm => hm) (fun _ _ hs => (Sep.nil hs ▸ Qcy)) rfl Qh rfl (by omega) rfl rfl (Qo rfl) ?_
  refine Qal (Qax (Qi (Qad (wm ?_))))
  refine wv (Qbd k9 1 (by omega)) ?_
  refine wa (Qal ?_)
  have hn19 := Qbb (R := (List Int)) (body := F1) (k := k9) (s := d10) (s' := (d10.set k9 (gt x0 k9))) (show k9 < x0.length from by omega) (rfl) hF12
  exact Qaz (k9 + 1, (d10.set k9 (gt x0 k9)), ()) sl3 (fun W hm => hm) ⟨(by omega), hn19⟩ (rl (by omega))
 have g15 := dlF hl14
 refine Qp rfl g15 ?_
 refine Qbk (Qac (Qac ?_))
 have hE20 : R2 (x0.length - 0) 0 (List.replicate x0.length (0 : Int)) = Sum.inr d10 := Qbn hl14 hF12
 refine Qbm (Qi (sr (wm (wa (nt' (Qj ?_))))))
 have he21 := (show Qcd x0 = d10 from Qat hE20 (rfl))
 refine Qec rfl (Qcv rfl) (fun W hm => ⟨.slice (some ⟨p7, 0, none⟩) x0.length x0.length, ?_, ?_⟩)
 ·first | rw [he21] | rfl
 rw [he21]; exact hm

def Qgu (x0 : Qn) : Qn :=
 (⟨x0.Id, (Qcd x0.Values), x0.Born, x0.Died⟩ : Qn)
theorem Qaij : Cb Tryz.prog 232 := ⟨f232, _, func232, rfl, by decide⟩
theorem Qapo (w : World) (z0 : List Value) (x0 : Qn) (r_0 : Qhr.rd w w.heap.size z0 x0) (s_0 : Qhm 68719476736 x0) :
  Calls Tryz.prog 232 #[.agg z0.toArray] w fun e w' => ∃ v : List Value, e = .returned (.agg v.toArray) ∧ Mem w.heap.size w [Qd Qm v (Qgu x0)] w' := by
 obtain ⟨v1, rfl, r2⟩ := Qsz r_0
 obtain ⟨m3, A4, c5, rfl, q6, r7⟩ := Qk r2
 have l8 : x0.Values.length ≤ 68719476736 := s_0
 refine ce1 (L := [(0, .agg #[.int .i64 x0.Id, .slice A4 x0.Values.length c5, .int .i64 x0.Born, .int .i64 x0.Died])]) (N := 18) func232 ?_
 refine sr ?_
 refine Qbj rfl (Qo rfl) (by decide) (fun p9 => ?_)
 refine Qbo Qar rfl (Qo rfl) (by decide) (fun p10 => ?_)
 refine nt' (sr ?_)
 refine Qbo Qar rfl (Qo rfl) (by decide) (fun p11 => ?_)
 refine nt' (sr ?_)
 refine wv (vf Qpc rfl Qh) ?_
 refine wv (vl 2 0 Qt) ?_
 refine wv (vf Qbe rfl Qh) ?_
 let K1 : List Value := [.int .i64 x0.Id, .slice A4 x0.Values.length c5, .int .i64 x0.Born, .int .i64 x0.Died]
 let I3 : It := Qa p10 191 [.int .i64 0, .slice none 0 0, .int .i64 0, .int .i64 0]
 refine sb 0 [.int .i64 x0.Id, .slice none 0 0, .int .i64 0, .int .i64 0] [I3, Qa p9 239 K1] (fun W hm => hm) Qh ?_
 refine nt' (sr ?_)
 refine wv (vf Qpc rfl Qap) ?_
 refine wv (vl 2 1 Qv) ?_
 refine wcl (tSl Qg 3) (Qcd x0.Values) (Qr Qll rfl) (fun W hm => Qmf W _ x0.Values (hm.rdS0 r7) s_0) (fun z12 => ?_)
 refine Qs (n := 0) rfl ?_
 rintro A13 c14 rfl m15
 refine wv (vf Qbe rfl Qap) ?_
 let I4 : It := Qd (tSl Qg 3) [.slice A13 (Qcd x0.Values).length c14] (Qcd x0.Values)
 refine sb 1 [.int .i64 x0.Id, .slice A13 (Qcd x0.Values).length c14, .int .i64 0, .int .i64 0] [I4, I3, Qa p9 239 K1] (pk [1, 0, 2, 3]) Qap ?_
 refine nt' (sr ?_)
 refine wv (vf Qpc rfl Qh) ?_
 refine wv (vl 3 2 Qt) ?_
 refine wv (vf Qbe rfl Qh) ?_
 refine sb 2 [.int .i64 x0.Id, .slice A13 (Qcd x0.Values).length c14, .int .i64 x0.Born, .int .i64 0] [I4, I3, Qa p9 239 K1] (fun W hm => hm) Qh ?_
 refine nt' (sr ?_)
 refine wv (vf Qpc rfl Qh) ?_
 refine wv (vl 3 3 Qt) ?_
 refine wv (vf Qbe rfl Qh) ?_
 let K2 : List Value := [.int .i64 x0.Id, .slice A13 (Qcd x0.Values).length c14, .int .i64 x0.Born, .int .i64 x0.Died]
 refine sb 3 K2 [I4, I3, Qa p9 239 K1] (fun W hm => hm) Qh ?_
 refine nt' (sr ?_)
 refine wv (fun W hm => Qz (cs := K2) Qbe Qar rfl rfl (hm.boxCells (n := 0) rfl)) ?_
 refine sb 0 K2 [Qa p11 191 K2, I4, Qa p9 239 K1] (pk [2, 0, 1, 3]) Qar ?_
 refine nt' (Qj ?_)
 have he17 := (show Qgu x0 = (⟨x0.Id, (Qcd x0.Values), x0.Born, x0.Died⟩ : Qn) from rfl)
 refine Qec rfl (Qcp (n := 0) rfl rfl Qbe Qar rfl) (fun W hm => ⟨K2, ?_, ?_⟩)
 ·first | rw [he17] | rfl
 rw [he17]; exact Mem.join (is := [I4]) (js := []) (fun _ _ hs => Qfs (x := (⟨x0.Id, (Qcd x0.Values), x0.Born, x0.Died⟩ : Qn)) hs) (hm.pick [2] (by decide))

def Qvv (x0 : (List Qn)) (k9 : Nat) (d10 : (List Qn)) : (List Qn) ⊕ ((List Qn)) :=
 Sum.inr (d10.set k9 (Qgu (gt x0 k9)))
def Qih (x0 : (List Qn)) : (List Qn) :=
 Sum.elim id (fun (s : (List Qn)) => s) (rng (R := (List Qn)) (fun k (s : (List Qn)) => Qvv x0 k s) (x0.length - 0) 0 (List.replicate x0.length (⟨(0 : Int), [], (0 : Int), (0 : Int)⟩ : Qn)))
theorem Qaia : Cb Tryz.prog 215 := ⟨f215, _, func215, rfl, by decide⟩
theorem Qapm (w : World) (z0 : Value) (x0 : (List Qn)) (r_0 : rdS Qhr w w.heap.size z0 x0) (s_0 : (x0.length ≤ 68719476736 ∧ ∀ y ∈ x0, Qhm 68719476736 y)) :
  Calls Tryz.prog 215 #[z0] w fun e w' => ∃ v : Value, e = .returned (v) ∧ Mem w.heap.size w [Qd (tSl Qm 191) [v] (Qih x0)] w' := by
 obtain ⟨m1, A2, c3, rfl, q4, r5⟩ := Qk r_0
 have l6 : x0.length ≤ 68719476736 := s_0.1
 refine ce1 (L := [(0, .slice A2 x0.length c3)]) (N := 23) func215 ?_
 refine sr (wa (nt' (sr (wm ?_))))
 refine wv (Qai Qnw) ?_
 refine Qlj (E := Qm) (n := x0.length) (x0 := (⟨(0 : Int), [], (0 : Int), (0 : Int)⟩ : Qn)) Qav Qar rfl rfl rfl (fun _ => ⟨[], [], _, _, rfl, rfl, Qcy, ⟨[], [], _, _, rfl, rfl, Qhv, ⟨[], [], _, _, rfl, rfl, Qcy, Qcy⟩⟩⟩) rfl rfl (show x0.length * 48 ≤ 281474976710656 from by omega) (by omega) (Qo rfl) (by decide) (fun p7 => ?_)
 refine wa (nt' (Qf (sr (wa (nt' (Qab ?_))))))
 let F1 := fun k (s : (List Qn)) => Qvv x0 k s
 let R2 := rng (R := (List Qn)) F1
 refine Qbl (σ := Nat × ((List Qn)) × (Unit)) (fun s => [(0, .slice A2 x0.length c3), (3, .slice (some ⟨p7, 0, none⟩) x0.length x0.length), (4, .int .i64 ((s.1 : Nat) : Int))]) (fun s => [Qd (tSl Qm 191) [.slice (some ⟨p7, 0, none⟩) x0.length x0.length] s.2.1]) (fun s => s.1 ≤ x0.length ∧ R2 (x0.length - s.1) s.1 s.2.1 = R2 (x0.length - 0) 0 (List.replicate x0.length (⟨(0 : Int), [], (0 : Int), (0 : Int)⟩ : Qn))) (fun s => x0.length - s.1) (0, (List.replicate x0.length (⟨(0 : Int), [], (0 : Int), (0 : Int)⟩ : Qn)), ()) sl3 (fun W hm => hm) ⟨(by omega), rfl⟩ ?_
 rintro ⟨k9, d10, ⟨⟩⟩ H13
 obtain ⟨hk11, hF12⟩ : k9 ≤ x0.length ∧ R2 (x0.length - k9) k9 d10 = R2 (x0.length - 0) 0 (List.replicate x0.length (⟨(0 : Int), [], (0 : Int), (0 : Int)⟩ : Qn)) := H13
 show CM Tryz.prog 23 _ _ _ _ [(0, .slice A2 x0.length c3), (3, .slice (some ⟨p7, 0, none⟩) x0.length x0.length), (4, .int .i64 ((k9 : Nat) : Int))] [Qd (tSl Qm 191) [.slice (some ⟨p7, 0, none⟩) x0.length x0.length] d10]
 refine Qf (sr (wm (wm ?_)))
 refine wv (Qai Qnw) ?_
 refine wv Qak ?_
 refine nt' ?_
 by_cases hl14 : k9 < x0.length
 ·have g15 := dlT hl14
  refine Ql rfl g15 ?_
  refine Qq (Qi (Qf (Qab (Qad (wm (wm (wm (wm ?_))))))))
  obtain ⟨a16, rfl, hb17, he18⟩ := q4 (by omega)
  refine wv (vix 4 k9 Qnw type239) ?_
  obtain ⟨_, e22, hc19⟩ := he18 k9 _ (Qca (show k9 < x0.length from by omega))
  obtain ⟨v20, rfl, r21⟩ := Qsz e22
  have l23 : ((gt x0 k9).Values).length ≤ 68719476736 := (s_0.2 _ (Qbh (show k9 < x0.length from by omega)))
  obtain ⟨m24, A25, c26, rfl, q27, r28⟩ := Qk r21
  refine wv (fun W hm => Qz (cs := [.int .i64 ((gt x0 k9).Id), .slice A25 ((gt x0 k9).Values).length c26, .int .i64 ((gt x0 k9).Born), .int .i64 ((gt x0 k9).Died)]) Qpc type239 rfl rfl (hm.elCells (show (a16.add (k9 * 4)).block < w.heap.size from by rw [Qah]; exact hb17.1) hc19)) ?_
  refine wcs Qm (Qgu (gt x0 k9)) (Qr Qaij rfl) (fun W hm => Qapo W _ (gt x0 k9) (Qadk (x := (gt x0 k9)) (hm.rdS0 r28)) (s_0.2 _ (Qbh (show k9 < x0.length from by omega)))) (fun z29 => ?_)
  refine Qmp ?_
  rintro v30 rfl
  refine Qs (n := 0) rfl ?_
  rintro A31 c32 rfl m33
  refine wv (vix 4 k9 Qav Qar) ?_
  refine Qhh (E := Qm) (e := 191) (u := .agg #[.int .i64 ((Qgu (gt x0 k9)).Id), .slice A31 ((Qgu (gt x0 k9)).Values).length c32, .int .i64 ((Qgu (gt x0 k9)).Born), .int .i64 ((Qgu (gt x0 k9)).Died)]) (k := k9) (p := p7) (n := x0.length) (xs := d10) (eis := [Qd (tSl Qg 3) [.slice A31 ((Qgu (gt x0 k9)).Values).length c32] ((Qgu (gt x0 k9)).Values)]) (js := []) (yv := (Qgu (gt x0 k9))) (pk [1, 0]) (fun _ _ hs => (Qfs (x := (Qgu (gt x0 k9))) hs)) rfl Qar rfl (by omega) rfl rfl (Qo rfl) ?_
  refine Qal (Qax (Qi (Qad (wm ?_))))
  refine wv (Qbd k9 1 (by omega)) ?_
  refine wa (Qal ?_)
  have hn35 := Qbb (R := (List Qn)) (body := F1) (k := k9) (s := d10) (s' := (d10.set k9 (Qgu (gt x0 k9)))) (show k9 < x0.length from by omega) (rfl) hF12
  exact Qaz (k9 + 1, (d10.set k9 (Qgu (gt x0 k9))), ()) sl3 (fun W hm => hm) ⟨(by omega), hn35⟩ (rl (by omega))
 have g15 := dlF hl14
 refine Qp rfl g15 ?_
 refine Qbk (Qac (Qac ?_))
 have hE36 : R2 (x0.length - 0) 0 (List.replicate x0.length (⟨(0 : Int), [], (0 : Int), (0 : Int)⟩ : Qn)) = Sum.inr d10 := Qbn hl14 hF12
 refine Qbm (Qi (sr (wm (wa (nt' (Qj ?_))))))
 have he37 := (show Qih x0 = d10 from Qat hE36 (rfl))
 refine Qec rfl (Qcv rfl) (fun W hm => ⟨.slice (some ⟨p7, 0, none⟩) x0.length x0.length, ?_, ?_⟩)
 ·first | rw [he37] | rfl
 rw [he37]; exact hm

def Qvu (x0 : (List (List Qn))) (k9 : Nat) (d10 : (List (List Qn))) : (List (List Qn)) ⊕ ((List (List Qn))) :=
 Sum.inr (d10.set k9 (Qih (gt x0 k9)))
def Qiw (x0 : (List (List Qn))) : (List (List Qn)) :=
 Sum.elim id (fun (s : (List (List Qn))) => s) (rng (R := (List (List Qn))) (fun k (s : (List (List Qn))) => Qvu x0 k s) (x0.length - 0) 0 (List.replicate x0.length []))
theorem Qagr : Cb Tryz.prog 162 := ⟨f162, _, func162, rfl, by decide⟩
theorem Qapk (w : World) (z0 : Value) (x0 : (List (List Qn))) (r_0 : rdS (tSl Qhr 239) w w.heap.size z0 x0) (s_0 : (x0.length ≤ 68719476736 ∧ ∀ y ∈ x0, (y.length ≤ 68719476736 ∧ ∀ y1 ∈ y, Qhm 68719476736 y1))) :
  Calls Tryz.prog 162 #[z0] w fun e w' => ∃ v : Value, e = .returned (v) ∧ Mem w.heap.size w [Qd (tSl (tSl Qm 191) 131) [v] (Qiw x0)] w' := by
 obtain ⟨m1, A2, c3, rfl, q4, r5⟩ := Qk r_0
 have l6 : x0.length ≤ 68719476736 := s_0.1
 refine ce1 (L := [(0, .slice A2 x0.length c3)]) (N := 23) func162 ?_
 refine sr (wa (nt' (sr (wm ?_))))
 refine wv (Qai Qnx) ?_
 refine Qlj (E := (tSl Qm 191)) (n := x0.length) (x0 := []) Qas Qda rfl rfl rfl (fun _ => Qhv) rfl rfl (show x0.length * 24 ≤ 281474976710656 from by omega) (by omega) (Qo rfl) (by decide) (fun p7 => ?_)
 refine wa (nt' (Qf (sr (wa (nt' (Qab ?_))))))
 let F1 := fun k (s : (List (List Qn))) => Qvu x0 k s
 let R2 := rng (R := (List (List Qn))) F1
 refine Qbl (σ := Nat × ((List (List Qn))) × (Unit)) (fun s => [(0, .slice A2 x0.length c3), (3, .slice (some ⟨p7, 0, none⟩) x0.length x0.length), (4, .int .i64 ((s.1 : Nat) : Int))]) (fun s => [Qd (tSl (tSl Qm 191) 131) [.slice (some ⟨p7, 0, none⟩) x0.length x0.length] s.2.1]) (fun s => s.1 ≤ x0.length ∧ R2 (x0.length - s.1) s.1 s.2.1 = R2 (x0.length - 0) 0 (List.replicate x0.length [])) (fun s => x0.length - s.1) (0, (List.replicate x0.length []), ()) sl3 (fun W hm => hm) ⟨(by omega), rfl⟩ ?_
 rintro ⟨k9, d10, ⟨⟩⟩ H13
 obtain ⟨hk11, hF12⟩ : k9 ≤ x0.length ∧ R2 (x0.length - k9) k9 d10 = R2 (x0.length - 0) 0 (List.replicate x0.length []) := H13
 show CM Tryz.prog 23 _ _ _ _ [(0, .slice A2 x0.length c3), (3, .slice (some ⟨p7, 0, none⟩) x0.length x0.length), (4, .int .i64 ((k9 : Nat) : Int))] [Qd (tSl (tSl Qm 191) 131) [.slice (some ⟨p7, 0, none⟩) x0.length x0.length] d10]
 refine Qf (sr (wm (wm ?_)))
 refine wv (Qai Qnx) ?_
 refine wv Qak ?_
 refine nt' ?_
 by_cases hl14 : k9 < x0.length
 ·have g15 := dlT hl14
  refine Ql rfl g15 ?_
  refine Qq (Qi (Qf (Qab (Qad (wm (wm (wm (wm ?_))))))))
  obtain ⟨a16, rfl, hb17, he18⟩ := q4 (by omega)
  refine wv (vix 1 k9 Qnx type219) ?_
  obtain ⟨_, e20, hc19⟩ := he18 k9 _ (Qca (show k9 < x0.length from by omega))
  have l21 : (gt x0 k9).length ≤ 68719476736 := (s_0.2 _ (Qbh (show k9 < x0.length from by omega))).1
  obtain ⟨v22, rfl, r23⟩ := e20
  obtain ⟨m24, A25, c26, rfl, q27, r28⟩ := Qk r23
  refine wv (fun W hm => Qaw Qnw rfl rfl ((hm.cell0 (show (a16.add (k9 * 1)).block < w.heap.size from by rw [Qah]; exact hb17.1)).trans (hc19 0 _ rfl))) ?_
  refine wcl (tSl Qm 191) (Qih (gt x0 k9)) (Qr Qaia rfl) (fun W hm => Qapm W _ (gt x0 k9) (hm.rdS0 r28) (s_0.2 _ (Qbh (show k9 < x0.length from by omega)))) (fun z29 => ?_)
  refine Qs (n := 0) rfl ?_
  rintro A30 c31 rfl m32
  refine wv (vix 1 k9 Qas Qda) ?_
  refine Qhh (E := (tSl Qm 191)) (e := 131) (u := .slice A30 (Qih (gt x0 k9)).length c31) (k := k9) (p := p7) (n := x0.length) (xs := d10) (eis := [Qd (tSl Qm 191) [.slice A30 (Qih (gt x0 k9)).length c31] (Qih (gt x0 k9))]) (js := []) (yv := (Qih (gt x0 k9))) (pk [1, 0]) (fun _ _ hs => (Sep.one hs)) rfl Qda rfl (by omega) rfl rfl (Qo rfl) ?_
  refine Qal (Qax (Qi (Qad (wm ?_))))
  refine wv (Qbd k9 1 (by omega)) ?_
  refine wa (Qal ?_)
  have hn34 := Qbb (R := (List (List Qn))) (body := F1) (k := k9) (s := d10) (s' := (d10.set k9 (Qih (gt x0 k9)))) (show k9 < x0.length from by omega) (rfl) hF12
  exact Qaz (k9 + 1, (d10.set k9 (Qih (gt x0 k9))), ()) sl3 (fun W hm => hm) ⟨(by omega), hn34⟩ (rl (by omega))
 have g15 := dlF hl14
 refine Qp rfl g15 ?_
 refine Qbk (Qac (Qac ?_))
 have hE35 : R2 (x0.length - 0) 0 (List.replicate x0.length []) = Sum.inr d10 := Qbn hl14 hF12
 refine Qbm (Qi (sr (wm (wa (nt' (Qj ?_))))))
 have he36 := (show Qiw x0 = d10 from Qat hE35 (rfl))
 refine Qec rfl (Qcv rfl) (fun W hm => ⟨.slice (some ⟨p7, 0, none⟩) x0.length x0.length, ?_, ?_⟩)
 ·first | rw [he36] | rfl
 rw [he36]; exact hm

def Qfq (x0 : Qx) : Qx :=
 (⟨(Qiw x0.Segments), x0.Now⟩ : Qx)
theorem cb82 : Cb Tryz.prog 82 := ⟨f82, _, func82, rfl, by decide⟩
theorem Qapi (w : World) (z0 : List Value) (x0 : Qx) (r_0 : Qns.rd w w.heap.size z0 x0) (s_0 : Qfl 68719476736 x0) :
  Calls Tryz.prog 82 #[.agg z0.toArray] w fun e w' => ∃ v : List Value, e = .returned (.agg v.toArray) ∧ Mem w.heap.size w [Qd Qcz v (Qfq x0)] w' := by
 obtain ⟨v1, rfl, r2⟩ := Qadi r_0
 obtain ⟨m3, A4, c5, rfl, q6, r7⟩ := Qk r2
 have l8 : x0.Segments.length ≤ 68719476736 := s_0.1
 refine ce1 (L := [(0, .agg #[.slice A4 x0.Segments.length c5, .int .i64 x0.Now])]) (N := 12) func82 ?_
 refine sr ?_
 refine Qbj rfl (Qo rfl) (by decide) (fun p9 => ?_)
 refine Qbo Qae rfl (Qo rfl) (by decide) (fun p10 => ?_)
 refine nt' (sr ?_)
 refine Qbo Qae rfl (Qo rfl) (by decide) (fun p11 => ?_)
 refine nt' (sr ?_)
 refine wv (vf underlying24 rfl type22) ?_
 refine wv (vl 2 0 Qnx) ?_
 refine wcl (tSl (tSl Qm 191) 131) (Qiw x0.Segments) (Qr Qagr rfl) (fun W hm => Qapk W _ x0.Segments (hm.rdS0 r7) s_0) (fun z12 => ?_)
 refine Qs (n := 0) rfl ?_
 rintro A13 c14 rfl m15
 refine wv (vf Qaf rfl Qcu) ?_
 let I2 : It := Qd (tSl (tSl Qm 191) 131) [.slice A13 (Qiw x0.Segments).length c14] (Qiw x0.Segments)
 let I3 : It := Qa p9 24 [.slice A4 x0.Segments.length c5, .int .i64 x0.Now]
 refine sb 0 [.slice A13 (Qiw x0.Segments).length c14, .int .i64 0] [I2, Qa p10 42 [.slice none 0 0, .int .i64 0], I3] (pk [1, 0, 2, 3]) Qcu ?_
 refine nt' (sr ?_)
 refine wv (vf underlying24 rfl Qh) ?_
 refine wv (vl 3 1 Qt) ?_
 refine wv (vf Qaf rfl Qh) ?_
 let K1 : List Value := [.slice A13 (Qiw x0.Segments).length c14, .int .i64 x0.Now]
 refine sb 1 K1 [I2, Qa p10 42 [.slice none 0 0, .int .i64 0], I3] (fun W hm => hm) Qh ?_
 refine nt' (sr ?_)
 refine wv (fun W hm => Qz (cs := K1) Qaf Qae rfl rfl (hm.boxCells (n := 0) rfl)) ?_
 refine sb 0 K1 [Qa p11 42 K1, I2, I3] (pk [2, 0, 1, 3]) Qae ?_
 refine nt' (Qj ?_)
 have he17 := (show Qfq x0 = (⟨(Qiw x0.Segments), x0.Now⟩ : Qx) from rfl)
 refine Qec rfl (Qcp (n := 0) rfl rfl Qaf Qae rfl) (fun W hm => ⟨K1, ?_, ?_⟩)
 ·first | rw [he17] | rfl
 rw [he17]; exact Mem.join (is := [I2]) (js := []) (fun _ _ hs => Qed (x := (⟨(Qiw x0.Segments), x0.Now⟩ : Qx)) hs) (hm.pick [2] (by decide))

def Qif (x0 : Qby) : Qby :=
 x0
theorem Qahq : Cb Tryz.prog 203 := ⟨f203, _, func203, rfl, by decide⟩
theorem Qapc (w : World) (z0 : List Value) (x0 : Qby) (r_0 : Qil.rd w w.heap.size z0 x0) :
  Calls Tryz.prog 203 #[.agg z0.toArray] w fun e w' => ∃ v : List Value, e = .returned (.agg v.toArray) ∧ Mem w.heap.size w [Qd Qbz v (Qif x0)] w' := by
 obtain rfl := Qadb r_0
 refine ce1 (L := [(0, .agg #[.int .i64 x0.Field, .int .i64 x0.Low, .int .i64 x0.High])]) (N := 14) func203 ?_
 refine sr ?_
 refine Qbj rfl (Qo rfl) (by decide) (fun p1 => ?_)
 refine Qbo Qeh rfl (Qo rfl) (by decide) (fun p2 => ?_)
 refine nt' (sr ?_)
 refine Qbo Qeh rfl (Qo rfl) (by decide) (fun p3 => ?_)
 refine nt' (sr ?_)
 refine wv (vf underlying215 rfl Qh) ?_
 refine wv (vl 2 0 Qt) ?_
 refine wv (vf Qei rfl Qh) ?_
 let I1 : It := Qa p2 201 [.int .i64 0, .int .i64 0, .int .i64 0]
 let I2 : It := Qa p1 215 [.int .i64 x0.Field, .int .i64 x0.Low, .int .i64 x0.High]
 refine sb 0 [.int .i64 x0.Field, .int .i64 0, .int .i64 0] [I1, I2] (fun W hm => hm) Qh ?_
 refine nt' (sr ?_)
 refine wv (vf underlying215 rfl Qh) ?_
 refine wv (vl 2 1 Qt) ?_
 refine wv (vf Qei rfl Qh) ?_
 refine sb 1 [.int .i64 x0.Field, .int .i64 x0.Low, .int .i64 0] [I1, I2] (fun W hm => hm) Qh ?_
 refine nt' (sr ?_)
 refine wv (vf underlying215 rfl Qh) ?_
 refine wv (vl 2 2 Qt) ?_
 refine wv (vf Qei rfl Qh) ?_
 refine sb 2 [.int .i64 x0.Field, .int .i64 x0.Low, .int .i64 x0.High] [I1, I2] (fun W hm => hm) Qh ?_
 refine nt' (sr ?_)
 refine wv (fun W hm => Qz (cs := [.int .i64 x0.Field, .int .i64 x0.Low, .int .i64 x0.High]) Qei Qeh rfl rfl (hm.boxCells (n := 0) rfl)) ?_
 refine sb 0 [.int .i64 x0.Field, .int .i64 x0.Low, .int .i64 x0.High] [Qa p3 201 [.int .i64 x0.Field, .int .i64 x0.Low, .int .i64 x0.High], I2] (pk [1, 0, 2]) Qeh ?_
 refine nt' (Qj ?_)
 have he4 := (show Qif x0 = x0 from rfl)
 refine Qec rfl (Qcp (n := 0) rfl rfl Qei Qeh rfl) (fun W hm => ⟨[.int .i64 x0.Field, .int .i64 x0.Low, .int .i64 x0.High], ?_, ?_⟩)
 ·first | rw [he4] | rfl
 rw [he4]; exact Mem.join (is := []) (js := []) (fun _ _ hs => Qwz (x := x0) hs) (hm.pick [] (by decide))

def Qvq (x0 : (List Qby)) (k9 : Nat) (d10 : (List Qby)) : (List Qby) ⊕ ((List Qby)) :=
 Sum.inr (d10.set k9 (Qif (gt x0 k9)))
def Qiv (x0 : (List Qby)) : (List Qby) :=
 Sum.elim id (fun (s : (List Qby)) => s) (rng (R := (List Qby)) (fun k (s : (List Qby)) => Qvq x0 k s) (x0.length - 0) 0 (List.replicate x0.length (⟨(0 : Int), (0 : Int), (0 : Int)⟩ : Qby)))
theorem Qagh : Cb Tryz.prog 144 := ⟨f144, _, func144, rfl, by decide⟩
theorem Qapa (w : World) (z0 : Value) (x0 : (List Qby)) (r_0 : rdS Qil w w.heap.size z0 x0) (s_0 : x0.length ≤ 68719476736) :
  Calls Tryz.prog 144 #[z0] w fun e w' => ∃ v : Value, e = .returned (v) ∧ Mem w.heap.size w [Qd (tSl Qbz 201) [v] (Qiv x0)] w' := by
 obtain ⟨m1, A2, c3, rfl, q4, r5⟩ := Qk r_0
 have l6 : x0.length ≤ 68719476736 := s_0
 refine ce1 (L := [(0, .slice A2 x0.length c3)]) (N := 23) func144 ?_
 refine sr (wa (nt' (sr (wm ?_))))
 refine wv (Qai Qqw) ?_
 refine Qlj (E := Qbz) (n := x0.length) (x0 := (⟨(0 : Int), (0 : Int), (0 : Int)⟩ : Qby)) Qds Qeh rfl rfl rfl (fun _ => ⟨[], [], _, _, rfl, rfl, Qcy, ⟨[], [], _, _, rfl, rfl, Qcy, Qcy⟩⟩) rfl rfl (show x0.length * 24 ≤ 281474976710656 from by omega) (by omega) (Qo rfl) (by decide) (fun p7 => ?_)
 refine wa (nt' (Qf (sr (wa (nt' (Qab ?_))))))
 let F1 := fun k (s : (List Qby)) => Qvq x0 k s
 let R2 := rng (R := (List Qby)) F1
 refine Qbl (σ := Nat × ((List Qby)) × (Unit)) (fun s => [(0, .slice A2 x0.length c3), (3, .slice (some ⟨p7, 0, none⟩) x0.length x0.length), (4, .int .i64 ((s.1 : Nat) : Int))]) (fun s => [Qd (tSl Qbz 201) [.slice (some ⟨p7, 0, none⟩) x0.length x0.length] s.2.1]) (fun s => s.1 ≤ x0.length ∧ R2 (x0.length - s.1) s.1 s.2.1 = R2 (x0.length - 0) 0 (List.replicate x0.length (⟨(0 : Int), (0 : Int), (0 : Int)⟩ : Qby))) (fun s => x0.length - s.1) (0, (List.replicate x0.length (⟨(0 : Int), (0 : Int), (0 : Int)⟩ : Qby)), ()) sl3 (fun W hm => hm) ⟨(by omega), rfl⟩ ?_
 rintro ⟨k9, d10, ⟨⟩⟩ H13
 obtain ⟨hk11, hF12⟩ : k9 ≤ x0.length ∧ R2 (x0.length - k9) k9 d10 = R2 (x0.length - 0) 0 (List.replicate x0.length (⟨(0 : Int), (0 : Int), (0 : Int)⟩ : Qby)) := H13
 show CM Tryz.prog 23 _ _ _ _ [(0, .slice A2 x0.length c3), (3, .slice (some ⟨p7, 0, none⟩) x0.length x0.length), (4, .int .i64 ((k9 : Nat) : Int))] [Qd (tSl Qbz 201) [.slice (some ⟨p7, 0, none⟩) x0.length x0.length] d10]
 refine Qf (sr (wm (wm ?_)))
 refine wv (Qai Qqw) ?_
 refine wv Qak ?_
 refine nt' ?_
 by_cases hl14 : k9 < x0.length
 ·have g15 := dlT hl14
  refine Ql rfl g15 ?_
  refine Qq (Qi (Qf (Qab (Qad (wm (wm (wm (wm ?_))))))))
  obtain ⟨a16, rfl, hb17, he18⟩ := q4 (by omega)
  refine wv (vix 3 k9 Qqw type215) ?_
  obtain ⟨_, e20, hc19⟩ := he18 k9 _ (Qca (show k9 < x0.length from by omega))
  obtain rfl := Qadb e20
  refine wv (fun W hm => Qz (cs := [.int .i64 ((gt x0 k9).Field), .int .i64 ((gt x0 k9).Low), .int .i64 ((gt x0 k9).High)]) underlying215 type215 rfl rfl (hm.elCells (show (a16.add (k9 * 3)).block < w.heap.size from by rw [Qah]; exact hb17.1) hc19)) ?_
  refine wcs Qbz (Qif (gt x0 k9)) (Qr Qahq rfl) (fun W hm => Qapc W _ (gt x0 k9) (Qatm (x := (gt x0 k9)))) (fun z21 => ?_)
  refine Qacy ?_
  rintro ⟨⟩ rfl
  refine wv (vix 3 k9 Qds Qeh) ?_
  refine Qhh (E := Qbz) (e := 201) (u := .agg #[.int .i64 ((Qif (gt x0 k9)).Field), .int .i64 ((Qif (gt x0 k9)).Low), .int .i64 ((Qif (gt x0 k9)).High)]) (k := k9) (p := p7) (n := x0.length) (xs := d10) (eis := []) (js := []) (yv := (Qif (gt x0 k9))) (fun W hm => hm) (fun _ _ hs => (Qwz (x := (Qif (gt x0 k9))) hs)) rfl Qeh rfl (by omega) rfl rfl (Qo rfl) ?_
  refine Qal (Qax (Qi (Qad (wm ?_))))
  refine wv (Qbd k9 1 (by omega)) ?_
  refine wa (Qal ?_)
  have hn22 := Qbb (R := (List Qby)) (body := F1) (k := k9) (s := d10) (s' := (d10.set k9 (Qif (gt x0 k9)))) (show k9 < x0.length from by omega) (rfl) hF12
  exact Qaz (k9 + 1, (d10.set k9 (Qif (gt x0 k9))), ()) sl3 (fun W hm => hm) ⟨(by omega), hn22⟩ (rl (by omega))
 have g15 := dlF hl14
 refine Qp rfl g15 ?_
 refine Qbk (Qac (Qac ?_))
 have hE23 : R2 (x0.length - 0) 0 (List.replicate x0.length (⟨(0 : Int), (0 : Int), (0 : Int)⟩ : Qby)) = Sum.inr d10 := Qbn hl14 hF12
 refine Qbm (Qi (sr (wm (wa (nt' (Qj ?_))))))
 have he24 := (show Qiv x0 = d10 from Qat hE23 (rfl))
 refine Qec rfl (Qcv rfl) (fun W hm => ⟨.slice (some ⟨p7, 0, none⟩) x0.length x0.length, ?_, ?_⟩)
 ·first | rw [he24] | rfl
 rw [he24]; exact hm

def Qcr (x0 : Qcg) : Qcg :=
 (⟨x0.Id, x0.Tenant, (Qiv x0.Conds), (Qcd x0.Out)⟩ : Qcg)
theorem Qza : Cb Tryz.prog 53 := ⟨f53, _, func53, rfl, by decide⟩
theorem Qabj (w : World) (z0 : List Value) (x0 : Qcg) (r_0 : Qmn.rd w w.heap.size z0 x0) (s_0 : Qij 68719476736 x0) :
  Calls Tryz.prog 53 #[.agg z0.toArray] w fun e w' => ∃ v : List Value, e = .returned (.agg v.toArray) ∧ Mem w.heap.size w [Qd Qez v (Qcr x0)] w' := by
 obtain ⟨v1, v3, rfl, r2, r4⟩ := Qadf r_0
 obtain ⟨m5, A6, c7, rfl, q8, r9⟩ := Qk r2
 obtain ⟨m10, A11, c12, rfl, q13, r14⟩ := Qk r4
 have l15 : x0.Conds.length ≤ 68719476736 := s_0.1
 have l16 : x0.Out.length ≤ 68719476736 := s_0.2
 refine ce1 (L := [(0, .agg #[.int .i64 x0.Id, .int .i64 x0.Tenant, .slice A6 x0.Conds.length c7, .slice A11 x0.Out.length c12])]) (N := 19) func53 ?_
 refine sr ?_
 refine Qbj rfl (Qo rfl) (by decide) (fun p17 => ?_)
 refine Qbo Qcl rfl (Qo rfl) (by decide) (fun p18 => ?_)
 refine nt' (sr ?_)
 refine Qbo Qcl rfl (Qo rfl) (by decide) (fun p19 => ?_)
 refine nt' (sr ?_)
 refine wv (vf Qla rfl Qh) ?_
 refine wv (vl 2 0 Qt) ?_
 refine wv (vf Qch rfl Qh) ?_
 let K1 : List Value := [.int .i64 0, .int .i64 0, .slice none 0 0, .slice none 0 0]
 let K2 : List Value := [.int .i64 x0.Id, .int .i64 x0.Tenant, .slice A6 x0.Conds.length c7, .slice A11 x0.Out.length c12]
 refine sb 0 [.int .i64 x0.Id, .int .i64 0, .slice none 0 0, .slice none 0 0] [Qa p18 34 K1, Qa p17 87 K2] (fun W hm => hm) Qh ?_
 refine nt' (sr ?_)
 refine wv (vf Qla rfl Qh) ?_
 refine wv (vl 2 1 Qt) ?_
 refine wv (vf Qch rfl Qh) ?_
 refine sb 1 [.int .i64 x0.Id, .int .i64 x0.Tenant, .slice none 0 0, .slice none 0 0] [Qa p18 34 K1, Qa p17 87 K2] (fun W hm => hm) Qh ?_
 refine nt' (sr ?_)
 refine wv (vf Qla rfl type85) ?_
 refine wv (vl 2 2 Qqw) ?_
 refine wcl (tSl Qbz 201) (Qiv x0.Conds) (Qr Qagh rfl) (fun W hm => Qapa W _ x0.Conds (hm.rdS0 r9) s_0.1) (fun z20 => ?_)
 refine Qs (n := 0) rfl ?_
 rintro A21 c22 rfl m23
 refine wv (vf Qch rfl type32) ?_
 let I4 : It := Qd (tSl Qbz 201) [.slice A21 (Qiv x0.Conds).length c22] (Qiv x0.Conds)
 refine sb 2 [.int .i64 x0.Id, .int .i64 x0.Tenant, .slice A21 (Qiv x0.Conds).length c22, .slice none 0 0] [I4, Qa p18 34 K1, Qa p17 87 K2] (pk [1, 0, 2, 3]) type32 ?_
 refine nt' (sr ?_)
 refine wv (vf Qla rfl Qap) ?_
 refine wv (vl 3 3 Qv) ?_
 refine wcl (tSl Qg 3) (Qcd x0.Out) (Qr Qll rfl) (fun W hm => Qmf W _ x0.Out (hm.rdS0 r14) s_0.2) (fun z25 => ?_)
 refine Qs (n := 0) rfl ?_
 rintro A26 c27 rfl m28
 refine wv (vf Qch rfl Qap) ?_
 let K3 : List Value := [.int .i64 x0.Id, .int .i64 x0.Tenant, .slice A21 (Qiv x0.Conds).length c22, .slice A26 (Qcd x0.Out).length c27]
 let I5 : It := Qd (tSl Qg 3) [.slice A26 (Qcd x0.Out).length c27] (Qcd x0.Out)
 refine sb 3 K3 [I5, I4, Qa p18 34 K1, Qa p17 87 K2] (pk [1, 0, 2, 3, 4]) Qap ?_
 refine nt' (sr ?_)
 refine wv (fun W hm => Qz (cs := K3) Qch Qcl rfl rfl (hm.boxCells (n := 0) rfl)) ?_
 refine sb 0 K3 [Qa p19 34 K3, I5, I4, Qa p17 87 K2] (pk [3, 0, 1, 2, 4]) Qcl ?_
 refine nt' (Qj ?_)
 have he30 := (show Qcr x0 = (⟨x0.Id, x0.Tenant, (Qiv x0.Conds), (Qcd x0.Out)⟩ : Qcg) from rfl)
 refine Qec rfl (Qcp (n := 0) rfl rfl Qch Qcl rfl) (fun W hm => ⟨K3, ?_, ?_⟩)
 ·first | rw [he30] | rfl
 rw [he30]; exact Mem.join (is := [I4, I5]) (js := []) (fun _ _ hs => Qxg (x := (⟨x0.Id, x0.Tenant, (Qiv x0.Conds), (Qcd x0.Out)⟩ : Qcg)) hs) (hm.pick [3, 2] (by decide))

def Qey (x0 : Qaj) : Qaj :=
 (⟨x0.Id, (Qcd x0.Values)⟩ : Qaj)
theorem Qyn : Cb Tryz.prog 148 := ⟨f148, _, func148, rfl, by decide⟩
theorem Qabn (w : World) (z0 : List Value) (x0 : Qaj) (r_0 : Qhq.rd w w.heap.size z0 x0) (s_0 : Qgg 68719476736 x0) :
  Calls Tryz.prog 148 #[.agg z0.toArray] w fun e w' => ∃ v : List Value, e = .returned (.agg v.toArray) ∧ Mem w.heap.size w [Qd Qbp v (Qey x0)] w' := by
 obtain ⟨v1, rfl, r2⟩ := Qsy r_0
 obtain ⟨m3, A4, c5, rfl, q6, r7⟩ := Qk r2
 have l8 : x0.Values.length ≤ 68719476736 := s_0
 refine ce1 (L := [(0, .agg #[.int .i64 x0.Id, .slice A4 x0.Values.length c5])]) (N := 12) func148 ?_
 refine sr ?_
 refine Qbj rfl (Qo rfl) (by decide) (fun p9 => ?_)
 refine Qbo Qcc rfl (Qo rfl) (by decide) (fun p10 => ?_)
 refine nt' (sr ?_)
 refine Qbo Qcc rfl (Qo rfl) (by decide) (fun p11 => ?_)
 refine nt' (sr ?_)
 refine wv (vf Qpd rfl Qh) ?_
 refine wv (vl 2 0 Qt) ?_
 refine wv (vf Qde rfl Qh) ?_
 let I2 : It := Qa p9 93 [.int .i64 x0.Id, .slice A4 x0.Values.length c5]
 refine sb 0 [.int .i64 x0.Id, .slice none 0 0] [Qa p10 73 [.int .i64 0, .slice none 0 0], I2] (fun W hm => hm) Qh ?_
 refine nt' (sr ?_)
 refine wv (vf Qpd rfl Qap) ?_
 refine wv (vl 2 1 Qv) ?_
 refine wcl (tSl Qg 3) (Qcd x0.Values) (Qr Qll rfl) (fun W hm => Qmf W _ x0.Values (hm.rdS0 r7) s_0) (fun z12 => ?_)
 refine Qs (n := 0) rfl ?_
 rintro A13 c14 rfl m15
 refine wv (vf Qde rfl Qap) ?_
 let K1 : List Value := [.int .i64 x0.Id, .slice A13 (Qcd x0.Values).length c14]
 let I3 : It := Qd (tSl Qg 3) [.slice A13 (Qcd x0.Values).length c14] (Qcd x0.Values)
 refine sb 1 K1 [I3, Qa p10 73 [.int .i64 0, .slice none 0 0], I2] (pk [1, 0, 2, 3]) Qap ?_
 refine nt' (sr ?_)
 refine wv (fun W hm => Qz (cs := K1) Qde Qcc rfl rfl (hm.boxCells (n := 0) rfl)) ?_
 refine sb 0 K1 [Qa p11 73 K1, I3, I2] (pk [2, 0, 1, 3]) Qcc ?_
 refine nt' (Qj ?_)
 have he17 := (show Qey x0 = (⟨x0.Id, (Qcd x0.Values)⟩ : Qaj) from rfl)
 refine Qec rfl (Qcp (n := 0) rfl rfl Qde Qcc rfl) (fun W hm => ⟨K1, ?_, ?_⟩)
 ·first | rw [he17] | rfl
 rw [he17]; exact Mem.join (is := [I3]) (js := []) (fun _ _ hs => Qkk (x := (⟨x0.Id, (Qcd x0.Values)⟩ : Qaj)) hs) (hm.pick [2] (by decide))

def Qvt (x0 : (List Qaj)) (k9 : Nat) (d10 : (List Qaj)) : (List Qaj) ⊕ ((List Qaj)) :=
 Sum.inr (d10.set k9 (Qey (gt x0 k9)))
def Qgt (x0 : (List Qaj)) : (List Qaj) :=
 Sum.elim id (fun (s : (List Qaj)) => s) (rng (R := (List Qaj)) (fun k (s : (List Qaj)) => Qvt x0 k s) (x0.length - 0) 0 (List.replicate x0.length (⟨(0 : Int), []⟩ : Qaj)))
theorem Qyw : Cb Tryz.prog 216 := ⟨f216, _, func216, rfl, by decide⟩
theorem Qabl (w : World) (z0 : Value) (x0 : (List Qaj)) (r_0 : rdS Qhq w w.heap.size z0 x0) (s_0 : (x0.length ≤ 68719476736 ∧ ∀ y ∈ x0, Qgg 68719476736 y)) :
  Calls Tryz.prog 216 #[z0] w fun e w' => ∃ v : Value, e = .returned (v) ∧ Mem w.heap.size w [Qd (tSl Qbp 73) [v] (Qgt x0)] w' := by
 obtain ⟨m1, A2, c3, rfl, q4, r5⟩ := Qk r_0
 have l6 : x0.length ≤ 68719476736 := s_0.1
 refine ce1 (L := [(0, .slice A2 x0.length c3)]) (N := 23) func216 ?_
 refine sr (wa (nt' (sr (wm ?_))))
 refine wv (Qai Qky) ?_
 refine Qlj (E := Qbp) (n := x0.length) (x0 := (⟨(0 : Int), []⟩ : Qaj)) Qdv Qcc rfl rfl rfl (fun _ => ⟨[], [], _, _, rfl, rfl, Qcy, Qhv⟩) rfl rfl (show x0.length * 32 ≤ 281474976710656 from by omega) (by omega) (Qo rfl) (by decide) (fun p7 => ?_)
 refine wa (nt' (Qf (sr (wa (nt' (Qab ?_))))))
 let F1 := fun k (s : (List Qaj)) => Qvt x0 k s
 let R2 := rng (R := (List Qaj)) F1
 refine Qbl (σ := Nat × ((List Qaj)) × (Unit)) (fun s => [(0, .slice A2 x0.length c3), (3, .slice (some ⟨p7, 0, none⟩) x0.length x0.length), (4, .int .i64 ((s.1 : Nat) : Int))]) (fun s => [Qd (tSl Qbp 73) [.slice (some ⟨p7, 0, none⟩) x0.length x0.length] s.2.1]) (fun s => s.1 ≤ x0.length ∧ R2 (x0.length - s.1) s.1 s.2.1 = R2 (x0.length - 0) 0 (List.replicate x0.length (⟨(0 : Int), []⟩ : Qaj))) (fun s => x0.length - s.1) (0, (List.replicate x0.length (⟨(0 : Int), []⟩ : Qaj)), ()) sl3 (fun W hm => hm) ⟨(by omega), rfl⟩ ?_
 rintro ⟨k9, d10, ⟨⟩⟩ H13
 obtain ⟨hk11, hF12⟩ : k9 ≤ x0.length ∧ R2 (x0.length - k9) k9 d10 = R2 (x0.length - 0) 0 (List.replicate x0.length (⟨(0 : Int), []⟩ : Qaj)) := H13
 show CM Tryz.prog 23 _ _ _ _ [(0, .slice A2 x0.length c3), (3, .slice (some ⟨p7, 0, none⟩) x0.length x0.length), (4, .int .i64 ((k9 : Nat) : Int))] [Qd (tSl Qbp 73) [.slice (some ⟨p7, 0, none⟩) x0.length x0.length] d10]
 refine Qf (sr (wm (wm ?_)))
 refine wv (Qai Qky) ?_
 refine wv Qak ?_
 refine nt' ?_
 by_cases hl14 : k9 < x0.length
 ·have g15 := dlT hl14
  refine Ql rfl g15 ?_
  refine Qq (Qi (Qf (Qab (Qad (wm (wm (wm (wm ?_))))))))
  obtain ⟨a16, rfl, hb17, he18⟩ := q4 (by omega)
  refine wv (vix 2 k9 Qky type93) ?_
  obtain ⟨_, e22, hc19⟩ := he18 k9 _ (Qca (show k9 < x0.length from by omega))
  obtain ⟨v20, rfl, r21⟩ := Qsy e22
  have l23 : ((gt x0 k9).Values).length ≤ 68719476736 := (s_0.2 _ (Qbh (show k9 < x0.length from by omega)))
  obtain ⟨m24, A25, c26, rfl, q27, r28⟩ := Qk r21
  refine wv (fun W hm => Qz (cs := [.int .i64 ((gt x0 k9).Id), .slice A25 ((gt x0 k9).Values).length c26]) Qpd type93 rfl rfl (hm.elCells (show (a16.add (k9 * 2)).block < w.heap.size from by rw [Qah]; exact hb17.1) hc19)) ?_
  refine wcs Qbp (Qey (gt x0 k9)) (Qr Qyn rfl) (fun W hm => Qabn W _ (gt x0 k9) (Qsx (x := (gt x0 k9)) (hm.rdS0 r28)) (s_0.2 _ (Qbh (show k9 < x0.length from by omega)))) (fun z29 => ?_)
  refine Qnu ?_
  rintro v30 rfl
  refine Qs (n := 0) rfl ?_
  rintro A31 c32 rfl m33
  refine wv (vix 2 k9 Qdv Qcc) ?_
  refine Qhh (E := Qbp) (e := 73) (u := .agg #[.int .i64 ((Qey (gt x0 k9)).Id), .slice A31 ((Qey (gt x0 k9)).Values).length c32]) (k := k9) (p := p7) (n := x0.length) (xs := d10) (eis := [Qd (tSl Qg 3) [.slice A31 ((Qey (gt x0 k9)).Values).length c32] ((Qey (gt x0 k9)).Values)]) (js := []) (yv := (Qey (gt x0 k9))) (pk [1, 0]) (fun _ _ hs => (Qkk (x := (Qey (gt x0 k9))) hs)) rfl Qcc rfl (by omega) rfl rfl (Qo rfl) ?_
  refine Qal (Qax (Qi (Qad (wm ?_))))
  refine wv (Qbd k9 1 (by omega)) ?_
  refine wa (Qal ?_)
  have hn35 := Qbb (R := (List Qaj)) (body := F1) (k := k9) (s := d10) (s' := (d10.set k9 (Qey (gt x0 k9)))) (show k9 < x0.length from by omega) (rfl) hF12
  exact Qaz (k9 + 1, (d10.set k9 (Qey (gt x0 k9))), ()) sl3 (fun W hm => hm) ⟨(by omega), hn35⟩ (rl (by omega))
 have g15 := dlF hl14
 refine Qp rfl g15 ?_
 refine Qbk (Qac (Qac ?_))
 have hE36 : R2 (x0.length - 0) 0 (List.replicate x0.length (⟨(0 : Int), []⟩ : Qaj)) = Sum.inr d10 := Qbn hl14 hF12
 refine Qbm (Qi (sr (wm (wa (nt' (Qj ?_))))))
 have he37 := (show Qgt x0 = d10 from Qat hE36 (rfl))
 refine Qec rfl (Qcv rfl) (fun W hm => ⟨.slice (some ⟨p7, 0, none⟩) x0.length x0.length, ?_, ?_⟩)
 ·first | rw [he37] | rfl
 rw [he37]; exact hm

def Qet (x0 : Qbf) : Qbf :=
 (⟨(Qcr x0.Query), x0.Time, (Qcd x0.Todo), x0.Age, x0.Sent, x0.Cap, (Qgt x0.Rows)⟩ : Qbf)
theorem Qags : Cb Tryz.prog 163 := ⟨f163, _, func163, rfl, by decide⟩
theorem Qaou (w : World) (z0 : List Value) (x0 : Qbf) (r_0 : Qjl.rd w w.heap.size z0 x0) (s_0 : Qiy 68719476736 x0) :
  Calls Tryz.prog 163 #[.agg z0.toArray] w fun e w' => ∃ v : List Value, e = .returned (.agg v.toArray) ∧ Mem w.heap.size w [Qd Qbw v (Qet x0)] w' := by
 obtain ⟨v1, v3, v5, v7, rfl, r2, r4, r6, r8⟩ := Qst r_0
 obtain ⟨m9, A10, c11, rfl, q12, r13⟩ := Qk r2
 obtain ⟨m14, A15, c16, rfl, q17, r18⟩ := Qk r4
 obtain ⟨m19, A20, c21, rfl, q22, r23⟩ := Qk r6
 obtain ⟨m24, A25, c26, rfl, q27, r28⟩ := Qk r8
 have l29 : x0.Query.Conds.length ≤ 68719476736 := s_0.1.1
 have l30 : x0.Query.Out.length ≤ 68719476736 := s_0.1.2
 have l31 : x0.Todo.length ≤ 68719476736 := s_0.2.1
 have l32 : x0.Rows.length ≤ 68719476736 := s_0.2.2.1
 refine ce1 (L := [(0, .agg #[.int .i64 x0.Query.Id, .int .i64 x0.Query.Tenant, .slice A10 x0.Query.Conds.length c11, .slice A15 x0.Query.Out.length c16, .int .i64 x0.Time, .slice A20 x0.Todo.length c21, .int .i64 x0.Age, .int .i64 x0.Sent, .int .i64 x0.Cap, .slice A25 x0.Rows.length c26])]) (N := 29) func163 ?_
 refine sr ?_
 refine Qbj rfl (Qo rfl) (by decide) (fun p33 => ?_)
 refine Qbo Qcs rfl (Qo rfl) (by decide) (fun p34 => ?_)
 refine nt' (sr ?_)
 refine Qbo Qcs rfl (Qo rfl) (by decide) (fun p35 => ?_)
 refine nt' (sr ?_)
 refine wv (vf Qjo rfl type87) ?_
 refine wv (fun W hm => Qz (cs := [.int .i64 x0.Query.Id, .int .i64 x0.Query.Tenant, .slice A10 x0.Query.Conds.length c11, .slice A15 x0.Query.Out.length c16]) Qla type87 rfl rfl (hm.boxPart (n := 2) rfl rfl)) ?_
 refine wcs Qez (Qcr x0.Query) (Qr Qza rfl) (fun W hm => Qabj W _ x0.Query (Qsw (x := x0.Query) (hm.rdS0 r13) (hm.rdS0 r18)) s_0.1) (fun z36 => ?_)
 refine Qpb ?_
 rintro ⟨v37, v38⟩ rfl
 refine Qs (n := 0) rfl ?_
 rintro A39 c40 rfl m41
 refine Qs (n := 1) rfl ?_
 rintro A43 c44 rfl m45
 refine wv (vf Qbu rfl Qcl) ?_
 let K1 : List Value := [.int .i64 0, .int .i64 0, .slice none 0 0, .slice none 0 0, .int .i64 0, .slice none 0 0, .int .i64 0, .int .i64 0, .int .i64 0, .slice none 0 0]
 let K2 : List Value := [.int .i64 x0.Query.Id, .int .i64 x0.Query.Tenant, .slice A10 x0.Query.Conds.length c11, .slice A15 x0.Query.Out.length c16, .int .i64 x0.Time, .slice A20 x0.Todo.length c21, .int .i64 x0.Age, .int .i64 x0.Sent, .int .i64 x0.Cap, .slice A25 x0.Rows.length c26]
 let I4 : It := Qd (tSl Qbz 201) [.slice A39 ((Qcr x0.Query).Conds).length c40] ((Qcr x0.Query).Conds)
 let I5 : It := Qd (tSl Qg 3) [.slice A43 ((Qcr x0.Query).Out).length c44] ((Qcr x0.Query).Out)
 refine sb 0 [.int .i64 ((Qcr x0.Query).Id), .int .i64 ((Qcr x0.Query).Tenant), .slice A39 ((Qcr x0.Query).Conds).length c40, .slice A43 ((Qcr x0.Query).Out).length c44, .int .i64 0, .slice none 0 0, .int .i64 0, .int .i64 0, .int .i64 0, .slice none 0 0] [I4, I5, Qa p34 64 K1, Qa p33 171 K2] (pk [2, 0, 1, 3, 4]) Qcl ?_
 refine nt' (sr ?_)
 refine wv (vf Qjo rfl Qh) ?_
 refine wv (vl 4 4 Qt) ?_
 refine wv (vf Qbu rfl Qh) ?_
 refine sb 4 [.int .i64 ((Qcr x0.Query).Id), .int .i64 ((Qcr x0.Query).Tenant), .slice A39 ((Qcr x0.Query).Conds).length c40, .slice A43 ((Qcr x0.Query).Out).length c44, .int .i64 x0.Time, .slice none 0 0, .int .i64 0, .int .i64 0, .int .i64 0, .slice none 0 0] [I4, I5, Qa p34 64 K1, Qa p33 171 K2] (fun W hm => hm) Qh ?_
 refine nt' (sr ?_)
 refine wv (vf Qjo rfl Qap) ?_
 refine wv (vl 4 5 Qv) ?_
 refine wcl (tSl Qg 3) (Qcd x0.Todo) (Qr Qll rfl) (fun W hm => Qmf W _ x0.Todo (hm.rdS0 r23) s_0.2.1) (fun z47 => ?_)
 refine Qs (n := 0) rfl ?_
 rintro A48 c49 rfl m50
 refine wv (vf Qbu rfl Qap) ?_
 let I6 : It := Qd (tSl Qg 3) [.slice A48 (Qcd x0.Todo).length c49] (Qcd x0.Todo)
 refine sb 5 [.int .i64 ((Qcr x0.Query).Id), .int .i64 ((Qcr x0.Query).Tenant), .slice A39 ((Qcr x0.Query).Conds).length c40, .slice A43 ((Qcr x0.Query).Out).length c44, .int .i64 x0.Time, .slice A48 (Qcd x0.Todo).length c49, .int .i64 0, .int .i64 0, .int .i64 0, .slice none 0 0] [I6, I4, I5, Qa p34 64 K1, Qa p33 171 K2] (pk [1, 0, 2, 3, 4, 5]) Qap ?_
 refine nt' (sr ?_)
 refine wv (vf Qjo rfl Qh) ?_
 refine wv (vl 5 6 Qt) ?_
 refine wv (vf Qbu rfl Qh) ?_
 refine sb 6 [.int .i64 ((Qcr x0.Query).Id), .int .i64 ((Qcr x0.Query).Tenant), .slice A39 ((Qcr x0.Query).Conds).length c40, .slice A43 ((Qcr x0.Query).Out).length c44, .int .i64 x0.Time, .slice A48 (Qcd x0.Todo).length c49, .int .i64 x0.Age, .int .i64 0, .int .i64 0, .slice none 0 0] [I6, I4, I5, Qa p34 64 K1, Qa p33 171 K2] (fun W hm => hm) Qh ?_
 refine nt' (sr ?_)
 refine wv (vf Qjo rfl Qh) ?_
 refine wv (vl 5 7 Qt) ?_
 refine wv (vf Qbu rfl Qh) ?_
 refine sb 7 [.int .i64 ((Qcr x0.Query).Id), .int .i64 ((Qcr x0.Query).Tenant), .slice A39 ((Qcr x0.Query).Conds).length c40, .slice A43 ((Qcr x0.Query).Out).length c44, .int .i64 x0.Time, .slice A48 (Qcd x0.Todo).length c49, .int .i64 x0.Age, .int .i64 x0.Sent, .int .i64 0, .slice none 0 0] [I6, I4, I5, Qa p34 64 K1, Qa p33 171 K2] (fun W hm => hm) Qh ?_
 refine nt' (sr ?_)
 refine wv (vf Qjo rfl Qh) ?_
 refine wv (vl 5 8 Qt) ?_
 refine wv (vf Qbu rfl Qh) ?_
 refine sb 8 [.int .i64 ((Qcr x0.Query).Id), .int .i64 ((Qcr x0.Query).Tenant), .slice A39 ((Qcr x0.Query).Conds).length c40, .slice A43 ((Qcr x0.Query).Out).length c44, .int .i64 x0.Time, .slice A48 (Qcd x0.Todo).length c49, .int .i64 x0.Age, .int .i64 x0.Sent, .int .i64 x0.Cap, .slice none 0 0] [I6, I4, I5, Qa p34 64 K1, Qa p33 171 K2] (fun W hm => hm) Qh ?_
 refine nt' (sr ?_)
 refine wv (vf Qjo rfl type169) ?_
 refine wv (vl 5 9 Qky) ?_
 refine wcl (tSl Qbp 73) (Qgt x0.Rows) (Qr Qyw rfl) (fun W hm => Qabl W _ x0.Rows (hm.rdS0 r28) s_0.2.2) (fun z52 => ?_)
 refine Qs (n := 0) rfl ?_
 rintro A53 c54 rfl m55
 refine wv (vf Qbu rfl Qfa) ?_
 let K3 : List Value := [.int .i64 ((Qcr x0.Query).Id), .int .i64 ((Qcr x0.Query).Tenant), .slice A39 ((Qcr x0.Query).Conds).length c40, .slice A43 ((Qcr x0.Query).Out).length c44, .int .i64 x0.Time, .slice A48 (Qcd x0.Todo).length c49, .int .i64 x0.Age, .int .i64 x0.Sent, .int .i64 x0.Cap, .slice A53 (Qgt x0.Rows).length c54]
 let I7 : It := Qd (tSl Qbp 73) [.slice A53 (Qgt x0.Rows).length c54] (Qgt x0.Rows)
 refine sb 9 K3 [I7, I6, I4, I5, Qa p34 64 K1, Qa p33 171 K2] (pk [1, 0, 2, 3, 4, 5, 6]) Qfa ?_
 refine nt' (sr ?_)
 refine wv (fun W hm => Qz (cs := K3) Qbu Qcs rfl rfl (hm.boxCells (n := 0) rfl)) ?_
 refine sb 0 K3 [Qa p35 64 K3, I7, I6, I4, I5, Qa p33 171 K2] (pk [5, 0, 1, 2, 3, 4, 6]) Qcs ?_
 refine nt' (Qj ?_)
 have he57 := (show Qet x0 = (⟨(Qcr x0.Query), x0.Time, (Qcd x0.Todo), x0.Age, x0.Sent, x0.Cap, (Qgt x0.Rows)⟩ : Qbf) from rfl)
 refine Qec rfl (Qcp (n := 0) rfl rfl Qbu Qcs rfl) (fun W hm => ⟨K3, ?_, ?_⟩)
 ·first | rw [he57] | rfl
 rw [he57]; exact Mem.join (is := [I4, I5, I6, I7]) (js := []) (fun _ _ hs => Qmm (x := (⟨(Qcr x0.Query), x0.Time, (Qcd x0.Todo), x0.Age, x0.Sent, x0.Cap, (Qgt x0.Rows)⟩ : Qbf)) hs) (hm.pick [4, 5, 3, 2] (by decide))

def Qvo (x0 : (List Qbf)) (k9 : Nat) (d10 : (List Qbf)) : (List Qbf) ⊕ ((List Qbf)) :=
 Sum.inr (d10.set k9 (Qet (gt x0 k9)))
def Qhu (x0 : (List Qbf)) : (List Qbf) :=
 Sum.elim id (fun (s : (List Qbf)) => s) (rng (R := (List Qbf)) (fun k (s : (List Qbf)) => Qvo x0 k s) (x0.length - 0) 0 (List.replicate x0.length (⟨(⟨(0 : Int), (0 : Int), [], []⟩ : Qcg), (0 : Int), [], (0 : Int), (0 : Int), (0 : Int), []⟩ : Qbf)))
theorem cb83 : Cb Tryz.prog 83 := ⟨f83, _, func83, rfl, by decide⟩
theorem Qaos (w : World) (z0 : Value) (x0 : (List Qbf)) (r_0 : rdS Qjl w w.heap.size z0 x0) (s_0 : (x0.length ≤ 68719476736 ∧ ∀ y ∈ x0, Qiy 68719476736 y)) :
  Calls Tryz.prog 83 #[z0] w fun e w' => ∃ v : Value, e = .returned (v) ∧ Mem w.heap.size w [Qd (tSl Qbw 64) [v] (Qhu x0)] w' := by
 obtain ⟨m1, A2, c3, rfl, q4, r5⟩ := Qk r_0
 have l6 : x0.length ≤ 68719476736 := s_0.1
 refine ce1 (L := [(0, .slice A2 x0.length c3)]) (N := 23) func83 ?_
 refine sr (wa (nt' (sr (wm ?_))))
 refine wv (Qai Qny) ?_
 refine Qlj (E := Qbw) (n := x0.length) (x0 := (⟨(⟨(0 : Int), (0 : Int), [], []⟩ : Qcg), (0 : Int), [], (0 : Int), (0 : Int), (0 : Int), []⟩ : Qbf)) Qcj Qcs rfl rfl rfl (fun _ => ⟨[], [], _, _, rfl, rfl, ⟨[], [], _, _, rfl, rfl, Qcy, ⟨[], [], _, _, rfl, rfl, Qcy, ⟨[], [], _, _, rfl, rfl, Qhv, Qhv⟩⟩⟩, ⟨[], [], _, _, rfl, rfl, Qcy, ⟨[], [], _, _, rfl, rfl, Qhv, ⟨[], [], _, _, rfl, rfl, Qcy, ⟨[], [], _, _, rfl, rfl, Qcy, ⟨[], [], _, _, rfl, rfl, Qcy, Qhv⟩⟩⟩⟩⟩⟩) rfl rfl (show x0.length * 144 ≤ 281474976710656 from by omega) (by omega) (Qo rfl) (by decide) (fun p7 => ?_)
 refine wa (nt' (Qf (sr (wa (nt' (Qab ?_))))))
 let F1 := fun k (s : (List Qbf)) => Qvo x0 k s
 let R2 := rng (R := (List Qbf)) F1
 refine Qbl (σ := Nat × ((List Qbf)) × (Unit)) (fun s => [(0, .slice A2 x0.length c3), (3, .slice (some ⟨p7, 0, none⟩) x0.length x0.length), (4, .int .i64 ((s.1 : Nat) : Int))]) (fun s => [Qd (tSl Qbw 64) [.slice (some ⟨p7, 0, none⟩) x0.length x0.length] s.2.1]) (fun s => s.1 ≤ x0.length ∧ R2 (x0.length - s.1) s.1 s.2.1 = R2 (x0.length - 0) 0 (List.replicate x0.length (⟨(⟨(0 : Int), (0 : Int), [], []⟩ : Qcg), (0 : Int), [], (0 : Int), (0 : Int), (0 : Int), []⟩ : Qbf))) (fun s => x0.length - s.1) (0, (List.replicate x0.length (⟨(⟨(0 : Int), (0 : Int), [], []⟩ : Qcg), (0 : Int), [], (0 : Int), (0 : Int), (0 : Int), []⟩ : Qbf)), ()) sl3 (fun W hm => hm) ⟨(by omega), rfl⟩ ?_
 rintro ⟨k9, d10, ⟨⟩⟩ H13
 obtain ⟨hk11, hF12⟩ : k9 ≤ x0.length ∧ R2 (x0.length - k9) k9 d10 = R2 (x0.length - 0) 0 (List.replicate x0.length (⟨(⟨(0 : Int), (0 : Int), [], []⟩ : Qcg), (0 : Int), [], (0 : Int), (0 : Int), (0 : Int), []⟩ : Qbf)) := H13
 show CM Tryz.prog 23 _ _ _ _ [(0, .slice A2 x0.length c3), (3, .slice (some ⟨p7, 0, none⟩) x0.length x0.length), (4, .int .i64 ((k9 : Nat) : Int))] [Qd (tSl Qbw 64) [.slice (some ⟨p7, 0, none⟩) x0.length x0.length] d10]
 refine Qf (sr (wm (wm ?_)))
 refine wv (Qai Qny) ?_
 refine wv Qak ?_
 refine nt' ?_
 by_cases hl14 : k9 < x0.length
 ·have g15 := dlT hl14
  refine Ql rfl g15 ?_
  refine Qq (Qi (Qf (Qab (Qad (wm (wm (wm (wm ?_))))))))
  obtain ⟨a16, rfl, hb17, he18⟩ := q4 (by omega)
  refine wv (vix 10 k9 Qny type171) ?_
  obtain ⟨_, e28, hc19⟩ := he18 k9 _ (Qca (show k9 < x0.length from by omega))
  obtain ⟨v20, v22, v24, v26, rfl, r21, r23, r25, r27⟩ := Qst e28
  have l29 : ((gt x0 k9).Query.Conds).length ≤ 68719476736 := (s_0.2 _ (Qbh (show k9 < x0.length from by omega))).1.1
  have l30 : ((gt x0 k9).Query.Out).length ≤ 68719476736 := (s_0.2 _ (Qbh (show k9 < x0.length from by omega))).1.2
  have l31 : ((gt x0 k9).Todo).length ≤ 68719476736 := (s_0.2 _ (Qbh (show k9 < x0.length from by omega))).2.1
  have l32 : ((gt x0 k9).Rows).length ≤ 68719476736 := (s_0.2 _ (Qbh (show k9 < x0.length from by omega))).2.2.1
  obtain ⟨m33, A34, c35, rfl, q36, r37⟩ := Qk r21
  obtain ⟨m38, A39, c40, rfl, q41, r42⟩ := Qk r23
  obtain ⟨m43, A44, c45, rfl, q46, r47⟩ := Qk r25
  obtain ⟨m48, A49, c50, rfl, q51, r52⟩ := Qk r27
  refine wv (fun W hm => Qz (cs := [.int .i64 ((gt x0 k9).Query.Id), .int .i64 ((gt x0 k9).Query.Tenant), .slice A34 ((gt x0 k9).Query.Conds).length c35, .slice A39 ((gt x0 k9).Query.Out).length c40, .int .i64 ((gt x0 k9).Time), .slice A44 ((gt x0 k9).Todo).length c45, .int .i64 ((gt x0 k9).Age), .int .i64 ((gt x0 k9).Sent), .int .i64 ((gt x0 k9).Cap), .slice A49 ((gt x0 k9).Rows).length c50]) Qjo type171 rfl rfl (hm.elCells (show (a16.add (k9 * 10)).block < w.heap.size from by rw [Qah]; exact hb17.1) hc19)) ?_
  refine wcs Qbw (Qet (gt x0 k9)) (Qr Qags rfl) (fun W hm => Qaou W _ (gt x0 k9) (Qacz (x := (gt x0 k9)) (hm.rdS0 r37) (hm.rdS0 r42) (hm.rdS0 r47) (hm.rdS0 r52)) (s_0.2 _ (Qbh (show k9 < x0.length from by omega)))) (fun z53 => ?_)
  refine Qqv ?_
  rintro ⟨v54, v55, v56, v57⟩ rfl
  refine Qs (n := 0) rfl ?_
  rintro A58 c59 rfl m60
  refine Qs (n := 1) rfl ?_
  rintro A62 c63 rfl m64
  refine Qs (n := 2) rfl ?_
  rintro A66 c67 rfl m68
  refine Qs (n := 3) rfl ?_
  rintro A70 c71 rfl m72
  refine wv (vix 10 k9 Qcj Qcs) ?_
  refine Qhh (E := Qbw) (e := 64) (u := .agg #[.int .i64 ((Qet (gt x0 k9)).Query.Id), .int .i64 ((Qet (gt x0 k9)).Query.Tenant), .slice A58 ((Qet (gt x0 k9)).Query.Conds).length c59, .slice A62 ((Qet (gt x0 k9)).Query.Out).length c63, .int .i64 ((Qet (gt x0 k9)).Time), .slice A66 ((Qet (gt x0 k9)).Todo).length c67, .int .i64 ((Qet (gt x0 k9)).Age), .int .i64 ((Qet (gt x0 k9)).Sent), .int .i64 ((Qet (gt x0 k9)).Cap), .slice A70 ((Qet (gt x0 k9)).Rows).length c71]) (k := k9) (p := p7) (n := x0.length) (xs := d10) (eis := [Qd (tSl Qbz 201) [.slice A58 ((Qet (gt x0 k9)).Query.Conds).length c59] ((Qet (gt x0 k9)).Query.Conds), Qd (tSl Qg 3) [.slice A62 ((Qet (gt x0 k9)).Query.Out).length c63] ((Qet (gt x0 k9)).Query.Out), Qd (tSl Qg 3) [.slice A66 ((Qet (gt x0 k9)).Todo).length c67] ((Qet (gt x0 k9)).Todo), Qd (tSl Qbp 73) [.slice A70 ((Qet (gt x0 k9)).Rows).length c71] ((Qet (gt x0 k9)).Rows)]) (js := []) (yv := (Qet (gt x0 k9))) (pk [4, 0, 1, 2, 3]) (fun _ _ hs => (Qmm (x := (Qet (gt x0 k9))) hs)) rfl Qcs rfl (by omega) rfl rfl (Qo rfl) ?_
  refine Qal (Qax (Qi (Qad (wm ?_))))
  refine wv (Qbd k9 1 (by omega)) ?_
  refine wa (Qal ?_)
  have hn74 := Qbb (R := (List Qbf)) (body := F1) (k := k9) (s := d10) (s' := (d10.set k9 (Qet (gt x0 k9)))) (show k9 < x0.length from by omega) (rfl) hF12
  exact Qaz (k9 + 1, (d10.set k9 (Qet (gt x0 k9))), ()) sl3 (fun W hm => hm) ⟨(by omega), hn74⟩ (rl (by omega))
 have g15 := dlF hl14
 refine Qp rfl g15 ?_
 refine Qbk (Qac (Qac ?_))
 have hE75 : R2 (x0.length - 0) 0 (List.replicate x0.length (⟨(⟨(0 : Int), (0 : Int), [], []⟩ : Qcg), (0 : Int), [], (0 : Int), (0 : Int), (0 : Int), []⟩ : Qbf)) = Sum.inr d10 := Qbn hl14 hF12
 refine Qbm (Qi (sr (wm (wa (nt' (Qj ?_))))))
 have he76 := (show Qhu x0 = d10 from Qat hE75 (rfl))
 refine Qec rfl (Qcv rfl) (fun W hm => ⟨.slice (some ⟨p7, 0, none⟩) x0.length x0.length, ?_, ?_⟩)
 ·first | rw [he76] | rfl
 rw [he76]; exact hm

def Qfp (x0 : Qbg) : Qbg :=
 (⟨(Qcr x0.Query), x0.Time, x0.Steps, (Qgt x0.Rows)⟩ : Qbg)
theorem Qagt : Cb Tryz.prog 164 := ⟨f164, _, func164, rfl, by decide⟩
theorem Qapg (w : World) (z0 : List Value) (x0 : Qbg) (r_0 : Qjn.rd w w.heap.size z0 x0) (s_0 : Qiz 68719476736 x0) :
  Calls Tryz.prog 164 #[.agg z0.toArray] w fun e w' => ∃ v : List Value, e = .returned (.agg v.toArray) ∧ Mem w.heap.size w [Qd Qce v (Qfp x0)] w' := by
 obtain ⟨v1, v3, v5, rfl, r2, r4, r6⟩ := Qsv r_0
 obtain ⟨m7, A8, c9, rfl, q10, r11⟩ := Qk r2
 obtain ⟨m12, A13, c14, rfl, q15, r16⟩ := Qk r4
 obtain ⟨m17, A18, c19, rfl, q20, r21⟩ := Qk r6
 have l22 : x0.Query.Conds.length ≤ 68719476736 := s_0.1.1
 have l23 : x0.Query.Out.length ≤ 68719476736 := s_0.1.2
 have l24 : x0.Rows.length ≤ 68719476736 := s_0.2.1
 refine ce1 (L := [(0, .agg #[.int .i64 x0.Query.Id, .int .i64 x0.Query.Tenant, .slice A8 x0.Query.Conds.length c9, .slice A13 x0.Query.Out.length c14, .int .i64 x0.Time, .int .i64 x0.Steps, .slice A18 x0.Rows.length c19])]) (N := 19) func164 ?_
 refine sr ?_
 refine Qbj rfl (Qo rfl) (by decide) (fun p25 => ?_)
 refine Qbo Qdl rfl (Qo rfl) (by decide) (fun p26 => ?_)
 refine nt' (sr ?_)
 refine Qbo Qdl rfl (Qo rfl) (by decide) (fun p27 => ?_)
 refine nt' (sr ?_)
 refine wv (vf Qnv rfl type87) ?_
 refine wv (fun W hm => Qz (cs := [.int .i64 x0.Query.Id, .int .i64 x0.Query.Tenant, .slice A8 x0.Query.Conds.length c9, .slice A13 x0.Query.Out.length c14]) Qla type87 rfl rfl (hm.boxPart (n := 2) rfl rfl)) ?_
 refine wcs Qez (Qcr x0.Query) (Qr Qza rfl) (fun W hm => Qabj W _ x0.Query (Qsw (x := x0.Query) (hm.rdS0 r11) (hm.rdS0 r16)) s_0.1) (fun z28 => ?_)
 refine Qpb ?_
 rintro ⟨v29, v30⟩ rfl
 refine Qs (n := 0) rfl ?_
 rintro A31 c32 rfl m33
 refine Qs (n := 1) rfl ?_
 rintro A35 c36 rfl m37
 refine wv (vf Qdh rfl Qcl) ?_
 let K1 : List Value := [.int .i64 0, .int .i64 0, .slice none 0 0, .slice none 0 0, .int .i64 0, .int .i64 0, .slice none 0 0]
 let K2 : List Value := [.int .i64 x0.Query.Id, .int .i64 x0.Query.Tenant, .slice A8 x0.Query.Conds.length c9, .slice A13 x0.Query.Out.length c14, .int .i64 x0.Time, .int .i64 x0.Steps, .slice A18 x0.Rows.length c19]
 let I4 : It := Qd (tSl Qbz 201) [.slice A31 ((Qcr x0.Query).Conds).length c32] ((Qcr x0.Query).Conds)
 let I5 : It := Qd (tSl Qg 3) [.slice A35 ((Qcr x0.Query).Out).length c36] ((Qcr x0.Query).Out)
 refine sb 0 [.int .i64 ((Qcr x0.Query).Id), .int .i64 ((Qcr x0.Query).Tenant), .slice A31 ((Qcr x0.Query).Conds).length c32, .slice A35 ((Qcr x0.Query).Out).length c36, .int .i64 0, .int .i64 0, .slice none 0 0] [I4, I5, Qa p26 37 K1, Qa p25 174 K2] (pk [2, 0, 1, 3, 4]) Qcl ?_
 refine nt' (sr ?_)
 refine wv (vf Qnv rfl Qh) ?_
 refine wv (vl 4 4 Qt) ?_
 refine wv (vf Qdh rfl Qh) ?_
 refine sb 4 [.int .i64 ((Qcr x0.Query).Id), .int .i64 ((Qcr x0.Query).Tenant), .slice A31 ((Qcr x0.Query).Conds).length c32, .slice A35 ((Qcr x0.Query).Out).length c36, .int .i64 x0.Time, .int .i64 0, .slice none 0 0] [I4, I5, Qa p26 37 K1, Qa p25 174 K2] (fun W hm => hm) Qh ?_
 refine nt' (sr ?_)
 refine wv (vf Qnv rfl Qh) ?_
 refine wv (vl 4 5 Qt) ?_
 refine wv (vf Qdh rfl Qh) ?_
 refine sb 5 [.int .i64 ((Qcr x0.Query).Id), .int .i64 ((Qcr x0.Query).Tenant), .slice A31 ((Qcr x0.Query).Conds).length c32, .slice A35 ((Qcr x0.Query).Out).length c36, .int .i64 x0.Time, .int .i64 x0.Steps, .slice none 0 0] [I4, I5, Qa p26 37 K1, Qa p25 174 K2] (fun W hm => hm) Qh ?_
 refine nt' (sr ?_)
 refine wv (vf Qnv rfl type169) ?_
 refine wv (vl 4 6 Qky) ?_
 refine wcl (tSl Qbp 73) (Qgt x0.Rows) (Qr Qyw rfl) (fun W hm => Qabl W _ x0.Rows (hm.rdS0 r21) s_0.2) (fun z39 => ?_)
 refine Qs (n := 0) rfl ?_
 rintro A40 c41 rfl m42
 refine wv (vf Qdh rfl Qfa) ?_
 let K3 : List Value := [.int .i64 ((Qcr x0.Query).Id), .int .i64 ((Qcr x0.Query).Tenant), .slice A31 ((Qcr x0.Query).Conds).length c32, .slice A35 ((Qcr x0.Query).Out).length c36, .int .i64 x0.Time, .int .i64 x0.Steps, .slice A40 (Qgt x0.Rows).length c41]
 let I6 : It := Qd (tSl Qbp 73) [.slice A40 (Qgt x0.Rows).length c41] (Qgt x0.Rows)
 refine sb 6 K3 [I6, I4, I5, Qa p26 37 K1, Qa p25 174 K2] (pk [1, 0, 2, 3, 4, 5]) Qfa ?_
 refine nt' (sr ?_)
 refine wv (fun W hm => Qz (cs := K3) Qdh Qdl rfl rfl (hm.boxCells (n := 0) rfl)) ?_
 refine sb 0 K3 [Qa p27 37 K3, I6, I4, I5, Qa p25 174 K2] (pk [4, 0, 1, 2, 3, 5]) Qdl ?_
 refine nt' (Qj ?_)
 have he44 := (show Qfp x0 = (⟨(Qcr x0.Query), x0.Time, x0.Steps, (Qgt x0.Rows)⟩ : Qbg) from rfl)
 refine Qec rfl (Qcp (n := 0) rfl rfl Qdh Qdl rfl) (fun W hm => ⟨K3, ?_, ?_⟩)
 ·first | rw [he44] | rfl
 rw [he44]; exact Mem.join (is := [I4, I5, I6]) (js := []) (fun _ _ hs => Qoz (x := (⟨(Qcr x0.Query), x0.Time, x0.Steps, (Qgt x0.Rows)⟩ : Qbg)) hs) (hm.pick [3, 4, 2] (by decide))

def Qvr (x0 : (List Qbg)) (k9 : Nat) (d10 : (List Qbg)) : (List Qbg) ⊕ ((List Qbg)) :=
 Sum.inr (d10.set k9 (Qfp (gt x0 k9)))
def Qig (x0 : (List Qbg)) : (List Qbg) :=
 Sum.elim id (fun (s : (List Qbg)) => s) (rng (R := (List Qbg)) (fun k (s : (List Qbg)) => Qvr x0 k s) (x0.length - 0) 0 (List.replicate x0.length (⟨(⟨(0 : Int), (0 : Int), [], []⟩ : Qcg), (0 : Int), (0 : Int), []⟩ : Qbg)))
theorem cb84 : Cb Tryz.prog 84 := ⟨f84, _, func84, rfl, by decide⟩
theorem Qape (w : World) (z0 : Value) (x0 : (List Qbg)) (r_0 : rdS Qjn w w.heap.size z0 x0) (s_0 : (x0.length ≤ 68719476736 ∧ ∀ y ∈ x0, Qiz 68719476736 y)) :
  Calls Tryz.prog 84 #[z0] w fun e w' => ∃ v : Value, e = .returned (v) ∧ Mem w.heap.size w [Qd (tSl Qce 37) [v] (Qig x0)] w' := by
 obtain ⟨m1, A2, c3, rfl, q4, r5⟩ := Qk r_0
 have l6 : x0.length ≤ 68719476736 := s_0.1
 refine ce1 (L := [(0, .slice A2 x0.length c3)]) (N := 23) func84 ?_
 refine sr (wa (nt' (sr (wm ?_))))
 refine wv (Qai Qnz) ?_
 refine Qlj (E := Qce) (n := x0.length) (x0 := (⟨(⟨(0 : Int), (0 : Int), [], []⟩ : Qcg), (0 : Int), (0 : Int), []⟩ : Qbg)) Qdn Qdl rfl rfl rfl (fun _ => ⟨[], [], _, _, rfl, rfl, ⟨[], [], _, _, rfl, rfl, Qcy, ⟨[], [], _, _, rfl, rfl, Qcy, ⟨[], [], _, _, rfl, rfl, Qhv, Qhv⟩⟩⟩, ⟨[], [], _, _, rfl, rfl, Qcy, ⟨[], [], _, _, rfl, rfl, Qcy, Qhv⟩⟩⟩) rfl rfl (show x0.length * 104 ≤ 281474976710656 from by omega) (by omega) (Qo rfl) (by decide) (fun p7 => ?_)
 refine wa (nt' (Qf (sr (wa (nt' (Qab ?_))))))
 let F1 := fun k (s : (List Qbg)) => Qvr x0 k s
 let R2 := rng (R := (List Qbg)) F1
 refine Qbl (σ := Nat × ((List Qbg)) × (Unit)) (fun s => [(0, .slice A2 x0.length c3), (3, .slice (some ⟨p7, 0, none⟩) x0.length x0.length), (4, .int .i64 ((s.1 : Nat) : Int))]) (fun s => [Qd (tSl Qce 37) [.slice (some ⟨p7, 0, none⟩) x0.length x0.length] s.2.1]) (fun s => s.1 ≤ x0.length ∧ R2 (x0.length - s.1) s.1 s.2.1 = R2 (x0.length - 0) 0 (List.replicate x0.length (⟨(⟨(0 : Int), (0 : Int), [], []⟩ : Qcg), (0 : Int), (0 : Int), []⟩ : Qbg))) (fun s => x0.length - s.1) (0, (List.replicate x0.length (⟨(⟨(0 : Int), (0 : Int), [], []⟩ : Qcg), (0 : Int), (0 : Int), []⟩ : Qbg)), ()) sl3 (fun W hm => hm) ⟨(by omega), rfl⟩ ?_
 rintro ⟨k9, d10, ⟨⟩⟩ H13
 obtain ⟨hk11, hF12⟩ : k9 ≤ x0.length ∧ R2 (x0.length - k9) k9 d10 = R2 (x0.length - 0) 0 (List.replicate x0.length (⟨(⟨(0 : Int), (0 : Int), [], []⟩ : Qcg), (0 : Int), (0 : Int), []⟩ : Qbg)) := H13
 show CM Tryz.prog 23 _ _ _ _ [(0, .slice A2 x0.length c3), (3, .slice (some ⟨p7, 0, none⟩) x0.length x0.length), (4, .int .i64 ((k9 : Nat) : Int))] [Qd (tSl Qce 37) [.slice (some ⟨p7, 0, none⟩) x0.length x0.length] d10]
 refine Qf (sr (wm (wm ?_)))
 refine wv (Qai Qnz) ?_
 refine wv Qak ?_
 refine nt' ?_
 by_cases hl14 : k9 < x0.length
 ·have g15 := dlT hl14
  refine Ql rfl g15 ?_
  refine Qq (Qi (Qf (Qab (Qad (wm (wm (wm (wm ?_))))))))
  obtain ⟨a16, rfl, hb17, he18⟩ := q4 (by omega)
  refine wv (vix 7 k9 Qnz type174) ?_
  obtain ⟨_, e26, hc19⟩ := he18 k9 _ (Qca (show k9 < x0.length from by omega))
  obtain ⟨v20, v22, v24, rfl, r21, r23, r25⟩ := Qsv e26
  have l27 : ((gt x0 k9).Query.Conds).length ≤ 68719476736 := (s_0.2 _ (Qbh (show k9 < x0.length from by omega))).1.1
  have l28 : ((gt x0 k9).Query.Out).length ≤ 68719476736 := (s_0.2 _ (Qbh (show k9 < x0.length from by omega))).1.2
  have l29 : ((gt x0 k9).Rows).length ≤ 68719476736 := (s_0.2 _ (Qbh (show k9 < x0.length from by omega))).2.1
  obtain ⟨m30, A31, c32, rfl, q33, r34⟩ := Qk r21
  obtain ⟨m35, A36, c37, rfl, q38, r39⟩ := Qk r23
  obtain ⟨m40, A41, c42, rfl, q43, r44⟩ := Qk r25
  refine wv (fun W hm => Qz (cs := [.int .i64 ((gt x0 k9).Query.Id), .int .i64 ((gt x0 k9).Query.Tenant), .slice A31 ((gt x0 k9).Query.Conds).length c32, .slice A36 ((gt x0 k9).Query.Out).length c37, .int .i64 ((gt x0 k9).Time), .int .i64 ((gt x0 k9).Steps), .slice A41 ((gt x0 k9).Rows).length c42]) Qnv type174 rfl rfl (hm.elCells (show (a16.add (k9 * 7)).block < w.heap.size from by rw [Qah]; exact hb17.1) hc19)) ?_
  refine wcs Qce (Qfp (gt x0 k9)) (Qr Qagt rfl) (fun W hm => Qapg W _ (gt x0 k9) (Qadd (x := (gt x0 k9)) (hm.rdS0 r34) (hm.rdS0 r39) (hm.rdS0 r44)) (s_0.2 _ (Qbh (show k9 < x0.length from by omega)))) (fun z45 => ?_)
  refine Qxb ?_
  rintro ⟨v46, v47, v48⟩ rfl
  refine Qs (n := 0) rfl ?_
  rintro A49 c50 rfl m51
  refine Qs (n := 1) rfl ?_
  rintro A53 c54 rfl m55
  refine Qs (n := 2) rfl ?_
  rintro A57 c58 rfl m59
  refine wv (vix 7 k9 Qdn Qdl) ?_
  refine Qhh (E := Qce) (e := 37) (u := .agg #[.int .i64 ((Qfp (gt x0 k9)).Query.Id), .int .i64 ((Qfp (gt x0 k9)).Query.Tenant), .slice A49 ((Qfp (gt x0 k9)).Query.Conds).length c50, .slice A53 ((Qfp (gt x0 k9)).Query.Out).length c54, .int .i64 ((Qfp (gt x0 k9)).Time), .int .i64 ((Qfp (gt x0 k9)).Steps), .slice A57 ((Qfp (gt x0 k9)).Rows).length c58]) (k := k9) (p := p7) (n := x0.length) (xs := d10) (eis := [Qd (tSl Qbz 201) [.slice A49 ((Qfp (gt x0 k9)).Query.Conds).length c50] ((Qfp (gt x0 k9)).Query.Conds), Qd (tSl Qg 3) [.slice A53 ((Qfp (gt x0 k9)).Query.Out).length c54] ((Qfp (gt x0 k9)).Query.Out), Qd (tSl Qbp 73) [.slice A57 ((Qfp (gt x0 k9)).Rows).length c58] ((Qfp (gt x0 k9)).Rows)]) (js := []) (yv := (Qfp (gt x0 k9))) (pk [3, 0, 1, 2]) (fun _ _ hs => (Qoz (x := (Qfp (gt x0 k9))) hs)) rfl Qdl rfl (by omega) rfl rfl (Qo rfl) ?_
  refine Qal (Qax (Qi (Qad (wm ?_))))
  refine wv (Qbd k9 1 (by omega)) ?_
  refine wa (Qal ?_)
  have hn61 := Qbb (R := (List Qbg)) (body := F1) (k := k9) (s := d10) (s' := (d10.set k9 (Qfp (gt x0 k9)))) (show k9 < x0.length from by omega) (rfl) hF12
  exact Qaz (k9 + 1, (d10.set k9 (Qfp (gt x0 k9))), ()) sl3 (fun W hm => hm) ⟨(by omega), hn61⟩ (rl (by omega))
 have g15 := dlF hl14
 refine Qp rfl g15 ?_
 refine Qbk (Qac (Qac ?_))
 have hE62 : R2 (x0.length - 0) 0 (List.replicate x0.length (⟨(⟨(0 : Int), (0 : Int), [], []⟩ : Qcg), (0 : Int), (0 : Int), []⟩ : Qbg)) = Sum.inr d10 := Qbn hl14 hF12
 refine Qbm (Qi (sr (wm (wa (nt' (Qj ?_))))))
 have he63 := (show Qig x0 = d10 from Qat hE62 (rfl))
 refine Qec rfl (Qcv rfl) (fun W hm => ⟨.slice (some ⟨p7, 0, none⟩) x0.length x0.length, ?_, ?_⟩)
 ·first | rw [he63] | rfl
 rw [he63]; exact hm

def Qfw (x0 : Qay) : Qay :=
 (⟨x0.Segment, x0.Base, (Qcd x0.Ids), (Qcd x0.Tenants), (Qcd x0.Rows)⟩ : Qay)
theorem Qagu : Cb Tryz.prog 165 := ⟨f165, _, func165, rfl, by decide⟩
theorem Qaoy (w : World) (z0 : List Value) (x0 : Qay) (r_0 : Qjm.rd w w.heap.size z0 x0) (s_0 : Qhx 68719476736 x0) :
  Calls Tryz.prog 165 #[.agg z0.toArray] w fun e w' => ∃ v : List Value, e = .returned (.agg v.toArray) ∧ Mem w.heap.size w [Qd Qbx v (Qfw x0)] w' := by
 obtain ⟨v1, v3, v5, rfl, r2, r4, r6⟩ := Qsu r_0
 obtain ⟨m7, A8, c9, rfl, q10, r11⟩ := Qk r2
 obtain ⟨m12, A13, c14, rfl, q15, r16⟩ := Qk r4
 obtain ⟨m17, A18, c19, rfl, q20, r21⟩ := Qk r6
 have l22 : x0.Ids.length ≤ 68719476736 := s_0.1
 have l23 : x0.Tenants.length ≤ 68719476736 := s_0.2.1
 have l24 : x0.Rows.length ≤ 68719476736 := s_0.2.2
 refine ce1 (L := [(0, .agg #[.int .i64 x0.Segment, .int .i64 x0.Base, .slice A8 x0.Ids.length c9, .slice A13 x0.Tenants.length c14, .slice A18 x0.Rows.length c19])]) (N := 23) func165 ?_
 refine sr ?_
 refine Qbj rfl (Qo rfl) (by decide) (fun p25 => ?_)
 refine Qbo Qdr rfl (Qo rfl) (by decide) (fun p26 => ?_)
 refine nt' (sr ?_)
 refine Qbo Qdr rfl (Qo rfl) (by decide) (fun p27 => ?_)
 refine nt' (sr ?_)
 refine wv (vf Qkz rfl Qh) ?_
 refine wv (vl 2 0 Qt) ?_
 refine wv (vf Qcm rfl Qh) ?_
 let K1 : List Value := [.int .i64 0, .int .i64 0, .slice none 0 0, .slice none 0 0, .slice none 0 0]
 let K2 : List Value := [.int .i64 x0.Segment, .int .i64 x0.Base, .slice A8 x0.Ids.length c9, .slice A13 x0.Tenants.length c14, .slice A18 x0.Rows.length c19]
 refine sb 0 [.int .i64 x0.Segment, .int .i64 0, .slice none 0 0, .slice none 0 0, .slice none 0 0] [Qa p26 133 K1, Qa p25 176 K2] (fun W hm => hm) Qh ?_
 refine nt' (sr ?_)
 refine wv (vf Qkz rfl Qh) ?_
 refine wv (vl 2 1 Qt) ?_
 refine wv (vf Qcm rfl Qh) ?_
 refine sb 1 [.int .i64 x0.Segment, .int .i64 x0.Base, .slice none 0 0, .slice none 0 0, .slice none 0 0] [Qa p26 133 K1, Qa p25 176 K2] (fun W hm => hm) Qh ?_
 refine nt' (sr ?_)
 refine wv (vf Qkz rfl Qap) ?_
 refine wv (vl 2 2 Qv) ?_
 refine wcl (tSl Qg 3) (Qcd x0.Ids) (Qr Qll rfl) (fun W hm => Qmf W _ x0.Ids (hm.rdS0 r11) s_0.1) (fun z28 => ?_)
 refine Qs (n := 0) rfl ?_
 rintro A29 c30 rfl m31
 refine wv (vf Qcm rfl Qap) ?_
 let I4 : It := Qd (tSl Qg 3) [.slice A29 (Qcd x0.Ids).length c30] (Qcd x0.Ids)
 refine sb 2 [.int .i64 x0.Segment, .int .i64 x0.Base, .slice A29 (Qcd x0.Ids).length c30, .slice none 0 0, .slice none 0 0] [I4, Qa p26 133 K1, Qa p25 176 K2] (pk [1, 0, 2, 3]) Qap ?_
 refine nt' (sr ?_)
 refine wv (vf Qkz rfl Qap) ?_
 refine wv (vl 3 3 Qv) ?_
 refine wcl (tSl Qg 3) (Qcd x0.Tenants) (Qr Qll rfl) (fun W hm => Qmf W _ x0.Tenants (hm.rdS0 r16) s_0.2.1) (fun z33 => ?_)
 refine Qs (n := 0) rfl ?_
 rintro A34 c35 rfl m36
 refine wv (vf Qcm rfl Qap) ?_
 let I5 : It := Qd (tSl Qg 3) [.slice A34 (Qcd x0.Tenants).length c35] (Qcd x0.Tenants)
 refine sb 3 [.int .i64 x0.Segment, .int .i64 x0.Base, .slice A29 (Qcd x0.Ids).length c30, .slice A34 (Qcd x0.Tenants).length c35, .slice none 0 0] [I5, I4, Qa p26 133 K1, Qa p25 176 K2] (pk [1, 0, 2, 3, 4]) Qap ?_
 refine nt' (sr ?_)
 refine wv (vf Qkz rfl Qap) ?_
 refine wv (vl 4 4 Qv) ?_
 refine wcl (tSl Qg 3) (Qcd x0.Rows) (Qr Qll rfl) (fun W hm => Qmf W _ x0.Rows (hm.rdS0 r21) s_0.2.2) (fun z38 => ?_)
 refine Qs (n := 0) rfl ?_
 rintro A39 c40 rfl m41
 refine wv (vf Qcm rfl Qap) ?_
 let K3 : List Value := [.int .i64 x0.Segment, .int .i64 x0.Base, .slice A29 (Qcd x0.Ids).length c30, .slice A34 (Qcd x0.Tenants).length c35, .slice A39 (Qcd x0.Rows).length c40]
 let I6 : It := Qd (tSl Qg 3) [.slice A39 (Qcd x0.Rows).length c40] (Qcd x0.Rows)
 refine sb 4 K3 [I6, I5, I4, Qa p26 133 K1, Qa p25 176 K2] (pk [1, 0, 2, 3, 4, 5]) Qap ?_
 refine nt' (sr ?_)
 refine wv (fun W hm => Qz (cs := K3) Qcm Qdr rfl rfl (hm.boxCells (n := 0) rfl)) ?_
 refine sb 0 K3 [Qa p27 133 K3, I6, I5, I4, Qa p25 176 K2] (pk [4, 0, 1, 2, 3, 5]) Qdr ?_
 refine nt' (Qj ?_)
 have he43 := (show Qfw x0 = (⟨x0.Segment, x0.Base, (Qcd x0.Ids), (Qcd x0.Tenants), (Qcd x0.Rows)⟩ : Qay) from rfl)
 refine Qec rfl (Qcp (n := 0) rfl rfl Qcm Qdr rfl) (fun W hm => ⟨K3, ?_, ?_⟩)
 ·first | rw [he43] | rfl
 rw [he43]; exact Mem.join (is := [I4, I5, I6]) (js := []) (fun _ _ hs => Qnp (x := (⟨x0.Segment, x0.Base, (Qcd x0.Ids), (Qcd x0.Tenants), (Qcd x0.Rows)⟩ : Qay)) hs) (hm.pick [4, 3, 2] (by decide))

def Qvp (x0 : (List Qay)) (k9 : Nat) (d10 : (List Qay)) : (List Qay) ⊕ ((List Qay)) :=
 Sum.inr (d10.set k9 (Qfw (gt x0 k9)))
def Qiu (x0 : (List Qay)) : (List Qay) :=
 Sum.elim id (fun (s : (List Qay)) => s) (rng (R := (List Qay)) (fun k (s : (List Qay)) => Qvp x0 k s) (x0.length - 0) 0 (List.replicate x0.length (⟨(0 : Int), (0 : Int), [], [], []⟩ : Qay)))
theorem cb85 : Cb Tryz.prog 85 := ⟨f85, _, func85, rfl, by decide⟩
theorem Qaow (w : World) (z0 : Value) (x0 : (List Qay)) (r_0 : rdS Qjm w w.heap.size z0 x0) (s_0 : (x0.length ≤ 68719476736 ∧ ∀ y ∈ x0, Qhx 68719476736 y)) :
  Calls Tryz.prog 85 #[z0] w fun e w' => ∃ v : Value, e = .returned (v) ∧ Mem w.heap.size w [Qd (tSl Qbx 133) [v] (Qiu x0)] w' := by
 obtain ⟨m1, A2, c3, rfl, q4, r5⟩ := Qk r_0
 have l6 : x0.length ≤ 68719476736 := s_0.1
 refine ce1 (L := [(0, .slice A2 x0.length c3)]) (N := 23) func85 ?_
 refine sr (wa (nt' (sr (wm ?_))))
 refine wv (Qai Qoa) ?_
 refine Qlj (E := Qbx) (n := x0.length) (x0 := (⟨(0 : Int), (0 : Int), [], [], []⟩ : Qay)) Qdt Qdr rfl rfl rfl (fun _ => ⟨[], [], _, _, rfl, rfl, Qcy, ⟨[], [], _, _, rfl, rfl, Qcy, ⟨[], [], _, _, rfl, rfl, Qhv, ⟨[], [], _, _, rfl, rfl, Qhv, Qhv⟩⟩⟩⟩) rfl rfl (show x0.length * 88 ≤ 281474976710656 from by omega) (by omega) (Qo rfl) (by decide) (fun p7 => ?_)
 refine wa (nt' (Qf (sr (wa (nt' (Qab ?_))))))
 let F1 := fun k (s : (List Qay)) => Qvp x0 k s
 let R2 := rng (R := (List Qay)) F1
 refine Qbl (σ := Nat × ((List Qay)) × (Unit)) (fun s => [(0, .slice A2 x0.length c3), (3, .slice (some ⟨p7, 0, none⟩) x0.length x0.length), (4, .int .i64 ((s.1 : Nat) : Int))]) (fun s => [Qd (tSl Qbx 133) [.slice (some ⟨p7, 0, none⟩) x0.length x0.length] s.2.1]) (fun s => s.1 ≤ x0.length ∧ R2 (x0.length - s.1) s.1 s.2.1 = R2 (x0.length - 0) 0 (List.replicate x0.length (⟨(0 : Int), (0 : Int), [], [], []⟩ : Qay))) (fun s => x0.length - s.1) (0, (List.replicate x0.length (⟨(0 : Int), (0 : Int), [], [], []⟩ : Qay)), ()) sl3 (fun W hm => hm) ⟨(by omega), rfl⟩ ?_
 rintro ⟨k9, d10, ⟨⟩⟩ H13
 obtain ⟨hk11, hF12⟩ : k9 ≤ x0.length ∧ R2 (x0.length - k9) k9 d10 = R2 (x0.length - 0) 0 (List.replicate x0.length (⟨(0 : Int), (0 : Int), [], [], []⟩ : Qay)) := H13
 show CM Tryz.prog 23 _ _ _ _ [(0, .slice A2 x0.length c3), (3, .slice (some ⟨p7, 0, none⟩) x0.length x0.length), (4, .int .i64 ((k9 : Nat) : Int))] [Qd (tSl Qbx 133) [.slice (some ⟨p7, 0, none⟩) x0.length x0.length] d10]
 refine Qf (sr (wm (wm ?_)))
 refine wv (Qai Qoa) ?_
 refine wv Qak ?_
 refine nt' ?_
 by_cases hl14 : k9 < x0.length
 ·have g15 := dlT hl14
  refine Ql rfl g15 ?_
  refine Qq (Qi (Qf (Qab (Qad (wm (wm (wm (wm ?_))))))))
  obtain ⟨a16, rfl, hb17, he18⟩ := q4 (by omega)
  refine wv (vix 5 k9 Qoa type176) ?_
  obtain ⟨_, e26, hc19⟩ := he18 k9 _ (Qca (show k9 < x0.length from by omega))
  obtain ⟨v20, v22, v24, rfl, r21, r23, r25⟩ := Qsu e26
  have l27 : ((gt x0 k9).Ids).length ≤ 68719476736 := (s_0.2 _ (Qbh (show k9 < x0.length from by omega))).1
  have l28 : ((gt x0 k9).Tenants).length ≤ 68719476736 := (s_0.2 _ (Qbh (show k9 < x0.length from by omega))).2.1
  have l29 : ((gt x0 k9).Rows).length ≤ 68719476736 := (s_0.2 _ (Qbh (show k9 < x0.length from by omega))).2.2
  obtain ⟨m30, A31, c32, rfl, q33, r34⟩ := Qk r21
  obtain ⟨m35, A36, c37, rfl, q38, r39⟩ := Qk r23
  obtain ⟨m40, A41, c42, rfl, q43, r44⟩ := Qk r25
  refine wv (fun W hm => Qz (cs := [.int .i64 ((gt x0 k9).Segment), .int .i64 ((gt x0 k9).Base), .slice A31 ((gt x0 k9).Ids).length c32, .slice A36 ((gt x0 k9).Tenants).length c37, .slice A41 ((gt x0 k9).Rows).length c42]) Qkz type176 rfl rfl (hm.elCells (show (a16.add (k9 * 5)).block < w.heap.size from by rw [Qah]; exact hb17.1) hc19)) ?_
  refine wcs Qbx (Qfw (gt x0 k9)) (Qr Qagu rfl) (fun W hm => Qaoy W _ (gt x0 k9) (Qada (x := (gt x0 k9)) (hm.rdS0 r34) (hm.rdS0 r39) (hm.rdS0 r44)) (s_0.2 _ (Qbh (show k9 < x0.length from by omega)))) (fun z45 => ?_)
  refine Qsq ?_
  rintro ⟨v46, v47, v48⟩ rfl
  refine Qs (n := 0) rfl ?_
  rintro A49 c50 rfl m51
  refine Qs (n := 1) rfl ?_
  rintro A53 c54 rfl m55
  refine Qs (n := 2) rfl ?_
  rintro A57 c58 rfl m59
  refine wv (vix 5 k9 Qdt Qdr) ?_
  refine Qhh (E := Qbx) (e := 133) (u := .agg #[.int .i64 ((Qfw (gt x0 k9)).Segment), .int .i64 ((Qfw (gt x0 k9)).Base), .slice A49 ((Qfw (gt x0 k9)).Ids).length c50, .slice A53 ((Qfw (gt x0 k9)).Tenants).length c54, .slice A57 ((Qfw (gt x0 k9)).Rows).length c58]) (k := k9) (p := p7) (n := x0.length) (xs := d10) (eis := [Qd (tSl Qg 3) [.slice A49 ((Qfw (gt x0 k9)).Ids).length c50] ((Qfw (gt x0 k9)).Ids), Qd (tSl Qg 3) [.slice A53 ((Qfw (gt x0 k9)).Tenants).length c54] ((Qfw (gt x0 k9)).Tenants), Qd (tSl Qg 3) [.slice A57 ((Qfw (gt x0 k9)).Rows).length c58] ((Qfw (gt x0 k9)).Rows)]) (js := []) (yv := (Qfw (gt x0 k9))) (pk [3, 0, 1, 2]) (fun _ _ hs => (Qnp (x := (Qfw (gt x0 k9))) hs)) rfl Qdr rfl (by omega) rfl rfl (Qo rfl) ?_
  refine Qal (Qax (Qi (Qad (wm ?_))))
  refine wv (Qbd k9 1 (by omega)) ?_
  refine wa (Qal ?_)
  have hn61 := Qbb (R := (List Qay)) (body := F1) (k := k9) (s := d10) (s' := (d10.set k9 (Qfw (gt x0 k9)))) (show k9 < x0.length from by omega) (rfl) hF12
  exact Qaz (k9 + 1, (d10.set k9 (Qfw (gt x0 k9))), ()) sl3 (fun W hm => hm) ⟨(by omega), hn61⟩ (rl (by omega))
 have g15 := dlF hl14
 refine Qp rfl g15 ?_
 refine Qbk (Qac (Qac ?_))
 have hE62 : R2 (x0.length - 0) 0 (List.replicate x0.length (⟨(0 : Int), (0 : Int), [], [], []⟩ : Qay)) = Sum.inr d10 := Qbn hl14 hF12
 refine Qbm (Qi (sr (wm (wa (nt' (Qj ?_))))))
 have he63 := (show Qiu x0 = d10 from Qat hE62 (rfl))
 refine Qec rfl (Qcv rfl) (fun W hm => ⟨.slice (some ⟨p7, 0, none⟩) x0.length x0.length, ?_, ?_⟩)
 ·first | rw [he63] | rfl
 rw [he63]; exact hm

def Qan (x0 : Qag) : Qag :=
 (⟨(Qfq x0.Store), x0.Cursor, (Qcd x0.Order), (Qhu x0.Active), (Qig x0.Done), (Qiu x0.Ledger), x0.Steps⟩ : Qag)
theorem Qog : Cb Tryz.prog 16 := ⟨f16, _, func16, rfl, by decide⟩
theorem Qoo (w : World) (z0 : List Value) (x0 : Qag) (r_0 : Qnq.rd w w.heap.size z0 x0) (s_0 : Qgf 68719476736 x0) :
  Calls Tryz.prog 16 #[.agg z0.toArray] w fun e w' => ∃ v : List Value, e = .returned (.agg v.toArray) ∧ Mem w.heap.size w [Qd Qdd v (Qan x0)] w' := by
 obtain ⟨v1, v3, v5, v7, v9, rfl, r2, r4, r6, r8, r10⟩ := Qxc r_0
 obtain ⟨m11, A12, c13, rfl, q14, r15⟩ := Qk r2
 obtain ⟨m16, A17, c18, rfl, q19, r20⟩ := Qk r4
 obtain ⟨m21, A22, c23, rfl, q24, r25⟩ := Qk r6
 obtain ⟨m26, A27, c28, rfl, q29, r30⟩ := Qk r8
 obtain ⟨m31, A32, c33, rfl, q34, r35⟩ := Qk r10
 have l36 : x0.Store.Segments.length ≤ 68719476736 := s_0.1.1
 have l37 : x0.Order.length ≤ 68719476736 := s_0.2.1
 have l38 : x0.Active.length ≤ 68719476736 := s_0.2.2.1.1
 have l39 : x0.Done.length ≤ 68719476736 := s_0.2.2.2.1.1
 have l40 : x0.Ledger.length ≤ 68719476736 := s_0.2.2.2.2.1
 refine ce1 (L := [(0, .agg #[.slice A12 x0.Store.Segments.length c13, .int .i64 x0.Store.Now, .int .i64 x0.Cursor, .slice A17 x0.Order.length c18, .slice A22 x0.Active.length c23, .slice A27 x0.Done.length c28, .slice A32 x0.Ledger.length c33, .int .i64 x0.Steps])]) (N := 31) func16 ?_
 refine sr ?_
 refine Qbj rfl (Qo rfl) (by decide) (fun p41 => ?_)
 refine Qbo Qbv rfl (Qo rfl) (by decide) (fun p42 => ?_)
 refine nt' (sr ?_)
 refine Qbo Qbv rfl (Qo rfl) (by decide) (fun p43 => ?_)
 refine nt' (sr ?_)
 refine wv (vf Qhf rfl type24) ?_
 refine wv (fun W hm => Qz (cs := [.slice A12 x0.Store.Segments.length c13, .int .i64 x0.Store.Now]) underlying24 type24 rfl rfl (hm.boxPart (n := 2) rfl rfl)) ?_
 refine wcs Qcz (Qfq x0.Store) (Qr cb82 rfl) (fun W hm => Qapi W _ x0.Store (Qadh (x := x0.Store) (hm.rdS0 r15)) s_0.1) (fun z44 => ?_)
 refine Qgd ?_
 rintro v45 rfl
 refine Qs (n := 0) rfl ?_
 rintro A46 c47 rfl m48
 refine wv (vf Qaq rfl Qae) ?_
 let K1 : List Value := [.slice A46 ((Qfq x0.Store).Segments).length c47]
 let K2 : List Value := [.slice none 0 0, .int .i64 0, .int .i64 0, .slice none 0 0, .slice none 0 0, .slice none 0 0, .slice none 0 0, .int .i64 0]
 let K3 : List Value := [.slice A12 x0.Store.Segments.length c13, .int .i64 x0.Store.Now, .int .i64 x0.Cursor, .slice A17 x0.Order.length c18, .slice A22 x0.Active.length c23, .slice A27 x0.Done.length c28, .slice A32 x0.Ledger.length c33, .int .i64 x0.Steps]
 let I5 : It := Qd (tSl (tSl Qm 191) 131) K1 ((Qfq x0.Store).Segments)
 refine sb 0 [.slice A46 ((Qfq x0.Store).Segments).length c47, .int .i64 ((Qfq x0.Store).Now), .int .i64 0, .slice none 0 0, .slice none 0 0, .slice none 0 0, .slice none 0 0, .int .i64 0] [I5, Qa p42 47 K2, Qa p41 30 K3] (pk [1, 0, 2, 3]) Qae ?_
 refine nt' (sr ?_)
 refine wv (vf Qhf rfl Qh) ?_
 refine wv (vl 3 2 Qt) ?_
 refine wv (vf Qaq rfl Qh) ?_
 refine sb 2 [.slice A46 ((Qfq x0.Store).Segments).length c47, .int .i64 ((Qfq x0.Store).Now), .int .i64 x0.Cursor, .slice none 0 0, .slice none 0 0, .slice none 0 0, .slice none 0 0, .int .i64 0] [I5, Qa p42 47 K2, Qa p41 30 K3] (fun W hm => hm) Qh ?_
 refine nt' (sr ?_)
 refine wv (vf Qhf rfl Qap) ?_
 refine wv (vl 3 3 Qv) ?_
 refine wcl (tSl Qg 3) (Qcd x0.Order) (Qr Qll rfl) (fun W hm => Qmf W _ x0.Order (hm.rdS0 r20) s_0.2.1) (fun z50 => ?_)
 refine Qs (n := 0) rfl ?_
 rintro A51 c52 rfl m53
 refine wv (vf Qaq rfl Qap) ?_
 let I6 : It := Qd (tSl Qg 3) [.slice A51 (Qcd x0.Order).length c52] (Qcd x0.Order)
 refine sb 3 [.slice A46 ((Qfq x0.Store).Segments).length c47, .int .i64 ((Qfq x0.Store).Now), .int .i64 x0.Cursor, .slice A51 (Qcd x0.Order).length c52, .slice none 0 0, .slice none 0 0, .slice none 0 0, .int .i64 0] [I6, I5, Qa p42 47 K2, Qa p41 30 K3] (pk [1, 0, 2, 3, 4]) Qap ?_
 refine nt' (sr ?_)
 refine wv (vf Qhf rfl type26) ?_
 refine wv (vl 4 4 Qny) ?_
 refine wcl (tSl Qbw 64) (Qhu x0.Active) (Qr cb83 rfl) (fun W hm => Qaos W _ x0.Active (hm.rdS0 r25) s_0.2.2.1) (fun z55 => ?_)
 refine Qs (n := 0) rfl ?_
 rintro A56 c57 rfl m58
 refine wv (vf Qaq rfl Qfn) ?_
 let I7 : It := Qd (tSl Qbw 64) [.slice A56 (Qhu x0.Active).length c57] (Qhu x0.Active)
 refine sb 4 [.slice A46 ((Qfq x0.Store).Segments).length c47, .int .i64 ((Qfq x0.Store).Now), .int .i64 x0.Cursor, .slice A51 (Qcd x0.Order).length c52, .slice A56 (Qhu x0.Active).length c57, .slice none 0 0, .slice none 0 0, .int .i64 0] [I7, I6, I5, Qa p42 47 K2, Qa p41 30 K3] (pk [1, 0, 2, 3, 4, 5]) Qfn ?_
 refine nt' (sr ?_)
 refine wv (vf Qhf rfl type27) ?_
 refine wv (vl 5 5 Qnz) ?_
 refine wcl (tSl Qce 37) (Qig x0.Done) (Qr cb84 rfl) (fun W hm => Qape W _ x0.Done (hm.rdS0 r30) s_0.2.2.2.1) (fun z60 => ?_)
 refine Qs (n := 0) rfl ?_
 rintro A61 c62 rfl m63
 refine wv (vf Qaq rfl type44) ?_
 let I8 : It := Qd (tSl Qce 37) [.slice A61 (Qig x0.Done).length c62] (Qig x0.Done)
 refine sb 5 [.slice A46 ((Qfq x0.Store).Segments).length c47, .int .i64 ((Qfq x0.Store).Now), .int .i64 x0.Cursor, .slice A51 (Qcd x0.Order).length c52, .slice A56 (Qhu x0.Active).length c57, .slice A61 (Qig x0.Done).length c62, .slice none 0 0, .int .i64 0] [I8, I7, I6, I5, Qa p42 47 K2, Qa p41 30 K3] (pk [1, 0, 2, 3, 4, 5, 6]) type44 ?_
 refine nt' (sr ?_)
 refine wv (vf Qhf rfl type28) ?_
 refine wv (vl 6 6 Qoa) ?_
 refine wcl (tSl Qbx 133) (Qiu x0.Ledger) (Qr cb85 rfl) (fun W hm => Qaow W _ x0.Ledger (hm.rdS0 r35) s_0.2.2.2.2) (fun z65 => ?_)
 refine Qs (n := 0) rfl ?_
 rintro A66 c67 rfl m68
 refine wv (vf Qaq rfl type45) ?_
 let I9 : It := Qd (tSl Qbx 133) [.slice A66 (Qiu x0.Ledger).length c67] (Qiu x0.Ledger)
 refine sb 6 [.slice A46 ((Qfq x0.Store).Segments).length c47, .int .i64 ((Qfq x0.Store).Now), .int .i64 x0.Cursor, .slice A51 (Qcd x0.Order).length c52, .slice A56 (Qhu x0.Active).length c57, .slice A61 (Qig x0.Done).length c62, .slice A66 (Qiu x0.Ledger).length c67, .int .i64 0] [I9, I8, I7, I6, I5, Qa p42 47 K2, Qa p41 30 K3] (pk [1, 0, 2, 3, 4, 5, 6, 7]) type45 ?_
 refine nt' (sr ?_)
 refine wv (vf Qhf rfl Qh) ?_
 refine wv (vl 7 7 Qt) ?_
 refine wv (vf Qaq rfl Qh) ?_
 let K4 : List Value := [.slice A46 ((Qfq x0.Store).Segments).length c47, .int .i64 ((Qfq x0.Store).Now), .int .i64 x0.Cursor, .slice A51 (Qcd x0.Order).length c52, .slice A56 (Qhu x0.Active).length c57, .slice A61 (Qig x0.Done).length c62, .slice A66 (Qiu x0.Ledger).length c67, .int .i64 x0.Steps]
 refine sb 7 K4 [I9, I8, I7, I6, I5, Qa p42 47 K2, Qa p41 30 K3] (fun W hm => hm) Qh ?_
 refine nt' (sr ?_)
 refine wv (fun W hm => Qz (cs := K4) Qaq Qbv rfl rfl (hm.boxCells (n := 0) rfl)) ?_
 refine sb 0 K4 [Qa p43 47 K4, I9, I8, I7, I6, I5, Qa p41 30 K3] (pk [6, 0, 1, 2, 3, 4, 5, 7]) Qbv ?_
 refine nt' (Qj ?_)
 have he70 := (show Qan x0 = (⟨(Qfq x0.Store), x0.Cursor, (Qcd x0.Order), (Qhu x0.Active), (Qig x0.Done), (Qiu x0.Ledger), x0.Steps⟩ : Qag) from rfl)
 refine Qec rfl (Qcp (n := 0) rfl rfl Qaq Qbv rfl) (fun W hm => ⟨K4, ?_, ?_⟩)
 ·first | rw [he70] | rfl
 rw [he70]; exact Mem.join (is := [I5, I6, I7, I8, I9]) (js := []) (fun _ _ hs => Qhe (x := (⟨(Qfq x0.Store), x0.Cursor, (Qcd x0.Order), (Qhu x0.Active), (Qig x0.Done), (Qiu x0.Ledger), x0.Steps⟩ : Qag)) hs) (hm.pick [6, 5, 4, 3, 2] (by decide))

def Qbi (x0 : Qci) : Qci :=
 (⟨x0.Kind, (Qey x0.Row), x0.Field, x0.Value⟩ : Qci)
theorem Qln : Cb Tryz.prog 57 := ⟨f57, _, func57, rfl, by decide⟩
theorem Qmg (w : World) (z0 : List Value) (x0 : Qci) (r_0 : Qnt.rd w w.heap.size z0 x0) (s_0 : Qja 68719476736 x0) :
  Calls Tryz.prog 57 #[.agg z0.toArray] w fun e w' => ∃ v : List Value, e = .returned (.agg v.toArray) ∧ Mem w.heap.size w [Qd Qfi v (Qbi x0)] w' := by
 obtain ⟨v1, rfl, r2⟩ := Qxf r_0
 obtain ⟨m3, A4, c5, rfl, q6, r7⟩ := Qk r2
 have l8 : x0.Row.Values.length ≤ 68719476736 := s_0
 refine ce1 (L := [(0, .agg #[.int .i64 x0.Kind, .int .i64 x0.Row.Id, .slice A4 x0.Row.Values.length c5, .int .i64 x0.Field, .int .i64 x0.Value])]) (N := 18) func57 ?_
 refine sr ?_
 refine Qbj rfl (Qo rfl) (by decide) (fun p9 => ?_)
 refine Qbo type75 rfl (Qo rfl) (by decide) (fun p10 => ?_)
 refine nt' (sr ?_)
 refine Qbo type75 rfl (Qo rfl) (by decide) (fun p11 => ?_)
 refine nt' (sr ?_)
 refine wv (vf Qlb rfl Qh) ?_
 refine wv (vl 2 0 Qt) ?_
 refine wv (vf Qbs rfl Qh) ?_
 let K1 : List Value := [.int .i64 0, .int .i64 0, .slice none 0 0, .int .i64 0, .int .i64 0]
 let K2 : List Value := [.int .i64 x0.Kind, .int .i64 x0.Row.Id, .slice A4 x0.Row.Values.length c5, .int .i64 x0.Field, .int .i64 x0.Value]
 refine sb 0 [.int .i64 x0.Kind, .int .i64 0, .slice none 0 0, .int .i64 0, .int .i64 0] [Qa p10 75 K1, Qa p9 95 K2] (fun W hm => hm) Qh ?_
 refine nt' (sr ?_)
 refine wv (vf Qlb rfl type93) ?_
 refine wv (fun W hm => Qz (cs := [.int .i64 x0.Row.Id, .slice A4 x0.Row.Values.length c5]) Qpd type93 rfl rfl (hm.boxPart (n := 2) rfl rfl)) ?_
 refine wcs Qbp (Qey x0.Row) (Qr Qyn rfl) (fun W hm => Qabn W _ x0.Row (Qsx (x := x0.Row) (hm.rdS0 r7)) s_0) (fun z12 => ?_)
 refine Qnu ?_
 rintro v13 rfl
 refine Qs (n := 0) rfl ?_
 rintro A14 c15 rfl m16
 refine wv (vf Qbs rfl Qcc) ?_
 let I4 : It := Qd (tSl Qg 3) [.slice A14 ((Qey x0.Row).Values).length c15] ((Qey x0.Row).Values)
 refine sb 1 [.int .i64 x0.Kind, .int .i64 ((Qey x0.Row).Id), .slice A14 ((Qey x0.Row).Values).length c15, .int .i64 0, .int .i64 0] [I4, Qa p10 75 K1, Qa p9 95 K2] (pk [1, 0, 2, 3]) Qcc ?_
 refine nt' (sr ?_)
 refine wv (vf Qlb rfl Qh) ?_
 refine wv (vl 3 3 Qt) ?_
 refine wv (vf Qbs rfl Qh) ?_
 refine sb 3 [.int .i64 x0.Kind, .int .i64 ((Qey x0.Row).Id), .slice A14 ((Qey x0.Row).Values).length c15, .int .i64 x0.Field, .int .i64 0] [I4, Qa p10 75 K1, Qa p9 95 K2] (fun W hm => hm) Qh ?_
 refine nt' (sr ?_)
 refine wv (vf Qlb rfl Qh) ?_
 refine wv (vl 3 4 Qt) ?_
 refine wv (vf Qbs rfl Qh) ?_
 let K3 : List Value := [.int .i64 x0.Kind, .int .i64 ((Qey x0.Row).Id), .slice A14 ((Qey x0.Row).Values).length c15, .int .i64 x0.Field, .int .i64 x0.Value]
 refine sb 4 K3 [I4, Qa p10 75 K1, Qa p9 95 K2] (fun W hm => hm) Qh ?_
 refine nt' (sr ?_)
 refine wv (fun W hm => Qz (cs := K3) Qbs type75 rfl rfl (hm.boxCells (n := 0) rfl)) ?_
 refine sb 0 K3 [Qa p11 75 K3, I4, Qa p9 95 K2] (pk [2, 0, 1, 3]) type75 ?_
 refine nt' (Qj ?_)
 have he18 := (show Qbi x0 = (⟨x0.Kind, (Qey x0.Row), x0.Field, x0.Value⟩ : Qci) from rfl)
 refine Qec rfl (Qcp (n := 0) rfl rfl Qbs type75 rfl) (fun W hm => ⟨K3, ?_, ?_⟩)
 ·first | rw [he18] | rfl
 rw [he18]; exact Mem.join (is := [I4]) (js := []) (fun _ _ hs => Qxh (x := (⟨x0.Kind, (Qey x0.Row), x0.Field, x0.Value⟩ : Qci)) hs) (hm.pick [2] (by decide))

def Qhn (x0 : Int) (x1 : (List Int)) (x2 : Int) (x3 : Int) : Qn :=
 (⟨x0, x1, x2, x3⟩ : Qn)
theorem Qaii : Cb Tryz.prog 231 := ⟨f231, _, func231, rfl, by decide⟩
theorem Qasj (w : World) (x0 : Int) (z1 : Value) (x1 : (List Int)) (x2 : Int) (x3 : Int) (r_1 : rdS Qg w w.heap.size z1 x1) (s_1 : x1.length ≤ 68719476736) :
  Calls Tryz.prog 231 #[.int .i64 x0, z1, .int .i64 x2, .int .i64 x3] w fun e w' => ∃ v : List Value, e = .returned (.agg v.toArray) ∧ Mem w.heap.size w [Qd Qm v (Qhn x0 x1 x2 x3)] w' := by
 obtain ⟨m1, A2, c3, rfl, q4, r5⟩ := Qk r_1
 have l6 : x1.length ≤ 68719476736 := s_1
 refine ce4 (L := [(0, .int .i64 x0), (1, .slice A2 x1.length c3), (2, .int .i64 x2), (3, .int .i64 x3)]) (N := 16) func231 ?_
 refine sr ?_
 refine Qbo Qar rfl (Qo rfl) (by decide) (fun p7 => ?_)
 refine nt' (sr (wm ?_))
 refine Qdb (E := Qg) Qv Qh (Qo rfl) (by decide) (fun p8 => ?_)
 refine wm ?_
 refine apR Qg Qg 3 (.slice (some ⟨p8, 0, none⟩) 0 0) [] x1 [Qa p7 191 [.int .i64 0, .slice none 0 0, .int .i64 0, .int .i64 0]] (fun W hm => hm) (fun W hm => Qdk Qcw (hm.rdS0 r5)) Qv Qh (show (0 + x1.length) * 8 ≤ 140737488355328 from by omega) (fun v10 => ?_)
 refine Qs (n := 0) rfl ?_
 rintro A11 c12 rfl m13
 refine wm (wm ?_)
 let K1 : List Value := [.int .i64 x0, .slice A11 x1.length c12, .int .i64 x2, .int .i64 x3]
 refine wv (fun W hm => Qeq (cs := K1) rfl (by kernel_rfl)) ?_
 let I2 : It := Qd (tSl Qg 3) [.slice A11 x1.length c12] x1
 refine sb 0 K1 [I2] (pk [1, 0]) Qar ?_
 refine nt' (Qj ?_)
 have he15 := (show Qhn x0 x1 x2 x3 = (⟨x0, x1, x2, x3⟩ : Qn) from rfl)
 refine Qec rfl (Qcp (n := 0) rfl rfl Qbe Qar rfl) (fun W hm => ⟨K1, ?_, ?_⟩)
 ·first | rw [he15] | rfl
 rw [he15]; exact Mem.join (is := [I2]) (js := []) (fun _ _ hs => Qfs (x := (⟨x0, x1, x2, x3⟩ : Qn)) hs) (hm.pick [1] (by decide))

def Qws (x0 : (List Qn)) (k9 : Nat) (d10 : (List Qn)) : (List Qn) ⊕ ((List Qn)) :=
 Sum.inr (d10 ++ [(Qhn ((gt x0 k9).Id) ((gt x0 k9).Values) ((gt x0 k9).Born) ((gt x0 k9).Died))])
def Qsl (x0 : (List Qn)) : (List Qn) :=
 Sum.elim id (fun (s : (List Qn)) => s) (rng (R := (List Qn)) (fun k (s : (List Qn)) => Qws x0 k s) (x0.length - 0) 0 [])
theorem Qahy : Cb Tryz.prog 213 := ⟨f213, _, func213, rfl, by decide⟩
theorem Qask (w : World) (z0 : Value) (x0 : (List Qn)) (r_0 : rdS Qm w w.heap.size z0 x0) (s_0 : (x0.length ≤ 68719476736 ∧ ∀ y ∈ x0, Qhm 68719476736 y)) :
  Calls Tryz.prog 213 #[z0] w fun e w' => ∃ v : Value, e = .returned (v) ∧ Mem w.heap.size w [Qd (tSl Qm 191) [v] (Qsl x0)] w' := by
 obtain ⟨m1, A2, c3, rfl, q4, r5⟩ := Qk r_0
 have l6 : x0.length ≤ 68719476736 := s_0.1
 refine ce1 (L := [(0, .slice A2 x0.length c3)]) (N := 37) func213 ?_
 refine sr (wa (nt' (sr ?_)))
 refine Qdb (E := Qm) Qav Qar (Qo rfl) (by decide) (fun p7 => ?_)
 refine wa (nt' (Qf (sr (wa (nt' (Qab ?_))))))
 let F1 := fun k (s : (List Qn)) => Qws x0 k s
 let R2 := rng (R := (List Qn)) F1
 refine Qbl (σ := Nat × ((List Qn)) × (Option Addr × Nat)) (fun s => [(0, .slice A2 x0.length c3), (3, .slice s.2.2.1 s.2.1.length s.2.2.2), (4, .int .i64 ((s.1 : Nat) : Int))]) (fun s => [Qd (tSl Qm 191) [.slice s.2.2.1 s.2.1.length s.2.2.2] s.2.1]) (fun s => s.1 ≤ x0.length ∧ R2 (x0.length - s.1) s.1 s.2.1 = R2 (x0.length - 0) 0 [] ∧ s.2.1.length ≤ 0 + s.1) (fun s => x0.length - s.1) (0, [], ((some ⟨p7, 0, none⟩), 0)) sl3 (fun W hm => hm) ⟨(by omega), rfl, Nat.le_refl _⟩ ?_
 rintro ⟨k9, d10, ⟨A11, c12⟩⟩ H15
 obtain ⟨hk13, hF14, hi16⟩ : k9 ≤ x0.length ∧ R2 (x0.length - k9) k9 d10 = R2 (x0.length - 0) 0 [] ∧ d10.length ≤ 0 + k9 := H15
 show CM Tryz.prog 37 _ _ _ _ [(0, .slice A2 x0.length c3), (3, .slice A11 d10.length c12), (4, .int .i64 ((k9 : Nat) : Int))] [Qd (tSl Qm 191) [.slice A11 d10.length c12] d10]
 refine Qf (sr (wm (wm ?_)))
 refine wv (Qai Qav) ?_
 refine wv Qak ?_
 refine nt' ?_
 by_cases hl17 : k9 < x0.length
 ·have g18 := dlT hl17
  refine Ql rfl g18 ?_
  refine Qq (Qi (Qf (Qab ?_)))
  refine rb 25 (s := []) (pk []) ?_
  refine qt 25 0 1 rfl vmv ?_
  refine qt 25 1 3 rfl vmv ?_
  refine qt 25 2 7 rfl vmv ?_
  obtain ⟨a19, rfl, hb20, he21⟩ := q4 (by omega)
  refine qt 25 3 15 rfl (vix 4 k9 Qav Qar) ?_
  refine qt 25 4 31 rfl (vf Qbe rfl Qh) ?_
  obtain ⟨_, e25, hc22⟩ := he21 k9 _ (Qca (show k9 < x0.length from by omega))
  obtain ⟨v23, rfl, r24⟩ := Qfm e25
  have l26 : ((gt x0 k9).Values).length ≤ 68719476736 := (s_0.2 _ (Qbh (show k9 < x0.length from by omega)))
  obtain ⟨m27, A28, c29, rfl, q30, r31⟩ := Qk r24
  refine qt 25 5 63 rfl (fun W hm => Qaw Qt rfl rfl ((hm.cell0 (show ((a19.add (k9 * 4)).add 0).block < w.heap.size from by rw [Qah, Qah]; exact hb20.1)).trans (hc22 0 _ rfl))) ?_
  refine qt 25 6 127 rfl vmv ?_
  refine qt 25 7 255 rfl vmv ?_
  refine qt 25 8 511 rfl (vix 4 k9 Qav Qar) ?_
  refine qt 25 9 1023 rfl (vf Qbe rfl Qap) ?_
  refine qt 25 10 2047 rfl (fun W hm => Qaw Qv rfl rfl ((hm.cell0 (show ((a19.add (k9 * 4)).add 1).block < w.heap.size from by rw [Qah, Qah]; exact hb20.1)).trans (hc22 1 _ rfl))) ?_
  refine qt 25 11 4095 rfl vmv ?_
  refine qt 25 12 8191 rfl vmv ?_
  refine qt 25 13 16383 rfl (vix 4 k9 Qav Qar) ?_
  refine qt 25 14 32767 rfl (vf Qbe rfl Qh) ?_
  refine qt 25 15 65535 rfl (fun W hm => Qaw Qt rfl rfl ((hm.cell0 (show ((a19.add (k9 * 4)).add 2).block < w.heap.size from by rw [Qah, Qah]; exact hb20.1)).trans (hc22 2 _ rfl))) ?_
  refine qt 25 16 131071 rfl vmv ?_
  refine qt 25 17 262143 rfl vmv ?_
  refine qt 25 18 524287 rfl (vix 4 k9 Qav Qar) ?_
  refine qt 25 19 1048575 rfl (vf Qbe rfl Qh) ?_
  refine qt 25 20 2097151 rfl (fun W hm => Qaw Qt rfl rfl ((hm.cell0 (show ((a19.add (k9 * 4)).add 3).block < w.heap.size from by rw [Qah, Qah]; exact hb20.1)).trans (hc22 3 _ rfl))) ?_
  refine qo 25 21 4194303 rfl ?_
  refine wcs Qm (Qhn ((gt x0 k9).Id) ((gt x0 k9).Values) ((gt x0 k9).Born) ((gt x0 k9).Died)) (Qr Qaii rfl) (fun W hm => Qasj W ((gt x0 k9).Id) _ ((gt x0 k9).Values) ((gt x0 k9).Born) ((gt x0 k9).Died) (hm.rdS0 r31) (s_0.2 _ (Qbh (show k9 < x0.length from by omega)))) (fun z32 => ?_)
  refine Qmp ?_
  rintro v33 rfl
  refine Qs (n := 0) rfl ?_
  rintro A34 c35 rfl m36
  refine qn (pk []) ?_
  refine qo 25 22 8388607 rfl ?_
  let K3 : List Value := [.int .i64 ((Qhn ((gt x0 k9).Id) ((gt x0 k9).Values) ((gt x0 k9).Born) ((gt x0 k9).Died)).Id), .slice A34 ((Qhn ((gt x0 k9).Id) ((gt x0 k9).Values) ((gt x0 k9).Born) ((gt x0 k9).Died)).Values).length c35, .int .i64 ((Qhn ((gt x0 k9).Id) ((gt x0 k9).Values) ((gt x0 k9).Born) ((gt x0 k9).Died)).Born), .int .i64 ((Qhn ((gt x0 k9).Id) ((gt x0 k9).Values) ((gt x0 k9).Born) ((gt x0 k9).Died)).Died)]
  refine Qfb (cs := K3) Qav Qar rfl (by decide) (by decide) rfl (by kernel_rfl) (Qo rfl) (by decide) (fun p38 => ?_)
  refine qn (pk []) ?_
  refine qo 25 23 16777215 rfl ?_
  refine ap1 Qm 191 (.slice A11 d10.length c12) d10 (Qhn ((gt x0 k9).Id) ((gt x0 k9).Values) ((gt x0 k9).Born) ((gt x0 k9).Died)) [Qd (tSl Qg 3) [.slice A34 ((Qhn ((gt x0 k9).Id) ((gt x0 k9).Values) ((gt x0 k9).Born) ((gt x0 k9).Died)).Values).length c35] ((Qhn ((gt x0 k9).Id) ((gt x0 k9).Values) ((gt x0 k9).Born) ((gt x0 k9).Died)).Values)] [] K3 (pk [0, 2, 1]) (fun _ _ hs => Els.single (Qfs (x := (Qhn ((gt x0 k9).Id) ((gt x0 k9).Values) ((gt x0 k9).Born) ((gt x0 k9).Died))) hs)) Qav Qar (show (d10.length + 1) * 48 ≤ 140737488355328 from by omega) (fun v39 => ?_)
  refine Qs (n := 0) rfl ?_
  rintro A40 c41 rfl m42
  refine qn (pk []) ?_
  refine qt 25 24 33554431 rfl (fun W hm => Qmk rfl) ?_
  refine Qef (by kernel_rfl) ?_
  refine Qax (Qi (Qad (wm ?_)))
  refine wv (Qbd k9 1 (by omega)) ?_
  refine wa (Qal ?_)
  have hn44 := Qbb (R := (List Qn)) (body := F1) (k := k9) (s := d10) (s' := (d10 ++ [(Qhn ((gt x0 k9).Id) ((gt x0 k9).Values) ((gt x0 k9).Born) ((gt x0 k9).Died))])) (show k9 < x0.length from by omega) (rfl) hF14
  exact Qaz (k9 + 1, (d10 ++ [(Qhn ((gt x0 k9).Id) ((gt x0 k9).Values) ((gt x0 k9).Born) ((gt x0 k9).Died))]), (A40, c41)) sl3 (fun W hm => hm) ⟨(by omega), hn44, (show (d10 ++ [(Qhn ((gt x0 k9).Id) ((gt x0 k9).Values) ((gt x0 k9).Born) ((gt x0 k9).Died))]).length ≤ 0 + (k9 + 1) from by first | omega | (simp only [List.length_append, List.length_cons, List.length_nil] at *; omega))⟩ (rl (by omega))
 have g18 := dlF hl17
 refine Qp rfl g18 ?_
 refine Qbk (Qac (Qac ?_))
 have hE45 : R2 (x0.length - 0) 0 [] = Sum.inr d10 := Qbn hl17 hF14
 refine Qbm (Qi (sr (wm (wa (nt' (Qj ?_))))))
 have he46 := (show Qsl x0 = d10 from Qat hE45 (rfl))
 refine Qec rfl (Qcv rfl) (fun W hm => ⟨.slice A11 d10.length c12, ?_, ?_⟩)
 ·first | rw [he46] | rfl
 rw [he46]; exact hm
theorem Qasm (x0 : (List Qn)) : Qsl x0 = x0 := by
 unfold Qsl; rw [Qix (xs := x0) (b := fun k s => Qws x0 k s) (fun _ _ => rfl)]; rfl
theorem Qasl (w : World) (z0 : Value) (x0 : (List Qn)) (r_0 : rdS Qm w w.heap.size z0 x0) (s_0 : (x0.length ≤ 68719476736 ∧ ∀ y ∈ x0, Qhm 68719476736 y)) :
  Calls Tryz.prog 213 #[z0] w fun e w' => ∃ v : Value, e = .returned (v) ∧ Mem w.heap.size w [Qd (tSl Qm 191) [v] x0] w' := by
 have h := Qask w z0 x0 r_0 s_0
 rw [Qasm] at h
 exact h

def Qwr (x0 : Qx) (k12 : Nat) (d15 : (List (List Qn))) : Qx ⊕ ((List (List Qn))) :=
 Sum.inr (d15 ++ [(gt x0.Segments k12)])
def Qsk (x0 : Qx) : Qx :=
 Sum.elim id (fun (s : (List (List Qn))) => (⟨s, x0.Now⟩ : Qx)) (rng (R := Qx) (fun k (s : (List (List Qn))) => Qwr x0 k s) (x0.Segments.length - 0) 0 [])
theorem Qms : Cb Tryz.prog 159 := ⟨f159, _, func159, rfl, by decide⟩
theorem Qash (w : World) (z0 : List Value) (x0 : Qx) (r_0 : Qcz.rd w w.heap.size z0 x0) (s_0 : Qfl 68719476736 x0) :
  Calls Tryz.prog 159 #[.agg z0.toArray] w fun e w' => ∃ v : List Value, e = .returned (.agg v.toArray) ∧ Mem w.heap.size w [Qd Qcz v (Qsk x0)] w' := by
 obtain ⟨v1, rfl, r2⟩ := Qgy r_0
 obtain ⟨m3, A4, c5, rfl, q6, r7⟩ := Qk r2
 have l8 : x0.Segments.length ≤ 68719476736 := s_0.1
 refine ce1 (L := [(0, .agg #[.slice A4 x0.Segments.length c5, .int .i64 x0.Now])]) (N := 27) func159 ?_
 refine sr ?_
 refine Qbj rfl (Qo rfl) (by decide) (fun p9 => ?_)
 refine Qbo Qae rfl (Qo rfl) (by decide) (fun p10 => ?_)
 refine nt' (sr ?_)
 refine wv (vf Qaf rfl Qh) ?_
 refine wv (vl 1 1 Qt) ?_
 refine wv (fun W hm => Qeq (cs := [.slice none 0 0, .int .i64 x0.Now]) rfl (by kernel_rfl)) ?_
 refine Qbo Qae rfl (Qo rfl) (by decide) (fun p11 => ?_)
 let I3 : It := Qa p9 42 [.slice A4 x0.Segments.length c5, .int .i64 x0.Now]
 refine sb 0 [.slice none 0 0, .int .i64 x0.Now] [Qa p10 42 [.slice none 0 0, .int .i64 0], I3] (fun W hm => hm) Qae ?_
 refine nt' (Qf (sr (wa (nt' (Qab ?_)))))
 refine Qdf (fun W hm => (hm.addNil (E := (tSl Qm 191)) (e := 131)).last) ?_
 let F1 := fun k (s : (List (List Qn))) => Qwr x0 k s
 let R2 := rng (R := Qx) F1
 refine Qbl (σ := Nat × ((List (List Qn))) × (Option Addr × Nat)) (fun s => [(1, .pointer (some (⟨p9, 0, none⟩ : Addr))), (2, .pointer (some (⟨p10, 0, none⟩ : Addr))), (3, .pointer (some (⟨p11, 0, none⟩ : Addr))), (4, .int .i64 ((s.1 : Nat) : Int))]) (fun s => [Qa p11 42 [.slice s.2.2.1 s.2.1.length s.2.2.2, .int .i64 x0.Now], Qa p10 42 [.slice none 0 0, .int .i64 0], I3, Qd (tSl (tSl Qm 191) 131) [.slice s.2.2.1 s.2.1.length s.2.2.2] s.2.1]) (fun s => s.1 ≤ x0.Segments.length ∧ R2 (x0.Segments.length - s.1) s.1 s.2.1 = R2 (x0.Segments.length - 0) 0 [] ∧ s.2.1.length ≤ 0 + s.1) (fun s => x0.Segments.length - s.1) (0, [], (none, 0)) sl4 (fun W hm => hm) ⟨(by omega), rfl, Nat.le_refl _⟩ ?_
 rintro ⟨k12, d15, ⟨A16, c17⟩⟩ H20
 obtain ⟨hk18, hF19, hi21⟩ : k12 ≤ x0.Segments.length ∧ R2 (x0.Segments.length - k12) k12 d15 = R2 (x0.Segments.length - 0) 0 [] ∧ d15.length ≤ 0 + k12 := H20
 let I4 : It := Qa p11 42 [.slice A16 d15.length c17, .int .i64 x0.Now]
 let I5 : It := Qd (tSl (tSl Qm 191) 131) [.slice A16 d15.length c17] d15
 show CM Tryz.prog 27 _ _ _ _ [(1, .pointer (some (⟨p9, 0, none⟩ : Addr))), (2, .pointer (some (⟨p10, 0, none⟩ : Addr))), (3, .pointer (some (⟨p11, 0, none⟩ : Addr))), (4, .int .i64 ((k12 : Nat) : Int))] [I4, Qa p10 42 [.slice none 0 0, .int .i64 0], I3, I5]
 refine Qf (sr (wm ?_))
 refine wv (vf Qaf rfl Qcu) ?_
 refine wv (vl 2 0 Qas) ?_
 refine wv (Qai Qas) ?_
 refine wv Qak ?_
 refine nt' ?_
 by_cases hl22 : k12 < x0.Segments.length
 ·have g23 := dlT hl22
  refine Ql rfl g23 ?_
  refine Qq (Qi (Qf (Qab ?_)))
  refine rd2 12 [11] (s := [Qa p10 42 [.slice none 0 0, .int .i64 0]]) (s2 := [I4, Qa p10 42 [.slice none 0 0, .int .i64 0], I3]) (pk [1]) (pk [0, 1, 2]) ?_
  refine qtD 12 0 1 rfl (vf Qaf rfl Qcu) ?_
  refine qtD 12 1 3 rfl (vl 0 0 Qas) ?_
  refine qtD 12 2 7 rfl (vf Qaf rfl Qcu) ?_
  refine qtD 12 3 15 rfl (vl 2 0 Qas) ?_
  refine qtD 12 4 31 rfl vmv ?_
  obtain ⟨a24, rfl, hb25, he26⟩ := q6 (by omega)
  refine qtD 12 5 63 rfl (vix 1 k12 Qas Qda) ?_
  obtain ⟨_, e28, hc27⟩ := he26 k12 _ (Qca (show k12 < x0.Segments.length from by omega))
  have l29 : (gt x0.Segments k12).length ≤ 68719476736 := (s_0.2 _ (Qbh (show k12 < x0.Segments.length from by omega))).1
  obtain ⟨v30, rfl, r31⟩ := e28
  obtain ⟨m32, A33, c34, rfl, q35, r36⟩ := Qk r31
  refine qtD 12 6 127 rfl (fun W hm => Qaw Qav rfl rfl ((hm.cell0 (show (a24.add (k12 * 1)).block < w.heap.size from by rw [Qah]; exact hb25.1)).trans (hc27 0 _ rfl))) ?_
  refine qoD 12 7 255 rfl ?_
  refine wcl (tSl Qm 191) (gt x0.Segments k12) (Qr Qahy rfl) (fun W hm => Qasl W _ (gt x0.Segments k12) (hm.rdS0 r36) (s_0.2 _ (Qbh (show k12 < x0.Segments.length from by omega)))) (fun z37 => ?_)
  refine Qs (n := 0) rfl ?_
  rintro A38 c39 rfl m40
  refine qnD (pk [2]) (pk [1, 2, 3]) ?_
  refine qoD 12 8 511 rfl ?_
  refine Qfb (cs := [.slice A38 (gt x0.Segments k12).length c39]) Qas Qda rfl (by decide) (by decide) rfl (by kernel_rfl) (Qo rfl) (by decide) (fun p42 => ?_)
  refine qnD (pk [3]) (pk [2, 3, 4]) ?_
  refine qoD 12 9 1023 rfl ?_
  let I6 : It := Qa p9 42 [.slice (some a24) x0.Segments.length c5, .int .i64 x0.Now]
  refine ap1 (tSl Qm 191) 131 (.slice A16 d15.length c17) d15 (gt x0.Segments k12) [Qd (tSl Qm 191) [.slice A38 (gt x0.Segments k12).length c39] (gt x0.Segments k12)] [I4, Qa p10 42 [.slice none 0 0, .int .i64 0], I6] [.slice A38 (gt x0.Segments k12).length c39] (pk [0, 5, 1, 2, 3, 4]) (fun _ _ hs => Els.single (Sep.one hs)) Qas Qda (show (d15.length + 1) * 24 ≤ 140737488355328 from by omega) (fun v43 => ?_)
  refine Qs (n := 0) rfl ?_
  rintro A44 c45 rfl m46
  refine qnD (pk [2]) (pk [1, 2, 3]) ?_
  refine qtD 12 10 2047 rfl (vf Qaf rfl Qcu) ?_
  refine qoD 12 11 4095 rfl ?_
  refine sb 0 [.slice A44 (d15 ++ [(gt x0.Segments k12)]).length c45, .int .i64 x0.Now] [Qd (tSl (tSl Qm 191) 131) [.slice A44 (d15 ++ [(gt x0.Segments k12)]).length c45] (d15 ++ [(gt x0.Segments k12)]), Qa p10 42 [.slice none 0 0, .int .i64 0], I6] (pk [1, 0, 2, 3]) Qcu ?_
  refine qxD (pk [2]) ?_
  refine Qef (by kernel_rfl) ?_
  refine Qax (Qi (Qad (wm ?_)))
  refine wv (Qbd k12 1 (by omega)) ?_
  refine wa (Qal ?_)
  have hn48 := Qbb (R := Qx) (body := F1) (k := k12) (s := d15) (s' := (d15 ++ [(gt x0.Segments k12)])) (show k12 < x0.Segments.length from by omega) (rfl) hF19
  exact Qaz (k12 + 1, (d15 ++ [(gt x0.Segments k12)]), (A44, c45)) sl4 (pk [0, 2, 3, 1]) ⟨(by omega), hn48, (show (d15 ++ [(gt x0.Segments k12)]).length ≤ 0 + (k12 + 1) from by first | omega | (simp only [List.length_append, List.length_cons, List.length_nil] at *; omega))⟩ (rl (by omega))
 have g23 := dlF hl22
 refine Qp rfl g23 ?_
 refine Qbk (Qac (Qac ?_))
 have hE49 : R2 (x0.Segments.length - 0) 0 [] = Sum.inr d15 := Qbn hl22 hF19
 refine Qbm (Qi (sr ?_))
 refine wv (fun W hm => Qz (cs := [.slice A16 d15.length c17, .int .i64 x0.Now]) Qaf Qae rfl rfl (hm.boxCells (n := 0) rfl)) ?_
 refine sb 0 [.slice A16 d15.length c17, .int .i64 x0.Now] [I4, I3, I5] (pk [1, 0, 2, 3]) Qae ?_
 refine nt' (Qj ?_)
 have he50 := (show Qsk x0 = (⟨d15, x0.Now⟩ : Qx) from Qat hE49 (rfl))
 refine Qec rfl (Qcp (n := 0) rfl rfl Qaf Qae rfl) (fun W hm => ⟨[.slice A16 d15.length c17, .int .i64 x0.Now], ?_, ?_⟩)
 ·first | rw [he50] | rfl
 rw [he50]; exact Mem.join (is := [I5]) (js := []) (fun _ _ hs => Qed (x := (⟨d15, x0.Now⟩ : Qx)) hs) (hm.pick [3] (by decide))
theorem Qasi (x0 : Qx) : Qsk x0 = x0 := by
 unfold Qsk; rw [Qix (xs := x0.Segments) (b := fun k s => Qwr x0 k s) (fun _ _ => rfl)]; rfl
theorem Qnl (w : World) (z0 : List Value) (x0 : Qx) (r_0 : Qcz.rd w w.heap.size z0 x0) (s_0 : Qfl 68719476736 x0) :
  Calls Tryz.prog 159 #[.agg z0.toArray] w fun e w' => ∃ v : List Value, e = .returned (.agg v.toArray) ∧ Mem w.heap.size w [Qd Qcz v x0] w' := by
 have h := Qash w z0 x0 r_0 s_0
 rw [Qasi] at h
 exact h

def Qwp (x0 : Qcg) : Qcg :=
 x0
theorem Qyk : Cb Tryz.prog 129 := ⟨f129, _, func129, rfl, by decide⟩
theorem Qasd (w : World) (z0 : List Value) (x0 : Qcg) (r_0 : Qez.rd w w.heap.size z0 x0) (s_0 : Qij 68719476736 x0) :
  Calls Tryz.prog 129 #[.agg z0.toArray] w fun e w' => ∃ v : List Value, e = .returned (.agg v.toArray) ∧ Mem w.heap.size w [Qd Qez v (Qwp x0)] w' := by
 obtain ⟨v1, v3, rfl, r2, r4⟩ := Qpa r_0
 obtain ⟨m5, A6, c7, rfl, q8, r9⟩ := Qk r2
 obtain ⟨m10, A11, c12, rfl, q13, r14⟩ := Qk r4
 have l15 : x0.Conds.length ≤ 68719476736 := s_0.1
 have l16 : x0.Out.length ≤ 68719476736 := s_0.2
 refine ce1 (L := [(0, .agg #[.int .i64 x0.Id, .int .i64 x0.Tenant, .slice A6 x0.Conds.length c7, .slice A11 x0.Out.length c12])]) (N := 16) func129 ?_
 refine sr ?_
 refine Qbj rfl (Qo rfl) (by decide) (fun p17 => ?_)
 refine Qbo Qcl rfl (Qo rfl) (by decide) (fun p18 => ?_)
 refine nt' (Qf ?_)
 let K1 : List Value := [.int .i64 x0.Id, .int .i64 x0.Tenant, .slice A6 x0.Conds.length c7, .slice A11 x0.Out.length c12]
 let K2 : List Value := [.int .i64 0, .int .i64 0, .slice none 0 0, .slice none 0 0]
 refine rd2 14 [13] (s := [Qa p17 34 K1]) (s2 := [Qa p18 34 K2, Qa p17 34 K1]) (pk [1]) (fun W hm => hm) ?_
 refine Qlh (σ := Option Addr × Nat × Nat) (fun s => [Qa p18 34 K2, Qa p17 34 K1]) 14 2047 3 (fun s => [(2, .pointer (some (⟨p18, 0, none⟩ : Addr))), (4, .int .i64 x0.Id), (6, .int .i64 x0.Tenant), (13, .slice A11 x0.Out.length c12), (10, .slice s.1 x0.Conds.length s.2.1), (11, .slice (some ⟨s.2.2, 0, none⟩) 0 0)]) (fun s => [Qd (tSl Qg 3) [.slice (some ⟨s.2.2, 0, none⟩) 0 0] [], Qd (tSl Qbz 201) [.slice s.1 x0.Conds.length s.2.1] x0.Conds, Qa p18 34 K2, Qa p17 34 K1]) ?_ (fun H => ?_)
 ·
  rintro ⟨A22, c23, p26⟩
  let I4 : It := Qd (tSl Qbz 201) [.slice A22 x0.Conds.length c23] x0.Conds
  show QD _ _ _ _ _ _ _ _ [(2, .pointer (some (⟨p18, 0, none⟩ : Addr))), (4, .int .i64 x0.Id), (6, .int .i64 x0.Tenant), (13, .slice A11 x0.Out.length c12), (10, .slice A22 x0.Conds.length c23), (11, .slice (some ⟨p26, 0, none⟩) 0 0)] _ [Qa p18 34 K2, Qa p17 34 K1] _ [Qd (tSl Qg 3) [.slice (some ⟨p26, 0, none⟩) 0 0] [], I4, Qa p18 34 K2, Qa p17 34 K1]
  refine Qej (n := 0) rfl ?_
  intro m28 m29
  refine Qej (n := 1) rfl ?_
  intro m30 m31
  refine qoD 14 11 4095 rfl ?_
  refine apR Qg Qg 3 (.slice (some ⟨p26, 0, none⟩) 0 0) [] x0.Out [I4, Qa p18 34 K2, Qa p17 34 K1] (fun W hm => hm) (fun W hm => Qdk Qcw (hm.rdS0 r14)) Qv Qh (show (0 + x0.Out.length) * 8 ≤ 140737488355328 from by omega) (fun v32 => ?_)
  refine Qs (n := 0) rfl ?_
  rintro A33 c34 rfl m35
  refine qnD (pk [3]) (pk [2, 3]) ?_
  let K3 : List Value := [.int .i64 x0.Id, .int .i64 x0.Tenant, .slice A22 x0.Conds.length c23, .slice A33 x0.Out.length c34]
  refine qtD 14 12 8191 rfl (fun W hm => Qeq (cs := K3) rfl (by kernel_rfl)) ?_
  refine qoD 14 13 16383 rfl ?_
  let I5 : It := Qd (tSl Qg 3) [.slice A33 x0.Out.length c34] x0.Out
  refine sb 0 K3 [I5, I4, Qa p17 34 K1] (pk [2, 0, 1, 3]) Qcl ?_
  refine qxD (pk [3]) ?_
  refine Qef (by kernel_rfl) ?_
  refine Qi (Qj ?_)
  have he37 := (show Qwp x0 = x0 from rfl)
  refine Qec rfl (Qcp (n := 0) rfl rfl Qch Qcl rfl) (fun W hm => ⟨K3, ?_, ?_⟩)
  ·first | rw [he37] | rfl
  rw [he37]; exact Mem.join (is := [I4, I5]) (js := []) (fun _ _ hs => Qxg (x := x0) hs) (hm.pick [2, 1] (by decide))
 refine qtD 14 0 1 rfl (vf Qch rfl Qh) ?_
 refine qtD 14 1 3 rfl (vl 1 0 Qt) ?_
 refine qtD 14 2 7 rfl (vf Qch rfl Qh) ?_
 refine qtD 14 3 15 rfl (vl 1 1 Qt) ?_
 refine qtD 14 5 47 rfl (vf Qch rfl type32) ?_
 refine qtD 14 6 111 rfl (vl 1 2 Qds) ?_
 refine qtD 14 9 623 rfl (vf Qch rfl Qap) ?_
 refine qtD 14 10 1647 rfl (vl 1 3 Qv) ?_
 refine qaD [4, 8] ?_
 refine qcD 14 1663 rfl ?_ ?_
 ·
  refine Qdb (E := Qbz) Qds Qeh (Qo rfl) (by decide) (fun p38 => ?_)
  refine qnD (pk [2]) (pk [1, 2]) ?_
  refine qaD [7, 8] ?_
  refine qcD 14 1791 rfl ?_ ?_
  ·
   refine apR Qbz Qbz 201 (.slice (some ⟨p38, 0, none⟩) 0 0) [] x0.Conds [Qa p18 34 K2, Qa p17 34 K1] (fun W hm => hm) (fun W hm => Qdk (Qrg (Qlq Qcw (Qlq Qcw Qcw))) (hm.rdS0 r9)) Qds Qeh (show (0 + x0.Conds.length) * 24 ≤ 140737488355328 from by omega) (fun v40 => ?_)
   refine Qs (n := 0) rfl ?_
   rintro A41 c42 rfl m43
   refine qnD (pk [2]) (pk [1, 2]) ?_
   refine qoD 14 8 2047 rfl ?_
   refine Qdb (E := Qg) Qv Qh (Qo rfl) (by decide) (fun p45 => ?_)
   refine qnD (pk [3]) (pk [2, 3]) ?_
   exact Qdw sl6 (fun W hm => hm) (H (A41, c42, p45))
  refine qcD 14 1919 rfl ?_ ?_
  ·
   refine Qdb (E := Qg) Qv Qh (Qo rfl) (by decide) (fun p47 => ?_)
   refine qnD (pk [3]) (pk [2, 3]) ?_
   refine qoD 14 7 2047 rfl ?_
   refine apR Qbz Qbz 201 (.slice (some ⟨p38, 0, none⟩) 0 0) [] x0.Conds [Qd (tSl Qg 3) [.slice (some ⟨p47, 0, none⟩) 0 0] [], Qa p18 34 K2, Qa p17 34 K1] (pk [1, 0, 2, 3]) (fun W hm => Qdk (Qrg (Qlq Qcw (Qlq Qcw Qcw))) (hm.rdS0 r9)) Qds Qeh (show (0 + x0.Conds.length) * 24 ≤ 140737488355328 from by omega) (fun v49 => ?_)
   refine Qs (n := 0) rfl ?_
   rintro A50 c51 rfl m52
   refine qnD (pk [3]) (pk [2, 3]) ?_
   exact Qdw sl6 (pk [1, 0, 2, 3]) (H (A50, c51, p47))
  exact Qek
 refine qcD 14 1903 rfl ?_ ?_
 ·
  refine Qdb (E := Qg) Qv Qh (Qo rfl) (by decide) (fun p54 => ?_)
  refine qnD (pk [2]) (pk [1, 2]) ?_
  refine qoD 14 4 1919 rfl ?_
  refine Qdb (E := Qbz) Qds Qeh (Qo rfl) (by decide) (fun p56 => ?_)
  refine qnD (pk [3]) (pk [2, 3]) ?_
  refine qoD 14 7 2047 rfl ?_
  refine apR Qbz Qbz 201 (.slice (some ⟨p56, 0, none⟩) 0 0) [] x0.Conds [Qd (tSl Qg 3) [.slice (some ⟨p54, 0, none⟩) 0 0] [], Qa p18 34 K2, Qa p17 34 K1] (fun W hm => hm) (fun W hm => Qdk (Qrg (Qlq Qcw (Qlq Qcw Qcw))) (hm.rdS0 r9)) Qds Qeh (show (0 + x0.Conds.length) * 24 ≤ 140737488355328 from by omega) (fun v58 => ?_)
  refine Qs (n := 0) rfl ?_
  rintro A59 c60 rfl m61
  refine qnD (pk [3]) (pk [2, 3]) ?_
  exact Qdw sl6 (pk [1, 0, 2, 3]) (H (A59, c60, p54))
 exact Qek
theorem Qase (x0 : Qcg) : Qwp x0 = x0 := by
 rfl
theorem Qacr (w : World) (z0 : List Value) (x0 : Qcg) (r_0 : Qez.rd w w.heap.size z0 x0) (s_0 : Qij 68719476736 x0) :
  Calls Tryz.prog 129 #[.agg z0.toArray] w fun e w' => ∃ v : List Value, e = .returned (.agg v.toArray) ∧ Mem w.heap.size w [Qd Qez v x0] w' := by
 have h := Qasd w z0 x0 r_0 s_0
 rw [Qase] at h
 exact h

def Qwm (x0 : Qaj) : Qaj :=
 x0
theorem Qahz : Cb Tryz.prog 214 := ⟨f214, _, func214, rfl, by decide⟩
theorem Qary (w : World) (z0 : List Value) (x0 : Qaj) (r_0 : Qbp.rd w w.heap.size z0 x0) (s_0 : Qgg 68719476736 x0) :
  Calls Tryz.prog 214 #[.agg z0.toArray] w fun e w' => ∃ v : List Value, e = .returned (.agg v.toArray) ∧ Mem w.heap.size w [Qd Qbp v (Qwm x0)] w' := by
 obtain ⟨v1, rfl, r2⟩ := Qin r_0
 obtain ⟨m3, A4, c5, rfl, q6, r7⟩ := Qk r2
 have l8 : x0.Values.length ≤ 68719476736 := s_0
 refine ce1 (L := [(0, .agg #[.int .i64 x0.Id, .slice A4 x0.Values.length c5])]) (N := 10) func214 ?_
 refine sr ?_
 refine Qbj rfl (Qo rfl) (by decide) (fun p9 => ?_)
 refine Qbo Qcc rfl (Qo rfl) (by decide) (fun p10 => ?_)
 refine nt' (Qf ?_)
 let I1 : It := Qa p9 73 [.int .i64 x0.Id, .slice A4 x0.Values.length c5]
 refine rd2 8 [7] (s := [I1]) (s2 := [Qa p10 73 [.int .i64 0, .slice none 0 0], I1]) (pk [1]) (fun W hm => hm) ?_
 refine qtD 8 0 1 rfl (vf Qde rfl Qh) ?_
 refine qtD 8 1 3 rfl (vl 1 0 Qt) ?_
 refine qtD 8 3 11 rfl (vf Qde rfl Qap) ?_
 refine qtD 8 4 27 rfl (vl 1 1 Qv) ?_
 refine qoD 8 2 31 rfl ?_
 refine Qdb (E := Qg) Qv Qh (Qo rfl) (by decide) (fun p11 => ?_)
 refine qnD (pk [2]) (pk [1, 2]) ?_
 refine qoD 8 5 63 rfl ?_
 refine apR Qg Qg 3 (.slice (some ⟨p11, 0, none⟩) 0 0) [] x0.Values [Qa p10 73 [.int .i64 0, .slice none 0 0], I1] (fun W hm => hm) (fun W hm => Qdk Qcw (hm.rdS0 r7)) Qv Qh (show (0 + x0.Values.length) * 8 ≤ 140737488355328 from by omega) (fun v13 => ?_)
 refine Qs (n := 0) rfl ?_
 rintro A14 c15 rfl m16
 refine qnD (pk [2]) (pk [1, 2]) ?_
 refine qtD 8 6 127 rfl (fun W hm => Qeq (cs := [.int .i64 x0.Id, .slice A14 x0.Values.length c15]) rfl (by kernel_rfl)) ?_
 refine qoD 8 7 255 rfl ?_
 let I2 : It := Qd (tSl Qg 3) [.slice A14 x0.Values.length c15] x0.Values
 refine sb 0 [.int .i64 x0.Id, .slice A14 x0.Values.length c15] [I2, I1] (pk [1, 0, 2]) Qcc ?_
 refine qxD (pk [2]) ?_
 refine Qef (by kernel_rfl) ?_
 refine Qi (Qj ?_)
 have he18 := (show Qwm x0 = x0 from rfl)
 refine Qec rfl (Qcp (n := 0) rfl rfl Qde Qcc rfl) (fun W hm => ⟨[.int .i64 x0.Id, .slice A14 x0.Values.length c15], ?_, ?_⟩)
 ·first | rw [he18] | rfl
 rw [he18]; exact Mem.join (is := [I2]) (js := []) (fun _ _ hs => Qkk (x := x0) hs) (hm.pick [1] (by decide))
theorem Qasa (x0 : Qaj) : Qwm x0 = x0 := by
 rfl
theorem Qarz (w : World) (z0 : List Value) (x0 : Qaj) (r_0 : Qbp.rd w w.heap.size z0 x0) (s_0 : Qgg 68719476736 x0) :
  Calls Tryz.prog 214 #[.agg z0.toArray] w fun e w' => ∃ v : List Value, e = .returned (.agg v.toArray) ∧ Mem w.heap.size w [Qd Qbp v x0] w' := by
 have h := Qary w z0 x0 r_0 s_0
 rw [Qasa] at h
 exact h

def Qwx (x0 : (List Qaj)) (k9 : Nat) (d10 : (List Qaj)) : (List Qaj) ⊕ ((List Qaj)) :=
 Sum.inr (d10 ++ [(gt x0 k9)])
def Qsn (x0 : (List Qaj)) : (List Qaj) :=
 Sum.elim id (fun (s : (List Qaj)) => s) (rng (R := (List Qaj)) (fun k (s : (List Qaj)) => Qwx x0 k s) (x0.length - 0) 0 [])
theorem Qyq : Cb Tryz.prog 160 := ⟨f160, _, func160, rfl, by decide⟩
theorem Qasv (w : World) (z0 : Value) (x0 : (List Qaj)) (r_0 : rdS Qbp w w.heap.size z0 x0) (s_0 : (x0.length ≤ 68719476736 ∧ ∀ y ∈ x0, Qgg 68719476736 y)) :
  Calls Tryz.prog 160 #[z0] w fun e w' => ∃ v : Value, e = .returned (v) ∧ Mem w.heap.size w [Qd (tSl Qbp 73) [v] (Qsn x0)] w' := by
 obtain ⟨m1, A2, c3, rfl, q4, r5⟩ := Qk r_0
 have l6 : x0.length ≤ 68719476736 := s_0.1
 refine ce1 (L := [(0, .slice A2 x0.length c3)]) (N := 21) func160 ?_
 refine sr (wa (nt' (sr ?_)))
 refine Qdb (E := Qbp) Qdv Qcc (Qo rfl) (by decide) (fun p7 => ?_)
 refine wa (nt' (Qf (sr (wa (nt' (Qab ?_))))))
 let F1 := fun k (s : (List Qaj)) => Qwx x0 k s
 let R2 := rng (R := (List Qaj)) F1
 refine Qbl (σ := Nat × ((List Qaj)) × (Option Addr × Nat)) (fun s => [(0, .slice A2 x0.length c3), (3, .slice s.2.2.1 s.2.1.length s.2.2.2), (4, .int .i64 ((s.1 : Nat) : Int))]) (fun s => [Qd (tSl Qbp 73) [.slice s.2.2.1 s.2.1.length s.2.2.2] s.2.1]) (fun s => s.1 ≤ x0.length ∧ R2 (x0.length - s.1) s.1 s.2.1 = R2 (x0.length - 0) 0 [] ∧ s.2.1.length ≤ 0 + s.1) (fun s => x0.length - s.1) (0, [], ((some ⟨p7, 0, none⟩), 0)) sl3 (fun W hm => hm) ⟨(by omega), rfl, Nat.le_refl _⟩ ?_
 rintro ⟨k9, d10, ⟨A11, c12⟩⟩ H15
 obtain ⟨hk13, hF14, hi16⟩ : k9 ≤ x0.length ∧ R2 (x0.length - k9) k9 d10 = R2 (x0.length - 0) 0 [] ∧ d10.length ≤ 0 + k9 := H15
 show CM Tryz.prog 21 _ _ _ _ [(0, .slice A2 x0.length c3), (3, .slice A11 d10.length c12), (4, .int .i64 ((k9 : Nat) : Int))] [Qd (tSl Qbp 73) [.slice A11 d10.length c12] d10]
 refine Qf (sr (wm (wm ?_)))
 refine wv (Qai Qdv) ?_
 refine wv Qak ?_
 refine nt' ?_
 by_cases hl17 : k9 < x0.length
 ·have g18 := dlT hl17
  refine Ql rfl g18 ?_
  refine Qq (Qi (Qf (Qab (Qad (wm (wm (wm ?_)))))))
  obtain ⟨a19, rfl, hb20, he21⟩ := q4 (by omega)
  refine wv (vix 2 k9 Qdv Qcc) ?_
  obtain ⟨_, e25, hc22⟩ := he21 k9 _ (Qca (show k9 < x0.length from by omega))
  obtain ⟨v23, rfl, r24⟩ := Qin e25
  have l26 : ((gt x0 k9).Values).length ≤ 68719476736 := (s_0.2 _ (Qbh (show k9 < x0.length from by omega)))
  obtain ⟨m27, A28, c29, rfl, q30, r31⟩ := Qk r24
  refine wv (fun W hm => Qz (cs := [.int .i64 ((gt x0 k9).Id), .slice A28 ((gt x0 k9).Values).length c29]) Qde Qcc rfl rfl (hm.elCells (show (a19.add (k9 * 2)).block < w.heap.size from by rw [Qah]; exact hb20.1) hc22)) ?_
  refine wcs Qbp (gt x0 k9) (Qr Qahz rfl) (fun W hm => Qarz W _ (gt x0 k9) (Qim (x := (gt x0 k9)) (hm.rdS0 r31)) (s_0.2 _ (Qbh (show k9 < x0.length from by omega)))) (fun z32 => ?_)
  refine Qnu ?_
  rintro v33 rfl
  refine Qs (n := 0) rfl ?_
  rintro A34 c35 rfl m36
  let K3 : List Value := [.int .i64 ((gt x0 k9).Id), .slice A34 ((gt x0 k9).Values).length c35]
  refine Qfb (cs := K3) Qdv Qcc rfl (by decide) (by decide) rfl (by kernel_rfl) (Qo rfl) (by decide) (fun p38 => ?_)
  refine ap1 Qbp 73 (.slice A11 d10.length c12) d10 (gt x0 k9) [Qd (tSl Qg 3) [.slice A34 ((gt x0 k9).Values).length c35] ((gt x0 k9).Values)] [] K3 (pk [0, 2, 1]) (fun _ _ hs => Els.single (Qkk (x := (gt x0 k9)) hs)) Qdv Qcc (show (d10.length + 1) * 32 ≤ 140737488355328 from by omega) (fun v39 => ?_)
  refine Qs (n := 0) rfl ?_
  rintro A40 c41 rfl m42
  refine wa (Qal (Qax (Qi (Qad (wm ?_)))))
  refine wv (Qbd k9 1 (by omega)) ?_
  refine wa (Qal ?_)
  have hn44 := Qbb (R := (List Qaj)) (body := F1) (k := k9) (s := d10) (s' := (d10 ++ [(gt x0 k9)])) (show k9 < x0.length from by omega) (rfl) hF14
  exact Qaz (k9 + 1, (d10 ++ [(gt x0 k9)]), (A40, c41)) sl3 (fun W hm => hm) ⟨(by omega), hn44, (show (d10 ++ [(gt x0 k9)]).length ≤ 0 + (k9 + 1) from by first | omega | (simp only [List.length_append, List.length_cons, List.length_nil] at *; omega))⟩ (rl (by omega))
 have g18 := dlF hl17
 refine Qp rfl g18 ?_
 refine Qbk (Qac (Qac ?_))
 have hE45 : R2 (x0.length - 0) 0 [] = Sum.inr d10 := Qbn hl17 hF14
 refine Qbm (Qi (sr (wm (wa (nt' (Qj ?_))))))
 have he46 := (show Qsn x0 = d10 from Qat hE45 (rfl))
 refine Qec rfl (Qcv rfl) (fun W hm => ⟨.slice A11 d10.length c12, ?_, ?_⟩)
 ·first | rw [he46] | rfl
 rw [he46]; exact hm
theorem Qasw (x0 : (List Qaj)) : Qsn x0 = x0 := by
 unfold Qsn; rw [Qix (xs := x0) (b := fun k s => Qwx x0 k s) (fun _ _ => rfl)]; rfl
theorem Qact (w : World) (z0 : Value) (x0 : (List Qaj)) (r_0 : rdS Qbp w w.heap.size z0 x0) (s_0 : (x0.length ≤ 68719476736 ∧ ∀ y ∈ x0, Qgg 68719476736 y)) :
  Calls Tryz.prog 160 #[z0] w fun e w' => ∃ v : Value, e = .returned (v) ∧ Mem w.heap.size w [Qd (tSl Qbp 73) [v] x0] w' := by
 have h := Qasv w z0 x0 r_0 s_0
 rw [Qasw] at h
 exact h

def Qwl (x0 : Qay) : Qay :=
 x0
theorem Qagq : Cb Tryz.prog 161 := ⟨f161, _, func161, rfl, by decide⟩
theorem Qarv (w : World) (z0 : List Value) (x0 : Qay) (r_0 : Qbx.rd w w.heap.size z0 x0) (s_0 : Qhx 68719476736 x0) :
  Calls Tryz.prog 161 #[.agg z0.toArray] w fun e w' => ∃ v : List Value, e = .returned (.agg v.toArray) ∧ Mem w.heap.size w [Qd Qbx v (Qwl x0)] w' := by
 obtain ⟨v1, v3, v5, rfl, r2, r4, r6⟩ := Qik r_0
 obtain ⟨m7, A8, c9, rfl, q10, r11⟩ := Qk r2
 obtain ⟨m12, A13, c14, rfl, q15, r16⟩ := Qk r4
 obtain ⟨m17, A18, c19, rfl, q20, r21⟩ := Qk r6
 have l22 : x0.Ids.length ≤ 68719476736 := s_0.1
 have l23 : x0.Tenants.length ≤ 68719476736 := s_0.2.1
 have l24 : x0.Rows.length ≤ 68719476736 := s_0.2.2
 refine ce1 (L := [(0, .agg #[.int .i64 x0.Segment, .int .i64 x0.Base, .slice A8 x0.Ids.length c9, .slice A13 x0.Tenants.length c14, .slice A18 x0.Rows.length c19])]) (N := 20) func161 ?_
 refine sr ?_
 refine Qbj rfl (Qo rfl) (by decide) (fun p25 => ?_)
 refine Qbo Qdr rfl (Qo rfl) (by decide) (fun p26 => ?_)
 refine nt' (Qf ?_)
 let K1 : List Value := [.int .i64 x0.Segment, .int .i64 x0.Base, .slice A8 x0.Ids.length c9, .slice A13 x0.Tenants.length c14, .slice A18 x0.Rows.length c19]
 let K2 : List Value := [.int .i64 0, .int .i64 0, .slice none 0 0, .slice none 0 0, .slice none 0 0]
 refine rd2 18 [17] (s := [Qa p25 133 K1]) (s2 := [Qa p26 133 K2, Qa p25 133 K1]) (pk [1]) (fun W hm => hm) ?_
 refine Qlh (σ := Option Addr × Nat × Option Addr × Nat × Nat) (fun s => [Qa p26 133 K2, Qa p25 133 K1]) 18 32767 3 (fun s => [(2, .pointer (some (⟨p26, 0, none⟩ : Addr))), (4, .int .i64 x0.Segment), (6, .int .i64 x0.Base), (17, .slice A18 x0.Rows.length c19), (10, .slice s.1 x0.Ids.length s.2.1), (14, .slice s.2.2.1 x0.Tenants.length s.2.2.2.1), (15, .slice (some ⟨s.2.2.2.2, 0, none⟩) 0 0)]) (fun s => [Qd (tSl Qg 3) [.slice (some ⟨s.2.2.2.2, 0, none⟩) 0 0] [], Qd (tSl Qg 3) [.slice s.2.2.1 x0.Tenants.length s.2.2.2.1] x0.Tenants, Qd (tSl Qg 3) [.slice s.1 x0.Ids.length s.2.1] x0.Ids, Qa p26 133 K2, Qa p25 133 K1]) ?_ (fun H => ?_)
 ·
  rintro ⟨A30, c31, A37, c38, p41⟩
  let I4 : It := Qd (tSl Qg 3) [.slice A37 x0.Tenants.length c38] x0.Tenants
  let I5 : It := Qd (tSl Qg 3) [.slice A30 x0.Ids.length c31] x0.Ids
  show QD _ _ _ _ _ _ _ _ [(2, .pointer (some (⟨p26, 0, none⟩ : Addr))), (4, .int .i64 x0.Segment), (6, .int .i64 x0.Base), (17, .slice A18 x0.Rows.length c19), (10, .slice A30 x0.Ids.length c31), (14, .slice A37 x0.Tenants.length c38), (15, .slice (some ⟨p41, 0, none⟩) 0 0)] _ [Qa p26 133 K2, Qa p25 133 K1] _ [Qd (tSl Qg 3) [.slice (some ⟨p41, 0, none⟩) 0 0] [], I4, I5, Qa p26 133 K2, Qa p25 133 K1]
  refine Qej (n := 0) rfl ?_
  intro m43 m44
  refine Qej (n := 1) rfl ?_
  intro m45 m46
  refine Qej (n := 2) rfl ?_
  intro m47 m48
  refine qoD 18 15 65535 rfl ?_
  refine apR Qg Qg 3 (.slice (some ⟨p41, 0, none⟩) 0 0) [] x0.Rows [I4, I5, Qa p26 133 K2, Qa p25 133 K1] (fun W hm => hm) (fun W hm => Qdk Qcw (hm.rdS0 r21)) Qv Qh (show (0 + x0.Rows.length) * 8 ≤ 140737488355328 from by omega) (fun v49 => ?_)
  refine Qs (n := 0) rfl ?_
  rintro A50 c51 rfl m52
  refine qnD (pk [4]) (pk [3, 4]) ?_
  let K3 : List Value := [.int .i64 x0.Segment, .int .i64 x0.Base, .slice A30 x0.Ids.length c31, .slice A37 x0.Tenants.length c38, .slice A50 x0.Rows.length c51]
  refine qtD 18 16 131071 rfl (fun W hm => Qeq (cs := K3) rfl (by kernel_rfl)) ?_
  refine qoD 18 17 262143 rfl ?_
  let I6 : It := Qd (tSl Qg 3) [.slice A50 x0.Rows.length c51] x0.Rows
  refine sb 0 K3 [I6, I4, I5, Qa p25 133 K1] (pk [3, 0, 1, 2, 4]) Qdr ?_
  refine qxD (pk [4]) ?_
  refine Qef (by kernel_rfl) ?_
  refine Qi (Qj ?_)
  have he54 := (show Qwl x0 = x0 from rfl)
  refine Qec rfl (Qcp (n := 0) rfl rfl Qcm Qdr rfl) (fun W hm => ⟨K3, ?_, ?_⟩)
  ·first | rw [he54] | rfl
  rw [he54]; exact Mem.join (is := [I5, I4, I6]) (js := []) (fun _ _ hs => Qnp (x := x0) hs) (hm.pick [3, 2, 1] (by decide))
 refine qtD 18 0 1 rfl (vf Qcm rfl Qh) ?_
 refine qtD 18 1 3 rfl (vl 1 0 Qt) ?_
 refine qtD 18 2 7 rfl (vf Qcm rfl Qh) ?_
 refine qtD 18 3 15 rfl (vl 1 1 Qt) ?_
 refine qtD 18 5 47 rfl (vf Qcm rfl Qap) ?_
 refine qtD 18 6 111 rfl (vl 1 2 Qv) ?_
 refine qtD 18 9 623 rfl (vf Qcm rfl Qap) ?_
 refine qtD 18 10 1647 rfl (vl 1 3 Qv) ?_
 refine qtD 18 13 9839 rfl (vf Qcm rfl Qap) ?_
 refine qtD 18 14 26223 rfl (vl 1 4 Qv) ?_
 refine qaD [4, 8, 12] ?_
 refine qcD 18 26239 rfl ?_ ?_
 ·
  refine Qdb (E := Qg) Qv Qh (Qo rfl) (by decide) (fun p55 => ?_)
  refine qnD (pk [2]) (pk [1, 2]) ?_
  refine qaD [7, 8, 12] ?_
  refine qcD 18 26367 rfl ?_ ?_
  ·
   refine apR Qg Qg 3 (.slice (some ⟨p55, 0, none⟩) 0 0) [] x0.Ids [Qa p26 133 K2, Qa p25 133 K1] (fun W hm => hm) (fun W hm => Qdk Qcw (hm.rdS0 r11)) Qv Qh (show (0 + x0.Ids.length) * 8 ≤ 140737488355328 from by omega) (fun v57 => ?_)
   refine Qs (n := 0) rfl ?_
   rintro A58 c59 rfl m60
   refine qnD (pk [2]) (pk [1, 2]) ?_
   refine qaD [8, 12] ?_
   refine qcD 18 26623 rfl ?_ ?_
   ·
    refine Qdb (E := Qg) Qv Qh (Qo rfl) (by decide) (fun p62 => ?_)
    refine qnD (pk [3]) (pk [2, 3]) ?_
    refine qaD [11, 12] ?_
    refine qcD 18 28671 rfl ?_ ?_
    ·
     refine apR Qg Qg 3 (.slice (some ⟨p62, 0, none⟩) 0 0) [] x0.Tenants [Qd (tSl Qg 3) [.slice A58 x0.Ids.length c59] x0.Ids, Qa p26 133 K2, Qa p25 133 K1] (fun W hm => hm) (fun W hm => Qdk Qcw (hm.rdS0 r16)) Qv Qh (show (0 + x0.Tenants.length) * 8 ≤ 140737488355328 from by omega) (fun v64 => ?_)
     refine Qs (n := 0) rfl ?_
     rintro A65 c66 rfl m67
     refine qnD (pk [3]) (pk [2, 3]) ?_
     refine qoD 18 12 32767 rfl ?_
     refine Qdb (E := Qg) Qv Qh (Qo rfl) (by decide) (fun p69 => ?_)
     refine qnD (pk [4]) (pk [3, 4]) ?_
     exact Qdw sl7 (fun W hm => hm) (H (A58, c59, A65, c66, p69))
    refine qcD 18 30719 rfl ?_ ?_
    ·
     refine Qdb (E := Qg) Qv Qh (Qo rfl) (by decide) (fun p71 => ?_)
     refine qnD (pk [4]) (pk [3, 4]) ?_
     refine qoD 18 11 32767 rfl ?_
     refine apR Qg Qg 3 (.slice (some ⟨p62, 0, none⟩) 0 0) [] x0.Tenants [Qd (tSl Qg 3) [.slice (some ⟨p71, 0, none⟩) 0 0] [], Qd (tSl Qg 3) [.slice A58 x0.Ids.length c59] x0.Ids, Qa p26 133 K2, Qa p25 133 K1] (pk [1, 0, 2, 3, 4]) (fun W hm => Qdk Qcw (hm.rdS0 r16)) Qv Qh (show (0 + x0.Tenants.length) * 8 ≤ 140737488355328 from by omega) (fun v73 => ?_)
     refine Qs (n := 0) rfl ?_
     rintro A74 c75 rfl m76
     refine qnD (pk [4]) (pk [3, 4]) ?_
     exact Qdw sl7 (pk [1, 0, 2, 3, 4]) (H (A58, c59, A74, c75, p71))
    exact Qek
   refine qcD 18 30463 rfl ?_ ?_
   ·
    refine Qdb (E := Qg) Qv Qh (Qo rfl) (by decide) (fun p78 => ?_)
    refine qnD (pk [3]) (pk [2, 3]) ?_
    refine qoD 18 8 30719 rfl ?_
    refine Qdb (E := Qg) Qv Qh (Qo rfl) (by decide) (fun p80 => ?_)
    refine qnD (pk [4]) (pk [3, 4]) ?_
    refine qoD 18 11 32767 rfl ?_
    refine apR Qg Qg 3 (.slice (some ⟨p80, 0, none⟩) 0 0) [] x0.Tenants [Qd (tSl Qg 3) [.slice (some ⟨p78, 0, none⟩) 0 0] [], Qd (tSl Qg 3) [.slice A58 x0.Ids.length c59] x0.Ids, Qa p26 133 K2, Qa p25 133 K1] (fun W hm => hm) (fun W hm => Qdk Qcw (hm.rdS0 r16)) Qv Qh (show (0 + x0.Tenants.length) * 8 ≤ 140737488355328 from by omega) (fun v82 => ?_)
    refine Qs (n := 0) rfl ?_
    rintro A83 c84 rfl m85
    refine qnD (pk [4]) (pk [3, 4]) ?_
    exact Qdw sl7 (pk [1, 0, 2, 3, 4]) (H (A58, c59, A83, c84, p78))
   exact Qek
  refine qcD 18 26495 rfl ?_ ?_
  ·
   refine Qdb (E := Qg) Qv Qh (Qo rfl) (by decide) (fun p87 => ?_)
   refine qnD (pk [3]) (pk [2, 3]) ?_
   refine qaD [7, 12] ?_
   refine qcD 18 26623 rfl ?_ ?_
   ·
    refine apR Qg Qg 3 (.slice (some ⟨p55, 0, none⟩) 0 0) [] x0.Ids [Qd (tSl Qg 3) [.slice (some ⟨p87, 0, none⟩) 0 0] [], Qa p26 133 K2, Qa p25 133 K1] (pk [1, 0, 2, 3]) (fun W hm => Qdk Qcw (hm.rdS0 r11)) Qv Qh (show (0 + x0.Ids.length) * 8 ≤ 140737488355328 from by omega) (fun v89 => ?_)
    refine Qs (n := 0) rfl ?_
    rintro A90 c91 rfl m92
    refine qnD (pk [3]) (pk [2, 3]) ?_
    refine qaD [11, 12] ?_
    refine qcD 18 28671 rfl ?_ ?_
    ·
     refine apR Qg Qg 3 (.slice (some ⟨p87, 0, none⟩) 0 0) [] x0.Tenants [Qd (tSl Qg 3) [.slice A90 x0.Ids.length c91] x0.Ids, Qa p26 133 K2, Qa p25 133 K1] (pk [1, 0, 2, 3]) (fun W hm => Qdk Qcw (hm.rdS0 r16)) Qv Qh (show (0 + x0.Tenants.length) * 8 ≤ 140737488355328 from by omega) (fun v94 => ?_)
     refine Qs (n := 0) rfl ?_
     rintro A95 c96 rfl m97
     refine qnD (pk [3]) (pk [2, 3]) ?_
     refine qoD 18 12 32767 rfl ?_
     refine Qdb (E := Qg) Qv Qh (Qo rfl) (by decide) (fun p99 => ?_)
     refine qnD (pk [4]) (pk [3, 4]) ?_
     exact Qdw sl7 (fun W hm => hm) (H (A90, c91, A95, c96, p99))
    refine qcD 18 30719 rfl ?_ ?_
    ·
     refine Qdb (E := Qg) Qv Qh (Qo rfl) (by decide) (fun p101 => ?_)
     refine qnD (pk [4]) (pk [3, 4]) ?_
     refine qoD 18 11 32767 rfl ?_
     refine apR Qg Qg 3 (.slice (some ⟨p87, 0, none⟩) 0 0) [] x0.Tenants [Qd (tSl Qg 3) [.slice (some ⟨p101, 0, none⟩) 0 0] [], Qd (tSl Qg 3) [.slice A90 x0.Ids.length c91] x0.Ids, Qa p26 133 K2, Qa p25 133 K1] (pk [2, 0, 1, 3, 4]) (fun W hm => Qdk Qcw (hm.rdS0 r16)) Qv Qh (show (0 + x0.Tenants.length) * 8 ≤ 140737488355328 from by omega) (fun v103 => ?_)
     refine Qs (n := 0) rfl ?_
     rintro A104 c105 rfl m106
     refine qnD (pk [4]) (pk [3, 4]) ?_
     exact Qdw sl7 (pk [1, 0, 2, 3, 4]) (H (A90, c91, A104, c105, p101))
    exact Qek
   refine qcD 18 30591 rfl ?_ ?_
   ·
    refine Qdb (E := Qg) Qv Qh (Qo rfl) (by decide) (fun p108 => ?_)
    refine qnD (pk [4]) (pk [3, 4]) ?_
    refine qoD 18 7 30719 rfl ?_
    let I7 : It := Qd (tSl Qg 3) [.slice (some ⟨p108, 0, none⟩) 0 0] []
    refine apR Qg Qg 3 (.slice (some ⟨p55, 0, none⟩) 0 0) [] x0.Ids [I7, Qd (tSl Qg 3) [.slice (some ⟨p87, 0, none⟩) 0 0] [], Qa p26 133 K2, Qa p25 133 K1] (pk [2, 0, 1, 3, 4]) (fun W hm => Qdk Qcw (hm.rdS0 r11)) Qv Qh (show (0 + x0.Ids.length) * 8 ≤ 140737488355328 from by omega) (fun v110 => ?_)
    refine Qs (n := 0) rfl ?_
    rintro A111 c112 rfl m113
    refine qnD (pk [4]) (pk [3, 4]) ?_
    refine qoD 18 11 32767 rfl ?_
    refine apR Qg Qg 3 (.slice (some ⟨p87, 0, none⟩) 0 0) [] x0.Tenants [Qd (tSl Qg 3) [.slice A111 x0.Ids.length c112] x0.Ids, I7, Qa p26 133 K2, Qa p25 133 K1] (pk [2, 0, 1, 3, 4]) (fun W hm => Qdk Qcw (hm.rdS0 r16)) Qv Qh (show (0 + x0.Tenants.length) * 8 ≤ 140737488355328 from by omega) (fun v115 => ?_)
    refine Qs (n := 0) rfl ?_
    rintro A116 c117 rfl m118
    refine qnD (pk [4]) (pk [3, 4]) ?_
    exact Qdw sl7 (pk [2, 0, 1, 3, 4]) (H (A111, c112, A116, c117, p108))
   exact Qek
  refine qcD 18 30335 rfl ?_ ?_
  ·
   refine Qdb (E := Qg) Qv Qh (Qo rfl) (by decide) (fun p120 => ?_)
   refine qnD (pk [3]) (pk [2, 3]) ?_
   refine qaD [7, 8] ?_
   refine qcD 18 30463 rfl ?_ ?_
   ·
    let I8 : It := Qd (tSl Qg 3) [.slice (some ⟨p120, 0, none⟩) 0 0] []
    refine apR Qg Qg 3 (.slice (some ⟨p55, 0, none⟩) 0 0) [] x0.Ids [I8, Qa p26 133 K2, Qa p25 133 K1] (pk [1, 0, 2, 3]) (fun W hm => Qdk Qcw (hm.rdS0 r11)) Qv Qh (show (0 + x0.Ids.length) * 8 ≤ 140737488355328 from by omega) (fun v122 => ?_)
    refine Qs (n := 0) rfl ?_
    rintro A123 c124 rfl m125
    refine qnD (pk [3]) (pk [2, 3]) ?_
    refine qoD 18 8 30719 rfl ?_
    refine Qdb (E := Qg) Qv Qh (Qo rfl) (by decide) (fun p127 => ?_)
    refine qnD (pk [4]) (pk [3, 4]) ?_
    refine qoD 18 11 32767 rfl ?_
    refine apR Qg Qg 3 (.slice (some ⟨p127, 0, none⟩) 0 0) [] x0.Tenants [Qd (tSl Qg 3) [.slice A123 x0.Ids.length c124] x0.Ids, I8, Qa p26 133 K2, Qa p25 133 K1] (fun W hm => hm) (fun W hm => Qdk Qcw (hm.rdS0 r16)) Qv Qh (show (0 + x0.Tenants.length) * 8 ≤ 140737488355328 from by omega) (fun v129 => ?_)
    refine Qs (n := 0) rfl ?_
    rintro A130 c131 rfl m132
    refine qnD (pk [4]) (pk [3, 4]) ?_
    exact Qdw sl7 (pk [2, 0, 1, 3, 4]) (H (A123, c124, A130, c131, p120))
   refine qcD 18 30591 rfl ?_ ?_
   ·
    refine Qdb (E := Qg) Qv Qh (Qo rfl) (by decide) (fun p134 => ?_)
    refine qnD (pk [4]) (pk [3, 4]) ?_
    refine qoD 18 7 30719 rfl ?_
    let I9 : It := Qd (tSl Qg 3) [.slice (some ⟨p120, 0, none⟩) 0 0] []
    refine apR Qg Qg 3 (.slice (some ⟨p55, 0, none⟩) 0 0) [] x0.Ids [Qd (tSl Qg 3) [.slice (some ⟨p134, 0, none⟩) 0 0] [], I9, Qa p26 133 K2, Qa p25 133 K1] (pk [2, 0, 1, 3, 4]) (fun W hm => Qdk Qcw (hm.rdS0 r11)) Qv Qh (show (0 + x0.Ids.length) * 8 ≤ 140737488355328 from by omega) (fun v136 => ?_)
    refine Qs (n := 0) rfl ?_
    rintro A137 c138 rfl m139
    refine qnD (pk [4]) (pk [3, 4]) ?_
    refine qoD 18 11 32767 rfl ?_
    refine apR Qg Qg 3 (.slice (some ⟨p134, 0, none⟩) 0 0) [] x0.Tenants [Qd (tSl Qg 3) [.slice A137 x0.Ids.length c138] x0.Ids, I9, Qa p26 133 K2, Qa p25 133 K1] (pk [1, 0, 2, 3, 4]) (fun W hm => Qdk Qcw (hm.rdS0 r16)) Qv Qh (show (0 + x0.Tenants.length) * 8 ≤ 140737488355328 from by omega) (fun v141 => ?_)
    refine Qs (n := 0) rfl ?_
    rintro A142 c143 rfl m144
    refine qnD (pk [4]) (pk [3, 4]) ?_
    exact Qdw sl7 (pk [2, 0, 1, 3, 4]) (H (A137, c138, A142, c143, p120))
   exact Qek
  exact Qek
 refine qcD 18 26479 rfl ?_ ?_
 ·
  refine Qdb (E := Qg) Qv Qh (Qo rfl) (by decide) (fun p146 => ?_)
  refine qnD (pk [2]) (pk [1, 2]) ?_
  refine qaD [4, 12] ?_
  refine qcD 18 26495 rfl ?_ ?_
  ·
   refine Qdb (E := Qg) Qv Qh (Qo rfl) (by decide) (fun p148 => ?_)
   refine qnD (pk [3]) (pk [2, 3]) ?_
   refine qaD [7, 12] ?_
   refine qcD 18 26623 rfl ?_ ?_
   ·
    refine apR Qg Qg 3 (.slice (some ⟨p148, 0, none⟩) 0 0) [] x0.Ids [Qd (tSl Qg 3) [.slice (some ⟨p146, 0, none⟩) 0 0] [], Qa p26 133 K2, Qa p25 133 K1] (fun W hm => hm) (fun W hm => Qdk Qcw (hm.rdS0 r11)) Qv Qh (show (0 + x0.Ids.length) * 8 ≤ 140737488355328 from by omega) (fun v150 => ?_)
    refine Qs (n := 0) rfl ?_
    rintro A151 c152 rfl m153
    refine qnD (pk [3]) (pk [2, 3]) ?_
    refine qaD [11, 12] ?_
    refine qcD 18 28671 rfl ?_ ?_
    ·
     refine apR Qg Qg 3 (.slice (some ⟨p146, 0, none⟩) 0 0) [] x0.Tenants [Qd (tSl Qg 3) [.slice A151 x0.Ids.length c152] x0.Ids, Qa p26 133 K2, Qa p25 133 K1] (pk [1, 0, 2, 3]) (fun W hm => Qdk Qcw (hm.rdS0 r16)) Qv Qh (show (0 + x0.Tenants.length) * 8 ≤ 140737488355328 from by omega) (fun v155 => ?_)
     refine Qs (n := 0) rfl ?_
     rintro A156 c157 rfl m158
     refine qnD (pk [3]) (pk [2, 3]) ?_
     refine qoD 18 12 32767 rfl ?_
     refine Qdb (E := Qg) Qv Qh (Qo rfl) (by decide) (fun p160 => ?_)
     refine qnD (pk [4]) (pk [3, 4]) ?_
     exact Qdw sl7 (fun W hm => hm) (H (A151, c152, A156, c157, p160))
    refine qcD 18 30719 rfl ?_ ?_
    ·
     refine Qdb (E := Qg) Qv Qh (Qo rfl) (by decide) (fun p162 => ?_)
     refine qnD (pk [4]) (pk [3, 4]) ?_
     refine qoD 18 11 32767 rfl ?_
     refine apR Qg Qg 3 (.slice (some ⟨p146, 0, none⟩) 0 0) [] x0.Tenants [Qd (tSl Qg 3) [.slice (some ⟨p162, 0, none⟩) 0 0] [], Qd (tSl Qg 3) [.slice A151 x0.Ids.length c152] x0.Ids, Qa p26 133 K2, Qa p25 133 K1] (pk [2, 0, 1, 3, 4]) (fun W hm => Qdk Qcw (hm.rdS0 r16)) Qv Qh (show (0 + x0.Tenants.length) * 8 ≤ 140737488355328 from by omega) (fun v164 => ?_)
     refine Qs (n := 0) rfl ?_
     rintro A165 c166 rfl m167
     refine qnD (pk [4]) (pk [3, 4]) ?_
     exact Qdw sl7 (pk [1, 0, 2, 3, 4]) (H (A151, c152, A165, c166, p162))
    exact Qek
   refine qcD 18 30591 rfl ?_ ?_
   ·
    refine Qdb (E := Qg) Qv Qh (Qo rfl) (by decide) (fun p169 => ?_)
    refine qnD (pk [4]) (pk [3, 4]) ?_
    refine qoD 18 7 30719 rfl ?_
    let I10 : It := Qd (tSl Qg 3) [.slice (some ⟨p169, 0, none⟩) 0 0] []
    refine apR Qg Qg 3 (.slice (some ⟨p148, 0, none⟩) 0 0) [] x0.Ids [I10, Qd (tSl Qg 3) [.slice (some ⟨p146, 0, none⟩) 0 0] [], Qa p26 133 K2, Qa p25 133 K1] (pk [1, 0, 2, 3, 4]) (fun W hm => Qdk Qcw (hm.rdS0 r11)) Qv Qh (show (0 + x0.Ids.length) * 8 ≤ 140737488355328 from by omega) (fun v171 => ?_)
    refine Qs (n := 0) rfl ?_
    rintro A172 c173 rfl m174
    refine qnD (pk [4]) (pk [3, 4]) ?_
    refine qoD 18 11 32767 rfl ?_
    refine apR Qg Qg 3 (.slice (some ⟨p146, 0, none⟩) 0 0) [] x0.Tenants [Qd (tSl Qg 3) [.slice A172 x0.Ids.length c173] x0.Ids, I10, Qa p26 133 K2, Qa p25 133 K1] (pk [2, 0, 1, 3, 4]) (fun W hm => Qdk Qcw (hm.rdS0 r16)) Qv Qh (show (0 + x0.Tenants.length) * 8 ≤ 140737488355328 from by omega) (fun v176 => ?_)
    refine Qs (n := 0) rfl ?_
    rintro A177 c178 rfl m179
    refine qnD (pk [4]) (pk [3, 4]) ?_
    exact Qdw sl7 (pk [2, 0, 1, 3, 4]) (H (A172, c173, A177, c178, p169))
   exact Qek
  refine qcD 18 30575 rfl ?_ ?_
  ·
   refine Qdb (E := Qg) Qv Qh (Qo rfl) (by decide) (fun p181 => ?_)
   refine qnD (pk [3]) (pk [2, 3]) ?_
   refine qoD 18 4 30591 rfl ?_
   refine Qdb (E := Qg) Qv Qh (Qo rfl) (by decide) (fun p183 => ?_)
   refine qnD (pk [4]) (pk [3, 4]) ?_
   refine qoD 18 7 30719 rfl ?_
   let I11 : It := Qd (tSl Qg 3) [.slice (some ⟨p181, 0, none⟩) 0 0] []
   refine apR Qg Qg 3 (.slice (some ⟨p183, 0, none⟩) 0 0) [] x0.Ids [I11, Qd (tSl Qg 3) [.slice (some ⟨p146, 0, none⟩) 0 0] [], Qa p26 133 K2, Qa p25 133 K1] (fun W hm => hm) (fun W hm => Qdk Qcw (hm.rdS0 r11)) Qv Qh (show (0 + x0.Ids.length) * 8 ≤ 140737488355328 from by omega) (fun v185 => ?_)
   refine Qs (n := 0) rfl ?_
   rintro A186 c187 rfl m188
   refine qnD (pk [4]) (pk [3, 4]) ?_
   refine qoD 18 11 32767 rfl ?_
   refine apR Qg Qg 3 (.slice (some ⟨p146, 0, none⟩) 0 0) [] x0.Tenants [Qd (tSl Qg 3) [.slice A186 x0.Ids.length c187] x0.Ids, I11, Qa p26 133 K2, Qa p25 133 K1] (pk [2, 0, 1, 3, 4]) (fun W hm => Qdk Qcw (hm.rdS0 r16)) Qv Qh (show (0 + x0.Tenants.length) * 8 ≤ 140737488355328 from by omega) (fun v190 => ?_)
   refine Qs (n := 0) rfl ?_
   rintro A191 c192 rfl m193
   refine qnD (pk [4]) (pk [3, 4]) ?_
   exact Qdw sl7 (pk [2, 0, 1, 3, 4]) (H (A186, c187, A191, c192, p181))
  exact Qek
 refine qcD 18 30319 rfl ?_ ?_
 ·
  refine Qdb (E := Qg) Qv Qh (Qo rfl) (by decide) (fun p195 => ?_)
  refine qnD (pk [2]) (pk [1, 2]) ?_
  refine qaD [4, 8] ?_
  refine qcD 18 30335 rfl ?_ ?_
  ·
   refine Qdb (E := Qg) Qv Qh (Qo rfl) (by decide) (fun p197 => ?_)
   refine qnD (pk [3]) (pk [2, 3]) ?_
   refine qaD [7, 8] ?_
   refine qcD 18 30463 rfl ?_ ?_
   ·
    let I12 : It := Qd (tSl Qg 3) [.slice (some ⟨p195, 0, none⟩) 0 0] []
    refine apR Qg Qg 3 (.slice (some ⟨p197, 0, none⟩) 0 0) [] x0.Ids [I12, Qa p26 133 K2, Qa p25 133 K1] (fun W hm => hm) (fun W hm => Qdk Qcw (hm.rdS0 r11)) Qv Qh (show (0 + x0.Ids.length) * 8 ≤ 140737488355328 from by omega) (fun v199 => ?_)
    refine Qs (n := 0) rfl ?_
    rintro A200 c201 rfl m202
    refine qnD (pk [3]) (pk [2, 3]) ?_
    refine qoD 18 8 30719 rfl ?_
    refine Qdb (E := Qg) Qv Qh (Qo rfl) (by decide) (fun p204 => ?_)
    refine qnD (pk [4]) (pk [3, 4]) ?_
    refine qoD 18 11 32767 rfl ?_
    refine apR Qg Qg 3 (.slice (some ⟨p204, 0, none⟩) 0 0) [] x0.Tenants [Qd (tSl Qg 3) [.slice A200 x0.Ids.length c201] x0.Ids, I12, Qa p26 133 K2, Qa p25 133 K1] (fun W hm => hm) (fun W hm => Qdk Qcw (hm.rdS0 r16)) Qv Qh (show (0 + x0.Tenants.length) * 8 ≤ 140737488355328 from by omega) (fun v206 => ?_)
    refine Qs (n := 0) rfl ?_
    rintro A207 c208 rfl m209
    refine qnD (pk [4]) (pk [3, 4]) ?_
    exact Qdw sl7 (pk [2, 0, 1, 3, 4]) (H (A200, c201, A207, c208, p195))
   refine qcD 18 30591 rfl ?_ ?_
   ·
    refine Qdb (E := Qg) Qv Qh (Qo rfl) (by decide) (fun p211 => ?_)
    refine qnD (pk [4]) (pk [3, 4]) ?_
    refine qoD 18 7 30719 rfl ?_
    let I13 : It := Qd (tSl Qg 3) [.slice (some ⟨p195, 0, none⟩) 0 0] []
    refine apR Qg Qg 3 (.slice (some ⟨p197, 0, none⟩) 0 0) [] x0.Ids [Qd (tSl Qg 3) [.slice (some ⟨p211, 0, none⟩) 0 0] [], I13, Qa p26 133 K2, Qa p25 133 K1] (pk [1, 0, 2, 3, 4]) (fun W hm => Qdk Qcw (hm.rdS0 r11)) Qv Qh (show (0 + x0.Ids.length) * 8 ≤ 140737488355328 from by omega) (fun v213 => ?_)
    refine Qs (n := 0) rfl ?_
    rintro A214 c215 rfl m216
    refine qnD (pk [4]) (pk [3, 4]) ?_
    refine qoD 18 11 32767 rfl ?_
    refine apR Qg Qg 3 (.slice (some ⟨p211, 0, none⟩) 0 0) [] x0.Tenants [Qd (tSl Qg 3) [.slice A214 x0.Ids.length c215] x0.Ids, I13, Qa p26 133 K2, Qa p25 133 K1] (pk [1, 0, 2, 3, 4]) (fun W hm => Qdk Qcw (hm.rdS0 r16)) Qv Qh (show (0 + x0.Tenants.length) * 8 ≤ 140737488355328 from by omega) (fun v218 => ?_)
    refine Qs (n := 0) rfl ?_
    rintro A219 c220 rfl m221
    refine qnD (pk [4]) (pk [3, 4]) ?_
    exact Qdw sl7 (pk [2, 0, 1, 3, 4]) (H (A214, c215, A219, c220, p195))
   exact Qek
  refine qcD 18 30575 rfl ?_ ?_
  ·
   refine Qdb (E := Qg) Qv Qh (Qo rfl) (by decide) (fun p223 => ?_)
   refine qnD (pk [3]) (pk [2, 3]) ?_
   refine qoD 18 4 30591 rfl ?_
   refine Qdb (E := Qg) Qv Qh (Qo rfl) (by decide) (fun p225 => ?_)
   refine qnD (pk [4]) (pk [3, 4]) ?_
   refine qoD 18 7 30719 rfl ?_
   let I14 : It := Qd (tSl Qg 3) [.slice (some ⟨p195, 0, none⟩) 0 0] []
   refine apR Qg Qg 3 (.slice (some ⟨p225, 0, none⟩) 0 0) [] x0.Ids [Qd (tSl Qg 3) [.slice (some ⟨p223, 0, none⟩) 0 0] [], I14, Qa p26 133 K2, Qa p25 133 K1] (fun W hm => hm) (fun W hm => Qdk Qcw (hm.rdS0 r11)) Qv Qh (show (0 + x0.Ids.length) * 8 ≤ 140737488355328 from by omega) (fun v227 => ?_)
   refine Qs (n := 0) rfl ?_
   rintro A228 c229 rfl m230
   refine qnD (pk [4]) (pk [3, 4]) ?_
   refine qoD 18 11 32767 rfl ?_
   refine apR Qg Qg 3 (.slice (some ⟨p223, 0, none⟩) 0 0) [] x0.Tenants [Qd (tSl Qg 3) [.slice A228 x0.Ids.length c229] x0.Ids, I14, Qa p26 133 K2, Qa p25 133 K1] (pk [1, 0, 2, 3, 4]) (fun W hm => Qdk Qcw (hm.rdS0 r16)) Qv Qh (show (0 + x0.Tenants.length) * 8 ≤ 140737488355328 from by omega) (fun v232 => ?_)
   refine Qs (n := 0) rfl ?_
   rintro A233 c234 rfl m235
   refine qnD (pk [4]) (pk [3, 4]) ?_
   exact Qdw sl7 (pk [2, 0, 1, 3, 4]) (H (A228, c229, A233, c234, p195))
  exact Qek
 exact Qek
theorem Qarx (x0 : Qay) : Qwl x0 = x0 := by
 rfl
theorem Qarw (w : World) (z0 : List Value) (x0 : Qay) (r_0 : Qbx.rd w w.heap.size z0 x0) (s_0 : Qhx 68719476736 x0) :
  Calls Tryz.prog 161 #[.agg z0.toArray] w fun e w' => ∃ v : List Value, e = .returned (.agg v.toArray) ∧ Mem w.heap.size w [Qd Qbx v x0] w' := by
 have h := Qarv w z0 x0 r_0 s_0
 rw [Qarx] at h
 exact h

end Go.Proofs.YtmikmbmdibabmaaGreat
