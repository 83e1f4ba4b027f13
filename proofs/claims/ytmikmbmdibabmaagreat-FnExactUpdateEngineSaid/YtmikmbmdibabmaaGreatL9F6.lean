/-
  Contracts of functions, printed by a program of ours.
-/
import Derived.Test.YtmikmbmdibabmaaGreatL9F5
namespace Go.Proofs.YtmikmbmdibabmaaGreat
open Go.RowKit
set_option maxRecDepth 100000
set_option maxHeartbeats 4000000
open _root_.Go.Proofs.Tryz
def Qvl (k5 : Nat) (s6 : Int) (d7 : (List Qaj)) : (Int × (List Qaj)) ⊕ (Int × (List Qaj)) :=
 Sum.inr ((Qu ((gt d7 k5).Values) (IntKind.i64.wrap (s6 + 1))).1, (d7.set k5 (⟨s6, (Qu ((gt d7 k5).Values) (IntKind.i64.wrap (s6 + 1))).2⟩ : Qaj)))
def Qfe (x0 : (List Qaj)) (x1 : Int) : (Int × (List Qaj)) :=
 Sum.elim id (fun (s : Int × (List Qaj)) => (s.1, s.2)) (rng (R := (Int × (List Qaj))) (fun k (s : Int × (List Qaj)) => Qvl k s.1 s.2) (x0.length - 0) 0 (x1, x0))
theorem Qzd : Cb Tryz.prog 96 := ⟨f96, _, func96, rfl, by decide⟩
theorem Qaat (B : Nat) (w0 : World) (is : List It) (w : World) (z0 : Value) (x0 : (List Qaj)) (x1 : Int) (hm : Mem B w0 (Qd (tSl Qbp 73) [z0] x0 :: is) w) :
  Calls Tryz.prog 96 #[z0, .int .i64 x1] w fun e w' => e = .returned (.int .i64 (Qfe x0 x1).1) ∧ Mem B w0 (Qd (tSl Qbp 73) [z0] (Qfe x0 x1).2 :: is) w' := by
 refine Qhi (L := [(0, z0), (1, .int .i64 x1)]) (N := 27) func96 rfl rfl (Nat.le_of_ble_eq_true rfl) (Qee rfl (Qee rfl Qgl)) hm ?_
 refine Qel (n := 0) rfl ?_
 rintro A1 c2 rfl m3
 refine sr (wa (nt' (Qf (sr (wa (nt' (Qab ?_)))))))
 let F1 := fun k (s : Int × (List Qaj)) => Qvl k s.1 s.2
 let R2 := rng (R := (Int × (List Qaj))) F1
 refine Qbl (σ := Nat × (Int × (List Qaj)) × (Unit)) (fun s => [(0, .slice A1 x0.length c2), (1, .int .i64 s.2.1.1), (5, .int .i64 ((s.1 : Nat) : Int))]) (fun s => (Qd (tSl Qbp 73) [.slice A1 x0.length c2] s.2.1.2 :: is)) (fun s => s.1 ≤ x0.length ∧ R2 (x0.length - s.1) s.1 s.2.1 = R2 (x0.length - 0) 0 (x1, x0)) (fun s => x0.length - s.1) (0, (x1, x0), ()) sl3 (fun W hm => hm) ⟨(by omega), rfl⟩ ?_
 rintro ⟨k5, ⟨s6, d7⟩, ⟨⟩⟩ H10
 obtain ⟨hk8, hF9⟩ : k5 ≤ x0.length ∧ R2 (x0.length - k5) k5 (s6, d7) = R2 (x0.length - 0) 0 (x1, x0) := H10
 show CM Tryz.prog 27 _ _ _ _ [(0, .slice A1 x0.length c2), (1, .int .i64 s6), (5, .int .i64 ((k5 : Nat) : Int))] (Qd (tSl Qbp 73) [.slice A1 x0.length c2] d7 :: is)
 refine Qf (sr (wm (wm ?_)))
 refine wv (Qai Qdv) ?_
 refine wv Qak ?_
 refine nt' ?_
 by_cases hl11 : k5 < x0.length
 ·have g12 := dlT hl11
  refine Ql rfl g12 ?_
  refine Qq (Qi (Qf (Qab (sr (wm (wm (wm ?_)))))))
  refine Qfj (n := 0) rfl (by omega) ?_
  rintro g13 rfl
  refine wv (vix 2 k5 Qdv Qcc) ?_
  refine wv (vf Qde rfl Qh) ?_
  refine Qgk (E := Qbp) (e := 73) (A := (some ⟨g13, 0, none⟩)) (n := x0.length) (c := c2) (xs := d7) (k := k5) (js := (is)) (by omega) (fun W hm => (hm.front (n := 0) rfl)) (fun ck14 => ?_)
  refine Qnu ?_
  rintro v15 rfl
  refine Qs (n := 0) rfl ?_
  rintro A16 c17 rfl m18
  refine sf 0 2 [.int .i64 s6, .slice A16 ((gt d7 k5).Values).length c17] (Qd (tSl Qg 3) [.slice A16 ((gt d7 k5).Values).length c17] ((gt d7 k5).Values) :: is) (fun W hm => (hm.front (n := 1) rfl)) Qh ?_
  refine nt' (sr (wm ?_))
  refine wv Qdq ?_
  refine wa (nt' (Qad (wm (wm ?_))))
  refine wv (vix 2 k5 Qdv Qcc) ?_
  refine wv (vf Qde rfl Qap) ?_
  refine wv (fun W hm => Qaw Qv rfl rfl (hm.focCells (i := 0) rfl rfl 1 _ rfl)) ?_
  refine wm ?_
  refine cw (Qr Qjw rfl) (fun W hm => Qjz B w0 (Qao Qbp 73 (some ⟨g13, 0, none⟩) x0.length c2 d7 k5 [.int .i64 s6, .slice A16 ((gt d7 k5).Values).length c17] :: is) W (.slice A16 ((gt d7 k5).Values).length c17) ((gt d7 k5).Values) (IntKind.i64.wrap (s6 + 1)) (hm.front (n := 1) rfl)) ?_
  refine wa (Qal (Qax (Qi (Qad (wm ?_)))))
  refine wv (Qbd k5 1 (by omega)) ?_
  refine wa (Qal ?_)
  refine Qdu (fun W hm => Mem.unfocus (Mem.join (is := [Qd (tSl Qg 3) [.slice A16 ((gt d7 k5).Values).length c17] ((Qu ((gt d7 k5).Values) (IntKind.i64.wrap (s6 + 1))).2)]) (js := (Qao Qbp 73 (some ⟨g13, 0, none⟩) x0.length c2 d7 k5 [.int .i64 s6, .slice A16 ((gt d7 k5).Values).length c17] :: (is))) (fun _ _ hs => Qkk (x := (⟨s6, (Qu ((gt d7 k5).Values) (IntKind.i64.wrap (s6 + 1))).2⟩ : Qaj)) hs) ((hm.front (n := 1) rfl).front (n := 1) rfl))) ?_
  have hn20 := Qbb (R := (Int × (List Qaj))) (body := F1) (k := k5) (s := (s6, d7)) (s' := ((Qu ((gt d7 k5).Values) (IntKind.i64.wrap (s6 + 1))).1, (d7.set k5 (⟨s6, (Qu ((gt d7 k5).Values) (IntKind.i64.wrap (s6 + 1))).2⟩ : Qaj)))) (show k5 < x0.length from by omega) (rfl) hF9
  exact Qaz (k5 + 1, ((Qu ((gt d7 k5).Values) (IntKind.i64.wrap (s6 + 1))).1, (d7.set k5 (⟨s6, (Qu ((gt d7 k5).Values) (IntKind.i64.wrap (s6 + 1))).2⟩ : Qaj))), ()) sl3 (fun W hm => hm) ⟨(by omega), hn20⟩ (rl (by omega))
 have g12 := dlF hl11
 refine Qp rfl g12 ?_
 refine Qbk (Qac (Qac ?_))
 have hE21 : R2 (x0.length - 0) 0 (x1, x0) = Sum.inr (s6, d7) := Qbn hl11 hF9
 refine Qbm (Qi (sr (wm (wa (nt' (Qj ?_))))))
 have he22 := (show Qfe x0 x1 = (s6, d7) from Qat hE21 (rfl))
 refine Qir rfl rfl (fun W hm => ⟨?_, ?_⟩)
 ·rw [he22]
 rw [he22]; exact hm

def Qvg (k5 : Nat) (s6 : Int) (d7 : (List Qbf)) : (Int × (List Qbf)) ⊕ (Int × (List Qbf)) :=
 Sum.inr ((Qfe ((gt d7 k5).Rows) (IntKind.i64.wrap ((IntKind.i64.wrap ((IntKind.i64.wrap (((Qu ((gt d7 k5).Todo) (IntKind.i64.wrap (((Qu ((gt d7 k5).Query.Out) ((Qau ((gt d7 k5).Query.Conds) (IntKind.i64.wrap ((IntKind.i64.wrap (s6 + 1)) + 1))).1)).1) + 1))).1) + 1)) + 1)) + 1))).1, (d7.set k5 (⟨(⟨s6, (IntKind.i64.wrap (s6 + 1)), (Qau ((gt d7 k5).Query.Conds) (IntKind.i64.wrap ((IntKind.i64.wrap (s6 + 1)) + 1))).2, (Qu ((gt d7 k5).Query.Out) ((Qau ((gt d7 k5).Query.Conds) (IntKind.i64.wrap ((IntKind.i64.wrap (s6 + 1)) + 1))).1)).2⟩ : Qcg), (Qu ((gt d7 k5).Query.Out) ((Qau ((gt d7 k5).Query.Conds) (IntKind.i64.wrap ((IntKind.i64.wrap (s6 + 1)) + 1))).1)).1, (Qu ((gt d7 k5).Todo) (IntKind.i64.wrap (((Qu ((gt d7 k5).Query.Out) ((Qau ((gt d7 k5).Query.Conds) (IntKind.i64.wrap ((IntKind.i64.wrap (s6 + 1)) + 1))).1)).1) + 1))).2, (Qu ((gt d7 k5).Todo) (IntKind.i64.wrap (((Qu ((gt d7 k5).Query.Out) ((Qau ((gt d7 k5).Query.Conds) (IntKind.i64.wrap ((IntKind.i64.wrap (s6 + 1)) + 1))).1)).1) + 1))).1, (IntKind.i64.wrap (((Qu ((gt d7 k5).Todo) (IntKind.i64.wrap (((Qu ((gt d7 k5).Query.Out) ((Qau ((gt d7 k5).Query.Conds) (IntKind.i64.wrap ((IntKind.i64.wrap (s6 + 1)) + 1))).1)).1) + 1))).1) + 1)), (IntKind.i64.wrap ((IntKind.i64.wrap (((Qu ((gt d7 k5).Todo) (IntKind.i64.wrap (((Qu ((gt d7 k5).Query.Out) ((Qau ((gt d7 k5).Query.Conds) (IntKind.i64.wrap ((IntKind.i64.wrap (s6 + 1)) + 1))).1)).1) + 1))).1) + 1)) + 1)), (Qfe ((gt d7 k5).Rows) (IntKind.i64.wrap ((IntKind.i64.wrap ((IntKind.i64.wrap (((Qu ((gt d7 k5).Todo) (IntKind.i64.wrap (((Qu ((gt d7 k5).Query.Out) ((Qau ((gt d7 k5).Query.Conds) (IntKind.i64.wrap ((IntKind.i64.wrap (s6 + 1)) + 1))).1)).1) + 1))).1) + 1)) + 1)) + 1))).2⟩ : Qbf)))
def Qfk (x0 : (List Qbf)) (x1 : Int) : (Int × (List Qbf)) :=
 Sum.elim id (fun (s : Int × (List Qbf)) => (s.1, s.2)) (rng (R := (Int × (List Qbf))) (fun k (s : Int × (List Qbf)) => Qvg k s.1 s.2) (x0.length - 0) 0 (x1, x0))
theorem cb93 : Cb Tryz.prog 93 := ⟨f93, _, func93, rfl, by decide⟩
theorem Qamw (B : Nat) (w0 : World) (is : List It) (w : World) (z0 : Value) (x0 : (List Qbf)) (x1 : Int) (hm : Mem B w0 (Qd (tSl Qbw 64) [z0] x0 :: is) w) :
  Calls Tryz.prog 93 #[z0, .int .i64 x1] w fun e w' => e = .returned (.int .i64 (Qfk x0 x1).1) ∧ Mem B w0 (Qd (tSl Qbw 64) [z0] (Qfk x0 x1).2 :: is) w' := by
 refine Qhi (L := [(0, z0), (1, .int .i64 x1)]) (N := 87) func93 rfl rfl (Nat.le_of_ble_eq_true rfl) (Qee rfl (Qee rfl Qgl)) hm ?_
 refine Qel (n := 0) rfl ?_
 rintro A1 c2 rfl m3
 refine sr (wa (nt' (Qf (sr (wa (nt' (Qab ?_)))))))
 let F1 := fun k (s : Int × (List Qbf)) => Qvg k s.1 s.2
 let R2 := rng (R := (Int × (List Qbf))) F1
 refine Qbl (σ := Nat × (Int × (List Qbf)) × (Unit)) (fun s => [(0, .slice A1 x0.length c2), (1, .int .i64 s.2.1.1), (5, .int .i64 ((s.1 : Nat) : Int))]) (fun s => (Qd (tSl Qbw 64) [.slice A1 x0.length c2] s.2.1.2 :: is)) (fun s => s.1 ≤ x0.length ∧ R2 (x0.length - s.1) s.1 s.2.1 = R2 (x0.length - 0) 0 (x1, x0)) (fun s => x0.length - s.1) (0, (x1, x0), ()) sl3 (fun W hm => hm) ⟨(by omega), rfl⟩ ?_
 rintro ⟨k5, ⟨s6, d7⟩, ⟨⟩⟩ H10
 obtain ⟨hk8, hF9⟩ : k5 ≤ x0.length ∧ R2 (x0.length - k5) k5 (s6, d7) = R2 (x0.length - 0) 0 (x1, x0) := H10
 show CM Tryz.prog 87 _ _ _ _ [(0, .slice A1 x0.length c2), (1, .int .i64 s6), (5, .int .i64 ((k5 : Nat) : Int))] (Qd (tSl Qbw 64) [.slice A1 x0.length c2] d7 :: is)
 refine Qf (sr (wm (wm ?_)))
 refine wv (Qai Qcj) ?_
 refine wv Qak ?_
 refine nt' ?_
 by_cases hl11 : k5 < x0.length
 ·have g12 := dlT hl11
  refine Ql rfl g12 ?_
  refine Qq (Qi (Qf (Qab (sr (wm (wm (wm ?_)))))))
  refine Qfj (n := 0) rfl (by omega) ?_
  rintro g13 rfl
  refine wv (vix 10 k5 Qcj Qcs) ?_
  refine wv (vf Qbu rfl Qcl) ?_
  refine wv (fun W hm => Qdy (o := 0) Qch rfl Qh (by decide) rfl rfl) ?_
  refine Qgk (E := Qbw) (e := 64) (A := (some ⟨g13, 0, none⟩)) (n := x0.length) (c := c2) (xs := d7) (k := k5) (js := (is)) (by omega) (fun W hm => (hm.front (n := 0) rfl)) (fun ck14 => ?_)
  refine Qqv ?_
  rintro ⟨v15, v16, v17, v18⟩ rfl
  refine Qs (n := 0) rfl ?_
  rintro A19 c20 rfl m21
  refine Qs (n := 1) rfl ?_
  rintro A23 c24 rfl m25
  refine Qs (n := 2) rfl ?_
  rintro A27 c28 rfl m29
  refine Qs (n := 3) rfl ?_
  rintro A31 c32 rfl m33
  let I6 : It := Qd (tSl Qbz 201) [.slice A19 ((gt d7 k5).Query.Conds).length c20] ((gt d7 k5).Query.Conds)
  let I7 : It := Qd (tSl Qg 3) [.slice A23 ((gt d7 k5).Query.Out).length c24] ((gt d7 k5).Query.Out)
  let I8 : It := Qd (tSl Qg 3) [.slice A27 ((gt d7 k5).Todo).length c28] ((gt d7 k5).Todo)
  let I9 : It := Qd (tSl Qbp 73) [.slice A31 ((gt d7 k5).Rows).length c32] ((gt d7 k5).Rows)
  refine sf 0 10 [.int .i64 s6, .int .i64 ((gt d7 k5).Query.Tenant), .slice A19 ((gt d7 k5).Query.Conds).length c20, .slice A23 ((gt d7 k5).Query.Out).length c24, .int .i64 ((gt d7 k5).Time), .slice A27 ((gt d7 k5).Todo).length c28, .int .i64 ((gt d7 k5).Age), .int .i64 ((gt d7 k5).Sent), .int .i64 ((gt d7 k5).Cap), .slice A31 ((gt d7 k5).Rows).length c32] (I6 :: I7 :: I8 :: I9 :: is) (fun W hm => (hm.front (n := 4) rfl)) Qh ?_
  refine nt' (sr (wm ?_))
  refine wv Qdq ?_
  refine wa (nt' (sr (wm (wm (wm ?_)))))
  refine wv (vix 10 k5 Qcj Qcs) ?_
  refine wv (vf Qbu rfl Qcl) ?_
  refine wv (fun W hm => Qdy (o := 1) Qch rfl Qh (by decide) rfl rfl) ?_
  let K3 : List Value := [.int .i64 s6, .int .i64 (IntKind.i64.wrap (s6 + 1)), .slice A19 ((gt d7 k5).Query.Conds).length c20, .slice A23 ((gt d7 k5).Query.Out).length c24, .int .i64 ((gt d7 k5).Time), .slice A27 ((gt d7 k5).Todo).length c28, .int .i64 ((gt d7 k5).Age), .int .i64 ((gt d7 k5).Sent), .int .i64 ((gt d7 k5).Cap), .slice A31 ((gt d7 k5).Rows).length c32]
  refine sf 1 10 K3 (I6 :: I7 :: I8 :: I9 :: is) (fun W hm => (hm.front (n := 0) rfl)) Qh ?_
  refine nt' (sr (wm ?_))
  refine wv Qdq ?_
  refine wa (nt' (sr (wm (wm ?_))))
  refine wv (vix 10 k5 Qcj Qcs) ?_
  refine wv (vf Qbu rfl Qcl) ?_
  refine wv (fun W hm => Qdy (o := 2) Qch rfl type32 (by decide) rfl rfl) ?_
  refine wv (fun W hm => Qaw Qds rfl rfl (hm.focCells (i := 0) rfl rfl 2 _ rfl)) ?_
  refine wm ?_
  refine cw (Qr Qyl rfl) (fun W hm => Qaap B w0 (Qao Qbw 64 (some ⟨g13, 0, none⟩) x0.length c2 d7 k5 K3 :: I7 :: I8 :: I9 :: is) W (.slice A19 ((gt d7 k5).Query.Conds).length c20) ((gt d7 k5).Query.Conds) (IntKind.i64.wrap ((IntKind.i64.wrap (s6 + 1)) + 1)) (hm.front (n := 1) rfl)) ?_
  refine wa (nt' (sr (wm (wm ?_))))
  refine wv (vix 10 k5 Qcj Qcs) ?_
  refine wv (vf Qbu rfl Qcl) ?_
  refine wv (fun W hm => Qdy (o := 3) Qch rfl Qap (by decide) rfl rfl) ?_
  refine wv (fun W hm => Qaw Qv rfl rfl (hm.focCells (i := 1) rfl rfl 3 _ rfl)) ?_
  refine wm ?_
  let I10 : It := Qd (tSl Qbz 201) [.slice A19 ((gt d7 k5).Query.Conds).length c20] ((Qau ((gt d7 k5).Query.Conds) (IntKind.i64.wrap ((IntKind.i64.wrap (s6 + 1)) + 1))).2)
  refine cw (Qr Qjw rfl) (fun W hm => Qjz B w0 (I10 :: Qao Qbw 64 (some ⟨g13, 0, none⟩) x0.length c2 d7 k5 K3 :: I8 :: I9 :: is) W (.slice A23 ((gt d7 k5).Query.Out).length c24) ((gt d7 k5).Query.Out) ((Qau ((gt d7 k5).Query.Conds) (IntKind.i64.wrap ((IntKind.i64.wrap (s6 + 1)) + 1))).1) (hm.front (n := 2) rfl)) ?_
  refine wa (nt' (sr (wm (wm (wm ?_)))))
  refine wv (vix 10 k5 Qcj Qcs) ?_
  refine wv (vf Qbu rfl Qh) ?_
  let K4 : List Value := [.int .i64 s6, .int .i64 (IntKind.i64.wrap (s6 + 1)), .slice A19 ((gt d7 k5).Query.Conds).length c20, .slice A23 ((gt d7 k5).Query.Out).length c24, .int .i64 ((Qu ((gt d7 k5).Query.Out) ((Qau ((gt d7 k5).Query.Conds) (IntKind.i64.wrap ((IntKind.i64.wrap (s6 + 1)) + 1))).1)).1), .slice A27 ((gt d7 k5).Todo).length c28, .int .i64 ((gt d7 k5).Age), .int .i64 ((gt d7 k5).Sent), .int .i64 ((gt d7 k5).Cap), .slice A31 ((gt d7 k5).Rows).length c32]
  let I11 : It := Qd (tSl Qg 3) [.slice A23 ((gt d7 k5).Query.Out).length c24] ((Qu ((gt d7 k5).Query.Out) ((Qau ((gt d7 k5).Query.Conds) (IntKind.i64.wrap ((IntKind.i64.wrap (s6 + 1)) + 1))).1)).2)
  refine sf 4 10 K4 (I11 :: I10 :: I8 :: I9 :: is) (fun W hm => (hm.front (n := 2) rfl)) Qh ?_
  refine nt' (sr (wm ?_))
  refine wv Qdq ?_
  refine wa (nt' (sr (wm (wm ?_))))
  refine wv (vix 10 k5 Qcj Qcs) ?_
  refine wv (vf Qbu rfl Qap) ?_
  refine wv (fun W hm => Qaw Qv rfl rfl (hm.focCells (i := 0) rfl rfl 5 _ rfl)) ?_
  refine wm ?_
  refine cw (Qr Qjw rfl) (fun W hm => Qjz B w0 (Qao Qbw 64 (some ⟨g13, 0, none⟩) x0.length c2 d7 k5 K4 :: I11 :: I10 :: I9 :: is) W (.slice A27 ((gt d7 k5).Todo).length c28) ((gt d7 k5).Todo) (IntKind.i64.wrap (((Qu ((gt d7 k5).Query.Out) ((Qau ((gt d7 k5).Query.Conds) (IntKind.i64.wrap ((IntKind.i64.wrap (s6 + 1)) + 1))).1)).1) + 1)) (hm.front (n := 3) rfl)) ?_
  refine wa (nt' (sr (wm (wm (wm ?_)))))
  refine wv (vix 10 k5 Qcj Qcs) ?_
  refine wv (vf Qbu rfl Qh) ?_
  let I12 : It := Qd (tSl Qg 3) [.slice A27 ((gt d7 k5).Todo).length c28] ((Qu ((gt d7 k5).Todo) (IntKind.i64.wrap (((Qu ((gt d7 k5).Query.Out) ((Qau ((gt d7 k5).Query.Conds) (IntKind.i64.wrap ((IntKind.i64.wrap (s6 + 1)) + 1))).1)).1) + 1))).2)
  refine sf 6 10 [.int .i64 s6, .int .i64 (IntKind.i64.wrap (s6 + 1)), .slice A19 ((gt d7 k5).Query.Conds).length c20, .slice A23 ((gt d7 k5).Query.Out).length c24, .int .i64 ((Qu ((gt d7 k5).Query.Out) ((Qau ((gt d7 k5).Query.Conds) (IntKind.i64.wrap ((IntKind.i64.wrap (s6 + 1)) + 1))).1)).1), .slice A27 ((gt d7 k5).Todo).length c28, .int .i64 ((Qu ((gt d7 k5).Todo) (IntKind.i64.wrap (((Qu ((gt d7 k5).Query.Out) ((Qau ((gt d7 k5).Query.Conds) (IntKind.i64.wrap ((IntKind.i64.wrap (s6 + 1)) + 1))).1)).1) + 1))).1), .int .i64 ((gt d7 k5).Sent), .int .i64 ((gt d7 k5).Cap), .slice A31 ((gt d7 k5).Rows).length c32] (I12 :: I11 :: I10 :: I9 :: is) (fun W hm => (hm.front (n := 1) rfl)) Qh ?_
  refine nt' (sr (wm ?_))
  refine wv Qdq ?_
  refine wa (nt' (sr (wm (wm (wm ?_)))))
  refine wv (vix 10 k5 Qcj Qcs) ?_
  refine wv (vf Qbu rfl Qh) ?_
  refine sf 7 10 [.int .i64 s6, .int .i64 (IntKind.i64.wrap (s6 + 1)), .slice A19 ((gt d7 k5).Query.Conds).length c20, .slice A23 ((gt d7 k5).Query.Out).length c24, .int .i64 ((Qu ((gt d7 k5).Query.Out) ((Qau ((gt d7 k5).Query.Conds) (IntKind.i64.wrap ((IntKind.i64.wrap (s6 + 1)) + 1))).1)).1), .slice A27 ((gt d7 k5).Todo).length c28, .int .i64 ((Qu ((gt d7 k5).Todo) (IntKind.i64.wrap (((Qu ((gt d7 k5).Query.Out) ((Qau ((gt d7 k5).Query.Conds) (IntKind.i64.wrap ((IntKind.i64.wrap (s6 + 1)) + 1))).1)).1) + 1))).1), .int .i64 (IntKind.i64.wrap (((Qu ((gt d7 k5).Todo) (IntKind.i64.wrap (((Qu ((gt d7 k5).Query.Out) ((Qau ((gt d7 k5).Query.Conds) (IntKind.i64.wrap ((IntKind.i64.wrap (s6 + 1)) + 1))).1)).1) + 1))).1) + 1)), .int .i64 ((gt d7 k5).Cap), .slice A31 ((gt d7 k5).Rows).length c32] (I12 :: I11 :: I10 :: I9 :: is) (fun W hm => (hm.front (n := 0) rfl)) Qh ?_
  refine nt' (sr (wm ?_))
  refine wv Qdq ?_
  refine wa (nt' (sr (wm (wm (wm ?_)))))
  refine wv (vix 10 k5 Qcj Qcs) ?_
  refine wv (vf Qbu rfl Qh) ?_
  let K5 : List Value := [.int .i64 s6, .int .i64 (IntKind.i64.wrap (s6 + 1)), .slice A19 ((gt d7 k5).Query.Conds).length c20, .slice A23 ((gt d7 k5).Query.Out).length c24, .int .i64 ((Qu ((gt d7 k5).Query.Out) ((Qau ((gt d7 k5).Query.Conds) (IntKind.i64.wrap ((IntKind.i64.wrap (s6 + 1)) + 1))).1)).1), .slice A27 ((gt d7 k5).Todo).length c28, .int .i64 ((Qu ((gt d7 k5).Todo) (IntKind.i64.wrap (((Qu ((gt d7 k5).Query.Out) ((Qau ((gt d7 k5).Query.Conds) (IntKind.i64.wrap ((IntKind.i64.wrap (s6 + 1)) + 1))).1)).1) + 1))).1), .int .i64 (IntKind.i64.wrap (((Qu ((gt d7 k5).Todo) (IntKind.i64.wrap (((Qu ((gt d7 k5).Query.Out) ((Qau ((gt d7 k5).Query.Conds) (IntKind.i64.wrap ((IntKind.i64.wrap (s6 + 1)) + 1))).1)).1) + 1))).1) + 1)), .int .i64 (IntKind.i64.wrap ((IntKind.i64.wrap (((Qu ((gt d7 k5).Todo) (IntKind.i64.wrap (((Qu ((gt d7 k5).Query.Out) ((Qau ((gt d7 k5).Query.Conds) (IntKind.i64.wrap ((IntKind.i64.wrap (s6 + 1)) + 1))).1)).1) + 1))).1) + 1)) + 1)), .slice A31 ((gt d7 k5).Rows).length c32]
  refine sf 8 10 K5 (I12 :: I11 :: I10 :: I9 :: is) (fun W hm => (hm.front (n := 0) rfl)) Qh ?_
  refine nt' (sr (wm ?_))
  refine wv Qdq ?_
  refine wa (nt' (Qad (wm (wm ?_))))
  refine wv (vix 10 k5 Qcj Qcs) ?_
  refine wv (vf Qbu rfl Qfa) ?_
  refine wv (fun W hm => Qaw Qdv rfl rfl (hm.focCells (i := 0) rfl rfl 9 _ rfl)) ?_
  refine wm ?_
  refine cw (Qr Qzd rfl) (fun W hm => Qaat B w0 (Qao Qbw 64 (some ⟨g13, 0, none⟩) x0.length c2 d7 k5 K5 :: I12 :: I11 :: I10 :: is) W (.slice A31 ((gt d7 k5).Rows).length c32) ((gt d7 k5).Rows) (IntKind.i64.wrap ((IntKind.i64.wrap ((IntKind.i64.wrap (((Qu ((gt d7 k5).Todo) (IntKind.i64.wrap (((Qu ((gt d7 k5).Query.Out) ((Qau ((gt d7 k5).Query.Conds) (IntKind.i64.wrap ((IntKind.i64.wrap (s6 + 1)) + 1))).1)).1) + 1))).1) + 1)) + 1)) + 1)) (hm.front (n := 4) rfl)) ?_
  refine wa (Qal (Qax (Qi (Qad (wm ?_)))))
  refine wv (Qbd k5 1 (by omega)) ?_
  refine wa (Qal ?_)
  refine Qdu (fun W hm => Mem.unfocus (Mem.join (is := [I10, I11, I12, Qd (tSl Qbp 73) [.slice A31 ((gt d7 k5).Rows).length c32] ((Qfe ((gt d7 k5).Rows) (IntKind.i64.wrap ((IntKind.i64.wrap ((IntKind.i64.wrap (((Qu ((gt d7 k5).Todo) (IntKind.i64.wrap (((Qu ((gt d7 k5).Query.Out) ((Qau ((gt d7 k5).Query.Conds) (IntKind.i64.wrap ((IntKind.i64.wrap (s6 + 1)) + 1))).1)).1) + 1))).1) + 1)) + 1)) + 1))).2)]) (js := (Qao Qbw 64 (some ⟨g13, 0, none⟩) x0.length c2 d7 k5 K5 :: (is))) (fun _ _ hs => Qmm (x := (⟨(⟨s6, (IntKind.i64.wrap (s6 + 1)), (Qau ((gt d7 k5).Query.Conds) (IntKind.i64.wrap ((IntKind.i64.wrap (s6 + 1)) + 1))).2, (Qu ((gt d7 k5).Query.Out) ((Qau ((gt d7 k5).Query.Conds) (IntKind.i64.wrap ((IntKind.i64.wrap (s6 + 1)) + 1))).1)).2⟩ : Qcg), (Qu ((gt d7 k5).Query.Out) ((Qau ((gt d7 k5).Query.Conds) (IntKind.i64.wrap ((IntKind.i64.wrap (s6 + 1)) + 1))).1)).1, (Qu ((gt d7 k5).Todo) (IntKind.i64.wrap (((Qu ((gt d7 k5).Query.Out) ((Qau ((gt d7 k5).Query.Conds) (IntKind.i64.wrap ((IntKind.i64.wrap (s6 + 1)) + 1))).1)).1) + 1))).2, (Qu ((gt d7 k5).Todo) (IntKind.i64.wrap (((Qu ((gt d7 k5).Query.Out) ((Qau ((gt d7 k5).Query.Conds) (IntKind.i64.wrap ((IntKind.i64.wrap (s6 + 1)) + 1))).1)).1) + 1))).1, (IntKind.i64.wrap (((Qu ((gt d7 k5).Todo) (IntKind.i64.wrap (((Qu ((gt d7 k5).Query.Out) ((Qau ((gt d7 k5).Query.Conds) (IntKind.i64.wrap ((IntKind.i64.wrap (s6 + 1)) + 1))).1)).1) + 1))).1) + 1)), (IntKind.i64.wrap ((IntKind.i64.wrap (((Qu ((gt d7 k5).Todo) (IntKind.i64.wrap (((Qu ((gt d7 k5).Query.Out) ((Qau ((gt d7 k5).Query.Conds) (IntKind.i64.wrap ((IntKind.i64.wrap (s6 + 1)) + 1))).1)).1) + 1))).1) + 1)) + 1)), (Qfe ((gt d7 k5).Rows) (IntKind.i64.wrap ((IntKind.i64.wrap ((IntKind.i64.wrap (((Qu ((gt d7 k5).Todo) (IntKind.i64.wrap (((Qu ((gt d7 k5).Query.Out) ((Qau ((gt d7 k5).Query.Conds) (IntKind.i64.wrap ((IntKind.i64.wrap (s6 + 1)) + 1))).1)).1) + 1))).1) + 1)) + 1)) + 1))).2⟩ : Qbf)) hs) (((((hm.front (n := 1) rfl).front (n := 1) rfl).front (n := 2) rfl).front (n := 3) rfl).front (n := 4) rfl))) ?_
  have hn35 := Qbb (R := (Int × (List Qbf))) (body := F1) (k := k5) (s := (s6, d7)) (s' := ((Qfe ((gt d7 k5).Rows) (IntKind.i64.wrap ((IntKind.i64.wrap ((IntKind.i64.wrap (((Qu ((gt d7 k5).Todo) (IntKind.i64.wrap (((Qu ((gt d7 k5).Query.Out) ((Qau ((gt d7 k5).Query.Conds) (IntKind.i64.wrap ((IntKind.i64.wrap (s6 + 1)) + 1))).1)).1) + 1))).1) + 1)) + 1)) + 1))).1, (d7.set k5 (⟨(⟨s6, (IntKind.i64.wrap (s6 + 1)), (Qau ((gt d7 k5).Query.Conds) (IntKind.i64.wrap ((IntKind.i64.wrap (s6 + 1)) + 1))).2, (Qu ((gt d7 k5).Query.Out) ((Qau ((gt d7 k5).Query.Conds) (IntKind.i64.wrap ((IntKind.i64.wrap (s6 + 1)) + 1))).1)).2⟩ : Qcg), (Qu ((gt d7 k5).Query.Out) ((Qau ((gt d7 k5).Query.Conds) (IntKind.i64.wrap ((IntKind.i64.wrap (s6 + 1)) + 1))).1)).1, (Qu ((gt d7 k5).Todo) (IntKind.i64.wrap (((Qu ((gt d7 k5).Query.Out) ((Qau ((gt d7 k5).Query.Conds) (IntKind.i64.wrap ((IntKind.i64.wrap (s6 + 1)) + 1))).1)).1) + 1))).2, (Qu ((gt d7 k5).Todo) (IntKind.i64.wrap (((Qu ((gt d7 k5).Query.Out) ((Qau ((gt d7 k5).Query.Conds) (IntKind.i64.wrap ((IntKind.i64.wrap (s6 + 1)) + 1))).1)).1) + 1))).1, (IntKind.i64.wrap (((Qu ((gt d7 k5).Todo) (IntKind.i64.wrap (((Qu ((gt d7 k5).Query.Out) ((Qau ((gt d7 k5).Query.Conds) (IntKind.i64.wrap ((IntKind.i64.wrap (s6 + 1)) + 1))).1)).1) + 1))).1) + 1)), (IntKind.i64.wrap ((IntKind.i64.wrap (((Qu ((gt d7 k5).Todo) (IntKind.i64.wrap (((Qu ((gt d7 k5).Query.Out) ((Qau ((gt d7 k5).Query.Conds) (IntKind.i64.wrap ((IntKind.i64.wrap (s6 + 1)) + 1))).1)).1) + 1))).1) + 1)) + 1)), (Qfe ((gt d7 k5).Rows) (IntKind.i64.wrap ((IntKind.i64.wrap ((IntKind.i64.wrap (((Qu ((gt d7 k5).Todo) (IntKind.i64.wrap (((Qu ((gt d7 k5).Query.Out) ((Qau ((gt d7 k5).Query.Conds) (IntKind.i64.wrap ((IntKind.i64.wrap (s6 + 1)) + 1))).1)).1) + 1))).1) + 1)) + 1)) + 1))).2⟩ : Qbf)))) (show k5 < x0.length from by omega) (rfl) hF9
  exact Qaz (k5 + 1, ((Qfe ((gt d7 k5).Rows) (IntKind.i64.wrap ((IntKind.i64.wrap ((IntKind.i64.wrap (((Qu ((gt d7 k5).Todo) (IntKind.i64.wrap (((Qu ((gt d7 k5).Query.Out) ((Qau ((gt d7 k5).Query.Conds) (IntKind.i64.wrap ((IntKind.i64.wrap (s6 + 1)) + 1))).1)).1) + 1))).1) + 1)) + 1)) + 1))).1, (d7.set k5 (⟨(⟨s6, (IntKind.i64.wrap (s6 + 1)), (Qau ((gt d7 k5).Query.Conds) (IntKind.i64.wrap ((IntKind.i64.wrap (s6 + 1)) + 1))).2, (Qu ((gt d7 k5).Query.Out) ((Qau ((gt d7 k5).Query.Conds) (IntKind.i64.wrap ((IntKind.i64.wrap (s6 + 1)) + 1))).1)).2⟩ : Qcg), (Qu ((gt d7 k5).Query.Out) ((Qau ((gt d7 k5).Query.Conds) (IntKind.i64.wrap ((IntKind.i64.wrap (s6 + 1)) + 1))).1)).1, (Qu ((gt d7 k5).Todo) (IntKind.i64.wrap (((Qu ((gt d7 k5).Query.Out) ((Qau ((gt d7 k5).Query.Conds) (IntKind.i64.wrap ((IntKind.i64.wrap (s6 + 1)) + 1))).1)).1) + 1))).2, (Qu ((gt d7 k5).Todo) (IntKind.i64.wrap (((Qu ((gt d7 k5).Query.Out) ((Qau ((gt d7 k5).Query.Conds) (IntKind.i64.wrap ((IntKind.i64.wrap (s6 + 1)) + 1))).1)).1) + 1))).1, (IntKind.i64.wrap (((Qu ((gt d7 k5).Todo) (IntKind.i64.wrap (((Qu ((gt d7 k5).Query.Out) ((Qau ((gt d7 k5).Query.Conds) (IntKind.i64.wrap ((IntKind.i64.wrap (s6 + 1)) + 1))).1)).1) + 1))).1) + 1)), (IntKind.i64.wrap ((IntKind.i64.wrap (((Qu ((gt d7 k5).Todo) (IntKind.i64.wrap (((Qu ((gt d7 k5).Query.Out) ((Qau ((gt d7 k5).Query.Conds) (IntKind.i64.wrap ((IntKind.i64.wrap (s6 + 1)) + 1))).1)).1) + 1))).1) + 1)) + 1)), (Qfe ((gt d7 k5).Rows) (IntKind.i64.wrap ((IntKind.i64.wrap ((IntKind.i64.wrap (((Qu ((gt d7 k5).Todo) (IntKind.i64.wrap (((Qu ((gt d7 k5).Query.Out) ((Qau ((gt d7 k5).Query.Conds) (IntKind.i64.wrap ((IntKind.i64.wrap (s6 + 1)) + 1))).1)).1) + 1))).1) + 1)) + 1)) + 1))).2⟩ : Qbf))), ()) sl3 (fun W hm => hm) ⟨(by omega), hn35⟩ (rl (by omega))
 have g12 := dlF hl11
 refine Qp rfl g12 ?_
 refine Qbk (Qac (Qac ?_))
 have hE36 : R2 (x0.length - 0) 0 (x1, x0) = Sum.inr (s6, d7) := Qbn hl11 hF9
 refine Qbm (Qi (sr (wm (wa (nt' (Qj ?_))))))
 have he37 := (show Qfk x0 x1 = (s6, d7) from Qat hE36 (rfl))
 refine Qir rfl rfl (fun W hm => ⟨?_, ?_⟩)
 ·rw [he37]
 rw [he37]; exact hm

def Qvj (k5 : Nat) (s6 : Int) (d7 : (List Qbg)) : (Int × (List Qbg)) ⊕ (Int × (List Qbg)) :=
 Sum.inr ((Qfe ((gt d7 k5).Rows) (IntKind.i64.wrap ((IntKind.i64.wrap (((Qu ((gt d7 k5).Query.Out) ((Qau ((gt d7 k5).Query.Conds) (IntKind.i64.wrap ((IntKind.i64.wrap (s6 + 1)) + 1))).1)).1) + 1)) + 1))).1, (d7.set k5 (⟨(⟨s6, (IntKind.i64.wrap (s6 + 1)), (Qau ((gt d7 k5).Query.Conds) (IntKind.i64.wrap ((IntKind.i64.wrap (s6 + 1)) + 1))).2, (Qu ((gt d7 k5).Query.Out) ((Qau ((gt d7 k5).Query.Conds) (IntKind.i64.wrap ((IntKind.i64.wrap (s6 + 1)) + 1))).1)).2⟩ : Qcg), (Qu ((gt d7 k5).Query.Out) ((Qau ((gt d7 k5).Query.Conds) (IntKind.i64.wrap ((IntKind.i64.wrap (s6 + 1)) + 1))).1)).1, (IntKind.i64.wrap (((Qu ((gt d7 k5).Query.Out) ((Qau ((gt d7 k5).Query.Conds) (IntKind.i64.wrap ((IntKind.i64.wrap (s6 + 1)) + 1))).1)).1) + 1)), (Qfe ((gt d7 k5).Rows) (IntKind.i64.wrap ((IntKind.i64.wrap (((Qu ((gt d7 k5).Query.Out) ((Qau ((gt d7 k5).Query.Conds) (IntKind.i64.wrap ((IntKind.i64.wrap (s6 + 1)) + 1))).1)).1) + 1)) + 1))).2⟩ : Qbg)))
def Qgq (x0 : (List Qbg)) (x1 : Int) : (Int × (List Qbg)) :=
 Sum.elim id (fun (s : Int × (List Qbg)) => (s.1, s.2)) (rng (R := (Int × (List Qbg))) (fun k (s : Int × (List Qbg)) => Qvj k s.1 s.2) (x0.length - 0) 0 (x1, x0))
theorem cb94 : Cb Tryz.prog 94 := ⟨f94, _, func94, rfl, by decide⟩
theorem Qand (B : Nat) (w0 : World) (is : List It) (w : World) (z0 : Value) (x0 : (List Qbg)) (x1 : Int) (hm : Mem B w0 (Qd (tSl Qce 37) [z0] x0 :: is) w) :
  Calls Tryz.prog 94 #[z0, .int .i64 x1] w fun e w' => e = .returned (.int .i64 (Qgq x0 x1).1) ∧ Mem B w0 (Qd (tSl Qce 37) [z0] (Qgq x0 x1).2 :: is) w' := by
 refine Qhi (L := [(0, z0), (1, .int .i64 x1)]) (N := 66) func94 rfl rfl (Nat.le_of_ble_eq_true rfl) (Qee rfl (Qee rfl Qgl)) hm ?_
 refine Qel (n := 0) rfl ?_
 rintro A1 c2 rfl m3
 refine sr (wa (nt' (Qf (sr (wa (nt' (Qab ?_)))))))
 let F1 := fun k (s : Int × (List Qbg)) => Qvj k s.1 s.2
 let R2 := rng (R := (Int × (List Qbg))) F1
 refine Qbl (σ := Nat × (Int × (List Qbg)) × (Unit)) (fun s => [(0, .slice A1 x0.length c2), (1, .int .i64 s.2.1.1), (5, .int .i64 ((s.1 : Nat) : Int))]) (fun s => (Qd (tSl Qce 37) [.slice A1 x0.length c2] s.2.1.2 :: is)) (fun s => s.1 ≤ x0.length ∧ R2 (x0.length - s.1) s.1 s.2.1 = R2 (x0.length - 0) 0 (x1, x0)) (fun s => x0.length - s.1) (0, (x1, x0), ()) sl3 (fun W hm => hm) ⟨(by omega), rfl⟩ ?_
 rintro ⟨k5, ⟨s6, d7⟩, ⟨⟩⟩ H10
 obtain ⟨hk8, hF9⟩ : k5 ≤ x0.length ∧ R2 (x0.length - k5) k5 (s6, d7) = R2 (x0.length - 0) 0 (x1, x0) := H10
 show CM Tryz.prog 66 _ _ _ _ [(0, .slice A1 x0.length c2), (1, .int .i64 s6), (5, .int .i64 ((k5 : Nat) : Int))] (Qd (tSl Qce 37) [.slice A1 x0.length c2] d7 :: is)
 refine Qf (sr (wm (wm ?_)))
 refine wv (Qai Qdn) ?_
 refine wv Qak ?_
 refine nt' ?_
 by_cases hl11 : k5 < x0.length
 ·have g12 := dlT hl11
  refine Ql rfl g12 ?_
  refine Qq (Qi (Qf (Qab (sr (wm (wm (wm ?_)))))))
  refine Qfj (n := 0) rfl (by omega) ?_
  rintro g13 rfl
  refine wv (vix 7 k5 Qdn Qdl) ?_
  refine wv (vf Qdh rfl Qcl) ?_
  refine wv (fun W hm => Qdy (o := 0) Qch rfl Qh (by decide) rfl rfl) ?_
  refine Qgk (E := Qce) (e := 37) (A := (some ⟨g13, 0, none⟩)) (n := x0.length) (c := c2) (xs := d7) (k := k5) (js := (is)) (by omega) (fun W hm => (hm.front (n := 0) rfl)) (fun ck14 => ?_)
  refine Qxb ?_
  rintro ⟨v15, v16, v17⟩ rfl
  refine Qs (n := 0) rfl ?_
  rintro A18 c19 rfl m20
  refine Qs (n := 1) rfl ?_
  rintro A22 c23 rfl m24
  refine Qs (n := 2) rfl ?_
  rintro A26 c27 rfl m28
  let I5 : It := Qd (tSl Qbz 201) [.slice A18 ((gt d7 k5).Query.Conds).length c19] ((gt d7 k5).Query.Conds)
  let I6 : It := Qd (tSl Qg 3) [.slice A22 ((gt d7 k5).Query.Out).length c23] ((gt d7 k5).Query.Out)
  let I7 : It := Qd (tSl Qbp 73) [.slice A26 ((gt d7 k5).Rows).length c27] ((gt d7 k5).Rows)
  refine sf 0 7 [.int .i64 s6, .int .i64 ((gt d7 k5).Query.Tenant), .slice A18 ((gt d7 k5).Query.Conds).length c19, .slice A22 ((gt d7 k5).Query.Out).length c23, .int .i64 ((gt d7 k5).Time), .int .i64 ((gt d7 k5).Steps), .slice A26 ((gt d7 k5).Rows).length c27] (I5 :: I6 :: I7 :: is) (fun W hm => (hm.front (n := 3) rfl)) Qh ?_
  refine nt' (sr (wm ?_))
  refine wv Qdq ?_
  refine wa (nt' (sr (wm (wm (wm ?_)))))
  refine wv (vix 7 k5 Qdn Qdl) ?_
  refine wv (vf Qdh rfl Qcl) ?_
  refine wv (fun W hm => Qdy (o := 1) Qch rfl Qh (by decide) rfl rfl) ?_
  let K3 : List Value := [.int .i64 s6, .int .i64 (IntKind.i64.wrap (s6 + 1)), .slice A18 ((gt d7 k5).Query.Conds).length c19, .slice A22 ((gt d7 k5).Query.Out).length c23, .int .i64 ((gt d7 k5).Time), .int .i64 ((gt d7 k5).Steps), .slice A26 ((gt d7 k5).Rows).length c27]
  refine sf 1 7 K3 (I5 :: I6 :: I7 :: is) (fun W hm => (hm.front (n := 0) rfl)) Qh ?_
  refine nt' (sr (wm ?_))
  refine wv Qdq ?_
  refine wa (nt' (sr (wm (wm ?_))))
  refine wv (vix 7 k5 Qdn Qdl) ?_
  refine wv (vf Qdh rfl Qcl) ?_
  refine wv (fun W hm => Qdy (o := 2) Qch rfl type32 (by decide) rfl rfl) ?_
  refine wv (fun W hm => Qaw Qds rfl rfl (hm.focCells (i := 0) rfl rfl 2 _ rfl)) ?_
  refine wm ?_
  refine cw (Qr Qyl rfl) (fun W hm => Qaap B w0 (Qao Qce 37 (some ⟨g13, 0, none⟩) x0.length c2 d7 k5 K3 :: I6 :: I7 :: is) W (.slice A18 ((gt d7 k5).Query.Conds).length c19) ((gt d7 k5).Query.Conds) (IntKind.i64.wrap ((IntKind.i64.wrap (s6 + 1)) + 1)) (hm.front (n := 1) rfl)) ?_
  refine wa (nt' (sr (wm (wm ?_))))
  refine wv (vix 7 k5 Qdn Qdl) ?_
  refine wv (vf Qdh rfl Qcl) ?_
  refine wv (fun W hm => Qdy (o := 3) Qch rfl Qap (by decide) rfl rfl) ?_
  refine wv (fun W hm => Qaw Qv rfl rfl (hm.focCells (i := 1) rfl rfl 3 _ rfl)) ?_
  refine wm ?_
  let I8 : It := Qd (tSl Qbz 201) [.slice A18 ((gt d7 k5).Query.Conds).length c19] ((Qau ((gt d7 k5).Query.Conds) (IntKind.i64.wrap ((IntKind.i64.wrap (s6 + 1)) + 1))).2)
  refine cw (Qr Qjw rfl) (fun W hm => Qjz B w0 (I8 :: Qao Qce 37 (some ⟨g13, 0, none⟩) x0.length c2 d7 k5 K3 :: I7 :: is) W (.slice A22 ((gt d7 k5).Query.Out).length c23) ((gt d7 k5).Query.Out) ((Qau ((gt d7 k5).Query.Conds) (IntKind.i64.wrap ((IntKind.i64.wrap (s6 + 1)) + 1))).1) (hm.front (n := 2) rfl)) ?_
  refine wa (nt' (sr (wm (wm (wm ?_)))))
  refine wv (vix 7 k5 Qdn Qdl) ?_
  refine wv (vf Qdh rfl Qh) ?_
  let I9 : It := Qd (tSl Qg 3) [.slice A22 ((gt d7 k5).Query.Out).length c23] ((Qu ((gt d7 k5).Query.Out) ((Qau ((gt d7 k5).Query.Conds) (IntKind.i64.wrap ((IntKind.i64.wrap (s6 + 1)) + 1))).1)).2)
  refine sf 4 7 [.int .i64 s6, .int .i64 (IntKind.i64.wrap (s6 + 1)), .slice A18 ((gt d7 k5).Query.Conds).length c19, .slice A22 ((gt d7 k5).Query.Out).length c23, .int .i64 ((Qu ((gt d7 k5).Query.Out) ((Qau ((gt d7 k5).Query.Conds) (IntKind.i64.wrap ((IntKind.i64.wrap (s6 + 1)) + 1))).1)).1), .int .i64 ((gt d7 k5).Steps), .slice A26 ((gt d7 k5).Rows).length c27] (I9 :: I8 :: I7 :: is) (fun W hm => (hm.front (n := 2) rfl)) Qh ?_
  refine nt' (sr (wm ?_))
  refine wv Qdq ?_
  refine wa (nt' (sr (wm (wm (wm ?_)))))
  refine wv (vix 7 k5 Qdn Qdl) ?_
  refine wv (vf Qdh rfl Qh) ?_
  let K4 : List Value := [.int .i64 s6, .int .i64 (IntKind.i64.wrap (s6 + 1)), .slice A18 ((gt d7 k5).Query.Conds).length c19, .slice A22 ((gt d7 k5).Query.Out).length c23, .int .i64 ((Qu ((gt d7 k5).Query.Out) ((Qau ((gt d7 k5).Query.Conds) (IntKind.i64.wrap ((IntKind.i64.wrap (s6 + 1)) + 1))).1)).1), .int .i64 (IntKind.i64.wrap (((Qu ((gt d7 k5).Query.Out) ((Qau ((gt d7 k5).Query.Conds) (IntKind.i64.wrap ((IntKind.i64.wrap (s6 + 1)) + 1))).1)).1) + 1)), .slice A26 ((gt d7 k5).Rows).length c27]
  refine sf 5 7 K4 (I9 :: I8 :: I7 :: is) (fun W hm => (hm.front (n := 0) rfl)) Qh ?_
  refine nt' (sr (wm ?_))
  refine wv Qdq ?_
  refine wa (nt' (Qad (wm (wm ?_))))
  refine wv (vix 7 k5 Qdn Qdl) ?_
  refine wv (vf Qdh rfl Qfa) ?_
  refine wv (fun W hm => Qaw Qdv rfl rfl (hm.focCells (i := 0) rfl rfl 6 _ rfl)) ?_
  refine wm ?_
  refine cw (Qr Qzd rfl) (fun W hm => Qaat B w0 (Qao Qce 37 (some ⟨g13, 0, none⟩) x0.length c2 d7 k5 K4 :: I9 :: I8 :: is) W (.slice A26 ((gt d7 k5).Rows).length c27) ((gt d7 k5).Rows) (IntKind.i64.wrap ((IntKind.i64.wrap (((Qu ((gt d7 k5).Query.Out) ((Qau ((gt d7 k5).Query.Conds) (IntKind.i64.wrap ((IntKind.i64.wrap (s6 + 1)) + 1))).1)).1) + 1)) + 1)) (hm.front (n := 3) rfl)) ?_
  refine wa (Qal (Qax (Qi (Qad (wm ?_)))))
  refine wv (Qbd k5 1 (by omega)) ?_
  refine wa (Qal ?_)
  refine Qdu (fun W hm => Mem.unfocus (Mem.join (is := [I8, I9, Qd (tSl Qbp 73) [.slice A26 ((gt d7 k5).Rows).length c27] ((Qfe ((gt d7 k5).Rows) (IntKind.i64.wrap ((IntKind.i64.wrap (((Qu ((gt d7 k5).Query.Out) ((Qau ((gt d7 k5).Query.Conds) (IntKind.i64.wrap ((IntKind.i64.wrap (s6 + 1)) + 1))).1)).1) + 1)) + 1))).2)]) (js := (Qao Qce 37 (some ⟨g13, 0, none⟩) x0.length c2 d7 k5 K4 :: (is))) (fun _ _ hs => Qoz (x := (⟨(⟨s6, (IntKind.i64.wrap (s6 + 1)), (Qau ((gt d7 k5).Query.Conds) (IntKind.i64.wrap ((IntKind.i64.wrap (s6 + 1)) + 1))).2, (Qu ((gt d7 k5).Query.Out) ((Qau ((gt d7 k5).Query.Conds) (IntKind.i64.wrap ((IntKind.i64.wrap (s6 + 1)) + 1))).1)).2⟩ : Qcg), (Qu ((gt d7 k5).Query.Out) ((Qau ((gt d7 k5).Query.Conds) (IntKind.i64.wrap ((IntKind.i64.wrap (s6 + 1)) + 1))).1)).1, (IntKind.i64.wrap (((Qu ((gt d7 k5).Query.Out) ((Qau ((gt d7 k5).Query.Conds) (IntKind.i64.wrap ((IntKind.i64.wrap (s6 + 1)) + 1))).1)).1) + 1)), (Qfe ((gt d7 k5).Rows) (IntKind.i64.wrap ((IntKind.i64.wrap (((Qu ((gt d7 k5).Query.Out) ((Qau ((gt d7 k5).Query.Conds) (IntKind.i64.wrap ((IntKind.i64.wrap (s6 + 1)) + 1))).1)).1) + 1)) + 1))).2⟩ : Qbg)) hs) ((((hm.front (n := 1) rfl).front (n := 1) rfl).front (n := 2) rfl).front (n := 3) rfl))) ?_
  have hn30 := Qbb (R := (Int × (List Qbg))) (body := F1) (k := k5) (s := (s6, d7)) (s' := ((Qfe ((gt d7 k5).Rows) (IntKind.i64.wrap ((IntKind.i64.wrap (((Qu ((gt d7 k5).Query.Out) ((Qau ((gt d7 k5).Query.Conds) (IntKind.i64.wrap ((IntKind.i64.wrap (s6 + 1)) + 1))).1)).1) + 1)) + 1))).1, (d7.set k5 (⟨(⟨s6, (IntKind.i64.wrap (s6 + 1)), (Qau ((gt d7 k5).Query.Conds) (IntKind.i64.wrap ((IntKind.i64.wrap (s6 + 1)) + 1))).2, (Qu ((gt d7 k5).Query.Out) ((Qau ((gt d7 k5).Query.Conds) (IntKind.i64.wrap ((IntKind.i64.wrap (s6 + 1)) + 1))).1)).2⟩ : Qcg), (Qu ((gt d7 k5).Query.Out) ((Qau ((gt d7 k5).Query.Conds) (IntKind.i64.wrap ((IntKind.i64.wrap (s6 + 1)) + 1))).1)).1, (IntKind.i64.wrap (((Qu ((gt d7 k5).Query.Out) ((Qau ((gt d7 k5).Query.Conds) (IntKind.i64.wrap ((IntKind.i64.wrap (s6 + 1)) + 1))).1)).1) + 1)), (Qfe ((gt d7 k5).Rows) (IntKind.i64.wrap ((IntKind.i64.wrap (((Qu ((gt d7 k5).Query.Out) ((Qau ((gt d7 k5).Query.Conds) (IntKind.i64.wrap ((IntKind.i64.wrap (s6 + 1)) + 1))).1)).1) + 1)) + 1))).2⟩ : Qbg)))) (show k5 < x0.length from by omega) (rfl) hF9
  exact Qaz (k5 + 1, ((Qfe ((gt d7 k5).Rows) (IntKind.i64.wrap ((IntKind.i64.wrap (((Qu ((gt d7 k5).Query.Out) ((Qau ((gt d7 k5).Query.Conds) (IntKind.i64.wrap ((IntKind.i64.wrap (s6 + 1)) + 1))).1)).1) + 1)) + 1))).1, (d7.set k5 (⟨(⟨s6, (IntKind.i64.wrap (s6 + 1)), (Qau ((gt d7 k5).Query.Conds) (IntKind.i64.wrap ((IntKind.i64.wrap (s6 + 1)) + 1))).2, (Qu ((gt d7 k5).Query.Out) ((Qau ((gt d7 k5).Query.Conds) (IntKind.i64.wrap ((IntKind.i64.wrap (s6 + 1)) + 1))).1)).2⟩ : Qcg), (Qu ((gt d7 k5).Query.Out) ((Qau ((gt d7 k5).Query.Conds) (IntKind.i64.wrap ((IntKind.i64.wrap (s6 + 1)) + 1))).1)).1, (IntKind.i64.wrap (((Qu ((gt d7 k5).Query.Out) ((Qau ((gt d7 k5).Query.Conds) (IntKind.i64.wrap ((IntKind.i64.wrap (s6 + 1)) + 1))).1)).1) + 1)), (Qfe ((gt d7 k5).Rows) (IntKind.i64.wrap ((IntKind.i64.wrap (((Qu ((gt d7 k5).Query.Out) ((Qau ((gt d7 k5).Query.Conds) (IntKind.i64.wrap ((IntKind.i64.wrap (s6 + 1)) + 1))).1)).1) + 1)) + 1))).2⟩ : Qbg))), ()) sl3 (fun W hm => hm) ⟨(by omega), hn30⟩ (rl (by omega))
 have g12 := dlF hl11
 refine Qp rfl g12 ?_
 refine Qbk (Qac (Qac ?_))
 have hE31 : R2 (x0.length - 0) 0 (x1, x0) = Sum.inr (s6, d7) := Qbn hl11 hF9
 refine Qbm (Qi (sr (wm (wa (nt' (Qj ?_))))))
 have he32 := (show Qgq x0 x1 = (s6, d7) from Qat hE31 (rfl))
 refine Qir rfl rfl (fun W hm => ⟨?_, ?_⟩)
 ·rw [he32]
 rw [he32]; exact hm

def Qvh (k5 : Nat) (s6 : Int) (d7 : (List Qay)) : (Int × (List Qay)) ⊕ (Int × (List Qay)) :=
 Sum.inr ((Qu ((gt d7 k5).Rows) ((Qu ((gt d7 k5).Tenants) ((Qu ((gt d7 k5).Ids) (IntKind.i64.wrap ((IntKind.i64.wrap (s6 + 1)) + 1))).1)).1)).1, (d7.set k5 (⟨s6, (IntKind.i64.wrap (s6 + 1)), (Qu ((gt d7 k5).Ids) (IntKind.i64.wrap ((IntKind.i64.wrap (s6 + 1)) + 1))).2, (Qu ((gt d7 k5).Tenants) ((Qu ((gt d7 k5).Ids) (IntKind.i64.wrap ((IntKind.i64.wrap (s6 + 1)) + 1))).1)).2, (Qu ((gt d7 k5).Rows) ((Qu ((gt d7 k5).Tenants) ((Qu ((gt d7 k5).Ids) (IntKind.i64.wrap ((IntKind.i64.wrap (s6 + 1)) + 1))).1)).1)).2⟩ : Qay)))
def Qjf (x0 : (List Qay)) (x1 : Int) : (Int × (List Qay)) :=
 Sum.elim id (fun (s : Int × (List Qay)) => (s.1, s.2)) (rng (R := (Int × (List Qay))) (fun k (s : Int × (List Qay)) => Qvh k s.1 s.2) (x0.length - 0) 0 (x1, x0))
theorem cb95 : Cb Tryz.prog 95 := ⟨f95, _, func95, rfl, by decide⟩
theorem Qamz (B : Nat) (w0 : World) (is : List It) (w : World) (z0 : Value) (x0 : (List Qay)) (x1 : Int) (hm : Mem B w0 (Qd (tSl Qbx 133) [z0] x0 :: is) w) :
  Calls Tryz.prog 95 #[z0, .int .i64 x1] w fun e w' => e = .returned (.int .i64 (Qjf x0 x1).1) ∧ Mem B w0 (Qd (tSl Qbx 133) [z0] (Qjf x0 x1).2 :: is) w' := by
 refine Qhi (L := [(0, z0), (1, .int .i64 x1)]) (N := 48) func95 rfl rfl (Nat.le_of_ble_eq_true rfl) (Qee rfl (Qee rfl Qgl)) hm ?_
 refine Qel (n := 0) rfl ?_
 rintro A1 c2 rfl m3
 refine sr (wa (nt' (Qf (sr (wa (nt' (Qab ?_)))))))
 let F1 := fun k (s : Int × (List Qay)) => Qvh k s.1 s.2
 let R2 := rng (R := (Int × (List Qay))) F1
 refine Qbl (σ := Nat × (Int × (List Qay)) × (Unit)) (fun s => [(0, .slice A1 x0.length c2), (1, .int .i64 s.2.1.1), (5, .int .i64 ((s.1 : Nat) : Int))]) (fun s => (Qd (tSl Qbx 133) [.slice A1 x0.length c2] s.2.1.2 :: is)) (fun s => s.1 ≤ x0.length ∧ R2 (x0.length - s.1) s.1 s.2.1 = R2 (x0.length - 0) 0 (x1, x0)) (fun s => x0.length - s.1) (0, (x1, x0), ()) sl3 (fun W hm => hm) ⟨(by omega), rfl⟩ ?_
 rintro ⟨k5, ⟨s6, d7⟩, ⟨⟩⟩ H10
 obtain ⟨hk8, hF9⟩ : k5 ≤ x0.length ∧ R2 (x0.length - k5) k5 (s6, d7) = R2 (x0.length - 0) 0 (x1, x0) := H10
 show CM Tryz.prog 48 _ _ _ _ [(0, .slice A1 x0.length c2), (1, .int .i64 s6), (5, .int .i64 ((k5 : Nat) : Int))] (Qd (tSl Qbx 133) [.slice A1 x0.length c2] d7 :: is)
 refine Qf (sr (wm (wm ?_)))
 refine wv (Qai Qdt) ?_
 refine wv Qak ?_
 refine nt' ?_
 by_cases hl11 : k5 < x0.length
 ·have g12 := dlT hl11
  refine Ql rfl g12 ?_
  refine Qq (Qi (Qf (Qab (sr (wm (wm (wm ?_)))))))
  refine Qfj (n := 0) rfl (by omega) ?_
  rintro g13 rfl
  refine wv (vix 5 k5 Qdt Qdr) ?_
  refine wv (vf Qcm rfl Qh) ?_
  refine Qgk (E := Qbx) (e := 133) (A := (some ⟨g13, 0, none⟩)) (n := x0.length) (c := c2) (xs := d7) (k := k5) (js := (is)) (by omega) (fun W hm => (hm.front (n := 0) rfl)) (fun ck14 => ?_)
  refine Qsq ?_
  rintro ⟨v15, v16, v17⟩ rfl
  refine Qs (n := 0) rfl ?_
  rintro A18 c19 rfl m20
  refine Qs (n := 1) rfl ?_
  rintro A22 c23 rfl m24
  refine Qs (n := 2) rfl ?_
  rintro A26 c27 rfl m28
  let I4 : It := Qd (tSl Qg 3) [.slice A18 ((gt d7 k5).Ids).length c19] ((gt d7 k5).Ids)
  let I5 : It := Qd (tSl Qg 3) [.slice A22 ((gt d7 k5).Tenants).length c23] ((gt d7 k5).Tenants)
  let I6 : It := Qd (tSl Qg 3) [.slice A26 ((gt d7 k5).Rows).length c27] ((gt d7 k5).Rows)
  refine sf 0 5 [.int .i64 s6, .int .i64 ((gt d7 k5).Base), .slice A18 ((gt d7 k5).Ids).length c19, .slice A22 ((gt d7 k5).Tenants).length c23, .slice A26 ((gt d7 k5).Rows).length c27] (I4 :: I5 :: I6 :: is) (fun W hm => (hm.front (n := 3) rfl)) Qh ?_
  refine nt' (sr (wm ?_))
  refine wv Qdq ?_
  refine wa (nt' (sr (wm (wm (wm ?_)))))
  refine wv (vix 5 k5 Qdt Qdr) ?_
  refine wv (vf Qcm rfl Qh) ?_
  let K3 : List Value := [.int .i64 s6, .int .i64 (IntKind.i64.wrap (s6 + 1)), .slice A18 ((gt d7 k5).Ids).length c19, .slice A22 ((gt d7 k5).Tenants).length c23, .slice A26 ((gt d7 k5).Rows).length c27]
  refine sf 1 5 K3 (I4 :: I5 :: I6 :: is) (fun W hm => (hm.front (n := 0) rfl)) Qh ?_
  refine nt' (sr (wm ?_))
  refine wv Qdq ?_
  refine wa (nt' (sr (wm (wm ?_))))
  refine wv (vix 5 k5 Qdt Qdr) ?_
  refine wv (vf Qcm rfl Qap) ?_
  refine wv (fun W hm => Qaw Qv rfl rfl (hm.focCells (i := 0) rfl rfl 2 _ rfl)) ?_
  refine wm ?_
  refine cw (Qr Qjw rfl) (fun W hm => Qjz B w0 (Qao Qbx 133 (some ⟨g13, 0, none⟩) x0.length c2 d7 k5 K3 :: I5 :: I6 :: is) W (.slice A18 ((gt d7 k5).Ids).length c19) ((gt d7 k5).Ids) (IntKind.i64.wrap ((IntKind.i64.wrap (s6 + 1)) + 1)) (hm.front (n := 1) rfl)) ?_
  refine wa (nt' (sr (wm (wm ?_))))
  refine wv (vix 5 k5 Qdt Qdr) ?_
  refine wv (vf Qcm rfl Qap) ?_
  refine wv (fun W hm => Qaw Qv rfl rfl (hm.focCells (i := 1) rfl rfl 3 _ rfl)) ?_
  refine wm ?_
  let I7 : It := Qd (tSl Qg 3) [.slice A18 ((gt d7 k5).Ids).length c19] ((Qu ((gt d7 k5).Ids) (IntKind.i64.wrap ((IntKind.i64.wrap (s6 + 1)) + 1))).2)
  refine cw (Qr Qjw rfl) (fun W hm => Qjz B w0 (I7 :: Qao Qbx 133 (some ⟨g13, 0, none⟩) x0.length c2 d7 k5 K3 :: I6 :: is) W (.slice A22 ((gt d7 k5).Tenants).length c23) ((gt d7 k5).Tenants) ((Qu ((gt d7 k5).Ids) (IntKind.i64.wrap ((IntKind.i64.wrap (s6 + 1)) + 1))).1) (hm.front (n := 2) rfl)) ?_
  refine wa (nt' (Qad (wm (wm ?_))))
  refine wv (vix 5 k5 Qdt Qdr) ?_
  refine wv (vf Qcm rfl Qap) ?_
  refine wv (fun W hm => Qaw Qv rfl rfl (hm.focCells (i := 2) rfl rfl 4 _ rfl)) ?_
  refine wm ?_
  let I8 : It := Qd (tSl Qg 3) [.slice A22 ((gt d7 k5).Tenants).length c23] ((Qu ((gt d7 k5).Tenants) ((Qu ((gt d7 k5).Ids) (IntKind.i64.wrap ((IntKind.i64.wrap (s6 + 1)) + 1))).1)).2)
  refine cw (Qr Qjw rfl) (fun W hm => Qjz B w0 (I8 :: I7 :: Qao Qbx 133 (some ⟨g13, 0, none⟩) x0.length c2 d7 k5 K3 :: is) W (.slice A26 ((gt d7 k5).Rows).length c27) ((gt d7 k5).Rows) ((Qu ((gt d7 k5).Tenants) ((Qu ((gt d7 k5).Ids) (IntKind.i64.wrap ((IntKind.i64.wrap (s6 + 1)) + 1))).1)).1) (hm.front (n := 3) rfl)) ?_
  refine wa (Qal (Qax (Qi (Qad (wm ?_)))))
  refine wv (Qbd k5 1 (by omega)) ?_
  refine wa (Qal ?_)
  refine Qdu (fun W hm => Mem.unfocus (Mem.join (is := [I7, I8, Qd (tSl Qg 3) [.slice A26 ((gt d7 k5).Rows).length c27] ((Qu ((gt d7 k5).Rows) ((Qu ((gt d7 k5).Tenants) ((Qu ((gt d7 k5).Ids) (IntKind.i64.wrap ((IntKind.i64.wrap (s6 + 1)) + 1))).1)).1)).2)]) (js := (Qao Qbx 133 (some ⟨g13, 0, none⟩) x0.length c2 d7 k5 K3 :: (is))) (fun _ _ hs => Qnp (x := (⟨s6, (IntKind.i64.wrap (s6 + 1)), (Qu ((gt d7 k5).Ids) (IntKind.i64.wrap ((IntKind.i64.wrap (s6 + 1)) + 1))).2, (Qu ((gt d7 k5).Tenants) ((Qu ((gt d7 k5).Ids) (IntKind.i64.wrap ((IntKind.i64.wrap (s6 + 1)) + 1))).1)).2, (Qu ((gt d7 k5).Rows) ((Qu ((gt d7 k5).Tenants) ((Qu ((gt d7 k5).Ids) (IntKind.i64.wrap ((IntKind.i64.wrap (s6 + 1)) + 1))).1)).1)).2⟩ : Qay)) hs) ((((hm.front (n := 3) rfl).front (n := 1) rfl).front (n := 2) rfl).front (n := 3) rfl))) ?_
  have hn30 := Qbb (R := (Int × (List Qay))) (body := F1) (k := k5) (s := (s6, d7)) (s' := ((Qu ((gt d7 k5).Rows) ((Qu ((gt d7 k5).Tenants) ((Qu ((gt d7 k5).Ids) (IntKind.i64.wrap ((IntKind.i64.wrap (s6 + 1)) + 1))).1)).1)).1, (d7.set k5 (⟨s6, (IntKind.i64.wrap (s6 + 1)), (Qu ((gt d7 k5).Ids) (IntKind.i64.wrap ((IntKind.i64.wrap (s6 + 1)) + 1))).2, (Qu ((gt d7 k5).Tenants) ((Qu ((gt d7 k5).Ids) (IntKind.i64.wrap ((IntKind.i64.wrap (s6 + 1)) + 1))).1)).2, (Qu ((gt d7 k5).Rows) ((Qu ((gt d7 k5).Tenants) ((Qu ((gt d7 k5).Ids) (IntKind.i64.wrap ((IntKind.i64.wrap (s6 + 1)) + 1))).1)).1)).2⟩ : Qay)))) (show k5 < x0.length from by omega) (rfl) hF9
  exact Qaz (k5 + 1, ((Qu ((gt d7 k5).Rows) ((Qu ((gt d7 k5).Tenants) ((Qu ((gt d7 k5).Ids) (IntKind.i64.wrap ((IntKind.i64.wrap (s6 + 1)) + 1))).1)).1)).1, (d7.set k5 (⟨s6, (IntKind.i64.wrap (s6 + 1)), (Qu ((gt d7 k5).Ids) (IntKind.i64.wrap ((IntKind.i64.wrap (s6 + 1)) + 1))).2, (Qu ((gt d7 k5).Tenants) ((Qu ((gt d7 k5).Ids) (IntKind.i64.wrap ((IntKind.i64.wrap (s6 + 1)) + 1))).1)).2, (Qu ((gt d7 k5).Rows) ((Qu ((gt d7 k5).Tenants) ((Qu ((gt d7 k5).Ids) (IntKind.i64.wrap ((IntKind.i64.wrap (s6 + 1)) + 1))).1)).1)).2⟩ : Qay))), ()) sl3 (fun W hm => hm) ⟨(by omega), hn30⟩ (rl (by omega))
 have g12 := dlF hl11
 refine Qp rfl g12 ?_
 refine Qbk (Qac (Qac ?_))
 have hE31 : R2 (x0.length - 0) 0 (x1, x0) = Sum.inr (s6, d7) := Qbn hl11 hF9
 refine Qbm (Qi (sr (wm (wa (nt' (Qj ?_))))))
 have he32 := (show Qjf x0 x1 = (s6, d7) from Qat hE31 (rfl))
 refine Qir rfl rfl (fun W hm => ⟨?_, ?_⟩)
 ·rw [he32]
 rw [he32]; exact hm

def Qcb (x0 : Qag) (x1 : Int) : (Int × Qag) :=
 ((Qjf x0.Ledger ((Qgq x0.Done ((Qfk x0.Active ((Qu x0.Order ((Qdz x0.Store x1).1)).1)).1)).1)).1, (⟨(⟨(Qdz x0.Store x1).2.Segments, x0.Store.Now⟩ : Qx), x0.Cursor, (Qu x0.Order ((Qdz x0.Store x1).1)).2, (Qfk x0.Active ((Qu x0.Order ((Qdz x0.Store x1).1)).1)).2, (Qgq x0.Done ((Qfk x0.Active ((Qu x0.Order ((Qdz x0.Store x1).1)).1)).1)).2, (Qjf x0.Ledger ((Qgq x0.Done ((Qfk x0.Active ((Qu x0.Order ((Qdz x0.Store x1).1)).1)).1)).1)).2, x0.Steps⟩ : Qag))
theorem Qyu : Cb Tryz.prog 20 := ⟨f20, _, func20, rfl, by decide⟩
theorem Qaar (B : Nat) (w0 : World) (is : List It) (w : World) (z0 : List Value) (x0 : Qag) (x1 : Int) (hm : Mem B w0 (Qd Qdd z0 x0 :: is) w) :
  Calls Tryz.prog 20 #[.agg z0.toArray, .int .i64 x1] w fun e w' => e = .returned (.int .i64 (Qcb x0 x1).1) ∧ Mem B w0 (Qd Qdd z0 (Qcb x0 x1).2 :: is) w' := by
 refine Qhi (L := [(0, .agg z0.toArray), (1, .int .i64 x1)]) (N := 26) func20 rfl rfl (Nat.le_of_ble_eq_true rfl) (Qee rfl (Qee rfl Qgl)) hm ?_
 refine Qiq (γ := Value × Value × Value × Value × Value) (js := fun g => [Qd (tSl (tSl Qm 191) 131) [g.1] x0.Store.Segments, Qd (tSl Qg 3) [g.2.1] x0.Order, Qd (tSl Qbw 64) [g.2.2.1] x0.Active, Qd (tSl Qce 37) [g.2.2.2.1] x0.Done, Qd (tSl Qbx 133) [g.2.2.2.2] x0.Ledger]) (C := fun g => z0 = [g.1, .int .i64 x0.Store.Now, .int .i64 x0.Cursor, g.2.1, g.2.2.1, g.2.2.2.1, g.2.2.2.2, .int .i64 x0.Steps]) (fun _ _ h => Qss h) ?_
 rintro ⟨v1, v2, v3, v4, v5⟩ rfl
 refine Qel (n := 0) rfl ?_
 rintro A6 c7 rfl m8
 refine Qel (n := 1) rfl ?_
 rintro A10 c11 rfl m12
 refine Qel (n := 2) rfl ?_
 rintro A14 c15 rfl m16
 refine Qel (n := 3) rfl ?_
 rintro A18 c19 rfl m20
 refine Qel (n := 4) rfl ?_
 rintro A22 c23 rfl m24
 refine sr ?_
 refine Qbj rfl (Qo rfl) (by decide) (fun p26 => ?_)
 refine wa (nt' (sr ?_))
 refine wv (vf Qaq rfl Qae) ?_
 let K1 : List Value := [.slice A6 x0.Store.Segments.length c7, .int .i64 x0.Store.Now]
 refine wv (fun W hm => Qz (cs := K1) Qaf Qae rfl rfl (hm.boxPart (n := 0) rfl rfl)) ?_
 refine wm ?_
 let K2 : List Value := [.slice A6 x0.Store.Segments.length c7, .int .i64 x0.Store.Now, .int .i64 x0.Cursor, .slice A10 x0.Order.length c11, .slice A14 x0.Active.length c15, .slice A18 x0.Done.length c19, .slice A22 x0.Ledger.length c23, .int .i64 x0.Steps]
 let I3 : It := Qd (tSl Qg 3) [.slice A10 x0.Order.length c11] x0.Order
 let I4 : It := Qd (tSl Qbw 64) [.slice A14 x0.Active.length c15] x0.Active
 let I5 : It := Qd (tSl Qce 37) [.slice A18 x0.Done.length c19] x0.Done
 let I6 : It := Qd (tSl Qbx 133) [.slice A22 x0.Ledger.length c23] x0.Ledger
 refine Qli (js := (Qd Qcz K1 x0.Store :: (Qa p26 47 K2 :: I3 :: I4 :: I5 :: I6 :: is))) (fun W hm => Mem.join (is := [Qd (tSl (tSl Qm 191) 131) [.slice A6 x0.Store.Segments.length c7] x0.Store.Segments]) (js := (Qa p26 47 K2 :: I3 :: I4 :: I5 :: I6 :: is)) (fun _ _ hs => Qed (x := x0.Store) hs) (hm.front (n := 1) rfl)) ?_
 refine cw (Qr cb92 rfl) (fun W hm => Qank B w0 (Qa p26 47 K2 :: I3 :: I4 :: I5 :: I6 :: is) W K1 x0.Store x1 hm) ?_
 refine Qgd ?_
 rintro v28 h27
 simp +zetaDelta only [List.cons.injEq] at h27
 obtain ⟨rfl, -, -⟩ := h27
 refine wa (nt' (sr ?_))
 refine wv (vf Qaq rfl Qap) ?_
 refine wv (vl 1 3 Qv) ?_
 refine wm ?_
 let I7 : It := Qd (tSl (tSl Qm 191) 131) [.slice A6 x0.Store.Segments.length c7] ((Qdz x0.Store x1).2.Segments)
 refine cw (Qr Qjw rfl) (fun W hm => Qjz B w0 (I7 :: Qa p26 47 K2 :: I4 :: I5 :: I6 :: is) W (.slice A10 x0.Order.length c11) x0.Order ((Qdz x0.Store x1).1) (hm.front (n := 2) rfl)) ?_
 refine wa (nt' (sr ?_))
 refine wv (vf Qaq rfl Qfn) ?_
 refine wv (vl 2 4 Qcj) ?_
 refine wm ?_
 let I8 : It := Qd (tSl Qg 3) [.slice A10 x0.Order.length c11] ((Qu x0.Order ((Qdz x0.Store x1).1)).2)
 refine cw (Qr cb93 rfl) (fun W hm => Qamw B w0 (I8 :: I7 :: Qa p26 47 K2 :: I5 :: I6 :: is) W (.slice A14 x0.Active.length c15) x0.Active ((Qu x0.Order ((Qdz x0.Store x1).1)).1) (hm.front (n := 3) rfl)) ?_
 refine wa (nt' (sr ?_))
 refine wv (vf Qaq rfl type44) ?_
 refine wv (vl 3 5 Qdn) ?_
 refine wm ?_
 let I9 : It := Qd (tSl Qbw 64) [.slice A14 x0.Active.length c15] ((Qfk x0.Active ((Qu x0.Order ((Qdz x0.Store x1).1)).1)).2)
 refine cw (Qr cb94 rfl) (fun W hm => Qand B w0 (I9 :: I8 :: I7 :: Qa p26 47 K2 :: I6 :: is) W (.slice A18 x0.Done.length c19) x0.Done ((Qfk x0.Active ((Qu x0.Order ((Qdz x0.Store x1).1)).1)).1) (hm.front (n := 4) rfl)) ?_
 refine wa (nt' (sr ?_))
 refine wv (vf Qaq rfl type45) ?_
 refine wv (vl 4 6 Qdt) ?_
 refine wm ?_
 let I10 : It := Qd (tSl Qce 37) [.slice A18 x0.Done.length c19] ((Qgq x0.Done ((Qfk x0.Active ((Qu x0.Order ((Qdz x0.Store x1).1)).1)).1)).2)
 refine cw (Qr cb95 rfl) (fun W hm => Qamz B w0 (I10 :: I9 :: I8 :: I7 :: Qa p26 47 K2 :: is) W (.slice A22 x0.Ledger.length c23) x0.Ledger ((Qgq x0.Done ((Qfk x0.Active ((Qu x0.Order ((Qdz x0.Store x1).1)).1)).1)).1) (hm.front (n := 5) rfl)) ?_
 refine wa (nt' (sr (wm (wa (nt' (Qj ?_))))))
 have he29 := (show Qcb x0 x1 = ((Qjf x0.Ledger ((Qgq x0.Done ((Qfk x0.Active ((Qu x0.Order ((Qdz x0.Store x1).1)).1)).1)).1)).1, (⟨(⟨(Qdz x0.Store x1).2.Segments, x0.Store.Now⟩ : Qx), x0.Cursor, (Qu x0.Order ((Qdz x0.Store x1).1)).2, (Qfk x0.Active ((Qu x0.Order ((Qdz x0.Store x1).1)).1)).2, (Qgq x0.Done ((Qfk x0.Active ((Qu x0.Order ((Qdz x0.Store x1).1)).1)).1)).2, (Qjf x0.Ledger ((Qgq x0.Done ((Qfk x0.Active ((Qu x0.Order ((Qdz x0.Store x1).1)).1)).1)).1)).2, x0.Steps⟩ : Qag)) from rfl)
 refine Qir rfl rfl (fun W hm => ⟨?_, ?_⟩)
 ·rw [he29]
 rw [he29]; exact Mem.join (is := [I7, I8, I9, I10, Qd (tSl Qbx 133) [.slice A22 x0.Ledger.length c23] ((Qjf x0.Ledger ((Qgq x0.Done ((Qfk x0.Active ((Qu x0.Order ((Qdz x0.Store x1).1)).1)).1)).1)).2)]) (js := is) (fun _ _ hs => Qhe (x := (⟨(⟨(Qdz x0.Store x1).2.Segments, x0.Store.Now⟩ : Qx), x0.Cursor, (Qu x0.Order ((Qdz x0.Store x1).1)).2, (Qfk x0.Active ((Qu x0.Order ((Qdz x0.Store x1).1)).1)).2, (Qgq x0.Done ((Qfk x0.Active ((Qu x0.Order ((Qdz x0.Store x1).1)).1)).1)).2, (Qjf x0.Ledger ((Qgq x0.Done ((Qfk x0.Active ((Qu x0.Order ((Qdz x0.Store x1).1)).1)).1)).1)).2, x0.Steps⟩ : Qag)) hs) ((((((hm.front (n := 0) rfl).front (n := 1) rfl).front (n := 2) rfl).front (n := 3) rfl).front (n := 4) rfl).front (n := 5) rfl).tail

def Qjg (x0 : Qaj) (x1 : Int) : (Int × Qaj) :=
 ((Qu x0.Values x1).1, (⟨x0.Id, (Qu x0.Values x1).2⟩ : Qaj))
theorem Qagj : Cb Tryz.prog 150 := ⟨f150, _, func150, rfl, by decide⟩
theorem Qani (B : Nat) (w0 : World) (is : List It) (w : World) (z0 : List Value) (x0 : Qaj) (x1 : Int) (hm : Mem B w0 (Qd Qbp z0 x0 :: is) w) :
  Calls Tryz.prog 150 #[.agg z0.toArray, .int .i64 x1] w fun e w' => e = .returned (.int .i64 (Qjg x0 x1).1) ∧ Mem B w0 (Qd Qbp z0 (Qjg x0 x1).2 :: is) w' := by
 refine Qhi (L := [(0, .agg z0.toArray), (1, .int .i64 x1)]) (N := 10) func150 rfl rfl (Nat.le_of_ble_eq_true rfl) (Qee rfl (Qee rfl Qgl)) hm ?_
 refine Qiq (γ := Value) (js := fun g => [Qd (tSl Qg 3) [g] x0.Values]) (C := fun g => z0 = [.int .i64 x0.Id, g]) (fun _ _ h => Qadl h) ?_
 rintro v1 rfl
 refine Qel (n := 0) rfl ?_
 rintro A2 c3 rfl m4
 refine sr ?_
 refine Qbj rfl (Qo rfl) (by decide) (fun p6 => ?_)
 refine wa (nt' (sr ?_))
 refine wv (vf Qde rfl Qap) ?_
 refine wv (vl 0 1 Qv) ?_
 refine wm ?_
 refine cw (Qr Qjw rfl) (fun W hm => Qjz B w0 (Qa p6 73 [.int .i64 x0.Id, .slice A2 x0.Values.length c3] :: is) W (.slice A2 x0.Values.length c3) x0.Values x1 (hm.front (n := 1) rfl)) ?_
 refine wa (nt' (sr (wm (wa (nt' (Qj ?_))))))
 have he7 := (show Qjg x0 x1 = ((Qu x0.Values x1).1, (⟨x0.Id, (Qu x0.Values x1).2⟩ : Qaj)) from rfl)
 refine Qir rfl rfl (fun W hm => ⟨?_, ?_⟩)
 ·rw [he7]
 rw [he7]; exact Mem.join (is := [Qd (tSl Qg 3) [.slice A2 x0.Values.length c3] ((Qu x0.Values x1).2)]) (js := is) (fun _ _ hs => Qkk (x := (⟨x0.Id, (Qu x0.Values x1).2⟩ : Qaj)) hs) ((hm.front (n := 0) rfl).front (n := 1) rfl).tail

def Qna (x0 : Qci) (x1 : Int) : (Int × Qci) :=
 ((Qjg x0.Row x1).1, (⟨x0.Kind, (⟨x0.Row.Id, (Qjg x0.Row x1).2.Values⟩ : Qaj), x0.Field, x0.Value⟩ : Qci))
theorem cb59 : Cb Tryz.prog 59 := ⟨f59, _, func59, rfl, by decide⟩
theorem Qanm (B : Nat) (w0 : World) (is : List It) (w : World) (z0 : List Value) (x0 : Qci) (x1 : Int) (hm : Mem B w0 (Qd Qfi z0 x0 :: is) w) :
  Calls Tryz.prog 59 #[.agg z0.toArray, .int .i64 x1] w fun e w' => e = .returned (.int .i64 (Qna x0 x1).1) ∧ Mem B w0 (Qd Qfi z0 (Qna x0 x1).2 :: is) w' := by
 refine Qhi (L := [(0, .agg z0.toArray), (1, .int .i64 x1)]) (N := 10) func59 rfl rfl (Nat.le_of_ble_eq_true rfl) (Qee rfl (Qee rfl Qgl)) hm ?_
 refine Qiq (γ := Value) (js := fun g => [Qd (tSl Qg 3) [g] x0.Row.Values]) (C := fun g => z0 = [.int .i64 x0.Kind, .int .i64 x0.Row.Id, g, .int .i64 x0.Field, .int .i64 x0.Value]) (fun _ _ h => Qadn h) ?_
 rintro v1 rfl
 refine Qel (n := 0) rfl ?_
 rintro A2 c3 rfl m4
 refine sr ?_
 refine Qbj rfl (Qo rfl) (by decide) (fun p6 => ?_)
 refine wa (nt' (sr ?_))
 refine wv (vf Qbs rfl Qcc) ?_
 refine wv (fun W hm => Qz (cs := [.int .i64 x0.Row.Id, .slice A2 x0.Row.Values.length c3]) Qde Qcc rfl rfl (hm.boxPart (n := 0) rfl rfl)) ?_
 refine wm ?_
 let K1 : List Value := [.int .i64 x0.Kind, .int .i64 x0.Row.Id, .slice A2 x0.Row.Values.length c3, .int .i64 x0.Field, .int .i64 x0.Value]
 refine Qli (js := (Qd Qbp [.int .i64 x0.Row.Id, .slice A2 x0.Row.Values.length c3] x0.Row :: (Qa p6 75 K1 :: is))) (fun W hm => Mem.join (is := [Qd (tSl Qg 3) [.slice A2 x0.Row.Values.length c3] x0.Row.Values]) (js := (Qa p6 75 K1 :: is)) (fun _ _ hs => Qkk (x := x0.Row) hs) (hm.front (n := 1) rfl)) ?_
 refine cw (Qr Qagj rfl) (fun W hm => Qani B w0 (Qa p6 75 K1 :: is) W [.int .i64 x0.Row.Id, .slice A2 x0.Row.Values.length c3] x0.Row x1 hm) ?_
 refine Qnu ?_
 rintro v8 h7
 simp +zetaDelta only [List.cons.injEq] at h7
 obtain ⟨-, rfl, -⟩ := h7
 refine wa (nt' (sr (wm (wa (nt' (Qj ?_))))))
 have he9 := (show Qna x0 x1 = ((Qjg x0.Row x1).1, (⟨x0.Kind, (⟨x0.Row.Id, (Qjg x0.Row x1).2.Values⟩ : Qaj), x0.Field, x0.Value⟩ : Qci)) from rfl)
 refine Qir rfl rfl (fun W hm => ⟨?_, ?_⟩)
 ·rw [he9]
 rw [he9]; exact Mem.join (is := [Qd (tSl Qg 3) [.slice A2 x0.Row.Values.length c3] ((Qjg x0.Row x1).2.Values)]) (js := is) (fun _ _ hs => Qxh (x := (⟨x0.Kind, (⟨x0.Row.Id, (Qjg x0.Row x1).2.Values⟩ : Qaj), x0.Field, x0.Value⟩ : Qci)) hs) ((hm.front (n := 0) rfl).front (n := 1) rfl).tail

def Qvc (x0 : (List Int)) (k6 : Nat) (s7 : Int) : Int ⊕ (Int) :=
 cond ((gt x0 k6) != s7) (Sum.inl (-1)) (Sum.inr (IntKind.i64.wrap (s7 + 1)))
def Qam (x0 : (List Int)) (x1 : Int) : Int :=
 Sum.elim id (fun (s : Int) => s) (rng (R := Int) (fun k (s : Int) => Qvc x0 k s) (x0.length - 0) 0 x1)
theorem Qkl : Cb Tryz.prog 139 := ⟨f139, _, func139, rfl, by decide⟩
theorem Qkq (w : World) (z0 : Value) (x0 : (List Int)) (x1 : Int) (r_0 : rdS Qg w w.heap.size z0 x0) :
  Calls Tryz.prog 139 #[z0, .int .i64 x1] w fun e w' => e = .returned (.int .i64 (Qam x0 x1)) ∧ Below w.heap.size w w' := by
 obtain ⟨m1, A2, c3, rfl, q4, r5⟩ := Qk r_0
 refine ce2 (L := [(0, .slice A2 x0.length c3), (1, .int .i64 x1)]) (N := 21) func139 ?_
 refine sr (wa (nt' (Qf (sr (wa (nt' (Qab ?_)))))))
 let F1 := fun k (s : Int) => Qvc x0 k s
 let R2 := rng (R := Int) F1
 refine Qbl (σ := Nat × (Int) × (Unit)) (fun s => [(0, .slice A2 x0.length c3), (1, .int .i64 s.2.1), (5, .int .i64 ((s.1 : Nat) : Int))]) (fun s => []) (fun s => s.1 ≤ x0.length ∧ R2 (x0.length - s.1) s.1 s.2.1 = R2 (x0.length - 0) 0 x1) (fun s => x0.length - s.1) (0, x1, ()) sl3 (fun W hm => hm) ⟨(by omega), rfl⟩ ?_
 rintro ⟨k6, s7, ⟨⟩⟩ H10
 obtain ⟨hk8, hF9⟩ : k6 ≤ x0.length ∧ R2 (x0.length - k6) k6 s7 = R2 (x0.length - 0) 0 x1 := H10
 show CM Tryz.prog 21 _ _ _ _ [(0, .slice A2 x0.length c3), (1, .int .i64 s7), (5, .int .i64 ((k6 : Nat) : Int))] []
 refine Qf (sr (wm (wm ?_)))
 refine wv (Qai Qv) ?_
 refine wv Qak ?_
 refine nt' ?_
 by_cases hl11 : k6 < x0.length
 ·have g12 := dlT hl11
  refine Ql rfl g12 ?_
  refine Qq (Qi (Qf (Qab (Qf (sr (wm (wm ?_)))))))
  obtain ⟨a13, rfl, hb14, he15⟩ := q4 (by omega)
  refine wv (vix 1 k6 Qv Qh) ?_
  refine wv (fun W hm => Qaw Qt rfl rfl ((hm.cell0 (show (a13.add (k6 * 1)).block < w.heap.size from by rw [Qah]; exact hb14.1)).trans (Qex he15 k6 (by omega)))) ?_
  refine wm ?_
  refine wv Qcf ?_
  refine nt' ?_
  by_cases h16 : (gt x0 k6) = s7
  ·have g17 : ((gt x0 k6) != s7) = false := by rw [h16]; exact bne_self_eq_false _
   refine Qp rfl g17 ?_
   refine Qq (Qi (Qad (wm ?_)))
   refine wv Qdq ?_
   refine wa (Qal (Qax (Qi (Qad (wm ?_)))))
   refine wv (Qbd k6 1 (by omega)) ?_
   refine wa (Qal ?_)
   have hn18 := Qbb (R := Int) (body := F1) (k := k6) (s := s7) (s' := (IntKind.i64.wrap (s7 + 1))) (show k6 < x0.length from by omega) (Qc g17 (rfl)) hF9
   exact Qaz (k6 + 1, (IntKind.i64.wrap (s7 + 1)), ()) sl3 (fun W hm => hm) ⟨(by omega), hn18⟩ (rl (by omega))
  have g17 : ((gt x0 k6) != s7) = true := bne_iff_ne.2 h16
  refine Ql rfl g17 ?_
  refine sr (wa (nt' (Qj (Qe (Qy (Qe (Qe (Qy (Qe ?_)))))))))
  exact rti (h := Qba (Qbc (body := F1) (k := k6) (s := s7) (show k6 < x0.length from by omega) (Qb g17 (rfl)) hF9) rfl)
 have g12 := dlF hl11
 refine Qp rfl g12 ?_
 refine Qbk (Qac (Qac ?_))
 have hE19 : R2 (x0.length - 0) 0 x1 = Sum.inr s7 := Qbn hl11 hF9
 refine Qbm (Qi (sr (wm (wa (nt' (Qj ?_))))))
 exact rti (h := Qat hE19 (rfl))

def Qvf (x0 : (List Qn)) (k6 : Nat) (s7 : Int) : Int ⊕ (Int) :=
 cond (((gt x0 k6).Id) != s7) (Sum.inl (-1)) (cond (decide ((Qam ((gt x0 k6).Values) (IntKind.i64.wrap (s7 + 1))) < 0)) (Sum.inl (-1)) (cond (((gt x0 k6).Born) != (Qam ((gt x0 k6).Values) (IntKind.i64.wrap (s7 + 1)))) (Sum.inl (-1)) (cond (((gt x0 k6).Died) != (IntKind.i64.wrap ((Qam ((gt x0 k6).Values) (IntKind.i64.wrap (s7 + 1))) + 1))) (Sum.inl (-1)) (Sum.inr (IntKind.i64.wrap ((IntKind.i64.wrap ((Qam ((gt x0 k6).Values) (IntKind.i64.wrap (s7 + 1))) + 1)) + 1))))))
def Qkr (x0 : (List Qn)) (x1 : Int) : Int :=
 Sum.elim id (fun (s : Int) => s) (rng (R := Int) (fun k (s : Int) => Qvf x0 k s) (x0.length - 0) 0 x1)
theorem Qaig : Cb Tryz.prog 229 := ⟨f229, _, func229, rfl, by decide⟩
theorem Qamv (w : World) (z0 : Value) (x0 : (List Qn)) (x1 : Int) (r_0 : rdS Qm w w.heap.size z0 x0) :
  Calls Tryz.prog 229 #[z0, .int .i64 x1] w fun e w' => e = .returned (.int .i64 (Qkr x0 x1)) ∧ Below w.heap.size w w' := by
 obtain ⟨m1, A2, c3, rfl, q4, r5⟩ := Qk r_0
 refine ce2 (L := [(0, .slice A2 x0.length c3), (1, .int .i64 x1)]) (N := 49) func229 ?_
 refine sr (wa (nt' (Qf (sr (wa (nt' (Qab ?_)))))))
 let F1 := fun k (s : Int) => Qvf x0 k s
 let R2 := rng (R := Int) F1
 refine Qbl (σ := Nat × (Int) × (Unit)) (fun s => [(0, .slice A2 x0.length c3), (1, .int .i64 s.2.1), (5, .int .i64 ((s.1 : Nat) : Int))]) (fun s => []) (fun s => s.1 ≤ x0.length ∧ R2 (x0.length - s.1) s.1 s.2.1 = R2 (x0.length - 0) 0 x1) (fun s => x0.length - s.1) (0, x1, ()) sl3 (fun W hm => hm) ⟨(by omega), rfl⟩ ?_
 rintro ⟨k6, s7, ⟨⟩⟩ H10
 obtain ⟨hk8, hF9⟩ : k6 ≤ x0.length ∧ R2 (x0.length - k6) k6 s7 = R2 (x0.length - 0) 0 x1 := H10
 show CM Tryz.prog 49 _ _ _ _ [(0, .slice A2 x0.length c3), (1, .int .i64 s7), (5, .int .i64 ((k6 : Nat) : Int))] []
 refine Qf (sr (wm (wm ?_)))
 refine wv (Qai Qav) ?_
 refine wv Qak ?_
 refine nt' ?_
 by_cases hl11 : k6 < x0.length
 ·have g12 := dlT hl11
  refine Ql rfl g12 ?_
  refine Qq (Qi (Qf (Qab (Qf (sr (wm (wm ?_)))))))
  obtain ⟨a13, rfl, hb14, he15⟩ := q4 (by omega)
  refine wv (vix 4 k6 Qav Qar) ?_
  refine wv (vf Qbe rfl Qh) ?_
  obtain ⟨_, e19, hc16⟩ := he15 k6 _ (Qca (show k6 < x0.length from by omega))
  obtain ⟨v17, rfl, r18⟩ := Qfm e19
  obtain ⟨m20, A21, c22, rfl, q23, r24⟩ := Qk r18
  refine wv (fun W hm => Qaw Qt rfl rfl ((hm.cell0 (show ((a13.add (k6 * 4)).add 0).block < w.heap.size from by rw [Qah, Qah]; exact hb14.1)).trans (hc16 0 _ rfl))) ?_
  refine wm ?_
  refine wv Qcf ?_
  refine nt' ?_
  by_cases h25 : ((gt x0 k6).Id) = s7
  ·have g26 : (((gt x0 k6).Id) != s7) = false := by rw [h25]; exact bne_self_eq_false _
   refine Qp rfl g26 ?_
   refine Qq (Qi (sr (wm ?_)))
   refine wv Qdq ?_
   refine wa (nt' (sr (wm (wm ?_))))
   refine wv (vix 4 k6 Qav Qar) ?_
   refine wv (vf Qbe rfl Qap) ?_
   refine wv (fun W hm => Qaw Qv rfl rfl ((hm.cell0 (show ((a13.add (k6 * 4)).add 1).block < w.heap.size from by rw [Qah, Qah]; exact hb14.1)).trans (hc16 1 _ rfl))) ?_
   refine wm ?_
   refine wcv (Qr Qkl rfl) (fun W hm => Qkq W _ ((gt x0 k6).Values) (IntKind.i64.wrap (s7 + 1)) (hm.rdS0 r24)) ?_
   refine wa (nt' (Qf (sr (wm ?_))))
   refine wv Qak ?_
   refine nt' ?_
   by_cases h27 : (Qam ((gt x0 k6).Values) (IntKind.i64.wrap (s7 + 1))) < 0
   ·have g28 := decide_eq_true h27
    refine Ql rfl g28 ?_
    refine sr (wa (nt' (Qj (Qe (Qy (Qe (Qe (Qy (Qe ?_)))))))))
    exact rti (h := Qba (Qbc (body := F1) (k := k6) (s := s7) (show k6 < x0.length from by omega) (Qc g26 (Qb g28 (rfl))) hF9) rfl)
   have g28 := decide_eq_false h27
   refine Qp rfl g28 ?_
   refine Qq (Qi (Qf (sr (wm (wm ?_)))))
   refine wv (vix 4 k6 Qav Qar) ?_
   refine wv (vf Qbe rfl Qh) ?_
   refine wv (fun W hm => Qaw Qt rfl rfl ((hm.cell0 (show ((a13.add (k6 * 4)).add 2).block < w.heap.size from by rw [Qah, Qah]; exact hb14.1)).trans (hc16 2 _ rfl))) ?_
   refine wm ?_
   refine wv Qcf ?_
   refine nt' ?_
   by_cases h29 : ((gt x0 k6).Born) = (Qam ((gt x0 k6).Values) (IntKind.i64.wrap (s7 + 1)))
   ·have g30 : (((gt x0 k6).Born) != (Qam ((gt x0 k6).Values) (IntKind.i64.wrap (s7 + 1)))) = false := by rw [h29]; exact bne_self_eq_false _
    refine Qp rfl g30 ?_
    refine Qq (Qi (sr (wm ?_)))
    refine wv Qdq ?_
    refine wa (nt' (Qf (sr (wm (wm ?_)))))
    refine wv (vix 4 k6 Qav Qar) ?_
    refine wv (vf Qbe rfl Qh) ?_
    refine wv (fun W hm => Qaw Qt rfl rfl ((hm.cell0 (show ((a13.add (k6 * 4)).add 3).block < w.heap.size from by rw [Qah, Qah]; exact hb14.1)).trans (hc16 3 _ rfl))) ?_
    refine wm ?_
    refine wv Qcf ?_
    refine nt' ?_
    by_cases h31 : ((gt x0 k6).Died) = (IntKind.i64.wrap ((Qam ((gt x0 k6).Values) (IntKind.i64.wrap (s7 + 1))) + 1))
    ·have g32 : (((gt x0 k6).Died) != (IntKind.i64.wrap ((Qam ((gt x0 k6).Values) (IntKind.i64.wrap (s7 + 1))) + 1))) = false := by rw [h31]; exact bne_self_eq_false _
     refine Qp rfl g32 ?_
     refine Qq (Qi (Qad (wm ?_)))
     refine wv Qdq ?_
     refine wa (Qal (Qax (Qi (Qad (wm ?_)))))
     refine wv (Qbd k6 1 (by omega)) ?_
     refine wa (Qal ?_)
     have hn33 := Qbb (R := Int) (body := F1) (k := k6) (s := s7) (s' := (IntKind.i64.wrap ((IntKind.i64.wrap ((Qam ((gt x0 k6).Values) (IntKind.i64.wrap (s7 + 1))) + 1)) + 1))) (show k6 < x0.length from by omega) (Qc g26 (Qc g28 (Qc g30 (Qc g32 (rfl))))) hF9
     exact Qaz (k6 + 1, (IntKind.i64.wrap ((IntKind.i64.wrap ((Qam ((gt x0 k6).Values) (IntKind.i64.wrap (s7 + 1))) + 1)) + 1)), ()) sl3 (fun W hm => hm) ⟨(by omega), hn33⟩ (rl (by omega))
    have g32 : (((gt x0 k6).Died) != (IntKind.i64.wrap ((Qam ((gt x0 k6).Values) (IntKind.i64.wrap (s7 + 1))) + 1))) = true := bne_iff_ne.2 h31
    refine Ql rfl g32 ?_
    refine sr (wa (nt' (Qj (Qe (Qy (Qe (Qe (Qy (Qe ?_)))))))))
    exact rti (h := Qba (Qbc (body := F1) (k := k6) (s := s7) (show k6 < x0.length from by omega) (Qc g26 (Qc g28 (Qc g30 (Qb g32 (rfl))))) hF9) rfl)
   have g30 : (((gt x0 k6).Born) != (Qam ((gt x0 k6).Values) (IntKind.i64.wrap (s7 + 1)))) = true := bne_iff_ne.2 h29
   refine Ql rfl g30 ?_
   refine sr (wa (nt' (Qj (Qe (Qy (Qe (Qe (Qy (Qe ?_)))))))))
   exact rti (h := Qba (Qbc (body := F1) (k := k6) (s := s7) (show k6 < x0.length from by omega) (Qc g26 (Qc g28 (Qb g30 (rfl)))) hF9) rfl)
  have g26 : (((gt x0 k6).Id) != s7) = true := bne_iff_ne.2 h25
  refine Ql rfl g26 ?_
  refine sr (wa (nt' (Qj (Qe (Qy (Qe (Qe (Qy (Qe ?_)))))))))
  exact rti (h := Qba (Qbc (body := F1) (k := k6) (s := s7) (show k6 < x0.length from by omega) (Qb g26 (rfl)) hF9) rfl)
 have g12 := dlF hl11
 refine Qp rfl g12 ?_
 refine Qbk (Qac (Qac ?_))
 have hE34 : R2 (x0.length - 0) 0 x1 = Sum.inr s7 := Qbn hl11 hF9
 refine Qbm (Qi (sr (wm (wa (nt' (Qj ?_))))))
 exact rti (h := Qat hE34 (rfl))

def Qve (x0 : (List (List Qn))) (k6 : Nat) (s7 : Int) : Int ⊕ (Int) :=
 cond (decide ((Qkr (gt x0 k6) s7) < 0)) (Sum.inl (-1)) (Sum.inr (Qkr (gt x0 k6) s7))
def Qqc (x0 : (List (List Qn))) (x1 : Int) : Int :=
 Sum.elim id (fun (s : Int) => s) (rng (R := Int) (fun k (s : Int) => Qve x0 k s) (x0.length - 0) 0 x1)
theorem Qahp : Cb Tryz.prog 202 := ⟨f202, _, func202, rfl, by decide⟩
theorem Qamu (w : World) (z0 : Value) (x0 : (List (List Qn))) (x1 : Int) (r_0 : rdS (tSl Qm 191) w w.heap.size z0 x0) :
  Calls Tryz.prog 202 #[z0, .int .i64 x1] w fun e w' => e = .returned (.int .i64 (Qqc x0 x1)) ∧ Below w.heap.size w w' := by
 obtain ⟨m1, A2, c3, rfl, q4, r5⟩ := Qk r_0
 refine ce2 (L := [(0, .slice A2 x0.length c3), (1, .int .i64 x1)]) (N := 21) func202 ?_
 refine sr (wa (nt' (Qf (sr (wa (nt' (Qab ?_)))))))
 let F1 := fun k (s : Int) => Qve x0 k s
 let R2 := rng (R := Int) F1
 refine Qbl (σ := Nat × (Int) × (Unit)) (fun s => [(0, .slice A2 x0.length c3), (1, .int .i64 s.2.1), (5, .int .i64 ((s.1 : Nat) : Int))]) (fun s => []) (fun s => s.1 ≤ x0.length ∧ R2 (x0.length - s.1) s.1 s.2.1 = R2 (x0.length - 0) 0 x1) (fun s => x0.length - s.1) (0, x1, ()) sl3 (fun W hm => hm) ⟨(by omega), rfl⟩ ?_
 rintro ⟨k6, s7, ⟨⟩⟩ H10
 obtain ⟨hk8, hF9⟩ : k6 ≤ x0.length ∧ R2 (x0.length - k6) k6 s7 = R2 (x0.length - 0) 0 x1 := H10
 show CM Tryz.prog 21 _ _ _ _ [(0, .slice A2 x0.length c3), (1, .int .i64 s7), (5, .int .i64 ((k6 : Nat) : Int))] []
 refine Qf (sr (wm (wm ?_)))
 refine wv (Qai Qas) ?_
 refine wv Qak ?_
 refine nt' ?_
 by_cases hl11 : k6 < x0.length
 ·have g12 := dlT hl11
  refine Ql rfl g12 ?_
  refine Qq (Qi (Qf (Qab (sr (wm (wm ?_))))))
  obtain ⟨a13, rfl, hb14, he15⟩ := q4 (by omega)
  refine wv (vix 1 k6 Qas Qda) ?_
  obtain ⟨_, e17, hc16⟩ := he15 k6 _ (Qca (show k6 < x0.length from by omega))
  obtain ⟨v18, rfl, r19⟩ := e17
  obtain ⟨m20, A21, c22, rfl, q23, r24⟩ := Qk r19
  refine wv (fun W hm => Qaw Qav rfl rfl ((hm.cell0 (show (a13.add (k6 * 1)).block < w.heap.size from by rw [Qah]; exact hb14.1)).trans (hc16 0 _ rfl))) ?_
  refine wm ?_
  refine wcv (Qr Qaig rfl) (fun W hm => Qamv W _ (gt x0 k6) s7 (hm.rdS0 r24)) ?_
  refine wa (nt' (sr (wm ?_)))
  refine wv Qak ?_
  refine nt' ?_
  by_cases h25 : (Qkr (gt x0 k6) s7) < 0
  ·have g26 := decide_eq_true h25
   refine Ql rfl g26 ?_
   refine sr (wa (nt' (Qj (Qy (Qe (Qe (Qy (Qe ?_))))))))
   exact rti (h := Qba (Qbc (body := F1) (k := k6) (s := s7) (show k6 < x0.length from by omega) (Qb g26 (rfl)) hF9) rfl)
  have g26 := decide_eq_false h25
  refine Qp rfl g26 ?_
  refine Qq (Qax (Qi (Qad (wm ?_))))
  refine wv (Qbd k6 1 (by omega)) ?_
  refine wa (Qal ?_)
  have hn27 := Qbb (R := Int) (body := F1) (k := k6) (s := s7) (s' := (Qkr (gt x0 k6) s7)) (show k6 < x0.length from by omega) (Qc g26 (rfl)) hF9
  exact Qaz (k6 + 1, (Qkr (gt x0 k6) s7), ()) sl3 (fun W hm => hm) ⟨(by omega), hn27⟩ (rl (by omega))
 have g12 := dlF hl11
 refine Qp rfl g12 ?_
 refine Qbk (Qac (Qac ?_))
 have hE28 : R2 (x0.length - 0) 0 x1 = Sum.inr s7 := Qbn hl11 hF9
 refine Qbm (Qi (sr (wm (wa (nt' (Qj ?_))))))
 exact rti (h := Qat hE28 (rfl))

def Qgn (x0 : Qx) (x1 : Int) : Int :=
 cond (decide ((Qqc x0.Segments x1) < 0)) (-1) (Qqc x0.Segments x1)
theorem Qagb : Cb Tryz.prog 138 := ⟨f138, _, func138, rfl, by decide⟩
theorem Qamt (w : World) (z0 : List Value) (x0 : Qx) (x1 : Int) (r_0 : Qcz.rd w w.heap.size z0 x0) :
  Calls Tryz.prog 138 #[.agg z0.toArray, .int .i64 x1] w fun e w' => e = .returned (.int .i64 (Qgn x0 x1)) ∧ Below w.heap.size w w' := by
 obtain ⟨v1, rfl, r2⟩ := Qgy r_0
 obtain ⟨m3, A4, c5, rfl, q6, r7⟩ := Qk r2
 refine ce2 (L := [(0, .agg #[.slice A4 x0.Segments.length c5, .int .i64 x0.Now]), (1, .int .i64 x1)]) (N := 12) func138 ?_
 refine sr ?_
 refine Qbj rfl (Qo rfl) (by decide) (fun p8 => ?_)
 refine wa (nt' (sr ?_))
 refine wv (vf Qaf rfl Qcu) ?_
 refine wv (vl 0 0 Qas) ?_
 refine wm ?_
 refine wcv (Qr Qahp rfl) (fun W hm => Qamu W _ x0.Segments x1 (hm.rdS0 r7)) ?_
 refine wa (nt' (Qf (sr (wm ?_))))
 refine wv Qak ?_
 refine nt' ?_
 by_cases h9 : (Qqc x0.Segments x1) < 0
 ·have g10 := decide_eq_true h9
  refine Ql rfl g10 ?_
  refine sr (wa (nt' (Qj (Qe ?_))))
  exact rti (h := Qb g10 (rfl))
 have g10 := decide_eq_false h9
 refine Qp rfl g10 ?_
 refine Qq (Qi (sr (wm (wa (nt' (Qj ?_))))))
 exact rti (h := Qc g10 (rfl))

def Qva (x0 : (List Qby)) (k6 : Nat) (s7 : Int) : Int ⊕ (Int) :=
 cond (((gt x0 k6).Field) != s7) (Sum.inl (-1)) (cond (((gt x0 k6).Low) != (IntKind.i64.wrap (s7 + 1))) (Sum.inl (-1)) (cond (((gt x0 k6).High) != (IntKind.i64.wrap ((IntKind.i64.wrap (s7 + 1)) + 1))) (Sum.inl (-1)) (Sum.inr (IntKind.i64.wrap ((IntKind.i64.wrap ((IntKind.i64.wrap (s7 + 1)) + 1)) + 1)))))
def Qcn (x0 : (List Qby)) (x1 : Int) : Int :=
 Sum.elim id (fun (s : Int) => s) (rng (R := Int) (fun k (s : Int) => Qva x0 k s) (x0.length - 0) 0 x1)
theorem Qys : Cb Tryz.prog 171 := ⟨f171, _, func171, rfl, by decide⟩
theorem Qaam (w : World) (z0 : Value) (x0 : (List Qby)) (x1 : Int) (r_0 : rdS Qbz w w.heap.size z0 x0) :
  Calls Tryz.prog 171 #[z0, .int .i64 x1] w fun e w' => e = .returned (.int .i64 (Qcn x0 x1)) ∧ Below w.heap.size w w' := by
 obtain ⟨m1, A2, c3, rfl, q4, r5⟩ := Qk r_0
 refine ce2 (L := [(0, .slice A2 x0.length c3), (1, .int .i64 x1)]) (N := 40) func171 ?_
 refine sr (wa (nt' (Qf (sr (wa (nt' (Qab ?_)))))))
 let F1 := fun k (s : Int) => Qva x0 k s
 let R2 := rng (R := Int) F1
 refine Qbl (σ := Nat × (Int) × (Unit)) (fun s => [(0, .slice A2 x0.length c3), (1, .int .i64 s.2.1), (5, .int .i64 ((s.1 : Nat) : Int))]) (fun s => []) (fun s => s.1 ≤ x0.length ∧ R2 (x0.length - s.1) s.1 s.2.1 = R2 (x0.length - 0) 0 x1) (fun s => x0.length - s.1) (0, x1, ()) sl3 (fun W hm => hm) ⟨(by omega), rfl⟩ ?_
 rintro ⟨k6, s7, ⟨⟩⟩ H10
 obtain ⟨hk8, hF9⟩ : k6 ≤ x0.length ∧ R2 (x0.length - k6) k6 s7 = R2 (x0.length - 0) 0 x1 := H10
 show CM Tryz.prog 40 _ _ _ _ [(0, .slice A2 x0.length c3), (1, .int .i64 s7), (5, .int .i64 ((k6 : Nat) : Int))] []
 refine Qf (sr (wm (wm ?_)))
 refine wv (Qai Qds) ?_
 refine wv Qak ?_
 refine nt' ?_
 by_cases hl11 : k6 < x0.length
 ·have g12 := dlT hl11
  refine Ql rfl g12 ?_
  refine Qq (Qi (Qf (Qab (Qf (sr (wm (wm ?_)))))))
  obtain ⟨a13, rfl, hb14, he15⟩ := q4 (by omega)
  refine wv (vix 3 k6 Qds Qeh) ?_
  refine wv (vf Qei rfl Qh) ?_
  obtain ⟨_, e17, hc16⟩ := he15 k6 _ (Qca (show k6 < x0.length from by omega))
  obtain rfl := Qjk e17
  refine wv (fun W hm => Qaw Qt rfl rfl ((hm.cell0 (show ((a13.add (k6 * 3)).add 0).block < w.heap.size from by rw [Qah, Qah]; exact hb14.1)).trans (hc16 0 _ rfl))) ?_
  refine wm ?_
  refine wv Qcf ?_
  refine nt' ?_
  by_cases h18 : ((gt x0 k6).Field) = s7
  ·have g19 : (((gt x0 k6).Field) != s7) = false := by rw [h18]; exact bne_self_eq_false _
   refine Qp rfl g19 ?_
   refine Qq (Qi (sr (wm ?_)))
   refine wv Qdq ?_
   refine wa (nt' (Qf (sr (wm (wm ?_)))))
   refine wv (vix 3 k6 Qds Qeh) ?_
   refine wv (vf Qei rfl Qh) ?_
   refine wv (fun W hm => Qaw Qt rfl rfl ((hm.cell0 (show ((a13.add (k6 * 3)).add 1).block < w.heap.size from by rw [Qah, Qah]; exact hb14.1)).trans (hc16 1 _ rfl))) ?_
   refine wm ?_
   refine wv Qcf ?_
   refine nt' ?_
   by_cases h20 : ((gt x0 k6).Low) = (IntKind.i64.wrap (s7 + 1))
   ·have g21 : (((gt x0 k6).Low) != (IntKind.i64.wrap (s7 + 1))) = false := by rw [h20]; exact bne_self_eq_false _
    refine Qp rfl g21 ?_
    refine Qq (Qi (sr (wm ?_)))
    refine wv Qdq ?_
    refine wa (nt' (Qf (sr (wm (wm ?_)))))
    refine wv (vix 3 k6 Qds Qeh) ?_
    refine wv (vf Qei rfl Qh) ?_
    refine wv (fun W hm => Qaw Qt rfl rfl ((hm.cell0 (show ((a13.add (k6 * 3)).add 2).block < w.heap.size from by rw [Qah, Qah]; exact hb14.1)).trans (hc16 2 _ rfl))) ?_
    refine wm ?_
    refine wv Qcf ?_
    refine nt' ?_
    by_cases h22 : ((gt x0 k6).High) = (IntKind.i64.wrap ((IntKind.i64.wrap (s7 + 1)) + 1))
    ·have g23 : (((gt x0 k6).High) != (IntKind.i64.wrap ((IntKind.i64.wrap (s7 + 1)) + 1))) = false := by rw [h22]; exact bne_self_eq_false _
     refine Qp rfl g23 ?_
     refine Qq (Qi (Qad (wm ?_)))
     refine wv Qdq ?_
     refine wa (Qal (Qax (Qi (Qad (wm ?_)))))
     refine wv (Qbd k6 1 (by omega)) ?_
     refine wa (Qal ?_)
     have hn24 := Qbb (R := Int) (body := F1) (k := k6) (s := s7) (s' := (IntKind.i64.wrap ((IntKind.i64.wrap ((IntKind.i64.wrap (s7 + 1)) + 1)) + 1))) (show k6 < x0.length from by omega) (Qc g19 (Qc g21 (Qc g23 (rfl)))) hF9
     exact Qaz (k6 + 1, (IntKind.i64.wrap ((IntKind.i64.wrap ((IntKind.i64.wrap (s7 + 1)) + 1)) + 1)), ()) sl3 (fun W hm => hm) ⟨(by omega), hn24⟩ (rl (by omega))
    have g23 : (((gt x0 k6).High) != (IntKind.i64.wrap ((IntKind.i64.wrap (s7 + 1)) + 1))) = true := bne_iff_ne.2 h22
    refine Ql rfl g23 ?_
    refine sr (wa (nt' (Qj (Qe (Qy (Qe (Qe (Qy (Qe ?_)))))))))
    exact rti (h := Qba (Qbc (body := F1) (k := k6) (s := s7) (show k6 < x0.length from by omega) (Qc g19 (Qc g21 (Qb g23 (rfl)))) hF9) rfl)
   have g21 : (((gt x0 k6).Low) != (IntKind.i64.wrap (s7 + 1))) = true := bne_iff_ne.2 h20
   refine Ql rfl g21 ?_
   refine sr (wa (nt' (Qj (Qe (Qy (Qe (Qe (Qy (Qe ?_)))))))))
   exact rti (h := Qba (Qbc (body := F1) (k := k6) (s := s7) (show k6 < x0.length from by omega) (Qc g19 (Qb g21 (rfl))) hF9) rfl)
  have g19 : (((gt x0 k6).Field) != s7) = true := bne_iff_ne.2 h18
  refine Ql rfl g19 ?_
  refine sr (wa (nt' (Qj (Qe (Qy (Qe (Qe (Qy (Qe ?_)))))))))
  exact rti (h := Qba (Qbc (body := F1) (k := k6) (s := s7) (show k6 < x0.length from by omega) (Qb g19 (rfl)) hF9) rfl)
 have g12 := dlF hl11
 refine Qp rfl g12 ?_
 refine Qbk (Qac (Qac ?_))
 have hE25 : R2 (x0.length - 0) 0 x1 = Sum.inr s7 := Qbn hl11 hF9
 refine Qbm (Qi (sr (wm (wa (nt' (Qj ?_))))))
 exact rti (h := Qat hE25 (rfl))

def Qvd (x0 : (List Qaj)) (k6 : Nat) (s7 : Int) : Int ⊕ (Int) :=
 cond (((gt x0 k6).Id) != s7) (Sum.inl (-1)) (cond (decide ((Qam ((gt x0 k6).Values) (IntKind.i64.wrap (s7 + 1))) < 0)) (Sum.inl (-1)) (Sum.inr (Qam ((gt x0 k6).Values) (IntKind.i64.wrap (s7 + 1)))))
def Qhc (x0 : (List Qaj)) (x1 : Int) : Int :=
 Sum.elim id (fun (s : Int) => s) (rng (R := Int) (fun k (s : Int) => Qvd x0 k s) (x0.length - 0) 0 x1)
theorem Qze : Cb Tryz.prog 98 := ⟨f98, _, func98, rfl, by decide⟩
theorem Qaao (w : World) (z0 : Value) (x0 : (List Qaj)) (x1 : Int) (r_0 : rdS Qbp w w.heap.size z0 x0) :
  Calls Tryz.prog 98 #[z0, .int .i64 x1] w fun e w' => e = .returned (.int .i64 (Qhc x0 x1)) ∧ Below w.heap.size w w' := by
 obtain ⟨m1, A2, c3, rfl, q4, r5⟩ := Qk r_0
 refine ce2 (L := [(0, .slice A2 x0.length c3), (1, .int .i64 x1)]) (N := 31) func98 ?_
 refine sr (wa (nt' (Qf (sr (wa (nt' (Qab ?_)))))))
 let F1 := fun k (s : Int) => Qvd x0 k s
 let R2 := rng (R := Int) F1
 refine Qbl (σ := Nat × (Int) × (Unit)) (fun s => [(0, .slice A2 x0.length c3), (1, .int .i64 s.2.1), (5, .int .i64 ((s.1 : Nat) : Int))]) (fun s => []) (fun s => s.1 ≤ x0.length ∧ R2 (x0.length - s.1) s.1 s.2.1 = R2 (x0.length - 0) 0 x1) (fun s => x0.length - s.1) (0, x1, ()) sl3 (fun W hm => hm) ⟨(by omega), rfl⟩ ?_
 rintro ⟨k6, s7, ⟨⟩⟩ H10
 obtain ⟨hk8, hF9⟩ : k6 ≤ x0.length ∧ R2 (x0.length - k6) k6 s7 = R2 (x0.length - 0) 0 x1 := H10
 show CM Tryz.prog 31 _ _ _ _ [(0, .slice A2 x0.length c3), (1, .int .i64 s7), (5, .int .i64 ((k6 : Nat) : Int))] []
 refine Qf (sr (wm (wm ?_)))
 refine wv (Qai Qdv) ?_
 refine wv Qak ?_
 refine nt' ?_
 by_cases hl11 : k6 < x0.length
 ·have g12 := dlT hl11
  refine Ql rfl g12 ?_
  refine Qq (Qi (Qf (Qab (Qf (sr (wm (wm ?_)))))))
  obtain ⟨a13, rfl, hb14, he15⟩ := q4 (by omega)
  refine wv (vix 2 k6 Qdv Qcc) ?_
  refine wv (vf Qde rfl Qh) ?_
  obtain ⟨_, e19, hc16⟩ := he15 k6 _ (Qca (show k6 < x0.length from by omega))
  obtain ⟨v17, rfl, r18⟩ := Qin e19
  obtain ⟨m20, A21, c22, rfl, q23, r24⟩ := Qk r18
  refine wv (fun W hm => Qaw Qt rfl rfl ((hm.cell0 (show ((a13.add (k6 * 2)).add 0).block < w.heap.size from by rw [Qah, Qah]; exact hb14.1)).trans (hc16 0 _ rfl))) ?_
  refine wm ?_
  refine wv Qcf ?_
  refine nt' ?_
  by_cases h25 : ((gt x0 k6).Id) = s7
  ·have g26 : (((gt x0 k6).Id) != s7) = false := by rw [h25]; exact bne_self_eq_false _
   refine Qp rfl g26 ?_
   refine Qq (Qi (sr (wm ?_)))
   refine wv Qdq ?_
   refine wa (nt' (sr (wm (wm ?_))))
   refine wv (vix 2 k6 Qdv Qcc) ?_
   refine wv (vf Qde rfl Qap) ?_
   refine wv (fun W hm => Qaw Qv rfl rfl ((hm.cell0 (show ((a13.add (k6 * 2)).add 1).block < w.heap.size from by rw [Qah, Qah]; exact hb14.1)).trans (hc16 1 _ rfl))) ?_
   refine wm ?_
   refine wcv (Qr Qkl rfl) (fun W hm => Qkq W _ ((gt x0 k6).Values) (IntKind.i64.wrap (s7 + 1)) (hm.rdS0 r24)) ?_
   refine wa (nt' (sr (wm ?_)))
   refine wv Qak ?_
   refine nt' ?_
   by_cases h27 : (Qam ((gt x0 k6).Values) (IntKind.i64.wrap (s7 + 1))) < 0
   ·have g28 := decide_eq_true h27
    refine Ql rfl g28 ?_
    refine sr (wa (nt' (Qj (Qy (Qe (Qe (Qy (Qe ?_))))))))
    exact rti (h := Qba (Qbc (body := F1) (k := k6) (s := s7) (show k6 < x0.length from by omega) (Qc g26 (Qb g28 (rfl))) hF9) rfl)
   have g28 := decide_eq_false h27
   refine Qp rfl g28 ?_
   refine Qq (Qax (Qi (Qad (wm ?_))))
   refine wv (Qbd k6 1 (by omega)) ?_
   refine wa (Qal ?_)
   have hn29 := Qbb (R := Int) (body := F1) (k := k6) (s := s7) (s' := (Qam ((gt x0 k6).Values) (IntKind.i64.wrap (s7 + 1)))) (show k6 < x0.length from by omega) (Qc g26 (Qc g28 (rfl))) hF9
   exact Qaz (k6 + 1, (Qam ((gt x0 k6).Values) (IntKind.i64.wrap (s7 + 1))), ()) sl3 (fun W hm => hm) ⟨(by omega), hn29⟩ (rl (by omega))
  have g26 : (((gt x0 k6).Id) != s7) = true := bne_iff_ne.2 h25
  refine Ql rfl g26 ?_
  refine sr (wa (nt' (Qj (Qe (Qy (Qe (Qe (Qy (Qe ?_)))))))))
  exact rti (h := Qba (Qbc (body := F1) (k := k6) (s := s7) (show k6 < x0.length from by omega) (Qb g26 (rfl)) hF9) rfl)
 have g12 := dlF hl11
 refine Qp rfl g12 ?_
 refine Qbk (Qac (Qac ?_))
 have hE30 : R2 (x0.length - 0) 0 x1 = Sum.inr s7 := Qbn hl11 hF9
 refine Qbm (Qi (sr (wm (wa (nt' (Qj ?_))))))
 exact rti (h := Qat hE30 (rfl))

def Quy (x0 : (List Qbf)) (k6 : Nat) (s7 : Int) : Int ⊕ (Int) :=
 cond (((gt x0 k6).Query.Id) != s7) (Sum.inl (-1)) (cond (((gt x0 k6).Query.Tenant) != (IntKind.i64.wrap (s7 + 1))) (Sum.inl (-1)) (cond (decide ((Qcn ((gt x0 k6).Query.Conds) (IntKind.i64.wrap ((IntKind.i64.wrap (s7 + 1)) + 1))) < 0)) (Sum.inl (-1)) (cond (decide ((Qam ((gt x0 k6).Query.Out) (Qcn ((gt x0 k6).Query.Conds) (IntKind.i64.wrap ((IntKind.i64.wrap (s7 + 1)) + 1)))) < 0)) (Sum.inl (-1)) (cond (((gt x0 k6).Time) != (Qam ((gt x0 k6).Query.Out) (Qcn ((gt x0 k6).Query.Conds) (IntKind.i64.wrap ((IntKind.i64.wrap (s7 + 1)) + 1))))) (Sum.inl (-1)) (cond (decide ((Qam ((gt x0 k6).Todo) (IntKind.i64.wrap ((Qam ((gt x0 k6).Query.Out) (Qcn ((gt x0 k6).Query.Conds) (IntKind.i64.wrap ((IntKind.i64.wrap (s7 + 1)) + 1)))) + 1))) < 0)) (Sum.inl (-1)) (cond (((gt x0 k6).Age) != (Qam ((gt x0 k6).Todo) (IntKind.i64.wrap ((Qam ((gt x0 k6).Query.Out) (Qcn ((gt x0 k6).Query.Conds) (IntKind.i64.wrap ((IntKind.i64.wrap (s7 + 1)) + 1)))) + 1)))) (Sum.inl (-1)) (cond (((gt x0 k6).Sent) != (IntKind.i64.wrap ((Qam ((gt x0 k6).Todo) (IntKind.i64.wrap ((Qam ((gt x0 k6).Query.Out) (Qcn ((gt x0 k6).Query.Conds) (IntKind.i64.wrap ((IntKind.i64.wrap (s7 + 1)) + 1)))) + 1))) + 1))) (Sum.inl (-1)) (cond (((gt x0 k6).Cap) != (IntKind.i64.wrap ((IntKind.i64.wrap ((Qam ((gt x0 k6).Todo) (IntKind.i64.wrap ((Qam ((gt x0 k6).Query.Out) (Qcn ((gt x0 k6).Query.Conds) (IntKind.i64.wrap ((IntKind.i64.wrap (s7 + 1)) + 1)))) + 1))) + 1)) + 1))) (Sum.inl (-1)) (cond (decide ((Qhc ((gt x0 k6).Rows) (IntKind.i64.wrap ((IntKind.i64.wrap ((IntKind.i64.wrap ((Qam ((gt x0 k6).Todo) (IntKind.i64.wrap ((Qam ((gt x0 k6).Query.Out) (Qcn ((gt x0 k6).Query.Conds) (IntKind.i64.wrap ((IntKind.i64.wrap (s7 + 1)) + 1)))) + 1))) + 1)) + 1)) + 1))) < 0)) (Sum.inl (-1)) (Sum.inr (Qhc ((gt x0 k6).Rows) (IntKind.i64.wrap ((IntKind.i64.wrap ((IntKind.i64.wrap ((Qam ((gt x0 k6).Todo) (IntKind.i64.wrap ((Qam ((gt x0 k6).Query.Out) (Qcn ((gt x0 k6).Query.Conds) (IntKind.i64.wrap ((IntKind.i64.wrap (s7 + 1)) + 1)))) + 1))) + 1)) + 1)) + 1)))))))))))))
def Qje (x0 : (List Qbf)) (x1 : Int) : Int :=
 Sum.elim id (fun (s : Int) => s) (rng (R := Int) (fun k (s : Int) => Quy x0 k s) (x0.length - 0) 0 x1)
theorem Qagd : Cb Tryz.prog 140 := ⟨f140, _, func140, rfl, by decide⟩
theorem Qamq (w : World) (z0 : Value) (x0 : (List Qbf)) (x1 : Int) (r_0 : rdS Qbw w w.heap.size z0 x0) :
  Calls Tryz.prog 140 #[z0, .int .i64 x1] w fun e w' => e = .returned (.int .i64 (Qje x0 x1)) ∧ Below w.heap.size w w' := by
 obtain ⟨m1, A2, c3, rfl, q4, r5⟩ := Qk r_0
 refine ce2 (L := [(0, .slice A2 x0.length c3), (1, .int .i64 x1)]) (N := 107) func140 ?_
 refine sr (wa (nt' (Qf (sr (wa (nt' (Qab ?_)))))))
 let F1 := fun k (s : Int) => Quy x0 k s
 let R2 := rng (R := Int) F1
 refine Qbl (σ := Nat × (Int) × (Unit)) (fun s => [(0, .slice A2 x0.length c3), (1, .int .i64 s.2.1), (5, .int .i64 ((s.1 : Nat) : Int))]) (fun s => []) (fun s => s.1 ≤ x0.length ∧ R2 (x0.length - s.1) s.1 s.2.1 = R2 (x0.length - 0) 0 x1) (fun s => x0.length - s.1) (0, x1, ()) sl3 (fun W hm => hm) ⟨(by omega), rfl⟩ ?_
 rintro ⟨k6, s7, ⟨⟩⟩ H10
 obtain ⟨hk8, hF9⟩ : k6 ≤ x0.length ∧ R2 (x0.length - k6) k6 s7 = R2 (x0.length - 0) 0 x1 := H10
 show CM Tryz.prog 107 _ _ _ _ [(0, .slice A2 x0.length c3), (1, .int .i64 s7), (5, .int .i64 ((k6 : Nat) : Int))] []
 refine Qf (sr (wm (wm ?_)))
 refine wv (Qai Qcj) ?_
 refine wv Qak ?_
 refine nt' ?_
 by_cases hl11 : k6 < x0.length
 ·have g12 := dlT hl11
  refine Ql rfl g12 ?_
  refine Qq (Qi (Qf (Qab (Qf (sr (wm (wm ?_)))))))
  obtain ⟨a13, rfl, hb14, he15⟩ := q4 (by omega)
  refine wv (vix 10 k6 Qcj Qcs) ?_
  refine wv (vf Qbu rfl Qcl) ?_
  refine wv (fun W hm => Qdy (o := 0) Qch rfl Qh (by decide) rfl rfl) ?_
  obtain ⟨_, e25, hc16⟩ := he15 k6 _ (Qca (show k6 < x0.length from by omega))
  obtain ⟨v17, v19, v21, v23, rfl, r18, r20, r22, r24⟩ := Qhz e25
  obtain ⟨m26, A27, c28, rfl, q29, r30⟩ := Qk r18
  obtain ⟨m31, A32, c33, rfl, q34, r35⟩ := Qk r20
  obtain ⟨m36, A37, c38, rfl, q39, r40⟩ := Qk r22
  obtain ⟨m41, A42, c43, rfl, q44, r45⟩ := Qk r24
  refine wv (fun W hm => Qaw Qt rfl rfl ((hm.cell0 (show ((a13.add (k6 * 10)).add 0).block < w.heap.size from by rw [Qah, Qah]; exact hb14.1)).trans (hc16 0 _ rfl))) ?_
  refine wm ?_
  refine wv Qcf ?_
  refine nt' ?_
  by_cases h46 : ((gt x0 k6).Query.Id) = s7
  ·have g47 : (((gt x0 k6).Query.Id) != s7) = false := by rw [h46]; exact bne_self_eq_false _
   refine Qp rfl g47 ?_
   refine Qq (Qi (sr (wm ?_)))
   refine wv Qdq ?_
   refine wa (nt' (Qf (sr (wm (wm ?_)))))
   refine wv (vix 10 k6 Qcj Qcs) ?_
   refine wv (vf Qbu rfl Qcl) ?_
   refine wv (fun W hm => Qdy (o := 1) Qch rfl Qh (by decide) rfl rfl) ?_
   refine wv (fun W hm => Qaw Qt rfl rfl ((hm.cell0 (show ((a13.add (k6 * 10)).add 1).block < w.heap.size from by rw [Qah, Qah]; exact hb14.1)).trans (hc16 1 _ rfl))) ?_
   refine wm ?_
   refine wv Qcf ?_
   refine nt' ?_
   by_cases h48 : ((gt x0 k6).Query.Tenant) = (IntKind.i64.wrap (s7 + 1))
   ·have g49 : (((gt x0 k6).Query.Tenant) != (IntKind.i64.wrap (s7 + 1))) = false := by rw [h48]; exact bne_self_eq_false _
    refine Qp rfl g49 ?_
    refine Qq (Qi (sr (wm ?_)))
    refine wv Qdq ?_
    refine wa (nt' (sr (wm (wm ?_))))
    refine wv (vix 10 k6 Qcj Qcs) ?_
    refine wv (vf Qbu rfl Qcl) ?_
    refine wv (fun W hm => Qdy (o := 2) Qch rfl type32 (by decide) rfl rfl) ?_
    refine wv (fun W hm => Qaw Qds rfl rfl ((hm.cell0 (show ((a13.add (k6 * 10)).add 2).block < w.heap.size from by rw [Qah, Qah]; exact hb14.1)).trans (hc16 2 _ rfl))) ?_
    refine wm ?_
    refine wcv (Qr Qys rfl) (fun W hm => Qaam W _ ((gt x0 k6).Query.Conds) (IntKind.i64.wrap ((IntKind.i64.wrap (s7 + 1)) + 1)) (hm.rdS0 r30)) ?_
    refine wa (nt' (Qf (sr (wm ?_))))
    refine wv Qak ?_
    refine nt' ?_
    by_cases h50 : (Qcn ((gt x0 k6).Query.Conds) (IntKind.i64.wrap ((IntKind.i64.wrap (s7 + 1)) + 1))) < 0
    ·have g51 := decide_eq_true h50
     refine Ql rfl g51 ?_
     refine sr (wa (nt' (Qj (Qe (Qy (Qe (Qe (Qy (Qe ?_)))))))))
     exact rti (h := Qba (Qbc (body := F1) (k := k6) (s := s7) (show k6 < x0.length from by omega) (Qc g47 (Qc g49 (Qb g51 (rfl)))) hF9) rfl)
    have g51 := decide_eq_false h50
    refine Qp rfl g51 ?_
    refine Qq (Qi (sr (wm (wm ?_))))
    refine wv (vix 10 k6 Qcj Qcs) ?_
    refine wv (vf Qbu rfl Qcl) ?_
    refine wv (fun W hm => Qdy (o := 3) Qch rfl Qap (by decide) rfl rfl) ?_
    refine wv (fun W hm => Qaw Qv rfl rfl ((hm.cell0 (show ((a13.add (k6 * 10)).add 3).block < w.heap.size from by rw [Qah, Qah]; exact hb14.1)).trans (hc16 3 _ rfl))) ?_
    refine wm ?_
    refine wcv (Qr Qkl rfl) (fun W hm => Qkq W _ ((gt x0 k6).Query.Out) (Qcn ((gt x0 k6).Query.Conds) (IntKind.i64.wrap ((IntKind.i64.wrap (s7 + 1)) + 1))) (hm.rdS0 r35)) ?_
    refine wa (nt' (Qf (sr (wm ?_))))
    refine wv Qak ?_
    refine nt' ?_
    by_cases h52 : (Qam ((gt x0 k6).Query.Out) (Qcn ((gt x0 k6).Query.Conds) (IntKind.i64.wrap ((IntKind.i64.wrap (s7 + 1)) + 1)))) < 0
    ·have g53 := decide_eq_true h52
     refine Ql rfl g53 ?_
     refine sr (wa (nt' (Qj (Qe (Qy (Qe (Qe (Qy (Qe ?_)))))))))
     exact rti (h := Qba (Qbc (body := F1) (k := k6) (s := s7) (show k6 < x0.length from by omega) (Qc g47 (Qc g49 (Qc g51 (Qb g53 (rfl))))) hF9) rfl)
    have g53 := decide_eq_false h52
    refine Qp rfl g53 ?_
    refine Qq (Qi (Qf (sr (wm (wm ?_)))))
    refine wv (vix 10 k6 Qcj Qcs) ?_
    refine wv (vf Qbu rfl Qh) ?_
    refine wv (fun W hm => Qaw Qt rfl rfl ((hm.cell0 (show ((a13.add (k6 * 10)).add 4).block < w.heap.size from by rw [Qah, Qah]; exact hb14.1)).trans (hc16 4 _ rfl))) ?_
    refine wm ?_
    refine wv Qcf ?_
    refine nt' ?_
    by_cases h54 : ((gt x0 k6).Time) = (Qam ((gt x0 k6).Query.Out) (Qcn ((gt x0 k6).Query.Conds) (IntKind.i64.wrap ((IntKind.i64.wrap (s7 + 1)) + 1))))
    ·have g55 : (((gt x0 k6).Time) != (Qam ((gt x0 k6).Query.Out) (Qcn ((gt x0 k6).Query.Conds) (IntKind.i64.wrap ((IntKind.i64.wrap (s7 + 1)) + 1))))) = false := by rw [h54]; exact bne_self_eq_false _
     refine Qp rfl g55 ?_
     refine Qq (Qi (sr (wm ?_)))
     refine wv Qdq ?_
     refine wa (nt' (sr (wm (wm ?_))))
     refine wv (vix 10 k6 Qcj Qcs) ?_
     refine wv (vf Qbu rfl Qap) ?_
     refine wv (fun W hm => Qaw Qv rfl rfl ((hm.cell0 (show ((a13.add (k6 * 10)).add 5).block < w.heap.size from by rw [Qah, Qah]; exact hb14.1)).trans (hc16 5 _ rfl))) ?_
     refine wm ?_
     refine wcv (Qr Qkl rfl) (fun W hm => Qkq W _ ((gt x0 k6).Todo) (IntKind.i64.wrap ((Qam ((gt x0 k6).Query.Out) (Qcn ((gt x0 k6).Query.Conds) (IntKind.i64.wrap ((IntKind.i64.wrap (s7 + 1)) + 1)))) + 1)) (hm.rdS0 r40)) ?_
     refine wa (nt' (Qf (sr (wm ?_))))
     refine wv Qak ?_
     refine nt' ?_
     by_cases h56 : (Qam ((gt x0 k6).Todo) (IntKind.i64.wrap ((Qam ((gt x0 k6).Query.Out) (Qcn ((gt x0 k6).Query.Conds) (IntKind.i64.wrap ((IntKind.i64.wrap (s7 + 1)) + 1)))) + 1))) < 0
     ·have g57 := decide_eq_true h56
      refine Ql rfl g57 ?_
      refine sr (wa (nt' (Qj (Qe (Qy (Qe (Qe (Qy (Qe ?_)))))))))
      exact rti (h := Qba (Qbc (body := F1) (k := k6) (s := s7) (show k6 < x0.length from by omega) (Qc g47 (Qc g49 (Qc g51 (Qc g53 (Qc g55 (Qb g57 (rfl))))))) hF9) rfl)
     have g57 := decide_eq_false h56
     refine Qp rfl g57 ?_
     refine Qq (Qi (Qf (sr (wm (wm ?_)))))
     refine wv (vix 10 k6 Qcj Qcs) ?_
     refine wv (vf Qbu rfl Qh) ?_
     refine wv (fun W hm => Qaw Qt rfl rfl ((hm.cell0 (show ((a13.add (k6 * 10)).add 6).block < w.heap.size from by rw [Qah, Qah]; exact hb14.1)).trans (hc16 6 _ rfl))) ?_
     refine wm ?_
     refine wv Qcf ?_
     refine nt' ?_
     by_cases h58 : ((gt x0 k6).Age) = (Qam ((gt x0 k6).Todo) (IntKind.i64.wrap ((Qam ((gt x0 k6).Query.Out) (Qcn ((gt x0 k6).Query.Conds) (IntKind.i64.wrap ((IntKind.i64.wrap (s7 + 1)) + 1)))) + 1)))
     ·have g59 : (((gt x0 k6).Age) != (Qam ((gt x0 k6).Todo) (IntKind.i64.wrap ((Qam ((gt x0 k6).Query.Out) (Qcn ((gt x0 k6).Query.Conds) (IntKind.i64.wrap ((IntKind.i64.wrap (s7 + 1)) + 1)))) + 1)))) = false := by rw [h58]; exact bne_self_eq_false _
      refine Qp rfl g59 ?_
      refine Qq (Qi (sr (wm ?_)))
      refine wv Qdq ?_
      refine wa (nt' (Qf (sr (wm (wm ?_)))))
      refine wv (vix 10 k6 Qcj Qcs) ?_
      refine wv (vf Qbu rfl Qh) ?_
      refine wv (fun W hm => Qaw Qt rfl rfl ((hm.cell0 (show ((a13.add (k6 * 10)).add 7).block < w.heap.size from by rw [Qah, Qah]; exact hb14.1)).trans (hc16 7 _ rfl))) ?_
      refine wm ?_
      refine wv Qcf ?_
      refine nt' ?_
      by_cases h60 : ((gt x0 k6).Sent) = (IntKind.i64.wrap ((Qam ((gt x0 k6).Todo) (IntKind.i64.wrap ((Qam ((gt x0 k6).Query.Out) (Qcn ((gt x0 k6).Query.Conds) (IntKind.i64.wrap ((IntKind.i64.wrap (s7 + 1)) + 1)))) + 1))) + 1))
      ·have g61 : (((gt x0 k6).Sent) != (IntKind.i64.wrap ((Qam ((gt x0 k6).Todo) (IntKind.i64.wrap ((Qam ((gt x0 k6).Query.Out) (Qcn ((gt x0 k6).Query.Conds) (IntKind.i64.wrap ((IntKind.i64.wrap (s7 + 1)) + 1)))) + 1))) + 1))) = false := by rw [h60]; exact bne_self_eq_false _
       refine Qp rfl g61 ?_
       refine Qq (Qi (sr (wm ?_)))
       refine wv Qdq ?_
       refine wa (nt' (Qf (sr (wm (wm ?_)))))
       refine wv (vix 10 k6 Qcj Qcs) ?_
       refine wv (vf Qbu rfl Qh) ?_
       refine wv (fun W hm => Qaw Qt rfl rfl ((hm.cell0 (show ((a13.add (k6 * 10)).add 8).block < w.heap.size from by rw [Qah, Qah]; exact hb14.1)).trans (hc16 8 _ rfl))) ?_
       refine wm ?_
       refine wv Qcf ?_
       refine nt' ?_
       by_cases h62 : ((gt x0 k6).Cap) = (IntKind.i64.wrap ((IntKind.i64.wrap ((Qam ((gt x0 k6).Todo) (IntKind.i64.wrap ((Qam ((gt x0 k6).Query.Out) (Qcn ((gt x0 k6).Query.Conds) (IntKind.i64.wrap ((IntKind.i64.wrap (s7 + 1)) + 1)))) + 1))) + 1)) + 1))
       ·have g63 : (((gt x0 k6).Cap) != (IntKind.i64.wrap ((IntKind.i64.wrap ((Qam ((gt x0 k6).Todo) (IntKind.i64.wrap ((Qam ((gt x0 k6).Query.Out) (Qcn ((gt x0 k6).Query.Conds) (IntKind.i64.wrap ((IntKind.i64.wrap (s7 + 1)) + 1)))) + 1))) + 1)) + 1))) = false := by rw [h62]; exact bne_self_eq_false _
        refine Qp rfl g63 ?_
        refine Qq (Qi (sr (wm ?_)))
        refine wv Qdq ?_
        refine wa (nt' (sr (wm (wm ?_))))
        refine wv (vix 10 k6 Qcj Qcs) ?_
        refine wv (vf Qbu rfl Qfa) ?_
        refine wv (fun W hm => Qaw Qdv rfl rfl ((hm.cell0 (show ((a13.add (k6 * 10)).add 9).block < w.heap.size from by rw [Qah, Qah]; exact hb14.1)).trans (hc16 9 _ rfl))) ?_
        refine wm ?_
        refine wcv (Qr Qze rfl) (fun W hm => Qaao W _ ((gt x0 k6).Rows) (IntKind.i64.wrap ((IntKind.i64.wrap ((IntKind.i64.wrap ((Qam ((gt x0 k6).Todo) (IntKind.i64.wrap ((Qam ((gt x0 k6).Query.Out) (Qcn ((gt x0 k6).Query.Conds) (IntKind.i64.wrap ((IntKind.i64.wrap (s7 + 1)) + 1)))) + 1))) + 1)) + 1)) + 1)) (hm.rdS0 r45)) ?_
        refine wa (nt' (sr (wm ?_)))
        refine wv Qak ?_
        refine nt' ?_
        by_cases h64 : (Qhc ((gt x0 k6).Rows) (IntKind.i64.wrap ((IntKind.i64.wrap ((IntKind.i64.wrap ((Qam ((gt x0 k6).Todo) (IntKind.i64.wrap ((Qam ((gt x0 k6).Query.Out) (Qcn ((gt x0 k6).Query.Conds) (IntKind.i64.wrap ((IntKind.i64.wrap (s7 + 1)) + 1)))) + 1))) + 1)) + 1)) + 1))) < 0
        ·have g65 := decide_eq_true h64
         refine Ql rfl g65 ?_
         refine sr (wa (nt' (Qj (Qy (Qe (Qe (Qy (Qe ?_))))))))
         exact rti (h := Qba (Qbc (body := F1) (k := k6) (s := s7) (show k6 < x0.length from by omega) (Qc g47 (Qc g49 (Qc g51 (Qc g53 (Qc g55 (Qc g57 (Qc g59 (Qc g61 (Qc g63 (Qb g65 (rfl))))))))))) hF9) rfl)
        have g65 := decide_eq_false h64
        refine Qp rfl g65 ?_
        refine Qq (Qax (Qi (Qad (wm ?_))))
        refine wv (Qbd k6 1 (by omega)) ?_
        refine wa (Qal ?_)
        have hn66 := Qbb (R := Int) (body := F1) (k := k6) (s := s7) (s' := (Qhc ((gt x0 k6).Rows) (IntKind.i64.wrap ((IntKind.i64.wrap ((IntKind.i64.wrap ((Qam ((gt x0 k6).Todo) (IntKind.i64.wrap ((Qam ((gt x0 k6).Query.Out) (Qcn ((gt x0 k6).Query.Conds) (IntKind.i64.wrap ((IntKind.i64.wrap (s7 + 1)) + 1)))) + 1))) + 1)) + 1)) + 1)))) (show k6 < x0.length from by omega) (Qc g47 (Qc g49 (Qc g51 (Qc g53 (Qc g55 (Qc g57 (Qc g59 (Qc g61 (Qc g63 (Qc g65 (rfl))))))))))) hF9
        exact Qaz (k6 + 1, (Qhc ((gt x0 k6).Rows) (IntKind.i64.wrap ((IntKind.i64.wrap ((IntKind.i64.wrap ((Qam ((gt x0 k6).Todo) (IntKind.i64.wrap ((Qam ((gt x0 k6).Query.Out) (Qcn ((gt x0 k6).Query.Conds) (IntKind.i64.wrap ((IntKind.i64.wrap (s7 + 1)) + 1)))) + 1))) + 1)) + 1)) + 1))), ()) sl3 (fun W hm => hm) ⟨(by omega), hn66⟩ (rl (by omega))
       have g63 : (((gt x0 k6).Cap) != (IntKind.i64.wrap ((IntKind.i64.wrap ((Qam ((gt x0 k6).Todo) (IntKind.i64.wrap ((Qam ((gt x0 k6).Query.Out) (Qcn ((gt x0 k6).Query.Conds) (IntKind.i64.wrap ((IntKind.i64.wrap (s7 + 1)) + 1)))) + 1))) + 1)) + 1))) = true := bne_iff_ne.2 h62
       refine Ql rfl g63 ?_
       refine sr (wa (nt' (Qj (Qe (Qy (Qe (Qe (Qy (Qe ?_)))))))))
       exact rti (h := Qba (Qbc (body := F1) (k := k6) (s := s7) (show k6 < x0.length from by omega) (Qc g47 (Qc g49 (Qc g51 (Qc g53 (Qc g55 (Qc g57 (Qc g59 (Qc g61 (Qb g63 (rfl)))))))))) hF9) rfl)
      have g61 : (((gt x0 k6).Sent) != (IntKind.i64.wrap ((Qam ((gt x0 k6).Todo) (IntKind.i64.wrap ((Qam ((gt x0 k6).Query.Out) (Qcn ((gt x0 k6).Query.Conds) (IntKind.i64.wrap ((IntKind.i64.wrap (s7 + 1)) + 1)))) + 1))) + 1))) = true := bne_iff_ne.2 h60
      refine Ql rfl g61 ?_
      refine sr (wa (nt' (Qj (Qe (Qy (Qe (Qe (Qy (Qe ?_)))))))))
      exact rti (h := Qba (Qbc (body := F1) (k := k6) (s := s7) (show k6 < x0.length from by omega) (Qc g47 (Qc g49 (Qc g51 (Qc g53 (Qc g55 (Qc g57 (Qc g59 (Qb g61 (rfl))))))))) hF9) rfl)
     have g59 : (((gt x0 k6).Age) != (Qam ((gt x0 k6).Todo) (IntKind.i64.wrap ((Qam ((gt x0 k6).Query.Out) (Qcn ((gt x0 k6).Query.Conds) (IntKind.i64.wrap ((IntKind.i64.wrap (s7 + 1)) + 1)))) + 1)))) = true := bne_iff_ne.2 h58
     refine Ql rfl g59 ?_
     refine sr (wa (nt' (Qj (Qe (Qy (Qe (Qe (Qy (Qe ?_)))))))))
     exact rti (h := Qba (Qbc (body := F1) (k := k6) (s := s7) (show k6 < x0.length from by omega) (Qc g47 (Qc g49 (Qc g51 (Qc g53 (Qc g55 (Qc g57 (Qb g59 (rfl)))))))) hF9) rfl)
    have g55 : (((gt x0 k6).Time) != (Qam ((gt x0 k6).Query.Out) (Qcn ((gt x0 k6).Query.Conds) (IntKind.i64.wrap ((IntKind.i64.wrap (s7 + 1)) + 1))))) = true := bne_iff_ne.2 h54
    refine Ql rfl g55 ?_
    refine sr (wa (nt' (Qj (Qe (Qy (Qe (Qe (Qy (Qe ?_)))))))))
    exact rti (h := Qba (Qbc (body := F1) (k := k6) (s := s7) (show k6 < x0.length from by omega) (Qc g47 (Qc g49 (Qc g51 (Qc g53 (Qb g55 (rfl)))))) hF9) rfl)
   have g49 : (((gt x0 k6).Query.Tenant) != (IntKind.i64.wrap (s7 + 1))) = true := bne_iff_ne.2 h48
   refine Ql rfl g49 ?_
   refine sr (wa (nt' (Qj (Qe (Qy (Qe (Qe (Qy (Qe ?_)))))))))
   exact rti (h := Qba (Qbc (body := F1) (k := k6) (s := s7) (show k6 < x0.length from by omega) (Qc g47 (Qb g49 (rfl))) hF9) rfl)
  have g47 : (((gt x0 k6).Query.Id) != s7) = true := bne_iff_ne.2 h46
  refine Ql rfl g47 ?_
  refine sr (wa (nt' (Qj (Qe (Qy (Qe (Qe (Qy (Qe ?_)))))))))
  exact rti (h := Qba (Qbc (body := F1) (k := k6) (s := s7) (show k6 < x0.length from by omega) (Qb g47 (rfl)) hF9) rfl)
 have g12 := dlF hl11
 refine Qp rfl g12 ?_
 refine Qbk (Qac (Qac ?_))
 have hE67 : R2 (x0.length - 0) 0 x1 = Sum.inr s7 := Qbn hl11 hF9
 refine Qbm (Qi (sr (wm (wa (nt' (Qj ?_))))))
 exact rti (h := Qat hE67 (rfl))

def Qvb (x0 : (List Qbg)) (k6 : Nat) (s7 : Int) : Int ⊕ (Int) :=
 cond (((gt x0 k6).Query.Id) != s7) (Sum.inl (-1)) (cond (((gt x0 k6).Query.Tenant) != (IntKind.i64.wrap (s7 + 1))) (Sum.inl (-1)) (cond (decide ((Qcn ((gt x0 k6).Query.Conds) (IntKind.i64.wrap ((IntKind.i64.wrap (s7 + 1)) + 1))) < 0)) (Sum.inl (-1)) (cond (decide ((Qam ((gt x0 k6).Query.Out) (Qcn ((gt x0 k6).Query.Conds) (IntKind.i64.wrap ((IntKind.i64.wrap (s7 + 1)) + 1)))) < 0)) (Sum.inl (-1)) (cond (((gt x0 k6).Time) != (Qam ((gt x0 k6).Query.Out) (Qcn ((gt x0 k6).Query.Conds) (IntKind.i64.wrap ((IntKind.i64.wrap (s7 + 1)) + 1))))) (Sum.inl (-1)) (cond (((gt x0 k6).Steps) != (IntKind.i64.wrap ((Qam ((gt x0 k6).Query.Out) (Qcn ((gt x0 k6).Query.Conds) (IntKind.i64.wrap ((IntKind.i64.wrap (s7 + 1)) + 1)))) + 1))) (Sum.inl (-1)) (cond (decide ((Qhc ((gt x0 k6).Rows) (IntKind.i64.wrap ((IntKind.i64.wrap ((Qam ((gt x0 k6).Query.Out) (Qcn ((gt x0 k6).Query.Conds) (IntKind.i64.wrap ((IntKind.i64.wrap (s7 + 1)) + 1)))) + 1)) + 1))) < 0)) (Sum.inl (-1)) (Sum.inr (Qhc ((gt x0 k6).Rows) (IntKind.i64.wrap ((IntKind.i64.wrap ((Qam ((gt x0 k6).Query.Out) (Qcn ((gt x0 k6).Query.Conds) (IntKind.i64.wrap ((IntKind.i64.wrap (s7 + 1)) + 1)))) + 1)) + 1))))))))))
def Qlv (x0 : (List Qbg)) (x1 : Int) : Int :=
 Sum.elim id (fun (s : Int) => s) (rng (R := Int) (fun k (s : Int) => Qvb x0 k s) (x0.length - 0) 0 x1)
theorem Qage : Cb Tryz.prog 141 := ⟨f141, _, func141, rfl, by decide⟩
theorem Qams (w : World) (z0 : Value) (x0 : (List Qbg)) (x1 : Int) (r_0 : rdS Qce w w.heap.size z0 x0) :
  Calls Tryz.prog 141 #[z0, .int .i64 x1] w fun e w' => e = .returned (.int .i64 (Qlv x0 x1)) ∧ Below w.heap.size w w' := by
 obtain ⟨m1, A2, c3, rfl, q4, r5⟩ := Qk r_0
 refine ce2 (L := [(0, .slice A2 x0.length c3), (1, .int .i64 x1)]) (N := 80) func141 ?_
 refine sr (wa (nt' (Qf (sr (wa (nt' (Qab ?_)))))))
 let F1 := fun k (s : Int) => Qvb x0 k s
 let R2 := rng (R := Int) F1
 refine Qbl (σ := Nat × (Int) × (Unit)) (fun s => [(0, .slice A2 x0.length c3), (1, .int .i64 s.2.1), (5, .int .i64 ((s.1 : Nat) : Int))]) (fun s => []) (fun s => s.1 ≤ x0.length ∧ R2 (x0.length - s.1) s.1 s.2.1 = R2 (x0.length - 0) 0 x1) (fun s => x0.length - s.1) (0, x1, ()) sl3 (fun W hm => hm) ⟨(by omega), rfl⟩ ?_
 rintro ⟨k6, s7, ⟨⟩⟩ H10
 obtain ⟨hk8, hF9⟩ : k6 ≤ x0.length ∧ R2 (x0.length - k6) k6 s7 = R2 (x0.length - 0) 0 x1 := H10
 show CM Tryz.prog 80 _ _ _ _ [(0, .slice A2 x0.length c3), (1, .int .i64 s7), (5, .int .i64 ((k6 : Nat) : Int))] []
 refine Qf (sr (wm (wm ?_)))
 refine wv (Qai Qdn) ?_
 refine wv Qak ?_
 refine nt' ?_
 by_cases hl11 : k6 < x0.length
 ·have g12 := dlT hl11
  refine Ql rfl g12 ?_
  refine Qq (Qi (Qf (Qab (Qf (sr (wm (wm ?_)))))))
  obtain ⟨a13, rfl, hb14, he15⟩ := q4 (by omega)
  refine wv (vix 7 k6 Qdn Qdl) ?_
  refine wv (vf Qdh rfl Qcl) ?_
  refine wv (fun W hm => Qdy (o := 0) Qch rfl Qh (by decide) rfl rfl) ?_
  obtain ⟨_, e23, hc16⟩ := he15 k6 _ (Qca (show k6 < x0.length from by omega))
  obtain ⟨v17, v19, v21, rfl, r18, r20, r22⟩ := Qkj e23
  obtain ⟨m24, A25, c26, rfl, q27, r28⟩ := Qk r18
  obtain ⟨m29, A30, c31, rfl, q32, r33⟩ := Qk r20
  obtain ⟨m34, A35, c36, rfl, q37, r38⟩ := Qk r22
  refine wv (fun W hm => Qaw Qt rfl rfl ((hm.cell0 (show ((a13.add (k6 * 7)).add 0).block < w.heap.size from by rw [Qah, Qah]; exact hb14.1)).trans (hc16 0 _ rfl))) ?_
  refine wm ?_
  refine wv Qcf ?_
  refine nt' ?_
  by_cases h39 : ((gt x0 k6).Query.Id) = s7
  ·have g40 : (((gt x0 k6).Query.Id) != s7) = false := by rw [h39]; exact bne_self_eq_false _
   refine Qp rfl g40 ?_
   refine Qq (Qi (sr (wm ?_)))
   refine wv Qdq ?_
   refine wa (nt' (Qf (sr (wm (wm ?_)))))
   refine wv (vix 7 k6 Qdn Qdl) ?_
   refine wv (vf Qdh rfl Qcl) ?_
   refine wv (fun W hm => Qdy (o := 1) Qch rfl Qh (by decide) rfl rfl) ?_
   refine wv (fun W hm => Qaw Qt rfl rfl ((hm.cell0 (show ((a13.add (k6 * 7)).add 1).block < w.heap.size from by rw [Qah, Qah]; exact hb14.1)).trans (hc16 1 _ rfl))) ?_
   refine wm ?_
   refine wv Qcf ?_
   refine nt' ?_
   by_cases h41 : ((gt x0 k6).Query.Tenant) = (IntKind.i64.wrap (s7 + 1))
   ·have g42 : (((gt x0 k6).Query.Tenant) != (IntKind.i64.wrap (s7 + 1))) = false := by rw [h41]; exact bne_self_eq_false _
    refine Qp rfl g42 ?_
    refine Qq (Qi (sr (wm ?_)))
    refine wv Qdq ?_
    refine wa (nt' (sr (wm (wm ?_))))
    refine wv (vix 7 k6 Qdn Qdl) ?_
    refine wv (vf Qdh rfl Qcl) ?_
    refine wv (fun W hm => Qdy (o := 2) Qch rfl type32 (by decide) rfl rfl) ?_
    refine wv (fun W hm => Qaw Qds rfl rfl ((hm.cell0 (show ((a13.add (k6 * 7)).add 2).block < w.heap.size from by rw [Qah, Qah]; exact hb14.1)).trans (hc16 2 _ rfl))) ?_
    refine wm ?_
    refine wcv (Qr Qys rfl) (fun W hm => Qaam W _ ((gt x0 k6).Query.Conds) (IntKind.i64.wrap ((IntKind.i64.wrap (s7 + 1)) + 1)) (hm.rdS0 r28)) ?_
    refine wa (nt' (Qf (sr (wm ?_))))
    refine wv Qak ?_
    refine nt' ?_
    by_cases h43 : (Qcn ((gt x0 k6).Query.Conds) (IntKind.i64.wrap ((IntKind.i64.wrap (s7 + 1)) + 1))) < 0
    ·have g44 := decide_eq_true h43
     refine Ql rfl g44 ?_
     refine sr (wa (nt' (Qj (Qe (Qy (Qe (Qe (Qy (Qe ?_)))))))))
     exact rti (h := Qba (Qbc (body := F1) (k := k6) (s := s7) (show k6 < x0.length from by omega) (Qc g40 (Qc g42 (Qb g44 (rfl)))) hF9) rfl)
    have g44 := decide_eq_false h43
    refine Qp rfl g44 ?_
    refine Qq (Qi (sr (wm (wm ?_))))
    refine wv (vix 7 k6 Qdn Qdl) ?_
    refine wv (vf Qdh rfl Qcl) ?_
    refine wv (fun W hm => Qdy (o := 3) Qch rfl Qap (by decide) rfl rfl) ?_
    refine wv (fun W hm => Qaw Qv rfl rfl ((hm.cell0 (show ((a13.add (k6 * 7)).add 3).block < w.heap.size from by rw [Qah, Qah]; exact hb14.1)).trans (hc16 3 _ rfl))) ?_
    refine wm ?_
    refine wcv (Qr Qkl rfl) (fun W hm => Qkq W _ ((gt x0 k6).Query.Out) (Qcn ((gt x0 k6).Query.Conds) (IntKind.i64.wrap ((IntKind.i64.wrap (s7 + 1)) + 1))) (hm.rdS0 r33)) ?_
    refine wa (nt' (Qf (sr (wm ?_))))
    refine wv Qak ?_
    refine nt' ?_
    by_cases h45 : (Qam ((gt x0 k6).Query.Out) (Qcn ((gt x0 k6).Query.Conds) (IntKind.i64.wrap ((IntKind.i64.wrap (s7 + 1)) + 1)))) < 0
    ·have g46 := decide_eq_true h45
     refine Ql rfl g46 ?_
     refine sr (wa (nt' (Qj (Qe (Qy (Qe (Qe (Qy (Qe ?_)))))))))
     exact rti (h := Qba (Qbc (body := F1) (k := k6) (s := s7) (show k6 < x0.length from by omega) (Qc g40 (Qc g42 (Qc g44 (Qb g46 (rfl))))) hF9) rfl)
    have g46 := decide_eq_false h45
    refine Qp rfl g46 ?_
    refine Qq (Qi (Qf (sr (wm (wm ?_)))))
    refine wv (vix 7 k6 Qdn Qdl) ?_
    refine wv (vf Qdh rfl Qh) ?_
    refine wv (fun W hm => Qaw Qt rfl rfl ((hm.cell0 (show ((a13.add (k6 * 7)).add 4).block < w.heap.size from by rw [Qah, Qah]; exact hb14.1)).trans (hc16 4 _ rfl))) ?_
    refine wm ?_
    refine wv Qcf ?_
    refine nt' ?_
    by_cases h47 : ((gt x0 k6).Time) = (Qam ((gt x0 k6).Query.Out) (Qcn ((gt x0 k6).Query.Conds) (IntKind.i64.wrap ((IntKind.i64.wrap (s7 + 1)) + 1))))
    ·have g48 : (((gt x0 k6).Time) != (Qam ((gt x0 k6).Query.Out) (Qcn ((gt x0 k6).Query.Conds) (IntKind.i64.wrap ((IntKind.i64.wrap (s7 + 1)) + 1))))) = false := by rw [h47]; exact bne_self_eq_false _
     refine Qp rfl g48 ?_
     refine Qq (Qi (sr (wm ?_)))
     refine wv Qdq ?_
     refine wa (nt' (Qf (sr (wm (wm ?_)))))
     refine wv (vix 7 k6 Qdn Qdl) ?_
     refine wv (vf Qdh rfl Qh) ?_
     refine wv (fun W hm => Qaw Qt rfl rfl ((hm.cell0 (show ((a13.add (k6 * 7)).add 5).block < w.heap.size from by rw [Qah, Qah]; exact hb14.1)).trans (hc16 5 _ rfl))) ?_
     refine wm ?_
     refine wv Qcf ?_
     refine nt' ?_
     by_cases h49 : ((gt x0 k6).Steps) = (IntKind.i64.wrap ((Qam ((gt x0 k6).Query.Out) (Qcn ((gt x0 k6).Query.Conds) (IntKind.i64.wrap ((IntKind.i64.wrap (s7 + 1)) + 1)))) + 1))
     ·have g50 : (((gt x0 k6).Steps) != (IntKind.i64.wrap ((Qam ((gt x0 k6).Query.Out) (Qcn ((gt x0 k6).Query.Conds) (IntKind.i64.wrap ((IntKind.i64.wrap (s7 + 1)) + 1)))) + 1))) = false := by rw [h49]; exact bne_self_eq_false _
      refine Qp rfl g50 ?_
      refine Qq (Qi (sr (wm ?_)))
      refine wv Qdq ?_
      refine wa (nt' (sr (wm (wm ?_))))
      refine wv (vix 7 k6 Qdn Qdl) ?_
      refine wv (vf Qdh rfl Qfa) ?_
      refine wv (fun W hm => Qaw Qdv rfl rfl ((hm.cell0 (show ((a13.add (k6 * 7)).add 6).block < w.heap.size from by rw [Qah, Qah]; exact hb14.1)).trans (hc16 6 _ rfl))) ?_
      refine wm ?_
      refine wcv (Qr Qze rfl) (fun W hm => Qaao W _ ((gt x0 k6).Rows) (IntKind.i64.wrap ((IntKind.i64.wrap ((Qam ((gt x0 k6).Query.Out) (Qcn ((gt x0 k6).Query.Conds) (IntKind.i64.wrap ((IntKind.i64.wrap (s7 + 1)) + 1)))) + 1)) + 1)) (hm.rdS0 r38)) ?_
      refine wa (nt' (sr (wm ?_)))
      refine wv Qak ?_
      refine nt' ?_
      by_cases h51 : (Qhc ((gt x0 k6).Rows) (IntKind.i64.wrap ((IntKind.i64.wrap ((Qam ((gt x0 k6).Query.Out) (Qcn ((gt x0 k6).Query.Conds) (IntKind.i64.wrap ((IntKind.i64.wrap (s7 + 1)) + 1)))) + 1)) + 1))) < 0
      ·have g52 := decide_eq_true h51
       refine Ql rfl g52 ?_
       refine sr (wa (nt' (Qj (Qy (Qe (Qe (Qy (Qe ?_))))))))
       exact rti (h := Qba (Qbc (body := F1) (k := k6) (s := s7) (show k6 < x0.length from by omega) (Qc g40 (Qc g42 (Qc g44 (Qc g46 (Qc g48 (Qc g50 (Qb g52 (rfl)))))))) hF9) rfl)
      have g52 := decide_eq_false h51
      refine Qp rfl g52 ?_
      refine Qq (Qax (Qi (Qad (wm ?_))))
      refine wv (Qbd k6 1 (by omega)) ?_
      refine wa (Qal ?_)
      have hn53 := Qbb (R := Int) (body := F1) (k := k6) (s := s7) (s' := (Qhc ((gt x0 k6).Rows) (IntKind.i64.wrap ((IntKind.i64.wrap ((Qam ((gt x0 k6).Query.Out) (Qcn ((gt x0 k6).Query.Conds) (IntKind.i64.wrap ((IntKind.i64.wrap (s7 + 1)) + 1)))) + 1)) + 1)))) (show k6 < x0.length from by omega) (Qc g40 (Qc g42 (Qc g44 (Qc g46 (Qc g48 (Qc g50 (Qc g52 (rfl)))))))) hF9
      exact Qaz (k6 + 1, (Qhc ((gt x0 k6).Rows) (IntKind.i64.wrap ((IntKind.i64.wrap ((Qam ((gt x0 k6).Query.Out) (Qcn ((gt x0 k6).Query.Conds) (IntKind.i64.wrap ((IntKind.i64.wrap (s7 + 1)) + 1)))) + 1)) + 1))), ()) sl3 (fun W hm => hm) ⟨(by omega), hn53⟩ (rl (by omega))
     have g50 : (((gt x0 k6).Steps) != (IntKind.i64.wrap ((Qam ((gt x0 k6).Query.Out) (Qcn ((gt x0 k6).Query.Conds) (IntKind.i64.wrap ((IntKind.i64.wrap (s7 + 1)) + 1)))) + 1))) = true := bne_iff_ne.2 h49
     refine Ql rfl g50 ?_
     refine sr (wa (nt' (Qj (Qe (Qy (Qe (Qe (Qy (Qe ?_)))))))))
     exact rti (h := Qba (Qbc (body := F1) (k := k6) (s := s7) (show k6 < x0.length from by omega) (Qc g40 (Qc g42 (Qc g44 (Qc g46 (Qc g48 (Qb g50 (rfl))))))) hF9) rfl)
    have g48 : (((gt x0 k6).Time) != (Qam ((gt x0 k6).Query.Out) (Qcn ((gt x0 k6).Query.Conds) (IntKind.i64.wrap ((IntKind.i64.wrap (s7 + 1)) + 1))))) = true := bne_iff_ne.2 h47
    refine Ql rfl g48 ?_
    refine sr (wa (nt' (Qj (Qe (Qy (Qe (Qe (Qy (Qe ?_)))))))))
    exact rti (h := Qba (Qbc (body := F1) (k := k6) (s := s7) (show k6 < x0.length from by omega) (Qc g40 (Qc g42 (Qc g44 (Qc g46 (Qb g48 (rfl)))))) hF9) rfl)
   have g42 : (((gt x0 k6).Query.Tenant) != (IntKind.i64.wrap (s7 + 1))) = true := bne_iff_ne.2 h41
   refine Ql rfl g42 ?_
   refine sr (wa (nt' (Qj (Qe (Qy (Qe (Qe (Qy (Qe ?_)))))))))
   exact rti (h := Qba (Qbc (body := F1) (k := k6) (s := s7) (show k6 < x0.length from by omega) (Qc g40 (Qb g42 (rfl))) hF9) rfl)
  have g40 : (((gt x0 k6).Query.Id) != s7) = true := bne_iff_ne.2 h39
  refine Ql rfl g40 ?_
  refine sr (wa (nt' (Qj (Qe (Qy (Qe (Qe (Qy (Qe ?_)))))))))
  exact rti (h := Qba (Qbc (body := F1) (k := k6) (s := s7) (show k6 < x0.length from by omega) (Qb g40 (rfl)) hF9) rfl)
 have g12 := dlF hl11
 refine Qp rfl g12 ?_
 refine Qbk (Qac (Qac ?_))
 have hE54 : R2 (x0.length - 0) 0 x1 = Sum.inr s7 := Qbn hl11 hF9
 refine Qbm (Qi (sr (wm (wa (nt' (Qj ?_))))))
 exact rti (h := Qat hE54 (rfl))

def Quz (x0 : (List Qay)) (k6 : Nat) (s7 : Int) : Int ⊕ (Int) :=
 cond (((gt x0 k6).Segment) != s7) (Sum.inl (-1)) (cond (((gt x0 k6).Base) != (IntKind.i64.wrap (s7 + 1))) (Sum.inl (-1)) (cond (decide ((Qam ((gt x0 k6).Ids) (IntKind.i64.wrap ((IntKind.i64.wrap (s7 + 1)) + 1))) < 0)) (Sum.inl (-1)) (cond (decide ((Qam ((gt x0 k6).Tenants) (Qam ((gt x0 k6).Ids) (IntKind.i64.wrap ((IntKind.i64.wrap (s7 + 1)) + 1)))) < 0)) (Sum.inl (-1)) (cond (decide ((Qam ((gt x0 k6).Rows) (Qam ((gt x0 k6).Tenants) (Qam ((gt x0 k6).Ids) (IntKind.i64.wrap ((IntKind.i64.wrap (s7 + 1)) + 1))))) < 0)) (Sum.inl (-1)) (Sum.inr (Qam ((gt x0 k6).Rows) (Qam ((gt x0 k6).Tenants) (Qam ((gt x0 k6).Ids) (IntKind.i64.wrap ((IntKind.i64.wrap (s7 + 1)) + 1))))))))))
def Qqb (x0 : (List Qay)) (x1 : Int) : Int :=
 Sum.elim id (fun (s : Int) => s) (rng (R := Int) (fun k (s : Int) => Quz x0 k s) (x0.length - 0) 0 x1)
theorem Qagf : Cb Tryz.prog 142 := ⟨f142, _, func142, rfl, by decide⟩
theorem Qamr (w : World) (z0 : Value) (x0 : (List Qay)) (x1 : Int) (r_0 : rdS Qbx w w.heap.size z0 x0) :
  Calls Tryz.prog 142 #[z0, .int .i64 x1] w fun e w' => e = .returned (.int .i64 (Qqb x0 x1)) ∧ Below w.heap.size w w' := by
 obtain ⟨m1, A2, c3, rfl, q4, r5⟩ := Qk r_0
 refine ce2 (L := [(0, .slice A2 x0.length c3), (1, .int .i64 x1)]) (N := 58) func142 ?_
 refine sr (wa (nt' (Qf (sr (wa (nt' (Qab ?_)))))))
 let F1 := fun k (s : Int) => Quz x0 k s
 let R2 := rng (R := Int) F1
 refine Qbl (σ := Nat × (Int) × (Unit)) (fun s => [(0, .slice A2 x0.length c3), (1, .int .i64 s.2.1), (5, .int .i64 ((s.1 : Nat) : Int))]) (fun s => []) (fun s => s.1 ≤ x0.length ∧ R2 (x0.length - s.1) s.1 s.2.1 = R2 (x0.length - 0) 0 x1) (fun s => x0.length - s.1) (0, x1, ()) sl3 (fun W hm => hm) ⟨(by omega), rfl⟩ ?_
 rintro ⟨k6, s7, ⟨⟩⟩ H10
 obtain ⟨hk8, hF9⟩ : k6 ≤ x0.length ∧ R2 (x0.length - k6) k6 s7 = R2 (x0.length - 0) 0 x1 := H10
 show CM Tryz.prog 58 _ _ _ _ [(0, .slice A2 x0.length c3), (1, .int .i64 s7), (5, .int .i64 ((k6 : Nat) : Int))] []
 refine Qf (sr (wm (wm ?_)))
 refine wv (Qai Qdt) ?_
 refine wv Qak ?_
 refine nt' ?_
 by_cases hl11 : k6 < x0.length
 ·have g12 := dlT hl11
  refine Ql rfl g12 ?_
  refine Qq (Qi (Qf (Qab (Qf (sr (wm (wm ?_)))))))
  obtain ⟨a13, rfl, hb14, he15⟩ := q4 (by omega)
  refine wv (vix 5 k6 Qdt Qdr) ?_
  refine wv (vf Qcm rfl Qh) ?_
  obtain ⟨_, e23, hc16⟩ := he15 k6 _ (Qca (show k6 < x0.length from by omega))
  obtain ⟨v17, v19, v21, rfl, r18, r20, r22⟩ := Qik e23
  obtain ⟨m24, A25, c26, rfl, q27, r28⟩ := Qk r18
  obtain ⟨m29, A30, c31, rfl, q32, r33⟩ := Qk r20
  obtain ⟨m34, A35, c36, rfl, q37, r38⟩ := Qk r22
  refine wv (fun W hm => Qaw Qt rfl rfl ((hm.cell0 (show ((a13.add (k6 * 5)).add 0).block < w.heap.size from by rw [Qah, Qah]; exact hb14.1)).trans (hc16 0 _ rfl))) ?_
  refine wm ?_
  refine wv Qcf ?_
  refine nt' ?_
  by_cases h39 : ((gt x0 k6).Segment) = s7
  ·have g40 : (((gt x0 k6).Segment) != s7) = false := by rw [h39]; exact bne_self_eq_false _
   refine Qp rfl g40 ?_
   refine Qq (Qi (sr (wm ?_)))
   refine wv Qdq ?_
   refine wa (nt' (Qf (sr (wm (wm ?_)))))
   refine wv (vix 5 k6 Qdt Qdr) ?_
   refine wv (vf Qcm rfl Qh) ?_
   refine wv (fun W hm => Qaw Qt rfl rfl ((hm.cell0 (show ((a13.add (k6 * 5)).add 1).block < w.heap.size from by rw [Qah, Qah]; exact hb14.1)).trans (hc16 1 _ rfl))) ?_
   refine wm ?_
   refine wv Qcf ?_
   refine nt' ?_
   by_cases h41 : ((gt x0 k6).Base) = (IntKind.i64.wrap (s7 + 1))
   ·have g42 : (((gt x0 k6).Base) != (IntKind.i64.wrap (s7 + 1))) = false := by rw [h41]; exact bne_self_eq_false _
    refine Qp rfl g42 ?_
    refine Qq (Qi (sr (wm ?_)))
    refine wv Qdq ?_
    refine wa (nt' (sr (wm (wm ?_))))
    refine wv (vix 5 k6 Qdt Qdr) ?_
    refine wv (vf Qcm rfl Qap) ?_
    refine wv (fun W hm => Qaw Qv rfl rfl ((hm.cell0 (show ((a13.add (k6 * 5)).add 2).block < w.heap.size from by rw [Qah, Qah]; exact hb14.1)).trans (hc16 2 _ rfl))) ?_
    refine wm ?_
    refine wcv (Qr Qkl rfl) (fun W hm => Qkq W _ ((gt x0 k6).Ids) (IntKind.i64.wrap ((IntKind.i64.wrap (s7 + 1)) + 1)) (hm.rdS0 r28)) ?_
    refine wa (nt' (Qf (sr (wm ?_))))
    refine wv Qak ?_
    refine nt' ?_
    by_cases h43 : (Qam ((gt x0 k6).Ids) (IntKind.i64.wrap ((IntKind.i64.wrap (s7 + 1)) + 1))) < 0
    ·have g44 := decide_eq_true h43
     refine Ql rfl g44 ?_
     refine sr (wa (nt' (Qj (Qe (Qy (Qe (Qe (Qy (Qe ?_)))))))))
     exact rti (h := Qba (Qbc (body := F1) (k := k6) (s := s7) (show k6 < x0.length from by omega) (Qc g40 (Qc g42 (Qb g44 (rfl)))) hF9) rfl)
    have g44 := decide_eq_false h43
    refine Qp rfl g44 ?_
    refine Qq (Qi (sr (wm (wm ?_))))
    refine wv (vix 5 k6 Qdt Qdr) ?_
    refine wv (vf Qcm rfl Qap) ?_
    refine wv (fun W hm => Qaw Qv rfl rfl ((hm.cell0 (show ((a13.add (k6 * 5)).add 3).block < w.heap.size from by rw [Qah, Qah]; exact hb14.1)).trans (hc16 3 _ rfl))) ?_
    refine wm ?_
    refine wcv (Qr Qkl rfl) (fun W hm => Qkq W _ ((gt x0 k6).Tenants) (Qam ((gt x0 k6).Ids) (IntKind.i64.wrap ((IntKind.i64.wrap (s7 + 1)) + 1))) (hm.rdS0 r33)) ?_
    refine wa (nt' (Qf (sr (wm ?_))))
    refine wv Qak ?_
    refine nt' ?_
    by_cases h45 : (Qam ((gt x0 k6).Tenants) (Qam ((gt x0 k6).Ids) (IntKind.i64.wrap ((IntKind.i64.wrap (s7 + 1)) + 1)))) < 0
    ·have g46 := decide_eq_true h45
     refine Ql rfl g46 ?_
     refine sr (wa (nt' (Qj (Qe (Qy (Qe (Qe (Qy (Qe ?_)))))))))
     exact rti (h := Qba (Qbc (body := F1) (k := k6) (s := s7) (show k6 < x0.length from by omega) (Qc g40 (Qc g42 (Qc g44 (Qb g46 (rfl))))) hF9) rfl)
    have g46 := decide_eq_false h45
    refine Qp rfl g46 ?_
    refine Qq (Qi (sr (wm (wm ?_))))
    refine wv (vix 5 k6 Qdt Qdr) ?_
    refine wv (vf Qcm rfl Qap) ?_
    refine wv (fun W hm => Qaw Qv rfl rfl ((hm.cell0 (show ((a13.add (k6 * 5)).add 4).block < w.heap.size from by rw [Qah, Qah]; exact hb14.1)).trans (hc16 4 _ rfl))) ?_
    refine wm ?_
    refine wcv (Qr Qkl rfl) (fun W hm => Qkq W _ ((gt x0 k6).Rows) (Qam ((gt x0 k6).Tenants) (Qam ((gt x0 k6).Ids) (IntKind.i64.wrap ((IntKind.i64.wrap (s7 + 1)) + 1)))) (hm.rdS0 r38)) ?_
    refine wa (nt' (sr (wm ?_)))
    refine wv Qak ?_
    refine nt' ?_
    by_cases h47 : (Qam ((gt x0 k6).Rows) (Qam ((gt x0 k6).Tenants) (Qam ((gt x0 k6).Ids) (IntKind.i64.wrap ((IntKind.i64.wrap (s7 + 1)) + 1))))) < 0
    ·have g48 := decide_eq_true h47
     refine Ql rfl g48 ?_
     refine sr (wa (nt' (Qj (Qy (Qe (Qe (Qy (Qe ?_))))))))
     exact rti (h := Qba (Qbc (body := F1) (k := k6) (s := s7) (show k6 < x0.length from by omega) (Qc g40 (Qc g42 (Qc g44 (Qc g46 (Qb g48 (rfl)))))) hF9) rfl)
    have g48 := decide_eq_false h47
    refine Qp rfl g48 ?_
    refine Qq (Qax (Qi (Qad (wm ?_))))
    refine wv (Qbd k6 1 (by omega)) ?_
    refine wa (Qal ?_)
    have hn49 := Qbb (R := Int) (body := F1) (k := k6) (s := s7) (s' := (Qam ((gt x0 k6).Rows) (Qam ((gt x0 k6).Tenants) (Qam ((gt x0 k6).Ids) (IntKind.i64.wrap ((IntKind.i64.wrap (s7 + 1)) + 1)))))) (show k6 < x0.length from by omega) (Qc g40 (Qc g42 (Qc g44 (Qc g46 (Qc g48 (rfl)))))) hF9
    exact Qaz (k6 + 1, (Qam ((gt x0 k6).Rows) (Qam ((gt x0 k6).Tenants) (Qam ((gt x0 k6).Ids) (IntKind.i64.wrap ((IntKind.i64.wrap (s7 + 1)) + 1))))), ()) sl3 (fun W hm => hm) ⟨(by omega), hn49⟩ (rl (by omega))
   have g42 : (((gt x0 k6).Base) != (IntKind.i64.wrap (s7 + 1))) = true := bne_iff_ne.2 h41
   refine Ql rfl g42 ?_
   refine sr (wa (nt' (Qj (Qe (Qy (Qe (Qe (Qy (Qe ?_)))))))))
   exact rti (h := Qba (Qbc (body := F1) (k := k6) (s := s7) (show k6 < x0.length from by omega) (Qc g40 (Qb g42 (rfl))) hF9) rfl)
  have g40 : (((gt x0 k6).Segment) != s7) = true := bne_iff_ne.2 h39
  refine Ql rfl g40 ?_
  refine sr (wa (nt' (Qj (Qe (Qy (Qe (Qe (Qy (Qe ?_)))))))))
  exact rti (h := Qba (Qbc (body := F1) (k := k6) (s := s7) (show k6 < x0.length from by omega) (Qb g40 (rfl)) hF9) rfl)
 have g12 := dlF hl11
 refine Qp rfl g12 ?_
 refine Qbk (Qac (Qac ?_))
 have hE50 : R2 (x0.length - 0) 0 x1 = Sum.inr s7 := Qbn hl11 hF9
 refine Qbm (Qi (sr (wm (wa (nt' (Qj ?_))))))
 exact rti (h := Qat hE50 (rfl))

def Qjy (x0 : Qag) (x1 : Int) : Int :=
 cond (decide ((Qgn x0.Store x1) < 0)) (-1) (cond (decide ((Qam x0.Order (Qgn x0.Store x1)) < 0)) (-1) (cond (decide ((Qje x0.Active (Qam x0.Order (Qgn x0.Store x1))) < 0)) (-1) (cond (decide ((Qlv x0.Done (Qje x0.Active (Qam x0.Order (Qgn x0.Store x1)))) < 0)) (-1) (cond (decide ((Qqb x0.Ledger (Qlv x0.Done (Qje x0.Active (Qam x0.Order (Qgn x0.Store x1))))) < 0)) (-1) (Qqb x0.Ledger (Qlv x0.Done (Qje x0.Active (Qam x0.Order (Qgn x0.Store x1)))))))))
theorem Qyy : Cb Tryz.prog 51 := ⟨f51, _, func51, rfl, by decide⟩
theorem Qaan (w : World) (z0 : List Value) (x0 : Qag) (x1 : Int) (r_0 : Qdd.rd w w.heap.size z0 x0) :
  Calls Tryz.prog 51 #[.agg z0.toArray, .int .i64 x1] w fun e w' => e = .returned (.int .i64 (Qjy x0 x1)) ∧ Below w.heap.size w w' := by
 obtain ⟨v1, v3, v5, v7, v9, rfl, r2, r4, r6, r8, r10⟩ := Qki r_0
 obtain ⟨m11, A12, c13, rfl, q14, r15⟩ := Qk r2
 obtain ⟨m16, A17, c18, rfl, q19, r20⟩ := Qk r4
 obtain ⟨m21, A22, c23, rfl, q24, r25⟩ := Qk r6
 obtain ⟨m26, A27, c28, rfl, q29, r30⟩ := Qk r8
 obtain ⟨m31, A32, c33, rfl, q34, r35⟩ := Qk r10
 refine ce2 (L := [(0, .agg #[.slice A12 x0.Store.Segments.length c13, .int .i64 x0.Store.Now, .int .i64 x0.Cursor, .slice A17 x0.Order.length c18, .slice A22 x0.Active.length c23, .slice A27 x0.Done.length c28, .slice A32 x0.Ledger.length c33, .int .i64 x0.Steps]), (1, .int .i64 x1)]) (N := 36) func51 ?_
 refine sr ?_
 refine Qbj rfl (Qo rfl) (by decide) (fun p36 => ?_)
 refine wa (nt' (sr ?_))
 refine wv (vf Qaq rfl Qae) ?_
 refine wv (fun W hm => Qz (cs := [.slice A12 x0.Store.Segments.length c13, .int .i64 x0.Store.Now]) Qaf Qae rfl rfl (hm.boxPart (n := 0) rfl rfl)) ?_
 refine wm ?_
 refine wcv (Qr Qagb rfl) (fun W hm => Qamt W _ x0.Store x1 (Qeg (x := x0.Store) (hm.rdS0 r15))) ?_
 refine wa (nt' (Qf (sr (wm ?_))))
 refine wv Qak ?_
 refine nt' ?_
 by_cases h37 : (Qgn x0.Store x1) < 0
 ·have g38 := decide_eq_true h37
  refine Ql rfl g38 ?_
  refine sr (wa (nt' (Qj (Qe ?_))))
  exact rti (h := Qb g38 (rfl))
 have g38 := decide_eq_false h37
 refine Qp rfl g38 ?_
 refine Qq (Qi (sr ?_))
 refine wv (vf Qaq rfl Qap) ?_
 refine wv (vl 0 3 Qv) ?_
 refine wm ?_
 refine wcv (Qr Qkl rfl) (fun W hm => Qkq W _ x0.Order (Qgn x0.Store x1) (hm.rdS0 r20)) ?_
 refine wa (nt' (Qf (sr (wm ?_))))
 refine wv Qak ?_
 refine nt' ?_
 by_cases h39 : (Qam x0.Order (Qgn x0.Store x1)) < 0
 ·have g40 := decide_eq_true h39
  refine Ql rfl g40 ?_
  refine sr (wa (nt' (Qj (Qe ?_))))
  exact rti (h := Qc g38 (Qb g40 (rfl)))
 have g40 := decide_eq_false h39
 refine Qp rfl g40 ?_
 refine Qq (Qi (sr ?_))
 refine wv (vf Qaq rfl Qfn) ?_
 refine wv (vl 0 4 Qcj) ?_
 refine wm ?_
 refine wcv (Qr Qagd rfl) (fun W hm => Qamq W _ x0.Active (Qam x0.Order (Qgn x0.Store x1)) (hm.rdS0 r25)) ?_
 refine wa (nt' (Qf (sr (wm ?_))))
 refine wv Qak ?_
 refine nt' ?_
 by_cases h41 : (Qje x0.Active (Qam x0.Order (Qgn x0.Store x1))) < 0
 ·have g42 := decide_eq_true h41
  refine Ql rfl g42 ?_
  refine sr (wa (nt' (Qj (Qe ?_))))
  exact rti (h := Qc g38 (Qc g40 (Qb g42 (rfl))))
 have g42 := decide_eq_false h41
 refine Qp rfl g42 ?_
 refine Qq (Qi (sr ?_))
 refine wv (vf Qaq rfl type44) ?_
 refine wv (vl 0 5 Qdn) ?_
 refine wm ?_
 refine wcv (Qr Qage rfl) (fun W hm => Qams W _ x0.Done (Qje x0.Active (Qam x0.Order (Qgn x0.Store x1))) (hm.rdS0 r30)) ?_
 refine wa (nt' (Qf (sr (wm ?_))))
 refine wv Qak ?_
 refine nt' ?_
 by_cases h43 : (Qlv x0.Done (Qje x0.Active (Qam x0.Order (Qgn x0.Store x1)))) < 0
 ·have g44 := decide_eq_true h43
  refine Ql rfl g44 ?_
  refine sr (wa (nt' (Qj (Qe ?_))))
  exact rti (h := Qc g38 (Qc g40 (Qc g42 (Qb g44 (rfl)))))
 have g44 := decide_eq_false h43
 refine Qp rfl g44 ?_
 refine Qq (Qi (sr ?_))
 refine wv (vf Qaq rfl type45) ?_
 refine wv (vl 0 6 Qdt) ?_
 refine wm ?_
 refine wcv (Qr Qagf rfl) (fun W hm => Qamr W _ x0.Ledger (Qlv x0.Done (Qje x0.Active (Qam x0.Order (Qgn x0.Store x1)))) (hm.rdS0 r35)) ?_
 refine wa (nt' (Qf (sr (wm ?_))))
 refine wv Qak ?_
 refine nt' ?_
 by_cases h45 : (Qqb x0.Ledger (Qlv x0.Done (Qje x0.Active (Qam x0.Order (Qgn x0.Store x1))))) < 0
 ·have g46 := decide_eq_true h45
  refine Ql rfl g46 ?_
  refine sr (wa (nt' (Qj (Qe ?_))))
  exact rti (h := Qc g38 (Qc g40 (Qc g42 (Qc g44 (Qb g46 (rfl))))))
 have g46 := decide_eq_false h45
 refine Qp rfl g46 ?_
 refine Qq (Qi (sr (wm (wa (nt' (Qj ?_))))))
 exact rti (h := Qc g38 (Qc g40 (Qc g42 (Qc g44 (Qc g46 (rfl))))))

end Go.Proofs.YtmikmbmdibabmaaGreat
