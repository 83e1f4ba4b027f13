/-
  Contracts of functions, printed by a program of ours.
-/
import Derived.Test.YtdlminfjdodjoaaGreatL4F5
namespace Go.Proofs.YtdlminfjdodjoaaGreat
open Go.RowKit
set_option maxRecDepth 100000
set_option maxHeartbeats 4000000
open _root_.Go.Proofs.Tryz
def Qzp (k5 : Nat) (s6 : Int) (d7 : (List Qw)) : (Int × (List Qw)) ⊕ (Int × (List Qw)) :=
 Sum.inr ((Qgg ((gt d7 k5).Rows) (IntKind.i64.wrap ((IntKind.i64.wrap ((IntKind.i64.wrap (((Qv ((gt d7 k5).Todo) (IntKind.i64.wrap (((Qv ((gt d7 k5).Query.Out) ((Qbi ((gt d7 k5).Query.Conds) (IntKind.i64.wrap ((IntKind.i64.wrap (s6 + 1)) + 1))).1)).1) + 1))).1) + 1)) + 1)) + 1))).1, (d7.set k5 (⟨(⟨s6, (IntKind.i64.wrap (s6 + 1)), (Qbi ((gt d7 k5).Query.Conds) (IntKind.i64.wrap ((IntKind.i64.wrap (s6 + 1)) + 1))).2, (Qv ((gt d7 k5).Query.Out) ((Qbi ((gt d7 k5).Query.Conds) (IntKind.i64.wrap ((IntKind.i64.wrap (s6 + 1)) + 1))).1)).2⟩ : Qat), (Qv ((gt d7 k5).Query.Out) ((Qbi ((gt d7 k5).Query.Conds) (IntKind.i64.wrap ((IntKind.i64.wrap (s6 + 1)) + 1))).1)).1, (Qv ((gt d7 k5).Todo) (IntKind.i64.wrap (((Qv ((gt d7 k5).Query.Out) ((Qbi ((gt d7 k5).Query.Conds) (IntKind.i64.wrap ((IntKind.i64.wrap (s6 + 1)) + 1))).1)).1) + 1))).2, (Qv ((gt d7 k5).Todo) (IntKind.i64.wrap (((Qv ((gt d7 k5).Query.Out) ((Qbi ((gt d7 k5).Query.Conds) (IntKind.i64.wrap ((IntKind.i64.wrap (s6 + 1)) + 1))).1)).1) + 1))).1, (IntKind.i64.wrap (((Qv ((gt d7 k5).Todo) (IntKind.i64.wrap (((Qv ((gt d7 k5).Query.Out) ((Qbi ((gt d7 k5).Query.Conds) (IntKind.i64.wrap ((IntKind.i64.wrap (s6 + 1)) + 1))).1)).1) + 1))).1) + 1)), (IntKind.i64.wrap ((IntKind.i64.wrap (((Qv ((gt d7 k5).Todo) (IntKind.i64.wrap (((Qv ((gt d7 k5).Query.Out) ((Qbi ((gt d7 k5).Query.Conds) (IntKind.i64.wrap ((IntKind.i64.wrap (s6 + 1)) + 1))).1)).1) + 1))).1) + 1)) + 1)), (Qgg ((gt d7 k5).Rows) (IntKind.i64.wrap ((IntKind.i64.wrap ((IntKind.i64.wrap (((Qv ((gt d7 k5).Todo) (IntKind.i64.wrap (((Qv ((gt d7 k5).Query.Out) ((Qbi ((gt d7 k5).Query.Conds) (IntKind.i64.wrap ((IntKind.i64.wrap (s6 + 1)) + 1))).1)).1) + 1))).1) + 1)) + 1)) + 1))).2⟩ : Qw)))
def Qfp (x0 : (List Qw)) (x1 : Int) : (Int × (List Qw)) :=
 Sum.elim id (fun (s : Int × (List Qw)) => (s.1, s.2)) (rng (R := (Int × (List Qw))) (fun k (s : Int × (List Qw)) => Qzp k s.1 s.2) (x0.length - 0) 0 (x1, x0))
theorem cb80 : Cb Tryz.prog 80 := ⟨f80, _, func80, rfl, by decide⟩
theorem Qavw (B : Nat) (w0 : World) (is : List It) (w : World) (z0 : Value) (x0 : (List Qw)) (x1 : Int) (hm : Mem B w0 (Qn (tSl Qah 61) [z0] x0 :: is) w) :
  Calls Tryz.prog 80 #[z0, iV x1] w fun e w' => e = .returned (iV (Qfp x0 x1).1) ∧ Mem B w0 (Qn (tSl Qah 61) [z0] (Qfp x0 x1).2 :: is) w' := by
 refine Qif (L := [(0, z0), (1, iV x1)]) (N := 87) func80 rfl rfl (Nat.le_of_ble_eq_true rfl) (Qec rfl (Qec rfl Qha)) hm ?_
 refine Qdc (n := 0) rfl ?_
 rintro A1 c2 rfl m3
 refine sr (wa (nt' (Qe (sr (wa (nt' (Qx ?_)))))))
 refine Qbg (S := Int × (List Qw)) (R := Unit) (fun k (s : Int × (List Qw)) => Qzp k s.1 s.2) x0.length 0 (x1, x0) () (fun s => [(0, .slice A1 x0.length c2), (1, iV s.2.1.1), (5, nI s.1)]) (fun s => (Qn (tSl Qah 61) [.slice A1 x0.length c2] s.2.1.2 :: is)) (fun s => True) sl3 trivial ?_
 rintro ⟨k5, ⟨s6, d7⟩, ⟨⟩⟩ H10 _ _ e e'
 dsimp only at H10 ⊢
 subst e e'
 obtain ⟨hk8, hF9, _⟩ := H10
 refine Qe (sr (wm (wm ?_)))
 refine wv (Qag Qax) ?_
 refine wv Qai ?_
 refine nt' ?_
 rcases dcl k5 x0.length with ⟨hl11, g12⟩ | ⟨hl11, g12⟩
 ·
  refine Ql rfl g12 ?_
  refine Qp (Qd (Qe (Qx (sr ?_))))
  iterate 3 refine wm ?_
  refine Qhy (n := 0) rfl (by omega) ?_
  rintro g13 rfl
  refine wv (vix 10 k5 Qax Qbe) ?_
  refine wv (vf Qaj rfl Qbj) ?_
  refine wv (fun W hm => Qeb (o := 0) Qbq rfl Qf (by decide) rfl rfl) ?_
  refine Qjx (E := Qah) (e := 61) (A := (sA g13)) (n := x0.length) (c := c2) (xs := d7) (k := k5) (js := (is)) (by omega) (fun W hm => (hm.front (n := 0) rfl)) (fun ck14 => ?_)
  refine Qof ?_
  rintro ⟨v15, v16, v17, v18⟩ rfl
  refine fm 0 ?_
  rintro A19 c20 rfl m21
  refine fm 1 ?_
  rintro A23 c24 rfl m25
  refine fm 2 ?_
  rintro A27 c28 rfl m29
  refine fm 3 ?_
  rintro A31 c32 rfl m33
  let J9 : List It := iS Qap 70 A31 c32 ((gt d7 k5).Rows) :: is
  let J10 : List It := iS Qa 3 A23 c24 ((gt d7 k5).Query.Out) :: iS Qa 3 A27 c28 ((gt d7 k5).Todo) :: J9
  refine sf 0 10 [iV s6, iV ((gt d7 k5).Query.Tenant), .slice A19 ((gt d7 k5).Query.Conds).length c20, .slice A23 ((gt d7 k5).Query.Out).length c24, iV ((gt d7 k5).Time), .slice A27 ((gt d7 k5).Todo).length c28, iV ((gt d7 k5).Age), iV ((gt d7 k5).Sent), iV ((gt d7 k5).Cap), .slice A31 ((gt d7 k5).Rows).length c32] (iS Qbl 180 A19 c20 ((gt d7 k5).Query.Conds) :: J10) (fun W hm => (hm.front (n := 4) rfl)) Qf ?_
  refine nt' (sr (wm ?_))
  refine wv Qcy ?_
  refine wa (nt' (sr ?_))
  iterate 3 refine wm ?_
  refine wv (vix 10 k5 Qax Qbe) ?_
  refine wv (vf Qaj rfl Qbj) ?_
  refine wv (fun W hm => Qeb (o := 1) Qbq rfl Qf (by decide) rfl rfl) ?_
  let K1 : List Value := [iV s6, iV (IntKind.i64.wrap (s6 + 1)), .slice A19 ((gt d7 k5).Query.Conds).length c20, .slice A23 ((gt d7 k5).Query.Out).length c24, iV ((gt d7 k5).Time), .slice A27 ((gt d7 k5).Todo).length c28, iV ((gt d7 k5).Age), iV ((gt d7 k5).Sent), iV ((gt d7 k5).Cap), .slice A31 ((gt d7 k5).Rows).length c32]
  refine sf 1 10 K1 (iS Qbl 180 A19 c20 ((gt d7 k5).Query.Conds) :: J10) (fun W hm => (hm.front (n := 0) rfl)) Qf ?_
  refine nt' (sr (wm ?_))
  refine wv Qcy ?_
  refine wa (nt' (sr (wm (wm ?_))))
  refine wv (vix 10 k5 Qax Qbe) ?_
  refine wv (vf Qaj rfl Qbj) ?_
  refine wv (fun W hm => Qeb (o := 2) Qbq rfl Qfu (by decide) rfl rfl) ?_
  refine wv (fun W hm => Qaw Qct rfl rfl (hm.focCells (i := 0) rfl rfl 2 _ rfl)) ?_
  refine wm ?_
  let I4 : It := Qdf Qah 61 (sA g13) x0.length c2 d7 k5 K1
  refine cw (Qr Qado rfl) (fun W hm => Qage B w0 (I4 :: J10) W (.slice A19 ((gt d7 k5).Query.Conds).length c20) ((gt d7 k5).Query.Conds) (IntKind.i64.wrap ((IntKind.i64.wrap (s6 + 1)) + 1)) (hm.front (n := 1) rfl)) ?_
  refine wa (nt' (sr (wm (wm ?_))))
  refine wv (vix 10 k5 Qax Qbe) ?_
  refine wv (vf Qaj rfl Qbj) ?_
  refine wv (fun W hm => Qeb (o := 3) Qbq rfl Qao (by decide) rfl rfl) ?_
  refine wv (fun W hm => Qaw Qq rfl rfl (hm.focCells (i := 1) rfl rfl 3 _ rfl)) ?_
  refine wm ?_
  let I5 : It := Qn (tSl Qbl 180) [.slice A19 ((gt d7 k5).Query.Conds).length c20] ((Qbi ((gt d7 k5).Query.Conds) (IntKind.i64.wrap ((IntKind.i64.wrap (s6 + 1)) + 1))).2)
  refine cw (Qr Qmg rfl) (fun W hm => Qmo B w0 (I5 :: I4 :: iS Qa 3 A27 c28 ((gt d7 k5).Todo) :: J9) W (.slice A23 ((gt d7 k5).Query.Out).length c24) ((gt d7 k5).Query.Out) ((Qbi ((gt d7 k5).Query.Conds) (IntKind.i64.wrap ((IntKind.i64.wrap (s6 + 1)) + 1))).1) (hm.front (n := 2) rfl)) ?_
  refine wa (nt' (sr ?_))
  iterate 3 refine wm ?_
  refine wv (vix 10 k5 Qax Qbe) ?_
  refine wv (vf Qaj rfl Qf) ?_
  let K2 : List Value := [iV s6, iV (IntKind.i64.wrap (s6 + 1)), .slice A19 ((gt d7 k5).Query.Conds).length c20, .slice A23 ((gt d7 k5).Query.Out).length c24, iV ((Qv ((gt d7 k5).Query.Out) ((Qbi ((gt d7 k5).Query.Conds) (IntKind.i64.wrap ((IntKind.i64.wrap (s6 + 1)) + 1))).1)).1), .slice A27 ((gt d7 k5).Todo).length c28, iV ((gt d7 k5).Age), iV ((gt d7 k5).Sent), iV ((gt d7 k5).Cap), .slice A31 ((gt d7 k5).Rows).length c32]
  let I6 : It := Qn (tSl Qa 3) [.slice A23 ((gt d7 k5).Query.Out).length c24] ((Qv ((gt d7 k5).Query.Out) ((Qbi ((gt d7 k5).Query.Conds) (IntKind.i64.wrap ((IntKind.i64.wrap (s6 + 1)) + 1))).1)).2)
  refine sf 4 10 K2 (I6 :: I5 :: iS Qa 3 A27 c28 ((gt d7 k5).Todo) :: J9) (fun W hm => (hm.front (n := 2) rfl)) Qf ?_
  refine nt' (sr (wm ?_))
  refine wv Qcy ?_
  refine wa (nt' (sr (wm (wm ?_))))
  refine wv (vix 10 k5 Qax Qbe) ?_
  refine wv (vf Qaj rfl Qao) ?_
  refine wv (fun W hm => Qaw Qq rfl rfl (hm.focCells (i := 0) rfl rfl 5 _ rfl)) ?_
  refine wm ?_
  refine cw (Qr Qmg rfl) (fun W hm => Qmo B w0 (Qdf Qah 61 (sA g13) x0.length c2 d7 k5 K2 :: I6 :: I5 :: J9) W (.slice A27 ((gt d7 k5).Todo).length c28) ((gt d7 k5).Todo) (IntKind.i64.wrap (((Qv ((gt d7 k5).Query.Out) ((Qbi ((gt d7 k5).Query.Conds) (IntKind.i64.wrap ((IntKind.i64.wrap (s6 + 1)) + 1))).1)).1) + 1)) (hm.front (n := 3) rfl)) ?_
  refine wa (nt' (sr ?_))
  iterate 3 refine wm ?_
  refine wv (vix 10 k5 Qax Qbe) ?_
  refine wv (vf Qaj rfl Qf) ?_
  let I7 : It := Qn (tSl Qa 3) [.slice A27 ((gt d7 k5).Todo).length c28] ((Qv ((gt d7 k5).Todo) (IntKind.i64.wrap (((Qv ((gt d7 k5).Query.Out) ((Qbi ((gt d7 k5).Query.Conds) (IntKind.i64.wrap ((IntKind.i64.wrap (s6 + 1)) + 1))).1)).1) + 1))).2)
  refine sf 6 10 [iV s6, iV (IntKind.i64.wrap (s6 + 1)), .slice A19 ((gt d7 k5).Query.Conds).length c20, .slice A23 ((gt d7 k5).Query.Out).length c24, iV ((Qv ((gt d7 k5).Query.Out) ((Qbi ((gt d7 k5).Query.Conds) (IntKind.i64.wrap ((IntKind.i64.wrap (s6 + 1)) + 1))).1)).1), .slice A27 ((gt d7 k5).Todo).length c28, iV ((Qv ((gt d7 k5).Todo) (IntKind.i64.wrap (((Qv ((gt d7 k5).Query.Out) ((Qbi ((gt d7 k5).Query.Conds) (IntKind.i64.wrap ((IntKind.i64.wrap (s6 + 1)) + 1))).1)).1) + 1))).1), iV ((gt d7 k5).Sent), iV ((gt d7 k5).Cap), .slice A31 ((gt d7 k5).Rows).length c32] (I7 :: I6 :: I5 :: J9) (fun W hm => (hm.front (n := 1) rfl)) Qf ?_
  refine nt' (sr (wm ?_))
  refine wv Qcy ?_
  refine wa (nt' (sr ?_))
  iterate 3 refine wm ?_
  refine wv (vix 10 k5 Qax Qbe) ?_
  refine wv (vf Qaj rfl Qf) ?_
  refine sf 7 10 [iV s6, iV (IntKind.i64.wrap (s6 + 1)), .slice A19 ((gt d7 k5).Query.Conds).length c20, .slice A23 ((gt d7 k5).Query.Out).length c24, iV ((Qv ((gt d7 k5).Query.Out) ((Qbi ((gt d7 k5).Query.Conds) (IntKind.i64.wrap ((IntKind.i64.wrap (s6 + 1)) + 1))).1)).1), .slice A27 ((gt d7 k5).Todo).length c28, iV ((Qv ((gt d7 k5).Todo) (IntKind.i64.wrap (((Qv ((gt d7 k5).Query.Out) ((Qbi ((gt d7 k5).Query.Conds) (IntKind.i64.wrap ((IntKind.i64.wrap (s6 + 1)) + 1))).1)).1) + 1))).1), iV (IntKind.i64.wrap (((Qv ((gt d7 k5).Todo) (IntKind.i64.wrap (((Qv ((gt d7 k5).Query.Out) ((Qbi ((gt d7 k5).Query.Conds) (IntKind.i64.wrap ((IntKind.i64.wrap (s6 + 1)) + 1))).1)).1) + 1))).1) + 1)), iV ((gt d7 k5).Cap), .slice A31 ((gt d7 k5).Rows).length c32] (I7 :: I6 :: I5 :: J9) (fun W hm => (hm.front (n := 0) rfl)) Qf ?_
  refine nt' (sr (wm ?_))
  refine wv Qcy ?_
  refine wa (nt' (sr ?_))
  iterate 3 refine wm ?_
  refine wv (vix 10 k5 Qax Qbe) ?_
  refine wv (vf Qaj rfl Qf) ?_
  let K3 : List Value := [iV s6, iV (IntKind.i64.wrap (s6 + 1)), .slice A19 ((gt d7 k5).Query.Conds).length c20, .slice A23 ((gt d7 k5).Query.Out).length c24, iV ((Qv ((gt d7 k5).Query.Out) ((Qbi ((gt d7 k5).Query.Conds) (IntKind.i64.wrap ((IntKind.i64.wrap (s6 + 1)) + 1))).1)).1), .slice A27 ((gt d7 k5).Todo).length c28, iV ((Qv ((gt d7 k5).Todo) (IntKind.i64.wrap (((Qv ((gt d7 k5).Query.Out) ((Qbi ((gt d7 k5).Query.Conds) (IntKind.i64.wrap ((IntKind.i64.wrap (s6 + 1)) + 1))).1)).1) + 1))).1), iV (IntKind.i64.wrap (((Qv ((gt d7 k5).Todo) (IntKind.i64.wrap (((Qv ((gt d7 k5).Query.Out) ((Qbi ((gt d7 k5).Query.Conds) (IntKind.i64.wrap ((IntKind.i64.wrap (s6 + 1)) + 1))).1)).1) + 1))).1) + 1)), iV (IntKind.i64.wrap ((IntKind.i64.wrap (((Qv ((gt d7 k5).Todo) (IntKind.i64.wrap (((Qv ((gt d7 k5).Query.Out) ((Qbi ((gt d7 k5).Query.Conds) (IntKind.i64.wrap ((IntKind.i64.wrap (s6 + 1)) + 1))).1)).1) + 1))).1) + 1)) + 1)), .slice A31 ((gt d7 k5).Rows).length c32]
  refine sf 8 10 K3 (I7 :: I6 :: I5 :: J9) (fun W hm => (hm.front (n := 0) rfl)) Qf ?_
  refine nt' (sr (wm ?_))
  refine wv Qcy ?_
  refine wa (nt' (Qy (wm (wm ?_))))
  refine wv (vix 10 k5 Qax Qbe) ?_
  refine wv (vf Qaj rfl Qdt) ?_
  refine wv (fun W hm => Qaw Qci rfl rfl (hm.focCells (i := 0) rfl rfl 9 _ rfl)) ?_
  refine wm ?_
  let I8 : It := Qdf Qah 61 (sA g13) x0.length c2 d7 k5 K3
  refine cw (Qr Qadp rfl) (fun W hm => Qagi B w0 (I8 :: I7 :: I6 :: I5 :: is) W (.slice A31 ((gt d7 k5).Rows).length c32) ((gt d7 k5).Rows) (IntKind.i64.wrap ((IntKind.i64.wrap ((IntKind.i64.wrap (((Qv ((gt d7 k5).Todo) (IntKind.i64.wrap (((Qv ((gt d7 k5).Query.Out) ((Qbi ((gt d7 k5).Query.Conds) (IntKind.i64.wrap ((IntKind.i64.wrap (s6 + 1)) + 1))).1)).1) + 1))).1) + 1)) + 1)) + 1)) (hm.front (n := 4) rfl)) ?_
  refine wa (Qac (Qam (Qd (Qy (wm ?_)))))
  refine wv (Qal k5 1 (by omega)) ?_
  refine wa (Qac ?_)
  refine Qdd (fun W hm => Mem.unfocus (Mem.join (is := [I5, I6, I7, Qn (tSl Qap 70) [.slice A31 ((gt d7 k5).Rows).length c32] ((Qgg ((gt d7 k5).Rows) (IntKind.i64.wrap ((IntKind.i64.wrap ((IntKind.i64.wrap (((Qv ((gt d7 k5).Todo) (IntKind.i64.wrap (((Qv ((gt d7 k5).Query.Out) ((Qbi ((gt d7 k5).Query.Conds) (IntKind.i64.wrap ((IntKind.i64.wrap (s6 + 1)) + 1))).1)).1) + 1))).1) + 1)) + 1)) + 1))).2)]) (js := (I8 :: (is))) (fun _ _ hs => Qho (x := (⟨(⟨s6, (IntKind.i64.wrap (s6 + 1)), (Qbi ((gt d7 k5).Query.Conds) (IntKind.i64.wrap ((IntKind.i64.wrap (s6 + 1)) + 1))).2, (Qv ((gt d7 k5).Query.Out) ((Qbi ((gt d7 k5).Query.Conds) (IntKind.i64.wrap ((IntKind.i64.wrap (s6 + 1)) + 1))).1)).2⟩ : Qat), (Qv ((gt d7 k5).Query.Out) ((Qbi ((gt d7 k5).Query.Conds) (IntKind.i64.wrap ((IntKind.i64.wrap (s6 + 1)) + 1))).1)).1, (Qv ((gt d7 k5).Todo) (IntKind.i64.wrap (((Qv ((gt d7 k5).Query.Out) ((Qbi ((gt d7 k5).Query.Conds) (IntKind.i64.wrap ((IntKind.i64.wrap (s6 + 1)) + 1))).1)).1) + 1))).2, (Qv ((gt d7 k5).Todo) (IntKind.i64.wrap (((Qv ((gt d7 k5).Query.Out) ((Qbi ((gt d7 k5).Query.Conds) (IntKind.i64.wrap ((IntKind.i64.wrap (s6 + 1)) + 1))).1)).1) + 1))).1, (IntKind.i64.wrap (((Qv ((gt d7 k5).Todo) (IntKind.i64.wrap (((Qv ((gt d7 k5).Query.Out) ((Qbi ((gt d7 k5).Query.Conds) (IntKind.i64.wrap ((IntKind.i64.wrap (s6 + 1)) + 1))).1)).1) + 1))).1) + 1)), (IntKind.i64.wrap ((IntKind.i64.wrap (((Qv ((gt d7 k5).Todo) (IntKind.i64.wrap (((Qv ((gt d7 k5).Query.Out) ((Qbi ((gt d7 k5).Query.Conds) (IntKind.i64.wrap ((IntKind.i64.wrap (s6 + 1)) + 1))).1)).1) + 1))).1) + 1)) + 1)), (Qgg ((gt d7 k5).Rows) (IntKind.i64.wrap ((IntKind.i64.wrap ((IntKind.i64.wrap (((Qv ((gt d7 k5).Todo) (IntKind.i64.wrap (((Qv ((gt d7 k5).Query.Out) ((Qbi ((gt d7 k5).Query.Conds) (IntKind.i64.wrap ((IntKind.i64.wrap (s6 + 1)) + 1))).1)).1) + 1))).1) + 1)) + 1)) + 1))).2⟩ : Qw)) hs) (((((hm.front (n := 1) rfl).front (n := 1) rfl).front (n := 2) rfl).front (n := 3) rfl).front (n := 4) rfl))) ?_
  exact Qan (k5 + 1, ((Qgg ((gt d7 k5).Rows) (IntKind.i64.wrap ((IntKind.i64.wrap ((IntKind.i64.wrap (((Qv ((gt d7 k5).Todo) (IntKind.i64.wrap (((Qv ((gt d7 k5).Query.Out) ((Qbi ((gt d7 k5).Query.Conds) (IntKind.i64.wrap ((IntKind.i64.wrap (s6 + 1)) + 1))).1)).1) + 1))).1) + 1)) + 1)) + 1))).1, (d7.set k5 (⟨(⟨s6, (IntKind.i64.wrap (s6 + 1)), (Qbi ((gt d7 k5).Query.Conds) (IntKind.i64.wrap ((IntKind.i64.wrap (s6 + 1)) + 1))).2, (Qv ((gt d7 k5).Query.Out) ((Qbi ((gt d7 k5).Query.Conds) (IntKind.i64.wrap ((IntKind.i64.wrap (s6 + 1)) + 1))).1)).2⟩ : Qat), (Qv ((gt d7 k5).Query.Out) ((Qbi ((gt d7 k5).Query.Conds) (IntKind.i64.wrap ((IntKind.i64.wrap (s6 + 1)) + 1))).1)).1, (Qv ((gt d7 k5).Todo) (IntKind.i64.wrap (((Qv ((gt d7 k5).Query.Out) ((Qbi ((gt d7 k5).Query.Conds) (IntKind.i64.wrap ((IntKind.i64.wrap (s6 + 1)) + 1))).1)).1) + 1))).2, (Qv ((gt d7 k5).Todo) (IntKind.i64.wrap (((Qv ((gt d7 k5).Query.Out) ((Qbi ((gt d7 k5).Query.Conds) (IntKind.i64.wrap ((IntKind.i64.wrap (s6 + 1)) + 1))).1)).1) + 1))).1, (IntKind.i64.wrap (((Qv ((gt d7 k5).Todo) (IntKind.i64.wrap (((Qv ((gt d7 k5).Query.Out) ((Qbi ((gt d7 k5).Query.Conds) (IntKind.i64.wrap ((IntKind.i64.wrap (s6 + 1)) + 1))).1)).1) + 1))).1) + 1)), (IntKind.i64.wrap ((IntKind.i64.wrap (((Qv ((gt d7 k5).Todo) (IntKind.i64.wrap (((Qv ((gt d7 k5).Query.Out) ((Qbi ((gt d7 k5).Query.Conds) (IntKind.i64.wrap ((IntKind.i64.wrap (s6 + 1)) + 1))).1)).1) + 1))).1) + 1)) + 1)), (Qgg ((gt d7 k5).Rows) (IntKind.i64.wrap ((IntKind.i64.wrap ((IntKind.i64.wrap (((Qv ((gt d7 k5).Todo) (IntKind.i64.wrap (((Qv ((gt d7 k5).Query.Out) ((Qbi ((gt d7 k5).Query.Conds) (IntKind.i64.wrap ((IntKind.i64.wrap (s6 + 1)) + 1))).1)).1) + 1))).1) + 1)) + 1)) + 1))).2⟩ : Qw))), ()) sl3 idM ⟨(by omega), nx hF9 (rfl), trivial⟩ rl
 refine Qm rfl g12 ?_
 refine Qay (Qu (Qu ?_))
 have hE36 := Qbh hl11 hF9
 refine Qaz (Qd (sr (wm (wa (nt' (Qj ?_))))))
 have he37 := (show Qfp x0 x1 = (s6, d7) from Qar hE36 (rfl))
 refine Qlm rfl rfl (fun W hm => ⟨?_, ?_⟩)
 ·rw [he37]
 rw [he37]; exact hm

def Qzs (k5 : Nat) (s6 : Int) (d7 : (List Qav)) : (Int × (List Qav)) ⊕ (Int × (List Qav)) :=
 Sum.inr ((Qgg ((gt d7 k5).Rows) (IntKind.i64.wrap ((IntKind.i64.wrap (((Qv ((gt d7 k5).Query.Out) ((Qbi ((gt d7 k5).Query.Conds) (IntKind.i64.wrap ((IntKind.i64.wrap (s6 + 1)) + 1))).1)).1) + 1)) + 1))).1, (d7.set k5 (⟨(⟨s6, (IntKind.i64.wrap (s6 + 1)), (Qbi ((gt d7 k5).Query.Conds) (IntKind.i64.wrap ((IntKind.i64.wrap (s6 + 1)) + 1))).2, (Qv ((gt d7 k5).Query.Out) ((Qbi ((gt d7 k5).Query.Conds) (IntKind.i64.wrap ((IntKind.i64.wrap (s6 + 1)) + 1))).1)).2⟩ : Qat), (Qv ((gt d7 k5).Query.Out) ((Qbi ((gt d7 k5).Query.Conds) (IntKind.i64.wrap ((IntKind.i64.wrap (s6 + 1)) + 1))).1)).1, (IntKind.i64.wrap (((Qv ((gt d7 k5).Query.Out) ((Qbi ((gt d7 k5).Query.Conds) (IntKind.i64.wrap ((IntKind.i64.wrap (s6 + 1)) + 1))).1)).1) + 1)), (Qgg ((gt d7 k5).Rows) (IntKind.i64.wrap ((IntKind.i64.wrap (((Qv ((gt d7 k5).Query.Out) ((Qbi ((gt d7 k5).Query.Conds) (IntKind.i64.wrap ((IntKind.i64.wrap (s6 + 1)) + 1))).1)).1) + 1)) + 1))).2⟩ : Qav)))
def Qhj (x0 : (List Qav)) (x1 : Int) : (Int × (List Qav)) :=
 Sum.elim id (fun (s : Int × (List Qav)) => (s.1, s.2)) (rng (R := (Int × (List Qav))) (fun k (s : Int × (List Qav)) => Qzs k s.1 s.2) (x0.length - 0) 0 (x1, x0))
theorem cb81 : Cb Tryz.prog 81 := ⟨f81, _, func81, rfl, by decide⟩
theorem Qawd (B : Nat) (w0 : World) (is : List It) (w : World) (z0 : Value) (x0 : (List Qav)) (x1 : Int) (hm : Mem B w0 (Qn (tSl Qas 80) [z0] x0 :: is) w) :
  Calls Tryz.prog 81 #[z0, iV x1] w fun e w' => e = .returned (iV (Qhj x0 x1).1) ∧ Mem B w0 (Qn (tSl Qas 80) [z0] (Qhj x0 x1).2 :: is) w' := by
 refine Qif (L := [(0, z0), (1, iV x1)]) (N := 66) func81 rfl rfl (Nat.le_of_ble_eq_true rfl) (Qec rfl (Qec rfl Qha)) hm ?_
 refine Qdc (n := 0) rfl ?_
 rintro A1 c2 rfl m3
 refine sr (wa (nt' (Qe (sr (wa (nt' (Qx ?_)))))))
 refine Qbg (S := Int × (List Qav)) (R := Unit) (fun k (s : Int × (List Qav)) => Qzs k s.1 s.2) x0.length 0 (x1, x0) () (fun s => [(0, .slice A1 x0.length c2), (1, iV s.2.1.1), (5, nI s.1)]) (fun s => (Qn (tSl Qas 80) [.slice A1 x0.length c2] s.2.1.2 :: is)) (fun s => True) sl3 trivial ?_
 rintro ⟨k5, ⟨s6, d7⟩, ⟨⟩⟩ H10 _ _ e e'
 dsimp only at H10 ⊢
 subst e e'
 obtain ⟨hk8, hF9, _⟩ := H10
 refine Qe (sr (wm (wm ?_)))
 refine wv (Qag Qch) ?_
 refine wv Qai ?_
 refine nt' ?_
 rcases dcl k5 x0.length with ⟨hl11, g12⟩ | ⟨hl11, g12⟩
 ·
  refine Ql rfl g12 ?_
  refine Qp (Qd (Qe (Qx (sr ?_))))
  iterate 3 refine wm ?_
  refine Qhy (n := 0) rfl (by omega) ?_
  rintro g13 rfl
  refine wv (vix 7 k5 Qch Qcq) ?_
  refine wv (vf Qda rfl Qbj) ?_
  refine wv (fun W hm => Qeb (o := 0) Qbq rfl Qf (by decide) rfl rfl) ?_
  refine Qjx (E := Qas) (e := 80) (A := (sA g13)) (n := x0.length) (c := c2) (xs := d7) (k := k5) (js := (is)) (by omega) (fun W hm => (hm.front (n := 0) rfl)) (fun ck14 => ?_)
  refine Qabr ?_
  rintro ⟨v15, v16, v17⟩ rfl
  refine fm 0 ?_
  rintro A18 c19 rfl m20
  refine fm 1 ?_
  rintro A22 c23 rfl m24
  refine fm 2 ?_
  rintro A26 c27 rfl m28
  let J7 : List It := iS Qap 70 A26 c27 ((gt d7 k5).Rows) :: is
  let J8 : List It := iS Qbl 180 A18 c19 ((gt d7 k5).Query.Conds) :: iS Qa 3 A22 c23 ((gt d7 k5).Query.Out) :: J7
  refine sf 0 7 [iV s6, iV ((gt d7 k5).Query.Tenant), .slice A18 ((gt d7 k5).Query.Conds).length c19, .slice A22 ((gt d7 k5).Query.Out).length c23, iV ((gt d7 k5).Time), iV ((gt d7 k5).Steps), .slice A26 ((gt d7 k5).Rows).length c27] J8 (fun W hm => (hm.front (n := 3) rfl)) Qf ?_
  refine nt' (sr (wm ?_))
  refine wv Qcy ?_
  refine wa (nt' (sr ?_))
  iterate 3 refine wm ?_
  refine wv (vix 7 k5 Qch Qcq) ?_
  refine wv (vf Qda rfl Qbj) ?_
  refine wv (fun W hm => Qeb (o := 1) Qbq rfl Qf (by decide) rfl rfl) ?_
  let K1 : List Value := [iV s6, iV (IntKind.i64.wrap (s6 + 1)), .slice A18 ((gt d7 k5).Query.Conds).length c19, .slice A22 ((gt d7 k5).Query.Out).length c23, iV ((gt d7 k5).Time), iV ((gt d7 k5).Steps), .slice A26 ((gt d7 k5).Rows).length c27]
  refine sf 1 7 K1 J8 (fun W hm => (hm.front (n := 0) rfl)) Qf ?_
  refine nt' (sr (wm ?_))
  refine wv Qcy ?_
  refine wa (nt' (sr (wm (wm ?_))))
  refine wv (vix 7 k5 Qch Qcq) ?_
  refine wv (vf Qda rfl Qbj) ?_
  refine wv (fun W hm => Qeb (o := 2) Qbq rfl Qfu (by decide) rfl rfl) ?_
  refine wv (fun W hm => Qaw Qct rfl rfl (hm.focCells (i := 0) rfl rfl 2 _ rfl)) ?_
  refine wm ?_
  let I3 : It := Qdf Qas 80 (sA g13) x0.length c2 d7 k5 K1
  refine cw (Qr Qado rfl) (fun W hm => Qage B w0 (I3 :: iS Qa 3 A22 c23 ((gt d7 k5).Query.Out) :: J7) W (.slice A18 ((gt d7 k5).Query.Conds).length c19) ((gt d7 k5).Query.Conds) (IntKind.i64.wrap ((IntKind.i64.wrap (s6 + 1)) + 1)) (hm.front (n := 1) rfl)) ?_
  refine wa (nt' (sr (wm (wm ?_))))
  refine wv (vix 7 k5 Qch Qcq) ?_
  refine wv (vf Qda rfl Qbj) ?_
  refine wv (fun W hm => Qeb (o := 3) Qbq rfl Qao (by decide) rfl rfl) ?_
  refine wv (fun W hm => Qaw Qq rfl rfl (hm.focCells (i := 1) rfl rfl 3 _ rfl)) ?_
  refine wm ?_
  let I4 : It := Qn (tSl Qbl 180) [.slice A18 ((gt d7 k5).Query.Conds).length c19] ((Qbi ((gt d7 k5).Query.Conds) (IntKind.i64.wrap ((IntKind.i64.wrap (s6 + 1)) + 1))).2)
  refine cw (Qr Qmg rfl) (fun W hm => Qmo B w0 (I4 :: I3 :: J7) W (.slice A22 ((gt d7 k5).Query.Out).length c23) ((gt d7 k5).Query.Out) ((Qbi ((gt d7 k5).Query.Conds) (IntKind.i64.wrap ((IntKind.i64.wrap (s6 + 1)) + 1))).1) (hm.front (n := 2) rfl)) ?_
  refine wa (nt' (sr ?_))
  iterate 3 refine wm ?_
  refine wv (vix 7 k5 Qch Qcq) ?_
  refine wv (vf Qda rfl Qf) ?_
  let I5 : It := Qn (tSl Qa 3) [.slice A22 ((gt d7 k5).Query.Out).length c23] ((Qv ((gt d7 k5).Query.Out) ((Qbi ((gt d7 k5).Query.Conds) (IntKind.i64.wrap ((IntKind.i64.wrap (s6 + 1)) + 1))).1)).2)
  refine sf 4 7 [iV s6, iV (IntKind.i64.wrap (s6 + 1)), .slice A18 ((gt d7 k5).Query.Conds).length c19, .slice A22 ((gt d7 k5).Query.Out).length c23, iV ((Qv ((gt d7 k5).Query.Out) ((Qbi ((gt d7 k5).Query.Conds) (IntKind.i64.wrap ((IntKind.i64.wrap (s6 + 1)) + 1))).1)).1), iV ((gt d7 k5).Steps), .slice A26 ((gt d7 k5).Rows).length c27] (I5 :: I4 :: J7) (fun W hm => (hm.front (n := 2) rfl)) Qf ?_
  refine nt' (sr (wm ?_))
  refine wv Qcy ?_
  refine wa (nt' (sr ?_))
  iterate 3 refine wm ?_
  refine wv (vix 7 k5 Qch Qcq) ?_
  refine wv (vf Qda rfl Qf) ?_
  let K2 : List Value := [iV s6, iV (IntKind.i64.wrap (s6 + 1)), .slice A18 ((gt d7 k5).Query.Conds).length c19, .slice A22 ((gt d7 k5).Query.Out).length c23, iV ((Qv ((gt d7 k5).Query.Out) ((Qbi ((gt d7 k5).Query.Conds) (IntKind.i64.wrap ((IntKind.i64.wrap (s6 + 1)) + 1))).1)).1), iV (IntKind.i64.wrap (((Qv ((gt d7 k5).Query.Out) ((Qbi ((gt d7 k5).Query.Conds) (IntKind.i64.wrap ((IntKind.i64.wrap (s6 + 1)) + 1))).1)).1) + 1)), .slice A26 ((gt d7 k5).Rows).length c27]
  refine sf 5 7 K2 (I5 :: I4 :: J7) (fun W hm => (hm.front (n := 0) rfl)) Qf ?_
  refine nt' (sr (wm ?_))
  refine wv Qcy ?_
  refine wa (nt' (Qy (wm (wm ?_))))
  refine wv (vix 7 k5 Qch Qcq) ?_
  refine wv (vf Qda rfl Qdt) ?_
  refine wv (fun W hm => Qaw Qci rfl rfl (hm.focCells (i := 0) rfl rfl 6 _ rfl)) ?_
  refine wm ?_
  let I6 : It := Qdf Qas 80 (sA g13) x0.length c2 d7 k5 K2
  refine cw (Qr Qadp rfl) (fun W hm => Qagi B w0 (I6 :: I5 :: I4 :: is) W (.slice A26 ((gt d7 k5).Rows).length c27) ((gt d7 k5).Rows) (IntKind.i64.wrap ((IntKind.i64.wrap (((Qv ((gt d7 k5).Query.Out) ((Qbi ((gt d7 k5).Query.Conds) (IntKind.i64.wrap ((IntKind.i64.wrap (s6 + 1)) + 1))).1)).1) + 1)) + 1)) (hm.front (n := 3) rfl)) ?_
  refine wa (Qac (Qam (Qd (Qy (wm ?_)))))
  refine wv (Qal k5 1 (by omega)) ?_
  refine wa (Qac ?_)
  refine Qdd (fun W hm => Mem.unfocus (Mem.join (is := [I4, I5, Qn (tSl Qap 70) [.slice A26 ((gt d7 k5).Rows).length c27] ((Qgg ((gt d7 k5).Rows) (IntKind.i64.wrap ((IntKind.i64.wrap (((Qv ((gt d7 k5).Query.Out) ((Qbi ((gt d7 k5).Query.Conds) (IntKind.i64.wrap ((IntKind.i64.wrap (s6 + 1)) + 1))).1)).1) + 1)) + 1))).2)]) (js := (I6 :: (is))) (fun _ _ hs => Qly (x := (⟨(⟨s6, (IntKind.i64.wrap (s6 + 1)), (Qbi ((gt d7 k5).Query.Conds) (IntKind.i64.wrap ((IntKind.i64.wrap (s6 + 1)) + 1))).2, (Qv ((gt d7 k5).Query.Out) ((Qbi ((gt d7 k5).Query.Conds) (IntKind.i64.wrap ((IntKind.i64.wrap (s6 + 1)) + 1))).1)).2⟩ : Qat), (Qv ((gt d7 k5).Query.Out) ((Qbi ((gt d7 k5).Query.Conds) (IntKind.i64.wrap ((IntKind.i64.wrap (s6 + 1)) + 1))).1)).1, (IntKind.i64.wrap (((Qv ((gt d7 k5).Query.Out) ((Qbi ((gt d7 k5).Query.Conds) (IntKind.i64.wrap ((IntKind.i64.wrap (s6 + 1)) + 1))).1)).1) + 1)), (Qgg ((gt d7 k5).Rows) (IntKind.i64.wrap ((IntKind.i64.wrap (((Qv ((gt d7 k5).Query.Out) ((Qbi ((gt d7 k5).Query.Conds) (IntKind.i64.wrap ((IntKind.i64.wrap (s6 + 1)) + 1))).1)).1) + 1)) + 1))).2⟩ : Qav)) hs) ((((hm.front (n := 1) rfl).front (n := 1) rfl).front (n := 2) rfl).front (n := 3) rfl))) ?_
  exact Qan (k5 + 1, ((Qgg ((gt d7 k5).Rows) (IntKind.i64.wrap ((IntKind.i64.wrap (((Qv ((gt d7 k5).Query.Out) ((Qbi ((gt d7 k5).Query.Conds) (IntKind.i64.wrap ((IntKind.i64.wrap (s6 + 1)) + 1))).1)).1) + 1)) + 1))).1, (d7.set k5 (⟨(⟨s6, (IntKind.i64.wrap (s6 + 1)), (Qbi ((gt d7 k5).Query.Conds) (IntKind.i64.wrap ((IntKind.i64.wrap (s6 + 1)) + 1))).2, (Qv ((gt d7 k5).Query.Out) ((Qbi ((gt d7 k5).Query.Conds) (IntKind.i64.wrap ((IntKind.i64.wrap (s6 + 1)) + 1))).1)).2⟩ : Qat), (Qv ((gt d7 k5).Query.Out) ((Qbi ((gt d7 k5).Query.Conds) (IntKind.i64.wrap ((IntKind.i64.wrap (s6 + 1)) + 1))).1)).1, (IntKind.i64.wrap (((Qv ((gt d7 k5).Query.Out) ((Qbi ((gt d7 k5).Query.Conds) (IntKind.i64.wrap ((IntKind.i64.wrap (s6 + 1)) + 1))).1)).1) + 1)), (Qgg ((gt d7 k5).Rows) (IntKind.i64.wrap ((IntKind.i64.wrap (((Qv ((gt d7 k5).Query.Out) ((Qbi ((gt d7 k5).Query.Conds) (IntKind.i64.wrap ((IntKind.i64.wrap (s6 + 1)) + 1))).1)).1) + 1)) + 1))).2⟩ : Qav))), ()) sl3 idM ⟨(by omega), nx hF9 (rfl), trivial⟩ rl
 refine Qm rfl g12 ?_
 refine Qay (Qu (Qu ?_))
 have hE31 := Qbh hl11 hF9
 refine Qaz (Qd (sr (wm (wa (nt' (Qj ?_))))))
 have he32 := (show Qhj x0 x1 = (s6, d7) from Qar hE31 (rfl))
 refine Qlm rfl rfl (fun W hm => ⟨?_, ?_⟩)
 ·rw [he32]
 rw [he32]; exact hm

def Qzq (k5 : Nat) (s6 : Int) (d7 : (List Qbc)) : (Int × (List Qbc)) ⊕ (Int × (List Qbc)) :=
 Sum.inr ((Qv ((gt d7 k5).Rows) ((Qv ((gt d7 k5).Tenants) ((Qv ((gt d7 k5).Ids) (IntKind.i64.wrap ((IntKind.i64.wrap (s6 + 1)) + 1))).1)).1)).1, (d7.set k5 (⟨s6, (IntKind.i64.wrap (s6 + 1)), (Qv ((gt d7 k5).Ids) (IntKind.i64.wrap ((IntKind.i64.wrap (s6 + 1)) + 1))).2, (Qv ((gt d7 k5).Tenants) ((Qv ((gt d7 k5).Ids) (IntKind.i64.wrap ((IntKind.i64.wrap (s6 + 1)) + 1))).1)).2, (Qv ((gt d7 k5).Rows) ((Qv ((gt d7 k5).Tenants) ((Qv ((gt d7 k5).Ids) (IntKind.i64.wrap ((IntKind.i64.wrap (s6 + 1)) + 1))).1)).1)).2⟩ : Qbc)))
def Qkq (x0 : (List Qbc)) (x1 : Int) : (Int × (List Qbc)) :=
 Sum.elim id (fun (s : Int × (List Qbc)) => (s.1, s.2)) (rng (R := (Int × (List Qbc))) (fun k (s : Int × (List Qbc)) => Qzq k s.1 s.2) (x0.length - 0) 0 (x1, x0))
theorem cb82 : Cb Tryz.prog 82 := ⟨f82, _, func82, rfl, by decide⟩
theorem Qavz (B : Nat) (w0 : World) (is : List It) (w : World) (z0 : Value) (x0 : (List Qbc)) (x1 : Int) (hm : Mem B w0 (Qn (tSl Qaq 102) [z0] x0 :: is) w) :
  Calls Tryz.prog 82 #[z0, iV x1] w fun e w' => e = .returned (iV (Qkq x0 x1).1) ∧ Mem B w0 (Qn (tSl Qaq 102) [z0] (Qkq x0 x1).2 :: is) w' := by
 refine Qif (L := [(0, z0), (1, iV x1)]) (N := 48) func82 rfl rfl (Nat.le_of_ble_eq_true rfl) (Qec rfl (Qec rfl Qha)) hm ?_
 refine Qdc (n := 0) rfl ?_
 rintro A1 c2 rfl m3
 refine sr (wa (nt' (Qe (sr (wa (nt' (Qx ?_)))))))
 refine Qbg (S := Int × (List Qbc)) (R := Unit) (fun k (s : Int × (List Qbc)) => Qzq k s.1 s.2) x0.length 0 (x1, x0) () (fun s => [(0, .slice A1 x0.length c2), (1, iV s.2.1.1), (5, nI s.1)]) (fun s => (Qn (tSl Qaq 102) [.slice A1 x0.length c2] s.2.1.2 :: is)) (fun s => True) sl3 trivial ?_
 rintro ⟨k5, ⟨s6, d7⟩, ⟨⟩⟩ H10 _ _ e e'
 dsimp only at H10 ⊢
 subst e e'
 obtain ⟨hk8, hF9, _⟩ := H10
 refine Qe (sr (wm (wm ?_)))
 refine wv (Qag Qcx) ?_
 refine wv Qai ?_
 refine nt' ?_
 rcases dcl k5 x0.length with ⟨hl11, g12⟩ | ⟨hl11, g12⟩
 ·
  refine Ql rfl g12 ?_
  refine Qp (Qd (Qe (Qx (sr ?_))))
  iterate 3 refine wm ?_
  refine Qhy (n := 0) rfl (by omega) ?_
  rintro g13 rfl
  refine wv (vix 5 k5 Qcx Qcs) ?_
  refine wv (vf Qby rfl Qf) ?_
  refine Qjx (E := Qaq) (e := 102) (A := (sA g13)) (n := x0.length) (c := c2) (xs := d7) (k := k5) (js := (is)) (by omega) (fun W hm => (hm.front (n := 0) rfl)) (fun ck14 => ?_)
  refine Qwc ?_
  rintro ⟨v15, v16, v17⟩ rfl
  refine fm 0 ?_
  rintro A18 c19 rfl m20
  refine fm 1 ?_
  rintro A22 c23 rfl m24
  refine fm 2 ?_
  rintro A26 c27 rfl m28
  let J5 : List It := iS Qa 3 A22 c23 ((gt d7 k5).Tenants) :: iS Qa 3 A26 c27 ((gt d7 k5).Rows) :: is
  refine sf 0 5 [iV s6, iV ((gt d7 k5).Base), .slice A18 ((gt d7 k5).Ids).length c19, .slice A22 ((gt d7 k5).Tenants).length c23, .slice A26 ((gt d7 k5).Rows).length c27] (iS Qa 3 A18 c19 ((gt d7 k5).Ids) :: J5) (fun W hm => (hm.front (n := 3) rfl)) Qf ?_
  refine nt' (sr (wm ?_))
  refine wv Qcy ?_
  refine wa (nt' (sr ?_))
  iterate 3 refine wm ?_
  refine wv (vix 5 k5 Qcx Qcs) ?_
  refine wv (vf Qby rfl Qf) ?_
  let K1 : List Value := [iV s6, iV (IntKind.i64.wrap (s6 + 1)), .slice A18 ((gt d7 k5).Ids).length c19, .slice A22 ((gt d7 k5).Tenants).length c23, .slice A26 ((gt d7 k5).Rows).length c27]
  refine sf 1 5 K1 (iS Qa 3 A18 c19 ((gt d7 k5).Ids) :: J5) (fun W hm => (hm.front (n := 0) rfl)) Qf ?_
  refine nt' (sr (wm ?_))
  refine wv Qcy ?_
  refine wa (nt' (sr (wm (wm ?_))))
  refine wv (vix 5 k5 Qcx Qcs) ?_
  refine wv (vf Qby rfl Qao) ?_
  refine wv (fun W hm => Qaw Qq rfl rfl (hm.focCells (i := 0) rfl rfl 2 _ rfl)) ?_
  refine wm ?_
  let I2 : It := Qdf Qaq 102 (sA g13) x0.length c2 d7 k5 K1
  refine cw (Qr Qmg rfl) (fun W hm => Qmo B w0 (I2 :: J5) W (.slice A18 ((gt d7 k5).Ids).length c19) ((gt d7 k5).Ids) (IntKind.i64.wrap ((IntKind.i64.wrap (s6 + 1)) + 1)) (hm.front (n := 1) rfl)) ?_
  refine wa (nt' (sr (wm (wm ?_))))
  refine wv (vix 5 k5 Qcx Qcs) ?_
  refine wv (vf Qby rfl Qao) ?_
  refine wv (fun W hm => Qaw Qq rfl rfl (hm.focCells (i := 1) rfl rfl 3 _ rfl)) ?_
  refine wm ?_
  let I3 : It := Qn (tSl Qa 3) [.slice A18 ((gt d7 k5).Ids).length c19] ((Qv ((gt d7 k5).Ids) (IntKind.i64.wrap ((IntKind.i64.wrap (s6 + 1)) + 1))).2)
  refine cw (Qr Qmg rfl) (fun W hm => Qmo B w0 (I3 :: I2 :: iS Qa 3 A26 c27 ((gt d7 k5).Rows) :: is) W (.slice A22 ((gt d7 k5).Tenants).length c23) ((gt d7 k5).Tenants) ((Qv ((gt d7 k5).Ids) (IntKind.i64.wrap ((IntKind.i64.wrap (s6 + 1)) + 1))).1) (hm.front (n := 2) rfl)) ?_
  refine wa (nt' (Qy (wm (wm ?_))))
  refine wv (vix 5 k5 Qcx Qcs) ?_
  refine wv (vf Qby rfl Qao) ?_
  refine wv (fun W hm => Qaw Qq rfl rfl (hm.focCells (i := 2) rfl rfl 4 _ rfl)) ?_
  refine wm ?_
  let I4 : It := Qn (tSl Qa 3) [.slice A22 ((gt d7 k5).Tenants).length c23] ((Qv ((gt d7 k5).Tenants) ((Qv ((gt d7 k5).Ids) (IntKind.i64.wrap ((IntKind.i64.wrap (s6 + 1)) + 1))).1)).2)
  refine cw (Qr Qmg rfl) (fun W hm => Qmo B w0 (I4 :: I3 :: I2 :: is) W (.slice A26 ((gt d7 k5).Rows).length c27) ((gt d7 k5).Rows) ((Qv ((gt d7 k5).Tenants) ((Qv ((gt d7 k5).Ids) (IntKind.i64.wrap ((IntKind.i64.wrap (s6 + 1)) + 1))).1)).1) (hm.front (n := 3) rfl)) ?_
  refine wa (Qac (Qam (Qd (Qy (wm ?_)))))
  refine wv (Qal k5 1 (by omega)) ?_
  refine wa (Qac ?_)
  refine Qdd (fun W hm => Mem.unfocus (Mem.join (is := [I3, I4, Qn (tSl Qa 3) [.slice A26 ((gt d7 k5).Rows).length c27] ((Qv ((gt d7 k5).Rows) ((Qv ((gt d7 k5).Tenants) ((Qv ((gt d7 k5).Ids) (IntKind.i64.wrap ((IntKind.i64.wrap (s6 + 1)) + 1))).1)).1)).2)]) (js := (I2 :: (is))) (fun _ _ hs => Qmt (x := (⟨s6, (IntKind.i64.wrap (s6 + 1)), (Qv ((gt d7 k5).Ids) (IntKind.i64.wrap ((IntKind.i64.wrap (s6 + 1)) + 1))).2, (Qv ((gt d7 k5).Tenants) ((Qv ((gt d7 k5).Ids) (IntKind.i64.wrap ((IntKind.i64.wrap (s6 + 1)) + 1))).1)).2, (Qv ((gt d7 k5).Rows) ((Qv ((gt d7 k5).Tenants) ((Qv ((gt d7 k5).Ids) (IntKind.i64.wrap ((IntKind.i64.wrap (s6 + 1)) + 1))).1)).1)).2⟩ : Qbc)) hs) ((((hm.front (n := 3) rfl).front (n := 1) rfl).front (n := 2) rfl).front (n := 3) rfl))) ?_
  exact Qan (k5 + 1, ((Qv ((gt d7 k5).Rows) ((Qv ((gt d7 k5).Tenants) ((Qv ((gt d7 k5).Ids) (IntKind.i64.wrap ((IntKind.i64.wrap (s6 + 1)) + 1))).1)).1)).1, (d7.set k5 (⟨s6, (IntKind.i64.wrap (s6 + 1)), (Qv ((gt d7 k5).Ids) (IntKind.i64.wrap ((IntKind.i64.wrap (s6 + 1)) + 1))).2, (Qv ((gt d7 k5).Tenants) ((Qv ((gt d7 k5).Ids) (IntKind.i64.wrap ((IntKind.i64.wrap (s6 + 1)) + 1))).1)).2, (Qv ((gt d7 k5).Rows) ((Qv ((gt d7 k5).Tenants) ((Qv ((gt d7 k5).Ids) (IntKind.i64.wrap ((IntKind.i64.wrap (s6 + 1)) + 1))).1)).1)).2⟩ : Qbc))), ()) sl3 idM ⟨(by omega), nx hF9 (rfl), trivial⟩ rl
 refine Qm rfl g12 ?_
 refine Qay (Qu (Qu ?_))
 have hE31 := Qbh hl11 hF9
 refine Qaz (Qd (sr (wm (wa (nt' (Qj ?_))))))
 have he32 := (show Qkq x0 x1 = (s6, d7) from Qar hE31 (rfl))
 refine Qlm rfl rfl (fun W hm => ⟨?_, ?_⟩)
 ·rw [he32]
 rw [he32]; exact hm

def Qcn (x0 : Qo) (x1 : Int) : (Int × Qo) :=
 ((Qkq x0.Ledger ((Qhj x0.Done ((Qfp x0.Active ((Qv x0.Order ((Qdq x0.Store x1).1)).1)).1)).1)).1, (⟨(⟨(Qdq x0.Store x1).2.Segments, x0.Store.Now⟩ : Qau), x0.Cursor, (Qv x0.Order ((Qdq x0.Store x1).1)).2, (Qfp x0.Active ((Qv x0.Order ((Qdq x0.Store x1).1)).1)).2, (Qhj x0.Done ((Qfp x0.Active ((Qv x0.Order ((Qdq x0.Store x1).1)).1)).1)).2, (Qkq x0.Ledger ((Qhj x0.Done ((Qfp x0.Active ((Qv x0.Order ((Qdq x0.Store x1).1)).1)).1)).1)).2, x0.Steps⟩ : Qo))
theorem cb14 : Cb Tryz.prog 14 := ⟨f14, _, func14, rfl, by decide⟩
theorem Qagg (B : Nat) (w0 : World) (is : List It) (w : World) (z0 : List Value) (x0 : Qo) (x1 : Int) (hm : Mem B w0 (Qn Qcb z0 x0 :: is) w) :
  Calls Tryz.prog 14 #[.agg z0.toArray, iV x1] w fun e w' => e = .returned (iV (Qcn x0 x1).1) ∧ Mem B w0 (Qn Qcb z0 (Qcn x0 x1).2 :: is) w' := by
 refine Qif (L := [(0, .agg z0.toArray), (1, iV x1)]) (N := 26) func14 rfl rfl (Nat.le_of_ble_eq_true rfl) (Qec rfl (Qec rfl Qha)) hm ?_
 refine Qjw (γ := Value × Value × Value × Value × Value) (js := fun g => [Qn (tSl (tSl Qaf 163) 100) [g.1] x0.Store.Segments, Qn (tSl Qa 3) [g.2.1] x0.Order, Qn (tSl Qah 61) [g.2.2.1] x0.Active, Qn (tSl Qas 80) [g.2.2.2.1] x0.Done, Qn (tSl Qaq 102) [g.2.2.2.2] x0.Ledger]) (C := fun g => z0 = [g.1, iV x0.Store.Now, iV x0.Cursor, g.2.1, g.2.2.1, g.2.2.2.1, g.2.2.2.2, iV x0.Steps]) (fun _ _ h => Qrd h) ?_
 rintro ⟨v1, v2, v3, v4, v5⟩ rfl
 refine Qdc (n := 0) rfl ?_
 rintro A6 c7 rfl m8
 refine Qdc (n := 1) rfl ?_
 rintro A10 c11 rfl m12
 refine Qdc (n := 2) rfl ?_
 rintro A14 c15 rfl m16
 refine Qdc (n := 3) rfl ?_
 rintro A18 c19 rfl m20
 refine Qdc (n := 4) rfl ?_
 rintro A22 c23 rfl m24
 refine sr ?_
 refine Qbn rfl (Qk rfl) (by decide) (fun p26 => ?_)
 refine wa (nt' (sr ?_))
 refine wv (vf Qz rfl Qbt) ?_
 let K1 : List Value := [.slice A6 x0.Store.Segments.length c7, iV x0.Store.Now]
 refine wv (fun W hm => Qad (cs := K1) Qbw Qbt rfl rfl (hm.boxPart (n := 0) rfl rfl)) ?_
 refine wm ?_
 let K2 : List Value := [.slice A6 x0.Store.Segments.length c7, iV x0.Store.Now, iV x0.Cursor, .slice A10 x0.Order.length c11, .slice A14 x0.Active.length c15, .slice A18 x0.Done.length c19, .slice A22 x0.Ledger.length c23, iV x0.Steps]
 let J7 : List It := iS Qah 61 A14 c15 x0.Active :: iS Qas 80 A18 c19 x0.Done :: iS Qaq 102 A22 c23 x0.Ledger :: is
 let J8 : List It := Qh p26 39 K2 :: iS Qa 3 A10 c11 x0.Order :: J7
 refine Qkj (js := (Qn Qdm K1 x0.Store :: J8)) (fun W hm => Mem.join (is := [iS (tSl Qaf 163) 100 A6 c7 x0.Store.Segments]) (js := J8) (fun _ _ hs => Qmw (x := x0.Store) hs) (hm.front (n := 1) rfl)) ?_
 refine cw (Qr cb78 rfl) (fun W hm => Qawi B w0 J8 W K1 x0.Store x1 hm) ?_
 refine Qjt ?_
 rintro v28 h27
 simp +zetaDelta only [List.cons.injEq] at h27
 obtain ⟨rfl, -, -⟩ := h27
 refine wa (nt' (sr ?_))
 refine wv (vf Qz rfl Qao) ?_
 refine wv (vl 1 3 Qq) ?_
 refine wm ?_
 let I3 : It := Qn (tSl (tSl Qaf 163) 100) [.slice A6 x0.Store.Segments.length c7] ((Qdq x0.Store x1).2.Segments)
 refine cw (Qr Qmg rfl) (fun W hm => Qmo B w0 (I3 :: Qh p26 39 K2 :: J7) W (.slice A10 x0.Order.length c11) x0.Order ((Qdq x0.Store x1).1) (hm.front (n := 2) rfl)) ?_
 refine wa (nt' (sr ?_))
 refine wv (vf Qz rfl Qcw) ?_
 refine wv (vl 2 4 Qax) ?_
 refine wm ?_
 let I4 : It := Qn (tSl Qa 3) [.slice A10 x0.Order.length c11] ((Qv x0.Order ((Qdq x0.Store x1).1)).2)
 refine cw (Qr cb80 rfl) (fun W hm => Qavw B w0 (I4 :: I3 :: Qh p26 39 K2 :: iS Qas 80 A18 c19 x0.Done :: iS Qaq 102 A22 c23 x0.Ledger :: is) W (.slice A14 x0.Active.length c15) x0.Active ((Qv x0.Order ((Qdq x0.Store x1).1)).1) (hm.front (n := 3) rfl)) ?_
 refine wa (nt' (sr ?_))
 refine wv (vf Qz rfl Qek) ?_
 refine wv (vl 3 5 Qch) ?_
 refine wm ?_
 let I5 : It := Qn (tSl Qah 61) [.slice A14 x0.Active.length c15] ((Qfp x0.Active ((Qv x0.Order ((Qdq x0.Store x1).1)).1)).2)
 refine cw (Qr cb81 rfl) (fun W hm => Qawd B w0 (I5 :: I4 :: I3 :: Qh p26 39 K2 :: iS Qaq 102 A22 c23 x0.Ledger :: is) W (.slice A18 x0.Done.length c19) x0.Done ((Qfp x0.Active ((Qv x0.Order ((Qdq x0.Store x1).1)).1)).1) (hm.front (n := 4) rfl)) ?_
 refine wa (nt' (sr ?_))
 refine wv (vf Qz rfl Qfg) ?_
 refine wv (vl 4 6 Qcx) ?_
 refine wm ?_
 let I6 : It := Qn (tSl Qas 80) [.slice A18 x0.Done.length c19] ((Qhj x0.Done ((Qfp x0.Active ((Qv x0.Order ((Qdq x0.Store x1).1)).1)).1)).2)
 refine cw (Qr cb82 rfl) (fun W hm => Qavz B w0 (I6 :: I5 :: I4 :: I3 :: Qh p26 39 K2 :: is) W (.slice A22 x0.Ledger.length c23) x0.Ledger ((Qhj x0.Done ((Qfp x0.Active ((Qv x0.Order ((Qdq x0.Store x1).1)).1)).1)).1) (hm.front (n := 5) rfl)) ?_
 refine wa (nt' (sr (wm (wa (nt' (Qj ?_))))))
 have he29 := (show Qcn x0 x1 = ((Qkq x0.Ledger ((Qhj x0.Done ((Qfp x0.Active ((Qv x0.Order ((Qdq x0.Store x1).1)).1)).1)).1)).1, (⟨(⟨(Qdq x0.Store x1).2.Segments, x0.Store.Now⟩ : Qau), x0.Cursor, (Qv x0.Order ((Qdq x0.Store x1).1)).2, (Qfp x0.Active ((Qv x0.Order ((Qdq x0.Store x1).1)).1)).2, (Qhj x0.Done ((Qfp x0.Active ((Qv x0.Order ((Qdq x0.Store x1).1)).1)).1)).2, (Qkq x0.Ledger ((Qhj x0.Done ((Qfp x0.Active ((Qv x0.Order ((Qdq x0.Store x1).1)).1)).1)).1)).2, x0.Steps⟩ : Qo)) from rfl)
 refine Qlm rfl rfl (fun W hm => ⟨?_, ?_⟩)
 ·rw [he29]
 rw [he29]; exact Mem.join (is := [I3, I4, I5, I6, Qn (tSl Qaq 102) [.slice A22 x0.Ledger.length c23] ((Qkq x0.Ledger ((Qhj x0.Done ((Qfp x0.Active ((Qv x0.Order ((Qdq x0.Store x1).1)).1)).1)).1)).2)]) (js := is) (fun _ _ hs => Qfk (x := (⟨(⟨(Qdq x0.Store x1).2.Segments, x0.Store.Now⟩ : Qau), x0.Cursor, (Qv x0.Order ((Qdq x0.Store x1).1)).2, (Qfp x0.Active ((Qv x0.Order ((Qdq x0.Store x1).1)).1)).2, (Qhj x0.Done ((Qfp x0.Active ((Qv x0.Order ((Qdq x0.Store x1).1)).1)).1)).2, (Qkq x0.Ledger ((Qhj x0.Done ((Qfp x0.Active ((Qv x0.Order ((Qdq x0.Store x1).1)).1)).1)).1)).2, x0.Steps⟩ : Qo)) hs) ((((((hm.front (n := 0) rfl).front (n := 1) rfl).front (n := 2) rfl).front (n := 3) rfl).front (n := 4) rfl).front (n := 5) rfl).tail

def Qzl (x0 : (List Int)) (k6 : Nat) (s7 : Int) : Int ⊕ (Int) :=
 cond ((gt x0 k6) != s7) (Sum.inl (-1)) (Sum.inr (IntKind.i64.wrap (s7 + 1)))
def Qbb (x0 : (List Int)) (x1 : Int) : Int :=
 Sum.elim id (fun (s : Int) => s) (rng (R := Int) (fun k (s : Int) => Qzl x0 k s) (x0.length - 0) 0 x1)
theorem Qmh : Cb Tryz.prog 84 := ⟨f84, _, func84, rfl, by decide⟩
theorem Qmn (w : World) (z0 : Value) (x0 : (List Int)) (x1 : Int) (r_0 : rdS Qa w w.heap.size z0 x0) :
  Calls Tryz.prog 84 #[z0, iV x1] w (rI w (Qbb x0 x1)) := by
 obtain ⟨m1, A2, c3, rfl, q4, r5⟩ := Qi r_0
 refine ce2 (L := [(0, .slice A2 x0.length c3), (1, iV x1)]) (N := 21) func84 ?_
 refine sr (wa (nt' (Qe (sr (wa (nt' (Qx ?_)))))))
 refine Qbg (S := Int) (R := Unit) (fun k (s : Int) => Qzl x0 k s) x0.length 0 x1 () (fun s => [(0, .slice A2 x0.length c3), (1, iV s.2.1), (5, nI s.1)]) (fun s => []) (fun s => True) sl3 trivial ?_
 rintro ⟨k6, s7, ⟨⟩⟩ H10 _ _ e e'
 dsimp only at H10 ⊢
 subst e e'
 obtain ⟨hk8, hF9, _⟩ := H10
 refine Qe (sr (wm (wm ?_)))
 refine wv (Qag Qq) ?_
 refine wv Qai ?_
 refine nt' ?_
 rcases dcl k6 x0.length with ⟨hl11, g12⟩ | ⟨hl11, g12⟩
 ·
  refine Ql rfl g12 ?_
  refine Qp (Qd (Qe (Qx (Qe (sr (wm (wm ?_)))))))
  obtain ⟨a13, rfl, hb14, he15⟩ := q4 (by omega)
  refine wv (vix 1 k6 Qq Qf) ?_
  refine wv (fun W hm => Qaw Qs rfl rfl ((hm.cell0 (show (a13.add (k6 * 1)).block < w.heap.size from by rw [Qae]; exact hb14.1)).trans (Qdr he15 k6 (by omega)))) ?_
  refine wm ?_
  refine wv Qcj ?_
  refine nt' ?_
  rcases dcn (gt x0 k6) s7 with ⟨h16, g17⟩ | ⟨h16, g17⟩
  ·
   refine Qm rfl g17 ?_
   refine Qp (Qd (Qy (wm ?_)))
   refine wv Qcy ?_
   refine wa (Qac (Qam (Qd (Qy (wm ?_)))))
   refine wv (Qal k6 1 (by omega)) ?_
   refine wa (Qac ?_)
   exact Qan (k6 + 1, (IntKind.i64.wrap (s7 + 1)), ()) sl3 idM ⟨(by omega), nx hF9 (Qc g17 (rfl)), trivial⟩ rl
  refine Ql rfl g17 ?_
  refine sr (wa (nt' (Qj (Qg (Qaa (Qg (Qg (Qaa (Qg ?_)))))))))
  exact rti (h := Qbf (nr hF9 (Qb g17 (rfl))) rfl)
 refine Qm rfl g12 ?_
 refine Qay (Qu (Qu ?_))
 have hE19 := Qbh hl11 hF9
 refine Qaz (Qd (sr (wm (wa (nt' (Qj ?_))))))
 exact rti (h := Qar hE19 (rfl))

def Qzo (x0 : (List Qt)) (k6 : Nat) (s7 : Int) : Int ⊕ (Int) :=
 cond (((gt x0 k6).Id) != s7) (Sum.inl (-1)) (cond (decide ((Qbb ((gt x0 k6).Values) (IntKind.i64.wrap (s7 + 1))) < 0)) (Sum.inl (-1)) (cond (((gt x0 k6).Born) != (Qbb ((gt x0 k6).Values) (IntKind.i64.wrap (s7 + 1)))) (Sum.inl (-1)) (cond (((gt x0 k6).Died) != (IntKind.i64.wrap ((Qbb ((gt x0 k6).Values) (IntKind.i64.wrap (s7 + 1))) + 1))) (Sum.inl (-1)) (Sum.inr (IntKind.i64.wrap ((IntKind.i64.wrap ((Qbb ((gt x0 k6).Values) (IntKind.i64.wrap (s7 + 1))) + 1)) + 1))))))
def Qns (x0 : (List Qt)) (x1 : Int) : Int :=
 Sum.elim id (fun (s : Int) => s) (rng (R := Int) (fun k (s : Int) => Qzo x0 k s) (x0.length - 0) 0 x1)
theorem Qaoy : Cb Tryz.prog 202 := ⟨f202, _, func202, rfl, by decide⟩
theorem Qavv (w : World) (z0 : Value) (x0 : (List Qt)) (x1 : Int) (r_0 : rdS Qaf w w.heap.size z0 x0) :
  Calls Tryz.prog 202 #[z0, iV x1] w (rI w (Qns x0 x1)) := by
 obtain ⟨m1, A2, c3, rfl, q4, r5⟩ := Qi r_0
 refine ce2 (L := [(0, .slice A2 x0.length c3), (1, iV x1)]) (N := 49) func202 ?_
 refine sr (wa (nt' (Qe (sr (wa (nt' (Qx ?_)))))))
 refine Qbg (S := Int) (R := Unit) (fun k (s : Int) => Qzo x0 k s) x0.length 0 x1 () (fun s => [(0, .slice A2 x0.length c3), (1, iV s.2.1), (5, nI s.1)]) (fun s => []) (fun s => True) sl3 trivial ?_
 rintro ⟨k6, s7, ⟨⟩⟩ H10 _ _ e e'
 dsimp only at H10 ⊢
 subst e e'
 obtain ⟨hk8, hF9, _⟩ := H10
 refine Qe (sr (wm (wm ?_)))
 refine wv (Qag Qbv) ?_
 refine wv Qai ?_
 refine nt' ?_
 rcases dcl k6 x0.length with ⟨hl11, g12⟩ | ⟨hl11, g12⟩
 ·
  refine Ql rfl g12 ?_
  refine Qp (Qd (Qe (Qx (Qe (sr (wm (wm ?_)))))))
  obtain ⟨a13, rfl, hb14, he15⟩ := q4 (by omega)
  refine wv (vix 4 k6 Qbv Qbo) ?_
  refine wv (vf Qbp rfl Qf) ?_
  obtain ⟨_, e19, hc16⟩ := he15 k6 _ (Qbs (show k6 < x0.length from by omega))
  obtain ⟨v17, rfl, r18⟩ := Qgd e19
  obtain ⟨m20, A21, c22, rfl, q23, r24⟩ := Qi r18
  refine wv (fun W hm => Qaw Qs rfl rfl ((hm.cell0 (show ((a13.add (k6 * 4)).add 0).block < w.heap.size from by rw [Qae, Qae]; exact hb14.1)).trans (hc16 0 _ rfl))) ?_
  refine wm ?_
  refine wv Qcj ?_
  refine nt' ?_
  rcases dcn ((gt x0 k6).Id) s7 with ⟨h25, g26⟩ | ⟨h25, g26⟩
  ·
   refine Qm rfl g26 ?_
   refine Qp (Qd (sr (wm ?_)))
   refine wv Qcy ?_
   refine wa (nt' (sr (wm (wm ?_))))
   refine wv (vix 4 k6 Qbv Qbo) ?_
   refine wv (vf Qbp rfl Qao) ?_
   refine wv (fun W hm => Qaw Qq rfl rfl ((hm.cell0 (show ((a13.add (k6 * 4)).add 1).block < w.heap.size from by rw [Qae, Qae]; exact hb14.1)).trans (hc16 1 _ rfl))) ?_
   refine wm ?_
   refine wcv (Qr Qmh rfl) (fun W hm => Qmn W _ ((gt x0 k6).Values) (IntKind.i64.wrap (s7 + 1)) (hm.rdS0 r24)) ?_
   refine wa (nt' (Qe (sr (wm ?_))))
   refine wv Qai ?_
   refine nt' ?_
   rcases dcd ((Qbb ((gt x0 k6).Values) (IntKind.i64.wrap (s7 + 1))) < 0) with ⟨h27, g28⟩ | ⟨h27, g28⟩
   ·
    refine Ql rfl g28 ?_
    refine sr (wa (nt' (Qj (Qg (Qaa (Qg (Qg (Qaa (Qg ?_)))))))))
    exact rti (h := Qbf (nr hF9 (Qc g26 (Qb g28 (rfl)))) rfl)
   refine Qm rfl g28 ?_
   refine Qp (Qd (Qe (sr (wm (wm ?_)))))
   refine wv (vix 4 k6 Qbv Qbo) ?_
   refine wv (vf Qbp rfl Qf) ?_
   refine wv (fun W hm => Qaw Qs rfl rfl ((hm.cell0 (show ((a13.add (k6 * 4)).add 2).block < w.heap.size from by rw [Qae, Qae]; exact hb14.1)).trans (hc16 2 _ rfl))) ?_
   refine wm ?_
   refine wv Qcj ?_
   refine nt' ?_
   rcases dcn ((gt x0 k6).Born) (Qbb ((gt x0 k6).Values) (IntKind.i64.wrap (s7 + 1))) with ⟨h29, g30⟩ | ⟨h29, g30⟩
   ·
    refine Qm rfl g30 ?_
    refine Qp (Qd (sr (wm ?_)))
    refine wv Qcy ?_
    refine wa (nt' (Qe (sr (wm (wm ?_)))))
    refine wv (vix 4 k6 Qbv Qbo) ?_
    refine wv (vf Qbp rfl Qf) ?_
    refine wv (fun W hm => Qaw Qs rfl rfl ((hm.cell0 (show ((a13.add (k6 * 4)).add 3).block < w.heap.size from by rw [Qae, Qae]; exact hb14.1)).trans (hc16 3 _ rfl))) ?_
    refine wm ?_
    refine wv Qcj ?_
    refine nt' ?_
    rcases dcn ((gt x0 k6).Died) (IntKind.i64.wrap ((Qbb ((gt x0 k6).Values) (IntKind.i64.wrap (s7 + 1))) + 1)) with ⟨h31, g32⟩ | ⟨h31, g32⟩
    ·
     refine Qm rfl g32 ?_
     refine Qp (Qd (Qy (wm ?_)))
     refine wv Qcy ?_
     refine wa (Qac (Qam (Qd (Qy (wm ?_)))))
     refine wv (Qal k6 1 (by omega)) ?_
     refine wa (Qac ?_)
     exact Qan (k6 + 1, (IntKind.i64.wrap ((IntKind.i64.wrap ((Qbb ((gt x0 k6).Values) (IntKind.i64.wrap (s7 + 1))) + 1)) + 1)), ()) sl3 idM ⟨(by omega), nx hF9 (Qc g26 (Qc g28 (Qc g30 (Qc g32 (rfl))))), trivial⟩ rl
    refine Ql rfl g32 ?_
    refine sr (wa (nt' (Qj (Qg (Qaa (Qg (Qg (Qaa (Qg ?_)))))))))
    exact rti (h := Qbf (nr hF9 (Qc g26 (Qc g28 (Qc g30 (Qb g32 (rfl)))))) rfl)
   refine Ql rfl g30 ?_
   refine sr (wa (nt' (Qj (Qg (Qaa (Qg (Qg (Qaa (Qg ?_)))))))))
   exact rti (h := Qbf (nr hF9 (Qc g26 (Qc g28 (Qb g30 (rfl))))) rfl)
  refine Ql rfl g26 ?_
  refine sr (wa (nt' (Qj (Qg (Qaa (Qg (Qg (Qaa (Qg ?_)))))))))
  exact rti (h := Qbf (nr hF9 (Qb g26 (rfl))) rfl)
 refine Qm rfl g12 ?_
 refine Qay (Qu (Qu ?_))
 have hE34 := Qbh hl11 hF9
 refine Qaz (Qd (sr (wm (wa (nt' (Qj ?_))))))
 exact rti (h := Qar hE34 (rfl))

def Qzn (x0 : (List (List Qt))) (k6 : Nat) (s7 : Int) : Int ⊕ (Int) :=
 cond (decide ((Qns (gt x0 k6) s7) < 0)) (Sum.inl (-1)) (Sum.inr (Qns (gt x0 k6) s7))
def Qsj (x0 : (List (List Qt))) (x1 : Int) : Int :=
 Sum.elim id (fun (s : Int) => s) (rng (R := Int) (fun k (s : Int) => Qzn x0 k s) (x0.length - 0) 0 x1)
theorem Qaod : Cb Tryz.prog 153 := ⟨f153, _, func153, rfl, by decide⟩
theorem Qavu (w : World) (z0 : Value) (x0 : (List (List Qt))) (x1 : Int) (r_0 : rdS (tSl Qaf 163) w w.heap.size z0 x0) :
  Calls Tryz.prog 153 #[z0, iV x1] w (rI w (Qsj x0 x1)) := by
 obtain ⟨m1, A2, c3, rfl, q4, r5⟩ := Qi r_0
 refine ce2 (L := [(0, .slice A2 x0.length c3), (1, iV x1)]) (N := 21) func153 ?_
 refine sr (wa (nt' (Qe (sr (wa (nt' (Qx ?_)))))))
 refine Qbg (S := Int) (R := Unit) (fun k (s : Int) => Qzn x0 k s) x0.length 0 x1 () (fun s => [(0, .slice A2 x0.length c3), (1, iV s.2.1), (5, nI s.1)]) (fun s => []) (fun s => True) sl3 trivial ?_
 rintro ⟨k6, s7, ⟨⟩⟩ H10 _ _ e e'
 dsimp only at H10 ⊢
 subst e e'
 obtain ⟨hk8, hF9, _⟩ := H10
 refine Qe (sr (wm (wm ?_)))
 refine wv (Qag Qbz) ?_
 refine wv Qai ?_
 refine nt' ?_
 rcases dcl k6 x0.length with ⟨hl11, g12⟩ | ⟨hl11, g12⟩
 ·
  refine Ql rfl g12 ?_
  refine Qp (Qd (Qe (Qx (sr (wm (wm ?_))))))
  obtain ⟨a13, rfl, hb14, he15⟩ := q4 (by omega)
  refine wv (vix 1 k6 Qbz Qfl) ?_
  obtain ⟨_, e17, hc16⟩ := he15 k6 _ (Qbs (show k6 < x0.length from by omega))
  obtain ⟨v18, rfl, r19⟩ := e17
  obtain ⟨m20, A21, c22, rfl, q23, r24⟩ := Qi r19
  refine wv (fun W hm => Qaw Qbv rfl rfl ((hm.cell0 (show (a13.add (k6 * 1)).block < w.heap.size from by rw [Qae]; exact hb14.1)).trans (hc16 0 _ rfl))) ?_
  refine wm ?_
  refine wcv (Qr Qaoy rfl) (fun W hm => Qavv W _ (gt x0 k6) s7 (hm.rdS0 r24)) ?_
  refine wa (nt' (sr (wm ?_)))
  refine wv Qai ?_
  refine nt' ?_
  rcases dcd ((Qns (gt x0 k6) s7) < 0) with ⟨h25, g26⟩ | ⟨h25, g26⟩
  ·
   refine Ql rfl g26 ?_
   refine sr (wa (nt' (Qj (Qaa (Qg (Qg (Qaa (Qg ?_))))))))
   exact rti (h := Qbf (nr hF9 (Qb g26 (rfl))) rfl)
  refine Qm rfl g26 ?_
  refine Qp (Qam (Qd (Qy (wm ?_))))
  refine wv (Qal k6 1 (by omega)) ?_
  refine wa (Qac ?_)
  exact Qan (k6 + 1, (Qns (gt x0 k6) s7), ()) sl3 idM ⟨(by omega), nx hF9 (Qc g26 (rfl)), trivial⟩ rl
 refine Qm rfl g12 ?_
 refine Qay (Qu (Qu ?_))
 have hE28 := Qbh hl11 hF9
 refine Qaz (Qd (sr (wm (wa (nt' (Qj ?_))))))
 exact rti (h := Qar hE28 (rfl))

def Qhe (x0 : Qau) (x1 : Int) : Int :=
 cond (decide ((Qsj x0.Segments x1) < 0)) (-1) (Qsj x0.Segments x1)
theorem cb83 : Cb Tryz.prog 83 := ⟨f83, _, func83, rfl, by decide⟩
theorem Qavt (w : World) (z0 : List Value) (x0 : Qau) (x1 : Int) (r_0 : Qdm.rd w w.heap.size z0 x0) :
  Calls Tryz.prog 83 #[.agg z0.toArray, iV x1] w (rI w (Qhe x0 x1)) := by
 obtain ⟨v1, rfl, r2⟩ := Qjs r_0
 obtain ⟨m3, A4, c5, rfl, q6, r7⟩ := Qi r2
 refine ce2 (L := [(0, .agg #[.slice A4 x0.Segments.length c5, iV x0.Now]), (1, iV x1)]) (N := 12) func83 ?_
 refine sr ?_
 refine Qbn rfl (Qk rfl) (by decide) (fun p8 => ?_)
 refine wa (nt' (sr ?_))
 refine wv (vf Qbw rfl Qea) ?_
 refine wv (vl 0 0 Qbz) ?_
 refine wm ?_
 refine wcv (Qr Qaod rfl) (fun W hm => Qavu W _ x0.Segments x1 (hm.rdS0 r7)) ?_
 refine wa (nt' (Qe (sr (wm ?_))))
 refine wv Qai ?_
 refine nt' ?_
 rcases dcd ((Qsj x0.Segments x1) < 0) with ⟨h9, g10⟩ | ⟨h9, g10⟩
 ·
  refine Ql rfl g10 ?_
  refine sr (wa (nt' (Qj (Qg ?_))))
  exact rti (h := Qb g10 (rfl))
 refine Qm rfl g10 ?_
 refine Qp (Qd (sr (wm (wa (nt' (Qj ?_))))))
 exact rti (h := Qc g10 (rfl))

def Qzj (x0 : (List Qcd)) (k6 : Nat) (s7 : Int) : Int ⊕ (Int) :=
 cond (((gt x0 k6).Field) != s7) (Sum.inl (-1)) (cond (((gt x0 k6).Low) != (IntKind.i64.wrap (s7 + 1))) (Sum.inl (-1)) (cond (((gt x0 k6).High) != (IntKind.i64.wrap ((IntKind.i64.wrap (s7 + 1)) + 1))) (Sum.inl (-1)) (Sum.inr (IntKind.i64.wrap ((IntKind.i64.wrap ((IntKind.i64.wrap (s7 + 1)) + 1)) + 1)))))
def Qdb (x0 : (List Qcd)) (x1 : Int) : Int :=
 Sum.elim id (fun (s : Int) => s) (rng (R := Int) (fun k (s : Int) => Qzj x0 k s) (x0.length - 0) 0 x1)
theorem Qadq : Cb Tryz.prog 154 := ⟨f154, _, func154, rfl, by decide⟩
theorem Qagb (w : World) (z0 : Value) (x0 : (List Qcd)) (x1 : Int) (r_0 : rdS Qbl w w.heap.size z0 x0) :
  Calls Tryz.prog 154 #[z0, iV x1] w (rI w (Qdb x0 x1)) := by
 obtain ⟨m1, A2, c3, rfl, q4, r5⟩ := Qi r_0
 refine ce2 (L := [(0, .slice A2 x0.length c3), (1, iV x1)]) (N := 40) func154 ?_
 refine sr (wa (nt' (Qe (sr (wa (nt' (Qx ?_)))))))
 refine Qbg (S := Int) (R := Unit) (fun k (s : Int) => Qzj x0 k s) x0.length 0 x1 () (fun s => [(0, .slice A2 x0.length c3), (1, iV s.2.1), (5, nI s.1)]) (fun s => []) (fun s => True) sl3 trivial ?_
 rintro ⟨k6, s7, ⟨⟩⟩ H10 _ _ e e'
 dsimp only at H10 ⊢
 subst e e'
 obtain ⟨hk8, hF9, _⟩ := H10
 refine Qe (sr (wm (wm ?_)))
 refine wv (Qag Qct) ?_
 refine wv Qai ?_
 refine nt' ?_
 rcases dcl k6 x0.length with ⟨hl11, g12⟩ | ⟨hl11, g12⟩
 ·
  refine Ql rfl g12 ?_
  refine Qp (Qd (Qe (Qx (Qe (sr (wm (wm ?_)))))))
  obtain ⟨a13, rfl, hb14, he15⟩ := q4 (by omega)
  refine wv (vix 3 k6 Qct Qds) ?_
  refine wv (vf Qdu rfl Qf) ?_
  obtain ⟨_, e17, hc16⟩ := he15 k6 _ (Qbs (show k6 < x0.length from by omega))
  obtain rfl := Qjo e17
  refine wv (fun W hm => Qaw Qs rfl rfl ((hm.cell0 (show ((a13.add (k6 * 3)).add 0).block < w.heap.size from by rw [Qae, Qae]; exact hb14.1)).trans (hc16 0 _ rfl))) ?_
  refine wm ?_
  refine wv Qcj ?_
  refine nt' ?_
  rcases dcn ((gt x0 k6).Field) s7 with ⟨h18, g19⟩ | ⟨h18, g19⟩
  ·
   refine Qm rfl g19 ?_
   refine Qp (Qd (sr (wm ?_)))
   refine wv Qcy ?_
   refine wa (nt' (Qe (sr (wm (wm ?_)))))
   refine wv (vix 3 k6 Qct Qds) ?_
   refine wv (vf Qdu rfl Qf) ?_
   refine wv (fun W hm => Qaw Qs rfl rfl ((hm.cell0 (show ((a13.add (k6 * 3)).add 1).block < w.heap.size from by rw [Qae, Qae]; exact hb14.1)).trans (hc16 1 _ rfl))) ?_
   refine wm ?_
   refine wv Qcj ?_
   refine nt' ?_
   rcases dcn ((gt x0 k6).Low) (IntKind.i64.wrap (s7 + 1)) with ⟨h20, g21⟩ | ⟨h20, g21⟩
   ·
    refine Qm rfl g21 ?_
    refine Qp (Qd (sr (wm ?_)))
    refine wv Qcy ?_
    refine wa (nt' (Qe (sr (wm (wm ?_)))))
    refine wv (vix 3 k6 Qct Qds) ?_
    refine wv (vf Qdu rfl Qf) ?_
    refine wv (fun W hm => Qaw Qs rfl rfl ((hm.cell0 (show ((a13.add (k6 * 3)).add 2).block < w.heap.size from by rw [Qae, Qae]; exact hb14.1)).trans (hc16 2 _ rfl))) ?_
    refine wm ?_
    refine wv Qcj ?_
    refine nt' ?_
    rcases dcn ((gt x0 k6).High) (IntKind.i64.wrap ((IntKind.i64.wrap (s7 + 1)) + 1)) with ⟨h22, g23⟩ | ⟨h22, g23⟩
    ·
     refine Qm rfl g23 ?_
     refine Qp (Qd (Qy (wm ?_)))
     refine wv Qcy ?_
     refine wa (Qac (Qam (Qd (Qy (wm ?_)))))
     refine wv (Qal k6 1 (by omega)) ?_
     refine wa (Qac ?_)
     exact Qan (k6 + 1, (IntKind.i64.wrap ((IntKind.i64.wrap ((IntKind.i64.wrap (s7 + 1)) + 1)) + 1)), ()) sl3 idM ⟨(by omega), nx hF9 (Qc g19 (Qc g21 (Qc g23 (rfl)))), trivial⟩ rl
    refine Ql rfl g23 ?_
    refine sr (wa (nt' (Qj (Qg (Qaa (Qg (Qg (Qaa (Qg ?_)))))))))
    exact rti (h := Qbf (nr hF9 (Qc g19 (Qc g21 (Qb g23 (rfl))))) rfl)
   refine Ql rfl g21 ?_
   refine sr (wa (nt' (Qj (Qg (Qaa (Qg (Qg (Qaa (Qg ?_)))))))))
   exact rti (h := Qbf (nr hF9 (Qc g19 (Qb g21 (rfl)))) rfl)
  refine Ql rfl g19 ?_
  refine sr (wa (nt' (Qj (Qg (Qaa (Qg (Qg (Qaa (Qg ?_)))))))))
  exact rti (h := Qbf (nr hF9 (Qb g19 (rfl))) rfl)
 refine Qm rfl g12 ?_
 refine Qay (Qu (Qu ?_))
 have hE25 := Qbh hl11 hF9
 refine Qaz (Qd (sr (wm (wa (nt' (Qj ?_))))))
 exact rti (h := Qar hE25 (rfl))

def Qzm (x0 : (List Qab)) (k6 : Nat) (s7 : Int) : Int ⊕ (Int) :=
 cond (((gt x0 k6).Id) != s7) (Sum.inl (-1)) (cond (decide ((Qbb ((gt x0 k6).Values) (IntKind.i64.wrap (s7 + 1))) < 0)) (Sum.inl (-1)) (Sum.inr (Qbb ((gt x0 k6).Values) (IntKind.i64.wrap (s7 + 1)))))
def Qir (x0 : (List Qab)) (x1 : Int) : Int :=
 Sum.elim id (fun (s : Int) => s) (rng (R := Int) (fun k (s : Int) => Qzm x0 k s) (x0.length - 0) 0 x1)
theorem Qadr : Cb Tryz.prog 155 := ⟨f155, _, func155, rfl, by decide⟩
theorem Qagd (w : World) (z0 : Value) (x0 : (List Qab)) (x1 : Int) (r_0 : rdS Qap w w.heap.size z0 x0) :
  Calls Tryz.prog 155 #[z0, iV x1] w (rI w (Qir x0 x1)) := by
 obtain ⟨m1, A2, c3, rfl, q4, r5⟩ := Qi r_0
 refine ce2 (L := [(0, .slice A2 x0.length c3), (1, iV x1)]) (N := 31) func155 ?_
 refine sr (wa (nt' (Qe (sr (wa (nt' (Qx ?_)))))))
 refine Qbg (S := Int) (R := Unit) (fun k (s : Int) => Qzm x0 k s) x0.length 0 x1 () (fun s => [(0, .slice A2 x0.length c3), (1, iV s.2.1), (5, nI s.1)]) (fun s => []) (fun s => True) sl3 trivial ?_
 rintro ⟨k6, s7, ⟨⟩⟩ H10 _ _ e e'
 dsimp only at H10 ⊢
 subst e e'
 obtain ⟨hk8, hF9, _⟩ := H10
 refine Qe (sr (wm (wm ?_)))
 refine wv (Qag Qci) ?_
 refine wv Qai ?_
 refine nt' ?_
 rcases dcl k6 x0.length with ⟨hl11, g12⟩ | ⟨hl11, g12⟩
 ·
  refine Ql rfl g12 ?_
  refine Qp (Qd (Qe (Qx (Qe (sr (wm (wm ?_)))))))
  obtain ⟨a13, rfl, hb14, he15⟩ := q4 (by omega)
  refine wv (vix 2 k6 Qci Qcg) ?_
  refine wv (vf Qdv rfl Qf) ?_
  obtain ⟨_, e19, hc16⟩ := he15 k6 _ (Qbs (show k6 < x0.length from by omega))
  obtain ⟨v17, rfl, r18⟩ := Qin e19
  obtain ⟨m20, A21, c22, rfl, q23, r24⟩ := Qi r18
  refine wv (fun W hm => Qaw Qs rfl rfl ((hm.cell0 (show ((a13.add (k6 * 2)).add 0).block < w.heap.size from by rw [Qae, Qae]; exact hb14.1)).trans (hc16 0 _ rfl))) ?_
  refine wm ?_
  refine wv Qcj ?_
  refine nt' ?_
  rcases dcn ((gt x0 k6).Id) s7 with ⟨h25, g26⟩ | ⟨h25, g26⟩
  ·
   refine Qm rfl g26 ?_
   refine Qp (Qd (sr (wm ?_)))
   refine wv Qcy ?_
   refine wa (nt' (sr (wm (wm ?_))))
   refine wv (vix 2 k6 Qci Qcg) ?_
   refine wv (vf Qdv rfl Qao) ?_
   refine wv (fun W hm => Qaw Qq rfl rfl ((hm.cell0 (show ((a13.add (k6 * 2)).add 1).block < w.heap.size from by rw [Qae, Qae]; exact hb14.1)).trans (hc16 1 _ rfl))) ?_
   refine wm ?_
   refine wcv (Qr Qmh rfl) (fun W hm => Qmn W _ ((gt x0 k6).Values) (IntKind.i64.wrap (s7 + 1)) (hm.rdS0 r24)) ?_
   refine wa (nt' (sr (wm ?_)))
   refine wv Qai ?_
   refine nt' ?_
   rcases dcd ((Qbb ((gt x0 k6).Values) (IntKind.i64.wrap (s7 + 1))) < 0) with ⟨h27, g28⟩ | ⟨h27, g28⟩
   ·
    refine Ql rfl g28 ?_
    refine sr (wa (nt' (Qj (Qaa (Qg (Qg (Qaa (Qg ?_))))))))
    exact rti (h := Qbf (nr hF9 (Qc g26 (Qb g28 (rfl)))) rfl)
   refine Qm rfl g28 ?_
   refine Qp (Qam (Qd (Qy (wm ?_))))
   refine wv (Qal k6 1 (by omega)) ?_
   refine wa (Qac ?_)
   exact Qan (k6 + 1, (Qbb ((gt x0 k6).Values) (IntKind.i64.wrap (s7 + 1))), ()) sl3 idM ⟨(by omega), nx hF9 (Qc g26 (Qc g28 (rfl))), trivial⟩ rl
  refine Ql rfl g26 ?_
  refine sr (wa (nt' (Qj (Qg (Qaa (Qg (Qg (Qaa (Qg ?_)))))))))
  exact rti (h := Qbf (nr hF9 (Qb g26 (rfl))) rfl)
 refine Qm rfl g12 ?_
 refine Qay (Qu (Qu ?_))
 have hE30 := Qbh hl11 hF9
 refine Qaz (Qd (sr (wm (wa (nt' (Qj ?_))))))
 exact rti (h := Qar hE30 (rfl))

def Qzh (x0 : (List Qw)) (k6 : Nat) (s7 : Int) : Int ⊕ (Int) :=
 cond (((gt x0 k6).Query.Id) != s7) (Sum.inl (-1)) (cond (((gt x0 k6).Query.Tenant) != (IntKind.i64.wrap (s7 + 1))) (Sum.inl (-1)) (cond (decide ((Qdb ((gt x0 k6).Query.Conds) (IntKind.i64.wrap ((IntKind.i64.wrap (s7 + 1)) + 1))) < 0)) (Sum.inl (-1)) (cond (decide ((Qbb ((gt x0 k6).Query.Out) (Qdb ((gt x0 k6).Query.Conds) (IntKind.i64.wrap ((IntKind.i64.wrap (s7 + 1)) + 1)))) < 0)) (Sum.inl (-1)) (cond (((gt x0 k6).Time) != (Qbb ((gt x0 k6).Query.Out) (Qdb ((gt x0 k6).Query.Conds) (IntKind.i64.wrap ((IntKind.i64.wrap (s7 + 1)) + 1))))) (Sum.inl (-1)) (cond (decide ((Qbb ((gt x0 k6).Todo) (IntKind.i64.wrap ((Qbb ((gt x0 k6).Query.Out) (Qdb ((gt x0 k6).Query.Conds) (IntKind.i64.wrap ((IntKind.i64.wrap (s7 + 1)) + 1)))) + 1))) < 0)) (Sum.inl (-1)) (cond (((gt x0 k6).Age) != (Qbb ((gt x0 k6).Todo) (IntKind.i64.wrap ((Qbb ((gt x0 k6).Query.Out) (Qdb ((gt x0 k6).Query.Conds) (IntKind.i64.wrap ((IntKind.i64.wrap (s7 + 1)) + 1)))) + 1)))) (Sum.inl (-1)) (cond (((gt x0 k6).Sent) != (IntKind.i64.wrap ((Qbb ((gt x0 k6).Todo) (IntKind.i64.wrap ((Qbb ((gt x0 k6).Query.Out) (Qdb ((gt x0 k6).Query.Conds) (IntKind.i64.wrap ((IntKind.i64.wrap (s7 + 1)) + 1)))) + 1))) + 1))) (Sum.inl (-1)) (cond (((gt x0 k6).Cap) != (IntKind.i64.wrap ((IntKind.i64.wrap ((Qbb ((gt x0 k6).Todo) (IntKind.i64.wrap ((Qbb ((gt x0 k6).Query.Out) (Qdb ((gt x0 k6).Query.Conds) (IntKind.i64.wrap ((IntKind.i64.wrap (s7 + 1)) + 1)))) + 1))) + 1)) + 1))) (Sum.inl (-1)) (cond (decide ((Qir ((gt x0 k6).Rows) (IntKind.i64.wrap ((IntKind.i64.wrap ((IntKind.i64.wrap ((Qbb ((gt x0 k6).Todo) (IntKind.i64.wrap ((Qbb ((gt x0 k6).Query.Out) (Qdb ((gt x0 k6).Query.Conds) (IntKind.i64.wrap ((IntKind.i64.wrap (s7 + 1)) + 1)))) + 1))) + 1)) + 1)) + 1))) < 0)) (Sum.inl (-1)) (Sum.inr (Qir ((gt x0 k6).Rows) (IntKind.i64.wrap ((IntKind.i64.wrap ((IntKind.i64.wrap ((Qbb ((gt x0 k6).Todo) (IntKind.i64.wrap ((Qbb ((gt x0 k6).Query.Out) (Qdb ((gt x0 k6).Query.Conds) (IntKind.i64.wrap ((IntKind.i64.wrap (s7 + 1)) + 1)))) + 1))) + 1)) + 1)) + 1)))))))))))))
def Qkp (x0 : (List Qw)) (x1 : Int) : Int :=
 Sum.elim id (fun (s : Int) => s) (rng (R := Int) (fun k (s : Int) => Qzh x0 k s) (x0.length - 0) 0 x1)
theorem cb85 : Cb Tryz.prog 85 := ⟨f85, _, func85, rfl, by decide⟩
theorem Qavq (w : World) (z0 : Value) (x0 : (List Qw)) (x1 : Int) (r_0 : rdS Qah w w.heap.size z0 x0) :
  Calls Tryz.prog 85 #[z0, iV x1] w (rI w (Qkp x0 x1)) := by
 obtain ⟨m1, A2, c3, rfl, q4, r5⟩ := Qi r_0
 refine ce2 (L := [(0, .slice A2 x0.length c3), (1, iV x1)]) (N := 107) func85 ?_
 refine sr (wa (nt' (Qe (sr (wa (nt' (Qx ?_)))))))
 refine Qbg (S := Int) (R := Unit) (fun k (s : Int) => Qzh x0 k s) x0.length 0 x1 () (fun s => [(0, .slice A2 x0.length c3), (1, iV s.2.1), (5, nI s.1)]) (fun s => []) (fun s => True) sl3 trivial ?_
 rintro ⟨k6, s7, ⟨⟩⟩ H10 _ _ e e'
 dsimp only at H10 ⊢
 subst e e'
 obtain ⟨hk8, hF9, _⟩ := H10
 refine Qe (sr (wm (wm ?_)))
 refine wv (Qag Qax) ?_
 refine wv Qai ?_
 refine nt' ?_
 rcases dcl k6 x0.length with ⟨hl11, g12⟩ | ⟨hl11, g12⟩
 ·
  refine Ql rfl g12 ?_
  refine Qp (Qd (Qe (Qx (Qe (sr (wm (wm ?_)))))))
  obtain ⟨a13, rfl, hb14, he15⟩ := q4 (by omega)
  refine wv (vix 10 k6 Qax Qbe) ?_
  refine wv (vf Qaj rfl Qbj) ?_
  refine wv (fun W hm => Qeb (o := 0) Qbq rfl Qf (by decide) rfl rfl) ?_
  obtain ⟨_, e25, hc16⟩ := he15 k6 _ (Qbs (show k6 < x0.length from by omega))
  obtain ⟨v17, v19, v21, v23, rfl, r18, r20, r22, r24⟩ := Qgp e25
  obtain ⟨m26, A27, c28, rfl, q29, r30⟩ := Qi r18
  obtain ⟨m31, A32, c33, rfl, q34, r35⟩ := Qi r20
  obtain ⟨m36, A37, c38, rfl, q39, r40⟩ := Qi r22
  obtain ⟨m41, A42, c43, rfl, q44, r45⟩ := Qi r24
  refine wv (fun W hm => Qaw Qs rfl rfl ((hm.cell0 (show ((a13.add (k6 * 10)).add 0).block < w.heap.size from by rw [Qae, Qae]; exact hb14.1)).trans (hc16 0 _ rfl))) ?_
  refine wm ?_
  refine wv Qcj ?_
  refine nt' ?_
  rcases dcn ((gt x0 k6).Query.Id) s7 with ⟨h46, g47⟩ | ⟨h46, g47⟩
  ·
   refine Qm rfl g47 ?_
   refine Qp (Qd (sr (wm ?_)))
   refine wv Qcy ?_
   refine wa (nt' (Qe (sr (wm (wm ?_)))))
   refine wv (vix 10 k6 Qax Qbe) ?_
   refine wv (vf Qaj rfl Qbj) ?_
   refine wv (fun W hm => Qeb (o := 1) Qbq rfl Qf (by decide) rfl rfl) ?_
   refine wv (fun W hm => Qaw Qs rfl rfl ((hm.cell0 (show ((a13.add (k6 * 10)).add 1).block < w.heap.size from by rw [Qae, Qae]; exact hb14.1)).trans (hc16 1 _ rfl))) ?_
   refine wm ?_
   refine wv Qcj ?_
   refine nt' ?_
   rcases dcn ((gt x0 k6).Query.Tenant) (IntKind.i64.wrap (s7 + 1)) with ⟨h48, g49⟩ | ⟨h48, g49⟩
   ·
    refine Qm rfl g49 ?_
    refine Qp (Qd (sr (wm ?_)))
    refine wv Qcy ?_
    refine wa (nt' (sr (wm (wm ?_))))
    refine wv (vix 10 k6 Qax Qbe) ?_
    refine wv (vf Qaj rfl Qbj) ?_
    refine wv (fun W hm => Qeb (o := 2) Qbq rfl Qfu (by decide) rfl rfl) ?_
    refine wv (fun W hm => Qaw Qct rfl rfl ((hm.cell0 (show ((a13.add (k6 * 10)).add 2).block < w.heap.size from by rw [Qae, Qae]; exact hb14.1)).trans (hc16 2 _ rfl))) ?_
    refine wm ?_
    refine wcv (Qr Qadq rfl) (fun W hm => Qagb W _ ((gt x0 k6).Query.Conds) (IntKind.i64.wrap ((IntKind.i64.wrap (s7 + 1)) + 1)) (hm.rdS0 r30)) ?_
    refine wa (nt' (Qe (sr (wm ?_))))
    refine wv Qai ?_
    refine nt' ?_
    rcases dcd ((Qdb ((gt x0 k6).Query.Conds) (IntKind.i64.wrap ((IntKind.i64.wrap (s7 + 1)) + 1))) < 0) with ⟨h50, g51⟩ | ⟨h50, g51⟩
    ·
     refine Ql rfl g51 ?_
     refine sr (wa (nt' (Qj (Qg (Qaa (Qg (Qg (Qaa (Qg ?_)))))))))
     exact rti (h := Qbf (nr hF9 (Qc g47 (Qc g49 (Qb g51 (rfl))))) rfl)
    refine Qm rfl g51 ?_
    refine Qp (Qd (sr (wm (wm ?_))))
    refine wv (vix 10 k6 Qax Qbe) ?_
    refine wv (vf Qaj rfl Qbj) ?_
    refine wv (fun W hm => Qeb (o := 3) Qbq rfl Qao (by decide) rfl rfl) ?_
    refine wv (fun W hm => Qaw Qq rfl rfl ((hm.cell0 (show ((a13.add (k6 * 10)).add 3).block < w.heap.size from by rw [Qae, Qae]; exact hb14.1)).trans (hc16 3 _ rfl))) ?_
    refine wm ?_
    refine wcv (Qr Qmh rfl) (fun W hm => Qmn W _ ((gt x0 k6).Query.Out) (Qdb ((gt x0 k6).Query.Conds) (IntKind.i64.wrap ((IntKind.i64.wrap (s7 + 1)) + 1))) (hm.rdS0 r35)) ?_
    refine wa (nt' (Qe (sr (wm ?_))))
    refine wv Qai ?_
    refine nt' ?_
    rcases dcd ((Qbb ((gt x0 k6).Query.Out) (Qdb ((gt x0 k6).Query.Conds) (IntKind.i64.wrap ((IntKind.i64.wrap (s7 + 1)) + 1)))) < 0) with ⟨h52, g53⟩ | ⟨h52, g53⟩
    ·
     refine Ql rfl g53 ?_
     refine sr (wa (nt' (Qj (Qg (Qaa (Qg (Qg (Qaa (Qg ?_)))))))))
     exact rti (h := Qbf (nr hF9 (Qc g47 (Qc g49 (Qc g51 (Qb g53 (rfl)))))) rfl)
    refine Qm rfl g53 ?_
    refine Qp (Qd (Qe (sr (wm (wm ?_)))))
    refine wv (vix 10 k6 Qax Qbe) ?_
    refine wv (vf Qaj rfl Qf) ?_
    refine wv (fun W hm => Qaw Qs rfl rfl ((hm.cell0 (show ((a13.add (k6 * 10)).add 4).block < w.heap.size from by rw [Qae, Qae]; exact hb14.1)).trans (hc16 4 _ rfl))) ?_
    refine wm ?_
    refine wv Qcj ?_
    refine nt' ?_
    rcases dcn ((gt x0 k6).Time) (Qbb ((gt x0 k6).Query.Out) (Qdb ((gt x0 k6).Query.Conds) (IntKind.i64.wrap ((IntKind.i64.wrap (s7 + 1)) + 1)))) with ⟨h54, g55⟩ | ⟨h54, g55⟩
    ·
     refine Qm rfl g55 ?_
     refine Qp (Qd (sr (wm ?_)))
     refine wv Qcy ?_
     refine wa (nt' (sr (wm (wm ?_))))
     refine wv (vix 10 k6 Qax Qbe) ?_
     refine wv (vf Qaj rfl Qao) ?_
     refine wv (fun W hm => Qaw Qq rfl rfl ((hm.cell0 (show ((a13.add (k6 * 10)).add 5).block < w.heap.size from by rw [Qae, Qae]; exact hb14.1)).trans (hc16 5 _ rfl))) ?_
     refine wm ?_
     refine wcv (Qr Qmh rfl) (fun W hm => Qmn W _ ((gt x0 k6).Todo) (IntKind.i64.wrap ((Qbb ((gt x0 k6).Query.Out) (Qdb ((gt x0 k6).Query.Conds) (IntKind.i64.wrap ((IntKind.i64.wrap (s7 + 1)) + 1)))) + 1)) (hm.rdS0 r40)) ?_
     refine wa (nt' (Qe (sr (wm ?_))))
     refine wv Qai ?_
     refine nt' ?_
     rcases dcd ((Qbb ((gt x0 k6).Todo) (IntKind.i64.wrap ((Qbb ((gt x0 k6).Query.Out) (Qdb ((gt x0 k6).Query.Conds) (IntKind.i64.wrap ((IntKind.i64.wrap (s7 + 1)) + 1)))) + 1))) < 0) with ⟨h56, g57⟩ | ⟨h56, g57⟩
     ·
      refine Ql rfl g57 ?_
      refine sr (wa (nt' (Qj (Qg (Qaa (Qg (Qg (Qaa (Qg ?_)))))))))
      exact rti (h := Qbf (nr hF9 (Qc g47 (Qc g49 (Qc g51 (Qc g53 (Qc g55 (Qb g57 (rfl)))))))) rfl)
     refine Qm rfl g57 ?_
     refine Qp (Qd (Qe (sr (wm (wm ?_)))))
     refine wv (vix 10 k6 Qax Qbe) ?_
     refine wv (vf Qaj rfl Qf) ?_
     refine wv (fun W hm => Qaw Qs rfl rfl ((hm.cell0 (show ((a13.add (k6 * 10)).add 6).block < w.heap.size from by rw [Qae, Qae]; exact hb14.1)).trans (hc16 6 _ rfl))) ?_
     refine wm ?_
     refine wv Qcj ?_
     refine nt' ?_
     rcases dcn ((gt x0 k6).Age) (Qbb ((gt x0 k6).Todo) (IntKind.i64.wrap ((Qbb ((gt x0 k6).Query.Out) (Qdb ((gt x0 k6).Query.Conds) (IntKind.i64.wrap ((IntKind.i64.wrap (s7 + 1)) + 1)))) + 1))) with ⟨h58, g59⟩ | ⟨h58, g59⟩
     ·
      refine Qm rfl g59 ?_
      refine Qp (Qd (sr (wm ?_)))
      refine wv Qcy ?_
      refine wa (nt' (Qe (sr (wm (wm ?_)))))
      refine wv (vix 10 k6 Qax Qbe) ?_
      refine wv (vf Qaj rfl Qf) ?_
      refine wv (fun W hm => Qaw Qs rfl rfl ((hm.cell0 (show ((a13.add (k6 * 10)).add 7).block < w.heap.size from by rw [Qae, Qae]; exact hb14.1)).trans (hc16 7 _ rfl))) ?_
      refine wm ?_
      refine wv Qcj ?_
      refine nt' ?_
      rcases dcn ((gt x0 k6).Sent) (IntKind.i64.wrap ((Qbb ((gt x0 k6).Todo) (IntKind.i64.wrap ((Qbb ((gt x0 k6).Query.Out) (Qdb ((gt x0 k6).Query.Conds) (IntKind.i64.wrap ((IntKind.i64.wrap (s7 + 1)) + 1)))) + 1))) + 1)) with ⟨h60, g61⟩ | ⟨h60, g61⟩
      ·
       refine Qm rfl g61 ?_
       refine Qp (Qd (sr (wm ?_)))
       refine wv Qcy ?_
       refine wa (nt' (Qe (sr (wm (wm ?_)))))
       refine wv (vix 10 k6 Qax Qbe) ?_
       refine wv (vf Qaj rfl Qf) ?_
       refine wv (fun W hm => Qaw Qs rfl rfl ((hm.cell0 (show ((a13.add (k6 * 10)).add 8).block < w.heap.size from by rw [Qae, Qae]; exact hb14.1)).trans (hc16 8 _ rfl))) ?_
       refine wm ?_
       refine wv Qcj ?_
       refine nt' ?_
       rcases dcn ((gt x0 k6).Cap) (IntKind.i64.wrap ((IntKind.i64.wrap ((Qbb ((gt x0 k6).Todo) (IntKind.i64.wrap ((Qbb ((gt x0 k6).Query.Out) (Qdb ((gt x0 k6).Query.Conds) (IntKind.i64.wrap ((IntKind.i64.wrap (s7 + 1)) + 1)))) + 1))) + 1)) + 1)) with ⟨h62, g63⟩ | ⟨h62, g63⟩
       ·
        refine Qm rfl g63 ?_
        refine Qp (Qd (sr (wm ?_)))
        refine wv Qcy ?_
        refine wa (nt' (sr (wm (wm ?_))))
        refine wv (vix 10 k6 Qax Qbe) ?_
        refine wv (vf Qaj rfl Qdt) ?_
        refine wv (fun W hm => Qaw Qci rfl rfl ((hm.cell0 (show ((a13.add (k6 * 10)).add 9).block < w.heap.size from by rw [Qae, Qae]; exact hb14.1)).trans (hc16 9 _ rfl))) ?_
        refine wm ?_
        refine wcv (Qr Qadr rfl) (fun W hm => Qagd W _ ((gt x0 k6).Rows) (IntKind.i64.wrap ((IntKind.i64.wrap ((IntKind.i64.wrap ((Qbb ((gt x0 k6).Todo) (IntKind.i64.wrap ((Qbb ((gt x0 k6).Query.Out) (Qdb ((gt x0 k6).Query.Conds) (IntKind.i64.wrap ((IntKind.i64.wrap (s7 + 1)) + 1)))) + 1))) + 1)) + 1)) + 1)) (hm.rdS0 r45)) ?_
        refine wa (nt' (sr (wm ?_)))
        refine wv Qai ?_
        refine nt' ?_
        rcases dcd ((Qir ((gt x0 k6).Rows) (IntKind.i64.wrap ((IntKind.i64.wrap ((IntKind.i64.wrap ((Qbb ((gt x0 k6).Todo) (IntKind.i64.wrap ((Qbb ((gt x0 k6).Query.Out) (Qdb ((gt x0 k6).Query.Conds) (IntKind.i64.wrap ((IntKind.i64.wrap (s7 + 1)) + 1)))) + 1))) + 1)) + 1)) + 1))) < 0) with ⟨h64, g65⟩ | ⟨h64, g65⟩
        ·
         refine Ql rfl g65 ?_
         refine sr (wa (nt' (Qj (Qaa (Qg (Qg (Qaa (Qg ?_))))))))
         exact rti (h := Qbf (nr hF9 (Qc g47 (Qc g49 (Qc g51 (Qc g53 (Qc g55 (Qc g57 (Qc g59 (Qc g61 (Qc g63 (Qb g65 (rfl)))))))))))) rfl)
        refine Qm rfl g65 ?_
        refine Qp (Qam (Qd (Qy (wm ?_))))
        refine wv (Qal k6 1 (by omega)) ?_
        refine wa (Qac ?_)
        exact Qan (k6 + 1, (Qir ((gt x0 k6).Rows) (IntKind.i64.wrap ((IntKind.i64.wrap ((IntKind.i64.wrap ((Qbb ((gt x0 k6).Todo) (IntKind.i64.wrap ((Qbb ((gt x0 k6).Query.Out) (Qdb ((gt x0 k6).Query.Conds) (IntKind.i64.wrap ((IntKind.i64.wrap (s7 + 1)) + 1)))) + 1))) + 1)) + 1)) + 1))), ()) sl3 idM ⟨(by omega), nx hF9 (Qc g47 (Qc g49 (Qc g51 (Qc g53 (Qc g55 (Qc g57 (Qc g59 (Qc g61 (Qc g63 (Qc g65 (rfl))))))))))), trivial⟩ rl
       refine Ql rfl g63 ?_
       refine sr (wa (nt' (Qj (Qg (Qaa (Qg (Qg (Qaa (Qg ?_)))))))))
       exact rti (h := Qbf (nr hF9 (Qc g47 (Qc g49 (Qc g51 (Qc g53 (Qc g55 (Qc g57 (Qc g59 (Qc g61 (Qb g63 (rfl))))))))))) rfl)
      refine Ql rfl g61 ?_
      refine sr (wa (nt' (Qj (Qg (Qaa (Qg (Qg (Qaa (Qg ?_)))))))))
      exact rti (h := Qbf (nr hF9 (Qc g47 (Qc g49 (Qc g51 (Qc g53 (Qc g55 (Qc g57 (Qc g59 (Qb g61 (rfl)))))))))) rfl)
     refine Ql rfl g59 ?_
     refine sr (wa (nt' (Qj (Qg (Qaa (Qg (Qg (Qaa (Qg ?_)))))))))
     exact rti (h := Qbf (nr hF9 (Qc g47 (Qc g49 (Qc g51 (Qc g53 (Qc g55 (Qc g57 (Qb g59 (rfl))))))))) rfl)
    refine Ql rfl g55 ?_
    refine sr (wa (nt' (Qj (Qg (Qaa (Qg (Qg (Qaa (Qg ?_)))))))))
    exact rti (h := Qbf (nr hF9 (Qc g47 (Qc g49 (Qc g51 (Qc g53 (Qb g55 (rfl))))))) rfl)
   refine Ql rfl g49 ?_
   refine sr (wa (nt' (Qj (Qg (Qaa (Qg (Qg (Qaa (Qg ?_)))))))))
   exact rti (h := Qbf (nr hF9 (Qc g47 (Qb g49 (rfl)))) rfl)
  refine Ql rfl g47 ?_
  refine sr (wa (nt' (Qj (Qg (Qaa (Qg (Qg (Qaa (Qg ?_)))))))))
  exact rti (h := Qbf (nr hF9 (Qb g47 (rfl))) rfl)
 refine Qm rfl g12 ?_
 refine Qay (Qu (Qu ?_))
 have hE67 := Qbh hl11 hF9
 refine Qaz (Qd (sr (wm (wa (nt' (Qj ?_))))))
 exact rti (h := Qar hE67 (rfl))

def Qzk (x0 : (List Qav)) (k6 : Nat) (s7 : Int) : Int ⊕ (Int) :=
 cond (((gt x0 k6).Query.Id) != s7) (Sum.inl (-1)) (cond (((gt x0 k6).Query.Tenant) != (IntKind.i64.wrap (s7 + 1))) (Sum.inl (-1)) (cond (decide ((Qdb ((gt x0 k6).Query.Conds) (IntKind.i64.wrap ((IntKind.i64.wrap (s7 + 1)) + 1))) < 0)) (Sum.inl (-1)) (cond (decide ((Qbb ((gt x0 k6).Query.Out) (Qdb ((gt x0 k6).Query.Conds) (IntKind.i64.wrap ((IntKind.i64.wrap (s7 + 1)) + 1)))) < 0)) (Sum.inl (-1)) (cond (((gt x0 k6).Time) != (Qbb ((gt x0 k6).Query.Out) (Qdb ((gt x0 k6).Query.Conds) (IntKind.i64.wrap ((IntKind.i64.wrap (s7 + 1)) + 1))))) (Sum.inl (-1)) (cond (((gt x0 k6).Steps) != (IntKind.i64.wrap ((Qbb ((gt x0 k6).Query.Out) (Qdb ((gt x0 k6).Query.Conds) (IntKind.i64.wrap ((IntKind.i64.wrap (s7 + 1)) + 1)))) + 1))) (Sum.inl (-1)) (cond (decide ((Qir ((gt x0 k6).Rows) (IntKind.i64.wrap ((IntKind.i64.wrap ((Qbb ((gt x0 k6).Query.Out) (Qdb ((gt x0 k6).Query.Conds) (IntKind.i64.wrap ((IntKind.i64.wrap (s7 + 1)) + 1)))) + 1)) + 1))) < 0)) (Sum.inl (-1)) (Sum.inr (Qir ((gt x0 k6).Rows) (IntKind.i64.wrap ((IntKind.i64.wrap ((Qbb ((gt x0 k6).Query.Out) (Qdb ((gt x0 k6).Query.Conds) (IntKind.i64.wrap ((IntKind.i64.wrap (s7 + 1)) + 1)))) + 1)) + 1))))))))))
def Qnr (x0 : (List Qav)) (x1 : Int) : Int :=
 Sum.elim id (fun (s : Int) => s) (rng (R := Int) (fun k (s : Int) => Qzk x0 k s) (x0.length - 0) 0 x1)
theorem cb86 : Cb Tryz.prog 86 := ⟨f86, _, func86, rfl, by decide⟩
theorem Qavs (w : World) (z0 : Value) (x0 : (List Qav)) (x1 : Int) (r_0 : rdS Qas w w.heap.size z0 x0) :
  Calls Tryz.prog 86 #[z0, iV x1] w (rI w (Qnr x0 x1)) := by
 obtain ⟨m1, A2, c3, rfl, q4, r5⟩ := Qi r_0
 refine ce2 (L := [(0, .slice A2 x0.length c3), (1, iV x1)]) (N := 80) func86 ?_
 refine sr (wa (nt' (Qe (sr (wa (nt' (Qx ?_)))))))
 refine Qbg (S := Int) (R := Unit) (fun k (s : Int) => Qzk x0 k s) x0.length 0 x1 () (fun s => [(0, .slice A2 x0.length c3), (1, iV s.2.1), (5, nI s.1)]) (fun s => []) (fun s => True) sl3 trivial ?_
 rintro ⟨k6, s7, ⟨⟩⟩ H10 _ _ e e'
 dsimp only at H10 ⊢
 subst e e'
 obtain ⟨hk8, hF9, _⟩ := H10
 refine Qe (sr (wm (wm ?_)))
 refine wv (Qag Qch) ?_
 refine wv Qai ?_
 refine nt' ?_
 rcases dcl k6 x0.length with ⟨hl11, g12⟩ | ⟨hl11, g12⟩
 ·
  refine Ql rfl g12 ?_
  refine Qp (Qd (Qe (Qx (Qe (sr (wm (wm ?_)))))))
  obtain ⟨a13, rfl, hb14, he15⟩ := q4 (by omega)
  refine wv (vix 7 k6 Qch Qcq) ?_
  refine wv (vf Qda rfl Qbj) ?_
  refine wv (fun W hm => Qeb (o := 0) Qbq rfl Qf (by decide) rfl rfl) ?_
  obtain ⟨_, e23, hc16⟩ := he15 k6 _ (Qbs (show k6 < x0.length from by omega))
  obtain ⟨v17, v19, v21, rfl, r18, r20, r22⟩ := Qlz e23
  obtain ⟨m24, A25, c26, rfl, q27, r28⟩ := Qi r18
  obtain ⟨m29, A30, c31, rfl, q32, r33⟩ := Qi r20
  obtain ⟨m34, A35, c36, rfl, q37, r38⟩ := Qi r22
  refine wv (fun W hm => Qaw Qs rfl rfl ((hm.cell0 (show ((a13.add (k6 * 7)).add 0).block < w.heap.size from by rw [Qae, Qae]; exact hb14.1)).trans (hc16 0 _ rfl))) ?_
  refine wm ?_
  refine wv Qcj ?_
  refine nt' ?_
  rcases dcn ((gt x0 k6).Query.Id) s7 with ⟨h39, g40⟩ | ⟨h39, g40⟩
  ·
   refine Qm rfl g40 ?_
   refine Qp (Qd (sr (wm ?_)))
   refine wv Qcy ?_
   refine wa (nt' (Qe (sr (wm (wm ?_)))))
   refine wv (vix 7 k6 Qch Qcq) ?_
   refine wv (vf Qda rfl Qbj) ?_
   refine wv (fun W hm => Qeb (o := 1) Qbq rfl Qf (by decide) rfl rfl) ?_
   refine wv (fun W hm => Qaw Qs rfl rfl ((hm.cell0 (show ((a13.add (k6 * 7)).add 1).block < w.heap.size from by rw [Qae, Qae]; exact hb14.1)).trans (hc16 1 _ rfl))) ?_
   refine wm ?_
   refine wv Qcj ?_
   refine nt' ?_
   rcases dcn ((gt x0 k6).Query.Tenant) (IntKind.i64.wrap (s7 + 1)) with ⟨h41, g42⟩ | ⟨h41, g42⟩
   ·
    refine Qm rfl g42 ?_
    refine Qp (Qd (sr (wm ?_)))
    refine wv Qcy ?_
    refine wa (nt' (sr (wm (wm ?_))))
    refine wv (vix 7 k6 Qch Qcq) ?_
    refine wv (vf Qda rfl Qbj) ?_
    refine wv (fun W hm => Qeb (o := 2) Qbq rfl Qfu (by decide) rfl rfl) ?_
    refine wv (fun W hm => Qaw Qct rfl rfl ((hm.cell0 (show ((a13.add (k6 * 7)).add 2).block < w.heap.size from by rw [Qae, Qae]; exact hb14.1)).trans (hc16 2 _ rfl))) ?_
    refine wm ?_
    refine wcv (Qr Qadq rfl) (fun W hm => Qagb W _ ((gt x0 k6).Query.Conds) (IntKind.i64.wrap ((IntKind.i64.wrap (s7 + 1)) + 1)) (hm.rdS0 r28)) ?_
    refine wa (nt' (Qe (sr (wm ?_))))
    refine wv Qai ?_
    refine nt' ?_
    rcases dcd ((Qdb ((gt x0 k6).Query.Conds) (IntKind.i64.wrap ((IntKind.i64.wrap (s7 + 1)) + 1))) < 0) with ⟨h43, g44⟩ | ⟨h43, g44⟩
    ·
     refine Ql rfl g44 ?_
     refine sr (wa (nt' (Qj (Qg (Qaa (Qg (Qg (Qaa (Qg ?_)))))))))
     exact rti (h := Qbf (nr hF9 (Qc g40 (Qc g42 (Qb g44 (rfl))))) rfl)
    refine Qm rfl g44 ?_
    refine Qp (Qd (sr (wm (wm ?_))))
    refine wv (vix 7 k6 Qch Qcq) ?_
    refine wv (vf Qda rfl Qbj) ?_
    refine wv (fun W hm => Qeb (o := 3) Qbq rfl Qao (by decide) rfl rfl) ?_
    refine wv (fun W hm => Qaw Qq rfl rfl ((hm.cell0 (show ((a13.add (k6 * 7)).add 3).block < w.heap.size from by rw [Qae, Qae]; exact hb14.1)).trans (hc16 3 _ rfl))) ?_
    refine wm ?_
    refine wcv (Qr Qmh rfl) (fun W hm => Qmn W _ ((gt x0 k6).Query.Out) (Qdb ((gt x0 k6).Query.Conds) (IntKind.i64.wrap ((IntKind.i64.wrap (s7 + 1)) + 1))) (hm.rdS0 r33)) ?_
    refine wa (nt' (Qe (sr (wm ?_))))
    refine wv Qai ?_
    refine nt' ?_
    rcases dcd ((Qbb ((gt x0 k6).Query.Out) (Qdb ((gt x0 k6).Query.Conds) (IntKind.i64.wrap ((IntKind.i64.wrap (s7 + 1)) + 1)))) < 0) with ⟨h45, g46⟩ | ⟨h45, g46⟩
    ·
     refine Ql rfl g46 ?_
     refine sr (wa (nt' (Qj (Qg (Qaa (Qg (Qg (Qaa (Qg ?_)))))))))
     exact rti (h := Qbf (nr hF9 (Qc g40 (Qc g42 (Qc g44 (Qb g46 (rfl)))))) rfl)
    refine Qm rfl g46 ?_
    refine Qp (Qd (Qe (sr (wm (wm ?_)))))
    refine wv (vix 7 k6 Qch Qcq) ?_
    refine wv (vf Qda rfl Qf) ?_
    refine wv (fun W hm => Qaw Qs rfl rfl ((hm.cell0 (show ((a13.add (k6 * 7)).add 4).block < w.heap.size from by rw [Qae, Qae]; exact hb14.1)).trans (hc16 4 _ rfl))) ?_
    refine wm ?_
    refine wv Qcj ?_
    refine nt' ?_
    rcases dcn ((gt x0 k6).Time) (Qbb ((gt x0 k6).Query.Out) (Qdb ((gt x0 k6).Query.Conds) (IntKind.i64.wrap ((IntKind.i64.wrap (s7 + 1)) + 1)))) with ⟨h47, g48⟩ | ⟨h47, g48⟩
    ·
     refine Qm rfl g48 ?_
     refine Qp (Qd (sr (wm ?_)))
     refine wv Qcy ?_
     refine wa (nt' (Qe (sr (wm (wm ?_)))))
     refine wv (vix 7 k6 Qch Qcq) ?_
     refine wv (vf Qda rfl Qf) ?_
     refine wv (fun W hm => Qaw Qs rfl rfl ((hm.cell0 (show ((a13.add (k6 * 7)).add 5).block < w.heap.size from by rw [Qae, Qae]; exact hb14.1)).trans (hc16 5 _ rfl))) ?_
     refine wm ?_
     refine wv Qcj ?_
     refine nt' ?_
     rcases dcn ((gt x0 k6).Steps) (IntKind.i64.wrap ((Qbb ((gt x0 k6).Query.Out) (Qdb ((gt x0 k6).Query.Conds) (IntKind.i64.wrap ((IntKind.i64.wrap (s7 + 1)) + 1)))) + 1)) with ⟨h49, g50⟩ | ⟨h49, g50⟩
     ·
      refine Qm rfl g50 ?_
      refine Qp (Qd (sr (wm ?_)))
      refine wv Qcy ?_
      refine wa (nt' (sr (wm (wm ?_))))
      refine wv (vix 7 k6 Qch Qcq) ?_
      refine wv (vf Qda rfl Qdt) ?_
      refine wv (fun W hm => Qaw Qci rfl rfl ((hm.cell0 (show ((a13.add (k6 * 7)).add 6).block < w.heap.size from by rw [Qae, Qae]; exact hb14.1)).trans (hc16 6 _ rfl))) ?_
      refine wm ?_
      refine wcv (Qr Qadr rfl) (fun W hm => Qagd W _ ((gt x0 k6).Rows) (IntKind.i64.wrap ((IntKind.i64.wrap ((Qbb ((gt x0 k6).Query.Out) (Qdb ((gt x0 k6).Query.Conds) (IntKind.i64.wrap ((IntKind.i64.wrap (s7 + 1)) + 1)))) + 1)) + 1)) (hm.rdS0 r38)) ?_
      refine wa (nt' (sr (wm ?_)))
      refine wv Qai ?_
      refine nt' ?_
      rcases dcd ((Qir ((gt x0 k6).Rows) (IntKind.i64.wrap ((IntKind.i64.wrap ((Qbb ((gt x0 k6).Query.Out) (Qdb ((gt x0 k6).Query.Conds) (IntKind.i64.wrap ((IntKind.i64.wrap (s7 + 1)) + 1)))) + 1)) + 1))) < 0) with ⟨h51, g52⟩ | ⟨h51, g52⟩
      ·
       refine Ql rfl g52 ?_
       refine sr (wa (nt' (Qj (Qaa (Qg (Qg (Qaa (Qg ?_))))))))
       exact rti (h := Qbf (nr hF9 (Qc g40 (Qc g42 (Qc g44 (Qc g46 (Qc g48 (Qc g50 (Qb g52 (rfl))))))))) rfl)
      refine Qm rfl g52 ?_
      refine Qp (Qam (Qd (Qy (wm ?_))))
      refine wv (Qal k6 1 (by omega)) ?_
      refine wa (Qac ?_)
      exact Qan (k6 + 1, (Qir ((gt x0 k6).Rows) (IntKind.i64.wrap ((IntKind.i64.wrap ((Qbb ((gt x0 k6).Query.Out) (Qdb ((gt x0 k6).Query.Conds) (IntKind.i64.wrap ((IntKind.i64.wrap (s7 + 1)) + 1)))) + 1)) + 1))), ()) sl3 idM ⟨(by omega), nx hF9 (Qc g40 (Qc g42 (Qc g44 (Qc g46 (Qc g48 (Qc g50 (Qc g52 (rfl)))))))), trivial⟩ rl
     refine Ql rfl g50 ?_
     refine sr (wa (nt' (Qj (Qg (Qaa (Qg (Qg (Qaa (Qg ?_)))))))))
     exact rti (h := Qbf (nr hF9 (Qc g40 (Qc g42 (Qc g44 (Qc g46 (Qc g48 (Qb g50 (rfl)))))))) rfl)
    refine Ql rfl g48 ?_
    refine sr (wa (nt' (Qj (Qg (Qaa (Qg (Qg (Qaa (Qg ?_)))))))))
    exact rti (h := Qbf (nr hF9 (Qc g40 (Qc g42 (Qc g44 (Qc g46 (Qb g48 (rfl))))))) rfl)
   refine Ql rfl g42 ?_
   refine sr (wa (nt' (Qj (Qg (Qaa (Qg (Qg (Qaa (Qg ?_)))))))))
   exact rti (h := Qbf (nr hF9 (Qc g40 (Qb g42 (rfl)))) rfl)
  refine Ql rfl g40 ?_
  refine sr (wa (nt' (Qj (Qg (Qaa (Qg (Qg (Qaa (Qg ?_)))))))))
  exact rti (h := Qbf (nr hF9 (Qb g40 (rfl))) rfl)
 refine Qm rfl g12 ?_
 refine Qay (Qu (Qu ?_))
 have hE54 := Qbh hl11 hF9
 refine Qaz (Qd (sr (wm (wa (nt' (Qj ?_))))))
 exact rti (h := Qar hE54 (rfl))

def Qzi (x0 : (List Qbc)) (k6 : Nat) (s7 : Int) : Int ⊕ (Int) :=
 cond (((gt x0 k6).Segment) != s7) (Sum.inl (-1)) (cond (((gt x0 k6).Base) != (IntKind.i64.wrap (s7 + 1))) (Sum.inl (-1)) (cond (decide ((Qbb ((gt x0 k6).Ids) (IntKind.i64.wrap ((IntKind.i64.wrap (s7 + 1)) + 1))) < 0)) (Sum.inl (-1)) (cond (decide ((Qbb ((gt x0 k6).Tenants) (Qbb ((gt x0 k6).Ids) (IntKind.i64.wrap ((IntKind.i64.wrap (s7 + 1)) + 1)))) < 0)) (Sum.inl (-1)) (cond (decide ((Qbb ((gt x0 k6).Rows) (Qbb ((gt x0 k6).Tenants) (Qbb ((gt x0 k6).Ids) (IntKind.i64.wrap ((IntKind.i64.wrap (s7 + 1)) + 1))))) < 0)) (Sum.inl (-1)) (Sum.inr (Qbb ((gt x0 k6).Rows) (Qbb ((gt x0 k6).Tenants) (Qbb ((gt x0 k6).Ids) (IntKind.i64.wrap ((IntKind.i64.wrap (s7 + 1)) + 1))))))))))
def Qsi (x0 : (List Qbc)) (x1 : Int) : Int :=
 Sum.elim id (fun (s : Int) => s) (rng (R := Int) (fun k (s : Int) => Qzi x0 k s) (x0.length - 0) 0 x1)
theorem cb87 : Cb Tryz.prog 87 := ⟨f87, _, func87, rfl, by decide⟩
theorem Qavr (w : World) (z0 : Value) (x0 : (List Qbc)) (x1 : Int) (r_0 : rdS Qaq w w.heap.size z0 x0) :
  Calls Tryz.prog 87 #[z0, iV x1] w (rI w (Qsi x0 x1)) := by
 obtain ⟨m1, A2, c3, rfl, q4, r5⟩ := Qi r_0
 refine ce2 (L := [(0, .slice A2 x0.length c3), (1, iV x1)]) (N := 58) func87 ?_
 refine sr (wa (nt' (Qe (sr (wa (nt' (Qx ?_)))))))
 refine Qbg (S := Int) (R := Unit) (fun k (s : Int) => Qzi x0 k s) x0.length 0 x1 () (fun s => [(0, .slice A2 x0.length c3), (1, iV s.2.1), (5, nI s.1)]) (fun s => []) (fun s => True) sl3 trivial ?_
 rintro ⟨k6, s7, ⟨⟩⟩ H10 _ _ e e'
 dsimp only at H10 ⊢
 subst e e'
 obtain ⟨hk8, hF9, _⟩ := H10
 refine Qe (sr (wm (wm ?_)))
 refine wv (Qag Qcx) ?_
 refine wv Qai ?_
 refine nt' ?_
 rcases dcl k6 x0.length with ⟨hl11, g12⟩ | ⟨hl11, g12⟩
 ·
  refine Ql rfl g12 ?_
  refine Qp (Qd (Qe (Qx (Qe (sr (wm (wm ?_)))))))
  obtain ⟨a13, rfl, hb14, he15⟩ := q4 (by omega)
  refine wv (vix 5 k6 Qcx Qcs) ?_
  refine wv (vf Qby rfl Qf) ?_
  obtain ⟨_, e23, hc16⟩ := he15 k6 _ (Qbs (show k6 < x0.length from by omega))
  obtain ⟨v17, v19, v21, rfl, r18, r20, r22⟩ := Qjn e23
  obtain ⟨m24, A25, c26, rfl, q27, r28⟩ := Qi r18
  obtain ⟨m29, A30, c31, rfl, q32, r33⟩ := Qi r20
  obtain ⟨m34, A35, c36, rfl, q37, r38⟩ := Qi r22
  refine wv (fun W hm => Qaw Qs rfl rfl ((hm.cell0 (show ((a13.add (k6 * 5)).add 0).block < w.heap.size from by rw [Qae, Qae]; exact hb14.1)).trans (hc16 0 _ rfl))) ?_
  refine wm ?_
  refine wv Qcj ?_
  refine nt' ?_
  rcases dcn ((gt x0 k6).Segment) s7 with ⟨h39, g40⟩ | ⟨h39, g40⟩
  ·
   refine Qm rfl g40 ?_
   refine Qp (Qd (sr (wm ?_)))
   refine wv Qcy ?_
   refine wa (nt' (Qe (sr (wm (wm ?_)))))
   refine wv (vix 5 k6 Qcx Qcs) ?_
   refine wv (vf Qby rfl Qf) ?_
   refine wv (fun W hm => Qaw Qs rfl rfl ((hm.cell0 (show ((a13.add (k6 * 5)).add 1).block < w.heap.size from by rw [Qae, Qae]; exact hb14.1)).trans (hc16 1 _ rfl))) ?_
   refine wm ?_
   refine wv Qcj ?_
   refine nt' ?_
   rcases dcn ((gt x0 k6).Base) (IntKind.i64.wrap (s7 + 1)) with ⟨h41, g42⟩ | ⟨h41, g42⟩
   ·
    refine Qm rfl g42 ?_
    refine Qp (Qd (sr (wm ?_)))
    refine wv Qcy ?_
    refine wa (nt' (sr (wm (wm ?_))))
    refine wv (vix 5 k6 Qcx Qcs) ?_
    refine wv (vf Qby rfl Qao) ?_
    refine wv (fun W hm => Qaw Qq rfl rfl ((hm.cell0 (show ((a13.add (k6 * 5)).add 2).block < w.heap.size from by rw [Qae, Qae]; exact hb14.1)).trans (hc16 2 _ rfl))) ?_
    refine wm ?_
    refine wcv (Qr Qmh rfl) (fun W hm => Qmn W _ ((gt x0 k6).Ids) (IntKind.i64.wrap ((IntKind.i64.wrap (s7 + 1)) + 1)) (hm.rdS0 r28)) ?_
    refine wa (nt' (Qe (sr (wm ?_))))
    refine wv Qai ?_
    refine nt' ?_
    rcases dcd ((Qbb ((gt x0 k6).Ids) (IntKind.i64.wrap ((IntKind.i64.wrap (s7 + 1)) + 1))) < 0) with ⟨h43, g44⟩ | ⟨h43, g44⟩
    ·
     refine Ql rfl g44 ?_
     refine sr (wa (nt' (Qj (Qg (Qaa (Qg (Qg (Qaa (Qg ?_)))))))))
     exact rti (h := Qbf (nr hF9 (Qc g40 (Qc g42 (Qb g44 (rfl))))) rfl)
    refine Qm rfl g44 ?_
    refine Qp (Qd (sr (wm (wm ?_))))
    refine wv (vix 5 k6 Qcx Qcs) ?_
    refine wv (vf Qby rfl Qao) ?_
    refine wv (fun W hm => Qaw Qq rfl rfl ((hm.cell0 (show ((a13.add (k6 * 5)).add 3).block < w.heap.size from by rw [Qae, Qae]; exact hb14.1)).trans (hc16 3 _ rfl))) ?_
    refine wm ?_
    refine wcv (Qr Qmh rfl) (fun W hm => Qmn W _ ((gt x0 k6).Tenants) (Qbb ((gt x0 k6).Ids) (IntKind.i64.wrap ((IntKind.i64.wrap (s7 + 1)) + 1))) (hm.rdS0 r33)) ?_
    refine wa (nt' (Qe (sr (wm ?_))))
    refine wv Qai ?_
    refine nt' ?_
    rcases dcd ((Qbb ((gt x0 k6).Tenants) (Qbb ((gt x0 k6).Ids) (IntKind.i64.wrap ((IntKind.i64.wrap (s7 + 1)) + 1)))) < 0) with ⟨h45, g46⟩ | ⟨h45, g46⟩
    ·
     refine Ql rfl g46 ?_
     refine sr (wa (nt' (Qj (Qg (Qaa (Qg (Qg (Qaa (Qg ?_)))))))))
     exact rti (h := Qbf (nr hF9 (Qc g40 (Qc g42 (Qc g44 (Qb g46 (rfl)))))) rfl)
    refine Qm rfl g46 ?_
    refine Qp (Qd (sr (wm (wm ?_))))
    refine wv (vix 5 k6 Qcx Qcs) ?_
    refine wv (vf Qby rfl Qao) ?_
    refine wv (fun W hm => Qaw Qq rfl rfl ((hm.cell0 (show ((a13.add (k6 * 5)).add 4).block < w.heap.size from by rw [Qae, Qae]; exact hb14.1)).trans (hc16 4 _ rfl))) ?_
    refine wm ?_
    refine wcv (Qr Qmh rfl) (fun W hm => Qmn W _ ((gt x0 k6).Rows) (Qbb ((gt x0 k6).Tenants) (Qbb ((gt x0 k6).Ids) (IntKind.i64.wrap ((IntKind.i64.wrap (s7 + 1)) + 1)))) (hm.rdS0 r38)) ?_
    refine wa (nt' (sr (wm ?_)))
    refine wv Qai ?_
    refine nt' ?_
    rcases dcd ((Qbb ((gt x0 k6).Rows) (Qbb ((gt x0 k6).Tenants) (Qbb ((gt x0 k6).Ids) (IntKind.i64.wrap ((IntKind.i64.wrap (s7 + 1)) + 1))))) < 0) with ⟨h47, g48⟩ | ⟨h47, g48⟩
    ·
     refine Ql rfl g48 ?_
     refine sr (wa (nt' (Qj (Qaa (Qg (Qg (Qaa (Qg ?_))))))))
     exact rti (h := Qbf (nr hF9 (Qc g40 (Qc g42 (Qc g44 (Qc g46 (Qb g48 (rfl))))))) rfl)
    refine Qm rfl g48 ?_
    refine Qp (Qam (Qd (Qy (wm ?_))))
    refine wv (Qal k6 1 (by omega)) ?_
    refine wa (Qac ?_)
    exact Qan (k6 + 1, (Qbb ((gt x0 k6).Rows) (Qbb ((gt x0 k6).Tenants) (Qbb ((gt x0 k6).Ids) (IntKind.i64.wrap ((IntKind.i64.wrap (s7 + 1)) + 1))))), ()) sl3 idM ⟨(by omega), nx hF9 (Qc g40 (Qc g42 (Qc g44 (Qc g46 (Qc g48 (rfl)))))), trivial⟩ rl
   refine Ql rfl g42 ?_
   refine sr (wa (nt' (Qj (Qg (Qaa (Qg (Qg (Qaa (Qg ?_)))))))))
   exact rti (h := Qbf (nr hF9 (Qc g40 (Qb g42 (rfl)))) rfl)
  refine Ql rfl g40 ?_
  refine sr (wa (nt' (Qj (Qg (Qaa (Qg (Qg (Qaa (Qg ?_)))))))))
  exact rti (h := Qbf (nr hF9 (Qb g40 (rfl))) rfl)
 refine Qm rfl g12 ?_
 refine Qay (Qu (Qu ?_))
 have hE50 := Qbh hl11 hF9
 refine Qaz (Qd (sr (wm (wa (nt' (Qj ?_))))))
 exact rti (h := Qar hE50 (rfl))

def Qnq (x0 : Qo) (x1 : Int) : Int :=
 cond (decide ((Qhe x0.Store x1) < 0)) (-1) (cond (decide ((Qbb x0.Order (Qhe x0.Store x1)) < 0)) (-1) (cond (decide ((Qkp x0.Active (Qbb x0.Order (Qhe x0.Store x1))) < 0)) (-1) (cond (decide ((Qnr x0.Done (Qkp x0.Active (Qbb x0.Order (Qhe x0.Store x1)))) < 0)) (-1) (cond (decide ((Qsi x0.Ledger (Qnr x0.Done (Qkp x0.Active (Qbb x0.Order (Qhe x0.Store x1))))) < 0)) (-1) (Qsi x0.Ledger (Qnr x0.Done (Qkp x0.Active (Qbb x0.Order (Qhe x0.Store x1)))))))))
theorem cb15 : Cb Tryz.prog 15 := ⟨f15, _, func15, rfl, by decide⟩
theorem Qagc (w : World) (z0 : List Value) (x0 : Qo) (x1 : Int) (r_0 : Qcb.rd w w.heap.size z0 x0) :
  Calls Tryz.prog 15 #[.agg z0.toArray, iV x1] w (rI w (Qnq x0 x1)) := by
 obtain ⟨v1, v3, v5, v7, v9, rfl, r2, r4, r6, r8, r10⟩ := Qia r_0
 obtain ⟨m11, A12, c13, rfl, q14, r15⟩ := Qi r2
 obtain ⟨m16, A17, c18, rfl, q19, r20⟩ := Qi r4
 obtain ⟨m21, A22, c23, rfl, q24, r25⟩ := Qi r6
 obtain ⟨m26, A27, c28, rfl, q29, r30⟩ := Qi r8
 obtain ⟨m31, A32, c33, rfl, q34, r35⟩ := Qi r10
 refine ce2 (L := [(0, .agg #[.slice A12 x0.Store.Segments.length c13, iV x0.Store.Now, iV x0.Cursor, .slice A17 x0.Order.length c18, .slice A22 x0.Active.length c23, .slice A27 x0.Done.length c28, .slice A32 x0.Ledger.length c33, iV x0.Steps]), (1, iV x1)]) (N := 36) func15 ?_
 refine sr ?_
 refine Qbn rfl (Qk rfl) (by decide) (fun p36 => ?_)
 refine wa (nt' (sr ?_))
 refine wv (vf Qz rfl Qbt) ?_
 refine wv (fun W hm => Qad (cs := [.slice A12 x0.Store.Segments.length c13, iV x0.Store.Now]) Qbw Qbt rfl rfl (hm.boxPart (n := 0) rfl rfl)) ?_
 refine wm ?_
 refine wcv (Qr cb83 rfl) (fun W hm => Qavt W _ x0.Store x1 (Qgc (x := x0.Store) (hm.rdS0 r15))) ?_
 refine wa (nt' (Qe (sr (wm ?_))))
 refine wv Qai ?_
 refine nt' ?_
 rcases dcd ((Qhe x0.Store x1) < 0) with ⟨h37, g38⟩ | ⟨h37, g38⟩
 ·
  refine Ql rfl g38 ?_
  refine sr (wa (nt' (Qj (Qg ?_))))
  exact rti (h := Qb g38 (rfl))
 refine Qm rfl g38 ?_
 refine Qp (Qd (sr ?_))
 refine wv (vf Qz rfl Qao) ?_
 refine wv (vl 0 3 Qq) ?_
 refine wm ?_
 refine wcv (Qr Qmh rfl) (fun W hm => Qmn W _ x0.Order (Qhe x0.Store x1) (hm.rdS0 r20)) ?_
 refine wa (nt' (Qe (sr (wm ?_))))
 refine wv Qai ?_
 refine nt' ?_
 rcases dcd ((Qbb x0.Order (Qhe x0.Store x1)) < 0) with ⟨h39, g40⟩ | ⟨h39, g40⟩
 ·
  refine Ql rfl g40 ?_
  refine sr (wa (nt' (Qj (Qg ?_))))
  exact rti (h := Qc g38 (Qb g40 (rfl)))
 refine Qm rfl g40 ?_
 refine Qp (Qd (sr ?_))
 refine wv (vf Qz rfl Qcw) ?_
 refine wv (vl 0 4 Qax) ?_
 refine wm ?_
 refine wcv (Qr cb85 rfl) (fun W hm => Qavq W _ x0.Active (Qbb x0.Order (Qhe x0.Store x1)) (hm.rdS0 r25)) ?_
 refine wa (nt' (Qe (sr (wm ?_))))
 refine wv Qai ?_
 refine nt' ?_
 rcases dcd ((Qkp x0.Active (Qbb x0.Order (Qhe x0.Store x1))) < 0) with ⟨h41, g42⟩ | ⟨h41, g42⟩
 ·
  refine Ql rfl g42 ?_
  refine sr (wa (nt' (Qj (Qg ?_))))
  exact rti (h := Qc g38 (Qc g40 (Qb g42 (rfl))))
 refine Qm rfl g42 ?_
 refine Qp (Qd (sr ?_))
 refine wv (vf Qz rfl Qek) ?_
 refine wv (vl 0 5 Qch) ?_
 refine wm ?_
 refine wcv (Qr cb86 rfl) (fun W hm => Qavs W _ x0.Done (Qkp x0.Active (Qbb x0.Order (Qhe x0.Store x1))) (hm.rdS0 r30)) ?_
 refine wa (nt' (Qe (sr (wm ?_))))
 refine wv Qai ?_
 refine nt' ?_
 rcases dcd ((Qnr x0.Done (Qkp x0.Active (Qbb x0.Order (Qhe x0.Store x1)))) < 0) with ⟨h43, g44⟩ | ⟨h43, g44⟩
 ·
  refine Ql rfl g44 ?_
  refine sr (wa (nt' (Qj (Qg ?_))))
  exact rti (h := Qc g38 (Qc g40 (Qc g42 (Qb g44 (rfl)))))
 refine Qm rfl g44 ?_
 refine Qp (Qd (sr ?_))
 refine wv (vf Qz rfl Qfg) ?_
 refine wv (vl 0 6 Qcx) ?_
 refine wm ?_
 refine wcv (Qr cb87 rfl) (fun W hm => Qavr W _ x0.Ledger (Qnr x0.Done (Qkp x0.Active (Qbb x0.Order (Qhe x0.Store x1)))) (hm.rdS0 r35)) ?_
 refine wa (nt' (Qe (sr (wm ?_))))
 refine wv Qai ?_
 refine nt' ?_
 rcases dcd ((Qsi x0.Ledger (Qnr x0.Done (Qkp x0.Active (Qbb x0.Order (Qhe x0.Store x1))))) < 0) with ⟨h45, g46⟩ | ⟨h45, g46⟩
 ·
  refine Ql rfl g46 ?_
  refine sr (wa (nt' (Qj (Qg ?_))))
  exact rti (h := Qc g38 (Qc g40 (Qc g42 (Qc g44 (Qb g46 (rfl))))))
 refine Qm rfl g46 ?_
 refine Qp (Qd (sr (wm (wa (nt' (Qj ?_))))))
 exact rti (h := Qc g38 (Qc g40 (Qc g42 (Qc g44 (Qc g46 (rfl))))))

end Go.Proofs.YtdlminfjdodjoaaGreat
