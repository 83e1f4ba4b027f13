/-
  Contracts of functions, printed by a program of ours.
-/
import Derived.Test.YtmikmbmdibabmaaGreatL7F4
namespace Go.Proofs.YtmikmbmdibabmaaGreat
open Go.RowKit
set_option maxRecDepth 100000
set_option maxHeartbeats 4000000
open _root_.Go.Proofs.Tryz
def laws_markActiveS_b1 (k5 : Nat) (s6 : Int) (d7 : (List DActive)) : (Int × (List DActive)) ⊕ (Int × (List DActive)) :=
 Sum.inr ((laws_markRowS_m ((gt d7 k5).Rows) (IntKind.i64.wrap ((IntKind.i64.wrap ((IntKind.i64.wrap (((laws_markIntS_m ((gt d7 k5).Todo) (IntKind.i64.wrap (((laws_markIntS_m ((gt d7 k5).Query.Out) ((laws_markCondS_m ((gt d7 k5).Query.Conds) (IntKind.i64.wrap ((IntKind.i64.wrap (s6 + 1)) + 1))).1)).1) + 1))).1) + 1)) + 1)) + 1))).1, (d7.set k5 (⟨(⟨s6, (IntKind.i64.wrap (s6 + 1)), (laws_markCondS_m ((gt d7 k5).Query.Conds) (IntKind.i64.wrap ((IntKind.i64.wrap (s6 + 1)) + 1))).2, (laws_markIntS_m ((gt d7 k5).Query.Out) ((laws_markCondS_m ((gt d7 k5).Query.Conds) (IntKind.i64.wrap ((IntKind.i64.wrap (s6 + 1)) + 1))).1)).2⟩ : DQuery), (laws_markIntS_m ((gt d7 k5).Query.Out) ((laws_markCondS_m ((gt d7 k5).Query.Conds) (IntKind.i64.wrap ((IntKind.i64.wrap (s6 + 1)) + 1))).1)).1, (laws_markIntS_m ((gt d7 k5).Todo) (IntKind.i64.wrap (((laws_markIntS_m ((gt d7 k5).Query.Out) ((laws_markCondS_m ((gt d7 k5).Query.Conds) (IntKind.i64.wrap ((IntKind.i64.wrap (s6 + 1)) + 1))).1)).1) + 1))).2, (laws_markIntS_m ((gt d7 k5).Todo) (IntKind.i64.wrap (((laws_markIntS_m ((gt d7 k5).Query.Out) ((laws_markCondS_m ((gt d7 k5).Query.Conds) (IntKind.i64.wrap ((IntKind.i64.wrap (s6 + 1)) + 1))).1)).1) + 1))).1, (IntKind.i64.wrap (((laws_markIntS_m ((gt d7 k5).Todo) (IntKind.i64.wrap (((laws_markIntS_m ((gt d7 k5).Query.Out) ((laws_markCondS_m ((gt d7 k5).Query.Conds) (IntKind.i64.wrap ((IntKind.i64.wrap (s6 + 1)) + 1))).1)).1) + 1))).1) + 1)), (IntKind.i64.wrap ((IntKind.i64.wrap (((laws_markIntS_m ((gt d7 k5).Todo) (IntKind.i64.wrap (((laws_markIntS_m ((gt d7 k5).Query.Out) ((laws_markCondS_m ((gt d7 k5).Query.Conds) (IntKind.i64.wrap ((IntKind.i64.wrap (s6 + 1)) + 1))).1)).1) + 1))).1) + 1)) + 1)), (laws_markRowS_m ((gt d7 k5).Rows) (IntKind.i64.wrap ((IntKind.i64.wrap ((IntKind.i64.wrap (((laws_markIntS_m ((gt d7 k5).Todo) (IntKind.i64.wrap (((laws_markIntS_m ((gt d7 k5).Query.Out) ((laws_markCondS_m ((gt d7 k5).Query.Conds) (IntKind.i64.wrap ((IntKind.i64.wrap (s6 + 1)) + 1))).1)).1) + 1))).1) + 1)) + 1)) + 1))).2⟩ : DActive)))
def laws_markActiveS_m (x0 : (List DActive)) (x1 : Int) : (Int × (List DActive)) :=
 Sum.elim id (fun (s : Int × (List DActive)) => (s.1, s.2)) (rng (R := (Int × (List DActive))) (fun k (s : Int × (List DActive)) => laws_markActiveS_b1 k s.1 s.2) (x0.length - 0) 0 (x1, x0))
theorem cb93 : Cb Tryz.prog 93 := ⟨f93, _, func93, rfl, by decide⟩
theorem laws_markActiveS_c (B : Nat) (w0 : World) (is : List It) (w : World) (z0 : Value) (x0 : (List DActive)) (x1 : Int) (hm : Mem B w0 (iOwn (tSl tyActive 64) [z0] x0 :: is) w) :
  Calls Tryz.prog 93 #[z0, .int .i64 x1] w fun e w' => e = .returned (.int .i64 (laws_markActiveS_m x0 x1).1) ∧ Mem B w0 (iOwn (tSl tyActive 64) [z0] (laws_markActiveS_m x0 x1).2 :: is) w' := by
 refine call_enterW (L := [(0, z0), (1, .int .i64 x1)]) (N := 87) func93 rfl rfl (Nat.le_of_ble_eq_true rfl) (argsL_cons rfl (argsL_cons rfl argsL_nil)) hm ?_
 refine CM_form (n := 0) rfl ?_
 rintro A1 c2 rfl m3
 refine sr (wa (nt' (CM_seq (sr (wa (nt' (CM_block ?_)))))))
 let F1 := fun k (s : Int × (List DActive)) => laws_markActiveS_b1 k s.1 s.2
 let R2 := rng (R := (Int × (List DActive))) F1
 refine CM_loop (σ := Nat × (Int × (List DActive)) × (Unit)) (fun s => [(0, .slice A1 x0.length c2), (1, .int .i64 s.2.1.1), (5, .int .i64 ((s.1 : Nat) : Int))]) (fun s => (iOwn (tSl tyActive 64) [.slice A1 x0.length c2] s.2.1.2 :: is)) (fun s => s.1 ≤ x0.length ∧ R2 (x0.length - s.1) s.1 s.2.1 = R2 (x0.length - 0) 0 (x1, x0)) (fun s => x0.length - s.1) (0, (x1, x0), ()) sl3 (fun W hm => hm) ⟨(by omega), rfl⟩ ?_
 rintro ⟨k5, ⟨s6, d7⟩, ⟨⟩⟩ H10
 obtain ⟨hk8, hF9⟩ : k5 ≤ x0.length ∧ R2 (x0.length - k5) k5 (s6, d7) = R2 (x0.length - 0) 0 (x1, x0) := H10
 show CM Tryz.prog 87 _ _ _ _ [(0, .slice A1 x0.length c2), (1, .int .i64 s6), (5, .int .i64 ((k5 : Nat) : Int))] (iOwn (tSl tyActive 64) [.slice A1 x0.length c2] d7 :: is)
 refine CM_seq (sr (wm (wm ?_)))
 refine wv (vlen underlying43) ?_
 refine wv vlss ?_
 refine nt' ?_
 by_cases hl11 : k5 < x0.length
 ·have g12 := dlT hl11
  refine CM_condT rfl g12 ?_
  refine CM_skip (QM_then (CM_seq (CM_block (sr (wm (wm (wm ?_)))))))
  refine WM_formO (n := 0) rfl (by omega) ?_
  rintro g13 rfl
  refine wv (vix 10 k5 underlying43 type64) ?_
  refine wv (vf underlying64 rfl type34) ?_
  refine wv (fun W hm => rv_fieldA (o := 0) underlying34 rfl type3 (by decide) rfl rfl) ?_
  refine WM_focus (E := tyActive) (e := 64) (A := (some ⟨g13, 0, none⟩)) (n := x0.length) (c := c2) (xs := d7) (k := k5) (js := (is)) (by omega) (fun W hm => (hm.front (n := 0) rfl)) (fun ck14 => ?_)
  refine tyActive_sp ?_
  rintro ⟨v15, v16, v17, v18⟩ rfl
  refine WM_form (n := 0) rfl ?_
  rintro A19 c20 rfl m21
  refine WM_form (n := 1) rfl ?_
  rintro A23 c24 rfl m25
  refine WM_form (n := 2) rfl ?_
  rintro A27 c28 rfl m29
  refine WM_form (n := 3) rfl ?_
  rintro A31 c32 rfl m33
  let I6 : It := iOwn (tSl tyCond 201) [.slice A19 ((gt d7 k5).Query.Conds).length c20] ((gt d7 k5).Query.Conds)
  let I7 : It := iOwn (tSl tInt 3) [.slice A23 ((gt d7 k5).Query.Out).length c24] ((gt d7 k5).Query.Out)
  let I8 : It := iOwn (tSl tInt 3) [.slice A27 ((gt d7 k5).Todo).length c28] ((gt d7 k5).Todo)
  let I9 : It := iOwn (tSl tyRow 73) [.slice A31 ((gt d7 k5).Rows).length c32] ((gt d7 k5).Rows)
  refine sf 0 10 [.int .i64 s6, .int .i64 ((gt d7 k5).Query.Tenant), .slice A19 ((gt d7 k5).Query.Conds).length c20, .slice A23 ((gt d7 k5).Query.Out).length c24, .int .i64 ((gt d7 k5).Time), .slice A27 ((gt d7 k5).Todo).length c28, .int .i64 ((gt d7 k5).Age), .int .i64 ((gt d7 k5).Sent), .int .i64 ((gt d7 k5).Cap), .slice A31 ((gt d7 k5).Rows).length c32] (I6 :: I7 :: I8 :: I9 :: is) (fun W hm => (hm.front (n := 4) rfl)) type3 ?_
  refine nt' (sr (wm ?_))
  refine wv vadd ?_
  refine wa (nt' (sr (wm (wm (wm ?_)))))
  refine wv (vix 10 k5 underlying43 type64) ?_
  refine wv (vf underlying64 rfl type34) ?_
  refine wv (fun W hm => rv_fieldA (o := 1) underlying34 rfl type3 (by decide) rfl rfl) ?_
  let K3 : List Value := [.int .i64 s6, .int .i64 (IntKind.i64.wrap (s6 + 1)), .slice A19 ((gt d7 k5).Query.Conds).length c20, .slice A23 ((gt d7 k5).Query.Out).length c24, .int .i64 ((gt d7 k5).Time), .slice A27 ((gt d7 k5).Todo).length c28, .int .i64 ((gt d7 k5).Age), .int .i64 ((gt d7 k5).Sent), .int .i64 ((gt d7 k5).Cap), .slice A31 ((gt d7 k5).Rows).length c32]
  refine sf 1 10 K3 (I6 :: I7 :: I8 :: I9 :: is) (fun W hm => (hm.front (n := 0) rfl)) type3 ?_
  refine nt' (sr (wm ?_))
  refine wv vadd ?_
  refine wa (nt' (sr (wm (wm ?_))))
  refine wv (vix 10 k5 underlying43 type64) ?_
  refine wv (vf underlying64 rfl type34) ?_
  refine wv (fun W hm => rv_fieldA (o := 2) underlying34 rfl type32 (by decide) rfl rfl) ?_
  refine wv (fun W hm => rv_load underlying32 rfl rfl (hm.focCells (i := 0) rfl rfl 2 _ rfl)) ?_
  refine wm ?_
  refine cw (cl_fn cb146 rfl) (fun W hm => laws_markCondS_c B w0 (iFoc tyActive 64 (some ⟨g13, 0, none⟩) x0.length c2 d7 k5 K3 :: I7 :: I8 :: I9 :: is) W (.slice A19 ((gt d7 k5).Query.Conds).length c20) ((gt d7 k5).Query.Conds) (IntKind.i64.wrap ((IntKind.i64.wrap (s6 + 1)) + 1)) (hm.front (n := 1) rfl)) ?_
  refine wa (nt' (sr (wm (wm ?_))))
  refine wv (vix 10 k5 underlying43 type64) ?_
  refine wv (vf underlying64 rfl type34) ?_
  refine wv (fun W hm => rv_fieldA (o := 3) underlying34 rfl type25 (by decide) rfl rfl) ?_
  refine wv (fun W hm => rv_load underlying25 rfl rfl (hm.focCells (i := 1) rfl rfl 3 _ rfl)) ?_
  refine wm ?_
  let I10 : It := iOwn (tSl tyCond 201) [.slice A19 ((gt d7 k5).Query.Conds).length c20] ((laws_markCondS_m ((gt d7 k5).Query.Conds) (IntKind.i64.wrap ((IntKind.i64.wrap (s6 + 1)) + 1))).2)
  refine cw (cl_fn cb50 rfl) (fun W hm => laws_markIntS_c B w0 (I10 :: iFoc tyActive 64 (some ⟨g13, 0, none⟩) x0.length c2 d7 k5 K3 :: I8 :: I9 :: is) W (.slice A23 ((gt d7 k5).Query.Out).length c24) ((gt d7 k5).Query.Out) ((laws_markCondS_m ((gt d7 k5).Query.Conds) (IntKind.i64.wrap ((IntKind.i64.wrap (s6 + 1)) + 1))).1) (hm.front (n := 2) rfl)) ?_
  refine wa (nt' (sr (wm (wm (wm ?_)))))
  refine wv (vix 10 k5 underlying43 type64) ?_
  refine wv (vf underlying64 rfl type3) ?_
  let K4 : List Value := [.int .i64 s6, .int .i64 (IntKind.i64.wrap (s6 + 1)), .slice A19 ((gt d7 k5).Query.Conds).length c20, .slice A23 ((gt d7 k5).Query.Out).length c24, .int .i64 ((laws_markIntS_m ((gt d7 k5).Query.Out) ((laws_markCondS_m ((gt d7 k5).Query.Conds) (IntKind.i64.wrap ((IntKind.i64.wrap (s6 + 1)) + 1))).1)).1), .slice A27 ((gt d7 k5).Todo).length c28, .int .i64 ((gt d7 k5).Age), .int .i64 ((gt d7 k5).Sent), .int .i64 ((gt d7 k5).Cap), .slice A31 ((gt d7 k5).Rows).length c32]
  let I11 : It := iOwn (tSl tInt 3) [.slice A23 ((gt d7 k5).Query.Out).length c24] ((laws_markIntS_m ((gt d7 k5).Query.Out) ((laws_markCondS_m ((gt d7 k5).Query.Conds) (IntKind.i64.wrap ((IntKind.i64.wrap (s6 + 1)) + 1))).1)).2)
  refine sf 4 10 K4 (I11 :: I10 :: I8 :: I9 :: is) (fun W hm => (hm.front (n := 2) rfl)) type3 ?_
  refine nt' (sr (wm ?_))
  refine wv vadd ?_
  refine wa (nt' (sr (wm (wm ?_))))
  refine wv (vix 10 k5 underlying43 type64) ?_
  refine wv (vf underlying64 rfl type25) ?_
  refine wv (fun W hm => rv_load underlying25 rfl rfl (hm.focCells (i := 0) rfl rfl 5 _ rfl)) ?_
  refine wm ?_
  refine cw (cl_fn cb50 rfl) (fun W hm => laws_markIntS_c B w0 (iFoc tyActive 64 (some ⟨g13, 0, none⟩) x0.length c2 d7 k5 K4 :: I11 :: I10 :: I9 :: is) W (.slice A27 ((gt d7 k5).Todo).length c28) ((gt d7 k5).Todo) (IntKind.i64.wrap (((laws_markIntS_m ((gt d7 k5).Query.Out) ((laws_markCondS_m ((gt d7 k5).Query.Conds) (IntKind.i64.wrap ((IntKind.i64.wrap (s6 + 1)) + 1))).1)).1) + 1)) (hm.front (n := 3) rfl)) ?_
  refine wa (nt' (sr (wm (wm (wm ?_)))))
  refine wv (vix 10 k5 underlying43 type64) ?_
  refine wv (vf underlying64 rfl type3) ?_
  let I12 : It := iOwn (tSl tInt 3) [.slice A27 ((gt d7 k5).Todo).length c28] ((laws_markIntS_m ((gt d7 k5).Todo) (IntKind.i64.wrap (((laws_markIntS_m ((gt d7 k5).Query.Out) ((laws_markCondS_m ((gt d7 k5).Query.Conds) (IntKind.i64.wrap ((IntKind.i64.wrap (s6 + 1)) + 1))).1)).1) + 1))).2)
  refine sf 6 10 [.int .i64 s6, .int .i64 (IntKind.i64.wrap (s6 + 1)), .slice A19 ((gt d7 k5).Query.Conds).length c20, .slice A23 ((gt d7 k5).Query.Out).length c24, .int .i64 ((laws_markIntS_m ((gt d7 k5).Query.Out) ((laws_markCondS_m ((gt d7 k5).Query.Conds) (IntKind.i64.wrap ((IntKind.i64.wrap (s6 + 1)) + 1))).1)).1), .slice A27 ((gt d7 k5).Todo).length c28, .int .i64 ((laws_markIntS_m ((gt d7 k5).Todo) (IntKind.i64.wrap (((laws_markIntS_m ((gt d7 k5).Query.Out) ((laws_markCondS_m ((gt d7 k5).Query.Conds) (IntKind.i64.wrap ((IntKind.i64.wrap (s6 + 1)) + 1))).1)).1) + 1))).1), .int .i64 ((gt d7 k5).Sent), .int .i64 ((gt d7 k5).Cap), .slice A31 ((gt d7 k5).Rows).length c32] (I12 :: I11 :: I10 :: I9 :: is) (fun W hm => (hm.front (n := 1) rfl)) type3 ?_
  refine nt' (sr (wm ?_))
  refine wv vadd ?_
  refine wa (nt' (sr (wm (wm (wm ?_)))))
  refine wv (vix 10 k5 underlying43 type64) ?_
  refine wv (vf underlying64 rfl type3) ?_
  refine sf 7 10 [.int .i64 s6, .int .i64 (IntKind.i64.wrap (s6 + 1)), .slice A19 ((gt d7 k5).Query.Conds).length c20, .slice A23 ((gt d7 k5).Query.Out).length c24, .int .i64 ((laws_markIntS_m ((gt d7 k5).Query.Out) ((laws_markCondS_m ((gt d7 k5).Query.Conds) (IntKind.i64.wrap ((IntKind.i64.wrap (s6 + 1)) + 1))).1)).1), .slice A27 ((gt d7 k5).Todo).length c28, .int .i64 ((laws_markIntS_m ((gt d7 k5).Todo) (IntKind.i64.wrap (((laws_markIntS_m ((gt d7 k5).Query.Out) ((laws_markCondS_m ((gt d7 k5).Query.Conds) (IntKind.i64.wrap ((IntKind.i64.wrap (s6 + 1)) + 1))).1)).1) + 1))).1), .int .i64 (IntKind.i64.wrap (((laws_markIntS_m ((gt d7 k5).Todo) (IntKind.i64.wrap (((laws_markIntS_m ((gt d7 k5).Query.Out) ((laws_markCondS_m ((gt d7 k5).Query.Conds) (IntKind.i64.wrap ((IntKind.i64.wrap (s6 + 1)) + 1))).1)).1) + 1))).1) + 1)), .int .i64 ((gt d7 k5).Cap), .slice A31 ((gt d7 k5).Rows).length c32] (I12 :: I11 :: I10 :: I9 :: is) (fun W hm => (hm.front (n := 0) rfl)) type3 ?_
  refine nt' (sr (wm ?_))
  refine wv vadd ?_
  refine wa (nt' (sr (wm (wm (wm ?_)))))
  refine wv (vix 10 k5 underlying43 type64) ?_
  refine wv (vf underlying64 rfl type3) ?_
  let K5 : List Value := [.int .i64 s6, .int .i64 (IntKind.i64.wrap (s6 + 1)), .slice A19 ((gt d7 k5).Query.Conds).length c20, .slice A23 ((gt d7 k5).Query.Out).length c24, .int .i64 ((laws_markIntS_m ((gt d7 k5).Query.Out) ((laws_markCondS_m ((gt d7 k5).Query.Conds) (IntKind.i64.wrap ((IntKind.i64.wrap (s6 + 1)) + 1))).1)).1), .slice A27 ((gt d7 k5).Todo).length c28, .int .i64 ((laws_markIntS_m ((gt d7 k5).Todo) (IntKind.i64.wrap (((laws_markIntS_m ((gt d7 k5).Query.Out) ((laws_markCondS_m ((gt d7 k5).Query.Conds) (IntKind.i64.wrap ((IntKind.i64.wrap (s6 + 1)) + 1))).1)).1) + 1))).1), .int .i64 (IntKind.i64.wrap (((laws_markIntS_m ((gt d7 k5).Todo) (IntKind.i64.wrap (((laws_markIntS_m ((gt d7 k5).Query.Out) ((laws_markCondS_m ((gt d7 k5).Query.Conds) (IntKind.i64.wrap ((IntKind.i64.wrap (s6 + 1)) + 1))).1)).1) + 1))).1) + 1)), .int .i64 (IntKind.i64.wrap ((IntKind.i64.wrap (((laws_markIntS_m ((gt d7 k5).Todo) (IntKind.i64.wrap (((laws_markIntS_m ((gt d7 k5).Query.Out) ((laws_markCondS_m ((gt d7 k5).Query.Conds) (IntKind.i64.wrap ((IntKind.i64.wrap (s6 + 1)) + 1))).1)).1) + 1))).1) + 1)) + 1)), .slice A31 ((gt d7 k5).Rows).length c32]
  refine sf 8 10 K5 (I12 :: I11 :: I10 :: I9 :: is) (fun W hm => (hm.front (n := 0) rfl)) type3 ?_
  refine nt' (sr (wm ?_))
  refine wv vadd ?_
  refine wa (nt' (CM_region (wm (wm ?_))))
  refine wv (vix 10 k5 underlying43 type64) ?_
  refine wv (vf underlying64 rfl type35) ?_
  refine wv (fun W hm => rv_load underlying35 rfl rfl (hm.focCells (i := 0) rfl rfl 9 _ rfl)) ?_
  refine wm ?_
  refine cw (cl_fn cb96 rfl) (fun W hm => laws_markRowS_c B w0 (iFoc tyActive 64 (some ⟨g13, 0, none⟩) x0.length c2 d7 k5 K5 :: I12 :: I11 :: I10 :: is) W (.slice A31 ((gt d7 k5).Rows).length c32) ((gt d7 k5).Rows) (IntKind.i64.wrap ((IntKind.i64.wrap ((IntKind.i64.wrap (((laws_markIntS_m ((gt d7 k5).Todo) (IntKind.i64.wrap (((laws_markIntS_m ((gt d7 k5).Query.Out) ((laws_markCondS_m ((gt d7 k5).Query.Conds) (IntKind.i64.wrap ((IntKind.i64.wrap (s6 + 1)) + 1))).1)).1) + 1))).1) + 1)) + 1)) + 1)) (hm.front (n := 4) rfl)) ?_
  refine wa (WM_nil (QM_block_normal (QM_then (CM_region (wm ?_)))))
  refine wv (vadN k5 1 (by omega)) ?_
  refine wa (WM_nil ?_)
  refine QM_items (fun W hm => Mem.unfocus (Mem.join (is := [I10, I11, I12, iOwn (tSl tyRow 73) [.slice A31 ((gt d7 k5).Rows).length c32] ((laws_markRowS_m ((gt d7 k5).Rows) (IntKind.i64.wrap ((IntKind.i64.wrap ((IntKind.i64.wrap (((laws_markIntS_m ((gt d7 k5).Todo) (IntKind.i64.wrap (((laws_markIntS_m ((gt d7 k5).Query.Out) ((laws_markCondS_m ((gt d7 k5).Query.Conds) (IntKind.i64.wrap ((IntKind.i64.wrap (s6 + 1)) + 1))).1)).1) + 1))).1) + 1)) + 1)) + 1))).2)]) (js := (iFoc tyActive 64 (some ⟨g13, 0, none⟩) x0.length c2 d7 k5 K5 :: (is))) (fun _ _ hs => tyActive_join (x := (⟨(⟨s6, (IntKind.i64.wrap (s6 + 1)), (laws_markCondS_m ((gt d7 k5).Query.Conds) (IntKind.i64.wrap ((IntKind.i64.wrap (s6 + 1)) + 1))).2, (laws_markIntS_m ((gt d7 k5).Query.Out) ((laws_markCondS_m ((gt d7 k5).Query.Conds) (IntKind.i64.wrap ((IntKind.i64.wrap (s6 + 1)) + 1))).1)).2⟩ : DQuery), (laws_markIntS_m ((gt d7 k5).Query.Out) ((laws_markCondS_m ((gt d7 k5).Query.Conds) (IntKind.i64.wrap ((IntKind.i64.wrap (s6 + 1)) + 1))).1)).1, (laws_markIntS_m ((gt d7 k5).Todo) (IntKind.i64.wrap (((laws_markIntS_m ((gt d7 k5).Query.Out) ((laws_markCondS_m ((gt d7 k5).Query.Conds) (IntKind.i64.wrap ((IntKind.i64.wrap (s6 + 1)) + 1))).1)).1) + 1))).2, (laws_markIntS_m ((gt d7 k5).Todo) (IntKind.i64.wrap (((laws_markIntS_m ((gt d7 k5).Query.Out) ((laws_markCondS_m ((gt d7 k5).Query.Conds) (IntKind.i64.wrap ((IntKind.i64.wrap (s6 + 1)) + 1))).1)).1) + 1))).1, (IntKind.i64.wrap (((laws_markIntS_m ((gt d7 k5).Todo) (IntKind.i64.wrap (((laws_markIntS_m ((gt d7 k5).Query.Out) ((laws_markCondS_m ((gt d7 k5).Query.Conds) (IntKind.i64.wrap ((IntKind.i64.wrap (s6 + 1)) + 1))).1)).1) + 1))).1) + 1)), (IntKind.i64.wrap ((IntKind.i64.wrap (((laws_markIntS_m ((gt d7 k5).Todo) (IntKind.i64.wrap (((laws_markIntS_m ((gt d7 k5).Query.Out) ((laws_markCondS_m ((gt d7 k5).Query.Conds) (IntKind.i64.wrap ((IntKind.i64.wrap (s6 + 1)) + 1))).1)).1) + 1))).1) + 1)) + 1)), (laws_markRowS_m ((gt d7 k5).Rows) (IntKind.i64.wrap ((IntKind.i64.wrap ((IntKind.i64.wrap (((laws_markIntS_m ((gt d7 k5).Todo) (IntKind.i64.wrap (((laws_markIntS_m ((gt d7 k5).Query.Out) ((laws_markCondS_m ((gt d7 k5).Query.Conds) (IntKind.i64.wrap ((IntKind.i64.wrap (s6 + 1)) + 1))).1)).1) + 1))).1) + 1)) + 1)) + 1))).2⟩ : DActive)) hs) (((((hm.front (n := 1) rfl).front (n := 1) rfl).front (n := 2) rfl).front (n := 3) rfl).front (n := 4) rfl))) ?_
  have hn35 := rng_next (R := (Int × (List DActive))) (body := F1) (k := k5) (s := (s6, d7)) (s' := ((laws_markRowS_m ((gt d7 k5).Rows) (IntKind.i64.wrap ((IntKind.i64.wrap ((IntKind.i64.wrap (((laws_markIntS_m ((gt d7 k5).Todo) (IntKind.i64.wrap (((laws_markIntS_m ((gt d7 k5).Query.Out) ((laws_markCondS_m ((gt d7 k5).Query.Conds) (IntKind.i64.wrap ((IntKind.i64.wrap (s6 + 1)) + 1))).1)).1) + 1))).1) + 1)) + 1)) + 1))).1, (d7.set k5 (⟨(⟨s6, (IntKind.i64.wrap (s6 + 1)), (laws_markCondS_m ((gt d7 k5).Query.Conds) (IntKind.i64.wrap ((IntKind.i64.wrap (s6 + 1)) + 1))).2, (laws_markIntS_m ((gt d7 k5).Query.Out) ((laws_markCondS_m ((gt d7 k5).Query.Conds) (IntKind.i64.wrap ((IntKind.i64.wrap (s6 + 1)) + 1))).1)).2⟩ : DQuery), (laws_markIntS_m ((gt d7 k5).Query.Out) ((laws_markCondS_m ((gt d7 k5).Query.Conds) (IntKind.i64.wrap ((IntKind.i64.wrap (s6 + 1)) + 1))).1)).1, (laws_markIntS_m ((gt d7 k5).Todo) (IntKind.i64.wrap (((laws_markIntS_m ((gt d7 k5).Query.Out) ((laws_markCondS_m ((gt d7 k5).Query.Conds) (IntKind.i64.wrap ((IntKind.i64.wrap (s6 + 1)) + 1))).1)).1) + 1))).2, (laws_markIntS_m ((gt d7 k5).Todo) (IntKind.i64.wrap (((laws_markIntS_m ((gt d7 k5).Query.Out) ((laws_markCondS_m ((gt d7 k5).Query.Conds) (IntKind.i64.wrap ((IntKind.i64.wrap (s6 + 1)) + 1))).1)).1) + 1))).1, (IntKind.i64.wrap (((laws_markIntS_m ((gt d7 k5).Todo) (IntKind.i64.wrap (((laws_markIntS_m ((gt d7 k5).Query.Out) ((laws_markCondS_m ((gt d7 k5).Query.Conds) (IntKind.i64.wrap ((IntKind.i64.wrap (s6 + 1)) + 1))).1)).1) + 1))).1) + 1)), (IntKind.i64.wrap ((IntKind.i64.wrap (((laws_markIntS_m ((gt d7 k5).Todo) (IntKind.i64.wrap (((laws_markIntS_m ((gt d7 k5).Query.Out) ((laws_markCondS_m ((gt d7 k5).Query.Conds) (IntKind.i64.wrap ((IntKind.i64.wrap (s6 + 1)) + 1))).1)).1) + 1))).1) + 1)) + 1)), (laws_markRowS_m ((gt d7 k5).Rows) (IntKind.i64.wrap ((IntKind.i64.wrap ((IntKind.i64.wrap (((laws_markIntS_m ((gt d7 k5).Todo) (IntKind.i64.wrap (((laws_markIntS_m ((gt d7 k5).Query.Out) ((laws_markCondS_m ((gt d7 k5).Query.Conds) (IntKind.i64.wrap ((IntKind.i64.wrap (s6 + 1)) + 1))).1)).1) + 1))).1) + 1)) + 1)) + 1))).2⟩ : DActive)))) (show k5 < x0.length from by omega) (rfl) hF9
  exact QM_round (k5 + 1, ((laws_markRowS_m ((gt d7 k5).Rows) (IntKind.i64.wrap ((IntKind.i64.wrap ((IntKind.i64.wrap (((laws_markIntS_m ((gt d7 k5).Todo) (IntKind.i64.wrap (((laws_markIntS_m ((gt d7 k5).Query.Out) ((laws_markCondS_m ((gt d7 k5).Query.Conds) (IntKind.i64.wrap ((IntKind.i64.wrap (s6 + 1)) + 1))).1)).1) + 1))).1) + 1)) + 1)) + 1))).1, (d7.set k5 (⟨(⟨s6, (IntKind.i64.wrap (s6 + 1)), (laws_markCondS_m ((gt d7 k5).Query.Conds) (IntKind.i64.wrap ((IntKind.i64.wrap (s6 + 1)) + 1))).2, (laws_markIntS_m ((gt d7 k5).Query.Out) ((laws_markCondS_m ((gt d7 k5).Query.Conds) (IntKind.i64.wrap ((IntKind.i64.wrap (s6 + 1)) + 1))).1)).2⟩ : DQuery), (laws_markIntS_m ((gt d7 k5).Query.Out) ((laws_markCondS_m ((gt d7 k5).Query.Conds) (IntKind.i64.wrap ((IntKind.i64.wrap (s6 + 1)) + 1))).1)).1, (laws_markIntS_m ((gt d7 k5).Todo) (IntKind.i64.wrap (((laws_markIntS_m ((gt d7 k5).Query.Out) ((laws_markCondS_m ((gt d7 k5).Query.Conds) (IntKind.i64.wrap ((IntKind.i64.wrap (s6 + 1)) + 1))).1)).1) + 1))).2, (laws_markIntS_m ((gt d7 k5).Todo) (IntKind.i64.wrap (((laws_markIntS_m ((gt d7 k5).Query.Out) ((laws_markCondS_m ((gt d7 k5).Query.Conds) (IntKind.i64.wrap ((IntKind.i64.wrap (s6 + 1)) + 1))).1)).1) + 1))).1, (IntKind.i64.wrap (((laws_markIntS_m ((gt d7 k5).Todo) (IntKind.i64.wrap (((laws_markIntS_m ((gt d7 k5).Query.Out) ((laws_markCondS_m ((gt d7 k5).Query.Conds) (IntKind.i64.wrap ((IntKind.i64.wrap (s6 + 1)) + 1))).1)).1) + 1))).1) + 1)), (IntKind.i64.wrap ((IntKind.i64.wrap (((laws_markIntS_m ((gt d7 k5).Todo) (IntKind.i64.wrap (((laws_markIntS_m ((gt d7 k5).Query.Out) ((laws_markCondS_m ((gt d7 k5).Query.Conds) (IntKind.i64.wrap ((IntKind.i64.wrap (s6 + 1)) + 1))).1)).1) + 1))).1) + 1)) + 1)), (laws_markRowS_m ((gt d7 k5).Rows) (IntKind.i64.wrap ((IntKind.i64.wrap ((IntKind.i64.wrap (((laws_markIntS_m ((gt d7 k5).Todo) (IntKind.i64.wrap (((laws_markIntS_m ((gt d7 k5).Query.Out) ((laws_markCondS_m ((gt d7 k5).Query.Conds) (IntKind.i64.wrap ((IntKind.i64.wrap (s6 + 1)) + 1))).1)).1) + 1))).1) + 1)) + 1)) + 1))).2⟩ : DActive))), ()) sl3 (fun W hm => hm) ⟨(by omega), hn35⟩ (rl (by omega))
 ·have g12 := dlF hl11
  refine CM_condF rfl g12 ?_
  refine CM_exit (QM_then_exit (QM_then_exit ?_))
  have hE36 : R2 (x0.length - 0) 0 (x1, x0) = Sum.inr (s6, d7) := rng_end hl11 hF9
  refine QM_block_hit (QM_then (sr (wm (wa (nt' (CM_ret ?_))))))
  have he37 := (show laws_markActiveS_m x0 x1 = (s6, d7) from fin_inr hE36 (rfl))
  refine QM_rW rfl rfl (fun W hm => ⟨?_, ?_⟩)
  ·rw [he37]
  ·rw [he37]; exact hm

def laws_markFinishedS_b1 (k5 : Nat) (s6 : Int) (d7 : (List DFinished)) : (Int × (List DFinished)) ⊕ (Int × (List DFinished)) :=
 Sum.inr ((laws_markRowS_m ((gt d7 k5).Rows) (IntKind.i64.wrap ((IntKind.i64.wrap (((laws_markIntS_m ((gt d7 k5).Query.Out) ((laws_markCondS_m ((gt d7 k5).Query.Conds) (IntKind.i64.wrap ((IntKind.i64.wrap (s6 + 1)) + 1))).1)).1) + 1)) + 1))).1, (d7.set k5 (⟨(⟨s6, (IntKind.i64.wrap (s6 + 1)), (laws_markCondS_m ((gt d7 k5).Query.Conds) (IntKind.i64.wrap ((IntKind.i64.wrap (s6 + 1)) + 1))).2, (laws_markIntS_m ((gt d7 k5).Query.Out) ((laws_markCondS_m ((gt d7 k5).Query.Conds) (IntKind.i64.wrap ((IntKind.i64.wrap (s6 + 1)) + 1))).1)).2⟩ : DQuery), (laws_markIntS_m ((gt d7 k5).Query.Out) ((laws_markCondS_m ((gt d7 k5).Query.Conds) (IntKind.i64.wrap ((IntKind.i64.wrap (s6 + 1)) + 1))).1)).1, (IntKind.i64.wrap (((laws_markIntS_m ((gt d7 k5).Query.Out) ((laws_markCondS_m ((gt d7 k5).Query.Conds) (IntKind.i64.wrap ((IntKind.i64.wrap (s6 + 1)) + 1))).1)).1) + 1)), (laws_markRowS_m ((gt d7 k5).Rows) (IntKind.i64.wrap ((IntKind.i64.wrap (((laws_markIntS_m ((gt d7 k5).Query.Out) ((laws_markCondS_m ((gt d7 k5).Query.Conds) (IntKind.i64.wrap ((IntKind.i64.wrap (s6 + 1)) + 1))).1)).1) + 1)) + 1))).2⟩ : DFinished)))
def laws_markFinishedS_m (x0 : (List DFinished)) (x1 : Int) : (Int × (List DFinished)) :=
 Sum.elim id (fun (s : Int × (List DFinished)) => (s.1, s.2)) (rng (R := (Int × (List DFinished))) (fun k (s : Int × (List DFinished)) => laws_markFinishedS_b1 k s.1 s.2) (x0.length - 0) 0 (x1, x0))
theorem cb94 : Cb Tryz.prog 94 := ⟨f94, _, func94, rfl, by decide⟩
theorem laws_markFinishedS_c (B : Nat) (w0 : World) (is : List It) (w : World) (z0 : Value) (x0 : (List DFinished)) (x1 : Int) (hm : Mem B w0 (iOwn (tSl tyFinished 37) [z0] x0 :: is) w) :
  Calls Tryz.prog 94 #[z0, .int .i64 x1] w fun e w' => e = .returned (.int .i64 (laws_markFinishedS_m x0 x1).1) ∧ Mem B w0 (iOwn (tSl tyFinished 37) [z0] (laws_markFinishedS_m x0 x1).2 :: is) w' := by
 refine call_enterW (L := [(0, z0), (1, .int .i64 x1)]) (N := 66) func94 rfl rfl (Nat.le_of_ble_eq_true rfl) (argsL_cons rfl (argsL_cons rfl argsL_nil)) hm ?_
 refine CM_form (n := 0) rfl ?_
 rintro A1 c2 rfl m3
 refine sr (wa (nt' (CM_seq (sr (wa (nt' (CM_block ?_)))))))
 let F1 := fun k (s : Int × (List DFinished)) => laws_markFinishedS_b1 k s.1 s.2
 let R2 := rng (R := (Int × (List DFinished))) F1
 refine CM_loop (σ := Nat × (Int × (List DFinished)) × (Unit)) (fun s => [(0, .slice A1 x0.length c2), (1, .int .i64 s.2.1.1), (5, .int .i64 ((s.1 : Nat) : Int))]) (fun s => (iOwn (tSl tyFinished 37) [.slice A1 x0.length c2] s.2.1.2 :: is)) (fun s => s.1 ≤ x0.length ∧ R2 (x0.length - s.1) s.1 s.2.1 = R2 (x0.length - 0) 0 (x1, x0)) (fun s => x0.length - s.1) (0, (x1, x0), ()) sl3 (fun W hm => hm) ⟨(by omega), rfl⟩ ?_
 rintro ⟨k5, ⟨s6, d7⟩, ⟨⟩⟩ H10
 obtain ⟨hk8, hF9⟩ : k5 ≤ x0.length ∧ R2 (x0.length - k5) k5 (s6, d7) = R2 (x0.length - 0) 0 (x1, x0) := H10
 show CM Tryz.prog 66 _ _ _ _ [(0, .slice A1 x0.length c2), (1, .int .i64 s6), (5, .int .i64 ((k5 : Nat) : Int))] (iOwn (tSl tyFinished 37) [.slice A1 x0.length c2] d7 :: is)
 refine CM_seq (sr (wm (wm ?_)))
 refine wv (vlen underlying44) ?_
 refine wv vlss ?_
 refine nt' ?_
 by_cases hl11 : k5 < x0.length
 ·have g12 := dlT hl11
  refine CM_condT rfl g12 ?_
  refine CM_skip (QM_then (CM_seq (CM_block (sr (wm (wm (wm ?_)))))))
  refine WM_formO (n := 0) rfl (by omega) ?_
  rintro g13 rfl
  refine wv (vix 7 k5 underlying44 type37) ?_
  refine wv (vf underlying37 rfl type34) ?_
  refine wv (fun W hm => rv_fieldA (o := 0) underlying34 rfl type3 (by decide) rfl rfl) ?_
  refine WM_focus (E := tyFinished) (e := 37) (A := (some ⟨g13, 0, none⟩)) (n := x0.length) (c := c2) (xs := d7) (k := k5) (js := (is)) (by omega) (fun W hm => (hm.front (n := 0) rfl)) (fun ck14 => ?_)
  refine tyFinished_sp ?_
  rintro ⟨v15, v16, v17⟩ rfl
  refine WM_form (n := 0) rfl ?_
  rintro A18 c19 rfl m20
  refine WM_form (n := 1) rfl ?_
  rintro A22 c23 rfl m24
  refine WM_form (n := 2) rfl ?_
  rintro A26 c27 rfl m28
  let I5 : It := iOwn (tSl tyCond 201) [.slice A18 ((gt d7 k5).Query.Conds).length c19] ((gt d7 k5).Query.Conds)
  let I6 : It := iOwn (tSl tInt 3) [.slice A22 ((gt d7 k5).Query.Out).length c23] ((gt d7 k5).Query.Out)
  let I7 : It := iOwn (tSl tyRow 73) [.slice A26 ((gt d7 k5).Rows).length c27] ((gt d7 k5).Rows)
  refine sf 0 7 [.int .i64 s6, .int .i64 ((gt d7 k5).Query.Tenant), .slice A18 ((gt d7 k5).Query.Conds).length c19, .slice A22 ((gt d7 k5).Query.Out).length c23, .int .i64 ((gt d7 k5).Time), .int .i64 ((gt d7 k5).Steps), .slice A26 ((gt d7 k5).Rows).length c27] (I5 :: I6 :: I7 :: is) (fun W hm => (hm.front (n := 3) rfl)) type3 ?_
  refine nt' (sr (wm ?_))
  refine wv vadd ?_
  refine wa (nt' (sr (wm (wm (wm ?_)))))
  refine wv (vix 7 k5 underlying44 type37) ?_
  refine wv (vf underlying37 rfl type34) ?_
  refine wv (fun W hm => rv_fieldA (o := 1) underlying34 rfl type3 (by decide) rfl rfl) ?_
  let K3 : List Value := [.int .i64 s6, .int .i64 (IntKind.i64.wrap (s6 + 1)), .slice A18 ((gt d7 k5).Query.Conds).length c19, .slice A22 ((gt d7 k5).Query.Out).length c23, .int .i64 ((gt d7 k5).Time), .int .i64 ((gt d7 k5).Steps), .slice A26 ((gt d7 k5).Rows).length c27]
  refine sf 1 7 K3 (I5 :: I6 :: I7 :: is) (fun W hm => (hm.front (n := 0) rfl)) type3 ?_
  refine nt' (sr (wm ?_))
  refine wv vadd ?_
  refine wa (nt' (sr (wm (wm ?_))))
  refine wv (vix 7 k5 underlying44 type37) ?_
  refine wv (vf underlying37 rfl type34) ?_
  refine wv (fun W hm => rv_fieldA (o := 2) underlying34 rfl type32 (by decide) rfl rfl) ?_
  refine wv (fun W hm => rv_load underlying32 rfl rfl (hm.focCells (i := 0) rfl rfl 2 _ rfl)) ?_
  refine wm ?_
  refine cw (cl_fn cb146 rfl) (fun W hm => laws_markCondS_c B w0 (iFoc tyFinished 37 (some ⟨g13, 0, none⟩) x0.length c2 d7 k5 K3 :: I6 :: I7 :: is) W (.slice A18 ((gt d7 k5).Query.Conds).length c19) ((gt d7 k5).Query.Conds) (IntKind.i64.wrap ((IntKind.i64.wrap (s6 + 1)) + 1)) (hm.front (n := 1) rfl)) ?_
  refine wa (nt' (sr (wm (wm ?_))))
  refine wv (vix 7 k5 underlying44 type37) ?_
  refine wv (vf underlying37 rfl type34) ?_
  refine wv (fun W hm => rv_fieldA (o := 3) underlying34 rfl type25 (by decide) rfl rfl) ?_
  refine wv (fun W hm => rv_load underlying25 rfl rfl (hm.focCells (i := 1) rfl rfl 3 _ rfl)) ?_
  refine wm ?_
  let I8 : It := iOwn (tSl tyCond 201) [.slice A18 ((gt d7 k5).Query.Conds).length c19] ((laws_markCondS_m ((gt d7 k5).Query.Conds) (IntKind.i64.wrap ((IntKind.i64.wrap (s6 + 1)) + 1))).2)
  refine cw (cl_fn cb50 rfl) (fun W hm => laws_markIntS_c B w0 (I8 :: iFoc tyFinished 37 (some ⟨g13, 0, none⟩) x0.length c2 d7 k5 K3 :: I7 :: is) W (.slice A22 ((gt d7 k5).Query.Out).length c23) ((gt d7 k5).Query.Out) ((laws_markCondS_m ((gt d7 k5).Query.Conds) (IntKind.i64.wrap ((IntKind.i64.wrap (s6 + 1)) + 1))).1) (hm.front (n := 2) rfl)) ?_
  refine wa (nt' (sr (wm (wm (wm ?_)))))
  refine wv (vix 7 k5 underlying44 type37) ?_
  refine wv (vf underlying37 rfl type3) ?_
  let I9 : It := iOwn (tSl tInt 3) [.slice A22 ((gt d7 k5).Query.Out).length c23] ((laws_markIntS_m ((gt d7 k5).Query.Out) ((laws_markCondS_m ((gt d7 k5).Query.Conds) (IntKind.i64.wrap ((IntKind.i64.wrap (s6 + 1)) + 1))).1)).2)
  refine sf 4 7 [.int .i64 s6, .int .i64 (IntKind.i64.wrap (s6 + 1)), .slice A18 ((gt d7 k5).Query.Conds).length c19, .slice A22 ((gt d7 k5).Query.Out).length c23, .int .i64 ((laws_markIntS_m ((gt d7 k5).Query.Out) ((laws_markCondS_m ((gt d7 k5).Query.Conds) (IntKind.i64.wrap ((IntKind.i64.wrap (s6 + 1)) + 1))).1)).1), .int .i64 ((gt d7 k5).Steps), .slice A26 ((gt d7 k5).Rows).length c27] (I9 :: I8 :: I7 :: is) (fun W hm => (hm.front (n := 2) rfl)) type3 ?_
  refine nt' (sr (wm ?_))
  refine wv vadd ?_
  refine wa (nt' (sr (wm (wm (wm ?_)))))
  refine wv (vix 7 k5 underlying44 type37) ?_
  refine wv (vf underlying37 rfl type3) ?_
  let K4 : List Value := [.int .i64 s6, .int .i64 (IntKind.i64.wrap (s6 + 1)), .slice A18 ((gt d7 k5).Query.Conds).length c19, .slice A22 ((gt d7 k5).Query.Out).length c23, .int .i64 ((laws_markIntS_m ((gt d7 k5).Query.Out) ((laws_markCondS_m ((gt d7 k5).Query.Conds) (IntKind.i64.wrap ((IntKind.i64.wrap (s6 + 1)) + 1))).1)).1), .int .i64 (IntKind.i64.wrap (((laws_markIntS_m ((gt d7 k5).Query.Out) ((laws_markCondS_m ((gt d7 k5).Query.Conds) (IntKind.i64.wrap ((IntKind.i64.wrap (s6 + 1)) + 1))).1)).1) + 1)), .slice A26 ((gt d7 k5).Rows).length c27]
  refine sf 5 7 K4 (I9 :: I8 :: I7 :: is) (fun W hm => (hm.front (n := 0) rfl)) type3 ?_
  refine nt' (sr (wm ?_))
  refine wv vadd ?_
  refine wa (nt' (CM_region (wm (wm ?_))))
  refine wv (vix 7 k5 underlying44 type37) ?_
  refine wv (vf underlying37 rfl type35) ?_
  refine wv (fun W hm => rv_load underlying35 rfl rfl (hm.focCells (i := 0) rfl rfl 6 _ rfl)) ?_
  refine wm ?_
  refine cw (cl_fn cb96 rfl) (fun W hm => laws_markRowS_c B w0 (iFoc tyFinished 37 (some ⟨g13, 0, none⟩) x0.length c2 d7 k5 K4 :: I9 :: I8 :: is) W (.slice A26 ((gt d7 k5).Rows).length c27) ((gt d7 k5).Rows) (IntKind.i64.wrap ((IntKind.i64.wrap (((laws_markIntS_m ((gt d7 k5).Query.Out) ((laws_markCondS_m ((gt d7 k5).Query.Conds) (IntKind.i64.wrap ((IntKind.i64.wrap (s6 + 1)) + 1))).1)).1) + 1)) + 1)) (hm.front (n := 3) rfl)) ?_
  refine wa (WM_nil (QM_block_normal (QM_then (CM_region (wm ?_)))))
  refine wv (vadN k5 1 (by omega)) ?_
  refine wa (WM_nil ?_)
  refine QM_items (fun W hm => Mem.unfocus (Mem.join (is := [I8, I9, iOwn (tSl tyRow 73) [.slice A26 ((gt d7 k5).Rows).length c27] ((laws_markRowS_m ((gt d7 k5).Rows) (IntKind.i64.wrap ((IntKind.i64.wrap (((laws_markIntS_m ((gt d7 k5).Query.Out) ((laws_markCondS_m ((gt d7 k5).Query.Conds) (IntKind.i64.wrap ((IntKind.i64.wrap (s6 + 1)) + 1))).1)).1) + 1)) + 1))).2)]) (js := (iFoc tyFinished 37 (some ⟨g13, 0, none⟩) x0.length c2 d7 k5 K4 :: (is))) (fun _ _ hs => tyFinished_join (x := (⟨(⟨s6, (IntKind.i64.wrap (s6 + 1)), (laws_markCondS_m ((gt d7 k5).Query.Conds) (IntKind.i64.wrap ((IntKind.i64.wrap (s6 + 1)) + 1))).2, (laws_markIntS_m ((gt d7 k5).Query.Out) ((laws_markCondS_m ((gt d7 k5).Query.Conds) (IntKind.i64.wrap ((IntKind.i64.wrap (s6 + 1)) + 1))).1)).2⟩ : DQuery), (laws_markIntS_m ((gt d7 k5).Query.Out) ((laws_markCondS_m ((gt d7 k5).Query.Conds) (IntKind.i64.wrap ((IntKind.i64.wrap (s6 + 1)) + 1))).1)).1, (IntKind.i64.wrap (((laws_markIntS_m ((gt d7 k5).Query.Out) ((laws_markCondS_m ((gt d7 k5).Query.Conds) (IntKind.i64.wrap ((IntKind.i64.wrap (s6 + 1)) + 1))).1)).1) + 1)), (laws_markRowS_m ((gt d7 k5).Rows) (IntKind.i64.wrap ((IntKind.i64.wrap (((laws_markIntS_m ((gt d7 k5).Query.Out) ((laws_markCondS_m ((gt d7 k5).Query.Conds) (IntKind.i64.wrap ((IntKind.i64.wrap (s6 + 1)) + 1))).1)).1) + 1)) + 1))).2⟩ : DFinished)) hs) ((((hm.front (n := 1) rfl).front (n := 1) rfl).front (n := 2) rfl).front (n := 3) rfl))) ?_
  have hn30 := rng_next (R := (Int × (List DFinished))) (body := F1) (k := k5) (s := (s6, d7)) (s' := ((laws_markRowS_m ((gt d7 k5).Rows) (IntKind.i64.wrap ((IntKind.i64.wrap (((laws_markIntS_m ((gt d7 k5).Query.Out) ((laws_markCondS_m ((gt d7 k5).Query.Conds) (IntKind.i64.wrap ((IntKind.i64.wrap (s6 + 1)) + 1))).1)).1) + 1)) + 1))).1, (d7.set k5 (⟨(⟨s6, (IntKind.i64.wrap (s6 + 1)), (laws_markCondS_m ((gt d7 k5).Query.Conds) (IntKind.i64.wrap ((IntKind.i64.wrap (s6 + 1)) + 1))).2, (laws_markIntS_m ((gt d7 k5).Query.Out) ((laws_markCondS_m ((gt d7 k5).Query.Conds) (IntKind.i64.wrap ((IntKind.i64.wrap (s6 + 1)) + 1))).1)).2⟩ : DQuery), (laws_markIntS_m ((gt d7 k5).Query.Out) ((laws_markCondS_m ((gt d7 k5).Query.Conds) (IntKind.i64.wrap ((IntKind.i64.wrap (s6 + 1)) + 1))).1)).1, (IntKind.i64.wrap (((laws_markIntS_m ((gt d7 k5).Query.Out) ((laws_markCondS_m ((gt d7 k5).Query.Conds) (IntKind.i64.wrap ((IntKind.i64.wrap (s6 + 1)) + 1))).1)).1) + 1)), (laws_markRowS_m ((gt d7 k5).Rows) (IntKind.i64.wrap ((IntKind.i64.wrap (((laws_markIntS_m ((gt d7 k5).Query.Out) ((laws_markCondS_m ((gt d7 k5).Query.Conds) (IntKind.i64.wrap ((IntKind.i64.wrap (s6 + 1)) + 1))).1)).1) + 1)) + 1))).2⟩ : DFinished)))) (show k5 < x0.length from by omega) (rfl) hF9
  exact QM_round (k5 + 1, ((laws_markRowS_m ((gt d7 k5).Rows) (IntKind.i64.wrap ((IntKind.i64.wrap (((laws_markIntS_m ((gt d7 k5).Query.Out) ((laws_markCondS_m ((gt d7 k5).Query.Conds) (IntKind.i64.wrap ((IntKind.i64.wrap (s6 + 1)) + 1))).1)).1) + 1)) + 1))).1, (d7.set k5 (⟨(⟨s6, (IntKind.i64.wrap (s6 + 1)), (laws_markCondS_m ((gt d7 k5).Query.Conds) (IntKind.i64.wrap ((IntKind.i64.wrap (s6 + 1)) + 1))).2, (laws_markIntS_m ((gt d7 k5).Query.Out) ((laws_markCondS_m ((gt d7 k5).Query.Conds) (IntKind.i64.wrap ((IntKind.i64.wrap (s6 + 1)) + 1))).1)).2⟩ : DQuery), (laws_markIntS_m ((gt d7 k5).Query.Out) ((laws_markCondS_m ((gt d7 k5).Query.Conds) (IntKind.i64.wrap ((IntKind.i64.wrap (s6 + 1)) + 1))).1)).1, (IntKind.i64.wrap (((laws_markIntS_m ((gt d7 k5).Query.Out) ((laws_markCondS_m ((gt d7 k5).Query.Conds) (IntKind.i64.wrap ((IntKind.i64.wrap (s6 + 1)) + 1))).1)).1) + 1)), (laws_markRowS_m ((gt d7 k5).Rows) (IntKind.i64.wrap ((IntKind.i64.wrap (((laws_markIntS_m ((gt d7 k5).Query.Out) ((laws_markCondS_m ((gt d7 k5).Query.Conds) (IntKind.i64.wrap ((IntKind.i64.wrap (s6 + 1)) + 1))).1)).1) + 1)) + 1))).2⟩ : DFinished))), ()) sl3 (fun W hm => hm) ⟨(by omega), hn30⟩ (rl (by omega))
 ·have g12 := dlF hl11
  refine CM_condF rfl g12 ?_
  refine CM_exit (QM_then_exit (QM_then_exit ?_))
  have hE31 : R2 (x0.length - 0) 0 (x1, x0) = Sum.inr (s6, d7) := rng_end hl11 hF9
  refine QM_block_hit (QM_then (sr (wm (wa (nt' (CM_ret ?_))))))
  have he32 := (show laws_markFinishedS_m x0 x1 = (s6, d7) from fin_inr hE31 (rfl))
  refine QM_rW rfl rfl (fun W hm => ⟨?_, ?_⟩)
  ·rw [he32]
  ·rw [he32]; exact hm

def laws_markChargeS_b1 (k5 : Nat) (s6 : Int) (d7 : (List DCharge)) : (Int × (List DCharge)) ⊕ (Int × (List DCharge)) :=
 Sum.inr ((laws_markIntS_m ((gt d7 k5).Rows) ((laws_markIntS_m ((gt d7 k5).Tenants) ((laws_markIntS_m ((gt d7 k5).Ids) (IntKind.i64.wrap ((IntKind.i64.wrap (s6 + 1)) + 1))).1)).1)).1, (d7.set k5 (⟨s6, (IntKind.i64.wrap (s6 + 1)), (laws_markIntS_m ((gt d7 k5).Ids) (IntKind.i64.wrap ((IntKind.i64.wrap (s6 + 1)) + 1))).2, (laws_markIntS_m ((gt d7 k5).Tenants) ((laws_markIntS_m ((gt d7 k5).Ids) (IntKind.i64.wrap ((IntKind.i64.wrap (s6 + 1)) + 1))).1)).2, (laws_markIntS_m ((gt d7 k5).Rows) ((laws_markIntS_m ((gt d7 k5).Tenants) ((laws_markIntS_m ((gt d7 k5).Ids) (IntKind.i64.wrap ((IntKind.i64.wrap (s6 + 1)) + 1))).1)).1)).2⟩ : DCharge)))
def laws_markChargeS_m (x0 : (List DCharge)) (x1 : Int) : (Int × (List DCharge)) :=
 Sum.elim id (fun (s : Int × (List DCharge)) => (s.1, s.2)) (rng (R := (Int × (List DCharge))) (fun k (s : Int × (List DCharge)) => laws_markChargeS_b1 k s.1 s.2) (x0.length - 0) 0 (x1, x0))
theorem cb95 : Cb Tryz.prog 95 := ⟨f95, _, func95, rfl, by decide⟩
theorem laws_markChargeS_c (B : Nat) (w0 : World) (is : List It) (w : World) (z0 : Value) (x0 : (List DCharge)) (x1 : Int) (hm : Mem B w0 (iOwn (tSl tyCharge 133) [z0] x0 :: is) w) :
  Calls Tryz.prog 95 #[z0, .int .i64 x1] w fun e w' => e = .returned (.int .i64 (laws_markChargeS_m x0 x1).1) ∧ Mem B w0 (iOwn (tSl tyCharge 133) [z0] (laws_markChargeS_m x0 x1).2 :: is) w' := by
 refine call_enterW (L := [(0, z0), (1, .int .i64 x1)]) (N := 48) func95 rfl rfl (Nat.le_of_ble_eq_true rfl) (argsL_cons rfl (argsL_cons rfl argsL_nil)) hm ?_
 refine CM_form (n := 0) rfl ?_
 rintro A1 c2 rfl m3
 refine sr (wa (nt' (CM_seq (sr (wa (nt' (CM_block ?_)))))))
 let F1 := fun k (s : Int × (List DCharge)) => laws_markChargeS_b1 k s.1 s.2
 let R2 := rng (R := (Int × (List DCharge))) F1
 refine CM_loop (σ := Nat × (Int × (List DCharge)) × (Unit)) (fun s => [(0, .slice A1 x0.length c2), (1, .int .i64 s.2.1.1), (5, .int .i64 ((s.1 : Nat) : Int))]) (fun s => (iOwn (tSl tyCharge 133) [.slice A1 x0.length c2] s.2.1.2 :: is)) (fun s => s.1 ≤ x0.length ∧ R2 (x0.length - s.1) s.1 s.2.1 = R2 (x0.length - 0) 0 (x1, x0)) (fun s => x0.length - s.1) (0, (x1, x0), ()) sl3 (fun W hm => hm) ⟨(by omega), rfl⟩ ?_
 rintro ⟨k5, ⟨s6, d7⟩, ⟨⟩⟩ H10
 obtain ⟨hk8, hF9⟩ : k5 ≤ x0.length ∧ R2 (x0.length - k5) k5 (s6, d7) = R2 (x0.length - 0) 0 (x1, x0) := H10
 show CM Tryz.prog 48 _ _ _ _ [(0, .slice A1 x0.length c2), (1, .int .i64 s6), (5, .int .i64 ((k5 : Nat) : Int))] (iOwn (tSl tyCharge 133) [.slice A1 x0.length c2] d7 :: is)
 refine CM_seq (sr (wm (wm ?_)))
 refine wv (vlen underlying45) ?_
 refine wv vlss ?_
 refine nt' ?_
 by_cases hl11 : k5 < x0.length
 ·have g12 := dlT hl11
  refine CM_condT rfl g12 ?_
  refine CM_skip (QM_then (CM_seq (CM_block (sr (wm (wm (wm ?_)))))))
  refine WM_formO (n := 0) rfl (by omega) ?_
  rintro g13 rfl
  refine wv (vix 5 k5 underlying45 type133) ?_
  refine wv (vf underlying133 rfl type3) ?_
  refine WM_focus (E := tyCharge) (e := 133) (A := (some ⟨g13, 0, none⟩)) (n := x0.length) (c := c2) (xs := d7) (k := k5) (js := (is)) (by omega) (fun W hm => (hm.front (n := 0) rfl)) (fun ck14 => ?_)
  refine tyCharge_sp ?_
  rintro ⟨v15, v16, v17⟩ rfl
  refine WM_form (n := 0) rfl ?_
  rintro A18 c19 rfl m20
  refine WM_form (n := 1) rfl ?_
  rintro A22 c23 rfl m24
  refine WM_form (n := 2) rfl ?_
  rintro A26 c27 rfl m28
  let I4 : It := iOwn (tSl tInt 3) [.slice A18 ((gt d7 k5).Ids).length c19] ((gt d7 k5).Ids)
  let I5 : It := iOwn (tSl tInt 3) [.slice A22 ((gt d7 k5).Tenants).length c23] ((gt d7 k5).Tenants)
  let I6 : It := iOwn (tSl tInt 3) [.slice A26 ((gt d7 k5).Rows).length c27] ((gt d7 k5).Rows)
  refine sf 0 5 [.int .i64 s6, .int .i64 ((gt d7 k5).Base), .slice A18 ((gt d7 k5).Ids).length c19, .slice A22 ((gt d7 k5).Tenants).length c23, .slice A26 ((gt d7 k5).Rows).length c27] (I4 :: I5 :: I6 :: is) (fun W hm => (hm.front (n := 3) rfl)) type3 ?_
  refine nt' (sr (wm ?_))
  refine wv vadd ?_
  refine wa (nt' (sr (wm (wm (wm ?_)))))
  refine wv (vix 5 k5 underlying45 type133) ?_
  refine wv (vf underlying133 rfl type3) ?_
  let K3 : List Value := [.int .i64 s6, .int .i64 (IntKind.i64.wrap (s6 + 1)), .slice A18 ((gt d7 k5).Ids).length c19, .slice A22 ((gt d7 k5).Tenants).length c23, .slice A26 ((gt d7 k5).Rows).length c27]
  refine sf 1 5 K3 (I4 :: I5 :: I6 :: is) (fun W hm => (hm.front (n := 0) rfl)) type3 ?_
  refine nt' (sr (wm ?_))
  refine wv vadd ?_
  refine wa (nt' (sr (wm (wm ?_))))
  refine wv (vix 5 k5 underlying45 type133) ?_
  refine wv (vf underlying133 rfl type25) ?_
  refine wv (fun W hm => rv_load underlying25 rfl rfl (hm.focCells (i := 0) rfl rfl 2 _ rfl)) ?_
  refine wm ?_
  refine cw (cl_fn cb50 rfl) (fun W hm => laws_markIntS_c B w0 (iFoc tyCharge 133 (some ⟨g13, 0, none⟩) x0.length c2 d7 k5 K3 :: I5 :: I6 :: is) W (.slice A18 ((gt d7 k5).Ids).length c19) ((gt d7 k5).Ids) (IntKind.i64.wrap ((IntKind.i64.wrap (s6 + 1)) + 1)) (hm.front (n := 1) rfl)) ?_
  refine wa (nt' (sr (wm (wm ?_))))
  refine wv (vix 5 k5 underlying45 type133) ?_
  refine wv (vf underlying133 rfl type25) ?_
  refine wv (fun W hm => rv_load underlying25 rfl rfl (hm.focCells (i := 1) rfl rfl 3 _ rfl)) ?_
  refine wm ?_
  let I7 : It := iOwn (tSl tInt 3) [.slice A18 ((gt d7 k5).Ids).length c19] ((laws_markIntS_m ((gt d7 k5).Ids) (IntKind.i64.wrap ((IntKind.i64.wrap (s6 + 1)) + 1))).2)
  refine cw (cl_fn cb50 rfl) (fun W hm => laws_markIntS_c B w0 (I7 :: iFoc tyCharge 133 (some ⟨g13, 0, none⟩) x0.length c2 d7 k5 K3 :: I6 :: is) W (.slice A22 ((gt d7 k5).Tenants).length c23) ((gt d7 k5).Tenants) ((laws_markIntS_m ((gt d7 k5).Ids) (IntKind.i64.wrap ((IntKind.i64.wrap (s6 + 1)) + 1))).1) (hm.front (n := 2) rfl)) ?_
  refine wa (nt' (CM_region (wm (wm ?_))))
  refine wv (vix 5 k5 underlying45 type133) ?_
  refine wv (vf underlying133 rfl type25) ?_
  refine wv (fun W hm => rv_load underlying25 rfl rfl (hm.focCells (i := 2) rfl rfl 4 _ rfl)) ?_
  refine wm ?_
  let I8 : It := iOwn (tSl tInt 3) [.slice A22 ((gt d7 k5).Tenants).length c23] ((laws_markIntS_m ((gt d7 k5).Tenants) ((laws_markIntS_m ((gt d7 k5).Ids) (IntKind.i64.wrap ((IntKind.i64.wrap (s6 + 1)) + 1))).1)).2)
  refine cw (cl_fn cb50 rfl) (fun W hm => laws_markIntS_c B w0 (I8 :: I7 :: iFoc tyCharge 133 (some ⟨g13, 0, none⟩) x0.length c2 d7 k5 K3 :: is) W (.slice A26 ((gt d7 k5).Rows).length c27) ((gt d7 k5).Rows) ((laws_markIntS_m ((gt d7 k5).Tenants) ((laws_markIntS_m ((gt d7 k5).Ids) (IntKind.i64.wrap ((IntKind.i64.wrap (s6 + 1)) + 1))).1)).1) (hm.front (n := 3) rfl)) ?_
  refine wa (WM_nil (QM_block_normal (QM_then (CM_region (wm ?_)))))
  refine wv (vadN k5 1 (by omega)) ?_
  refine wa (WM_nil ?_)
  refine QM_items (fun W hm => Mem.unfocus (Mem.join (is := [I7, I8, iOwn (tSl tInt 3) [.slice A26 ((gt d7 k5).Rows).length c27] ((laws_markIntS_m ((gt d7 k5).Rows) ((laws_markIntS_m ((gt d7 k5).Tenants) ((laws_markIntS_m ((gt d7 k5).Ids) (IntKind.i64.wrap ((IntKind.i64.wrap (s6 + 1)) + 1))).1)).1)).2)]) (js := (iFoc tyCharge 133 (some ⟨g13, 0, none⟩) x0.length c2 d7 k5 K3 :: (is))) (fun _ _ hs => tyCharge_join (x := (⟨s6, (IntKind.i64.wrap (s6 + 1)), (laws_markIntS_m ((gt d7 k5).Ids) (IntKind.i64.wrap ((IntKind.i64.wrap (s6 + 1)) + 1))).2, (laws_markIntS_m ((gt d7 k5).Tenants) ((laws_markIntS_m ((gt d7 k5).Ids) (IntKind.i64.wrap ((IntKind.i64.wrap (s6 + 1)) + 1))).1)).2, (laws_markIntS_m ((gt d7 k5).Rows) ((laws_markIntS_m ((gt d7 k5).Tenants) ((laws_markIntS_m ((gt d7 k5).Ids) (IntKind.i64.wrap ((IntKind.i64.wrap (s6 + 1)) + 1))).1)).1)).2⟩ : DCharge)) hs) ((((hm.front (n := 3) rfl).front (n := 1) rfl).front (n := 2) rfl).front (n := 3) rfl))) ?_
  have hn30 := rng_next (R := (Int × (List DCharge))) (body := F1) (k := k5) (s := (s6, d7)) (s' := ((laws_markIntS_m ((gt d7 k5).Rows) ((laws_markIntS_m ((gt d7 k5).Tenants) ((laws_markIntS_m ((gt d7 k5).Ids) (IntKind.i64.wrap ((IntKind.i64.wrap (s6 + 1)) + 1))).1)).1)).1, (d7.set k5 (⟨s6, (IntKind.i64.wrap (s6 + 1)), (laws_markIntS_m ((gt d7 k5).Ids) (IntKind.i64.wrap ((IntKind.i64.wrap (s6 + 1)) + 1))).2, (laws_markIntS_m ((gt d7 k5).Tenants) ((laws_markIntS_m ((gt d7 k5).Ids) (IntKind.i64.wrap ((IntKind.i64.wrap (s6 + 1)) + 1))).1)).2, (laws_markIntS_m ((gt d7 k5).Rows) ((laws_markIntS_m ((gt d7 k5).Tenants) ((laws_markIntS_m ((gt d7 k5).Ids) (IntKind.i64.wrap ((IntKind.i64.wrap (s6 + 1)) + 1))).1)).1)).2⟩ : DCharge)))) (show k5 < x0.length from by omega) (rfl) hF9
  exact QM_round (k5 + 1, ((laws_markIntS_m ((gt d7 k5).Rows) ((laws_markIntS_m ((gt d7 k5).Tenants) ((laws_markIntS_m ((gt d7 k5).Ids) (IntKind.i64.wrap ((IntKind.i64.wrap (s6 + 1)) + 1))).1)).1)).1, (d7.set k5 (⟨s6, (IntKind.i64.wrap (s6 + 1)), (laws_markIntS_m ((gt d7 k5).Ids) (IntKind.i64.wrap ((IntKind.i64.wrap (s6 + 1)) + 1))).2, (laws_markIntS_m ((gt d7 k5).Tenants) ((laws_markIntS_m ((gt d7 k5).Ids) (IntKind.i64.wrap ((IntKind.i64.wrap (s6 + 1)) + 1))).1)).2, (laws_markIntS_m ((gt d7 k5).Rows) ((laws_markIntS_m ((gt d7 k5).Tenants) ((laws_markIntS_m ((gt d7 k5).Ids) (IntKind.i64.wrap ((IntKind.i64.wrap (s6 + 1)) + 1))).1)).1)).2⟩ : DCharge))), ()) sl3 (fun W hm => hm) ⟨(by omega), hn30⟩ (rl (by omega))
 ·have g12 := dlF hl11
  refine CM_condF rfl g12 ?_
  refine CM_exit (QM_then_exit (QM_then_exit ?_))
  have hE31 : R2 (x0.length - 0) 0 (x1, x0) = Sum.inr (s6, d7) := rng_end hl11 hF9
  refine QM_block_hit (QM_then (sr (wm (wa (nt' (CM_ret ?_))))))
  have he32 := (show laws_markChargeS_m x0 x1 = (s6, d7) from fin_inr hE31 (rfl))
  refine QM_rW rfl rfl (fun W hm => ⟨?_, ?_⟩)
  ·rw [he32]
  ·rw [he32]; exact hm

def laws_markEngine_m (x0 : DEngine) (x1 : Int) : (Int × DEngine) :=
 ((laws_markChargeS_m x0.Ledger ((laws_markFinishedS_m x0.Done ((laws_markActiveS_m x0.Active ((laws_markIntS_m x0.Order ((laws_markStore_m x0.Store x1).1)).1)).1)).1)).1, (⟨(⟨(laws_markStore_m x0.Store x1).2.Segments, x0.Store.Now⟩ : DStore), x0.Cursor, (laws_markIntS_m x0.Order ((laws_markStore_m x0.Store x1).1)).2, (laws_markActiveS_m x0.Active ((laws_markIntS_m x0.Order ((laws_markStore_m x0.Store x1).1)).1)).2, (laws_markFinishedS_m x0.Done ((laws_markActiveS_m x0.Active ((laws_markIntS_m x0.Order ((laws_markStore_m x0.Store x1).1)).1)).1)).2, (laws_markChargeS_m x0.Ledger ((laws_markFinishedS_m x0.Done ((laws_markActiveS_m x0.Active ((laws_markIntS_m x0.Order ((laws_markStore_m x0.Store x1).1)).1)).1)).1)).2, x0.Steps⟩ : DEngine))
theorem cb20 : Cb Tryz.prog 20 := ⟨f20, _, func20, rfl, by decide⟩
theorem laws_markEngine_c (B : Nat) (w0 : World) (is : List It) (w : World) (z0 : List Value) (x0 : DEngine) (x1 : Int) (hm : Mem B w0 (iOwn tyEngine z0 x0 :: is) w) :
  Calls Tryz.prog 20 #[.agg z0.toArray, .int .i64 x1] w fun e w' => e = .returned (.int .i64 (laws_markEngine_m x0 x1).1) ∧ Mem B w0 (iOwn tyEngine z0 (laws_markEngine_m x0 x1).2 :: is) w' := by
 refine call_enterW (L := [(0, .agg z0.toArray), (1, .int .i64 x1)]) (N := 26) func20 rfl rfl (Nat.le_of_ble_eq_true rfl) (argsL_cons rfl (argsL_cons rfl argsL_nil)) hm ?_
 refine CM_split (γ := Value × Value × Value × Value × Value) (js := fun g => [iOwn (tSl (tSl tyVersion 191) 131) [g.1] x0.Store.Segments, iOwn (tSl tInt 3) [g.2.1] x0.Order, iOwn (tSl tyActive 64) [g.2.2.1] x0.Active, iOwn (tSl tyFinished 37) [g.2.2.2.1] x0.Done, iOwn (tSl tyCharge 133) [g.2.2.2.2] x0.Ledger]) (C := fun g => z0 = [g.1, .int .i64 x0.Store.Now, .int .i64 x0.Cursor, g.2.1, g.2.2.1, g.2.2.2.1, g.2.2.2.2, .int .i64 x0.Steps]) (fun _ _ h => tyEngine_split h) ?_
 rintro ⟨v1, v2, v3, v4, v5⟩ rfl
 refine CM_form (n := 0) rfl ?_
 rintro A6 c7 rfl m8
 refine CM_form (n := 1) rfl ?_
 rintro A10 c11 rfl m12
 refine CM_form (n := 2) rfl ?_
 rintro A14 c15 rfl m16
 refine CM_form (n := 3) rfl ?_
 rintro A18 c19 rfl m20
 refine CM_form (n := 4) rfl ?_
 rintro A22 c23 rfl m24
 refine sr ?_
 refine WM_box rfl (Wd_none rfl) (by decide) (fun p26 => ?_)
 refine wa (nt' (sr ?_))
 refine wv (vf underlying47 rfl type42) ?_
 let K1 : List Value := [.slice A6 x0.Store.Segments.length c7, .int .i64 x0.Store.Now]
 refine wv (fun W hm => rv_loadN (cs := K1) underlying42 type42 rfl rfl (hm.boxPart (n := 0) rfl rfl)) ?_
 refine wm ?_
 let K2 : List Value := [.slice A6 x0.Store.Segments.length c7, .int .i64 x0.Store.Now, .int .i64 x0.Cursor, .slice A10 x0.Order.length c11, .slice A14 x0.Active.length c15, .slice A18 x0.Done.length c19, .slice A22 x0.Ledger.length c23, .int .i64 x0.Steps]
 let I3 : It := iOwn (tSl tInt 3) [.slice A10 x0.Order.length c11] x0.Order
 let I4 : It := iOwn (tSl tyActive 64) [.slice A14 x0.Active.length c15] x0.Active
 let I5 : It := iOwn (tSl tyFinished 37) [.slice A18 x0.Done.length c19] x0.Done
 let I6 : It := iOwn (tSl tyCharge 133) [.slice A22 x0.Ledger.length c23] x0.Ledger
 refine WM_items (js := (iOwn tyStore K1 x0.Store :: (iBox p26 47 K2 :: I3 :: I4 :: I5 :: I6 :: is))) (fun W hm => Mem.join (is := [iOwn (tSl (tSl tyVersion 191) 131) [.slice A6 x0.Store.Segments.length c7] x0.Store.Segments]) (js := (iBox p26 47 K2 :: I3 :: I4 :: I5 :: I6 :: is)) (fun _ _ hs => tyStore_join (x := x0.Store) hs) (hm.front (n := 1) rfl)) ?_
 refine cw (cl_fn cb92 rfl) (fun W hm => laws_markStore_c B w0 (iBox p26 47 K2 :: I3 :: I4 :: I5 :: I6 :: is) W K1 x0.Store x1 hm) ?_
 refine tyStore_sp ?_
 rintro v28 h27
 simp +zetaDelta only [List.cons.injEq] at h27
 obtain ⟨rfl, -, -⟩ := h27
 refine wa (nt' (sr ?_))
 refine wv (vf underlying47 rfl type25) ?_
 refine wv (vl 1 3 underlying25) ?_
 refine wm ?_
 let I7 : It := iOwn (tSl (tSl tyVersion 191) 131) [.slice A6 x0.Store.Segments.length c7] ((laws_markStore_m x0.Store x1).2.Segments)
 refine cw (cl_fn cb50 rfl) (fun W hm => laws_markIntS_c B w0 (I7 :: iBox p26 47 K2 :: I4 :: I5 :: I6 :: is) W (.slice A10 x0.Order.length c11) x0.Order ((laws_markStore_m x0.Store x1).1) (hm.front (n := 2) rfl)) ?_
 refine wa (nt' (sr ?_))
 refine wv (vf underlying47 rfl type43) ?_
 refine wv (vl 2 4 underlying43) ?_
 refine wm ?_
 let I8 : It := iOwn (tSl tInt 3) [.slice A10 x0.Order.length c11] ((laws_markIntS_m x0.Order ((laws_markStore_m x0.Store x1).1)).2)
 refine cw (cl_fn cb93 rfl) (fun W hm => laws_markActiveS_c B w0 (I8 :: I7 :: iBox p26 47 K2 :: I5 :: I6 :: is) W (.slice A14 x0.Active.length c15) x0.Active ((laws_markIntS_m x0.Order ((laws_markStore_m x0.Store x1).1)).1) (hm.front (n := 3) rfl)) ?_
 refine wa (nt' (sr ?_))
 refine wv (vf underlying47 rfl type44) ?_
 refine wv (vl 3 5 underlying44) ?_
 refine wm ?_
 let I9 : It := iOwn (tSl tyActive 64) [.slice A14 x0.Active.length c15] ((laws_markActiveS_m x0.Active ((laws_markIntS_m x0.Order ((laws_markStore_m x0.Store x1).1)).1)).2)
 refine cw (cl_fn cb94 rfl) (fun W hm => laws_markFinishedS_c B w0 (I9 :: I8 :: I7 :: iBox p26 47 K2 :: I6 :: is) W (.slice A18 x0.Done.length c19) x0.Done ((laws_markActiveS_m x0.Active ((laws_markIntS_m x0.Order ((laws_markStore_m x0.Store x1).1)).1)).1) (hm.front (n := 4) rfl)) ?_
 refine wa (nt' (sr ?_))
 refine wv (vf underlying47 rfl type45) ?_
 refine wv (vl 4 6 underlying45) ?_
 refine wm ?_
 let I10 : It := iOwn (tSl tyFinished 37) [.slice A18 x0.Done.length c19] ((laws_markFinishedS_m x0.Done ((laws_markActiveS_m x0.Active ((laws_markIntS_m x0.Order ((laws_markStore_m x0.Store x1).1)).1)).1)).2)
 refine cw (cl_fn cb95 rfl) (fun W hm => laws_markChargeS_c B w0 (I10 :: I9 :: I8 :: I7 :: iBox p26 47 K2 :: is) W (.slice A22 x0.Ledger.length c23) x0.Ledger ((laws_markFinishedS_m x0.Done ((laws_markActiveS_m x0.Active ((laws_markIntS_m x0.Order ((laws_markStore_m x0.Store x1).1)).1)).1)).1) (hm.front (n := 5) rfl)) ?_
 refine wa (nt' (sr (wm (wa (nt' (CM_ret ?_))))))
 have he29 := (show laws_markEngine_m x0 x1 = ((laws_markChargeS_m x0.Ledger ((laws_markFinishedS_m x0.Done ((laws_markActiveS_m x0.Active ((laws_markIntS_m x0.Order ((laws_markStore_m x0.Store x1).1)).1)).1)).1)).1, (⟨(⟨(laws_markStore_m x0.Store x1).2.Segments, x0.Store.Now⟩ : DStore), x0.Cursor, (laws_markIntS_m x0.Order ((laws_markStore_m x0.Store x1).1)).2, (laws_markActiveS_m x0.Active ((laws_markIntS_m x0.Order ((laws_markStore_m x0.Store x1).1)).1)).2, (laws_markFinishedS_m x0.Done ((laws_markActiveS_m x0.Active ((laws_markIntS_m x0.Order ((laws_markStore_m x0.Store x1).1)).1)).1)).2, (laws_markChargeS_m x0.Ledger ((laws_markFinishedS_m x0.Done ((laws_markActiveS_m x0.Active ((laws_markIntS_m x0.Order ((laws_markStore_m x0.Store x1).1)).1)).1)).1)).2, x0.Steps⟩ : DEngine)) from rfl)
 refine QM_rW rfl rfl (fun W hm => ⟨?_, ?_⟩)
 ·rw [he29]
 ·rw [he29]; exact Mem.join (is := [I7, I8, I9, I10, iOwn (tSl tyCharge 133) [.slice A22 x0.Ledger.length c23] ((laws_markChargeS_m x0.Ledger ((laws_markFinishedS_m x0.Done ((laws_markActiveS_m x0.Active ((laws_markIntS_m x0.Order ((laws_markStore_m x0.Store x1).1)).1)).1)).1)).2)]) (js := is) (fun _ _ hs => tyEngine_join (x := (⟨(⟨(laws_markStore_m x0.Store x1).2.Segments, x0.Store.Now⟩ : DStore), x0.Cursor, (laws_markIntS_m x0.Order ((laws_markStore_m x0.Store x1).1)).2, (laws_markActiveS_m x0.Active ((laws_markIntS_m x0.Order ((laws_markStore_m x0.Store x1).1)).1)).2, (laws_markFinishedS_m x0.Done ((laws_markActiveS_m x0.Active ((laws_markIntS_m x0.Order ((laws_markStore_m x0.Store x1).1)).1)).1)).2, (laws_markChargeS_m x0.Ledger ((laws_markFinishedS_m x0.Done ((laws_markActiveS_m x0.Active ((laws_markIntS_m x0.Order ((laws_markStore_m x0.Store x1).1)).1)).1)).1)).2, x0.Steps⟩ : DEngine)) hs) ((((((hm.front (n := 0) rfl).front (n := 1) rfl).front (n := 2) rfl).front (n := 3) rfl).front (n := 4) rfl).front (n := 5) rfl).tail

def laws_markQuery_m (x0 : DQuery) (x1 : Int) : (Int × DQuery) :=
 ((laws_markIntS_m x0.Out ((laws_markCondS_m x0.Conds x1).1)).1, (⟨x0.Id, x0.Tenant, (laws_markCondS_m x0.Conds x1).2, (laws_markIntS_m x0.Out ((laws_markCondS_m x0.Conds x1).1)).2⟩ : DQuery))
theorem cb55 : Cb Tryz.prog 55 := ⟨f55, _, func55, rfl, by decide⟩
theorem laws_markQuery_c (B : Nat) (w0 : World) (is : List It) (w : World) (z0 : List Value) (x0 : DQuery) (x1 : Int) (hm : Mem B w0 (iOwn tyQuery z0 x0 :: is) w) :
  Calls Tryz.prog 55 #[.agg z0.toArray, .int .i64 x1] w fun e w' => e = .returned (.int .i64 (laws_markQuery_m x0 x1).1) ∧ Mem B w0 (iOwn tyQuery z0 (laws_markQuery_m x0 x1).2 :: is) w' := by
 refine call_enterW (L := [(0, .agg z0.toArray), (1, .int .i64 x1)]) (N := 14) func55 rfl rfl (Nat.le_of_ble_eq_true rfl) (argsL_cons rfl (argsL_cons rfl argsL_nil)) hm ?_
 refine CM_split (γ := Value × Value) (js := fun g => [iOwn (tSl tyCond 201) [g.1] x0.Conds, iOwn (tSl tInt 3) [g.2] x0.Out]) (C := fun g => z0 = [.int .i64 x0.Id, .int .i64 x0.Tenant, g.1, g.2]) (fun _ _ h => tyQuery_split h) ?_
 rintro ⟨v1, v2⟩ rfl
 refine CM_form (n := 0) rfl ?_
 rintro A3 c4 rfl m5
 refine CM_form (n := 1) rfl ?_
 rintro A7 c8 rfl m9
 refine sr ?_
 refine WM_box rfl (Wd_none rfl) (by decide) (fun p11 => ?_)
 refine wa (nt' (sr ?_))
 refine wv (vf underlying34 rfl type32) ?_
 refine wv (vl 0 2 underlying32) ?_
 refine wm ?_
 let K1 : List Value := [.int .i64 x0.Id, .int .i64 x0.Tenant, .slice A3 x0.Conds.length c4, .slice A7 x0.Out.length c8]
 refine cw (cl_fn cb146 rfl) (fun W hm => laws_markCondS_c B w0 (iBox p11 34 K1 :: iOwn (tSl tInt 3) [.slice A7 x0.Out.length c8] x0.Out :: is) W (.slice A3 x0.Conds.length c4) x0.Conds x1 (hm.front (n := 1) rfl)) ?_
 refine wa (nt' (sr ?_))
 refine wv (vf underlying34 rfl type25) ?_
 refine wv (vl 1 3 underlying25) ?_
 refine wm ?_
 let I2 : It := iOwn (tSl tyCond 201) [.slice A3 x0.Conds.length c4] ((laws_markCondS_m x0.Conds x1).2)
 refine cw (cl_fn cb50 rfl) (fun W hm => laws_markIntS_c B w0 (I2 :: iBox p11 34 K1 :: is) W (.slice A7 x0.Out.length c8) x0.Out ((laws_markCondS_m x0.Conds x1).1) (hm.front (n := 2) rfl)) ?_
 refine wa (nt' (sr (wm (wa (nt' (CM_ret ?_))))))
 have he12 := (show laws_markQuery_m x0 x1 = ((laws_markIntS_m x0.Out ((laws_markCondS_m x0.Conds x1).1)).1, (⟨x0.Id, x0.Tenant, (laws_markCondS_m x0.Conds x1).2, (laws_markIntS_m x0.Out ((laws_markCondS_m x0.Conds x1).1)).2⟩ : DQuery)) from rfl)
 refine QM_rW rfl rfl (fun W hm => ⟨?_, ?_⟩)
 ·rw [he12]
 ·rw [he12]; exact Mem.join (is := [I2, iOwn (tSl tInt 3) [.slice A7 x0.Out.length c8] ((laws_markIntS_m x0.Out ((laws_markCondS_m x0.Conds x1).1)).2)]) (js := is) (fun _ _ hs => tyQuery_join (x := (⟨x0.Id, x0.Tenant, (laws_markCondS_m x0.Conds x1).2, (laws_markIntS_m x0.Out ((laws_markCondS_m x0.Conds x1).1)).2⟩ : DQuery)) hs) (((hm.front (n := 0) rfl).front (n := 1) rfl).front (n := 2) rfl).tail

def laws_heldIntS_b1 (x0 : (List Int)) (k6 : Nat) (s7 : Int) : Int ⊕ (Int) :=
 cond ((gt x0 k6) != s7) (Sum.inl (-1)) (Sum.inr (IntKind.i64.wrap (s7 + 1)))
def laws_heldIntS_m (x0 : (List Int)) (x1 : Int) : Int :=
 Sum.elim id (fun (s : Int) => s) (rng (R := Int) (fun k (s : Int) => laws_heldIntS_b1 x0 k s) (x0.length - 0) 0 x1)
theorem cb139 : Cb Tryz.prog 139 := ⟨f139, _, func139, rfl, by decide⟩
theorem laws_heldIntS_c (w : World) (z0 : Value) (x0 : (List Int)) (x1 : Int) (r_0 : rdS tInt w w.heap.size z0 x0) :
  Calls Tryz.prog 139 #[z0, .int .i64 x1] w fun e w' => e = .returned (.int .i64 (laws_heldIntS_m x0 x1)) ∧ Below w.heap.size w w' := by
 obtain ⟨m1, A2, c3, rfl, q4, r5⟩ := rdS_op r_0
 refine ce2 (L := [(0, .slice A2 x0.length c3), (1, .int .i64 x1)]) (N := 21) func139 ?_
 refine sr (wa (nt' (CM_seq (sr (wa (nt' (CM_block ?_)))))))
 let F1 := fun k (s : Int) => laws_heldIntS_b1 x0 k s
 let R2 := rng (R := Int) F1
 refine CM_loop (σ := Nat × (Int) × (Unit)) (fun s => [(0, .slice A2 x0.length c3), (1, .int .i64 s.2.1), (5, .int .i64 ((s.1 : Nat) : Int))]) (fun s => []) (fun s => s.1 ≤ x0.length ∧ R2 (x0.length - s.1) s.1 s.2.1 = R2 (x0.length - 0) 0 x1) (fun s => x0.length - s.1) (0, x1, ()) sl3 (fun W hm => hm) ⟨(by omega), rfl⟩ ?_
 rintro ⟨k6, s7, ⟨⟩⟩ H10
 obtain ⟨hk8, hF9⟩ : k6 ≤ x0.length ∧ R2 (x0.length - k6) k6 s7 = R2 (x0.length - 0) 0 x1 := H10
 show CM Tryz.prog 21 _ _ _ _ [(0, .slice A2 x0.length c3), (1, .int .i64 s7), (5, .int .i64 ((k6 : Nat) : Int))] []
 refine CM_seq (sr (wm (wm ?_)))
 refine wv (vlen underlying25) ?_
 refine wv vlss ?_
 refine nt' ?_
 by_cases hl11 : k6 < x0.length
 ·have g12 := dlT hl11
  refine CM_condT rfl g12 ?_
  refine CM_skip (QM_then (CM_seq (CM_block (CM_seq (sr (wm (wm ?_)))))))
  obtain ⟨a13, rfl, hb14, he15⟩ := q4 (by omega)
  refine wv (vix 1 k6 underlying25 type3) ?_
  refine wv (fun W hm => rv_load underlying3 rfl rfl ((hm.cell0 (show (a13.add (k6 * 1)).block < w.heap.size from by rw [add_block]; exact hb14.1)).trans (rdS_int he15 k6 (by omega)))) ?_
  refine wm ?_
  refine wv vneq ?_
  refine nt' ?_
  by_cases h16 : (gt x0 k6) = s7
  ·have g17 : ((gt x0 k6) != s7) = false := by rw [h16]; exact bne_self_eq_false _
   refine CM_condF rfl g17 ?_
   refine CM_skip (QM_then (CM_region (wm ?_)))
   refine wv vadd ?_
   refine wa (WM_nil (QM_block_normal (QM_then (CM_region (wm ?_)))))
   refine wv (vadN k6 1 (by omega)) ?_
   refine wa (WM_nil ?_)
   have hn18 := rng_next (R := Int) (body := F1) (k := k6) (s := s7) (s' := (IntKind.i64.wrap (s7 + 1))) (show k6 < x0.length from by omega) (cond_f g17 (rfl)) hF9
   exact QM_round (k6 + 1, (IntKind.i64.wrap (s7 + 1)), ()) sl3 (fun W hm => hm) ⟨(by omega), hn18⟩ (rl (by omega))
  ·have g17 : ((gt x0 k6) != s7) = true := bne_iff_ne.2 h16
   refine CM_condT rfl g17 ?_
   refine sr (wa (nt' (CM_ret (QM_then_ret (QM_block_ret (QM_then_ret (QM_then_ret (QM_block_ret (QM_then_ret ?_)))))))))
   exact rti (h := fin_inl (rng_ret (body := F1) (k := k6) (s := s7) (show k6 < x0.length from by omega) (cond_t g17 (rfl)) hF9) rfl)
 ·have g12 := dlF hl11
  refine CM_condF rfl g12 ?_
  refine CM_exit (QM_then_exit (QM_then_exit ?_))
  have hE19 : R2 (x0.length - 0) 0 x1 = Sum.inr s7 := rng_end hl11 hF9
  refine QM_block_hit (QM_then (sr (wm (wa (nt' (CM_ret ?_))))))
  exact rti (h := fin_inr hE19 (rfl))

def laws_heldVersionS_b1 (x0 : (List DVersion)) (k6 : Nat) (s7 : Int) : Int ⊕ (Int) :=
 cond (((gt x0 k6).Id) != s7) (Sum.inl (-1)) (cond (decide ((laws_heldIntS_m ((gt x0 k6).Values) (IntKind.i64.wrap (s7 + 1))) < 0)) (Sum.inl (-1)) (cond (((gt x0 k6).Born) != (laws_heldIntS_m ((gt x0 k6).Values) (IntKind.i64.wrap (s7 + 1)))) (Sum.inl (-1)) (cond (((gt x0 k6).Died) != (IntKind.i64.wrap ((laws_heldIntS_m ((gt x0 k6).Values) (IntKind.i64.wrap (s7 + 1))) + 1))) (Sum.inl (-1)) (Sum.inr (IntKind.i64.wrap ((IntKind.i64.wrap ((laws_heldIntS_m ((gt x0 k6).Values) (IntKind.i64.wrap (s7 + 1))) + 1)) + 1))))))
def laws_heldVersionS_m (x0 : (List DVersion)) (x1 : Int) : Int :=
 Sum.elim id (fun (s : Int) => s) (rng (R := Int) (fun k (s : Int) => laws_heldVersionS_b1 x0 k s) (x0.length - 0) 0 x1)
theorem cb229 : Cb Tryz.prog 229 := ⟨f229, _, func229, rfl, by decide⟩
theorem laws_heldVersionS_c (w : World) (z0 : Value) (x0 : (List DVersion)) (x1 : Int) (r_0 : rdS tyVersion w w.heap.size z0 x0) :
  Calls Tryz.prog 229 #[z0, .int .i64 x1] w fun e w' => e = .returned (.int .i64 (laws_heldVersionS_m x0 x1)) ∧ Below w.heap.size w w' := by
 obtain ⟨m1, A2, c3, rfl, q4, r5⟩ := rdS_op r_0
 refine ce2 (L := [(0, .slice A2 x0.length c3), (1, .int .i64 x1)]) (N := 49) func229 ?_
 refine sr (wa (nt' (CM_seq (sr (wa (nt' (CM_block ?_)))))))
 let F1 := fun k (s : Int) => laws_heldVersionS_b1 x0 k s
 let R2 := rng (R := Int) F1
 refine CM_loop (σ := Nat × (Int) × (Unit)) (fun s => [(0, .slice A2 x0.length c3), (1, .int .i64 s.2.1), (5, .int .i64 ((s.1 : Nat) : Int))]) (fun s => []) (fun s => s.1 ≤ x0.length ∧ R2 (x0.length - s.1) s.1 s.2.1 = R2 (x0.length - 0) 0 x1) (fun s => x0.length - s.1) (0, x1, ()) sl3 (fun W hm => hm) ⟨(by omega), rfl⟩ ?_
 rintro ⟨k6, s7, ⟨⟩⟩ H10
 obtain ⟨hk8, hF9⟩ : k6 ≤ x0.length ∧ R2 (x0.length - k6) k6 s7 = R2 (x0.length - 0) 0 x1 := H10
 show CM Tryz.prog 49 _ _ _ _ [(0, .slice A2 x0.length c3), (1, .int .i64 s7), (5, .int .i64 ((k6 : Nat) : Int))] []
 refine CM_seq (sr (wm (wm ?_)))
 refine wv (vlen underlying131) ?_
 refine wv vlss ?_
 refine nt' ?_
 by_cases hl11 : k6 < x0.length
 ·have g12 := dlT hl11
  refine CM_condT rfl g12 ?_
  refine CM_skip (QM_then (CM_seq (CM_block (CM_seq (sr (wm (wm ?_)))))))
  obtain ⟨a13, rfl, hb14, he15⟩ := q4 (by omega)
  refine wv (vix 4 k6 underlying131 type191) ?_
  refine wv (vf underlying191 rfl type3) ?_
  obtain ⟨_, e19, hc16⟩ := he15 k6 _ (gt_some (show k6 < x0.length from by omega))
  obtain ⟨v17, rfl, r18⟩ := tyVersion_rd e19
  obtain ⟨m20, A21, c22, rfl, q23, r24⟩ := rdS_op r18
  refine wv (fun W hm => rv_load underlying3 rfl rfl ((hm.cell0 (show ((a13.add (k6 * 4)).add 0).block < w.heap.size from by rw [add_block, add_block]; exact hb14.1)).trans (hc16 0 _ rfl))) ?_
  refine wm ?_
  refine wv vneq ?_
  refine nt' ?_
  by_cases h25 : ((gt x0 k6).Id) = s7
  ·have g26 : (((gt x0 k6).Id) != s7) = false := by rw [h25]; exact bne_self_eq_false _
   refine CM_condF rfl g26 ?_
   refine CM_skip (QM_then (sr (wm ?_)))
   refine wv vadd ?_
   refine wa (nt' (sr (wm (wm ?_))))
   refine wv (vix 4 k6 underlying131 type191) ?_
   refine wv (vf underlying191 rfl type25) ?_
   refine wv (fun W hm => rv_load underlying25 rfl rfl ((hm.cell0 (show ((a13.add (k6 * 4)).add 1).block < w.heap.size from by rw [add_block, add_block]; exact hb14.1)).trans (hc16 1 _ rfl))) ?_
   refine wm ?_
   refine wcv (cl_fn cb139 rfl) (fun W hm => laws_heldIntS_c W _ ((gt x0 k6).Values) (IntKind.i64.wrap (s7 + 1)) (hm.rdS0 r24)) ?_
   refine wa (nt' (CM_seq (sr (wm ?_))))
   refine wv vlss ?_
   refine nt' ?_
   by_cases h27 : (laws_heldIntS_m ((gt x0 k6).Values) (IntKind.i64.wrap (s7 + 1))) < 0
   ·have g28 := decide_eq_true h27
    refine CM_condT rfl g28 ?_
    refine sr (wa (nt' (CM_ret (QM_then_ret (QM_block_ret (QM_then_ret (QM_then_ret (QM_block_ret (QM_then_ret ?_)))))))))
    exact rti (h := fin_inl (rng_ret (body := F1) (k := k6) (s := s7) (show k6 < x0.length from by omega) (cond_f g26 (cond_t g28 (rfl))) hF9) rfl)
   ·have g28 := decide_eq_false h27
    refine CM_condF rfl g28 ?_
    refine CM_skip (QM_then (CM_seq (sr (wm (wm ?_)))))
    refine wv (vix 4 k6 underlying131 type191) ?_
    refine wv (vf underlying191 rfl type3) ?_
    refine wv (fun W hm => rv_load underlying3 rfl rfl ((hm.cell0 (show ((a13.add (k6 * 4)).add 2).block < w.heap.size from by rw [add_block, add_block]; exact hb14.1)).trans (hc16 2 _ rfl))) ?_
    refine wm ?_
    refine wv vneq ?_
    refine nt' ?_
    by_cases h29 : ((gt x0 k6).Born) = (laws_heldIntS_m ((gt x0 k6).Values) (IntKind.i64.wrap (s7 + 1)))
    ·have g30 : (((gt x0 k6).Born) != (laws_heldIntS_m ((gt x0 k6).Values) (IntKind.i64.wrap (s7 + 1)))) = false := by rw [h29]; exact bne_self_eq_false _
     refine CM_condF rfl g30 ?_
     refine CM_skip (QM_then (sr (wm ?_)))
     refine wv vadd ?_
     refine wa (nt' (CM_seq (sr (wm (wm ?_)))))
     refine wv (vix 4 k6 underlying131 type191) ?_
     refine wv (vf underlying191 rfl type3) ?_
     refine wv (fun W hm => rv_load underlying3 rfl rfl ((hm.cell0 (show ((a13.add (k6 * 4)).add 3).block < w.heap.size from by rw [add_block, add_block]; exact hb14.1)).trans (hc16 3 _ rfl))) ?_
     refine wm ?_
     refine wv vneq ?_
     refine nt' ?_
     by_cases h31 : ((gt x0 k6).Died) = (IntKind.i64.wrap ((laws_heldIntS_m ((gt x0 k6).Values) (IntKind.i64.wrap (s7 + 1))) + 1))
     ·have g32 : (((gt x0 k6).Died) != (IntKind.i64.wrap ((laws_heldIntS_m ((gt x0 k6).Values) (IntKind.i64.wrap (s7 + 1))) + 1))) = false := by rw [h31]; exact bne_self_eq_false _
      refine CM_condF rfl g32 ?_
      refine CM_skip (QM_then (CM_region (wm ?_)))
      refine wv vadd ?_
      refine wa (WM_nil (QM_block_normal (QM_then (CM_region (wm ?_)))))
      refine wv (vadN k6 1 (by omega)) ?_
      refine wa (WM_nil ?_)
      have hn33 := rng_next (R := Int) (body := F1) (k := k6) (s := s7) (s' := (IntKind.i64.wrap ((IntKind.i64.wrap ((laws_heldIntS_m ((gt x0 k6).Values) (IntKind.i64.wrap (s7 + 1))) + 1)) + 1))) (show k6 < x0.length from by omega) (cond_f g26 (cond_f g28 (cond_f g30 (cond_f g32 (rfl))))) hF9
      exact QM_round (k6 + 1, (IntKind.i64.wrap ((IntKind.i64.wrap ((laws_heldIntS_m ((gt x0 k6).Values) (IntKind.i64.wrap (s7 + 1))) + 1)) + 1)), ()) sl3 (fun W hm => hm) ⟨(by omega), hn33⟩ (rl (by omega))
     ·have g32 : (((gt x0 k6).Died) != (IntKind.i64.wrap ((laws_heldIntS_m ((gt x0 k6).Values) (IntKind.i64.wrap (s7 + 1))) + 1))) = true := bne_iff_ne.2 h31
      refine CM_condT rfl g32 ?_
      refine sr (wa (nt' (CM_ret (QM_then_ret (QM_block_ret (QM_then_ret (QM_then_ret (QM_block_ret (QM_then_ret ?_)))))))))
      exact rti (h := fin_inl (rng_ret (body := F1) (k := k6) (s := s7) (show k6 < x0.length from by omega) (cond_f g26 (cond_f g28 (cond_f g30 (cond_t g32 (rfl))))) hF9) rfl)
    ·have g30 : (((gt x0 k6).Born) != (laws_heldIntS_m ((gt x0 k6).Values) (IntKind.i64.wrap (s7 + 1)))) = true := bne_iff_ne.2 h29
     refine CM_condT rfl g30 ?_
     refine sr (wa (nt' (CM_ret (QM_then_ret (QM_block_ret (QM_then_ret (QM_then_ret (QM_block_ret (QM_then_ret ?_)))))))))
     exact rti (h := fin_inl (rng_ret (body := F1) (k := k6) (s := s7) (show k6 < x0.length from by omega) (cond_f g26 (cond_f g28 (cond_t g30 (rfl)))) hF9) rfl)
  ·have g26 : (((gt x0 k6).Id) != s7) = true := bne_iff_ne.2 h25
   refine CM_condT rfl g26 ?_
   refine sr (wa (nt' (CM_ret (QM_then_ret (QM_block_ret (QM_then_ret (QM_then_ret (QM_block_ret (QM_then_ret ?_)))))))))
   exact rti (h := fin_inl (rng_ret (body := F1) (k := k6) (s := s7) (show k6 < x0.length from by omega) (cond_t g26 (rfl)) hF9) rfl)
 ·have g12 := dlF hl11
  refine CM_condF rfl g12 ?_
  refine CM_exit (QM_then_exit (QM_then_exit ?_))
  have hE34 : R2 (x0.length - 0) 0 x1 = Sum.inr s7 := rng_end hl11 hF9
  refine QM_block_hit (QM_then (sr (wm (wa (nt' (CM_ret ?_))))))
  exact rti (h := fin_inr hE34 (rfl))

def laws_heldVersionSS_b1 (x0 : (List (List DVersion))) (k6 : Nat) (s7 : Int) : Int ⊕ (Int) :=
 cond (decide ((laws_heldVersionS_m (gt x0 k6) s7) < 0)) (Sum.inl (-1)) (Sum.inr (laws_heldVersionS_m (gt x0 k6) s7))
def laws_heldVersionSS_m (x0 : (List (List DVersion))) (x1 : Int) : Int :=
 Sum.elim id (fun (s : Int) => s) (rng (R := Int) (fun k (s : Int) => laws_heldVersionSS_b1 x0 k s) (x0.length - 0) 0 x1)
theorem cb202 : Cb Tryz.prog 202 := ⟨f202, _, func202, rfl, by decide⟩
theorem laws_heldVersionSS_c (w : World) (z0 : Value) (x0 : (List (List DVersion))) (x1 : Int) (r_0 : rdS (tSl tyVersion 191) w w.heap.size z0 x0) :
  Calls Tryz.prog 202 #[z0, .int .i64 x1] w fun e w' => e = .returned (.int .i64 (laws_heldVersionSS_m x0 x1)) ∧ Below w.heap.size w w' := by
 obtain ⟨m1, A2, c3, rfl, q4, r5⟩ := rdS_op r_0
 refine ce2 (L := [(0, .slice A2 x0.length c3), (1, .int .i64 x1)]) (N := 21) func202 ?_
 refine sr (wa (nt' (CM_seq (sr (wa (nt' (CM_block ?_)))))))
 let F1 := fun k (s : Int) => laws_heldVersionSS_b1 x0 k s
 let R2 := rng (R := Int) F1
 refine CM_loop (σ := Nat × (Int) × (Unit)) (fun s => [(0, .slice A2 x0.length c3), (1, .int .i64 s.2.1), (5, .int .i64 ((s.1 : Nat) : Int))]) (fun s => []) (fun s => s.1 ≤ x0.length ∧ R2 (x0.length - s.1) s.1 s.2.1 = R2 (x0.length - 0) 0 x1) (fun s => x0.length - s.1) (0, x1, ()) sl3 (fun W hm => hm) ⟨(by omega), rfl⟩ ?_
 rintro ⟨k6, s7, ⟨⟩⟩ H10
 obtain ⟨hk8, hF9⟩ : k6 ≤ x0.length ∧ R2 (x0.length - k6) k6 s7 = R2 (x0.length - 0) 0 x1 := H10
 show CM Tryz.prog 21 _ _ _ _ [(0, .slice A2 x0.length c3), (1, .int .i64 s7), (5, .int .i64 ((k6 : Nat) : Int))] []
 refine CM_seq (sr (wm (wm ?_)))
 refine wv (vlen underlying40) ?_
 refine wv vlss ?_
 refine nt' ?_
 by_cases hl11 : k6 < x0.length
 ·have g12 := dlT hl11
  refine CM_condT rfl g12 ?_
  refine CM_skip (QM_then (CM_seq (CM_block (sr (wm (wm ?_))))))
  obtain ⟨a13, rfl, hb14, he15⟩ := q4 (by omega)
  refine wv (vix 1 k6 underlying40 type131) ?_
  obtain ⟨_, e17, hc16⟩ := he15 k6 _ (gt_some (show k6 < x0.length from by omega))
  obtain ⟨v18, rfl, r19⟩ := e17
  obtain ⟨m20, A21, c22, rfl, q23, r24⟩ := rdS_op r19
  refine wv (fun W hm => rv_load underlying131 rfl rfl ((hm.cell0 (show (a13.add (k6 * 1)).block < w.heap.size from by rw [add_block]; exact hb14.1)).trans (hc16 0 _ rfl))) ?_
  refine wm ?_
  refine wcv (cl_fn cb229 rfl) (fun W hm => laws_heldVersionS_c W _ (gt x0 k6) s7 (hm.rdS0 r24)) ?_
  refine wa (nt' (sr (wm ?_)))
  refine wv vlss ?_
  refine nt' ?_
  by_cases h25 : (laws_heldVersionS_m (gt x0 k6) s7) < 0
  ·have g26 := decide_eq_true h25
   refine CM_condT rfl g26 ?_
   refine sr (wa (nt' (CM_ret (QM_block_ret (QM_then_ret (QM_then_ret (QM_block_ret (QM_then_ret ?_))))))))
   exact rti (h := fin_inl (rng_ret (body := F1) (k := k6) (s := s7) (show k6 < x0.length from by omega) (cond_t g26 (rfl)) hF9) rfl)
  ·have g26 := decide_eq_false h25
   refine CM_condF rfl g26 ?_
   refine CM_skip (QM_block_normal (QM_then (CM_region (wm ?_))))
   refine wv (vadN k6 1 (by omega)) ?_
   refine wa (WM_nil ?_)
   have hn27 := rng_next (R := Int) (body := F1) (k := k6) (s := s7) (s' := (laws_heldVersionS_m (gt x0 k6) s7)) (show k6 < x0.length from by omega) (cond_f g26 (rfl)) hF9
   exact QM_round (k6 + 1, (laws_heldVersionS_m (gt x0 k6) s7), ()) sl3 (fun W hm => hm) ⟨(by omega), hn27⟩ (rl (by omega))
 ·have g12 := dlF hl11
  refine CM_condF rfl g12 ?_
  refine CM_exit (QM_then_exit (QM_then_exit ?_))
  have hE28 : R2 (x0.length - 0) 0 x1 = Sum.inr s7 := rng_end hl11 hF9
  refine QM_block_hit (QM_then (sr (wm (wa (nt' (CM_ret ?_))))))
  exact rti (h := fin_inr hE28 (rfl))

def laws_heldStore_m (x0 : DStore) (x1 : Int) : Int :=
 cond (decide ((laws_heldVersionSS_m x0.Segments x1) < 0)) (-1) (laws_heldVersionSS_m x0.Segments x1)
theorem cb138 : Cb Tryz.prog 138 := ⟨f138, _, func138, rfl, by decide⟩
theorem laws_heldStore_c (w : World) (z0 : List Value) (x0 : DStore) (x1 : Int) (r_0 : tyStore.rd w w.heap.size z0 x0) :
  Calls Tryz.prog 138 #[.agg z0.toArray, .int .i64 x1] w fun e w' => e = .returned (.int .i64 (laws_heldStore_m x0 x1)) ∧ Below w.heap.size w w' := by
 obtain ⟨v1, rfl, r2⟩ := tyStore_rd r_0
 obtain ⟨m3, A4, c5, rfl, q6, r7⟩ := rdS_op r2
 refine ce2 (L := [(0, .agg #[.slice A4 x0.Segments.length c5, .int .i64 x0.Now]), (1, .int .i64 x1)]) (N := 12) func138 ?_
 refine sr ?_
 refine WM_box rfl (Wd_none rfl) (by decide) (fun p8 => ?_)
 refine wa (nt' (sr ?_))
 refine wv (vf underlying42 rfl type40) ?_
 refine wv (vl 0 0 underlying40) ?_
 refine wm ?_
 refine wcv (cl_fn cb202 rfl) (fun W hm => laws_heldVersionSS_c W _ x0.Segments x1 (hm.rdS0 r7)) ?_
 refine wa (nt' (CM_seq (sr (wm ?_))))
 refine wv vlss ?_
 refine nt' ?_
 by_cases h9 : (laws_heldVersionSS_m x0.Segments x1) < 0
 ·have g10 := decide_eq_true h9
  refine CM_condT rfl g10 ?_
  refine sr (wa (nt' (CM_ret (QM_then_ret ?_))))
  exact rti (h := cond_t g10 (rfl))
 ·have g10 := decide_eq_false h9
  refine CM_condF rfl g10 ?_
  refine CM_skip (QM_then (sr (wm (wa (nt' (CM_ret ?_))))))
  exact rti (h := cond_f g10 (rfl))

def laws_heldCondS_b1 (x0 : (List DCond)) (k6 : Nat) (s7 : Int) : Int ⊕ (Int) :=
 cond (((gt x0 k6).Field) != s7) (Sum.inl (-1)) (cond (((gt x0 k6).Low) != (IntKind.i64.wrap (s7 + 1))) (Sum.inl (-1)) (cond (((gt x0 k6).High) != (IntKind.i64.wrap ((IntKind.i64.wrap (s7 + 1)) + 1))) (Sum.inl (-1)) (Sum.inr (IntKind.i64.wrap ((IntKind.i64.wrap ((IntKind.i64.wrap (s7 + 1)) + 1)) + 1)))))
def laws_heldCondS_m (x0 : (List DCond)) (x1 : Int) : Int :=
 Sum.elim id (fun (s : Int) => s) (rng (R := Int) (fun k (s : Int) => laws_heldCondS_b1 x0 k s) (x0.length - 0) 0 x1)
theorem cb171 : Cb Tryz.prog 171 := ⟨f171, _, func171, rfl, by decide⟩
theorem laws_heldCondS_c (w : World) (z0 : Value) (x0 : (List DCond)) (x1 : Int) (r_0 : rdS tyCond w w.heap.size z0 x0) :
  Calls Tryz.prog 171 #[z0, .int .i64 x1] w fun e w' => e = .returned (.int .i64 (laws_heldCondS_m x0 x1)) ∧ Below w.heap.size w w' := by
 obtain ⟨m1, A2, c3, rfl, q4, r5⟩ := rdS_op r_0
 refine ce2 (L := [(0, .slice A2 x0.length c3), (1, .int .i64 x1)]) (N := 40) func171 ?_
 refine sr (wa (nt' (CM_seq (sr (wa (nt' (CM_block ?_)))))))
 let F1 := fun k (s : Int) => laws_heldCondS_b1 x0 k s
 let R2 := rng (R := Int) F1
 refine CM_loop (σ := Nat × (Int) × (Unit)) (fun s => [(0, .slice A2 x0.length c3), (1, .int .i64 s.2.1), (5, .int .i64 ((s.1 : Nat) : Int))]) (fun s => []) (fun s => s.1 ≤ x0.length ∧ R2 (x0.length - s.1) s.1 s.2.1 = R2 (x0.length - 0) 0 x1) (fun s => x0.length - s.1) (0, x1, ()) sl3 (fun W hm => hm) ⟨(by omega), rfl⟩ ?_
 rintro ⟨k6, s7, ⟨⟩⟩ H10
 obtain ⟨hk8, hF9⟩ : k6 ≤ x0.length ∧ R2 (x0.length - k6) k6 s7 = R2 (x0.length - 0) 0 x1 := H10
 show CM Tryz.prog 40 _ _ _ _ [(0, .slice A2 x0.length c3), (1, .int .i64 s7), (5, .int .i64 ((k6 : Nat) : Int))] []
 refine CM_seq (sr (wm (wm ?_)))
 refine wv (vlen underlying32) ?_
 refine wv vlss ?_
 refine nt' ?_
 by_cases hl11 : k6 < x0.length
 ·have g12 := dlT hl11
  refine CM_condT rfl g12 ?_
  refine CM_skip (QM_then (CM_seq (CM_block (CM_seq (sr (wm (wm ?_)))))))
  obtain ⟨a13, rfl, hb14, he15⟩ := q4 (by omega)
  refine wv (vix 3 k6 underlying32 type201) ?_
  refine wv (vf underlying201 rfl type3) ?_
  obtain ⟨_, e17, hc16⟩ := he15 k6 _ (gt_some (show k6 < x0.length from by omega))
  obtain rfl := tyCond_rd e17
  refine wv (fun W hm => rv_load underlying3 rfl rfl ((hm.cell0 (show ((a13.add (k6 * 3)).add 0).block < w.heap.size from by rw [add_block, add_block]; exact hb14.1)).trans (hc16 0 _ rfl))) ?_
  refine wm ?_
  refine wv vneq ?_
  refine nt' ?_
  by_cases h18 : ((gt x0 k6).Field) = s7
  ·have g19 : (((gt x0 k6).Field) != s7) = false := by rw [h18]; exact bne_self_eq_false _
   refine CM_condF rfl g19 ?_
   refine CM_skip (QM_then (sr (wm ?_)))
   refine wv vadd ?_
   refine wa (nt' (CM_seq (sr (wm (wm ?_)))))
   refine wv (vix 3 k6 underlying32 type201) ?_
   refine wv (vf underlying201 rfl type3) ?_
   refine wv (fun W hm => rv_load underlying3 rfl rfl ((hm.cell0 (show ((a13.add (k6 * 3)).add 1).block < w.heap.size from by rw [add_block, add_block]; exact hb14.1)).trans (hc16 1 _ rfl))) ?_
   refine wm ?_
   refine wv vneq ?_
   refine nt' ?_
   by_cases h20 : ((gt x0 k6).Low) = (IntKind.i64.wrap (s7 + 1))
   ·have g21 : (((gt x0 k6).Low) != (IntKind.i64.wrap (s7 + 1))) = false := by rw [h20]; exact bne_self_eq_false _
    refine CM_condF rfl g21 ?_
    refine CM_skip (QM_then (sr (wm ?_)))
    refine wv vadd ?_
    refine wa (nt' (CM_seq (sr (wm (wm ?_)))))
    refine wv (vix 3 k6 underlying32 type201) ?_
    refine wv (vf underlying201 rfl type3) ?_
    refine wv (fun W hm => rv_load underlying3 rfl rfl ((hm.cell0 (show ((a13.add (k6 * 3)).add 2).block < w.heap.size from by rw [add_block, add_block]; exact hb14.1)).trans (hc16 2 _ rfl))) ?_
    refine wm ?_
    refine wv vneq ?_
    refine nt' ?_
    by_cases h22 : ((gt x0 k6).High) = (IntKind.i64.wrap ((IntKind.i64.wrap (s7 + 1)) + 1))
    ·have g23 : (((gt x0 k6).High) != (IntKind.i64.wrap ((IntKind.i64.wrap (s7 + 1)) + 1))) = false := by rw [h22]; exact bne_self_eq_false _
     refine CM_condF rfl g23 ?_
     refine CM_skip (QM_then (CM_region (wm ?_)))
     refine wv vadd ?_
     refine wa (WM_nil (QM_block_normal (QM_then (CM_region (wm ?_)))))
     refine wv (vadN k6 1 (by omega)) ?_
     refine wa (WM_nil ?_)
     have hn24 := rng_next (R := Int) (body := F1) (k := k6) (s := s7) (s' := (IntKind.i64.wrap ((IntKind.i64.wrap ((IntKind.i64.wrap (s7 + 1)) + 1)) + 1))) (show k6 < x0.length from by omega) (cond_f g19 (cond_f g21 (cond_f g23 (rfl)))) hF9
     exact QM_round (k6 + 1, (IntKind.i64.wrap ((IntKind.i64.wrap ((IntKind.i64.wrap (s7 + 1)) + 1)) + 1)), ()) sl3 (fun W hm => hm) ⟨(by omega), hn24⟩ (rl (by omega))
    ·have g23 : (((gt x0 k6).High) != (IntKind.i64.wrap ((IntKind.i64.wrap (s7 + 1)) + 1))) = true := bne_iff_ne.2 h22
     refine CM_condT rfl g23 ?_
     refine sr (wa (nt' (CM_ret (QM_then_ret (QM_block_ret (QM_then_ret (QM_then_ret (QM_block_ret (QM_then_ret ?_)))))))))
     exact rti (h := fin_inl (rng_ret (body := F1) (k := k6) (s := s7) (show k6 < x0.length from by omega) (cond_f g19 (cond_f g21 (cond_t g23 (rfl)))) hF9) rfl)
   ·have g21 : (((gt x0 k6).Low) != (IntKind.i64.wrap (s7 + 1))) = true := bne_iff_ne.2 h20
    refine CM_condT rfl g21 ?_
    refine sr (wa (nt' (CM_ret (QM_then_ret (QM_block_ret (QM_then_ret (QM_then_ret (QM_block_ret (QM_then_ret ?_)))))))))
    exact rti (h := fin_inl (rng_ret (body := F1) (k := k6) (s := s7) (show k6 < x0.length from by omega) (cond_f g19 (cond_t g21 (rfl))) hF9) rfl)
  ·have g19 : (((gt x0 k6).Field) != s7) = true := bne_iff_ne.2 h18
   refine CM_condT rfl g19 ?_
   refine sr (wa (nt' (CM_ret (QM_then_ret (QM_block_ret (QM_then_ret (QM_then_ret (QM_block_ret (QM_then_ret ?_)))))))))
   exact rti (h := fin_inl (rng_ret (body := F1) (k := k6) (s := s7) (show k6 < x0.length from by omega) (cond_t g19 (rfl)) hF9) rfl)
 ·have g12 := dlF hl11
  refine CM_condF rfl g12 ?_
  refine CM_exit (QM_then_exit (QM_then_exit ?_))
  have hE25 : R2 (x0.length - 0) 0 x1 = Sum.inr s7 := rng_end hl11 hF9
  refine QM_block_hit (QM_then (sr (wm (wa (nt' (CM_ret ?_))))))
  exact rti (h := fin_inr hE25 (rfl))

def laws_heldRowS_b1 (x0 : (List DRow)) (k6 : Nat) (s7 : Int) : Int ⊕ (Int) :=
 cond (((gt x0 k6).Id) != s7) (Sum.inl (-1)) (cond (decide ((laws_heldIntS_m ((gt x0 k6).Values) (IntKind.i64.wrap (s7 + 1))) < 0)) (Sum.inl (-1)) (Sum.inr (laws_heldIntS_m ((gt x0 k6).Values) (IntKind.i64.wrap (s7 + 1)))))
def laws_heldRowS_m (x0 : (List DRow)) (x1 : Int) : Int :=
 Sum.elim id (fun (s : Int) => s) (rng (R := Int) (fun k (s : Int) => laws_heldRowS_b1 x0 k s) (x0.length - 0) 0 x1)
theorem cb98 : Cb Tryz.prog 98 := ⟨f98, _, func98, rfl, by decide⟩
theorem laws_heldRowS_c (w : World) (z0 : Value) (x0 : (List DRow)) (x1 : Int) (r_0 : rdS tyRow w w.heap.size z0 x0) :
  Calls Tryz.prog 98 #[z0, .int .i64 x1] w fun e w' => e = .returned (.int .i64 (laws_heldRowS_m x0 x1)) ∧ Below w.heap.size w w' := by
 obtain ⟨m1, A2, c3, rfl, q4, r5⟩ := rdS_op r_0
 refine ce2 (L := [(0, .slice A2 x0.length c3), (1, .int .i64 x1)]) (N := 31) func98 ?_
 refine sr (wa (nt' (CM_seq (sr (wa (nt' (CM_block ?_)))))))
 let F1 := fun k (s : Int) => laws_heldRowS_b1 x0 k s
 let R2 := rng (R := Int) F1
 refine CM_loop (σ := Nat × (Int) × (Unit)) (fun s => [(0, .slice A2 x0.length c3), (1, .int .i64 s.2.1), (5, .int .i64 ((s.1 : Nat) : Int))]) (fun s => []) (fun s => s.1 ≤ x0.length ∧ R2 (x0.length - s.1) s.1 s.2.1 = R2 (x0.length - 0) 0 x1) (fun s => x0.length - s.1) (0, x1, ()) sl3 (fun W hm => hm) ⟨(by omega), rfl⟩ ?_
 rintro ⟨k6, s7, ⟨⟩⟩ H10
 obtain ⟨hk8, hF9⟩ : k6 ≤ x0.length ∧ R2 (x0.length - k6) k6 s7 = R2 (x0.length - 0) 0 x1 := H10
 show CM Tryz.prog 31 _ _ _ _ [(0, .slice A2 x0.length c3), (1, .int .i64 s7), (5, .int .i64 ((k6 : Nat) : Int))] []
 refine CM_seq (sr (wm (wm ?_)))
 refine wv (vlen underlying35) ?_
 refine wv vlss ?_
 refine nt' ?_
 by_cases hl11 : k6 < x0.length
 ·have g12 := dlT hl11
  refine CM_condT rfl g12 ?_
  refine CM_skip (QM_then (CM_seq (CM_block (CM_seq (sr (wm (wm ?_)))))))
  obtain ⟨a13, rfl, hb14, he15⟩ := q4 (by omega)
  refine wv (vix 2 k6 underlying35 type73) ?_
  refine wv (vf underlying73 rfl type3) ?_
  obtain ⟨_, e19, hc16⟩ := he15 k6 _ (gt_some (show k6 < x0.length from by omega))
  obtain ⟨v17, rfl, r18⟩ := tyRow_rd e19
  obtain ⟨m20, A21, c22, rfl, q23, r24⟩ := rdS_op r18
  refine wv (fun W hm => rv_load underlying3 rfl rfl ((hm.cell0 (show ((a13.add (k6 * 2)).add 0).block < w.heap.size from by rw [add_block, add_block]; exact hb14.1)).trans (hc16 0 _ rfl))) ?_
  refine wm ?_
  refine wv vneq ?_
  refine nt' ?_
  by_cases h25 : ((gt x0 k6).Id) = s7
  ·have g26 : (((gt x0 k6).Id) != s7) = false := by rw [h25]; exact bne_self_eq_false _
   refine CM_condF rfl g26 ?_
   refine CM_skip (QM_then (sr (wm ?_)))
   refine wv vadd ?_
   refine wa (nt' (sr (wm (wm ?_))))
   refine wv (vix 2 k6 underlying35 type73) ?_
   refine wv (vf underlying73 rfl type25) ?_
   refine wv (fun W hm => rv_load underlying25 rfl rfl ((hm.cell0 (show ((a13.add (k6 * 2)).add 1).block < w.heap.size from by rw [add_block, add_block]; exact hb14.1)).trans (hc16 1 _ rfl))) ?_
   refine wm ?_
   refine wcv (cl_fn cb139 rfl) (fun W hm => laws_heldIntS_c W _ ((gt x0 k6).Values) (IntKind.i64.wrap (s7 + 1)) (hm.rdS0 r24)) ?_
   refine wa (nt' (sr (wm ?_)))
   refine wv vlss ?_
   refine nt' ?_
   by_cases h27 : (laws_heldIntS_m ((gt x0 k6).Values) (IntKind.i64.wrap (s7 + 1))) < 0
   ·have g28 := decide_eq_true h27
    refine CM_condT rfl g28 ?_
    refine sr (wa (nt' (CM_ret (QM_block_ret (QM_then_ret (QM_then_ret (QM_block_ret (QM_then_ret ?_))))))))
    exact rti (h := fin_inl (rng_ret (body := F1) (k := k6) (s := s7) (show k6 < x0.length from by omega) (cond_f g26 (cond_t g28 (rfl))) hF9) rfl)
   ·have g28 := decide_eq_false h27
    refine CM_condF rfl g28 ?_
    refine CM_skip (QM_block_normal (QM_then (CM_region (wm ?_))))
    refine wv (vadN k6 1 (by omega)) ?_
    refine wa (WM_nil ?_)
    have hn29 := rng_next (R := Int) (body := F1) (k := k6) (s := s7) (s' := (laws_heldIntS_m ((gt x0 k6).Values) (IntKind.i64.wrap (s7 + 1)))) (show k6 < x0.length from by omega) (cond_f g26 (cond_f g28 (rfl))) hF9
    exact QM_round (k6 + 1, (laws_heldIntS_m ((gt x0 k6).Values) (IntKind.i64.wrap (s7 + 1))), ()) sl3 (fun W hm => hm) ⟨(by omega), hn29⟩ (rl (by omega))
  ·have g26 : (((gt x0 k6).Id) != s7) = true := bne_iff_ne.2 h25
   refine CM_condT rfl g26 ?_
   refine sr (wa (nt' (CM_ret (QM_then_ret (QM_block_ret (QM_then_ret (QM_then_ret (QM_block_ret (QM_then_ret ?_)))))))))
   exact rti (h := fin_inl (rng_ret (body := F1) (k := k6) (s := s7) (show k6 < x0.length from by omega) (cond_t g26 (rfl)) hF9) rfl)
 ·have g12 := dlF hl11
  refine CM_condF rfl g12 ?_
  refine CM_exit (QM_then_exit (QM_then_exit ?_))
  have hE30 : R2 (x0.length - 0) 0 x1 = Sum.inr s7 := rng_end hl11 hF9
  refine QM_block_hit (QM_then (sr (wm (wa (nt' (CM_ret ?_))))))
  exact rti (h := fin_inr hE30 (rfl))

def laws_heldActiveS_b1 (x0 : (List DActive)) (k6 : Nat) (s7 : Int) : Int ⊕ (Int) :=
 cond (((gt x0 k6).Query.Id) != s7) (Sum.inl (-1)) (cond (((gt x0 k6).Query.Tenant) != (IntKind.i64.wrap (s7 + 1))) (Sum.inl (-1)) (cond (decide ((laws_heldCondS_m ((gt x0 k6).Query.Conds) (IntKind.i64.wrap ((IntKind.i64.wrap (s7 + 1)) + 1))) < 0)) (Sum.inl (-1)) (cond (decide ((laws_heldIntS_m ((gt x0 k6).Query.Out) (laws_heldCondS_m ((gt x0 k6).Query.Conds) (IntKind.i64.wrap ((IntKind.i64.wrap (s7 + 1)) + 1)))) < 0)) (Sum.inl (-1)) (cond (((gt x0 k6).Time) != (laws_heldIntS_m ((gt x0 k6).Query.Out) (laws_heldCondS_m ((gt x0 k6).Query.Conds) (IntKind.i64.wrap ((IntKind.i64.wrap (s7 + 1)) + 1))))) (Sum.inl (-1)) (cond (decide ((laws_heldIntS_m ((gt x0 k6).Todo) (IntKind.i64.wrap ((laws_heldIntS_m ((gt x0 k6).Query.Out) (laws_heldCondS_m ((gt x0 k6).Query.Conds) (IntKind.i64.wrap ((IntKind.i64.wrap (s7 + 1)) + 1)))) + 1))) < 0)) (Sum.inl (-1)) (cond (((gt x0 k6).Age) != (laws_heldIntS_m ((gt x0 k6).Todo) (IntKind.i64.wrap ((laws_heldIntS_m ((gt x0 k6).Query.Out) (laws_heldCondS_m ((gt x0 k6).Query.Conds) (IntKind.i64.wrap ((IntKind.i64.wrap (s7 + 1)) + 1)))) + 1)))) (Sum.inl (-1)) (cond (((gt x0 k6).Sent) != (IntKind.i64.wrap ((laws_heldIntS_m ((gt x0 k6).Todo) (IntKind.i64.wrap ((laws_heldIntS_m ((gt x0 k6).Query.Out) (laws_heldCondS_m ((gt x0 k6).Query.Conds) (IntKind.i64.wrap ((IntKind.i64.wrap (s7 + 1)) + 1)))) + 1))) + 1))) (Sum.inl (-1)) (cond (((gt x0 k6).Cap) != (IntKind.i64.wrap ((IntKind.i64.wrap ((laws_heldIntS_m ((gt x0 k6).Todo) (IntKind.i64.wrap ((laws_heldIntS_m ((gt x0 k6).Query.Out) (laws_heldCondS_m ((gt x0 k6).Query.Conds) (IntKind.i64.wrap ((IntKind.i64.wrap (s7 + 1)) + 1)))) + 1))) + 1)) + 1))) (Sum.inl (-1)) (cond (decide ((laws_heldRowS_m ((gt x0 k6).Rows) (IntKind.i64.wrap ((IntKind.i64.wrap ((IntKind.i64.wrap ((laws_heldIntS_m ((gt x0 k6).Todo) (IntKind.i64.wrap ((laws_heldIntS_m ((gt x0 k6).Query.Out) (laws_heldCondS_m ((gt x0 k6).Query.Conds) (IntKind.i64.wrap ((IntKind.i64.wrap (s7 + 1)) + 1)))) + 1))) + 1)) + 1)) + 1))) < 0)) (Sum.inl (-1)) (Sum.inr (laws_heldRowS_m ((gt x0 k6).Rows) (IntKind.i64.wrap ((IntKind.i64.wrap ((IntKind.i64.wrap ((laws_heldIntS_m ((gt x0 k6).Todo) (IntKind.i64.wrap ((laws_heldIntS_m ((gt x0 k6).Query.Out) (laws_heldCondS_m ((gt x0 k6).Query.Conds) (IntKind.i64.wrap ((IntKind.i64.wrap (s7 + 1)) + 1)))) + 1))) + 1)) + 1)) + 1)))))))))))))
def laws_heldActiveS_m (x0 : (List DActive)) (x1 : Int) : Int :=
 Sum.elim id (fun (s : Int) => s) (rng (R := Int) (fun k (s : Int) => laws_heldActiveS_b1 x0 k s) (x0.length - 0) 0 x1)
theorem cb140 : Cb Tryz.prog 140 := ⟨f140, _, func140, rfl, by decide⟩
theorem laws_heldActiveS_c (w : World) (z0 : Value) (x0 : (List DActive)) (x1 : Int) (r_0 : rdS tyActive w w.heap.size z0 x0) :
  Calls Tryz.prog 140 #[z0, .int .i64 x1] w fun e w' => e = .returned (.int .i64 (laws_heldActiveS_m x0 x1)) ∧ Below w.heap.size w w' := by
 obtain ⟨m1, A2, c3, rfl, q4, r5⟩ := rdS_op r_0
 refine ce2 (L := [(0, .slice A2 x0.length c3), (1, .int .i64 x1)]) (N := 107) func140 ?_
 refine sr (wa (nt' (CM_seq (sr (wa (nt' (CM_block ?_)))))))
 let F1 := fun k (s : Int) => laws_heldActiveS_b1 x0 k s
 let R2 := rng (R := Int) F1
 refine CM_loop (σ := Nat × (Int) × (Unit)) (fun s => [(0, .slice A2 x0.length c3), (1, .int .i64 s.2.1), (5, .int .i64 ((s.1 : Nat) : Int))]) (fun s => []) (fun s => s.1 ≤ x0.length ∧ R2 (x0.length - s.1) s.1 s.2.1 = R2 (x0.length - 0) 0 x1) (fun s => x0.length - s.1) (0, x1, ()) sl3 (fun W hm => hm) ⟨(by omega), rfl⟩ ?_
 rintro ⟨k6, s7, ⟨⟩⟩ H10
 obtain ⟨hk8, hF9⟩ : k6 ≤ x0.length ∧ R2 (x0.length - k6) k6 s7 = R2 (x0.length - 0) 0 x1 := H10
 show CM Tryz.prog 107 _ _ _ _ [(0, .slice A2 x0.length c3), (1, .int .i64 s7), (5, .int .i64 ((k6 : Nat) : Int))] []
 refine CM_seq (sr (wm (wm ?_)))
 refine wv (vlen underlying43) ?_
 refine wv vlss ?_
 refine nt' ?_
 by_cases hl11 : k6 < x0.length
 ·have g12 := dlT hl11
  refine CM_condT rfl g12 ?_
  refine CM_skip (QM_then (CM_seq (CM_block (CM_seq (sr (wm (wm ?_)))))))
  obtain ⟨a13, rfl, hb14, he15⟩ := q4 (by omega)
  refine wv (vix 10 k6 underlying43 type64) ?_
  refine wv (vf underlying64 rfl type34) ?_
  refine wv (fun W hm => rv_fieldA (o := 0) underlying34 rfl type3 (by decide) rfl rfl) ?_
  obtain ⟨_, e25, hc16⟩ := he15 k6 _ (gt_some (show k6 < x0.length from by omega))
  obtain ⟨v17, v19, v21, v23, rfl, r18, r20, r22, r24⟩ := tyActive_rd e25
  obtain ⟨m26, A27, c28, rfl, q29, r30⟩ := rdS_op r18
  obtain ⟨m31, A32, c33, rfl, q34, r35⟩ := rdS_op r20
  obtain ⟨m36, A37, c38, rfl, q39, r40⟩ := rdS_op r22
  obtain ⟨m41, A42, c43, rfl, q44, r45⟩ := rdS_op r24
  refine wv (fun W hm => rv_load underlying3 rfl rfl ((hm.cell0 (show ((a13.add (k6 * 10)).add 0).block < w.heap.size from by rw [add_block, add_block]; exact hb14.1)).trans (hc16 0 _ rfl))) ?_
  refine wm ?_
  refine wv vneq ?_
  refine nt' ?_
  by_cases h46 : ((gt x0 k6).Query.Id) = s7
  ·have g47 : (((gt x0 k6).Query.Id) != s7) = false := by rw [h46]; exact bne_self_eq_false _
   refine CM_condF rfl g47 ?_
   refine CM_skip (QM_then (sr (wm ?_)))
   refine wv vadd ?_
   refine wa (nt' (CM_seq (sr (wm (wm ?_)))))
   refine wv (vix 10 k6 underlying43 type64) ?_
   refine wv (vf underlying64 rfl type34) ?_
   refine wv (fun W hm => rv_fieldA (o := 1) underlying34 rfl type3 (by decide) rfl rfl) ?_
   refine wv (fun W hm => rv_load underlying3 rfl rfl ((hm.cell0 (show ((a13.add (k6 * 10)).add 1).block < w.heap.size from by rw [add_block, add_block]; exact hb14.1)).trans (hc16 1 _ rfl))) ?_
   refine wm ?_
   refine wv vneq ?_
   refine nt' ?_
   by_cases h48 : ((gt x0 k6).Query.Tenant) = (IntKind.i64.wrap (s7 + 1))
   ·have g49 : (((gt x0 k6).Query.Tenant) != (IntKind.i64.wrap (s7 + 1))) = false := by rw [h48]; exact bne_self_eq_false _
    refine CM_condF rfl g49 ?_
    refine CM_skip (QM_then (sr (wm ?_)))
    refine wv vadd ?_
    refine wa (nt' (sr (wm (wm ?_))))
    refine wv (vix 10 k6 underlying43 type64) ?_
    refine wv (vf underlying64 rfl type34) ?_
    refine wv (fun W hm => rv_fieldA (o := 2) underlying34 rfl type32 (by decide) rfl rfl) ?_
    refine wv (fun W hm => rv_load underlying32 rfl rfl ((hm.cell0 (show ((a13.add (k6 * 10)).add 2).block < w.heap.size from by rw [add_block, add_block]; exact hb14.1)).trans (hc16 2 _ rfl))) ?_
    refine wm ?_
    refine wcv (cl_fn cb171 rfl) (fun W hm => laws_heldCondS_c W _ ((gt x0 k6).Query.Conds) (IntKind.i64.wrap ((IntKind.i64.wrap (s7 + 1)) + 1)) (hm.rdS0 r30)) ?_
    refine wa (nt' (CM_seq (sr (wm ?_))))
    refine wv vlss ?_
    refine nt' ?_
    by_cases h50 : (laws_heldCondS_m ((gt x0 k6).Query.Conds) (IntKind.i64.wrap ((IntKind.i64.wrap (s7 + 1)) + 1))) < 0
    ·have g51 := decide_eq_true h50
     refine CM_condT rfl g51 ?_
     refine sr (wa (nt' (CM_ret (QM_then_ret (QM_block_ret (QM_then_ret (QM_then_ret (QM_block_ret (QM_then_ret ?_)))))))))
     exact rti (h := fin_inl (rng_ret (body := F1) (k := k6) (s := s7) (show k6 < x0.length from by omega) (cond_f g47 (cond_f g49 (cond_t g51 (rfl)))) hF9) rfl)
    ·have g51 := decide_eq_false h50
     refine CM_condF rfl g51 ?_
     refine CM_skip (QM_then (sr (wm (wm ?_))))
     refine wv (vix 10 k6 underlying43 type64) ?_
     refine wv (vf underlying64 rfl type34) ?_
     refine wv (fun W hm => rv_fieldA (o := 3) underlying34 rfl type25 (by decide) rfl rfl) ?_
     refine wv (fun W hm => rv_load underlying25 rfl rfl ((hm.cell0 (show ((a13.add (k6 * 10)).add 3).block < w.heap.size from by rw [add_block, add_block]; exact hb14.1)).trans (hc16 3 _ rfl))) ?_
     refine wm ?_
     refine wcv (cl_fn cb139 rfl) (fun W hm => laws_heldIntS_c W _ ((gt x0 k6).Query.Out) (laws_heldCondS_m ((gt x0 k6).Query.Conds) (IntKind.i64.wrap ((IntKind.i64.wrap (s7 + 1)) + 1))) (hm.rdS0 r35)) ?_
     refine wa (nt' (CM_seq (sr (wm ?_))))
     refine wv vlss ?_
     refine nt' ?_
     by_cases h52 : (laws_heldIntS_m ((gt x0 k6).Query.Out) (laws_heldCondS_m ((gt x0 k6).Query.Conds) (IntKind.i64.wrap ((IntKind.i64.wrap (s7 + 1)) + 1)))) < 0
     ·have g53 := decide_eq_true h52
      refine CM_condT rfl g53 ?_
      refine sr (wa (nt' (CM_ret (QM_then_ret (QM_block_ret (QM_then_ret (QM_then_ret (QM_block_ret (QM_then_ret ?_)))))))))
      exact rti (h := fin_inl (rng_ret (body := F1) (k := k6) (s := s7) (show k6 < x0.length from by omega) (cond_f g47 (cond_f g49 (cond_f g51 (cond_t g53 (rfl))))) hF9) rfl)
     ·have g53 := decide_eq_false h52
      refine CM_condF rfl g53 ?_
      refine CM_skip (QM_then (CM_seq (sr (wm (wm ?_)))))
      refine wv (vix 10 k6 underlying43 type64) ?_
      refine wv (vf underlying64 rfl type3) ?_
      refine wv (fun W hm => rv_load underlying3 rfl rfl ((hm.cell0 (show ((a13.add (k6 * 10)).add 4).block < w.heap.size from by rw [add_block, add_block]; exact hb14.1)).trans (hc16 4 _ rfl))) ?_
      refine wm ?_
      refine wv vneq ?_
      refine nt' ?_
      by_cases h54 : ((gt x0 k6).Time) = (laws_heldIntS_m ((gt x0 k6).Query.Out) (laws_heldCondS_m ((gt x0 k6).Query.Conds) (IntKind.i64.wrap ((IntKind.i64.wrap (s7 + 1)) + 1))))
      ·have g55 : (((gt x0 k6).Time) != (laws_heldIntS_m ((gt x0 k6).Query.Out) (laws_heldCondS_m ((gt x0 k6).Query.Conds) (IntKind.i64.wrap ((IntKind.i64.wrap (s7 + 1)) + 1))))) = false := by rw [h54]; exact bne_self_eq_false _
       refine CM_condF rfl g55 ?_
       refine CM_skip (QM_then (sr (wm ?_)))
       refine wv vadd ?_
       refine wa (nt' (sr (wm (wm ?_))))
       refine wv (vix 10 k6 underlying43 type64) ?_
       refine wv (vf underlying64 rfl type25) ?_
       refine wv (fun W hm => rv_load underlying25 rfl rfl ((hm.cell0 (show ((a13.add (k6 * 10)).add 5).block < w.heap.size from by rw [add_block, add_block]; exact hb14.1)).trans (hc16 5 _ rfl))) ?_
       refine wm ?_
       refine wcv (cl_fn cb139 rfl) (fun W hm => laws_heldIntS_c W _ ((gt x0 k6).Todo) (IntKind.i64.wrap ((laws_heldIntS_m ((gt x0 k6).Query.Out) (laws_heldCondS_m ((gt x0 k6).Query.Conds) (IntKind.i64.wrap ((IntKind.i64.wrap (s7 + 1)) + 1)))) + 1)) (hm.rdS0 r40)) ?_
       refine wa (nt' (CM_seq (sr (wm ?_))))
       refine wv vlss ?_
       refine nt' ?_
       by_cases h56 : (laws_heldIntS_m ((gt x0 k6).Todo) (IntKind.i64.wrap ((laws_heldIntS_m ((gt x0 k6).Query.Out) (laws_heldCondS_m ((gt x0 k6).Query.Conds) (IntKind.i64.wrap ((IntKind.i64.wrap (s7 + 1)) + 1)))) + 1))) < 0
       ·have g57 := decide_eq_true h56
        refine CM_condT rfl g57 ?_
        refine sr (wa (nt' (CM_ret (QM_then_ret (QM_block_ret (QM_then_ret (QM_then_ret (QM_block_ret (QM_then_ret ?_)))))))))
        exact rti (h := fin_inl (rng_ret (body := F1) (k := k6) (s := s7) (show k6 < x0.length from by omega) (cond_f g47 (cond_f g49 (cond_f g51 (cond_f g53 (cond_f g55 (cond_t g57 (rfl))))))) hF9) rfl)
       ·have g57 := decide_eq_false h56
        refine CM_condF rfl g57 ?_
        refine CM_skip (QM_then (CM_seq (sr (wm (wm ?_)))))
        refine wv (vix 10 k6 underlying43 type64) ?_
        refine wv (vf underlying64 rfl type3) ?_
        refine wv (fun W hm => rv_load underlying3 rfl rfl ((hm.cell0 (show ((a13.add (k6 * 10)).add 6).block < w.heap.size from by rw [add_block, add_block]; exact hb14.1)).trans (hc16 6 _ rfl))) ?_
        refine wm ?_
        refine wv vneq ?_
        refine nt' ?_
        by_cases h58 : ((gt x0 k6).Age) = (laws_heldIntS_m ((gt x0 k6).Todo) (IntKind.i64.wrap ((laws_heldIntS_m ((gt x0 k6).Query.Out) (laws_heldCondS_m ((gt x0 k6).Query.Conds) (IntKind.i64.wrap ((IntKind.i64.wrap (s7 + 1)) + 1)))) + 1)))
        ·have g59 : (((gt x0 k6).Age) != (laws_heldIntS_m ((gt x0 k6).Todo) (IntKind.i64.wrap ((laws_heldIntS_m ((gt x0 k6).Query.Out) (laws_heldCondS_m ((gt x0 k6).Query.Conds) (IntKind.i64.wrap ((IntKind.i64.wrap (s7 + 1)) + 1)))) + 1)))) = false := by rw [h58]; exact bne_self_eq_false _
         refine CM_condF rfl g59 ?_
         refine CM_skip (QM_then (sr (wm ?_)))
         refine wv vadd ?_
         refine wa (nt' (CM_seq (sr (wm (wm ?_)))))
         refine wv (vix 10 k6 underlying43 type64) ?_
         refine wv (vf underlying64 rfl type3) ?_
         refine wv (fun W hm => rv_load underlying3 rfl rfl ((hm.cell0 (show ((a13.add (k6 * 10)).add 7).block < w.heap.size from by rw [add_block, add_block]; exact hb14.1)).trans (hc16 7 _ rfl))) ?_
         refine wm ?_
         refine wv vneq ?_
         refine nt' ?_
         by_cases h60 : ((gt x0 k6).Sent) = (IntKind.i64.wrap ((laws_heldIntS_m ((gt x0 k6).Todo) (IntKind.i64.wrap ((laws_heldIntS_m ((gt x0 k6).Query.Out) (laws_heldCondS_m ((gt x0 k6).Query.Conds) (IntKind.i64.wrap ((IntKind.i64.wrap (s7 + 1)) + 1)))) + 1))) + 1))
         ·have g61 : (((gt x0 k6).Sent) != (IntKind.i64.wrap ((laws_heldIntS_m ((gt x0 k6).Todo) (IntKind.i64.wrap ((laws_heldIntS_m ((gt x0 k6).Query.Out) (laws_heldCondS_m ((gt x0 k6).Query.Conds) (IntKind.i64.wrap ((IntKind.i64.wrap (s7 + 1)) + 1)))) + 1))) + 1))) = false := by rw [h60]; exact bne_self_eq_false _
          refine CM_condF rfl g61 ?_
          refine CM_skip (QM_then (sr (wm ?_)))
          refine wv vadd ?_
          refine wa (nt' (CM_seq (sr (wm (wm ?_)))))
          refine wv (vix 10 k6 underlying43 type64) ?_
          refine wv (vf underlying64 rfl type3) ?_
          refine wv (fun W hm => rv_load underlying3 rfl rfl ((hm.cell0 (show ((a13.add (k6 * 10)).add 8).block < w.heap.size from by rw [add_block, add_block]; exact hb14.1)).trans (hc16 8 _ rfl))) ?_
          refine wm ?_
          refine wv vneq ?_
          refine nt' ?_
          by_cases h62 : ((gt x0 k6).Cap) = (IntKind.i64.wrap ((IntKind.i64.wrap ((laws_heldIntS_m ((gt x0 k6).Todo) (IntKind.i64.wrap ((laws_heldIntS_m ((gt x0 k6).Query.Out) (laws_heldCondS_m ((gt x0 k6).Query.Conds) (IntKind.i64.wrap ((IntKind.i64.wrap (s7 + 1)) + 1)))) + 1))) + 1)) + 1))
          ·have g63 : (((gt x0 k6).Cap) != (IntKind.i64.wrap ((IntKind.i64.wrap ((laws_heldIntS_m ((gt x0 k6).Todo) (IntKind.i64.wrap ((laws_heldIntS_m ((gt x0 k6).Query.Out) (laws_heldCondS_m ((gt x0 k6).Query.Conds) (IntKind.i64.wrap ((IntKind.i64.wrap (s7 + 1)) + 1)))) + 1))) + 1)) + 1))) = false := by rw [h62]; exact bne_self_eq_false _
           refine CM_condF rfl g63 ?_
           refine CM_skip (QM_then (sr (wm ?_)))
           refine wv vadd ?_
           refine wa (nt' (sr (wm (wm ?_))))
           refine wv (vix 10 k6 underlying43 type64) ?_
           refine wv (vf underlying64 rfl type35) ?_
           refine wv (fun W hm => rv_load underlying35 rfl rfl ((hm.cell0 (show ((a13.add (k6 * 10)).add 9).block < w.heap.size from by rw [add_block, add_block]; exact hb14.1)).trans (hc16 9 _ rfl))) ?_
           refine wm ?_
           refine wcv (cl_fn cb98 rfl) (fun W hm => laws_heldRowS_c W _ ((gt x0 k6).Rows) (IntKind.i64.wrap ((IntKind.i64.wrap ((IntKind.i64.wrap ((laws_heldIntS_m ((gt x0 k6).Todo) (IntKind.i64.wrap ((laws_heldIntS_m ((gt x0 k6).Query.Out) (laws_heldCondS_m ((gt x0 k6).Query.Conds) (IntKind.i64.wrap ((IntKind.i64.wrap (s7 + 1)) + 1)))) + 1))) + 1)) + 1)) + 1)) (hm.rdS0 r45)) ?_
           refine wa (nt' (sr (wm ?_)))
           refine wv vlss ?_
           refine nt' ?_
           by_cases h64 : (laws_heldRowS_m ((gt x0 k6).Rows) (IntKind.i64.wrap ((IntKind.i64.wrap ((IntKind.i64.wrap ((laws_heldIntS_m ((gt x0 k6).Todo) (IntKind.i64.wrap ((laws_heldIntS_m ((gt x0 k6).Query.Out) (laws_heldCondS_m ((gt x0 k6).Query.Conds) (IntKind.i64.wrap ((IntKind.i64.wrap (s7 + 1)) + 1)))) + 1))) + 1)) + 1)) + 1))) < 0
           ·have g65 := decide_eq_true h64
            refine CM_condT rfl g65 ?_
            refine sr (wa (nt' (CM_ret (QM_block_ret (QM_then_ret (QM_then_ret (QM_block_ret (QM_then_ret ?_))))))))
            exact rti (h := fin_inl (rng_ret (body := F1) (k := k6) (s := s7) (show k6 < x0.length from by omega) (cond_f g47 (cond_f g49 (cond_f g51 (cond_f g53 (cond_f g55 (cond_f g57 (cond_f g59 (cond_f g61 (cond_f g63 (cond_t g65 (rfl))))))))))) hF9) rfl)
           ·have g65 := decide_eq_false h64
            refine CM_condF rfl g65 ?_
            refine CM_skip (QM_block_normal (QM_then (CM_region (wm ?_))))
            refine wv (vadN k6 1 (by omega)) ?_
            refine wa (WM_nil ?_)
            have hn66 := rng_next (R := Int) (body := F1) (k := k6) (s := s7) (s' := (laws_heldRowS_m ((gt x0 k6).Rows) (IntKind.i64.wrap ((IntKind.i64.wrap ((IntKind.i64.wrap ((laws_heldIntS_m ((gt x0 k6).Todo) (IntKind.i64.wrap ((laws_heldIntS_m ((gt x0 k6).Query.Out) (laws_heldCondS_m ((gt x0 k6).Query.Conds) (IntKind.i64.wrap ((IntKind.i64.wrap (s7 + 1)) + 1)))) + 1))) + 1)) + 1)) + 1)))) (show k6 < x0.length from by omega) (cond_f g47 (cond_f g49 (cond_f g51 (cond_f g53 (cond_f g55 (cond_f g57 (cond_f g59 (cond_f g61 (cond_f g63 (cond_f g65 (rfl))))))))))) hF9
            exact QM_round (k6 + 1, (laws_heldRowS_m ((gt x0 k6).Rows) (IntKind.i64.wrap ((IntKind.i64.wrap ((IntKind.i64.wrap ((laws_heldIntS_m ((gt x0 k6).Todo) (IntKind.i64.wrap ((laws_heldIntS_m ((gt x0 k6).Query.Out) (laws_heldCondS_m ((gt x0 k6).Query.Conds) (IntKind.i64.wrap ((IntKind.i64.wrap (s7 + 1)) + 1)))) + 1))) + 1)) + 1)) + 1))), ()) sl3 (fun W hm => hm) ⟨(by omega), hn66⟩ (rl (by omega))
          ·have g63 : (((gt x0 k6).Cap) != (IntKind.i64.wrap ((IntKind.i64.wrap ((laws_heldIntS_m ((gt x0 k6).Todo) (IntKind.i64.wrap ((laws_heldIntS_m ((gt x0 k6).Query.Out) (laws_heldCondS_m ((gt x0 k6).Query.Conds) (IntKind.i64.wrap ((IntKind.i64.wrap (s7 + 1)) + 1)))) + 1))) + 1)) + 1))) = true := bne_iff_ne.2 h62
           refine CM_condT rfl g63 ?_
           refine sr (wa (nt' (CM_ret (QM_then_ret (QM_block_ret (QM_then_ret (QM_then_ret (QM_block_ret (QM_then_ret ?_)))))))))
           exact rti (h := fin_inl (rng_ret (body := F1) (k := k6) (s := s7) (show k6 < x0.length from by omega) (cond_f g47 (cond_f g49 (cond_f g51 (cond_f g53 (cond_f g55 (cond_f g57 (cond_f g59 (cond_f g61 (cond_t g63 (rfl)))))))))) hF9) rfl)
         ·have g61 : (((gt x0 k6).Sent) != (IntKind.i64.wrap ((laws_heldIntS_m ((gt x0 k6).Todo) (IntKind.i64.wrap ((laws_heldIntS_m ((gt x0 k6).Query.Out) (laws_heldCondS_m ((gt x0 k6).Query.Conds) (IntKind.i64.wrap ((IntKind.i64.wrap (s7 + 1)) + 1)))) + 1))) + 1))) = true := bne_iff_ne.2 h60
          refine CM_condT rfl g61 ?_
          refine sr (wa (nt' (CM_ret (QM_then_ret (QM_block_ret (QM_then_ret (QM_then_ret (QM_block_ret (QM_then_ret ?_)))))))))
          exact rti (h := fin_inl (rng_ret (body := F1) (k := k6) (s := s7) (show k6 < x0.length from by omega) (cond_f g47 (cond_f g49 (cond_f g51 (cond_f g53 (cond_f g55 (cond_f g57 (cond_f g59 (cond_t g61 (rfl))))))))) hF9) rfl)
        ·have g59 : (((gt x0 k6).Age) != (laws_heldIntS_m ((gt x0 k6).Todo) (IntKind.i64.wrap ((laws_heldIntS_m ((gt x0 k6).Query.Out) (laws_heldCondS_m ((gt x0 k6).Query.Conds) (IntKind.i64.wrap ((IntKind.i64.wrap (s7 + 1)) + 1)))) + 1)))) = true := bne_iff_ne.2 h58
         refine CM_condT rfl g59 ?_
         refine sr (wa (nt' (CM_ret (QM_then_ret (QM_block_ret (QM_then_ret (QM_then_ret (QM_block_ret (QM_then_ret ?_)))))))))
         exact rti (h := fin_inl (rng_ret (body := F1) (k := k6) (s := s7) (show k6 < x0.length from by omega) (cond_f g47 (cond_f g49 (cond_f g51 (cond_f g53 (cond_f g55 (cond_f g57 (cond_t g59 (rfl)))))))) hF9) rfl)
      ·have g55 : (((gt x0 k6).Time) != (laws_heldIntS_m ((gt x0 k6).Query.Out) (laws_heldCondS_m ((gt x0 k6).Query.Conds) (IntKind.i64.wrap ((IntKind.i64.wrap (s7 + 1)) + 1))))) = true := bne_iff_ne.2 h54
       refine CM_condT rfl g55 ?_
       refine sr (wa (nt' (CM_ret (QM_then_ret (QM_block_ret (QM_then_ret (QM_then_ret (QM_block_ret (QM_then_ret ?_)))))))))
       exact rti (h := fin_inl (rng_ret (body := F1) (k := k6) (s := s7) (show k6 < x0.length from by omega) (cond_f g47 (cond_f g49 (cond_f g51 (cond_f g53 (cond_t g55 (rfl)))))) hF9) rfl)
   ·have g49 : (((gt x0 k6).Query.Tenant) != (IntKind.i64.wrap (s7 + 1))) = true := bne_iff_ne.2 h48
    refine CM_condT rfl g49 ?_
    refine sr (wa (nt' (CM_ret (QM_then_ret (QM_block_ret (QM_then_ret (QM_then_ret (QM_block_ret (QM_then_ret ?_)))))))))
    exact rti (h := fin_inl (rng_ret (body := F1) (k := k6) (s := s7) (show k6 < x0.length from by omega) (cond_f g47 (cond_t g49 (rfl))) hF9) rfl)
  ·have g47 : (((gt x0 k6).Query.Id) != s7) = true := bne_iff_ne.2 h46
   refine CM_condT rfl g47 ?_
   refine sr (wa (nt' (CM_ret (QM_then_ret (QM_block_ret (QM_then_ret (QM_then_ret (QM_block_ret (QM_then_ret ?_)))))))))
   exact rti (h := fin_inl (rng_ret (body := F1) (k := k6) (s := s7) (show k6 < x0.length from by omega) (cond_t g47 (rfl)) hF9) rfl)
 ·have g12 := dlF hl11
  refine CM_condF rfl g12 ?_
  refine CM_exit (QM_then_exit (QM_then_exit ?_))
  have hE67 : R2 (x0.length - 0) 0 x1 = Sum.inr s7 := rng_end hl11 hF9
  refine QM_block_hit (QM_then (sr (wm (wa (nt' (CM_ret ?_))))))
  exact rti (h := fin_inr hE67 (rfl))

def laws_heldFinishedS_b1 (x0 : (List DFinished)) (k6 : Nat) (s7 : Int) : Int ⊕ (Int) :=
 cond (((gt x0 k6).Query.Id) != s7) (Sum.inl (-1)) (cond (((gt x0 k6).Query.Tenant) != (IntKind.i64.wrap (s7 + 1))) (Sum.inl (-1)) (cond (decide ((laws_heldCondS_m ((gt x0 k6).Query.Conds) (IntKind.i64.wrap ((IntKind.i64.wrap (s7 + 1)) + 1))) < 0)) (Sum.inl (-1)) (cond (decide ((laws_heldIntS_m ((gt x0 k6).Query.Out) (laws_heldCondS_m ((gt x0 k6).Query.Conds) (IntKind.i64.wrap ((IntKind.i64.wrap (s7 + 1)) + 1)))) < 0)) (Sum.inl (-1)) (cond (((gt x0 k6).Time) != (laws_heldIntS_m ((gt x0 k6).Query.Out) (laws_heldCondS_m ((gt x0 k6).Query.Conds) (IntKind.i64.wrap ((IntKind.i64.wrap (s7 + 1)) + 1))))) (Sum.inl (-1)) (cond (((gt x0 k6).Steps) != (IntKind.i64.wrap ((laws_heldIntS_m ((gt x0 k6).Query.Out) (laws_heldCondS_m ((gt x0 k6).Query.Conds) (IntKind.i64.wrap ((IntKind.i64.wrap (s7 + 1)) + 1)))) + 1))) (Sum.inl (-1)) (cond (decide ((laws_heldRowS_m ((gt x0 k6).Rows) (IntKind.i64.wrap ((IntKind.i64.wrap ((laws_heldIntS_m ((gt x0 k6).Query.Out) (laws_heldCondS_m ((gt x0 k6).Query.Conds) (IntKind.i64.wrap ((IntKind.i64.wrap (s7 + 1)) + 1)))) + 1)) + 1))) < 0)) (Sum.inl (-1)) (Sum.inr (laws_heldRowS_m ((gt x0 k6).Rows) (IntKind.i64.wrap ((IntKind.i64.wrap ((laws_heldIntS_m ((gt x0 k6).Query.Out) (laws_heldCondS_m ((gt x0 k6).Query.Conds) (IntKind.i64.wrap ((IntKind.i64.wrap (s7 + 1)) + 1)))) + 1)) + 1))))))))))
def laws_heldFinishedS_m (x0 : (List DFinished)) (x1 : Int) : Int :=
 Sum.elim id (fun (s : Int) => s) (rng (R := Int) (fun k (s : Int) => laws_heldFinishedS_b1 x0 k s) (x0.length - 0) 0 x1)
theorem cb141 : Cb Tryz.prog 141 := ⟨f141, _, func141, rfl, by decide⟩
theorem laws_heldFinishedS_c (w : World) (z0 : Value) (x0 : (List DFinished)) (x1 : Int) (r_0 : rdS tyFinished w w.heap.size z0 x0) :
  Calls Tryz.prog 141 #[z0, .int .i64 x1] w fun e w' => e = .returned (.int .i64 (laws_heldFinishedS_m x0 x1)) ∧ Below w.heap.size w w' := by
 obtain ⟨m1, A2, c3, rfl, q4, r5⟩ := rdS_op r_0
 refine ce2 (L := [(0, .slice A2 x0.length c3), (1, .int .i64 x1)]) (N := 80) func141 ?_
 refine sr (wa (nt' (CM_seq (sr (wa (nt' (CM_block ?_)))))))
 let F1 := fun k (s : Int) => laws_heldFinishedS_b1 x0 k s
 let R2 := rng (R := Int) F1
 refine CM_loop (σ := Nat × (Int) × (Unit)) (fun s => [(0, .slice A2 x0.length c3), (1, .int .i64 s.2.1), (5, .int .i64 ((s.1 : Nat) : Int))]) (fun s => []) (fun s => s.1 ≤ x0.length ∧ R2 (x0.length - s.1) s.1 s.2.1 = R2 (x0.length - 0) 0 x1) (fun s => x0.length - s.1) (0, x1, ()) sl3 (fun W hm => hm) ⟨(by omega), rfl⟩ ?_
 rintro ⟨k6, s7, ⟨⟩⟩ H10
 obtain ⟨hk8, hF9⟩ : k6 ≤ x0.length ∧ R2 (x0.length - k6) k6 s7 = R2 (x0.length - 0) 0 x1 := H10
 show CM Tryz.prog 80 _ _ _ _ [(0, .slice A2 x0.length c3), (1, .int .i64 s7), (5, .int .i64 ((k6 : Nat) : Int))] []
 refine CM_seq (sr (wm (wm ?_)))
 refine wv (vlen underlying44) ?_
 refine wv vlss ?_
 refine nt' ?_
 by_cases hl11 : k6 < x0.length
 ·have g12 := dlT hl11
  refine CM_condT rfl g12 ?_
  refine CM_skip (QM_then (CM_seq (CM_block (CM_seq (sr (wm (wm ?_)))))))
  obtain ⟨a13, rfl, hb14, he15⟩ := q4 (by omega)
  refine wv (vix 7 k6 underlying44 type37) ?_
  refine wv (vf underlying37 rfl type34) ?_
  refine wv (fun W hm => rv_fieldA (o := 0) underlying34 rfl type3 (by decide) rfl rfl) ?_
  obtain ⟨_, e23, hc16⟩ := he15 k6 _ (gt_some (show k6 < x0.length from by omega))
  obtain ⟨v17, v19, v21, rfl, r18, r20, r22⟩ := tyFinished_rd e23
  obtain ⟨m24, A25, c26, rfl, q27, r28⟩ := rdS_op r18
  obtain ⟨m29, A30, c31, rfl, q32, r33⟩ := rdS_op r20
  obtain ⟨m34, A35, c36, rfl, q37, r38⟩ := rdS_op r22
  refine wv (fun W hm => rv_load underlying3 rfl rfl ((hm.cell0 (show ((a13.add (k6 * 7)).add 0).block < w.heap.size from by rw [add_block, add_block]; exact hb14.1)).trans (hc16 0 _ rfl))) ?_
  refine wm ?_
  refine wv vneq ?_
  refine nt' ?_
  by_cases h39 : ((gt x0 k6).Query.Id) = s7
  ·have g40 : (((gt x0 k6).Query.Id) != s7) = false := by rw [h39]; exact bne_self_eq_false _
   refine CM_condF rfl g40 ?_
   refine CM_skip (QM_then (sr (wm ?_)))
   refine wv vadd ?_
   refine wa (nt' (CM_seq (sr (wm (wm ?_)))))
   refine wv (vix 7 k6 underlying44 type37) ?_
   refine wv (vf underlying37 rfl type34) ?_
   refine wv (fun W hm => rv_fieldA (o := 1) underlying34 rfl type3 (by decide) rfl rfl) ?_
   refine wv (fun W hm => rv_load underlying3 rfl rfl ((hm.cell0 (show ((a13.add (k6 * 7)).add 1).block < w.heap.size from by rw [add_block, add_block]; exact hb14.1)).trans (hc16 1 _ rfl))) ?_
   refine wm ?_
   refine wv vneq ?_
   refine nt' ?_
   by_cases h41 : ((gt x0 k6).Query.Tenant) = (IntKind.i64.wrap (s7 + 1))
   ·have g42 : (((gt x0 k6).Query.Tenant) != (IntKind.i64.wrap (s7 + 1))) = false := by rw [h41]; exact bne_self_eq_false _
    refine CM_condF rfl g42 ?_
    refine CM_skip (QM_then (sr (wm ?_)))
    refine wv vadd ?_
    refine wa (nt' (sr (wm (wm ?_))))
    refine wv (vix 7 k6 underlying44 type37) ?_
    refine wv (vf underlying37 rfl type34) ?_
    refine wv (fun W hm => rv_fieldA (o := 2) underlying34 rfl type32 (by decide) rfl rfl) ?_
    refine wv (fun W hm => rv_load underlying32 rfl rfl ((hm.cell0 (show ((a13.add (k6 * 7)).add 2).block < w.heap.size from by rw [add_block, add_block]; exact hb14.1)).trans (hc16 2 _ rfl))) ?_
    refine wm ?_
    refine wcv (cl_fn cb171 rfl) (fun W hm => laws_heldCondS_c W _ ((gt x0 k6).Query.Conds) (IntKind.i64.wrap ((IntKind.i64.wrap (s7 + 1)) + 1)) (hm.rdS0 r28)) ?_
    refine wa (nt' (CM_seq (sr (wm ?_))))
    refine wv vlss ?_
    refine nt' ?_
    by_cases h43 : (laws_heldCondS_m ((gt x0 k6).Query.Conds) (IntKind.i64.wrap ((IntKind.i64.wrap (s7 + 1)) + 1))) < 0
    ·have g44 := decide_eq_true h43
     refine CM_condT rfl g44 ?_
     refine sr (wa (nt' (CM_ret (QM_then_ret (QM_block_ret (QM_then_ret (QM_then_ret (QM_block_ret (QM_then_ret ?_)))))))))
     exact rti (h := fin_inl (rng_ret (body := F1) (k := k6) (s := s7) (show k6 < x0.length from by omega) (cond_f g40 (cond_f g42 (cond_t g44 (rfl)))) hF9) rfl)
    ·have g44 := decide_eq_false h43
     refine CM_condF rfl g44 ?_
     refine CM_skip (QM_then (sr (wm (wm ?_))))
     refine wv (vix 7 k6 underlying44 type37) ?_
     refine wv (vf underlying37 rfl type34) ?_
     refine wv (fun W hm => rv_fieldA (o := 3) underlying34 rfl type25 (by decide) rfl rfl) ?_
     refine wv (fun W hm => rv_load underlying25 rfl rfl ((hm.cell0 (show ((a13.add (k6 * 7)).add 3).block < w.heap.size from by rw [add_block, add_block]; exact hb14.1)).trans (hc16 3 _ rfl))) ?_
     refine wm ?_
     refine wcv (cl_fn cb139 rfl) (fun W hm => laws_heldIntS_c W _ ((gt x0 k6).Query.Out) (laws_heldCondS_m ((gt x0 k6).Query.Conds) (IntKind.i64.wrap ((IntKind.i64.wrap (s7 + 1)) + 1))) (hm.rdS0 r33)) ?_
     refine wa (nt' (CM_seq (sr (wm ?_))))
     refine wv vlss ?_
     refine nt' ?_
     by_cases h45 : (laws_heldIntS_m ((gt x0 k6).Query.Out) (laws_heldCondS_m ((gt x0 k6).Query.Conds) (IntKind.i64.wrap ((IntKind.i64.wrap (s7 + 1)) + 1)))) < 0
     ·have g46 := decide_eq_true h45
      refine CM_condT rfl g46 ?_
      refine sr (wa (nt' (CM_ret (QM_then_ret (QM_block_ret (QM_then_ret (QM_then_ret (QM_block_ret (QM_then_ret ?_)))))))))
      exact rti (h := fin_inl (rng_ret (body := F1) (k := k6) (s := s7) (show k6 < x0.length from by omega) (cond_f g40 (cond_f g42 (cond_f g44 (cond_t g46 (rfl))))) hF9) rfl)
     ·have g46 := decide_eq_false h45
      refine CM_condF rfl g46 ?_
      refine CM_skip (QM_then (CM_seq (sr (wm (wm ?_)))))
      refine wv (vix 7 k6 underlying44 type37) ?_
      refine wv (vf underlying37 rfl type3) ?_
      refine wv (fun W hm => rv_load underlying3 rfl rfl ((hm.cell0 (show ((a13.add (k6 * 7)).add 4).block < w.heap.size from by rw [add_block, add_block]; exact hb14.1)).trans (hc16 4 _ rfl))) ?_
      refine wm ?_
      refine wv vneq ?_
      refine nt' ?_
      by_cases h47 : ((gt x0 k6).Time) = (laws_heldIntS_m ((gt x0 k6).Query.Out) (laws_heldCondS_m ((gt x0 k6).Query.Conds) (IntKind.i64.wrap ((IntKind.i64.wrap (s7 + 1)) + 1))))
      ·have g48 : (((gt x0 k6).Time) != (laws_heldIntS_m ((gt x0 k6).Query.Out) (laws_heldCondS_m ((gt x0 k6).Query.Conds) (IntKind.i64.wrap ((IntKind.i64.wrap (s7 + 1)) + 1))))) = false := by rw [h47]; exact bne_self_eq_false _
       refine CM_condF rfl g48 ?_
       refine CM_skip (QM_then (sr (wm ?_)))
       refine wv vadd ?_
       refine wa (nt' (CM_seq (sr (wm (wm ?_)))))
       refine wv (vix 7 k6 underlying44 type37) ?_
       refine wv (vf underlying37 rfl type3) ?_
       refine wv (fun W hm => rv_load underlying3 rfl rfl ((hm.cell0 (show ((a13.add (k6 * 7)).add 5).block < w.heap.size from by rw [add_block, add_block]; exact hb14.1)).trans (hc16 5 _ rfl))) ?_
       refine wm ?_
       refine wv vneq ?_
       refine nt' ?_
       by_cases h49 : ((gt x0 k6).Steps) = (IntKind.i64.wrap ((laws_heldIntS_m ((gt x0 k6).Query.Out) (laws_heldCondS_m ((gt x0 k6).Query.Conds) (IntKind.i64.wrap ((IntKind.i64.wrap (s7 + 1)) + 1)))) + 1))
       ·have g50 : (((gt x0 k6).Steps) != (IntKind.i64.wrap ((laws_heldIntS_m ((gt x0 k6).Query.Out) (laws_heldCondS_m ((gt x0 k6).Query.Conds) (IntKind.i64.wrap ((IntKind.i64.wrap (s7 + 1)) + 1)))) + 1))) = false := by rw [h49]; exact bne_self_eq_false _
        refine CM_condF rfl g50 ?_
        refine CM_skip (QM_then (sr (wm ?_)))
        refine wv vadd ?_
        refine wa (nt' (sr (wm (wm ?_))))
        refine wv (vix 7 k6 underlying44 type37) ?_
        refine wv (vf underlying37 rfl type35) ?_
        refine wv (fun W hm => rv_load underlying35 rfl rfl ((hm.cell0 (show ((a13.add (k6 * 7)).add 6).block < w.heap.size from by rw [add_block, add_block]; exact hb14.1)).trans (hc16 6 _ rfl))) ?_
        refine wm ?_
        refine wcv (cl_fn cb98 rfl) (fun W hm => laws_heldRowS_c W _ ((gt x0 k6).Rows) (IntKind.i64.wrap ((IntKind.i64.wrap ((laws_heldIntS_m ((gt x0 k6).Query.Out) (laws_heldCondS_m ((gt x0 k6).Query.Conds) (IntKind.i64.wrap ((IntKind.i64.wrap (s7 + 1)) + 1)))) + 1)) + 1)) (hm.rdS0 r38)) ?_
        refine wa (nt' (sr (wm ?_)))
        refine wv vlss ?_
        refine nt' ?_
        by_cases h51 : (laws_heldRowS_m ((gt x0 k6).Rows) (IntKind.i64.wrap ((IntKind.i64.wrap ((laws_heldIntS_m ((gt x0 k6).Query.Out) (laws_heldCondS_m ((gt x0 k6).Query.Conds) (IntKind.i64.wrap ((IntKind.i64.wrap (s7 + 1)) + 1)))) + 1)) + 1))) < 0
        ·have g52 := decide_eq_true h51
         refine CM_condT rfl g52 ?_
         refine sr (wa (nt' (CM_ret (QM_block_ret (QM_then_ret (QM_then_ret (QM_block_ret (QM_then_ret ?_))))))))
         exact rti (h := fin_inl (rng_ret (body := F1) (k := k6) (s := s7) (show k6 < x0.length from by omega) (cond_f g40 (cond_f g42 (cond_f g44 (cond_f g46 (cond_f g48 (cond_f g50 (cond_t g52 (rfl)))))))) hF9) rfl)
        ·have g52 := decide_eq_false h51
         refine CM_condF rfl g52 ?_
         refine CM_skip (QM_block_normal (QM_then (CM_region (wm ?_))))
         refine wv (vadN k6 1 (by omega)) ?_
         refine wa (WM_nil ?_)
         have hn53 := rng_next (R := Int) (body := F1) (k := k6) (s := s7) (s' := (laws_heldRowS_m ((gt x0 k6).Rows) (IntKind.i64.wrap ((IntKind.i64.wrap ((laws_heldIntS_m ((gt x0 k6).Query.Out) (laws_heldCondS_m ((gt x0 k6).Query.Conds) (IntKind.i64.wrap ((IntKind.i64.wrap (s7 + 1)) + 1)))) + 1)) + 1)))) (show k6 < x0.length from by omega) (cond_f g40 (cond_f g42 (cond_f g44 (cond_f g46 (cond_f g48 (cond_f g50 (cond_f g52 (rfl)))))))) hF9
         exact QM_round (k6 + 1, (laws_heldRowS_m ((gt x0 k6).Rows) (IntKind.i64.wrap ((IntKind.i64.wrap ((laws_heldIntS_m ((gt x0 k6).Query.Out) (laws_heldCondS_m ((gt x0 k6).Query.Conds) (IntKind.i64.wrap ((IntKind.i64.wrap (s7 + 1)) + 1)))) + 1)) + 1))), ()) sl3 (fun W hm => hm) ⟨(by omega), hn53⟩ (rl (by omega))
       ·have g50 : (((gt x0 k6).Steps) != (IntKind.i64.wrap ((laws_heldIntS_m ((gt x0 k6).Query.Out) (laws_heldCondS_m ((gt x0 k6).Query.Conds) (IntKind.i64.wrap ((IntKind.i64.wrap (s7 + 1)) + 1)))) + 1))) = true := bne_iff_ne.2 h49
        refine CM_condT rfl g50 ?_
        refine sr (wa (nt' (CM_ret (QM_then_ret (QM_block_ret (QM_then_ret (QM_then_ret (QM_block_ret (QM_then_ret ?_)))))))))
        exact rti (h := fin_inl (rng_ret (body := F1) (k := k6) (s := s7) (show k6 < x0.length from by omega) (cond_f g40 (cond_f g42 (cond_f g44 (cond_f g46 (cond_f g48 (cond_t g50 (rfl))))))) hF9) rfl)
      ·have g48 : (((gt x0 k6).Time) != (laws_heldIntS_m ((gt x0 k6).Query.Out) (laws_heldCondS_m ((gt x0 k6).Query.Conds) (IntKind.i64.wrap ((IntKind.i64.wrap (s7 + 1)) + 1))))) = true := bne_iff_ne.2 h47
       refine CM_condT rfl g48 ?_
       refine sr (wa (nt' (CM_ret (QM_then_ret (QM_block_ret (QM_then_ret (QM_then_ret (QM_block_ret (QM_then_ret ?_)))))))))
       exact rti (h := fin_inl (rng_ret (body := F1) (k := k6) (s := s7) (show k6 < x0.length from by omega) (cond_f g40 (cond_f g42 (cond_f g44 (cond_f g46 (cond_t g48 (rfl)))))) hF9) rfl)
   ·have g42 : (((gt x0 k6).Query.Tenant) != (IntKind.i64.wrap (s7 + 1))) = true := bne_iff_ne.2 h41
    refine CM_condT rfl g42 ?_
    refine sr (wa (nt' (CM_ret (QM_then_ret (QM_block_ret (QM_then_ret (QM_then_ret (QM_block_ret (QM_then_ret ?_)))))))))
    exact rti (h := fin_inl (rng_ret (body := F1) (k := k6) (s := s7) (show k6 < x0.length from by omega) (cond_f g40 (cond_t g42 (rfl))) hF9) rfl)
  ·have g40 : (((gt x0 k6).Query.Id) != s7) = true := bne_iff_ne.2 h39
   refine CM_condT rfl g40 ?_
   refine sr (wa (nt' (CM_ret (QM_then_ret (QM_block_ret (QM_then_ret (QM_then_ret (QM_block_ret (QM_then_ret ?_)))))))))
   exact rti (h := fin_inl (rng_ret (body := F1) (k := k6) (s := s7) (show k6 < x0.length from by omega) (cond_t g40 (rfl)) hF9) rfl)
 ·have g12 := dlF hl11
  refine CM_condF rfl g12 ?_
  refine CM_exit (QM_then_exit (QM_then_exit ?_))
  have hE54 : R2 (x0.length - 0) 0 x1 = Sum.inr s7 := rng_end hl11 hF9
  refine QM_block_hit (QM_then (sr (wm (wa (nt' (CM_ret ?_))))))
  exact rti (h := fin_inr hE54 (rfl))

def laws_heldChargeS_b1 (x0 : (List DCharge)) (k6 : Nat) (s7 : Int) : Int ⊕ (Int) :=
 cond (((gt x0 k6).Segment) != s7) (Sum.inl (-1)) (cond (((gt x0 k6).Base) != (IntKind.i64.wrap (s7 + 1))) (Sum.inl (-1)) (cond (decide ((laws_heldIntS_m ((gt x0 k6).Ids) (IntKind.i64.wrap ((IntKind.i64.wrap (s7 + 1)) + 1))) < 0)) (Sum.inl (-1)) (cond (decide ((laws_heldIntS_m ((gt x0 k6).Tenants) (laws_heldIntS_m ((gt x0 k6).Ids) (IntKind.i64.wrap ((IntKind.i64.wrap (s7 + 1)) + 1)))) < 0)) (Sum.inl (-1)) (cond (decide ((laws_heldIntS_m ((gt x0 k6).Rows) (laws_heldIntS_m ((gt x0 k6).Tenants) (laws_heldIntS_m ((gt x0 k6).Ids) (IntKind.i64.wrap ((IntKind.i64.wrap (s7 + 1)) + 1))))) < 0)) (Sum.inl (-1)) (Sum.inr (laws_heldIntS_m ((gt x0 k6).Rows) (laws_heldIntS_m ((gt x0 k6).Tenants) (laws_heldIntS_m ((gt x0 k6).Ids) (IntKind.i64.wrap ((IntKind.i64.wrap (s7 + 1)) + 1))))))))))
def laws_heldChargeS_m (x0 : (List DCharge)) (x1 : Int) : Int :=
 Sum.elim id (fun (s : Int) => s) (rng (R := Int) (fun k (s : Int) => laws_heldChargeS_b1 x0 k s) (x0.length - 0) 0 x1)
theorem cb142 : Cb Tryz.prog 142 := ⟨f142, _, func142, rfl, by decide⟩
theorem laws_heldChargeS_c (w : World) (z0 : Value) (x0 : (List DCharge)) (x1 : Int) (r_0 : rdS tyCharge w w.heap.size z0 x0) :
  Calls Tryz.prog 142 #[z0, .int .i64 x1] w fun e w' => e = .returned (.int .i64 (laws_heldChargeS_m x0 x1)) ∧ Below w.heap.size w w' := by
 obtain ⟨m1, A2, c3, rfl, q4, r5⟩ := rdS_op r_0
 refine ce2 (L := [(0, .slice A2 x0.length c3), (1, .int .i64 x1)]) (N := 58) func142 ?_
 refine sr (wa (nt' (CM_seq (sr (wa (nt' (CM_block ?_)))))))
 let F1 := fun k (s : Int) => laws_heldChargeS_b1 x0 k s
 let R2 := rng (R := Int) F1
 refine CM_loop (σ := Nat × (Int) × (Unit)) (fun s => [(0, .slice A2 x0.length c3), (1, .int .i64 s.2.1), (5, .int .i64 ((s.1 : Nat) : Int))]) (fun s => []) (fun s => s.1 ≤ x0.length ∧ R2 (x0.length - s.1) s.1 s.2.1 = R2 (x0.length - 0) 0 x1) (fun s => x0.length - s.1) (0, x1, ()) sl3 (fun W hm => hm) ⟨(by omega), rfl⟩ ?_
 rintro ⟨k6, s7, ⟨⟩⟩ H10
 obtain ⟨hk8, hF9⟩ : k6 ≤ x0.length ∧ R2 (x0.length - k6) k6 s7 = R2 (x0.length - 0) 0 x1 := H10
 show CM Tryz.prog 58 _ _ _ _ [(0, .slice A2 x0.length c3), (1, .int .i64 s7), (5, .int .i64 ((k6 : Nat) : Int))] []
 refine CM_seq (sr (wm (wm ?_)))
 refine wv (vlen underlying45) ?_
 refine wv vlss ?_
 refine nt' ?_
 by_cases hl11 : k6 < x0.length
 ·have g12 := dlT hl11
  refine CM_condT rfl g12 ?_
  refine CM_skip (QM_then (CM_seq (CM_block (CM_seq (sr (wm (wm ?_)))))))
  obtain ⟨a13, rfl, hb14, he15⟩ := q4 (by omega)
  refine wv (vix 5 k6 underlying45 type133) ?_
  refine wv (vf underlying133 rfl type3) ?_
  obtain ⟨_, e23, hc16⟩ := he15 k6 _ (gt_some (show k6 < x0.length from by omega))
  obtain ⟨v17, v19, v21, rfl, r18, r20, r22⟩ := tyCharge_rd e23
  obtain ⟨m24, A25, c26, rfl, q27, r28⟩ := rdS_op r18
  obtain ⟨m29, A30, c31, rfl, q32, r33⟩ := rdS_op r20
  obtain ⟨m34, A35, c36, rfl, q37, r38⟩ := rdS_op r22
  refine wv (fun W hm => rv_load underlying3 rfl rfl ((hm.cell0 (show ((a13.add (k6 * 5)).add 0).block < w.heap.size from by rw [add_block, add_block]; exact hb14.1)).trans (hc16 0 _ rfl))) ?_
  refine wm ?_
  refine wv vneq ?_
  refine nt' ?_
  by_cases h39 : ((gt x0 k6).Segment) = s7
  ·have g40 : (((gt x0 k6).Segment) != s7) = false := by rw [h39]; exact bne_self_eq_false _
   refine CM_condF rfl g40 ?_
   refine CM_skip (QM_then (sr (wm ?_)))
   refine wv vadd ?_
   refine wa (nt' (CM_seq (sr (wm (wm ?_)))))
   refine wv (vix 5 k6 underlying45 type133) ?_
   refine wv (vf underlying133 rfl type3) ?_
   refine wv (fun W hm => rv_load underlying3 rfl rfl ((hm.cell0 (show ((a13.add (k6 * 5)).add 1).block < w.heap.size from by rw [add_block, add_block]; exact hb14.1)).trans (hc16 1 _ rfl))) ?_
   refine wm ?_
   refine wv vneq ?_
   refine nt' ?_
   by_cases h41 : ((gt x0 k6).Base) = (IntKind.i64.wrap (s7 + 1))
   ·have g42 : (((gt x0 k6).Base) != (IntKind.i64.wrap (s7 + 1))) = false := by rw [h41]; exact bne_self_eq_false _
    refine CM_condF rfl g42 ?_
    refine CM_skip (QM_then (sr (wm ?_)))
    refine wv vadd ?_
    refine wa (nt' (sr (wm (wm ?_))))
    refine wv (vix 5 k6 underlying45 type133) ?_
    refine wv (vf underlying133 rfl type25) ?_
    refine wv (fun W hm => rv_load underlying25 rfl rfl ((hm.cell0 (show ((a13.add (k6 * 5)).add 2).block < w.heap.size from by rw [add_block, add_block]; exact hb14.1)).trans (hc16 2 _ rfl))) ?_
    refine wm ?_
    refine wcv (cl_fn cb139 rfl) (fun W hm => laws_heldIntS_c W _ ((gt x0 k6).Ids) (IntKind.i64.wrap ((IntKind.i64.wrap (s7 + 1)) + 1)) (hm.rdS0 r28)) ?_
    refine wa (nt' (CM_seq (sr (wm ?_))))
    refine wv vlss ?_
    refine nt' ?_
    by_cases h43 : (laws_heldIntS_m ((gt x0 k6).Ids) (IntKind.i64.wrap ((IntKind.i64.wrap (s7 + 1)) + 1))) < 0
    ·have g44 := decide_eq_true h43
     refine CM_condT rfl g44 ?_
     refine sr (wa (nt' (CM_ret (QM_then_ret (QM_block_ret (QM_then_ret (QM_then_ret (QM_block_ret (QM_then_ret ?_)))))))))
     exact rti (h := fin_inl (rng_ret (body := F1) (k := k6) (s := s7) (show k6 < x0.length from by omega) (cond_f g40 (cond_f g42 (cond_t g44 (rfl)))) hF9) rfl)
    ·have g44 := decide_eq_false h43
     refine CM_condF rfl g44 ?_
     refine CM_skip (QM_then (sr (wm (wm ?_))))
     refine wv (vix 5 k6 underlying45 type133) ?_
     refine wv (vf underlying133 rfl type25) ?_
     refine wv (fun W hm => rv_load underlying25 rfl rfl ((hm.cell0 (show ((a13.add (k6 * 5)).add 3).block < w.heap.size from by rw [add_block, add_block]; exact hb14.1)).trans (hc16 3 _ rfl))) ?_
     refine wm ?_
     refine wcv (cl_fn cb139 rfl) (fun W hm => laws_heldIntS_c W _ ((gt x0 k6).Tenants) (laws_heldIntS_m ((gt x0 k6).Ids) (IntKind.i64.wrap ((IntKind.i64.wrap (s7 + 1)) + 1))) (hm.rdS0 r33)) ?_
     refine wa (nt' (CM_seq (sr (wm ?_))))
     refine wv vlss ?_
     refine nt' ?_
     by_cases h45 : (laws_heldIntS_m ((gt x0 k6).Tenants) (laws_heldIntS_m ((gt x0 k6).Ids) (IntKind.i64.wrap ((IntKind.i64.wrap (s7 + 1)) + 1)))) < 0
     ·have g46 := decide_eq_true h45
      refine CM_condT rfl g46 ?_
      refine sr (wa (nt' (CM_ret (QM_then_ret (QM_block_ret (QM_then_ret (QM_then_ret (QM_block_ret (QM_then_ret ?_)))))))))
      exact rti (h := fin_inl (rng_ret (body := F1) (k := k6) (s := s7) (show k6 < x0.length from by omega) (cond_f g40 (cond_f g42 (cond_f g44 (cond_t g46 (rfl))))) hF9) rfl)
     ·have g46 := decide_eq_false h45
      refine CM_condF rfl g46 ?_
      refine CM_skip (QM_then (sr (wm (wm ?_))))
      refine wv (vix 5 k6 underlying45 type133) ?_
      refine wv (vf underlying133 rfl type25) ?_
      refine wv (fun W hm => rv_load underlying25 rfl rfl ((hm.cell0 (show ((a13.add (k6 * 5)).add 4).block < w.heap.size from by rw [add_block, add_block]; exact hb14.1)).trans (hc16 4 _ rfl))) ?_
      refine wm ?_
      refine wcv (cl_fn cb139 rfl) (fun W hm => laws_heldIntS_c W _ ((gt x0 k6).Rows) (laws_heldIntS_m ((gt x0 k6).Tenants) (laws_heldIntS_m ((gt x0 k6).Ids) (IntKind.i64.wrap ((IntKind.i64.wrap (s7 + 1)) + 1)))) (hm.rdS0 r38)) ?_
      refine wa (nt' (sr (wm ?_)))
      refine wv vlss ?_
      refine nt' ?_
      by_cases h47 : (laws_heldIntS_m ((gt x0 k6).Rows) (laws_heldIntS_m ((gt x0 k6).Tenants) (laws_heldIntS_m ((gt x0 k6).Ids) (IntKind.i64.wrap ((IntKind.i64.wrap (s7 + 1)) + 1))))) < 0
      ·have g48 := decide_eq_true h47
       refine CM_condT rfl g48 ?_
       refine sr (wa (nt' (CM_ret (QM_block_ret (QM_then_ret (QM_then_ret (QM_block_ret (QM_then_ret ?_))))))))
       exact rti (h := fin_inl (rng_ret (body := F1) (k := k6) (s := s7) (show k6 < x0.length from by omega) (cond_f g40 (cond_f g42 (cond_f g44 (cond_f g46 (cond_t g48 (rfl)))))) hF9) rfl)
      ·have g48 := decide_eq_false h47
       refine CM_condF rfl g48 ?_
       refine CM_skip (QM_block_normal (QM_then (CM_region (wm ?_))))
       refine wv (vadN k6 1 (by omega)) ?_
       refine wa (WM_nil ?_)
       have hn49 := rng_next (R := Int) (body := F1) (k := k6) (s := s7) (s' := (laws_heldIntS_m ((gt x0 k6).Rows) (laws_heldIntS_m ((gt x0 k6).Tenants) (laws_heldIntS_m ((gt x0 k6).Ids) (IntKind.i64.wrap ((IntKind.i64.wrap (s7 + 1)) + 1)))))) (show k6 < x0.length from by omega) (cond_f g40 (cond_f g42 (cond_f g44 (cond_f g46 (cond_f g48 (rfl)))))) hF9
       exact QM_round (k6 + 1, (laws_heldIntS_m ((gt x0 k6).Rows) (laws_heldIntS_m ((gt x0 k6).Tenants) (laws_heldIntS_m ((gt x0 k6).Ids) (IntKind.i64.wrap ((IntKind.i64.wrap (s7 + 1)) + 1))))), ()) sl3 (fun W hm => hm) ⟨(by omega), hn49⟩ (rl (by omega))
   ·have g42 : (((gt x0 k6).Base) != (IntKind.i64.wrap (s7 + 1))) = true := bne_iff_ne.2 h41
    refine CM_condT rfl g42 ?_
    refine sr (wa (nt' (CM_ret (QM_then_ret (QM_block_ret (QM_then_ret (QM_then_ret (QM_block_ret (QM_then_ret ?_)))))))))
    exact rti (h := fin_inl (rng_ret (body := F1) (k := k6) (s := s7) (show k6 < x0.length from by omega) (cond_f g40 (cond_t g42 (rfl))) hF9) rfl)
  ·have g40 : (((gt x0 k6).Segment) != s7) = true := bne_iff_ne.2 h39
   refine CM_condT rfl g40 ?_
   refine sr (wa (nt' (CM_ret (QM_then_ret (QM_block_ret (QM_then_ret (QM_then_ret (QM_block_ret (QM_then_ret ?_)))))))))
   exact rti (h := fin_inl (rng_ret (body := F1) (k := k6) (s := s7) (show k6 < x0.length from by omega) (cond_t g40 (rfl)) hF9) rfl)
 ·have g12 := dlF hl11
  refine CM_condF rfl g12 ?_
  refine CM_exit (QM_then_exit (QM_then_exit ?_))
  have hE50 : R2 (x0.length - 0) 0 x1 = Sum.inr s7 := rng_end hl11 hF9
  refine QM_block_hit (QM_then (sr (wm (wa (nt' (CM_ret ?_))))))
  exact rti (h := fin_inr hE50 (rfl))

def laws_heldEngine_m (x0 : DEngine) (x1 : Int) : Int :=
 cond (decide ((laws_heldStore_m x0.Store x1) < 0)) (-1) (cond (decide ((laws_heldIntS_m x0.Order (laws_heldStore_m x0.Store x1)) < 0)) (-1) (cond (decide ((laws_heldActiveS_m x0.Active (laws_heldIntS_m x0.Order (laws_heldStore_m x0.Store x1))) < 0)) (-1) (cond (decide ((laws_heldFinishedS_m x0.Done (laws_heldActiveS_m x0.Active (laws_heldIntS_m x0.Order (laws_heldStore_m x0.Store x1)))) < 0)) (-1) (cond (decide ((laws_heldChargeS_m x0.Ledger (laws_heldFinishedS_m x0.Done (laws_heldActiveS_m x0.Active (laws_heldIntS_m x0.Order (laws_heldStore_m x0.Store x1))))) < 0)) (-1) (laws_heldChargeS_m x0.Ledger (laws_heldFinishedS_m x0.Done (laws_heldActiveS_m x0.Active (laws_heldIntS_m x0.Order (laws_heldStore_m x0.Store x1)))))))))
theorem cb51 : Cb Tryz.prog 51 := ⟨f51, _, func51, rfl, by decide⟩
theorem laws_heldEngine_c (w : World) (z0 : List Value) (x0 : DEngine) (x1 : Int) (r_0 : tyEngine.rd w w.heap.size z0 x0) :
  Calls Tryz.prog 51 #[.agg z0.toArray, .int .i64 x1] w fun e w' => e = .returned (.int .i64 (laws_heldEngine_m x0 x1)) ∧ Below w.heap.size w w' := by
 obtain ⟨v1, v3, v5, v7, v9, rfl, r2, r4, r6, r8, r10⟩ := tyEngine_rd r_0
 obtain ⟨m11, A12, c13, rfl, q14, r15⟩ := rdS_op r2
 obtain ⟨m16, A17, c18, rfl, q19, r20⟩ := rdS_op r4
 obtain ⟨m21, A22, c23, rfl, q24, r25⟩ := rdS_op r6
 obtain ⟨m26, A27, c28, rfl, q29, r30⟩ := rdS_op r8
 obtain ⟨m31, A32, c33, rfl, q34, r35⟩ := rdS_op r10
 refine ce2 (L := [(0, .agg #[.slice A12 x0.Store.Segments.length c13, .int .i64 x0.Store.Now, .int .i64 x0.Cursor, .slice A17 x0.Order.length c18, .slice A22 x0.Active.length c23, .slice A27 x0.Done.length c28, .slice A32 x0.Ledger.length c33, .int .i64 x0.Steps]), (1, .int .i64 x1)]) (N := 36) func51 ?_
 refine sr ?_
 refine WM_box rfl (Wd_none rfl) (by decide) (fun p36 => ?_)
 refine wa (nt' (sr ?_))
 refine wv (vf underlying47 rfl type42) ?_
 refine wv (fun W hm => rv_loadN (cs := [.slice A12 x0.Store.Segments.length c13, .int .i64 x0.Store.Now]) underlying42 type42 rfl rfl (hm.boxPart (n := 0) rfl rfl)) ?_
 refine wm ?_
 refine wcv (cl_fn cb138 rfl) (fun W hm => laws_heldStore_c W _ x0.Store x1 (tyStore_mk (x := x0.Store) (hm.rdS0 r15))) ?_
 refine wa (nt' (CM_seq (sr (wm ?_))))
 refine wv vlss ?_
 refine nt' ?_
 by_cases h37 : (laws_heldStore_m x0.Store x1) < 0
 ·have g38 := decide_eq_true h37
  refine CM_condT rfl g38 ?_
  refine sr (wa (nt' (CM_ret (QM_then_ret ?_))))
  exact rti (h := cond_t g38 (rfl))
 ·have g38 := decide_eq_false h37
  refine CM_condF rfl g38 ?_
  refine CM_skip (QM_then (sr ?_))
  refine wv (vf underlying47 rfl type25) ?_
  refine wv (vl 0 3 underlying25) ?_
  refine wm ?_
  refine wcv (cl_fn cb139 rfl) (fun W hm => laws_heldIntS_c W _ x0.Order (laws_heldStore_m x0.Store x1) (hm.rdS0 r20)) ?_
  refine wa (nt' (CM_seq (sr (wm ?_))))
  refine wv vlss ?_
  refine nt' ?_
  by_cases h39 : (laws_heldIntS_m x0.Order (laws_heldStore_m x0.Store x1)) < 0
  ·have g40 := decide_eq_true h39
   refine CM_condT rfl g40 ?_
   refine sr (wa (nt' (CM_ret (QM_then_ret ?_))))
   exact rti (h := cond_f g38 (cond_t g40 (rfl)))
  ·have g40 := decide_eq_false h39
   refine CM_condF rfl g40 ?_
   refine CM_skip (QM_then (sr ?_))
   refine wv (vf underlying47 rfl type43) ?_
   refine wv (vl 0 4 underlying43) ?_
   refine wm ?_
   refine wcv (cl_fn cb140 rfl) (fun W hm => laws_heldActiveS_c W _ x0.Active (laws_heldIntS_m x0.Order (laws_heldStore_m x0.Store x1)) (hm.rdS0 r25)) ?_
   refine wa (nt' (CM_seq (sr (wm ?_))))
   refine wv vlss ?_
   refine nt' ?_
   by_cases h41 : (laws_heldActiveS_m x0.Active (laws_heldIntS_m x0.Order (laws_heldStore_m x0.Store x1))) < 0
   ·have g42 := decide_eq_true h41
    refine CM_condT rfl g42 ?_
    refine sr (wa (nt' (CM_ret (QM_then_ret ?_))))
    exact rti (h := cond_f g38 (cond_f g40 (cond_t g42 (rfl))))
   ·have g42 := decide_eq_false h41
    refine CM_condF rfl g42 ?_
    refine CM_skip (QM_then (sr ?_))
    refine wv (vf underlying47 rfl type44) ?_
    refine wv (vl 0 5 underlying44) ?_
    refine wm ?_
    refine wcv (cl_fn cb141 rfl) (fun W hm => laws_heldFinishedS_c W _ x0.Done (laws_heldActiveS_m x0.Active (laws_heldIntS_m x0.Order (laws_heldStore_m x0.Store x1))) (hm.rdS0 r30)) ?_
    refine wa (nt' (CM_seq (sr (wm ?_))))
    refine wv vlss ?_
    refine nt' ?_
    by_cases h43 : (laws_heldFinishedS_m x0.Done (laws_heldActiveS_m x0.Active (laws_heldIntS_m x0.Order (laws_heldStore_m x0.Store x1)))) < 0
    ·have g44 := decide_eq_true h43
     refine CM_condT rfl g44 ?_
     refine sr (wa (nt' (CM_ret (QM_then_ret ?_))))
     exact rti (h := cond_f g38 (cond_f g40 (cond_f g42 (cond_t g44 (rfl)))))
    ·have g44 := decide_eq_false h43
     refine CM_condF rfl g44 ?_
     refine CM_skip (QM_then (sr ?_))
     refine wv (vf underlying47 rfl type45) ?_
     refine wv (vl 0 6 underlying45) ?_
     refine wm ?_
     refine wcv (cl_fn cb142 rfl) (fun W hm => laws_heldChargeS_c W _ x0.Ledger (laws_heldFinishedS_m x0.Done (laws_heldActiveS_m x0.Active (laws_heldIntS_m x0.Order (laws_heldStore_m x0.Store x1)))) (hm.rdS0 r35)) ?_
     refine wa (nt' (CM_seq (sr (wm ?_))))
     refine wv vlss ?_
     refine nt' ?_
     by_cases h45 : (laws_heldChargeS_m x0.Ledger (laws_heldFinishedS_m x0.Done (laws_heldActiveS_m x0.Active (laws_heldIntS_m x0.Order (laws_heldStore_m x0.Store x1))))) < 0
     ·have g46 := decide_eq_true h45
      refine CM_condT rfl g46 ?_
      refine sr (wa (nt' (CM_ret (QM_then_ret ?_))))
      exact rti (h := cond_f g38 (cond_f g40 (cond_f g42 (cond_f g44 (cond_t g46 (rfl))))))
     ·have g46 := decide_eq_false h45
      refine CM_condF rfl g46 ?_
      refine CM_skip (QM_then (sr (wm (wa (nt' (CM_ret ?_))))))
      exact rti (h := cond_f g38 (cond_f g40 (cond_f g42 (cond_f g44 (cond_f g46 (rfl))))))

end Go.Proofs.YtmikmbmdibabmaaGreat
