/-
  Contracts of functions, printed by a program of ours.
-/
import Derived.Test.YtmikmbmdibabmaaGreatL7F1
namespace Go.Proofs.YtmikmbmdibabmaaGreat
open Go.RowKit
set_option maxRecDepth 100000
set_option maxHeartbeats 4000000
open _root_.Go.Proofs.Tryz
abbrev spec_l9Copy_v1 (x0 : DEngine) (k61 : Nat) (d64 : (List DActive)) : (List DActive) :=
 (d64 ++ [(⟨((gt x0.Active k61).Query), (gt x0.Active k61).Time, (gt x0.Active k61).Todo, (gt x0.Active k61).Age, (gt x0.Active k61).Sent, (gt x0.Active k61).Cap, ((gt x0.Active k61).Rows)⟩ : DActive)])
def spec_l9Copy_b3 (x0 : DEngine) (k208 : Nat) (d211 : (List DCharge)) : DEngine ⊕ ((List DCharge)) :=
 Sum.inr (d211 ++ [(gt x0.Ledger k208)])
def spec_l9Copy_b2 (x0 : DEngine) (k142 : Nat) (d145 : (List DFinished)) : DEngine ⊕ ((List DFinished)) :=
 Sum.inr (d145 ++ [(⟨((gt x0.Done k142).Query), (gt x0.Done k142).Time, (gt x0.Done k142).Steps, ((gt x0.Done k142).Rows)⟩ : DFinished)])
def spec_l9Copy_b1 (x0 : DEngine) (k61 : Nat) (d64 : (List DActive)) : DEngine ⊕ ((List DActive)) :=
 Sum.inr (spec_l9Copy_v1 x0 k61 d64)
def spec_l9Copy_m (x0 : DEngine) : DEngine :=
 Sum.elim id (fun (s1_ : (List DActive)) => Sum.elim id (fun (s2_ : (List DFinished)) => Sum.elim id (fun (s : (List DCharge)) => (⟨x0.Store, x0.Cursor, x0.Order, s1_, s2_, s, x0.Steps⟩ : DEngine)) (rng (R := DEngine) (fun k (s : (List DCharge)) => spec_l9Copy_b3 x0 k s) (x0.Ledger.length - 0) 0 [])) (rng (R := DEngine) (fun k (s : (List DFinished)) => spec_l9Copy_b2 x0 k s) (x0.Done.length - 0) 0 [])) (rng (R := DEngine) (fun k (s : (List DActive)) => spec_l9Copy_b1 x0 k s) (x0.Active.length - 0) 0 [])
theorem cb81 : Cb Tryz.prog 81 := ⟨f81, _, func81, rfl, by decide⟩
theorem spec_l9Copy_c (w : World) (z0 : List Value) (x0 : DEngine) (r_0 : tyEngine.rd w w.heap.size z0 x0) (s_0 : smEngine 68719476736 x0) :
  Calls Tryz.prog 81 #[.agg z0.toArray] w fun e w' => ∃ v : List Value, e = .returned (.agg v.toArray) ∧ Mem w.heap.size w [iOwn tyEngine v (spec_l9Copy_m x0)] w' := by
 obtain ⟨v1, v3, v5, v7, v9, rfl, r2, r4, r6, r8, r10⟩ := tyEngine_rd r_0
 obtain ⟨m11, A12, c13, rfl, q14, r15⟩ := rdS_op r2
 obtain ⟨m16, A17, c18, rfl, q19, r20⟩ := rdS_op r4
 obtain ⟨m21, A22, c23, rfl, q24, r25⟩ := rdS_op r6
 obtain ⟨m26, A27, c28, rfl, q29, r30⟩ := rdS_op r8
 obtain ⟨m31, A32, c33, rfl, q34, r35⟩ := rdS_op r10
 have l36 : x0.Store.Segments.length ≤ 68719476736 := s_0.1.1
 have l37 : x0.Order.length ≤ 68719476736 := s_0.2.1
 have l38 : x0.Active.length ≤ 68719476736 := s_0.2.2.1.1
 have l39 : x0.Done.length ≤ 68719476736 := s_0.2.2.2.1.1
 have l40 : x0.Ledger.length ≤ 68719476736 := s_0.2.2.2.2.1
 refine ce1 (L := [(0, .agg #[.slice A12 x0.Store.Segments.length c13, .int .i64 x0.Store.Now, .int .i64 x0.Cursor, .slice A17 x0.Order.length c18, .slice A22 x0.Active.length c23, .slice A27 x0.Done.length c28, .slice A32 x0.Ledger.length c33, .int .i64 x0.Steps])]) (N := 97) func81 ?_
 refine sr ?_
 refine WM_box rfl (Wd_none rfl) (by decide) (fun p41 => ?_)
 refine WM_alloc type47 rfl (Wd_none rfl) (by decide) (fun p42 => ?_)
 refine nt' (CM_seq ?_)
 let K7 : List Value := [.slice none 0 0, .int .i64 0, .int .i64 0, .slice none 0 0, .slice none 0 0, .slice none 0 0, .slice none 0 0, .int .i64 0]
 let K8 : List Value := [.slice A12 x0.Store.Segments.length c13, .int .i64 x0.Store.Now, .int .i64 x0.Cursor, .slice A17 x0.Order.length c18, .slice A22 x0.Active.length c23, .slice A27 x0.Done.length c28, .slice A32 x0.Ledger.length c33, .int .i64 x0.Steps]
 refine rd2 14 [13] (s := [iBox p42 47 K7, iBox p41 47 K8]) (s2 := [iBox p42 47 K7, iBox p41 47 K8]) (fun W hm => hm) (fun W hm => hm) ?_
 refine QD_mid (σ := Option Addr × Nat × Option Addr × Nat × Nat) (fun s => [iBox p42 47 K7, iBox p41 47 K8]) 14 8191 1 (fun s => [(1, .pointer (some (⟨p41, 0, none⟩ : Addr))), (2, .pointer (some (⟨p42, 0, none⟩ : Addr))), (20, .agg #[.slice s.1 x0.Store.Segments.length s.2.1, .int .i64 x0.Store.Now, .int .i64 x0.Cursor, .slice s.2.2.1 x0.Order.length s.2.2.2.1, .slice none 0 0, .slice none 0 0, .slice none 0 0, .int .i64 x0.Steps]), (3, .pointer (some (⟨s.2.2.2.2, 0, none⟩ : Addr)))]) (fun s => [iBox s.2.2.2.2 47 K7, iOwn (tSl tInt 3) [.slice s.2.2.1 x0.Order.length s.2.2.2.1] x0.Order, iOwn (tSl (tSl tyVersion 191) 131) [.slice s.1 x0.Store.Segments.length s.2.1] x0.Store.Segments, iBox p42 47 K7, iBox p41 47 K8]) ?_ (fun H => ?_)
 ·
  rintro ⟨A45, c46, A52, c53, p56⟩
  let I22 : It := iOwn (tSl tInt 3) [.slice A52 x0.Order.length c53] x0.Order
  let I23 : It := iOwn (tSl (tSl tyVersion 191) 131) [.slice A45 x0.Store.Segments.length c46] x0.Store.Segments
  show QD _ _ _ _ _ _ _ _ [(1, .pointer (some (⟨p41, 0, none⟩ : Addr))), (2, .pointer (some (⟨p42, 0, none⟩ : Addr))), (20, .agg #[.slice A45 x0.Store.Segments.length c46, .int .i64 x0.Store.Now, .int .i64 x0.Cursor, .slice A52 x0.Order.length c53, .slice none 0 0, .slice none 0 0, .slice none 0 0, .int .i64 x0.Steps]), (3, .pointer (some (⟨p56, 0, none⟩ : Addr)))] _ [iBox p42 47 K7, iBox p41 47 K8] _ [iBox p56 47 K7, I22, I23, iBox p42 47 K7, iBox p41 47 K8]
  refine QD_len (n := 1) rfl ?_
  intro m57 m58
  refine QD_len (n := 2) rfl ?_
  intro m59 m60
  refine qoD 14 13 16383 rfl ?_
  refine sb 0 [.slice A45 x0.Store.Segments.length c46, .int .i64 x0.Store.Now, .int .i64 x0.Cursor, .slice A52 x0.Order.length c53, .slice none 0 0, .slice none 0 0, .slice none 0 0, .int .i64 x0.Steps] [I22, I23, iBox p42 47 K7, iBox p41 47 K8] (fun W hm => hm) type47 ?_
  refine qxD (pk [3, 4]) ?_
  refine QB_done (by kernel_rfl) ?_
  refine QM_then (CM_seq (sr (wa (nt' (CM_block ?_)))))
  refine CM_items (fun W hm => (hm.addNil (E := tyActive) (e := 64)).last) ?_
  let F1 := fun k (s : (List DActive)) => spec_l9Copy_b1 x0 k s
  let R4 := rng (R := DEngine) F1
  refine CM_loop (σ := Nat × ((List DActive)) × (Option Addr × Nat)) (fun s => [(1, .pointer (some (⟨p41, 0, none⟩ : Addr))), (2, .pointer (some (⟨p42, 0, none⟩ : Addr))), (3, .pointer (some (⟨p56, 0, none⟩ : Addr))), (4, .int .i64 ((s.1 : Nat) : Int))]) (fun s => [iBox p56 47 [.slice A45 x0.Store.Segments.length c46, .int .i64 x0.Store.Now, .int .i64 x0.Cursor, .slice A52 x0.Order.length c53, .slice s.2.2.1 s.2.1.length s.2.2.2, .slice none 0 0, .slice none 0 0, .int .i64 x0.Steps], I22, I23, iBox p42 47 K7, iBox p41 47 K8, iOwn (tSl tyActive 64) [.slice s.2.2.1 s.2.1.length s.2.2.2] s.2.1]) (fun s => s.1 ≤ x0.Active.length ∧ R4 (x0.Active.length - s.1) s.1 s.2.1 = R4 (x0.Active.length - 0) 0 [] ∧ s.2.1.length ≤ 0 + s.1) (fun s => x0.Active.length - s.1) (0, [], (none, 0)) sl4 (fun W hm => hm) ⟨(by omega), rfl, Nat.le_refl _⟩ ?_
  rintro ⟨k61, d64, ⟨A65, c66⟩⟩ H69
  obtain ⟨hk67, hF68, hi70⟩ : k61 ≤ x0.Active.length ∧ R4 (x0.Active.length - k61) k61 d64 = R4 (x0.Active.length - 0) 0 [] ∧ d64.length ≤ 0 + k61 := H69
  let K9 : List Value := [.slice A45 x0.Store.Segments.length c46, .int .i64 x0.Store.Now, .int .i64 x0.Cursor, .slice A52 x0.Order.length c53, .slice A65 d64.length c66, .slice none 0 0, .slice none 0 0, .int .i64 x0.Steps]
  let I24 : It := iOwn (tSl tyActive 64) [.slice A65 d64.length c66] d64
  show CM Tryz.prog 97 _ _ _ _ [(1, .pointer (some (⟨p41, 0, none⟩ : Addr))), (2, .pointer (some (⟨p42, 0, none⟩ : Addr))), (3, .pointer (some (⟨p56, 0, none⟩ : Addr))), (4, .int .i64 ((k61 : Nat) : Int))] [iBox p56 47 K9, I22, I23, iBox p42 47 K7, iBox p41 47 K8, I24]
  refine CM_seq (sr (wm ?_))
  refine wv (vf underlying47 rfl type43) ?_
  refine wv (vl 4 4 underlying43) ?_
  refine wv (vlen underlying43) ?_
  refine wv vlss ?_
  refine nt' ?_
  by_cases hl71 : k61 < x0.Active.length
  ·have g72 := dlT hl71
   refine CM_condT rfl g72 ?_
   refine CM_skip (QM_then (CM_seq (CM_block (sr ?_))))
   refine wv (vf underlying47 rfl type43) ?_
   refine wv (vl 4 4 underlying43) ?_
   refine wm ?_
   obtain ⟨a73, rfl, hb74, he75⟩ := q24 (by omega)
   refine wv (vix 10 k61 underlying43 type64) ?_
   obtain ⟨_, e85, hc76⟩ := he75 k61 _ (gt_some (show k61 < x0.Active.length from by omega))
   obtain ⟨v77, v79, v81, v83, rfl, r78, r80, r82, r84⟩ := tyActive_rd e85
   have l86 : ((gt x0.Active k61).Query.Conds).length ≤ 68719476736 := (s_0.2.2.1.2 _ (gt_mem (show k61 < x0.Active.length from by omega))).1.1
   have l87 : ((gt x0.Active k61).Query.Out).length ≤ 68719476736 := (s_0.2.2.1.2 _ (gt_mem (show k61 < x0.Active.length from by omega))).1.2
   have l88 : ((gt x0.Active k61).Todo).length ≤ 68719476736 := (s_0.2.2.1.2 _ (gt_mem (show k61 < x0.Active.length from by omega))).2.1
   have l89 : ((gt x0.Active k61).Rows).length ≤ 68719476736 := (s_0.2.2.1.2 _ (gt_mem (show k61 < x0.Active.length from by omega))).2.2.1
   obtain ⟨m90, A91, c92, rfl, q93, r94⟩ := rdS_op r78
   obtain ⟨m95, A96, c97, rfl, q98, r99⟩ := rdS_op r80
   obtain ⟨m100, A101, c102, rfl, q103, r104⟩ := rdS_op r82
   obtain ⟨m105, A106, c107, rfl, q108, r109⟩ := rdS_op r84
   let K10 : List Value := [.int .i64 ((gt x0.Active k61).Query.Id), .int .i64 ((gt x0.Active k61).Query.Tenant), .slice A91 ((gt x0.Active k61).Query.Conds).length c92, .slice A96 ((gt x0.Active k61).Query.Out).length c97, .int .i64 ((gt x0.Active k61).Time), .slice A101 ((gt x0.Active k61).Todo).length c102, .int .i64 ((gt x0.Active k61).Age), .int .i64 ((gt x0.Active k61).Sent), .int .i64 ((gt x0.Active k61).Cap), .slice A106 ((gt x0.Active k61).Rows).length c107]
   refine wv (fun W hm => rv_loadN (cs := K10) underlying64 type64 rfl rfl (hm.elCells (show (a73.add (k61 * 10)).block < w.heap.size from by rw [add_block]; exact hb74.1) hc76)) ?_
   refine WM_alloc type64 rfl (Wd_none rfl) (by decide) (fun p110 => ?_)
   let K11 : List Value := [.slice A12 x0.Store.Segments.length c13, .int .i64 x0.Store.Now, .int .i64 x0.Cursor, .slice A17 x0.Order.length c18, .slice (some a73) x0.Active.length c23, .slice A27 x0.Done.length c28, .slice A32 x0.Ledger.length c33, .int .i64 x0.Steps]
   refine sb 0 K10 [iBox p56 47 K9, I22, I23, iBox p42 47 K7, iBox p41 47 K11, I24] (fun W hm => hm) type64 ?_
   refine nt' (sr ?_)
   refine wv (vf underlying64 rfl type34) ?_
   refine wv (fun W hm => rv_loadN (cs := [.int .i64 ((gt x0.Active k61).Query.Id), .int .i64 ((gt x0.Active k61).Query.Tenant), .slice A91 ((gt x0.Active k61).Query.Conds).length c92, .slice A96 ((gt x0.Active k61).Query.Out).length c97]) underlying34 type34 rfl rfl (hm.boxPart (n := 0) rfl rfl)) ?_
   refine wcs tyQuery ((gt x0.Active k61).Query) (cl_fn cb129 rfl) (fun W hm => spec_l6Query_c2 W _ ((gt x0.Active k61).Query) (tyQuery_mk (x := ((gt x0.Active k61).Query)) (hm.rdS0 r94) (hm.rdS0 r99)) (s_0.2.2.1.2 _ (gt_mem (show k61 < x0.Active.length from by omega))).1) (fun z111 => ?_)
   refine tyQuery_sp ?_
   rintro ⟨v112, v113⟩ rfl
   refine WM_form (n := 0) rfl ?_
   rintro A114 c115 rfl m116
   refine WM_form (n := 1) rfl ?_
   rintro A118 c119 rfl m120
   refine wv (vf underlying64 rfl type34) ?_
   let K12 : List Value := [.int .i64 (((gt x0.Active k61).Query).Id), .int .i64 (((gt x0.Active k61).Query).Tenant), .slice A114 (((gt x0.Active k61).Query).Conds).length c115, .slice A118 (((gt x0.Active k61).Query).Out).length c119, .int .i64 ((gt x0.Active k61).Time), .slice A101 ((gt x0.Active k61).Todo).length c102, .int .i64 ((gt x0.Active k61).Age), .int .i64 ((gt x0.Active k61).Sent), .int .i64 ((gt x0.Active k61).Cap), .slice A106 ((gt x0.Active k61).Rows).length c107]
   let K13 : List Value := [.slice A114 (((gt x0.Active k61).Query).Conds).length c115]
   let I25 : It := iOwn (tSl tyCond 201) K13 (((gt x0.Active k61).Query).Conds)
   let I26 : It := iOwn (tSl tInt 3) [.slice A118 (((gt x0.Active k61).Query).Out).length c119] (((gt x0.Active k61).Query).Out)
   refine sb 0 K12 [I25, I26, iBox p56 47 K9, I22, I23, iBox p42 47 K7, iBox p41 47 K11, I24] (pk [2, 0, 1, 3, 4, 5, 6, 7, 8]) type34 ?_
   refine nt' (sr ?_)
   refine WM_build0 (E := tInt) underlying25 type3 (Wd_none rfl) (by decide) (fun p122 => ?_)
   refine wv (vf underlying64 rfl type25) ?_
   refine wv (vl 1 5 underlying25) ?_
   refine apR tInt tInt 3 (.slice (some ⟨p122, 0, none⟩) 0 0) [] ((gt x0.Active k61).Todo) [iBox p110 64 K12, I25, I26, iBox p56 47 K9, I22, I23, iBox p42 47 K7, iBox p41 47 K11, I24] (fun W hm => hm) (fun W hm => src_flat flat_int (hm.rdS0 r104)) underlying25 type3 (show (0 + ((gt x0.Active k61).Todo).length) * 8 ≤ 140737488355328 from by omega) (fun v124 => ?_)
   refine WM_form (n := 0) rfl ?_
   rintro A125 c126 rfl m127
   refine wv (vf underlying64 rfl type25) ?_
   let I27 : It := iOwn (tSl tInt 3) [.slice A125 ((gt x0.Active k61).Todo).length c126] ((gt x0.Active k61).Todo)
   refine sb 5 [.int .i64 (((gt x0.Active k61).Query).Id), .int .i64 (((gt x0.Active k61).Query).Tenant), .slice A114 (((gt x0.Active k61).Query).Conds).length c115, .slice A118 (((gt x0.Active k61).Query).Out).length c119, .int .i64 ((gt x0.Active k61).Time), .slice A125 ((gt x0.Active k61).Todo).length c126, .int .i64 ((gt x0.Active k61).Age), .int .i64 ((gt x0.Active k61).Sent), .int .i64 ((gt x0.Active k61).Cap), .slice A106 ((gt x0.Active k61).Rows).length c107] [I27, I25, I26, iBox p56 47 K9, I22, I23, iBox p42 47 K7, iBox p41 47 K11, I24] (pk [1, 0, 2, 3, 4, 5, 6, 7, 8, 9]) type25 ?_
   refine nt' (sr ?_)
   refine wv (vf underlying64 rfl type35) ?_
   refine wv (vl 0 9 underlying35) ?_
   refine wcl (tSl tyRow 73) ((gt x0.Active k61).Rows) (cl_fn cb160 rfl) (fun W hm => spec_l9Rows_c2 W _ ((gt x0.Active k61).Rows) (hm.rdS0 r109) (s_0.2.2.1.2 _ (gt_mem (show k61 < x0.Active.length from by omega))).2.2) (fun z129 => ?_)
   refine WM_form (n := 0) rfl ?_
   rintro A130 c131 rfl m132
   refine wv (vf underlying64 rfl type35) ?_
   let K14 : List Value := [.int .i64 (((gt x0.Active k61).Query).Id), .int .i64 (((gt x0.Active k61).Query).Tenant), .slice A114 (((gt x0.Active k61).Query).Conds).length c115, .slice A118 (((gt x0.Active k61).Query).Out).length c119, .int .i64 ((gt x0.Active k61).Time), .slice A125 ((gt x0.Active k61).Todo).length c126, .int .i64 ((gt x0.Active k61).Age), .int .i64 ((gt x0.Active k61).Sent), .int .i64 ((gt x0.Active k61).Cap), .slice A130 ((gt x0.Active k61).Rows).length c131]
   let I28 : It := iOwn (tSl tyRow 73) [.slice A130 ((gt x0.Active k61).Rows).length c131] ((gt x0.Active k61).Rows)
   refine sb 9 K14 [I28, I27, I25, I26, iBox p56 47 K9, I22, I23, iBox p42 47 K7, iBox p41 47 K11, I24] (pk [1, 0, 2, 3, 4, 5, 6, 7, 8, 9, 10]) type35 ?_
   refine nt' (CM_region ?_)
   refine wv (vf underlying47 rfl type43) ?_
   refine wv (vl 5 4 underlying43) ?_
   refine wv (fun W hm => rv_loadN (cs := K14) underlying64 type64 rfl rfl (hm.boxCells (n := 0) rfl)) ?_
   refine WM_build (cs := K14) underlying43 type64 rfl (by decide) (by decide) rfl (by kernel_rfl) (Wd_none rfl) (by decide) (fun p134 => ?_)
   refine ap1 tyActive 64 (.slice A65 d64.length c66) d64 (⟨((gt x0.Active k61).Query), (gt x0.Active k61).Time, (gt x0.Active k61).Todo, (gt x0.Active k61).Age, (gt x0.Active k61).Sent, (gt x0.Active k61).Cap, ((gt x0.Active k61).Rows)⟩ : DActive) [I25, I26, I27, I28] [iBox p110 64 K14, iBox p56 47 K9, I22, I23, iBox p42 47 K7, iBox p41 47 K11] K14 (pk [0, 11, 4, 5, 3, 2, 1, 6, 7, 8, 9, 10]) (fun _ _ hs => Els.single (tyActive_join (x := (⟨((gt x0.Active k61).Query), (gt x0.Active k61).Time, (gt x0.Active k61).Todo, (gt x0.Active k61).Age, (gt x0.Active k61).Sent, (gt x0.Active k61).Cap, ((gt x0.Active k61).Rows)⟩ : DActive)) hs)) underlying43 type64 (show (d64.length + 1) * 144 ≤ 140737488355328 from by omega) (fun v135 => ?_)
   refine WM_form (n := 0) rfl ?_
   rintro A136 c137 rfl m138
   refine wv (vf underlying47 rfl type43) ?_
   refine sb 4 [.slice A45 x0.Store.Segments.length c46, .int .i64 x0.Store.Now, .int .i64 x0.Cursor, .slice A52 x0.Order.length c53, .slice A136 (spec_l9Copy_v1 x0 k61 d64).length c137, .slice none 0 0, .slice none 0 0, .int .i64 x0.Steps] [iOwn (tSl tyActive 64) [.slice A136 (spec_l9Copy_v1 x0 k61 d64).length c137] (spec_l9Copy_v1 x0 k61 d64), iBox p110 64 K14, I22, I23, iBox p42 47 K7, iBox p41 47 K11] (pk [2, 0, 1, 3, 4, 5, 6]) type43 ?_
   refine WM_nil (QM_block_normal (QM_then (CM_region (wm ?_))))
   refine wv (vadN k61 1 (by omega)) ?_
   refine wa (WM_nil ?_)
   have hn140 := rng_next (R := DEngine) (body := F1) (k := k61) (s := d64) (s' := (spec_l9Copy_v1 x0 k61 d64)) (show k61 < x0.Active.length from by omega) (rfl) hF68
   exact QM_round (k61 + 1, (spec_l9Copy_v1 x0 k61 d64), (A136, c137)) sl4 (pk [0, 3, 4, 5, 6, 1]) ⟨(by omega), hn140, (show (spec_l9Copy_v1 x0 k61 d64).length ≤ 0 + (k61 + 1) from by first | omega | (simp only [List.length_append, List.length_cons, List.length_nil] at *; omega))⟩ (rl (by omega))
  ·have g72 := dlF hl71
   refine CM_condF rfl g72 ?_
   refine CM_exit (QM_then_exit (QM_then_exit ?_))
   have hE141 : R4 (x0.Active.length - 0) 0 [] = Sum.inr d64 := rng_end hl71 hF68
   refine QM_block_hit (QM_then (CM_seq (sr (wa (nt' (CM_block ?_))))))
   refine CM_items (fun W hm => (hm.addNil (E := tyFinished) (e := 37)).last) ?_
   let F2 := fun k (s : (List DFinished)) => spec_l9Copy_b2 x0 k s
   let R5 := rng (R := DEngine) F2
   refine CM_loop (σ := Nat × ((List DFinished)) × (Option Addr × Nat)) (fun s => [(1, .pointer (some (⟨p41, 0, none⟩ : Addr))), (2, .pointer (some (⟨p42, 0, none⟩ : Addr))), (3, .pointer (some (⟨p56, 0, none⟩ : Addr))), (6, .int .i64 ((s.1 : Nat) : Int))]) (fun s => [iBox p56 47 [.slice A45 x0.Store.Segments.length c46, .int .i64 x0.Store.Now, .int .i64 x0.Cursor, .slice A52 x0.Order.length c53, .slice A65 d64.length c66, .slice s.2.2.1 s.2.1.length s.2.2.2, .slice none 0 0, .int .i64 x0.Steps], I22, I23, iBox p42 47 K7, iBox p41 47 K8, I24, iOwn (tSl tyFinished 37) [.slice s.2.2.1 s.2.1.length s.2.2.2] s.2.1]) (fun s => s.1 ≤ x0.Done.length ∧ R5 (x0.Done.length - s.1) s.1 s.2.1 = R5 (x0.Done.length - 0) 0 [] ∧ s.2.1.length ≤ 0 + s.1) (fun s => x0.Done.length - s.1) (0, [], (none, 0)) sl4 (fun W hm => hm) ⟨(by omega), rfl, Nat.le_refl _⟩ ?_
   rintro ⟨k142, d145, ⟨A146, c147⟩⟩ H150
   obtain ⟨hk148, hF149, hi151⟩ : k142 ≤ x0.Done.length ∧ R5 (x0.Done.length - k142) k142 d145 = R5 (x0.Done.length - 0) 0 [] ∧ d145.length ≤ 0 + k142 := H150
   let K15 : List Value := [.slice A45 x0.Store.Segments.length c46, .int .i64 x0.Store.Now, .int .i64 x0.Cursor, .slice A52 x0.Order.length c53, .slice A65 d64.length c66, .slice A146 d145.length c147, .slice none 0 0, .int .i64 x0.Steps]
   let I29 : It := iOwn (tSl tyFinished 37) [.slice A146 d145.length c147] d145
   show CM Tryz.prog 97 _ _ _ _ [(1, .pointer (some (⟨p41, 0, none⟩ : Addr))), (2, .pointer (some (⟨p42, 0, none⟩ : Addr))), (3, .pointer (some (⟨p56, 0, none⟩ : Addr))), (6, .int .i64 ((k142 : Nat) : Int))] [iBox p56 47 K15, I22, I23, iBox p42 47 K7, iBox p41 47 K8, I24, I29]
   refine CM_seq (sr (wm ?_))
   refine wv (vf underlying47 rfl type44) ?_
   refine wv (vl 4 5 underlying44) ?_
   refine wv (vlen underlying44) ?_
   refine wv vlss ?_
   refine nt' ?_
   by_cases hl152 : k142 < x0.Done.length
   ·have g153 := dlT hl152
    refine CM_condT rfl g153 ?_
    refine CM_skip (QM_then (CM_seq (CM_block (sr ?_))))
    refine wv (vf underlying47 rfl type44) ?_
    refine wv (vl 4 5 underlying44) ?_
    refine wm ?_
    obtain ⟨a154, rfl, hb155, he156⟩ := q29 (by omega)
    refine wv (vix 7 k142 underlying44 type37) ?_
    obtain ⟨_, e164, hc157⟩ := he156 k142 _ (gt_some (show k142 < x0.Done.length from by omega))
    obtain ⟨v158, v160, v162, rfl, r159, r161, r163⟩ := tyFinished_rd e164
    have l165 : ((gt x0.Done k142).Query.Conds).length ≤ 68719476736 := (s_0.2.2.2.1.2 _ (gt_mem (show k142 < x0.Done.length from by omega))).1.1
    have l166 : ((gt x0.Done k142).Query.Out).length ≤ 68719476736 := (s_0.2.2.2.1.2 _ (gt_mem (show k142 < x0.Done.length from by omega))).1.2
    have l167 : ((gt x0.Done k142).Rows).length ≤ 68719476736 := (s_0.2.2.2.1.2 _ (gt_mem (show k142 < x0.Done.length from by omega))).2.1
    obtain ⟨m168, A169, c170, rfl, q171, r172⟩ := rdS_op r159
    obtain ⟨m173, A174, c175, rfl, q176, r177⟩ := rdS_op r161
    obtain ⟨m178, A179, c180, rfl, q181, r182⟩ := rdS_op r163
    let K16 : List Value := [.int .i64 ((gt x0.Done k142).Query.Id), .int .i64 ((gt x0.Done k142).Query.Tenant), .slice A169 ((gt x0.Done k142).Query.Conds).length c170, .slice A174 ((gt x0.Done k142).Query.Out).length c175, .int .i64 ((gt x0.Done k142).Time), .int .i64 ((gt x0.Done k142).Steps), .slice A179 ((gt x0.Done k142).Rows).length c180]
    refine wv (fun W hm => rv_loadN (cs := K16) underlying37 type37 rfl rfl (hm.elCells (show (a154.add (k142 * 7)).block < w.heap.size from by rw [add_block]; exact hb155.1) hc157)) ?_
    refine WM_alloc type37 rfl (Wd_none rfl) (by decide) (fun p183 => ?_)
    let K17 : List Value := [.slice A12 x0.Store.Segments.length c13, .int .i64 x0.Store.Now, .int .i64 x0.Cursor, .slice A17 x0.Order.length c18, .slice A22 x0.Active.length c23, .slice (some a154) x0.Done.length c28, .slice A32 x0.Ledger.length c33, .int .i64 x0.Steps]
    refine sb 0 K16 [iBox p56 47 K15, I22, I23, iBox p42 47 K7, iBox p41 47 K17, I24, I29] (fun W hm => hm) type37 ?_
    refine nt' (sr ?_)
    refine wv (vf underlying37 rfl type34) ?_
    refine wv (fun W hm => rv_loadN (cs := [.int .i64 ((gt x0.Done k142).Query.Id), .int .i64 ((gt x0.Done k142).Query.Tenant), .slice A169 ((gt x0.Done k142).Query.Conds).length c170, .slice A174 ((gt x0.Done k142).Query.Out).length c175]) underlying34 type34 rfl rfl (hm.boxPart (n := 0) rfl rfl)) ?_
    refine wcs tyQuery ((gt x0.Done k142).Query) (cl_fn cb129 rfl) (fun W hm => spec_l6Query_c2 W _ ((gt x0.Done k142).Query) (tyQuery_mk (x := ((gt x0.Done k142).Query)) (hm.rdS0 r172) (hm.rdS0 r177)) (s_0.2.2.2.1.2 _ (gt_mem (show k142 < x0.Done.length from by omega))).1) (fun z184 => ?_)
    refine tyQuery_sp ?_
    rintro ⟨v185, v186⟩ rfl
    refine WM_form (n := 0) rfl ?_
    rintro A187 c188 rfl m189
    refine WM_form (n := 1) rfl ?_
    rintro A191 c192 rfl m193
    refine wv (vf underlying37 rfl type34) ?_
    let I30 : It := iOwn (tSl tyCond 201) [.slice A187 (((gt x0.Done k142).Query).Conds).length c188] (((gt x0.Done k142).Query).Conds)
    let I31 : It := iOwn (tSl tInt 3) [.slice A191 (((gt x0.Done k142).Query).Out).length c192] (((gt x0.Done k142).Query).Out)
    refine sb 0 [.int .i64 (((gt x0.Done k142).Query).Id), .int .i64 (((gt x0.Done k142).Query).Tenant), .slice A187 (((gt x0.Done k142).Query).Conds).length c188, .slice A191 (((gt x0.Done k142).Query).Out).length c192, .int .i64 ((gt x0.Done k142).Time), .int .i64 ((gt x0.Done k142).Steps), .slice A179 ((gt x0.Done k142).Rows).length c180] [I30, I31, iBox p56 47 K15, I22, I23, iBox p42 47 K7, iBox p41 47 K17, I24, I29] (pk [2, 0, 1, 3, 4, 5, 6, 7, 8, 9]) type34 ?_
    refine nt' (sr ?_)
    refine wv (vf underlying37 rfl type35) ?_
    refine wv (vl 0 6 underlying35) ?_
    refine wcl (tSl tyRow 73) ((gt x0.Done k142).Rows) (cl_fn cb160 rfl) (fun W hm => spec_l9Rows_c2 W _ ((gt x0.Done k142).Rows) (hm.rdS0 r182) (s_0.2.2.2.1.2 _ (gt_mem (show k142 < x0.Done.length from by omega))).2) (fun z195 => ?_)
    refine WM_form (n := 0) rfl ?_
    rintro A196 c197 rfl m198
    refine wv (vf underlying37 rfl type35) ?_
    let K18 : List Value := [.int .i64 (((gt x0.Done k142).Query).Id), .int .i64 (((gt x0.Done k142).Query).Tenant), .slice A187 (((gt x0.Done k142).Query).Conds).length c188, .slice A191 (((gt x0.Done k142).Query).Out).length c192, .int .i64 ((gt x0.Done k142).Time), .int .i64 ((gt x0.Done k142).Steps), .slice A196 ((gt x0.Done k142).Rows).length c197]
    let I32 : It := iOwn (tSl tyRow 73) [.slice A196 ((gt x0.Done k142).Rows).length c197] ((gt x0.Done k142).Rows)
    refine sb 6 K18 [I32, I30, I31, iBox p56 47 K15, I22, I23, iBox p42 47 K7, iBox p41 47 K17, I24, I29] (pk [1, 0, 2, 3, 4, 5, 6, 7, 8, 9, 10]) type35 ?_
    refine nt' (CM_region ?_)
    refine wv (vf underlying47 rfl type44) ?_
    refine wv (vl 4 5 underlying44) ?_
    refine wv (fun W hm => rv_loadN (cs := K18) underlying37 type37 rfl rfl (hm.boxCells (n := 0) rfl)) ?_
    refine WM_build (cs := K18) underlying44 type37 rfl (by decide) (by decide) rfl (by kernel_rfl) (Wd_none rfl) (by decide) (fun p200 => ?_)
    refine ap1 tyFinished 37 (.slice A146 d145.length c147) d145 (⟨((gt x0.Done k142).Query), (gt x0.Done k142).Time, (gt x0.Done k142).Steps, ((gt x0.Done k142).Rows)⟩ : DFinished) [I30, I31, I32] [iBox p183 37 K18, iBox p56 47 K15, I22, I23, iBox p42 47 K7, iBox p41 47 K17, I24] K18 (pk [0, 11, 3, 4, 2, 1, 5, 6, 7, 8, 9, 10]) (fun _ _ hs => Els.single (tyFinished_join (x := (⟨((gt x0.Done k142).Query), (gt x0.Done k142).Time, (gt x0.Done k142).Steps, ((gt x0.Done k142).Rows)⟩ : DFinished)) hs)) underlying44 type37 (show (d145.length + 1) * 104 ≤ 140737488355328 from by omega) (fun v201 => ?_)
    refine WM_form (n := 0) rfl ?_
    rintro A202 c203 rfl m204
    refine wv (vf underlying47 rfl type44) ?_
    refine sb 5 [.slice A45 x0.Store.Segments.length c46, .int .i64 x0.Store.Now, .int .i64 x0.Cursor, .slice A52 x0.Order.length c53, .slice A65 d64.length c66, .slice A202 (d145 ++ [(⟨((gt x0.Done k142).Query), (gt x0.Done k142).Time, (gt x0.Done k142).Steps, ((gt x0.Done k142).Rows)⟩ : DFinished)]).length c203, .slice none 0 0, .int .i64 x0.Steps] [iOwn (tSl tyFinished 37) [.slice A202 (d145 ++ [(⟨((gt x0.Done k142).Query), (gt x0.Done k142).Time, (gt x0.Done k142).Steps, ((gt x0.Done k142).Rows)⟩ : DFinished)]).length c203] (d145 ++ [(⟨((gt x0.Done k142).Query), (gt x0.Done k142).Time, (gt x0.Done k142).Steps, ((gt x0.Done k142).Rows)⟩ : DFinished)]), iBox p183 37 K18, I22, I23, iBox p42 47 K7, iBox p41 47 K17, I24] (pk [2, 0, 1, 3, 4, 5, 6, 7]) type44 ?_
    refine WM_nil (QM_block_normal (QM_then (CM_region (wm ?_))))
    refine wv (vadN k142 1 (by omega)) ?_
    refine wa (WM_nil ?_)
    have hn206 := rng_next (R := DEngine) (body := F2) (k := k142) (s := d145) (s' := (d145 ++ [(⟨((gt x0.Done k142).Query), (gt x0.Done k142).Time, (gt x0.Done k142).Steps, ((gt x0.Done k142).Rows)⟩ : DFinished)])) (show k142 < x0.Done.length from by omega) (rfl) hF149
    exact QM_round (k142 + 1, (d145 ++ [(⟨((gt x0.Done k142).Query), (gt x0.Done k142).Time, (gt x0.Done k142).Steps, ((gt x0.Done k142).Rows)⟩ : DFinished)]), (A202, c203)) sl4 (pk [0, 3, 4, 5, 6, 7, 1]) ⟨(by omega), hn206, (show (d145 ++ [(⟨((gt x0.Done k142).Query), (gt x0.Done k142).Time, (gt x0.Done k142).Steps, ((gt x0.Done k142).Rows)⟩ : DFinished)]).length ≤ 0 + (k142 + 1) from by first | omega | (simp only [List.length_append, List.length_cons, List.length_nil] at *; omega))⟩ (rl (by omega))
   ·have g153 := dlF hl152
    refine CM_condF rfl g153 ?_
    refine CM_exit (QM_then_exit (QM_then_exit ?_))
    have hE207 : R5 (x0.Done.length - 0) 0 [] = Sum.inr d145 := rng_end hl152 hF149
    refine QM_block_hit (QM_then (CM_seq (sr (wa (nt' (CM_block ?_))))))
    refine CM_items (fun W hm => (hm.addNil (E := tyCharge) (e := 133)).last) ?_
    let F3 := fun k (s : (List DCharge)) => spec_l9Copy_b3 x0 k s
    let R6 := rng (R := DEngine) F3
    refine CM_loop (σ := Nat × ((List DCharge)) × (Option Addr × Nat)) (fun s => [(1, .pointer (some (⟨p41, 0, none⟩ : Addr))), (2, .pointer (some (⟨p42, 0, none⟩ : Addr))), (3, .pointer (some (⟨p56, 0, none⟩ : Addr))), (8, .int .i64 ((s.1 : Nat) : Int))]) (fun s => [iBox p56 47 [.slice A45 x0.Store.Segments.length c46, .int .i64 x0.Store.Now, .int .i64 x0.Cursor, .slice A52 x0.Order.length c53, .slice A65 d64.length c66, .slice A146 d145.length c147, .slice s.2.2.1 s.2.1.length s.2.2.2, .int .i64 x0.Steps], I22, I23, iBox p42 47 K7, iBox p41 47 K8, I24, I29, iOwn (tSl tyCharge 133) [.slice s.2.2.1 s.2.1.length s.2.2.2] s.2.1]) (fun s => s.1 ≤ x0.Ledger.length ∧ R6 (x0.Ledger.length - s.1) s.1 s.2.1 = R6 (x0.Ledger.length - 0) 0 [] ∧ s.2.1.length ≤ 0 + s.1) (fun s => x0.Ledger.length - s.1) (0, [], (none, 0)) sl4 (fun W hm => hm) ⟨(by omega), rfl, Nat.le_refl _⟩ ?_
    rintro ⟨k208, d211, ⟨A212, c213⟩⟩ H216
    obtain ⟨hk214, hF215, hi217⟩ : k208 ≤ x0.Ledger.length ∧ R6 (x0.Ledger.length - k208) k208 d211 = R6 (x0.Ledger.length - 0) 0 [] ∧ d211.length ≤ 0 + k208 := H216
    let K19 : List Value := [.slice A45 x0.Store.Segments.length c46, .int .i64 x0.Store.Now, .int .i64 x0.Cursor, .slice A52 x0.Order.length c53, .slice A65 d64.length c66, .slice A146 d145.length c147, .slice A212 d211.length c213, .int .i64 x0.Steps]
    let I33 : It := iOwn (tSl tyCharge 133) [.slice A212 d211.length c213] d211
    show CM Tryz.prog 97 _ _ _ _ [(1, .pointer (some (⟨p41, 0, none⟩ : Addr))), (2, .pointer (some (⟨p42, 0, none⟩ : Addr))), (3, .pointer (some (⟨p56, 0, none⟩ : Addr))), (8, .int .i64 ((k208 : Nat) : Int))] [iBox p56 47 K19, I22, I23, iBox p42 47 K7, iBox p41 47 K8, I24, I29, I33]
    refine CM_seq (sr (wm ?_))
    refine wv (vf underlying47 rfl type45) ?_
    refine wv (vl 4 6 underlying45) ?_
    refine wv (vlen underlying45) ?_
    refine wv vlss ?_
    refine nt' ?_
    by_cases hl218 : k208 < x0.Ledger.length
    ·have g219 := dlT hl218
     refine CM_condT rfl g219 ?_
     refine CM_skip (QM_then (CM_seq (CM_block ?_)))
     refine rd2 12 [11] (s := [I22, I23, iBox p42 47 K7, I24, I29]) (s2 := [iBox p56 47 K19, I22, I23, iBox p42 47 K7, iBox p41 47 K8, I24, I29]) (pk [1, 2, 3, 5, 6]) (pk [0, 1, 2, 3, 4, 5, 6]) ?_
     refine qtD 12 0 1 rfl (vf underlying47 rfl type45) ?_
     refine qtD 12 1 3 rfl (vl 0 6 underlying45) ?_
     refine qtD 12 2 7 rfl (vf underlying47 rfl type45) ?_
     refine qtD 12 3 15 rfl (vl 4 6 underlying45) ?_
     refine qtD 12 4 31 rfl vmv ?_
     obtain ⟨a220, rfl, hb221, he222⟩ := q34 (by omega)
     refine qtD 12 5 63 rfl (vix 5 k208 underlying45 type133) ?_
     obtain ⟨_, e230, hc223⟩ := he222 k208 _ (gt_some (show k208 < x0.Ledger.length from by omega))
     obtain ⟨v224, v226, v228, rfl, r225, r227, r229⟩ := tyCharge_rd e230
     have l231 : ((gt x0.Ledger k208).Ids).length ≤ 68719476736 := (s_0.2.2.2.2.2 _ (gt_mem (show k208 < x0.Ledger.length from by omega))).1
     have l232 : ((gt x0.Ledger k208).Tenants).length ≤ 68719476736 := (s_0.2.2.2.2.2 _ (gt_mem (show k208 < x0.Ledger.length from by omega))).2.1
     have l233 : ((gt x0.Ledger k208).Rows).length ≤ 68719476736 := (s_0.2.2.2.2.2 _ (gt_mem (show k208 < x0.Ledger.length from by omega))).2.2
     obtain ⟨m234, A235, c236, rfl, q237, r238⟩ := rdS_op r225
     obtain ⟨m239, A240, c241, rfl, q242, r243⟩ := rdS_op r227
     obtain ⟨m244, A245, c246, rfl, q247, r248⟩ := rdS_op r229
     refine qtD 12 6 127 rfl (fun W hm => rv_loadN (cs := [.int .i64 ((gt x0.Ledger k208).Segment), .int .i64 ((gt x0.Ledger k208).Base), .slice A235 ((gt x0.Ledger k208).Ids).length c236, .slice A240 ((gt x0.Ledger k208).Tenants).length c241, .slice A245 ((gt x0.Ledger k208).Rows).length c246]) underlying133 type133 rfl rfl (hm.elCells (show (a220.add (k208 * 5)).block < w.heap.size from by rw [add_block]; exact hb221.1) hc223)) ?_
     refine qoD 12 7 255 rfl ?_
     refine wcs tyCharge (gt x0.Ledger k208) (cl_fn cb161 rfl) (fun W hm => spec_l10Copy_c2 W _ (gt x0.Ledger k208) (tyCharge_mk (x := (gt x0.Ledger k208)) (hm.rdS0 r238) (hm.rdS0 r243) (hm.rdS0 r248)) (s_0.2.2.2.2.2 _ (gt_mem (show k208 < x0.Ledger.length from by omega)))) (fun z249 => ?_)
     refine tyCharge_sp ?_
     rintro ⟨v250, v251, v252⟩ rfl
     refine WM_form (n := 0) rfl ?_
     rintro A253 c254 rfl m255
     refine WM_form (n := 1) rfl ?_
     rintro A257 c258 rfl m259
     refine WM_form (n := 2) rfl ?_
     rintro A261 c262 rfl m263
     refine qnD (pk [4, 5, 6, 8, 9]) (pk [3, 4, 5, 6, 7, 8, 9]) ?_
     refine qoD 12 8 511 rfl ?_
     let K20 : List Value := [.int .i64 ((gt x0.Ledger k208).Segment), .int .i64 ((gt x0.Ledger k208).Base), .slice A253 ((gt x0.Ledger k208).Ids).length c254, .slice A257 ((gt x0.Ledger k208).Tenants).length c258, .slice A261 ((gt x0.Ledger k208).Rows).length c262]
     refine WM_build (cs := K20) underlying45 type133 rfl (by decide) (by decide) rfl (by kernel_rfl) (Wd_none rfl) (by decide) (fun p265 => ?_)
     refine qnD (pk [5, 6, 7, 9, 10]) (pk [4, 5, 6, 7, 8, 9, 10]) ?_
     refine qoD 12 9 1023 rfl ?_
     let K21 : List Value := [.slice A12 x0.Store.Segments.length c13, .int .i64 x0.Store.Now, .int .i64 x0.Cursor, .slice A17 x0.Order.length c18, .slice A22 x0.Active.length c23, .slice A27 x0.Done.length c28, .slice (some a220) x0.Ledger.length c33, .int .i64 x0.Steps]
     refine ap1 tyCharge 133 (.slice A212 d211.length c213) d211 (gt x0.Ledger k208) [iOwn (tSl tInt 3) [.slice A253 ((gt x0.Ledger k208).Ids).length c254] ((gt x0.Ledger k208).Ids), iOwn (tSl tInt 3) [.slice A257 ((gt x0.Ledger k208).Tenants).length c258] ((gt x0.Ledger k208).Tenants), iOwn (tSl tInt 3) [.slice A261 ((gt x0.Ledger k208).Rows).length c262] ((gt x0.Ledger k208).Rows)] [iBox p56 47 K19, I22, I23, iBox p42 47 K7, iBox p41 47 K21, I24, I29] K20 (pk [0, 11, 1, 2, 3, 4, 5, 6, 7, 8, 9, 10]) (fun _ _ hs => Els.single (tyCharge_join (x := (gt x0.Ledger k208)) hs)) underlying45 type133 (show (d211.length + 1) * 88 ≤ 140737488355328 from by omega) (fun v266 => ?_)
     refine WM_form (n := 0) rfl ?_
     rintro A267 c268 rfl m269
     refine qnD (pk [2, 3, 4, 6, 7]) (pk [1, 2, 3, 4, 5, 6, 7]) ?_
     refine qtD 12 10 2047 rfl (vf underlying47 rfl type45) ?_
     refine qoD 12 11 4095 rfl ?_
     refine sb 6 [.slice A45 x0.Store.Segments.length c46, .int .i64 x0.Store.Now, .int .i64 x0.Cursor, .slice A52 x0.Order.length c53, .slice A65 d64.length c66, .slice A146 d145.length c147, .slice A267 (d211 ++ [(gt x0.Ledger k208)]).length c268, .int .i64 x0.Steps] [iOwn (tSl tyCharge 133) [.slice A267 (d211 ++ [(gt x0.Ledger k208)]).length c268] (d211 ++ [(gt x0.Ledger k208)]), I22, I23, iBox p42 47 K7, iBox p41 47 K21, I24, I29] (pk [1, 0, 2, 3, 4, 5, 6, 7]) type45 ?_
     refine qxD (pk [2, 3, 4, 6, 7]) ?_
     refine QB_done (by kernel_rfl) ?_
     refine QM_block_normal (QM_then (CM_region (wm ?_)))
     refine wv (vadN k208 1 (by omega)) ?_
     refine wa (WM_nil ?_)
     have hn271 := rng_next (R := DEngine) (body := F3) (k := k208) (s := d211) (s' := (d211 ++ [(gt x0.Ledger k208)])) (show k208 < x0.Ledger.length from by omega) (rfl) hF215
     exact QM_round (k208 + 1, (d211 ++ [(gt x0.Ledger k208)]), (A267, c268)) sl4 (pk [0, 2, 3, 4, 5, 6, 7, 1]) ⟨(by omega), hn271, (show (d211 ++ [(gt x0.Ledger k208)]).length ≤ 0 + (k208 + 1) from by first | omega | (simp only [List.length_append, List.length_cons, List.length_nil] at *; omega))⟩ (rl (by omega))
    ·have g219 := dlF hl218
     refine CM_condF rfl g219 ?_
     refine CM_exit (QM_then_exit (QM_then_exit ?_))
     have hE272 : R6 (x0.Ledger.length - 0) 0 [] = Sum.inr d211 := rng_end hl218 hF215
     refine QM_block_hit (QM_then (sr ?_))
     refine wv (fun W hm => rv_loadN (cs := K19) underlying47 type47 rfl rfl (hm.boxCells (n := 0) rfl)) ?_
     refine sb 0 K19 [iBox p56 47 K19, I22, I23, iBox p41 47 K8, I24, I29, I33] (pk [3, 0, 1, 2, 4, 5, 6, 7]) type47 ?_
     refine nt' (CM_ret ?_)
     have he273 := (show spec_l9Copy_m x0 = (⟨x0.Store, x0.Cursor, x0.Order, d64, d145, d211, x0.Steps⟩ : DEngine) from fin_inr hE141 (fin_inr hE207 (fin_inr hE272 (rfl))))
     refine QM_r1 rfl (RR_cell (n := 0) rfl rfl underlying47 type47 rfl) (fun W hm => ⟨K19, ?_, ?_⟩)
     ·first | rw [he273] | rfl
     ·rw [he273]; exact Mem.join (is := [I23, I22, I24, I29, I33]) (js := []) (fun _ _ hs => tyEngine_join (x := (⟨x0.Store, x0.Cursor, x0.Order, d64, d145, d211, x0.Steps⟩ : DEngine)) hs) (hm.pick [3, 2, 5, 6, 7] (by decide))
 ·
  refine qtD 14 0 1 rfl (vf underlying47 rfl type42) ?_
  refine qtD 14 1 3 rfl (fun W hm => rv_loadN (cs := [.slice A12 x0.Store.Segments.length c13, .int .i64 x0.Store.Now]) underlying42 type42 rfl rfl (hm.boxPart (n := 1) rfl rfl)) ?_
  refine qtD 14 3 11 rfl (vf underlying47 rfl type3) ?_
  refine qtD 14 4 27 rfl (vl 1 2 underlying3) ?_
  refine qtD 14 6 91 rfl (vf underlying47 rfl type25) ?_
  refine qtD 14 7 219 rfl (vl 1 3 underlying25) ?_
  refine qtD 14 9 731 rfl (vf underlying47 rfl type3) ?_
  refine qtD 14 10 1755 rfl (vl 1 7 underlying3) ?_
  refine qaD [2, 5, 12] ?_
  refine qcD 14 1759 rfl ?_ ?_
  ·
   refine wcs tyStore x0.Store (cl_fn cb159 rfl) (fun W hm => spec_l7Copy_c2 W _ x0.Store (tyStore_mk (x := x0.Store) (hm.rdS0 r15)) s_0.1) (fun z274 => ?_)
   refine tyStore_sp ?_
   rintro v275 rfl
   refine WM_form (n := 0) rfl ?_
   rintro A276 c277 rfl m278
   refine qnD (pk [1, 2]) (pk [1, 2]) ?_
   refine qaD [5, 12] ?_
   refine qcD 14 1791 rfl ?_ ?_
   ·
    refine WM_build0 (E := tInt) underlying25 type3 (Wd_none rfl) (by decide) (fun p280 => ?_)
    refine qnD (pk [2, 3]) (pk [2, 3]) ?_
    refine qaD [8, 12] ?_
    refine qcD 14 2047 rfl ?_ ?_
    ·
     refine apR tInt tInt 3 (.slice (some ⟨p280, 0, none⟩) 0 0) [] x0.Order [iOwn (tSl (tSl tyVersion 191) 131) [.slice A276 x0.Store.Segments.length c277] x0.Store.Segments, iBox p42 47 K7, iBox p41 47 K8] (fun W hm => hm) (fun W hm => src_flat flat_int (hm.rdS0 r20)) underlying25 type3 (show (0 + x0.Order.length) * 8 ≤ 140737488355328 from by omega) (fun v282 => ?_)
     refine WM_form (n := 0) rfl ?_
     rintro A283 c284 rfl m285
     refine qnD (pk [2, 3]) (pk [2, 3]) ?_
     refine qtD 14 11 4095 rfl (fun W hm => rv_build (cs := [.slice A276 x0.Store.Segments.length c277, .int .i64 x0.Store.Now, .int .i64 x0.Cursor, .slice A283 x0.Order.length c284, .slice none 0 0, .slice none 0 0, .slice none 0 0, .int .i64 x0.Steps]) rfl (by kernel_rfl)) ?_
     refine qoD 14 12 8191 rfl ?_
     refine WM_alloc type47 rfl (Wd_none rfl) (by decide) (fun p287 => ?_)
     refine qnD (pk [3, 4]) (pk [3, 4]) ?_
     exact QD_sub sl4 (fun W hm => hm) (H (A276, c277, A283, c284, p287))
    refine qcD 14 5887 rfl ?_ ?_
    ·
     refine WM_alloc type47 rfl (Wd_none rfl) (by decide) (fun p288 => ?_)
     refine qnD (pk [3, 4]) (pk [3, 4]) ?_
     refine qoD 14 8 6143 rfl ?_
     refine apR tInt tInt 3 (.slice (some ⟨p280, 0, none⟩) 0 0) [] x0.Order [iBox p288 47 K7, iOwn (tSl (tSl tyVersion 191) 131) [.slice A276 x0.Store.Segments.length c277] x0.Store.Segments, iBox p42 47 K7, iBox p41 47 K8] (pk [1, 0, 2, 3, 4]) (fun W hm => src_flat flat_int (hm.rdS0 r20)) underlying25 type3 (show (0 + x0.Order.length) * 8 ≤ 140737488355328 from by omega) (fun v289 => ?_)
     refine WM_form (n := 0) rfl ?_
     rintro A290 c291 rfl m292
     refine qnD (pk [3, 4]) (pk [3, 4]) ?_
     refine qtD 14 11 8191 rfl (fun W hm => rv_build (cs := [.slice A276 x0.Store.Segments.length c277, .int .i64 x0.Store.Now, .int .i64 x0.Cursor, .slice A290 x0.Order.length c291, .slice none 0 0, .slice none 0 0, .slice none 0 0, .int .i64 x0.Steps]) rfl (by kernel_rfl)) ?_
     exact QD_sub sl4 (pk [1, 0, 2, 3, 4]) (H (A276, c277, A290, c291, p288))
    exact QDs_nil
   refine qcD 14 5855 rfl ?_ ?_
   ·
    refine WM_alloc type47 rfl (Wd_none rfl) (by decide) (fun p294 => ?_)
    refine qnD (pk [2, 3]) (pk [2, 3]) ?_
    refine qoD 14 5 5887 rfl ?_
    refine WM_build0 (E := tInt) underlying25 type3 (Wd_none rfl) (by decide) (fun p295 => ?_)
    refine qnD (pk [3, 4]) (pk [3, 4]) ?_
    refine qoD 14 8 6143 rfl ?_
    refine apR tInt tInt 3 (.slice (some ⟨p295, 0, none⟩) 0 0) [] x0.Order [iBox p294 47 K7, iOwn (tSl (tSl tyVersion 191) 131) [.slice A276 x0.Store.Segments.length c277] x0.Store.Segments, iBox p42 47 K7, iBox p41 47 K8] (fun W hm => hm) (fun W hm => src_flat flat_int (hm.rdS0 r20)) underlying25 type3 (show (0 + x0.Order.length) * 8 ≤ 140737488355328 from by omega) (fun v297 => ?_)
    refine WM_form (n := 0) rfl ?_
    rintro A298 c299 rfl m300
    refine qnD (pk [3, 4]) (pk [3, 4]) ?_
    refine qtD 14 11 8191 rfl (fun W hm => rv_build (cs := [.slice A276 x0.Store.Segments.length c277, .int .i64 x0.Store.Now, .int .i64 x0.Cursor, .slice A298 x0.Order.length c299, .slice none 0 0, .slice none 0 0, .slice none 0 0, .int .i64 x0.Steps]) rfl (by kernel_rfl)) ?_
    exact QD_sub sl4 (pk [1, 0, 2, 3, 4]) (H (A276, c277, A298, c299, p294))
   exact QDs_nil
  refine qcD 14 1787 rfl ?_ ?_
  ·
   refine WM_build0 (E := tInt) underlying25 type3 (Wd_none rfl) (by decide) (fun p302 => ?_)
   refine qnD (pk [1, 2]) (pk [1, 2]) ?_
   refine qaD [2, 12] ?_
   refine qcD 14 1791 rfl ?_ ?_
   ·
    refine wcs tyStore x0.Store (cl_fn cb159 rfl) (fun W hm => spec_l7Copy_c2 W _ x0.Store (tyStore_mk (x := x0.Store) (hm.rdS0 r15)) s_0.1) (fun z304 => ?_)
    refine tyStore_sp ?_
    rintro v305 rfl
    refine WM_form (n := 0) rfl ?_
    rintro A306 c307 rfl m308
    refine qnD (pk [2, 3]) (pk [2, 3]) ?_
    refine qaD [8, 12] ?_
    refine qcD 14 2047 rfl ?_ ?_
    ·
     refine apR tInt tInt 3 (.slice (some ⟨p302, 0, none⟩) 0 0) [] x0.Order [iOwn (tSl (tSl tyVersion 191) 131) [.slice A306 x0.Store.Segments.length c307] x0.Store.Segments, iBox p42 47 K7, iBox p41 47 K8] (pk [1, 0, 2, 3]) (fun W hm => src_flat flat_int (hm.rdS0 r20)) underlying25 type3 (show (0 + x0.Order.length) * 8 ≤ 140737488355328 from by omega) (fun v310 => ?_)
     refine WM_form (n := 0) rfl ?_
     rintro A311 c312 rfl m313
     refine qnD (pk [2, 3]) (pk [2, 3]) ?_
     refine qtD 14 11 4095 rfl (fun W hm => rv_build (cs := [.slice A306 x0.Store.Segments.length c307, .int .i64 x0.Store.Now, .int .i64 x0.Cursor, .slice A311 x0.Order.length c312, .slice none 0 0, .slice none 0 0, .slice none 0 0, .int .i64 x0.Steps]) rfl (by kernel_rfl)) ?_
     refine qoD 14 12 8191 rfl ?_
     refine WM_alloc type47 rfl (Wd_none rfl) (by decide) (fun p315 => ?_)
     refine qnD (pk [3, 4]) (pk [3, 4]) ?_
     exact QD_sub sl4 (fun W hm => hm) (H (A306, c307, A311, c312, p315))
    refine qcD 14 5887 rfl ?_ ?_
    ·
     refine WM_alloc type47 rfl (Wd_none rfl) (by decide) (fun p316 => ?_)
     refine qnD (pk [3, 4]) (pk [3, 4]) ?_
     refine qoD 14 8 6143 rfl ?_
     refine apR tInt tInt 3 (.slice (some ⟨p302, 0, none⟩) 0 0) [] x0.Order [iBox p316 47 K7, iOwn (tSl (tSl tyVersion 191) 131) [.slice A306 x0.Store.Segments.length c307] x0.Store.Segments, iBox p42 47 K7, iBox p41 47 K8] (pk [2, 0, 1, 3, 4]) (fun W hm => src_flat flat_int (hm.rdS0 r20)) underlying25 type3 (show (0 + x0.Order.length) * 8 ≤ 140737488355328 from by omega) (fun v317 => ?_)
     refine WM_form (n := 0) rfl ?_
     rintro A318 c319 rfl m320
     refine qnD (pk [3, 4]) (pk [3, 4]) ?_
     refine qtD 14 11 8191 rfl (fun W hm => rv_build (cs := [.slice A306 x0.Store.Segments.length c307, .int .i64 x0.Store.Now, .int .i64 x0.Cursor, .slice A318 x0.Order.length c319, .slice none 0 0, .slice none 0 0, .slice none 0 0, .int .i64 x0.Steps]) rfl (by kernel_rfl)) ?_
     exact QD_sub sl4 (pk [1, 0, 2, 3, 4]) (H (A306, c307, A318, c319, p316))
    exact QDs_nil
   refine qcD 14 5883 rfl ?_ ?_
   ·
    refine WM_alloc type47 rfl (Wd_none rfl) (by decide) (fun p322 => ?_)
    refine qnD (pk [2, 3]) (pk [2, 3]) ?_
    refine qoD 14 2 5887 rfl ?_
    refine wcs tyStore x0.Store (cl_fn cb159 rfl) (fun W hm => spec_l7Copy_c2 W _ x0.Store (tyStore_mk (x := x0.Store) (hm.rdS0 r15)) s_0.1) (fun z323 => ?_)
    refine tyStore_sp ?_
    rintro v324 rfl
    refine WM_form (n := 0) rfl ?_
    rintro A325 c326 rfl m327
    refine qnD (pk [3, 4]) (pk [3, 4]) ?_
    refine qoD 14 8 6143 rfl ?_
    refine apR tInt tInt 3 (.slice (some ⟨p302, 0, none⟩) 0 0) [] x0.Order [iOwn (tSl (tSl tyVersion 191) 131) [.slice A325 x0.Store.Segments.length c326] x0.Store.Segments, iBox p322 47 K7, iBox p42 47 K7, iBox p41 47 K8] (pk [2, 0, 1, 3, 4]) (fun W hm => src_flat flat_int (hm.rdS0 r20)) underlying25 type3 (show (0 + x0.Order.length) * 8 ≤ 140737488355328 from by omega) (fun v329 => ?_)
    refine WM_form (n := 0) rfl ?_
    rintro A330 c331 rfl m332
    refine qnD (pk [3, 4]) (pk [3, 4]) ?_
    refine qtD 14 11 8191 rfl (fun W hm => rv_build (cs := [.slice A325 x0.Store.Segments.length c326, .int .i64 x0.Store.Now, .int .i64 x0.Cursor, .slice A330 x0.Order.length c331, .slice none 0 0, .slice none 0 0, .slice none 0 0, .int .i64 x0.Steps]) rfl (by kernel_rfl)) ?_
    exact QD_sub sl4 (pk [2, 0, 1, 3, 4]) (H (A325, c326, A330, c331, p322))
   exact QDs_nil
  refine qcD 14 5851 rfl ?_ ?_
  ·
   refine WM_alloc type47 rfl (Wd_none rfl) (by decide) (fun p334 => ?_)
   refine qnD (pk [1, 2]) (pk [1, 2]) ?_
   refine qaD [2, 5] ?_
   refine qcD 14 5855 rfl ?_ ?_
   ·
    refine wcs tyStore x0.Store (cl_fn cb159 rfl) (fun W hm => spec_l7Copy_c2 W _ x0.Store (tyStore_mk (x := x0.Store) (hm.rdS0 r15)) s_0.1) (fun z335 => ?_)
    refine tyStore_sp ?_
    rintro v336 rfl
    refine WM_form (n := 0) rfl ?_
    rintro A337 c338 rfl m339
    refine qnD (pk [2, 3]) (pk [2, 3]) ?_
    refine qoD 14 5 5887 rfl ?_
    refine WM_build0 (E := tInt) underlying25 type3 (Wd_none rfl) (by decide) (fun p341 => ?_)
    refine qnD (pk [3, 4]) (pk [3, 4]) ?_
    refine qoD 14 8 6143 rfl ?_
    refine apR tInt tInt 3 (.slice (some ⟨p341, 0, none⟩) 0 0) [] x0.Order [iOwn (tSl (tSl tyVersion 191) 131) [.slice A337 x0.Store.Segments.length c338] x0.Store.Segments, iBox p334 47 K7, iBox p42 47 K7, iBox p41 47 K8] (fun W hm => hm) (fun W hm => src_flat flat_int (hm.rdS0 r20)) underlying25 type3 (show (0 + x0.Order.length) * 8 ≤ 140737488355328 from by omega) (fun v343 => ?_)
    refine WM_form (n := 0) rfl ?_
    rintro A344 c345 rfl m346
    refine qnD (pk [3, 4]) (pk [3, 4]) ?_
    refine qtD 14 11 8191 rfl (fun W hm => rv_build (cs := [.slice A337 x0.Store.Segments.length c338, .int .i64 x0.Store.Now, .int .i64 x0.Cursor, .slice A344 x0.Order.length c345, .slice none 0 0, .slice none 0 0, .slice none 0 0, .int .i64 x0.Steps]) rfl (by kernel_rfl)) ?_
    exact QD_sub sl4 (pk [2, 0, 1, 3, 4]) (H (A337, c338, A344, c345, p334))
   refine qcD 14 5883 rfl ?_ ?_
   ·
    refine WM_build0 (E := tInt) underlying25 type3 (Wd_none rfl) (by decide) (fun p348 => ?_)
    refine qnD (pk [2, 3]) (pk [2, 3]) ?_
    refine qoD 14 2 5887 rfl ?_
    refine wcs tyStore x0.Store (cl_fn cb159 rfl) (fun W hm => spec_l7Copy_c2 W _ x0.Store (tyStore_mk (x := x0.Store) (hm.rdS0 r15)) s_0.1) (fun z350 => ?_)
    refine tyStore_sp ?_
    rintro v351 rfl
    refine WM_form (n := 0) rfl ?_
    rintro A352 c353 rfl m354
    refine qnD (pk [3, 4]) (pk [3, 4]) ?_
    refine qoD 14 8 6143 rfl ?_
    refine apR tInt tInt 3 (.slice (some ⟨p348, 0, none⟩) 0 0) [] x0.Order [iOwn (tSl (tSl tyVersion 191) 131) [.slice A352 x0.Store.Segments.length c353] x0.Store.Segments, iBox p334 47 K7, iBox p42 47 K7, iBox p41 47 K8] (pk [1, 0, 2, 3, 4]) (fun W hm => src_flat flat_int (hm.rdS0 r20)) underlying25 type3 (show (0 + x0.Order.length) * 8 ≤ 140737488355328 from by omega) (fun v356 => ?_)
    refine WM_form (n := 0) rfl ?_
    rintro A357 c358 rfl m359
    refine qnD (pk [3, 4]) (pk [3, 4]) ?_
    refine qtD 14 11 8191 rfl (fun W hm => rv_build (cs := [.slice A352 x0.Store.Segments.length c353, .int .i64 x0.Store.Now, .int .i64 x0.Cursor, .slice A357 x0.Order.length c358, .slice none 0 0, .slice none 0 0, .slice none 0 0, .int .i64 x0.Steps]) rfl (by kernel_rfl)) ?_
    exact QD_sub sl4 (pk [2, 0, 1, 3, 4]) (H (A352, c353, A357, c358, p334))
   exact QDs_nil
  exact QDs_nil
theorem spec_l9Copy_eq (x0 : DEngine) : spec_l9Copy_m x0 = x0 := by
 unfold spec_l9Copy_m; rw [rng_app (xs := x0.Active) (b := fun k s => spec_l9Copy_b1 x0 k s) (fun _ _ => rfl), rng_app (xs := x0.Done) (b := fun k s => spec_l9Copy_b2 x0 k s) (fun _ _ => rfl), rng_app (xs := x0.Ledger) (b := fun k s => spec_l9Copy_b3 x0 k s) (fun _ _ => rfl)]; rfl
theorem spec_l9Copy_c2 (w : World) (z0 : List Value) (x0 : DEngine) (r_0 : tyEngine.rd w w.heap.size z0 x0) (s_0 : smEngine 68719476736 x0) :
  Calls Tryz.prog 81 #[.agg z0.toArray] w fun e w' => ∃ v : List Value, e = .returned (.agg v.toArray) ∧ Mem w.heap.size w [iOwn tyEngine v x0] w' := by
 have h := spec_l9Copy_c w z0 x0 r_0 s_0
 rw [spec_l9Copy_eq] at h
 exact h

def spec_l1In_m (x0 : Int) (x1 : Int) (x2 : Int) : Bool :=
 cond (decide (x1 ≤ x0)) (decide (x0 ≤ x2)) false
theorem cb128 : Cb Tryz.prog 128 := ⟨f128, _, func128, rfl, by decide⟩
theorem spec_l1In_c (w : World) (x0 : Int) (x1 : Int) (x2 : Int) :
  Calls Tryz.prog 128 #[.int .i64 x0, .int .i64 x1, .int .i64 x2] w fun e w' => e = .returned (.bool (spec_l1In_m x0 x1 x2)) ∧ Below w.heap.size w w' := by
 refine ce3 (L := [(0, .int .i64 x0), (1, .int .i64 x1), (2, .int .i64 x2)]) (N := 15) func128 ?_
 refine sr (wa (nt' (sr (wm (wm ?_)))))
 refine wv (fun W hm => rv_geq rfl rfl) ?_
 refine wm ?_
 by_cases h1 : x1 ≤ x0
 ·have g2 := decide_eq_true h1
  refine wg vmv g2 ?_
  refine wg vmv g2 ?_
  refine wg (fun W hm => rv_leq rfl rfl) g2 ?_
  refine wv (vpT g2) ?_
  refine wa (nt' (CM_ret ?_))
  exact rtb (h := cond_t g2 (rfl))
 ·have g2 := decide_eq_false h1
  refine ws g2 ?_
  refine ws g2 ?_
  refine ws g2 ?_
  refine wv (vpF g2) ?_
  refine wa (nt' (CM_ret ?_))
  exact rtb (h := cond_f g2 (rfl))

theorem spec_l1In_fact {x a b : Int} (h : spec_l1In_m x a b = true) : a ≤ x ∧ x ≤ b := by
  unfold spec_l1In_m at h
  by_cases h1 : a ≤ x
  · rw [decide_eq_true h1] at h
    exact ⟨h1, of_decide_eq_true h⟩
  · rw [decide_eq_false h1] at h
    cases h
theorem spec_l1In_iff (x a b : Int) : spec_l1In_m x a b = decide (a ≤ x ∧ x ≤ b) := by
  unfold spec_l1In_m
  by_cases h1 : a ≤ x
  · by_cases h2 : x ≤ b
    · simp [h1, h2]
    · simp [h1, h2]
  · simp [h1]

def spec_l7All_b1 (x0 : DStore) (k12 : Nat) (d13 : (List DVersion)) : (List DVersion) ⊕ ((List DVersion)) :=
 Sum.inr (d13 ++ (gt x0.Segments k12))
def spec_l7All_m (x0 : DStore) : (List DVersion) :=
 Sum.elim id (fun (s : (List DVersion)) => s) (rng (R := (List DVersion)) (fun k (s : (List DVersion)) => spec_l7All_b1 x0 k s) (x0.Segments.length - 0) 0 [])
theorem cb205 : Cb Tryz.prog 205 := ⟨f205, _, func205, rfl, by decide⟩
theorem spec_l7All_c (B : Nat) (w0 : World) (is : List It) (w : World) (z0 : List Value) (x0 : DStore) (r_0 : tyStore.rd w0 B z0 x0) (s_0 : smStore 68719476736 x0) (hq : (x0.Segments.map List.length).sum ≤ 68719476736) (hm : Mem B w0 is w) :
  Calls Tryz.prog 205 #[.agg z0.toArray] w fun e w' => ∃ v : Value, e = .returned (v) ∧ Mem B w0 (iOwn (tSl (tBor tyVersion w0 B) 191) [v] (spec_l7All_m x0) :: is) w' := by
 obtain ⟨v1, rfl, r2⟩ := tyStore_rd r_0
 obtain ⟨m3, A4, c5, rfl, q6, r7⟩ := rdS_op r2
 have l8 : x0.Segments.length ≤ 68719476736 := s_0.1
 refine call_enterW (L := [(0, .agg #[.slice A4 x0.Segments.length c5, .int .i64 x0.Now])]) (N := 21) func205 rfl rfl (Nat.le_of_ble_eq_true rfl) (argsL_cons rfl argsL_nil) hm ?_
 refine sr ?_
 refine WM_box rfl (Wd_none rfl) (by decide) (fun p9 => ?_)
 refine wa (nt' (sr ?_))
 refine WM_build0 (E := (tBor tyVersion w0 B)) underlying131 type191 (Wd_none rfl) (by decide) (fun p10 => ?_)
 refine wa (nt' (CM_seq (sr (wa (nt' (CM_block ?_))))))
 let F1 := fun k (s : (List DVersion)) => spec_l7All_b1 x0 k s
 let R2 := rng (R := (List DVersion)) F1
 let I3 : It := iBox p9 42 [.slice A4 x0.Segments.length c5, .int .i64 x0.Now]
 refine CM_loop (σ := Nat × ((List DVersion)) × (Option Addr × Nat)) (fun s => [(1, .pointer (some (⟨p9, 0, none⟩ : Addr))), (3, .slice s.2.2.1 s.2.1.length s.2.2.2), (4, .int .i64 ((s.1 : Nat) : Int))]) (fun s => (iOwn (tSl (tBor tyVersion w0 B) 191) [.slice s.2.2.1 s.2.1.length s.2.2.2] s.2.1 :: I3 :: is)) (fun s => s.1 ≤ x0.Segments.length ∧ R2 (x0.Segments.length - s.1) s.1 s.2.1 = R2 (x0.Segments.length - 0) 0 [] ∧ s.2.1.length ≤ ((x0.Segments.take s.1).map List.length).sum) (fun s => x0.Segments.length - s.1) (0, [], ((some ⟨p10, 0, none⟩), 0)) sl3 (fun W hm => hm) ⟨(by omega), rfl, Nat.zero_le _⟩ ?_
 rintro ⟨k12, d13, ⟨A14, c15⟩⟩ H18
 obtain ⟨hk16, hF17, hi19⟩ : k12 ≤ x0.Segments.length ∧ R2 (x0.Segments.length - k12) k12 d13 = R2 (x0.Segments.length - 0) 0 [] ∧ d13.length ≤ ((x0.Segments.take k12).map List.length).sum := H18
 show CM Tryz.prog 21 _ _ _ _ [(1, .pointer (some (⟨p9, 0, none⟩ : Addr))), (3, .slice A14 d13.length c15), (4, .int .i64 ((k12 : Nat) : Int))] (iOwn (tSl (tBor tyVersion w0 B) 191) [.slice A14 d13.length c15] d13 :: I3 :: is)
 refine CM_seq (sr (wm ?_))
 refine wv (vf underlying42 rfl type40) ?_
 refine wv (vl 1 0 underlying40) ?_
 refine wv (vlen underlying40) ?_
 refine wv vlss ?_
 refine nt' ?_
 by_cases hl20 : k12 < x0.Segments.length
 ·have g21 := dlT hl20
  refine CM_condT rfl g21 ?_
  refine CM_skip (QM_then (CM_seq (CM_block (CM_region (wm ?_)))))
  refine wv (vf underlying42 rfl type40) ?_
  refine wv (vl 1 0 underlying40) ?_
  refine wm ?_
  obtain ⟨a22, rfl, hb23, he24⟩ := q6 (by omega)
  refine wv (vix 1 k12 underlying40 type131) ?_
  obtain ⟨_, e26, hc25⟩ := he24 k12 _ (gt_some (show k12 < x0.Segments.length from by omega))
  have l27 : (gt x0.Segments k12).length ≤ 68719476736 := (s_0.2 _ (gt_mem (show k12 < x0.Segments.length from by omega))).1
  obtain ⟨v28, rfl, r29⟩ := e26
  obtain ⟨m30, A31, c32, rfl, q33, r34⟩ := rdS_op r29
  refine wv (fun W hm => rv_load underlying131 rfl rfl ((hm.cell0 (show (a22.add (k12 * 1)).block < B from by rw [add_block]; exact hb23.1)).trans (hc25 0 _ rfl))) ?_
  refine apR (tBor tyVersion w0 B) tyVersion 191 (.slice A14 d13.length c15) d13 (gt x0.Segments k12) (iBox p9 42 [.slice (some a22) x0.Segments.length c5, .int .i64 x0.Now] :: is) (fun W hm => (hm.front (n := 0) rfl)) (fun W hm => src_bor hm r34) underlying131 type191 (show (d13.length + (gt x0.Segments k12).length) * 48 ≤ 140737488355328 from by have h1 := sum_take_succ (w := List.length) (xs := x0.Segments) (j := k12) (by omega); have h2 := sum_take_le (w := List.length) (xs := x0.Segments) (k12 + 1); omega) (fun v35 => ?_)
  refine WM_form (n := 0) rfl ?_
  rintro A36 c37 rfl m38
  refine wa (WM_nil (QM_block_normal (QM_then (CM_region (wm ?_)))))
  refine wv (vadN k12 1 (by omega)) ?_
  refine wa (WM_nil ?_)
  have hn40 := rng_next (R := (List DVersion)) (body := F1) (k := k12) (s := d13) (s' := (d13 ++ (gt x0.Segments k12))) (show k12 < x0.Segments.length from by omega) (rfl) hF17
  exact QM_round (k12 + 1, (d13 ++ (gt x0.Segments k12)), (A36, c37)) sl3 (fun W hm => hm) ⟨(by omega), hn40, (show (d13 ++ (gt x0.Segments k12)).length ≤ ((x0.Segments.take (k12 + 1)).map List.length).sum from by rw [List.length_append, sum_take_succ (by omega)]; omega)⟩ (rl (by omega))
 ·have g21 := dlF hl20
  refine CM_condF rfl g21 ?_
  refine CM_exit (QM_then_exit (QM_then_exit ?_))
  have hE41 : R2 (x0.Segments.length - 0) 0 [] = Sum.inr d13 := rng_end hl20 hF17
  refine QM_block_hit (QM_then (sr (wm (wa (nt' (CM_ret ?_))))))
  have he42 := (show spec_l7All_m x0 = d13 from fin_inr hE41 (rfl))
  refine QM_r1 rfl (RR_tmp rfl) (fun W hm => ⟨.slice A14 d13.length c15, ?_, ?_⟩)
  ·first | rw [he42] | rfl
  ·rw [he42]; exact ((hm.front (n := 0) rfl).front (n := 1) rfl).tail

def spec_IsRow_b1 (x0 : DRow) (k9 : Nat) : Bool ⊕ (Unit) :=
 cond (spec_l1In_m (gt x0.Values k9) 0 99) (Sum.inr ()) (Sum.inl false)
def spec_IsRow_m (x0 : DRow) : Bool :=
 Sum.elim id (fun (s : Unit) => cond (spec_l1In_m x0.Id 0 999) (((x0.Values.length : Nat) : Int) == 3) false) (rng (R := Bool) (fun k (_ : Unit) => spec_IsRow_b1 x0 k) (x0.Values.length - 0) 0 ())
theorem cb209 : Cb Tryz.prog 209 := ⟨f209, _, func209, rfl, by decide⟩
theorem spec_IsRow_c (w : World) (z0 : List Value) (x0 : DRow) (r_0 : tyRow.rd w w.heap.size z0 x0) :
  Calls Tryz.prog 209 #[.agg z0.toArray] w fun e w' => e = .returned (.bool (spec_IsRow_m x0)) ∧ Below w.heap.size w w' := by
 obtain ⟨v1, rfl, r2⟩ := tyRow_rd r_0
 obtain ⟨m3, A4, c5, rfl, q6, r7⟩ := rdS_op r2
 refine ce1 (L := [(0, .agg #[.int .i64 x0.Id, .slice A4 x0.Values.length c5])]) (N := 27) func209 ?_
 refine sr ?_
 refine WM_box rfl (Wd_none rfl) (by decide) (fun p8 => ?_)
 refine wa (nt' (CM_seq (sr (wa (nt' (CM_block ?_))))))
 let F1 := fun k (_ : Unit) => spec_IsRow_b1 x0 k
 let R2 := rng (R := Bool) F1
 let I3 : It := iBox p8 73 [.int .i64 x0.Id, .slice A4 x0.Values.length c5]
 refine CM_loop (σ := Nat × (Unit) × (Unit)) (fun s => [(1, .pointer (some (⟨p8, 0, none⟩ : Addr))), (3, .int .i64 ((s.1 : Nat) : Int))]) (fun s => [I3]) (fun s => s.1 ≤ x0.Values.length ∧ R2 (x0.Values.length - s.1) s.1 s.2.1 = R2 (x0.Values.length - 0) 0 ()) (fun s => x0.Values.length - s.1) (0, (), ()) sl2 (fun W hm => hm) ⟨(by omega), rfl⟩ ?_
 rintro ⟨k9, ⟨⟩, ⟨⟩⟩ H12
 obtain ⟨hk10, hF11⟩ : k9 ≤ x0.Values.length ∧ R2 (x0.Values.length - k9) k9 () = R2 (x0.Values.length - 0) 0 () := H12
 show CM Tryz.prog 27 _ _ _ _ [(1, .pointer (some (⟨p8, 0, none⟩ : Addr))), (3, .int .i64 ((k9 : Nat) : Int))] [I3]
 refine CM_seq (sr (wm ?_))
 refine wv (vf underlying73 rfl type25) ?_
 refine wv (vl 0 1 underlying25) ?_
 refine wv (vlen underlying25) ?_
 refine wv vlss ?_
 refine nt' ?_
 by_cases hl13 : k9 < x0.Values.length
 ·have g14 := dlT hl13
  refine CM_condT rfl g14 ?_
  refine CM_skip (QM_then (CM_seq (CM_block (sr ?_))))
  refine wv (vf underlying73 rfl type25) ?_
  refine wv (vl 0 1 underlying25) ?_
  refine wm ?_
  obtain ⟨a15, rfl, hb16, he17⟩ := q6 (by omega)
  refine wv (vix 1 k9 underlying25 type3) ?_
  refine wv (fun W hm => rv_load underlying3 rfl rfl ((hm.cell0 (show (a15.add (k9 * 1)).block < w.heap.size from by rw [add_block]; exact hb16.1)).trans (rdS_int he17 k9 (by omega)))) ?_
  refine wcv (cl_fn cb128 rfl) (fun W hm => spec_l1In_c W (gt x0.Values k9) 0 99) ?_
  refine wv vnot ?_
  refine nt' ?_
  rcases Bool.eq_false_or_eq_true (spec_l1In_m (gt x0.Values k9) 0 99) with g19 | g19
  ·
   have hw := spec_l1In_fact g19
   refine CM_condF rfl (nt g19) ?_
   refine CM_skip (QM_block_normal (QM_then (CM_region (wm ?_))))
   refine wv (vadN k9 1 (by omega)) ?_
   refine wa (WM_nil ?_)
   have hn20 := rng_next (R := Bool) (body := F1) (k := k9) (s := ()) (s' := ()) (show k9 < x0.Values.length from by omega) (cond_t g19 (rfl)) hF11
   exact QM_round (k9 + 1, (), ()) sl2 (fun W hm => hm) ⟨(by omega), hn20⟩ (rl (by omega))
  ·
   refine CM_condT rfl (nf g19) ?_
   refine sr (wa (nt' (CM_ret (QM_block_ret (QM_then_ret (QM_then_ret (QM_block_ret (QM_then_ret ?_))))))))
   exact rtb (h := fin_inl (rng_ret (body := F1) (k := k9) (s := ()) (show k9 < x0.Values.length from by omega) (cond_f g19 (rfl)) hF11) rfl)
 ·have g14 := dlF hl13
  refine CM_condF rfl g14 ?_
  refine CM_exit (QM_then_exit (QM_then_exit ?_))
  have hE21 : R2 (x0.Values.length - 0) 0 () = Sum.inr () := rng_end hl13 hF11
  refine QM_block_hit (QM_then (sr ?_))
  refine wv (vf underlying73 rfl type3) ?_
  refine wv (vl 0 0 underlying3) ?_
  refine wcv (cl_fn cb128 rfl) (fun W hm => spec_l1In_c W x0.Id 0 999) ?_
  refine wm ?_
  rcases Bool.eq_false_or_eq_true (spec_l1In_m x0.Id 0 999) with g23 | g23
  ·
   have hw := spec_l1In_fact g23
   refine wg (vf underlying73 rfl type25) g23 ?_
   refine wg (vl 0 1 underlying25) g23 ?_
   refine wg (vlen underlying25) g23 ?_
   refine wg (fun W hm => rv_eql rfl rfl) g23 ?_
   refine wv (vpT g23) ?_
   refine wa (nt' (CM_ret ?_))
   exact rtb (h := fin_inr hE21 (cond_t g23 (rfl)))
  ·
   refine ws g23 ?_
   refine ws g23 ?_
   refine ws g23 ?_
   refine ws g23 ?_
   refine wv (vpF g23) ?_
   refine wa (nt' (CM_ret ?_))
   exact rtb (h := fin_inr hE21 (cond_f g23 (rfl)))

def spec_l7Version_m (x0 : DVersion) (x1 : Int) : Bool :=
 cond (spec_IsRow_m (⟨x0.Id, x0.Values⟩ : DRow)) (cond (spec_l1In_m x0.Born 0 x1) (cond (x0.Died == (-1)) true (spec_l1In_m x0.Died (IntKind.i64.wrap (x0.Born + 1)) x1)) false) false
theorem cb206 : Cb Tryz.prog 206 := ⟨f206, _, func206, rfl, by decide⟩
theorem spec_l7Version_c (w : World) (z0 : List Value) (x0 : DVersion) (x1 : Int) (r_0 : tyVersion.rd w w.heap.size z0 x0) :
  Calls Tryz.prog 206 #[.agg z0.toArray, .int .i64 x1] w fun e w' => e = .returned (.bool (spec_l7Version_m x0 x1)) ∧ Below w.heap.size w w' := by
 obtain ⟨v1, rfl, r2⟩ := tyVersion_rd r_0
 obtain ⟨m3, A4, c5, rfl, q6, r7⟩ := rdS_op r2
 refine ce2 (L := [(0, .agg #[.int .i64 x0.Id, .slice A4 x0.Values.length c5, .int .i64 x0.Born, .int .i64 x0.Died]), (1, .int .i64 x1)]) (N := 31) func206 ?_
 refine sr ?_
 refine WM_box rfl (Wd_none rfl) (by decide) (fun p8 => ?_)
 refine wa (nt' (sr ?_))
 refine wv (vf underlying191 rfl type3) ?_
 refine wv (vl 0 0 underlying3) ?_
 refine wv (vf underlying191 rfl type25) ?_
 refine wv (vl 0 1 underlying25) ?_
 refine wv (fun W hm => rv_build (cs := [.int .i64 x0.Id, .slice A4 x0.Values.length c5]) rfl (by kernel_rfl)) ?_
 refine wcv (cl_fn cb209 rfl) (fun W hm => spec_IsRow_c W _ (⟨x0.Id, x0.Values⟩ : DRow) (tyRow_mk (x := (⟨x0.Id, x0.Values⟩ : DRow)) (hm.rdS0 r7))) ?_
 refine wm ?_
 rcases Bool.eq_false_or_eq_true (spec_IsRow_m (⟨x0.Id, x0.Values⟩ : DRow)) with g10 | g10
 ·
  refine wg (vf underlying191 rfl type3) g10 ?_
  refine wg (vl 0 2 underlying3) g10 ?_
  refine wg vmv g10 ?_
  refine WM_callV (cl_fn cb128 rfl) (fun W hm => spec_l1In_c W x0.Born 0 x1) (Wd_some rfl rfl rfl (bw g10 rfl)) (by decide) ?_
  refine wv (vpT g10) ?_
  refine wm ?_
  rcases Bool.eq_false_or_eq_true (spec_l1In_m x0.Born 0 x1) with g12 | g12
  ·
   have hw := spec_l1In_fact g12
   refine wg (vf underlying191 rfl type3) g12 ?_
   refine wg (vl 0 3 underlying3) g12 ?_
   refine wg (fun W hm => rv_eql rfl rfl) g12 ?_
   refine wg vmv g12 ?_
   by_cases h13 : x0.Died = (-1)
   ·have g14 := beq_iff_eq.2 h13
    refine ws g14 ?_
    refine ws g14 ?_
    refine ws g14 ?_
    refine ws g14 ?_
    refine ws g14 ?_
    refine ws g14 ?_
    refine ws g14 ?_
    refine wg (vpT g14) g12 ?_
    refine wv (vpT g12) ?_
    refine wa (nt' (CM_ret ?_))
    exact rtb (h := cond_t g10 (cond_t g12 (cond_t g14 (rfl))))
   ·have g14 := beq_eq_false_iff_ne.2 h13
    refine wg (vf underlying191 rfl type3) g14 ?_
    refine wg (vl 0 3 underlying3) g14 ?_
    refine wg (vf underlying191 rfl type3) g14 ?_
    refine wg (vl 0 2 underlying3) g14 ?_
    refine wg vadd g14 ?_
    refine wg vmv g14 ?_
    refine WM_callV (cl_fn cb128 rfl) (fun W hm => spec_l1In_c W x0.Died (IntKind.i64.wrap (x0.Born + 1)) x1) (Wd_some rfl rfl rfl (bw g14 rfl)) (by decide) ?_
    refine wg (vpF g14) g12 ?_
    refine wv (vpT g12) ?_
    refine wa (nt' (CM_ret ?_))
    exact rtb (h := cond_t g10 (cond_t g12 (cond_f g14 (rfl))))
  ·
   refine ws g12 ?_
   refine ws g12 ?_
   refine ws g12 ?_
   refine ws g12 ?_
   refine wu ?_
   refine wu ?_
   refine wu ?_
   refine wu ?_
   refine wu ?_
   refine wu ?_
   refine wu ?_
   refine ws g12 ?_
   refine wv (vpF g12) ?_
   refine wa (nt' (CM_ret ?_))
   exact rtb (h := cond_t g10 (cond_f g12 (rfl)))
 ·
  refine ws g10 ?_
  refine ws g10 ?_
  refine ws g10 ?_
  refine ws g10 ?_
  refine wv (vpF g10) ?_
  refine wm ?_
  refine wk ?_
  refine wk ?_
  refine wk ?_
  refine wk ?_
  refine wu ?_
  refine wu ?_
  refine wu ?_
  refine wu ?_
  refine wu ?_
  refine wu ?_
  refine wu ?_
  refine wk ?_
  refine wv (vpF rfl) ?_
  refine wa (nt' (CM_ret ?_))
  exact rtb (h := cond_f g10 (rfl))

def spec_l7Apart_m (x0 : DVersion) (x1 : DVersion) : Bool :=
 cond (x0.Id != x1.Id) true (cond (x0.Died != (-1)) (cond (decide (x0.Died ≤ x1.Born)) true (cond (x1.Died != (-1)) (decide (x1.Died ≤ x0.Born)) false)) (cond (x1.Died != (-1)) (decide (x1.Died ≤ x0.Born)) false))
theorem cb207 : Cb Tryz.prog 207 := ⟨f207, _, func207, rfl, by decide⟩
theorem spec_l7Apart_c (w : World) (z0 : List Value) (x0 : DVersion) (z1 : List Value) (x1 : DVersion) (r_0 : tyVersion.rd w w.heap.size z0 x0) (r_1 : tyVersion.rd w w.heap.size z1 x1) :
  Calls Tryz.prog 207 #[.agg z0.toArray, .agg z1.toArray] w fun e w' => e = .returned (.bool (spec_l7Apart_m x0 x1)) ∧ Below w.heap.size w w' := by
 obtain ⟨v1, rfl, r2⟩ := tyVersion_rd r_0
 obtain ⟨m3, A4, c5, rfl, q6, r7⟩ := rdS_op r2
 obtain ⟨v8, rfl, r9⟩ := tyVersion_rd r_1
 obtain ⟨m10, A11, c12, rfl, q13, r14⟩ := rdS_op r9
 refine ce2 (L := [(0, .agg #[.int .i64 x0.Id, .slice A4 x0.Values.length c5, .int .i64 x0.Born, .int .i64 x0.Died]), (1, .agg #[.int .i64 x1.Id, .slice A11 x1.Values.length c12, .int .i64 x1.Born, .int .i64 x1.Died])]) (N := 34) func207 ?_
 refine sr ?_
 refine WM_box rfl (Wd_none rfl) (by decide) (fun p15 => ?_)
 refine WM_box rfl (Wd_none rfl) (by decide) (fun p16 => ?_)
 refine wa (nt' (sr ?_))
 refine wv (vf underlying191 rfl type3) ?_
 refine wv (vl 1 0 underlying3) ?_
 refine wv (vf underlying191 rfl type3) ?_
 refine wv (vl 0 0 underlying3) ?_
 refine wv vneq ?_
 refine wm ?_
 by_cases h17 : x0.Id = x1.Id
 ·have g18 : (x0.Id != x1.Id) = false := by rw [h17]; exact bne_self_eq_false _
  refine wg (vf underlying191 rfl type3) g18 ?_
  refine wg (vl 1 3 underlying3) g18 ?_
  refine wg vneq g18 ?_
  refine wg vmv g18 ?_
  by_cases h19 : x0.Died = (-1)
  ·have g20 : (x0.Died != (-1)) = false := by rw [h19]; exact bne_self_eq_false _
   refine ws g20 ?_
   refine ws g20 ?_
   refine ws g20 ?_
   refine ws g20 ?_
   refine ws g20 ?_
   refine wg (vpF g20) g18 ?_
   refine wv (vpF g18) ?_
   refine wm ?_
   refine WM_val (vf underlying191 rfl type3) (Wd_some rfl rfl rfl rfl) rfl (by decide) ?_
   refine WM_val (vl 0 3 underlying3) (Wd_some rfl rfl rfl rfl) rfl (by decide) ?_
   refine WM_val vneq (Wd_some rfl rfl rfl rfl) rfl (by decide) ?_
   refine WM_val vmv (Wd_some rfl rfl rfl rfl) rfl (by decide) ?_
   by_cases h21 : x1.Died = (-1)
   ·have g22 : (x1.Died != (-1)) = false := by rw [h21]; exact bne_self_eq_false _
    refine ws g22 ?_
    refine ws g22 ?_
    refine ws g22 ?_
    refine ws g22 ?_
    refine ws g22 ?_
    refine WM_val (vpF g22) (Wd_some rfl rfl rfl rfl) rfl (by decide) ?_
    refine wv (vpF rfl) ?_
    refine wa (nt' (CM_ret ?_))
    exact rtb (h := cond_f g18 (cond_f g20 (cond_f g22 (rfl))))
   ·have g22 : (x1.Died != (-1)) = true := bne_iff_ne.2 h21
    refine wg (vf underlying191 rfl type3) g22 ?_
    refine wg (vl 0 3 underlying3) g22 ?_
    refine wg (vf underlying191 rfl type3) g22 ?_
    refine wg (vl 1 2 underlying3) g22 ?_
    refine wg (fun W hm => rv_leq rfl rfl) g22 ?_
    refine WM_val (vpT g22) (Wd_some rfl rfl rfl rfl) rfl (by decide) ?_
    refine wv (vpF rfl) ?_
    refine wa (nt' (CM_ret ?_))
    exact rtb (h := cond_f g18 (cond_f g20 (cond_t g22 (rfl))))
  ·have g20 : (x0.Died != (-1)) = true := bne_iff_ne.2 h19
   refine wg (vf underlying191 rfl type3) g20 ?_
   refine wg (vl 1 3 underlying3) g20 ?_
   refine wg (vf underlying191 rfl type3) g20 ?_
   refine wg (vl 0 2 underlying3) g20 ?_
   refine wg (fun W hm => rv_leq rfl rfl) g20 ?_
   refine wg (vpT g20) g18 ?_
   refine wv (vpF g18) ?_
   refine wm ?_
   by_cases h23 : x0.Died ≤ x1.Born
   ·have g24 := decide_eq_true h23
    refine ws g24 ?_
    refine ws g24 ?_
    refine ws g24 ?_
    refine ws g24 ?_
    refine wu ?_
    refine wu ?_
    refine wu ?_
    refine wu ?_
    refine wu ?_
    refine ws g24 ?_
    refine wv (vpT g24) ?_
    refine wa (nt' (CM_ret ?_))
    exact rtb (h := cond_f g18 (cond_t g20 (cond_t g24 (rfl))))
   ·have g24 := decide_eq_false h23
    refine wg (vf underlying191 rfl type3) g24 ?_
    refine wg (vl 0 3 underlying3) g24 ?_
    refine wg vneq g24 ?_
    refine wg vmv g24 ?_
    by_cases h25 : x1.Died = (-1)
    ·have g26 : (x1.Died != (-1)) = false := by rw [h25]; exact bne_self_eq_false _
     refine ws g26 ?_
     refine ws g26 ?_
     refine ws g26 ?_
     refine ws g26 ?_
     refine ws g26 ?_
     refine wg (vpF g26) g24 ?_
     refine wv (vpF g24) ?_
     refine wa (nt' (CM_ret ?_))
     exact rtb (h := cond_f g18 (cond_t g20 (cond_f g24 (cond_f g26 (rfl)))))
    ·have g26 : (x1.Died != (-1)) = true := bne_iff_ne.2 h25
     refine wg (vf underlying191 rfl type3) g26 ?_
     refine wg (vl 0 3 underlying3) g26 ?_
     refine wg (vf underlying191 rfl type3) g26 ?_
     refine wg (vl 1 2 underlying3) g26 ?_
     refine wg (fun W hm => rv_leq rfl rfl) g26 ?_
     refine wg (vpT g26) g24 ?_
     refine wv (vpF g24) ?_
     refine wa (nt' (CM_ret ?_))
     exact rtb (h := cond_f g18 (cond_t g20 (cond_f g24 (cond_t g26 (rfl)))))
 ·have g18 : (x0.Id != x1.Id) = true := bne_iff_ne.2 h17
  refine ws g18 ?_
  refine ws g18 ?_
  refine ws g18 ?_
  refine ws g18 ?_
  refine wu ?_
  refine wu ?_
  refine wu ?_
  refine wu ?_
  refine wu ?_
  refine ws g18 ?_
  refine wv (vpT g18) ?_
  refine wm ?_
  refine wk ?_
  refine wk ?_
  refine wk ?_
  refine wk ?_
  refine wu ?_
  refine wu ?_
  refine wu ?_
  refine wu ?_
  refine wu ?_
  refine wk ?_
  refine wv (vpT rfl) ?_
  refine wa (nt' (CM_ret ?_))
  exact rtb (h := cond_t g18 (rfl))

def spec_IsStore_b3 (x0 : DStore) (k42 : Nat) (k62 : Nat) : Bool ⊕ (Unit) :=
 cond (spec_l7Apart_m (gt (spec_l7All_m x0) k42) (gt (spec_l7All_m x0) k62)) (Sum.inr ()) (Sum.inl false)
def spec_IsStore_b2 (x0 : DStore) (k42 : Nat) : Bool ⊕ (Unit) :=
 cond (spec_l7Version_m (gt (spec_l7All_m x0) k42) x0.Now) (Sum.elim Sum.inl (fun (s : Unit) => Sum.inr ()) (rng (R := Bool) (fun k (_ : Unit) => spec_IsStore_b3 x0 k42 k) (k42 - 0) 0 ())) (Sum.inl false)
def spec_IsStore_b1 (x0 : DStore) (k14 : Nat) : Bool ⊕ (Unit) :=
 cond (decide (4 < ((((gt x0.Segments k14)).length : Nat) : Int))) (Sum.inl false) (Sum.inr ())
def spec_IsStore_m (x0 : DStore) : Bool :=
 cond (spec_l1In_m ((x0.Segments.length : Nat) : Int) 1 8) (cond (spec_l1In_m x0.Now 0 100000) (Sum.elim id (fun (s1_ : Unit) => Sum.elim id (fun (s : Unit) => true) (rng (R := Bool) (fun k (_ : Unit) => spec_IsStore_b2 x0 k) ((spec_l7All_m x0).length - 0) 0 ())) (rng (R := Bool) (fun k (_ : Unit) => spec_IsStore_b1 x0 k) (x0.Segments.length - 0) 0 ())) false) false
theorem spec_IsStore_hq {x0 : DStore} (h : ((x0.Segments.length : Nat) : Int) ≤ 8) (hE : rng (R := Bool) (fun k (_ : Unit) => spec_IsStore_b1 x0 k) (x0.Segments.length - 0) 0 () = .inr ()) : (x0.Segments.map List.length).sum ≤ 68719476736 := by
 have h1 := sum_le_mul (w := List.length) (c := 4) (xs := x0.Segments) fun j hj => by
  have h2 := rng_noneU _ _ hE j (Nat.zero_le _) (by omega)
  unfold spec_IsStore_b1 at h2
  by_cases h3 : 4 < ((gt x0.Segments j).length : Int)
  ·rw [decide_eq_true h3] at h2; cases h2
  ·omega
 omega
theorem cb151 : Cb Tryz.prog 151 := ⟨f151, _, func151, rfl, by decide⟩
theorem spec_IsStore_c (w : World) (z0 : List Value) (x0 : DStore) (r_0 : tyStore.rd w w.heap.size z0 x0) (s_0 : smStore 68719476736 x0) :
  Calls Tryz.prog 151 #[.agg z0.toArray] w fun e w' => e = .returned (.bool (spec_IsStore_m x0)) ∧ Below w.heap.size w w' := by
 obtain ⟨v1, rfl, r2⟩ := tyStore_rd r_0
 obtain ⟨m3, A4, c5, rfl, q6, r7⟩ := rdS_op r2
 have l8 : x0.Segments.length ≤ 68719476736 := s_0.1
 refine ce1 (L := [(0, .agg #[.slice A4 x0.Segments.length c5, .int .i64 x0.Now])]) (N := 63) func151 ?_
 refine sr ?_
 refine WM_box rfl (Wd_none rfl) (by decide) (fun p9 => ?_)
 refine wa (nt' (CM_seq (sr ?_)))
 refine wv (vf underlying42 rfl type40) ?_
 refine wv (vl 0 0 underlying40) ?_
 refine wv (vlen underlying40) ?_
 refine wcv (cl_fn cb128 rfl) (fun W hm => spec_l1In_c W ((x0.Segments.length : Nat) : Int) 1 8) ?_
 refine wv vnot ?_
 refine wm ?_
 rcases Bool.eq_false_or_eq_true (spec_l1In_m ((x0.Segments.length : Nat) : Int) 1 8) with g11 | g11
 ·
  have hw := spec_l1In_fact g11
  refine wg (vf underlying42 rfl type3) (nt g11) ?_
  refine wg (vl 0 1 underlying3) (nt g11) ?_
  refine WM_callV (cl_fn cb128 rfl) (fun W hm => spec_l1In_c W x0.Now 0 100000) (Wd_some rfl rfl rfl (bw (nt g11) rfl)) (by decide) ?_
  refine wg vnot (nt g11) ?_
  refine wv (vpF (nt g11)) ?_
  refine nt' ?_
  rcases Bool.eq_false_or_eq_true (spec_l1In_m x0.Now 0 100000) with g13 | g13
  ·
   have hw := spec_l1In_fact g13
   refine CM_condF rfl (nt g13) ?_
   refine CM_skip (QM_then (CM_seq (sr (wa (nt' (CM_block ?_))))))
   let F1 := fun k (_ : Unit) => spec_IsStore_b1 x0 k
   let R4 := rng (R := Bool) F1
   let I7 : It := iBox p9 42 [.slice A4 x0.Segments.length c5, .int .i64 x0.Now]
   refine CM_loop (σ := Nat × (Unit) × (Unit)) (fun s => [(1, .pointer (some (⟨p9, 0, none⟩ : Addr))), (3, .int .i64 ((s.1 : Nat) : Int))]) (fun s => [I7]) (fun s => s.1 ≤ x0.Segments.length ∧ R4 (x0.Segments.length - s.1) s.1 s.2.1 = R4 (x0.Segments.length - 0) 0 ()) (fun s => x0.Segments.length - s.1) (0, (), ()) sl2 (fun W hm => hm) ⟨(by omega), rfl⟩ ?_
   rintro ⟨k14, ⟨⟩, ⟨⟩⟩ H17
   obtain ⟨hk15, hF16⟩ : k14 ≤ x0.Segments.length ∧ R4 (x0.Segments.length - k14) k14 () = R4 (x0.Segments.length - 0) 0 () := H17
   show CM Tryz.prog 63 _ _ _ _ [(1, .pointer (some (⟨p9, 0, none⟩ : Addr))), (3, .int .i64 ((k14 : Nat) : Int))] [I7]
   refine CM_seq (sr (wm ?_))
   refine wv (vf underlying42 rfl type40) ?_
   refine wv (vl 0 0 underlying40) ?_
   refine wv (vlen underlying40) ?_
   refine wv vlss ?_
   refine nt' ?_
   by_cases hl18 : k14 < x0.Segments.length
   ·have g19 := dlT hl18
    refine CM_condT rfl g19 ?_
    refine CM_skip (QM_then (CM_seq (CM_block (sr ?_))))
    refine wv (vf underlying42 rfl type40) ?_
    refine wv (vl 0 0 underlying40) ?_
    refine wm ?_
    obtain ⟨a20, rfl, hb21, he22⟩ := q6 (by omega)
    refine wv (vix 1 k14 underlying40 type131) ?_
    obtain ⟨_, e24, hc23⟩ := he22 k14 _ (gt_some (show k14 < x0.Segments.length from by omega))
    have l25 : (gt x0.Segments k14).length ≤ 68719476736 := (s_0.2 _ (gt_mem (show k14 < x0.Segments.length from by omega))).1
    obtain ⟨v26, rfl, r27⟩ := e24
    obtain ⟨m28, A29, c30, rfl, q31, r32⟩ := rdS_op r27
    refine wv (fun W hm => rv_load underlying131 rfl rfl ((hm.cell0 (show (a20.add (k14 * 1)).block < w.heap.size from by rw [add_block]; exact hb21.1)).trans (hc23 0 _ rfl))) ?_
    refine wv (vlen underlying131) ?_
    refine wv (fun W hm => rv_gtr rfl rfl) ?_
    refine nt' ?_
    by_cases h33 : 4 < ((((gt x0.Segments k14)).length : Nat) : Int)
    ·have g34 := decide_eq_true h33
     refine CM_condT rfl g34 ?_
     refine sr (wa (nt' (CM_ret (QM_block_ret (QM_then_ret (QM_then_ret (QM_block_ret (QM_then_ret ?_))))))))
     exact rtb (h := cond_t g11 (cond_t g13 (fin_inl (rng_ret (body := F1) (k := k14) (s := ()) (show k14 < x0.Segments.length from by omega) (cond_t g34 (rfl)) hF16) rfl)))
    ·have g34 := decide_eq_false h33
     refine CM_condF rfl g34 ?_
     refine CM_skip (QM_block_normal (QM_then (CM_region (wm ?_))))
     refine wv (vadN k14 1 (by omega)) ?_
     refine wa (WM_nil ?_)
     have hn35 := rng_next (R := Bool) (body := F1) (k := k14) (s := ()) (s' := ()) (show k14 < x0.Segments.length from by omega) (cond_f g34 (rfl)) hF16
     exact QM_round (k14 + 1, (), ()) sl2 (fun W hm => hm) ⟨(by omega), hn35⟩ (rl (by omega))
   ·have g19 := dlF hl18
    refine CM_condF rfl g19 ?_
    refine CM_exit (QM_then_exit (QM_then_exit ?_))
    have hE36 : R4 (x0.Segments.length - 0) 0 () = Sum.inr () := rng_end hl18 hF16
    have HQ := spec_IsStore_hq (by omega) hE36
    refine QM_block_hit (QM_then (sr ?_))
    refine wv (fun W hm => rv_loadN (cs := [.slice A4 x0.Segments.length c5, .int .i64 x0.Now]) underlying42 type42 rfl rfl (hm.boxCells (n := 0) rfl)) ?_
    refine WM_callW (χ := Value) (val := fun x => x) (js := fun x => (iOwn (tSl (tBor tyVersion w w.heap.size) 191) [x] (spec_l7All_m x0) :: [I7])) (cl_fn cb205 rfl) (fun W hm => spec_l7All_c w.heap.size w [I7] W _ x0 (tyStore_mk r7) s_0 (HQ) hm) (Wd_none rfl) (by decide) (fun v37 => ?_)
    refine WM_form (n := 0) rfl ?_
    rintro A38 c39 rfl m40
    refine wa (nt' (CM_seq (sr (wa (nt' (CM_block ?_))))))
    let F2 := fun k (_ : Unit) => spec_IsStore_b2 x0 k
    let R5 := rng (R := Bool) F2
    let I8 : It := iOwn (tSl (tBor tyVersion w w.heap.size) 191) [.slice A38 (spec_l7All_m x0).length c39] (spec_l7All_m x0)
    refine CM_loop (σ := Nat × (Unit) × (Unit)) (fun s => [(1, .pointer (some (⟨p9, 0, none⟩ : Addr))), (4, .slice A38 (spec_l7All_m x0).length c39), (5, .int .i64 ((s.1 : Nat) : Int))]) (fun s => [I8, I7]) (fun s => s.1 ≤ (spec_l7All_m x0).length ∧ R5 ((spec_l7All_m x0).length - s.1) s.1 s.2.1 = R5 ((spec_l7All_m x0).length - 0) 0 ()) (fun s => (spec_l7All_m x0).length - s.1) (0, (), ()) sl3 (fun W hm => hm) ⟨(by omega), rfl⟩ ?_
    rintro ⟨k42, ⟨⟩, ⟨⟩⟩ H45
    obtain ⟨hk43, hF44⟩ : k42 ≤ (spec_l7All_m x0).length ∧ R5 ((spec_l7All_m x0).length - k42) k42 () = R5 ((spec_l7All_m x0).length - 0) 0 () := H45
    show CM Tryz.prog 63 _ _ _ _ [(1, .pointer (some (⟨p9, 0, none⟩ : Addr))), (4, .slice A38 (spec_l7All_m x0).length c39), (5, .int .i64 ((k42 : Nat) : Int))] [I8, I7]
    refine CM_seq (sr (wm (wm ?_)))
    refine wv (vlen underlying131) ?_
    refine wv vlss ?_
    refine nt' ?_
    by_cases hl46 : k42 < (spec_l7All_m x0).length
    ·have g47 := dlT hl46
     refine CM_condT rfl g47 ?_
     refine CM_skip (QM_then (CM_seq (CM_block (CM_seq (CM_seq ?_)))))
     refine CM_formO (n := 0) rfl (by omega) ?_
     rintro g48 rfl
     refine CM_expose (T := tyVersion) (wb := w) (Bb := w.heap.size) (e := 191) (g := g48) (n := (spec_l7All_m x0).length) (c := c39) (xs := (spec_l7All_m x0)) (js := [I7]) (fun W hm => hm) ?_
     rintro ck49 rk50
     refine CM_regionD (by kernel_rfl) (by kernel_rfl) ?_
     refine qm (qm ?_)
     refine qv (vix 4 k42 underlying131 type191) ?_
     obtain ⟨_, e51, hc52⟩ := rk50.get (j := k42) (by omega)
     obtain ⟨v53, rfl, r54⟩ := tyVersion_rd e51
     obtain ⟨m55, A56, c57, rfl, q58, r59⟩ := rdS_op r54
     refine qv (fun W hm => rv_loadN (cs := [.int .i64 ((gt (spec_l7All_m x0) k42).Id), .slice A56 ((gt (spec_l7All_m x0) k42).Values).length c57, .int .i64 ((gt (spec_l7All_m x0) k42).Born), .int .i64 ((gt (spec_l7All_m x0) k42).Died)]) underlying191 type191 rfl rfl (hm.rowCells (i := 0) rfl hc52)) ?_
     refine qv (vf underlying42 rfl type3) ?_
     refine qv (vl 1 1 underlying3) ?_
     refine QR_callV (cl_fn cb206 rfl) (fun W hm => spec_l7Version_c W _ (gt (spec_l7All_m x0) k42) x0.Now (tyVersion_mk (x := (gt (spec_l7All_m x0) k42)) (hm.rdS0 r59))) (Wd_none rfl) (by decide) ?_
     refine qv vnot ?_
     refine nq' ?_
     rcases Bool.eq_false_or_eq_true (spec_l7Version_m (gt (spec_l7All_m x0) k42) x0.Now) with g61 | g61
     ·
      refine CM_condF rfl (nt g61) ?_
      refine CM_skip (QM_then (sr (wa (nt' (CM_block ?_)))))
      refine CM_items (fun W hm => Mem.hide rk50 hm) ?_
      let F3 := fun k (_ : Unit) => spec_IsStore_b3 x0 k42 k
      let R6 := rng (R := Bool) F3
      let I9 : It := iOwn (tSl (tBor tyVersion w w.heap.size) 191) [.slice (some ⟨g48, 0, none⟩) (spec_l7All_m x0).length c39] (spec_l7All_m x0)
      refine CM_loop (σ := Nat × (Unit) × (Unit)) (fun s => [(1, .pointer (some (⟨p9, 0, none⟩ : Addr))), (4, .slice (some ⟨g48, 0, none⟩) (spec_l7All_m x0).length c39), (5, .int .i64 ((k42 : Nat) : Int)), (6, .int .i64 ((s.1 : Nat) : Int))]) (fun s => [I9, I7]) (fun s => s.1 ≤ k42 ∧ R6 (k42 - s.1) s.1 s.2.1 = R6 (k42 - 0) 0 ()) (fun s => k42 - s.1) (0, (), ()) sl4 (fun W hm => hm) ⟨(by omega), rfl⟩ ?_
      rintro ⟨k62, ⟨⟩, ⟨⟩⟩ H65
      obtain ⟨hk63, hF64⟩ : k62 ≤ k42 ∧ R6 (k42 - k62) k62 () = R6 (k42 - 0) 0 () := H65
      show CM Tryz.prog 63 _ _ _ _ [(1, .pointer (some (⟨p9, 0, none⟩ : Addr))), (4, .slice (some ⟨g48, 0, none⟩) (spec_l7All_m x0).length c39), (5, .int .i64 ((k42 : Nat) : Int)), (6, .int .i64 ((k62 : Nat) : Int))] [I9, I7]
      refine CM_seq (sr (wm (wm ?_)))
      refine wv vlss ?_
      refine nt' ?_
      by_cases hl66 : k62 < k42
      ·have g67 := dlT hl66
       refine CM_condT rfl g67 ?_
       refine CM_skip (QM_then (CM_seq (CM_block (CM_seq ?_))))
       refine CM_expose (T := tyVersion) (wb := w) (Bb := w.heap.size) (e := 191) (g := g48) (n := (spec_l7All_m x0).length) (c := c39) (xs := (spec_l7All_m x0)) (js := [I7]) (fun W hm => hm) ?_
       rintro ck68 rk69
       refine CM_regionD (by kernel_rfl) (by kernel_rfl) ?_
       refine qm (qm ?_)
       refine qv (vix 4 k42 underlying131 type191) ?_
       obtain ⟨_, e70, hc71⟩ := rk69.get (j := k42) (by omega)
       obtain ⟨v72, rfl, r73⟩ := tyVersion_rd e70
       obtain ⟨m74, A75, c76, rfl, q77, r78⟩ := rdS_op r73
       refine qv (fun W hm => rv_loadN (cs := [.int .i64 ((gt (spec_l7All_m x0) k42).Id), .slice A75 ((gt (spec_l7All_m x0) k42).Values).length c76, .int .i64 ((gt (spec_l7All_m x0) k42).Born), .int .i64 ((gt (spec_l7All_m x0) k42).Died)]) underlying191 type191 rfl rfl (hm.rowCells (i := 0) rfl hc71)) ?_
       refine qm (qm ?_)
       refine qv (vix 4 k62 underlying131 type191) ?_
       obtain ⟨_, e79, hc80⟩ := rk69.get (j := k62) (by omega)
       obtain ⟨v81, rfl, r82⟩ := tyVersion_rd e79
       obtain ⟨m83, A84, c85, rfl, q86, r87⟩ := rdS_op r82
       refine qv (fun W hm => rv_loadN (cs := [.int .i64 ((gt (spec_l7All_m x0) k62).Id), .slice A84 ((gt (spec_l7All_m x0) k62).Values).length c85, .int .i64 ((gt (spec_l7All_m x0) k62).Born), .int .i64 ((gt (spec_l7All_m x0) k62).Died)]) underlying191 type191 rfl rfl (hm.rowCells (i := 0) rfl hc80)) ?_
       refine QR_callV (cl_fn cb207 rfl) (fun W hm => spec_l7Apart_c W _ (gt (spec_l7All_m x0) k42) _ (gt (spec_l7All_m x0) k62) (tyVersion_mk (x := (gt (spec_l7All_m x0) k42)) (hm.rdS0 r78)) (tyVersion_mk (x := (gt (spec_l7All_m x0) k62)) (hm.rdS0 r87))) (Wd_none rfl) (by decide) ?_
       refine qv vnot ?_
       refine nq' ?_
       rcases Bool.eq_false_or_eq_true (spec_l7Apart_m (gt (spec_l7All_m x0) k42) (gt (spec_l7All_m x0) k62)) with g89 | g89
       ·
        refine CM_condF rfl (nt g89) ?_
        refine CM_skip (QM_block_normal (QM_then (CM_region (wm ?_))))
        refine wv (vadN k62 1 (by omega)) ?_
        refine wa (WM_nil ?_)
        refine QM_items (fun W hm => Mem.hide rk69 hm) ?_
        have hn90 := rng_next (R := Bool) (body := F3) (k := k62) (s := ()) (s' := ()) (show k62 < k42 from by omega) (cond_t g89 (rfl)) hF64
        exact QM_round (k62 + 1, (), ()) sl4 (fun W hm => hm) ⟨(by omega), hn90⟩ (rl (by omega))
       ·
        refine CM_condT rfl (nf g89) ?_
        refine sr (wa (nt' (CM_ret (QM_block_ret (QM_then_ret (QM_then_ret (QM_block_ret (QM_block_ret (QM_then_ret (QM_then_ret (QM_block_ret (QM_then_ret ?_))))))))))))
        refine QM_items (fun W hm => Mem.hide rk69 hm) ?_
        exact rtb (h := cond_t g11 (cond_t g13 (fin_inr hE36 (fin_inl (rng_ret (body := F2) (k := k42) (s := ()) (show k42 < (spec_l7All_m x0).length from by omega) (cond_t g61 (fin_inl (rng_ret (body := F3) (k := k62) (s := ()) (show k62 < k42 from by omega) (cond_f g89 (rfl)) hF64) rfl)) hF44) rfl))))
      ·have g67 := dlF hl66
       refine CM_condF rfl g67 ?_
       refine CM_exit (QM_then_exit (QM_then_exit ?_))
       have hE91 : R6 (k42 - 0) 0 () = Sum.inr () := rng_end hl66 hF64
       refine QM_block_hit (QM_block_normal (QM_then (CM_region (wm ?_))))
       refine wv (vadN k42 1 (by omega)) ?_
       refine wa (WM_nil ?_)
       have hn92 := rng_next (R := Bool) (body := F2) (k := k42) (s := ()) (s' := ()) (show k42 < (spec_l7All_m x0).length from by omega) (cond_t g61 (fin_inr hE91 (rfl))) hF44
       exact QM_round (k42 + 1, (), ()) sl3 (fun W hm => hm) ⟨(by omega), hn92⟩ (show (spec_l7All_m x0).length - (k42 + 1) < (spec_l7All_m x0).length - k42 from by omega)
     ·
      refine CM_condT rfl (nf g61) ?_
      refine sr (wa (nt' (CM_ret (QM_then_ret (QM_block_ret (QM_then_ret (QM_then_ret (QM_block_ret (QM_then_ret ?_)))))))))
      refine QM_items (fun W hm => Mem.hide rk50 hm) ?_
      exact rtb (h := cond_t g11 (cond_t g13 (fin_inr hE36 (fin_inl (rng_ret (body := F2) (k := k42) (s := ()) (show k42 < (spec_l7All_m x0).length from by omega) (cond_f g61 (rfl)) hF44) rfl))))
    ·have g47 := dlF hl46
     refine CM_condF rfl g47 ?_
     refine CM_exit (QM_then_exit (QM_then_exit ?_))
     have hE93 : R5 ((spec_l7All_m x0).length - 0) 0 () = Sum.inr () := rng_end hl46 hF44
     refine QM_block_hit (QM_then (sr (wa (nt' (CM_ret ?_)))))
     exact rtb (h := cond_t g11 (cond_t g13 (fin_inr hE36 (fin_inr hE93 (rfl)))))
  ·
   refine CM_condT rfl (nf g13) ?_
   refine sr (wa (nt' (CM_ret (QM_then_ret ?_))))
   exact rtb (h := cond_t g11 (cond_f g13 (rfl)))
 ·
  refine ws (nf g11) ?_
  refine ws (nf g11) ?_
  refine ws (nf g11) ?_
  refine ws (nf g11) ?_
  refine wv (vpT (nf g11)) ?_
  refine nt' ?_
  refine CM_condT rfl rfl ?_
  refine sr (wa (nt' (CM_ret (QM_then_ret ?_))))
  exact rtb (h := cond_f g11 (rfl))

def spec_HasMember_b1 (x0 : (List Int)) (x1 : Int) (k6 : Nat) : Bool ⊕ (Unit) :=
 cond ((gt x0 k6) == x1) (Sum.inl true) (Sum.inr ())
def spec_HasMember_m (x0 : (List Int)) (x1 : Int) : Bool :=
 Sum.elim id (fun (s : Unit) => false) (rng (R := Bool) (fun k (_ : Unit) => spec_HasMember_b1 x0 x1 k) (x0.length - 0) 0 ())
theorem cb116 : Cb Tryz.prog 116 := ⟨f116, _, func116, rfl, by decide⟩
theorem spec_HasMember_c (w : World) (z0 : Value) (x0 : (List Int)) (x1 : Int) (r_0 : rdS tInt w w.heap.size z0 x0) :
  Calls Tryz.prog 116 #[z0, .int .i64 x1] w fun e w' => e = .returned (.bool (spec_HasMember_m x0 x1)) ∧ Below w.heap.size w w' := by
 obtain ⟨m1, A2, c3, rfl, q4, r5⟩ := rdS_op r_0
 refine ce2 (L := [(0, .slice A2 x0.length c3), (1, .int .i64 x1)]) (N := 18) func116 ?_
 refine sr (wa (nt' (CM_seq (sr (wa (nt' (CM_block ?_)))))))
 let F1 := fun k (_ : Unit) => spec_HasMember_b1 x0 x1 k
 let R2 := rng (R := Bool) F1
 refine CM_loop (σ := Nat × (Unit) × (Unit)) (fun s => [(0, .slice A2 x0.length c3), (1, .int .i64 x1), (5, .int .i64 ((s.1 : Nat) : Int))]) (fun s => []) (fun s => s.1 ≤ x0.length ∧ R2 (x0.length - s.1) s.1 s.2.1 = R2 (x0.length - 0) 0 ()) (fun s => x0.length - s.1) (0, (), ()) sl3 (fun W hm => hm) ⟨(by omega), rfl⟩ ?_
 rintro ⟨k6, ⟨⟩, ⟨⟩⟩ H9
 obtain ⟨hk7, hF8⟩ : k6 ≤ x0.length ∧ R2 (x0.length - k6) k6 () = R2 (x0.length - 0) 0 () := H9
 show CM Tryz.prog 18 _ _ _ _ [(0, .slice A2 x0.length c3), (1, .int .i64 x1), (5, .int .i64 ((k6 : Nat) : Int))] []
 refine CM_seq (sr (wm (wm ?_)))
 refine wv (vlen underlying25) ?_
 refine wv vlss ?_
 refine nt' ?_
 by_cases hl10 : k6 < x0.length
 ·have g11 := dlT hl10
  refine CM_condT rfl g11 ?_
  refine CM_skip (QM_then (CM_seq (CM_block (sr (wm (wm ?_))))))
  obtain ⟨a12, rfl, hb13, he14⟩ := q4 (by omega)
  refine wv (vix 1 k6 underlying25 type3) ?_
  refine wv (fun W hm => rv_load underlying3 rfl rfl ((hm.cell0 (show (a12.add (k6 * 1)).block < w.heap.size from by rw [add_block]; exact hb13.1)).trans (rdS_int he14 k6 (by omega)))) ?_
  refine wm ?_
  refine wv (fun W hm => rv_eql rfl rfl) ?_
  refine nt' ?_
  by_cases h15 : (gt x0 k6) = x1
  ·have g16 := beq_iff_eq.2 h15
   refine CM_condT rfl g16 ?_
   refine sr (wa (nt' (CM_ret (QM_block_ret (QM_then_ret (QM_then_ret (QM_block_ret (QM_then_ret ?_))))))))
   exact rtb (h := fin_inl (rng_ret (body := F1) (k := k6) (s := ()) (show k6 < x0.length from by omega) (cond_t g16 (rfl)) hF8) rfl)
  ·have g16 := beq_eq_false_iff_ne.2 h15
   refine CM_condF rfl g16 ?_
   refine CM_skip (QM_block_normal (QM_then (CM_region (wm ?_))))
   refine wv (vadN k6 1 (by omega)) ?_
   refine wa (WM_nil ?_)
   have hn17 := rng_next (R := Bool) (body := F1) (k := k6) (s := ()) (s' := ()) (show k6 < x0.length from by omega) (cond_f g16 (rfl)) hF8
   exact QM_round (k6 + 1, (), ()) sl3 (fun W hm => hm) ⟨(by omega), hn17⟩ (rl (by omega))
 ·have g11 := dlF hl10
  refine CM_condF rfl g11 ?_
  refine CM_exit (QM_then_exit (QM_then_exit ?_))
  have hE18 : R2 (x0.length - 0) 0 () = Sum.inr () := rng_end hl10 hF8
  refine QM_block_hit (QM_then (sr (wa (nt' (CM_ret ?_)))))
  exact rtb (h := fin_inr hE18 (rfl))

def spec_l6Order_b1 (x0 : (List Int)) (k8 : Nat) : Bool ⊕ (Unit) :=
 cond (spec_l1In_m (gt x0 k8) 0 2) (cond (spec_HasMember_m (List.take k8 x0) (gt x0 k8)) (Sum.inl false) (Sum.inr ())) (Sum.inl false)
def spec_l6Order_m (x0 : (List Int)) : Bool :=
 cond (((x0.length : Nat) : Int) != 3) false (Sum.elim id (fun (s : Unit) => true) (rng (R := Bool) (fun k (_ : Unit) => spec_l6Order_b1 x0 k) (x0.length - 0) 0 ()))
theorem cb137 : Cb Tryz.prog 137 := ⟨f137, _, func137, rfl, by decide⟩
theorem spec_l6Order_c (w : World) (z0 : Value) (x0 : (List Int)) (r_0 : rdS tInt w w.heap.size z0 x0) :
  Calls Tryz.prog 137 #[z0] w fun e w' => e = .returned (.bool (spec_l6Order_m x0)) ∧ Below w.heap.size w w' := by
 obtain ⟨m1, A2, c3, rfl, q4, r5⟩ := rdS_op r_0
 refine ce1 (L := [(0, .slice A2 x0.length c3)]) (N := 29) func137 ?_
 refine sr (wa (nt' (CM_seq (sr (wm ?_)))))
 refine wv (vlen underlying25) ?_
 refine wv vneq ?_
 refine nt' ?_
 by_cases h6 : ((x0.length : Nat) : Int) = 3
 ·have g7 : (((x0.length : Nat) : Int) != 3) = false := by rw [h6]; exact bne_self_eq_false _
  refine CM_condF rfl g7 ?_
  refine CM_skip (QM_then (CM_seq (sr (wa (nt' (CM_block ?_))))))
  let F1 := fun k (_ : Unit) => spec_l6Order_b1 x0 k
  let R2 := rng (R := Bool) F1
  refine CM_loop (σ := Nat × (Unit) × (Unit)) (fun s => [(0, .slice A2 x0.length c3), (3, .int .i64 ((s.1 : Nat) : Int))]) (fun s => []) (fun s => s.1 ≤ x0.length ∧ R2 (x0.length - s.1) s.1 s.2.1 = R2 (x0.length - 0) 0 ()) (fun s => x0.length - s.1) (0, (), ()) sl2 (fun W hm => hm) ⟨(by omega), rfl⟩ ?_
  rintro ⟨k8, ⟨⟩, ⟨⟩⟩ H11
  obtain ⟨hk9, hF10⟩ : k8 ≤ x0.length ∧ R2 (x0.length - k8) k8 () = R2 (x0.length - 0) 0 () := H11
  show CM Tryz.prog 29 _ _ _ _ [(0, .slice A2 x0.length c3), (3, .int .i64 ((k8 : Nat) : Int))] []
  refine CM_seq (sr (wm (wm ?_)))
  refine wv (vlen underlying25) ?_
  refine wv vlss ?_
  refine nt' ?_
  by_cases hl12 : k8 < x0.length
  ·have g13 := dlT hl12
   refine CM_condT rfl g13 ?_
   refine CM_skip (QM_then (CM_seq (CM_block (CM_seq ?_))))
   refine CM_regionD (by kernel_rfl) (by kernel_rfl) ?_
   refine qm (qm ?_)
   obtain ⟨a14, rfl, hb15, he16⟩ := q4 (by omega)
   refine qv (vix 1 k8 underlying25 type3) ?_
   refine qv (fun W hm => rv_load underlying3 rfl rfl ((hm.cell0 (show (a14.add (k8 * 1)).block < w.heap.size from by rw [add_block]; exact hb15.1)).trans (rdS_int he16 k8 (by omega)))) ?_
   refine QR_callV (cl_fn cb128 rfl) (fun W hm => spec_l1In_c W (gt x0 k8) 0 2) (Wd_none rfl) (by decide) ?_
   refine qv vnot ?_
   refine qm ?_
   rcases Bool.eq_false_or_eq_true (spec_l1In_m (gt x0 k8) 0 2) with g18 | g18
   ·
    have hw := spec_l1In_fact g18
    refine qg vmv (nt g18) ?_
    refine qg vmv (nt g18) ?_
    have hc21 := rdS_cap r5
    have r19 := rdS_take (k := k8) (by omega) r5
    refine qg (fun W hm => rv_sliceHi (k := k8) underlying25 type3 rfl rfl (by omega)) (nt g18) ?_
    refine qg vmv (nt g18) ?_
    refine qg vmv (nt g18) ?_
    refine qg (vix 1 k8 underlying25 type3) (nt g18) ?_
    refine qg (fun W hm => rv_load underlying3 rfl rfl ((hm.cell0 (show (a14.add (k8 * 1)).block < w.heap.size from by rw [add_block]; exact hb15.1)).trans (rdS_int he16 k8 (by omega)))) (nt g18) ?_
    refine QR_callV (cl_fn cb116 rfl) (fun W hm => spec_HasMember_c W _ (List.take k8 x0) (gt x0 k8) (hm.rdS0 r19)) (Wd_some rfl rfl rfl (bw (nt g18) rfl)) (by decide) ?_
    refine qv (vpF (nt g18)) ?_
    refine nq' ?_
    rcases Bool.eq_false_or_eq_true (spec_HasMember_m (List.take k8 x0) (gt x0 k8)) with g23 | g23
    ·
     refine CM_condT rfl g23 ?_
     refine sr (wa (nt' (CM_ret (QM_block_ret (QM_then_ret (QM_then_ret (QM_block_ret (QM_then_ret ?_))))))))
     exact rtb (h := cond_f g7 (fin_inl (rng_ret (body := F1) (k := k8) (s := ()) (show k8 < x0.length from by omega) (cond_t g18 (cond_t g23 (rfl))) hF10) rfl))
    ·
     refine CM_condF rfl g23 ?_
     refine CM_skip (QM_block_normal (QM_then (CM_region (wm ?_))))
     refine wv (vadN k8 1 (by omega)) ?_
     refine wa (WM_nil ?_)
     have hn24 := rng_next (R := Bool) (body := F1) (k := k8) (s := ()) (s' := ()) (show k8 < x0.length from by omega) (cond_t g18 (cond_f g23 (rfl))) hF10
     exact QM_round (k8 + 1, (), ()) sl2 (fun W hm => hm) ⟨(by omega), hn24⟩ (rl (by omega))
   ·
    refine qs (nf g18) ?_
    refine qs (nf g18) ?_
    refine qs (nf g18) ?_
    refine qs (nf g18) ?_
    refine qs (nf g18) ?_
    refine qs (nf g18) ?_
    refine qs (nf g18) ?_
    refine qs (nf g18) ?_
    refine qv (vpT (nf g18)) ?_
    refine nq' ?_
    refine CM_condT rfl rfl ?_
    refine sr (wa (nt' (CM_ret (QM_block_ret (QM_then_ret (QM_then_ret (QM_block_ret (QM_then_ret ?_))))))))
    exact rtb (h := cond_f g7 (fin_inl (rng_ret (body := F1) (k := k8) (s := ()) (show k8 < x0.length from by omega) (cond_f g18 (rfl)) hF10) rfl))
  ·have g13 := dlF hl12
   refine CM_condF rfl g13 ?_
   refine CM_exit (QM_then_exit (QM_then_exit ?_))
   have hE25 : R2 (x0.length - 0) 0 () = Sum.inr () := rng_end hl12 hF10
   refine QM_block_hit (QM_then (sr (wa (nt' (CM_ret ?_)))))
   exact rtb (h := cond_f g7 (fin_inr hE25 (rfl)))
 ·have g7 : (((x0.length : Nat) : Int) != 3) = true := bne_iff_ne.2 h6
  refine CM_condT rfl g7 ?_
  refine sr (wa (nt' (CM_ret (QM_then_ret ?_))))
  exact rtb (h := cond_t g7 (rfl))

def spec_IsCond_m (x0 : DCond) : Bool :=
 cond (spec_l1In_m x0.Field 0 2) (cond (spec_l1In_m x0.Low 0 x0.High) (decide (x0.High ≤ 99)) false) false
theorem cb190 : Cb Tryz.prog 190 := ⟨f190, _, func190, rfl, by decide⟩
theorem spec_IsCond_c (w : World) (z0 : List Value) (x0 : DCond) (r_0 : tyCond.rd w w.heap.size z0 x0) :
  Calls Tryz.prog 190 #[.agg z0.toArray] w fun e w' => e = .returned (.bool (spec_IsCond_m x0)) ∧ Below w.heap.size w w' := by
 obtain rfl := tyCond_rd r_0
 refine ce1 (L := [(0, .agg #[.int .i64 x0.Field, .int .i64 x0.Low, .int .i64 x0.High])]) (N := 18) func190 ?_
 refine sr ?_
 refine WM_box rfl (Wd_none rfl) (by decide) (fun p1 => ?_)
 refine wa (nt' (sr ?_))
 refine wv (vf underlying201 rfl type3) ?_
 refine wv (vl 0 0 underlying3) ?_
 refine wcv (cl_fn cb128 rfl) (fun W hm => spec_l1In_c W x0.Field 0 2) ?_
 refine wm ?_
 rcases Bool.eq_false_or_eq_true (spec_l1In_m x0.Field 0 2) with g3 | g3
 ·
  have hw := spec_l1In_fact g3
  refine wg (vf underlying201 rfl type3) g3 ?_
  refine wg (vl 0 1 underlying3) g3 ?_
  refine wg (vf underlying201 rfl type3) g3 ?_
  refine wg (vl 0 2 underlying3) g3 ?_
  refine WM_callV (cl_fn cb128 rfl) (fun W hm => spec_l1In_c W x0.Low 0 x0.High) (Wd_some rfl rfl rfl (bw g3 rfl)) (by decide) ?_
  refine wv (vpT g3) ?_
  refine wm ?_
  rcases Bool.eq_false_or_eq_true (spec_l1In_m x0.Low 0 x0.High) with g5 | g5
  ·
   have hw := spec_l1In_fact g5
   refine wg (vf underlying201 rfl type3) g5 ?_
   refine wg (vl 0 2 underlying3) g5 ?_
   refine wg (fun W hm => rv_leq rfl rfl) g5 ?_
   refine wv (vpT g5) ?_
   refine wa (nt' (CM_ret ?_))
   exact rtb (h := cond_t g3 (cond_t g5 (rfl)))
  ·
   refine ws g5 ?_
   refine ws g5 ?_
   refine ws g5 ?_
   refine wv (vpF g5) ?_
   refine wa (nt' (CM_ret ?_))
   exact rtb (h := cond_t g3 (cond_f g5 (rfl)))
 ·
  refine ws g3 ?_
  refine ws g3 ?_
  refine ws g3 ?_
  refine ws g3 ?_
  refine ws g3 ?_
  refine wv (vpF g3) ?_
  refine wm ?_
  refine wk ?_
  refine wk ?_
  refine wk ?_
  refine wv (vpF rfl) ?_
  refine wa (nt' (CM_ret ?_))
  exact rtb (h := cond_f g3 (rfl))

def spec_l4Fields_b1 (x0 : (List Int)) (k6 : Nat) : Bool ⊕ (Unit) :=
 cond (spec_l1In_m (gt x0 k6) 0 2) (Sum.inr ()) (Sum.inl false)
def spec_l4Fields_m (x0 : (List Int)) : Bool :=
 Sum.elim id (fun (s : Unit) => (spec_l1In_m ((x0.length : Nat) : Int) 1 3)) (rng (R := Bool) (fun k (_ : Unit) => spec_l4Fields_b1 x0 k) (x0.length - 0) 0 ())
theorem cb191 : Cb Tryz.prog 191 := ⟨f191, _, func191, rfl, by decide⟩
theorem spec_l4Fields_c (w : World) (z0 : Value) (x0 : (List Int)) (r_0 : rdS tInt w w.heap.size z0 x0) :
  Calls Tryz.prog 191 #[z0] w fun e w' => e = .returned (.bool (spec_l4Fields_m x0)) ∧ Below w.heap.size w w' := by
 obtain ⟨m1, A2, c3, rfl, q4, r5⟩ := rdS_op r_0
 refine ce1 (L := [(0, .slice A2 x0.length c3)]) (N := 19) func191 ?_
 refine sr (wa (nt' (CM_seq (sr (wa (nt' (CM_block ?_)))))))
 let F1 := fun k (_ : Unit) => spec_l4Fields_b1 x0 k
 let R2 := rng (R := Bool) F1
 refine CM_loop (σ := Nat × (Unit) × (Unit)) (fun s => [(0, .slice A2 x0.length c3), (3, .int .i64 ((s.1 : Nat) : Int))]) (fun s => []) (fun s => s.1 ≤ x0.length ∧ R2 (x0.length - s.1) s.1 s.2.1 = R2 (x0.length - 0) 0 ()) (fun s => x0.length - s.1) (0, (), ()) sl2 (fun W hm => hm) ⟨(by omega), rfl⟩ ?_
 rintro ⟨k6, ⟨⟩, ⟨⟩⟩ H9
 obtain ⟨hk7, hF8⟩ : k6 ≤ x0.length ∧ R2 (x0.length - k6) k6 () = R2 (x0.length - 0) 0 () := H9
 show CM Tryz.prog 19 _ _ _ _ [(0, .slice A2 x0.length c3), (3, .int .i64 ((k6 : Nat) : Int))] []
 refine CM_seq (sr (wm (wm ?_)))
 refine wv (vlen underlying25) ?_
 refine wv vlss ?_
 refine nt' ?_
 by_cases hl10 : k6 < x0.length
 ·have g11 := dlT hl10
  refine CM_condT rfl g11 ?_
  refine CM_skip (QM_then (CM_seq (CM_block (sr (wm (wm ?_))))))
  obtain ⟨a12, rfl, hb13, he14⟩ := q4 (by omega)
  refine wv (vix 1 k6 underlying25 type3) ?_
  refine wv (fun W hm => rv_load underlying3 rfl rfl ((hm.cell0 (show (a12.add (k6 * 1)).block < w.heap.size from by rw [add_block]; exact hb13.1)).trans (rdS_int he14 k6 (by omega)))) ?_
  refine wcv (cl_fn cb128 rfl) (fun W hm => spec_l1In_c W (gt x0 k6) 0 2) ?_
  refine wv vnot ?_
  refine nt' ?_
  rcases Bool.eq_false_or_eq_true (spec_l1In_m (gt x0 k6) 0 2) with g16 | g16
  ·
   have hw := spec_l1In_fact g16
   refine CM_condF rfl (nt g16) ?_
   refine CM_skip (QM_block_normal (QM_then (CM_region (wm ?_))))
   refine wv (vadN k6 1 (by omega)) ?_
   refine wa (WM_nil ?_)
   have hn17 := rng_next (R := Bool) (body := F1) (k := k6) (s := ()) (s' := ()) (show k6 < x0.length from by omega) (cond_t g16 (rfl)) hF8
   exact QM_round (k6 + 1, (), ()) sl2 (fun W hm => hm) ⟨(by omega), hn17⟩ (rl (by omega))
  ·
   refine CM_condT rfl (nf g16) ?_
   refine sr (wa (nt' (CM_ret (QM_block_ret (QM_then_ret (QM_then_ret (QM_block_ret (QM_then_ret ?_))))))))
   exact rtb (h := fin_inl (rng_ret (body := F1) (k := k6) (s := ()) (show k6 < x0.length from by omega) (cond_f g16 (rfl)) hF8) rfl)
 ·have g11 := dlF hl10
  refine CM_condF rfl g11 ?_
  refine CM_exit (QM_then_exit (QM_then_exit ?_))
  have hE18 : R2 (x0.length - 0) 0 () = Sum.inr () := rng_end hl10 hF8
  refine QM_block_hit (QM_then (sr (wm ?_)))
  refine wv (vlen underlying25) ?_
  refine wcv (cl_fn cb128 rfl) (fun W hm => spec_l1In_c W ((x0.length : Nat) : Int) 1 3) ?_
  refine wa (nt' (CM_ret ?_))
  exact rtb (h := fin_inr hE18 (rfl))

def spec_IsQuery_b1 (x0 : DQuery) (k16 : Nat) : Bool ⊕ (Unit) :=
 cond (spec_IsCond_m (gt x0.Conds k16)) (cond (decide (0 < ((k16 : Nat) : Int))) (cond (decide (((gt x0.Conds k16).Field) ≤ ((gt x0.Conds (k16 - 1)).Field))) (Sum.inl false) (Sum.inr ())) (Sum.inr ())) (Sum.inl false)
def spec_IsQuery_m (x0 : DQuery) : Bool :=
 Sum.elim id (fun (s : Unit) => cond (spec_l1In_m x0.Id 0 23) (cond (spec_l1In_m x0.Tenant 0 3) (cond (decide (((x0.Conds.length : Nat) : Int) ≤ 3)) (spec_l4Fields_m x0.Out) false) false) false) (rng (R := Bool) (fun k (_ : Unit) => spec_IsQuery_b1 x0 k) (x0.Conds.length - 0) 0 ())
theorem cb127 : Cb Tryz.prog 127 := ⟨f127, _, func127, rfl, by decide⟩
theorem spec_IsQuery_c (w : World) (z0 : List Value) (x0 : DQuery) (r_0 : tyQuery.rd w w.heap.size z0 x0) :
  Calls Tryz.prog 127 #[.agg z0.toArray] w fun e w' => e = .returned (.bool (spec_IsQuery_m x0)) ∧ Below w.heap.size w w' := by
 obtain ⟨v1, v3, rfl, r2, r4⟩ := tyQuery_rd r_0
 obtain ⟨m5, A6, c7, rfl, q8, r9⟩ := rdS_op r2
 obtain ⟨m10, A11, c12, rfl, q13, r14⟩ := rdS_op r4
 refine ce1 (L := [(0, .agg #[.int .i64 x0.Id, .int .i64 x0.Tenant, .slice A6 x0.Conds.length c7, .slice A11 x0.Out.length c12])]) (N := 57) func127 ?_
 refine sr ?_
 refine WM_box rfl (Wd_none rfl) (by decide) (fun p15 => ?_)
 refine wa (nt' (CM_seq (sr (wa (nt' (CM_block ?_))))))
 let F1 := fun k (_ : Unit) => spec_IsQuery_b1 x0 k
 let R2 := rng (R := Bool) F1
 let K3 : List Value := [.int .i64 x0.Id, .int .i64 x0.Tenant, .slice A6 x0.Conds.length c7, .slice A11 x0.Out.length c12]
 refine CM_loop (σ := Nat × (Unit) × (Unit)) (fun s => [(1, .pointer (some (⟨p15, 0, none⟩ : Addr))), (3, .int .i64 ((s.1 : Nat) : Int))]) (fun s => [iBox p15 34 K3]) (fun s => s.1 ≤ x0.Conds.length ∧ R2 (x0.Conds.length - s.1) s.1 s.2.1 = R2 (x0.Conds.length - 0) 0 ()) (fun s => x0.Conds.length - s.1) (0, (), ()) sl2 (fun W hm => hm) ⟨(by omega), rfl⟩ ?_
 rintro ⟨k16, ⟨⟩, ⟨⟩⟩ H19
 obtain ⟨hk17, hF18⟩ : k16 ≤ x0.Conds.length ∧ R2 (x0.Conds.length - k16) k16 () = R2 (x0.Conds.length - 0) 0 () := H19
 show CM Tryz.prog 57 _ _ _ _ [(1, .pointer (some (⟨p15, 0, none⟩ : Addr))), (3, .int .i64 ((k16 : Nat) : Int))] [iBox p15 34 K3]
 refine CM_seq (sr (wm ?_))
 refine wv (vf underlying34 rfl type32) ?_
 refine wv (vl 0 2 underlying32) ?_
 refine wv (vlen underlying32) ?_
 refine wv vlss ?_
 refine nt' ?_
 by_cases hl20 : k16 < x0.Conds.length
 ·have g21 := dlT hl20
  refine CM_condT rfl g21 ?_
  refine CM_skip (QM_then (CM_seq (CM_block (CM_seq ?_))))
  refine CM_regionD (by kernel_rfl) (by kernel_rfl) ?_
  refine qv (vf underlying34 rfl type32) ?_
  refine qv (vl 0 2 underlying32) ?_
  refine qm ?_
  obtain ⟨a22, rfl, hb23, he24⟩ := q8 (by omega)
  refine qv (vix 3 k16 underlying32 type201) ?_
  obtain ⟨_, e26, hc25⟩ := he24 k16 _ (gt_some (show k16 < x0.Conds.length from by omega))
  obtain rfl := tyCond_rd e26
  refine qv (fun W hm => rv_loadN (cs := [.int .i64 ((gt x0.Conds k16).Field), .int .i64 ((gt x0.Conds k16).Low), .int .i64 ((gt x0.Conds k16).High)]) underlying201 type201 rfl rfl (hm.elCells (show (a22.add (k16 * 3)).block < w.heap.size from by rw [add_block]; exact hb23.1) hc25)) ?_
  refine QR_callV (cl_fn cb190 rfl) (fun W hm => spec_IsCond_c W _ (gt x0.Conds k16) (tyCond_mk (x := (gt x0.Conds k16)))) (Wd_none rfl) (by decide) ?_
  refine qv vnot ?_
  refine qm ?_
  rcases Bool.eq_false_or_eq_true (spec_IsCond_m (gt x0.Conds k16)) with g28 | g28
  ·
   refine qg vmv (nt g28) ?_
   refine qg (fun W hm => rv_gtr rfl rfl) (nt g28) ?_
   refine qg vmv (nt g28) ?_
   by_cases h29 : 0 < ((k16 : Nat) : Int)
   ·have g30 := decide_eq_true h29
    refine qg (vf underlying34 rfl type32) g30 ?_
    refine qg (vl 0 2 underlying32) g30 ?_
    refine qg vmv g30 ?_
    refine qg (vix 3 k16 underlying32 type201) g30 ?_
    refine qg (vf underlying201 rfl type3) g30 ?_
    refine qg (fun W hm => rv_load underlying3 rfl rfl ((hm.cell0 (show ((a22.add (k16 * 3)).add 0).block < w.heap.size from by rw [add_block, add_block]; exact hb23.1)).trans (hc25 0 _ rfl))) g30 ?_
    refine qg (vf underlying34 rfl type32) g30 ?_
    refine qg (vl 0 2 underlying32) g30 ?_
    refine qg vmv g30 ?_
    refine qg (fun W hm => rv_subN (p := k16) (q := 1) rfl rfl (by omega) (by omega)) g30 ?_
    refine qg (fun W hm => rv_index (sz := 3) (k := k16 - 1) underlying32 type201 rfl rfl rfl (by omega)) g30 ?_
    refine qg (vf underlying201 rfl type3) g30 ?_
    obtain ⟨_, e32, hc31⟩ := he24 (k16 - 1) _ (gt_some (show (k16 - 1) < x0.Conds.length from by omega))
    obtain rfl := tyCond_rd e32
    refine qg (fun W hm => rv_load underlying3 rfl rfl ((hm.cell0 (show ((a22.add ((k16 - 1) * 3)).add 0).block < w.heap.size from by rw [add_block, add_block]; exact hb23.1)).trans (hc31 0 _ rfl))) g30 ?_
    refine qg (fun W hm => rv_leq rfl rfl) g30 ?_
    refine qg (vpT g30) (nt g28) ?_
    refine qv (vpF (nt g28)) ?_
    refine nq' ?_
    by_cases h33 : ((gt x0.Conds k16).Field) ≤ ((gt x0.Conds (k16 - 1)).Field)
    ·have g34 := decide_eq_true h33
     refine CM_condT rfl g34 ?_
     refine sr (wa (nt' (CM_ret (QM_block_ret (QM_then_ret (QM_then_ret (QM_block_ret (QM_then_ret ?_))))))))
     exact rtb (h := fin_inl (rng_ret (body := F1) (k := k16) (s := ()) (show k16 < x0.Conds.length from by omega) (cond_t g28 (cond_t g30 (cond_t g34 (rfl)))) hF18) rfl)
    ·have g34 := decide_eq_false h33
     refine CM_condF rfl g34 ?_
     refine CM_skip (QM_block_normal (QM_then (CM_region (wm ?_))))
     refine wv (vadN k16 1 (by omega)) ?_
     refine wa (WM_nil ?_)
     have hn35 := rng_next (R := Bool) (body := F1) (k := k16) (s := ()) (s' := ()) (show k16 < x0.Conds.length from by omega) (cond_t g28 (cond_t g30 (cond_f g34 (rfl)))) hF18
     exact QM_round (k16 + 1, (), ()) sl2 (fun W hm => hm) ⟨(by omega), hn35⟩ (rl (by omega))
   ·have g30 := decide_eq_false h29
    refine qs g30 ?_
    refine qs g30 ?_
    refine qs g30 ?_
    refine qs g30 ?_
    refine qs g30 ?_
    refine qs g30 ?_
    refine qs g30 ?_
    refine qs g30 ?_
    refine qs g30 ?_
    refine qs g30 ?_
    refine qs g30 ?_
    refine qs g30 ?_
    refine qs g30 ?_
    refine qs g30 ?_
    refine qg (vpF g30) (nt g28) ?_
    refine qv (vpF (nt g28)) ?_
    refine nq' ?_
    refine CM_condF rfl rfl ?_
    refine CM_skip (QM_block_normal (QM_then (CM_region (wm ?_))))
    refine wv (vadN k16 1 (by omega)) ?_
    refine wa (WM_nil ?_)
    have hn36 := rng_next (R := Bool) (body := F1) (k := k16) (s := ()) (s' := ()) (show k16 < x0.Conds.length from by omega) (cond_t g28 (cond_f g30 (rfl))) hF18
    exact QM_round (k16 + 1, (), ()) sl2 (fun W hm => hm) ⟨(by omega), hn36⟩ (rl (by omega))
  ·
   refine qs (nf g28) ?_
   refine qs (nf g28) ?_
   refine qs (nf g28) ?_
   refine qu ?_
   refine qu ?_
   refine qu ?_
   refine qu ?_
   refine qu ?_
   refine qu ?_
   refine qu ?_
   refine qu ?_
   refine qu ?_
   refine qu ?_
   refine qu ?_
   refine qu ?_
   refine qu ?_
   refine qu ?_
   refine qs (nf g28) ?_
   refine qv (vpT (nf g28)) ?_
   refine nq' ?_
   refine CM_condT rfl rfl ?_
   refine sr (wa (nt' (CM_ret (QM_block_ret (QM_then_ret (QM_then_ret (QM_block_ret (QM_then_ret ?_))))))))
   exact rtb (h := fin_inl (rng_ret (body := F1) (k := k16) (s := ()) (show k16 < x0.Conds.length from by omega) (cond_f g28 (rfl)) hF18) rfl)
 ·have g21 := dlF hl20
  refine CM_condF rfl g21 ?_
  refine CM_exit (QM_then_exit (QM_then_exit ?_))
  have hE37 : R2 (x0.Conds.length - 0) 0 () = Sum.inr () := rng_end hl20 hF18
  refine QM_block_hit (QM_then (sr ?_))
  refine wv (vf underlying34 rfl type3) ?_
  refine wv (vl 0 0 underlying3) ?_
  refine wcv (cl_fn cb128 rfl) (fun W hm => spec_l1In_c W x0.Id 0 23) ?_
  refine wm ?_
  rcases Bool.eq_false_or_eq_true (spec_l1In_m x0.Id 0 23) with g39 | g39
  ·
   have hw := spec_l1In_fact g39
   refine wg (vf underlying34 rfl type3) g39 ?_
   refine wg (vl 0 1 underlying3) g39 ?_
   refine WM_callV (cl_fn cb128 rfl) (fun W hm => spec_l1In_c W x0.Tenant 0 3) (Wd_some rfl rfl rfl (bw g39 rfl)) (by decide) ?_
   refine wv (vpT g39) ?_
   refine wm ?_
   rcases Bool.eq_false_or_eq_true (spec_l1In_m x0.Tenant 0 3) with g41 | g41
   ·
    have hw := spec_l1In_fact g41
    refine wg (vf underlying34 rfl type32) g41 ?_
    refine wg (vl 0 2 underlying32) g41 ?_
    refine wg (vlen underlying32) g41 ?_
    refine wg (fun W hm => rv_leq rfl rfl) g41 ?_
    refine wv (vpT g41) ?_
    refine wm ?_
    by_cases h42 : ((x0.Conds.length : Nat) : Int) ≤ 3
    ·have g43 := decide_eq_true h42
     refine wg (vf underlying34 rfl type25) g43 ?_
     refine wg (vl 0 3 underlying25) g43 ?_
     refine WM_callV (cl_fn cb191 rfl) (fun W hm => spec_l4Fields_c W _ x0.Out (hm.rdS0 r14)) (Wd_some rfl rfl rfl (bw g43 rfl)) (by decide) ?_
     refine wv (vpT g43) ?_
     refine wa (nt' (CM_ret ?_))
     exact rtb (h := fin_inr hE37 (cond_t g39 (cond_t g41 (cond_t g43 (rfl)))))
    ·have g43 := decide_eq_false h42
     refine ws g43 ?_
     refine ws g43 ?_
     refine ws g43 ?_
     refine wv (vpF g43) ?_
     refine wa (nt' (CM_ret ?_))
     exact rtb (h := fin_inr hE37 (cond_t g39 (cond_t g41 (cond_f g43 (rfl)))))
   ·
    refine ws g41 ?_
    refine ws g41 ?_
    refine ws g41 ?_
    refine ws g41 ?_
    refine wv (vpF g41) ?_
    refine wm ?_
    refine wk ?_
    refine wk ?_
    refine wk ?_
    refine wv (vpF rfl) ?_
    refine wa (nt' (CM_ret ?_))
    exact rtb (h := fin_inr hE37 (cond_t g39 (cond_f g41 (rfl))))
  ·
   refine ws g39 ?_
   refine ws g39 ?_
   refine ws g39 ?_
   refine wv (vpF g39) ?_
   refine wm ?_
   refine wk ?_
   refine wk ?_
   refine wk ?_
   refine wk ?_
   refine wv (vpF rfl) ?_
   refine wm ?_
   refine wk ?_
   refine wk ?_
   refine wk ?_
   refine wv (vpF rfl) ?_
   refine wa (nt' (CM_ret ?_))
   exact rtb (h := fin_inr hE37 (cond_f g39 (rfl)))

def spec_l9Todo_b1 (x0 : (List Int)) (x1 : Int) (k6 : Nat) : Bool ⊕ (Unit) :=
 cond (spec_l1In_m (gt x0 k6) 0 (IntKind.i64.wrap (x1 - 1))) (cond (decide (0 < ((k6 : Nat) : Int))) (cond (decide ((gt x0 k6) ≤ (gt x0 (k6 - 1)))) (Sum.inl false) (Sum.inr ())) (Sum.inr ())) (Sum.inl false)
def spec_l9Todo_m (x0 : (List Int)) (x1 : Int) : Bool :=
 Sum.elim id (fun (s : Unit) => (decide (0 < ((x0.length : Nat) : Int)))) (rng (R := Bool) (fun k (_ : Unit) => spec_l9Todo_b1 x0 x1 k) (x0.length - 0) 0 ())
theorem cb208 : Cb Tryz.prog 208 := ⟨f208, _, func208, rfl, by decide⟩
theorem spec_l9Todo_c (w : World) (z0 : Value) (x0 : (List Int)) (x1 : Int) (r_0 : rdS tInt w w.heap.size z0 x0) :
  Calls Tryz.prog 208 #[z0, .int .i64 x1] w fun e w' => e = .returned (.bool (spec_l9Todo_m x0 x1)) ∧ Below w.heap.size w w' := by
 obtain ⟨m1, A2, c3, rfl, q4, r5⟩ := rdS_op r_0
 refine ce2 (L := [(0, .slice A2 x0.length c3), (1, .int .i64 x1)]) (N := 39) func208 ?_
 refine sr (wa (nt' (CM_seq (sr (wa (nt' (CM_block ?_)))))))
 let F1 := fun k (_ : Unit) => spec_l9Todo_b1 x0 x1 k
 let R2 := rng (R := Bool) F1
 refine CM_loop (σ := Nat × (Unit) × (Unit)) (fun s => [(0, .slice A2 x0.length c3), (1, .int .i64 x1), (5, .int .i64 ((s.1 : Nat) : Int))]) (fun s => []) (fun s => s.1 ≤ x0.length ∧ R2 (x0.length - s.1) s.1 s.2.1 = R2 (x0.length - 0) 0 ()) (fun s => x0.length - s.1) (0, (), ()) sl3 (fun W hm => hm) ⟨(by omega), rfl⟩ ?_
 rintro ⟨k6, ⟨⟩, ⟨⟩⟩ H9
 obtain ⟨hk7, hF8⟩ : k6 ≤ x0.length ∧ R2 (x0.length - k6) k6 () = R2 (x0.length - 0) 0 () := H9
 show CM Tryz.prog 39 _ _ _ _ [(0, .slice A2 x0.length c3), (1, .int .i64 x1), (5, .int .i64 ((k6 : Nat) : Int))] []
 refine CM_seq (sr (wm (wm ?_)))
 refine wv (vlen underlying25) ?_
 refine wv vlss ?_
 refine nt' ?_
 by_cases hl10 : k6 < x0.length
 ·have g11 := dlT hl10
  refine CM_condT rfl g11 ?_
  refine CM_skip (QM_then (CM_seq (CM_block (CM_seq ?_))))
  refine CM_regionD (by kernel_rfl) (by kernel_rfl) ?_
  refine qm (qm ?_)
  obtain ⟨a12, rfl, hb13, he14⟩ := q4 (by omega)
  refine qv (vix 1 k6 underlying25 type3) ?_
  refine qv (fun W hm => rv_load underlying3 rfl rfl ((hm.cell0 (show (a12.add (k6 * 1)).block < w.heap.size from by rw [add_block]; exact hb13.1)).trans (rdS_int he14 k6 (by omega)))) ?_
  refine qm ?_
  refine qv (fun W hm => rv_sub rfl rfl) ?_
  refine QR_callV (cl_fn cb128 rfl) (fun W hm => spec_l1In_c W (gt x0 k6) 0 (IntKind.i64.wrap (x1 - 1))) (Wd_none rfl) (by decide) ?_
  refine qv vnot ?_
  refine qm ?_
  rcases Bool.eq_false_or_eq_true (spec_l1In_m (gt x0 k6) 0 (IntKind.i64.wrap (x1 - 1))) with g16 | g16
  ·
   have hw := spec_l1In_fact g16
   refine qg vmv (nt g16) ?_
   refine qg (fun W hm => rv_gtr rfl rfl) (nt g16) ?_
   refine qg vmv (nt g16) ?_
   by_cases h17 : 0 < ((k6 : Nat) : Int)
   ·have g18 := decide_eq_true h17
    refine qg vmv g18 ?_
    refine qg vmv g18 ?_
    refine qg (vix 1 k6 underlying25 type3) g18 ?_
    refine qg (fun W hm => rv_load underlying3 rfl rfl ((hm.cell0 (show (a12.add (k6 * 1)).block < w.heap.size from by rw [add_block]; exact hb13.1)).trans (rdS_int he14 k6 (by omega)))) g18 ?_
    refine qg vmv g18 ?_
    refine qg vmv g18 ?_
    refine qg (fun W hm => rv_subN (p := k6) (q := 1) rfl rfl (by omega) (by omega)) g18 ?_
    refine qg (fun W hm => rv_index (sz := 1) (k := k6 - 1) underlying25 type3 rfl rfl rfl (by omega)) g18 ?_
    refine qg (fun W hm => rv_load underlying3 rfl rfl ((hm.cell0 (show (a12.add ((k6 - 1) * 1)).block < w.heap.size from by rw [add_block]; exact hb13.1)).trans (rdS_int he14 (k6 - 1) (by omega)))) g18 ?_
    refine qg (fun W hm => rv_leq rfl rfl) g18 ?_
    refine qg (vpT g18) (nt g16) ?_
    refine qv (vpF (nt g16)) ?_
    refine nq' ?_
    by_cases h19 : (gt x0 k6) ≤ (gt x0 (k6 - 1))
    ·have g20 := decide_eq_true h19
     refine CM_condT rfl g20 ?_
     refine sr (wa (nt' (CM_ret (QM_block_ret (QM_then_ret (QM_then_ret (QM_block_ret (QM_then_ret ?_))))))))
     exact rtb (h := fin_inl (rng_ret (body := F1) (k := k6) (s := ()) (show k6 < x0.length from by omega) (cond_t g16 (cond_t g18 (cond_t g20 (rfl)))) hF8) rfl)
    ·have g20 := decide_eq_false h19
     refine CM_condF rfl g20 ?_
     refine CM_skip (QM_block_normal (QM_then (CM_region (wm ?_))))
     refine wv (vadN k6 1 (by omega)) ?_
     refine wa (WM_nil ?_)
     have hn21 := rng_next (R := Bool) (body := F1) (k := k6) (s := ()) (s' := ()) (show k6 < x0.length from by omega) (cond_t g16 (cond_t g18 (cond_f g20 (rfl)))) hF8
     exact QM_round (k6 + 1, (), ()) sl3 (fun W hm => hm) ⟨(by omega), hn21⟩ (rl (by omega))
   ·have g18 := decide_eq_false h17
    refine qs g18 ?_
    refine qs g18 ?_
    refine qs g18 ?_
    refine qs g18 ?_
    refine qs g18 ?_
    refine qs g18 ?_
    refine qs g18 ?_
    refine qs g18 ?_
    refine qs g18 ?_
    refine qs g18 ?_
    refine qg (vpF g18) (nt g16) ?_
    refine qv (vpF (nt g16)) ?_
    refine nq' ?_
    refine CM_condF rfl rfl ?_
    refine CM_skip (QM_block_normal (QM_then (CM_region (wm ?_))))
    refine wv (vadN k6 1 (by omega)) ?_
    refine wa (WM_nil ?_)
    have hn22 := rng_next (R := Bool) (body := F1) (k := k6) (s := ()) (s' := ()) (show k6 < x0.length from by omega) (cond_t g16 (cond_f g18 (rfl))) hF8
    exact QM_round (k6 + 1, (), ()) sl3 (fun W hm => hm) ⟨(by omega), hn22⟩ (rl (by omega))
  ·
   refine qs (nf g16) ?_
   refine qs (nf g16) ?_
   refine qs (nf g16) ?_
   refine qu ?_
   refine qu ?_
   refine qu ?_
   refine qu ?_
   refine qu ?_
   refine qu ?_
   refine qu ?_
   refine qu ?_
   refine qu ?_
   refine qu ?_
   refine qs (nf g16) ?_
   refine qv (vpT (nf g16)) ?_
   refine nq' ?_
   refine CM_condT rfl rfl ?_
   refine sr (wa (nt' (CM_ret (QM_block_ret (QM_then_ret (QM_then_ret (QM_block_ret (QM_then_ret ?_))))))))
   exact rtb (h := fin_inl (rng_ret (body := F1) (k := k6) (s := ()) (show k6 < x0.length from by omega) (cond_f g16 (rfl)) hF8) rfl)
 ·have g11 := dlF hl10
  refine CM_condF rfl g11 ?_
  refine CM_exit (QM_then_exit (QM_then_exit ?_))
  have hE23 : R2 (x0.length - 0) 0 () = Sum.inr () := rng_end hl10 hF8
  refine QM_block_hit (QM_then (sr (wm ?_)))
  refine wv (vlen underlying25) ?_
  refine wv (fun W hm => rv_gtr rfl rfl) ?_
  refine wa (nt' (CM_ret ?_))
  exact rtb (h := fin_inr hE23 (rfl))

def spec_l9List_b1 (x0 : (List DRow)) (k6 : Nat) : Bool ⊕ (Unit) :=
 cond (spec_IsRow_m (gt x0 k6)) (Sum.inr ()) (Sum.inl false)
def spec_l9List_m (x0 : (List DRow)) : Bool :=
 Sum.elim id (fun (s : Unit) => (decide (((x0.length : Nat) : Int) ≤ 1000))) (rng (R := Bool) (fun k (_ : Unit) => spec_l9List_b1 x0 k) (x0.length - 0) 0 ())
theorem cb153 : Cb Tryz.prog 153 := ⟨f153, _, func153, rfl, by decide⟩
theorem spec_l9List_c (w : World) (z0 : Value) (x0 : (List DRow)) (r_0 : rdS tyRow w w.heap.size z0 x0) :
  Calls Tryz.prog 153 #[z0] w fun e w' => e = .returned (.bool (spec_l9List_m x0)) ∧ Below w.heap.size w w' := by
 obtain ⟨m1, A2, c3, rfl, q4, r5⟩ := rdS_op r_0
 refine ce1 (L := [(0, .slice A2 x0.length c3)]) (N := 19) func153 ?_
 refine sr (wa (nt' (CM_seq (sr (wa (nt' (CM_block ?_)))))))
 let F1 := fun k (_ : Unit) => spec_l9List_b1 x0 k
 let R2 := rng (R := Bool) F1
 refine CM_loop (σ := Nat × (Unit) × (Unit)) (fun s => [(0, .slice A2 x0.length c3), (3, .int .i64 ((s.1 : Nat) : Int))]) (fun s => []) (fun s => s.1 ≤ x0.length ∧ R2 (x0.length - s.1) s.1 s.2.1 = R2 (x0.length - 0) 0 ()) (fun s => x0.length - s.1) (0, (), ()) sl2 (fun W hm => hm) ⟨(by omega), rfl⟩ ?_
 rintro ⟨k6, ⟨⟩, ⟨⟩⟩ H9
 obtain ⟨hk7, hF8⟩ : k6 ≤ x0.length ∧ R2 (x0.length - k6) k6 () = R2 (x0.length - 0) 0 () := H9
 show CM Tryz.prog 19 _ _ _ _ [(0, .slice A2 x0.length c3), (3, .int .i64 ((k6 : Nat) : Int))] []
 refine CM_seq (sr (wm (wm ?_)))
 refine wv (vlen underlying35) ?_
 refine wv vlss ?_
 refine nt' ?_
 by_cases hl10 : k6 < x0.length
 ·have g11 := dlT hl10
  refine CM_condT rfl g11 ?_
  refine CM_skip (QM_then (CM_seq (CM_block (sr (wm (wm ?_))))))
  obtain ⟨a12, rfl, hb13, he14⟩ := q4 (by omega)
  refine wv (vix 2 k6 underlying35 type73) ?_
  obtain ⟨_, e18, hc15⟩ := he14 k6 _ (gt_some (show k6 < x0.length from by omega))
  obtain ⟨v16, rfl, r17⟩ := tyRow_rd e18
  obtain ⟨m19, A20, c21, rfl, q22, r23⟩ := rdS_op r17
  refine wv (fun W hm => rv_loadN (cs := [.int .i64 ((gt x0 k6).Id), .slice A20 ((gt x0 k6).Values).length c21]) underlying73 type73 rfl rfl (hm.elCells (show (a12.add (k6 * 2)).block < w.heap.size from by rw [add_block]; exact hb13.1) hc15)) ?_
  refine wcv (cl_fn cb209 rfl) (fun W hm => spec_IsRow_c W _ (gt x0 k6) (tyRow_mk (x := (gt x0 k6)) (hm.rdS0 r23))) ?_
  refine wv vnot ?_
  refine nt' ?_
  rcases Bool.eq_false_or_eq_true (spec_IsRow_m (gt x0 k6)) with g25 | g25
  ·
   refine CM_condF rfl (nt g25) ?_
   refine CM_skip (QM_block_normal (QM_then (CM_region (wm ?_))))
   refine wv (vadN k6 1 (by omega)) ?_
   refine wa (WM_nil ?_)
   have hn26 := rng_next (R := Bool) (body := F1) (k := k6) (s := ()) (s' := ()) (show k6 < x0.length from by omega) (cond_t g25 (rfl)) hF8
   exact QM_round (k6 + 1, (), ()) sl2 (fun W hm => hm) ⟨(by omega), hn26⟩ (rl (by omega))
  ·
   refine CM_condT rfl (nf g25) ?_
   refine sr (wa (nt' (CM_ret (QM_block_ret (QM_then_ret (QM_then_ret (QM_block_ret (QM_then_ret ?_))))))))
   exact rtb (h := fin_inl (rng_ret (body := F1) (k := k6) (s := ()) (show k6 < x0.length from by omega) (cond_f g25 (rfl)) hF8) rfl)
 ·have g11 := dlF hl10
  refine CM_condF rfl g11 ?_
  refine CM_exit (QM_then_exit (QM_then_exit ?_))
  have hE27 : R2 (x0.length - 0) 0 () = Sum.inr () := rng_end hl10 hF8
  refine QM_block_hit (QM_then (sr (wm ?_)))
  refine wv (vlen underlying35) ?_
  refine wv (fun W hm => rv_leq rfl rfl) ?_
  refine wa (nt' (CM_ret ?_))
  exact rtb (h := fin_inr hE27 (rfl))

def spec_l9Active_m (x0 : DEngine) (x1 : DActive) : Bool :=
 cond (spec_IsQuery_m x1.Query) (cond (spec_l1In_m x1.Time 0 x0.Store.Now) (cond (spec_l9Todo_m x1.Todo ((x0.Store.Segments.length : Nat) : Int)) (cond (spec_l1In_m x1.Age 0 100000) (cond (spec_l1In_m x1.Sent 0 1000) (cond (spec_l1In_m x1.Cap 0 32) (spec_l9List_m x1.Rows) false) false) false) false) false) false
theorem cb152 : Cb Tryz.prog 152 := ⟨f152, _, func152, rfl, by decide⟩
theorem spec_l9Active_c (w : World) (z0 : List Value) (x0 : DEngine) (z1 : List Value) (x1 : DActive) (r_0 : tyEngine.rd w w.heap.size z0 x0) (r_1 : tyActive.rd w w.heap.size z1 x1) :
  Calls Tryz.prog 152 #[.agg z0.toArray, .agg z1.toArray] w fun e w' => e = .returned (.bool (spec_l9Active_m x0 x1)) ∧ Below w.heap.size w w' := by
 obtain ⟨v1, v3, v5, v7, v9, rfl, r2, r4, r6, r8, r10⟩ := tyEngine_rd r_0
 obtain ⟨m11, A12, c13, rfl, q14, r15⟩ := rdS_op r2
 obtain ⟨m16, A17, c18, rfl, q19, r20⟩ := rdS_op r4
 obtain ⟨m21, A22, c23, rfl, q24, r25⟩ := rdS_op r6
 obtain ⟨m26, A27, c28, rfl, q29, r30⟩ := rdS_op r8
 obtain ⟨m31, A32, c33, rfl, q34, r35⟩ := rdS_op r10
 obtain ⟨v36, v38, v40, v42, rfl, r37, r39, r41, r43⟩ := tyActive_rd r_1
 obtain ⟨m44, A45, c46, rfl, q47, r48⟩ := rdS_op r37
 obtain ⟨m49, A50, c51, rfl, q52, r53⟩ := rdS_op r39
 obtain ⟨m54, A55, c56, rfl, q57, r58⟩ := rdS_op r41
 obtain ⟨m59, A60, c61, rfl, q62, r63⟩ := rdS_op r43
 refine ce2 (L := [(0, .agg #[.slice A12 x0.Store.Segments.length c13, .int .i64 x0.Store.Now, .int .i64 x0.Cursor, .slice A17 x0.Order.length c18, .slice A22 x0.Active.length c23, .slice A27 x0.Done.length c28, .slice A32 x0.Ledger.length c33, .int .i64 x0.Steps]), (1, .agg #[.int .i64 x1.Query.Id, .int .i64 x1.Query.Tenant, .slice A45 x1.Query.Conds.length c46, .slice A50 x1.Query.Out.length c51, .int .i64 x1.Time, .slice A55 x1.Todo.length c56, .int .i64 x1.Age, .int .i64 x1.Sent, .int .i64 x1.Cap, .slice A60 x1.Rows.length c61])]) (N := 45) func152 ?_
 refine sr ?_
 refine WM_box rfl (Wd_none rfl) (by decide) (fun p64 => ?_)
 refine WM_box rfl (Wd_none rfl) (by decide) (fun p65 => ?_)
 refine wa (nt' (sr ?_))
 refine wv (vf underlying64 rfl type34) ?_
 refine wv (fun W hm => rv_loadN (cs := [.int .i64 x1.Query.Id, .int .i64 x1.Query.Tenant, .slice A45 x1.Query.Conds.length c46, .slice A50 x1.Query.Out.length c51]) underlying34 type34 rfl rfl (hm.boxPart (n := 0) rfl rfl)) ?_
 refine wcv (cl_fn cb127 rfl) (fun W hm => spec_IsQuery_c W _ x1.Query (tyQuery_mk (x := x1.Query) (hm.rdS0 r48) (hm.rdS0 r53))) ?_
 refine wm ?_
 rcases Bool.eq_false_or_eq_true (spec_IsQuery_m x1.Query) with g67 | g67
 ·
  refine wg (vf underlying64 rfl type3) g67 ?_
  refine wg (vl 0 4 underlying3) g67 ?_
  refine wg (vf underlying47 rfl type42) g67 ?_
  refine wg (fun W hm => rv_fieldA (o := 1) underlying42 rfl type3 (by decide) rfl rfl) g67 ?_
  refine wg (vl 1 1 underlying3) g67 ?_
  refine WM_callV (cl_fn cb128 rfl) (fun W hm => spec_l1In_c W x1.Time 0 x0.Store.Now) (Wd_some rfl rfl rfl (bw g67 rfl)) (by decide) ?_
  refine wv (vpT g67) ?_
  refine wm ?_
  rcases Bool.eq_false_or_eq_true (spec_l1In_m x1.Time 0 x0.Store.Now) with g69 | g69
  ·
   have hw := spec_l1In_fact g69
   refine wg (vf underlying64 rfl type25) g69 ?_
   refine wg (vl 0 5 underlying25) g69 ?_
   refine wg (vf underlying47 rfl type42) g69 ?_
   refine wg (fun W hm => rv_fieldA (o := 0) underlying42 rfl type40 (by decide) rfl rfl) g69 ?_
   refine wg (vl 1 0 underlying40) g69 ?_
   refine wg (vlen underlying40) g69 ?_
   refine WM_callV (cl_fn cb208 rfl) (fun W hm => spec_l9Todo_c W _ x1.Todo ((x0.Store.Segments.length : Nat) : Int) (hm.rdS0 r58)) (Wd_some rfl rfl rfl (bw g69 rfl)) (by decide) ?_
   refine wv (vpT g69) ?_
   refine wm ?_
   rcases Bool.eq_false_or_eq_true (spec_l9Todo_m x1.Todo ((x0.Store.Segments.length : Nat) : Int)) with g71 | g71
   ·
    refine wg (vf underlying64 rfl type3) g71 ?_
    refine wg (vl 0 6 underlying3) g71 ?_
    refine WM_callV (cl_fn cb128 rfl) (fun W hm => spec_l1In_c W x1.Age 0 100000) (Wd_some rfl rfl rfl (bw g71 rfl)) (by decide) ?_
    refine wv (vpT g71) ?_
    refine wm ?_
    rcases Bool.eq_false_or_eq_true (spec_l1In_m x1.Age 0 100000) with g73 | g73
    ·
     have hw := spec_l1In_fact g73
     refine wg (vf underlying64 rfl type3) g73 ?_
     refine wg (vl 0 7 underlying3) g73 ?_
     refine WM_callV (cl_fn cb128 rfl) (fun W hm => spec_l1In_c W x1.Sent 0 1000) (Wd_some rfl rfl rfl (bw g73 rfl)) (by decide) ?_
     refine wv (vpT g73) ?_
     refine wm ?_
     rcases Bool.eq_false_or_eq_true (spec_l1In_m x1.Sent 0 1000) with g75 | g75
     ·
      have hw := spec_l1In_fact g75
      refine wg (vf underlying64 rfl type3) g75 ?_
      refine wg (vl 0 8 underlying3) g75 ?_
      refine WM_callV (cl_fn cb128 rfl) (fun W hm => spec_l1In_c W x1.Cap 0 32) (Wd_some rfl rfl rfl (bw g75 rfl)) (by decide) ?_
      refine wv (vpT g75) ?_
      refine wm ?_
      rcases Bool.eq_false_or_eq_true (spec_l1In_m x1.Cap 0 32) with g77 | g77
      ·
       have hw := spec_l1In_fact g77
       refine wg (vf underlying64 rfl type35) g77 ?_
       refine wg (vl 0 9 underlying35) g77 ?_
       refine WM_callV (cl_fn cb153 rfl) (fun W hm => spec_l9List_c W _ x1.Rows (hm.rdS0 r63)) (Wd_some rfl rfl rfl (bw g77 rfl)) (by decide) ?_
       refine wv (vpT g77) ?_
       refine wa (nt' (CM_ret ?_))
       exact rtb (h := cond_t g67 (cond_t g69 (cond_t g71 (cond_t g73 (cond_t g75 (cond_t g77 (rfl)))))))
      ·
       refine ws g77 ?_
       refine ws g77 ?_
       refine ws g77 ?_
       refine wv (vpF g77) ?_
       refine wa (nt' (CM_ret ?_))
       exact rtb (h := cond_t g67 (cond_t g69 (cond_t g71 (cond_t g73 (cond_t g75 (cond_f g77 (rfl)))))))
     ·
      refine ws g75 ?_
      refine ws g75 ?_
      refine ws g75 ?_
      refine wv (vpF g75) ?_
      refine wm ?_
      refine wk ?_
      refine wk ?_
      refine wk ?_
      refine wv (vpF rfl) ?_
      refine wa (nt' (CM_ret ?_))
      exact rtb (h := cond_t g67 (cond_t g69 (cond_t g71 (cond_t g73 (cond_f g75 (rfl))))))
    ·
     refine ws g73 ?_
     refine ws g73 ?_
     refine ws g73 ?_
     refine wv (vpF g73) ?_
     refine wm ?_
     refine wk ?_
     refine wk ?_
     refine wk ?_
     refine wv (vpF rfl) ?_
     refine wm ?_
     refine wk ?_
     refine wk ?_
     refine wk ?_
     refine wv (vpF rfl) ?_
     refine wa (nt' (CM_ret ?_))
     exact rtb (h := cond_t g67 (cond_t g69 (cond_t g71 (cond_f g73 (rfl)))))
   ·
    refine ws g71 ?_
    refine ws g71 ?_
    refine ws g71 ?_
    refine wv (vpF g71) ?_
    refine wm ?_
    refine wk ?_
    refine wk ?_
    refine wk ?_
    refine wv (vpF rfl) ?_
    refine wm ?_
    refine wk ?_
    refine wk ?_
    refine wk ?_
    refine wv (vpF rfl) ?_
    refine wm ?_
    refine wk ?_
    refine wk ?_
    refine wk ?_
    refine wv (vpF rfl) ?_
    refine wa (nt' (CM_ret ?_))
    exact rtb (h := cond_t g67 (cond_t g69 (cond_f g71 (rfl))))
  ·
   refine ws g69 ?_
   refine ws g69 ?_
   refine ws g69 ?_
   refine ws g69 ?_
   refine ws g69 ?_
   refine ws g69 ?_
   refine ws g69 ?_
   refine wv (vpF g69) ?_
   refine wm ?_
   refine wk ?_
   refine wk ?_
   refine wk ?_
   refine wv (vpF rfl) ?_
   refine wm ?_
   refine wk ?_
   refine wk ?_
   refine wk ?_
   refine wv (vpF rfl) ?_
   refine wm ?_
   refine wk ?_
   refine wk ?_
   refine wk ?_
   refine wv (vpF rfl) ?_
   refine wm ?_
   refine wk ?_
   refine wk ?_
   refine wk ?_
   refine wv (vpF rfl) ?_
   refine wa (nt' (CM_ret ?_))
   exact rtb (h := cond_t g67 (cond_f g69 (rfl)))
 ·
  refine ws g67 ?_
  refine ws g67 ?_
  refine ws g67 ?_
  refine ws g67 ?_
  refine ws g67 ?_
  refine ws g67 ?_
  refine wv (vpF g67) ?_
  refine wm ?_
  refine wk ?_
  refine wk ?_
  refine wk ?_
  refine wk ?_
  refine wk ?_
  refine wk ?_
  refine wk ?_
  refine wv (vpF rfl) ?_
  refine wm ?_
  refine wk ?_
  refine wk ?_
  refine wk ?_
  refine wv (vpF rfl) ?_
  refine wm ?_
  refine wk ?_
  refine wk ?_
  refine wk ?_
  refine wv (vpF rfl) ?_
  refine wm ?_
  refine wk ?_
  refine wk ?_
  refine wk ?_
  refine wv (vpF rfl) ?_
  refine wm ?_
  refine wk ?_
  refine wk ?_
  refine wk ?_
  refine wv (vpF rfl) ?_
  refine wa (nt' (CM_ret ?_))
  exact rtb (h := cond_f g67 (rfl))

def spec_IsSet_b1 (x0 : (List Int)) (k6 : Nat) : Bool ⊕ (Unit) :=
 cond (spec_l1In_m (gt x0 k6) 0 23) (cond (decide (0 < ((k6 : Nat) : Int))) (cond (decide ((gt x0 k6) ≤ (gt x0 (k6 - 1)))) (Sum.inl false) (Sum.inr ())) (Sum.inr ())) (Sum.inl false)
def spec_IsSet_m (x0 : (List Int)) : Bool :=
 Sum.elim id (fun (s : Unit) => true) (rng (R := Bool) (fun k (_ : Unit) => spec_IsSet_b1 x0 k) (x0.length - 0) 0 ())
theorem cb210 : Cb Tryz.prog 210 := ⟨f210, _, func210, rfl, by decide⟩
theorem spec_IsSet_c (w : World) (z0 : Value) (x0 : (List Int)) (r_0 : rdS tInt w w.heap.size z0 x0) :
  Calls Tryz.prog 210 #[z0] w fun e w' => e = .returned (.bool (spec_IsSet_m x0)) ∧ Below w.heap.size w w' := by
 obtain ⟨m1, A2, c3, rfl, q4, r5⟩ := rdS_op r_0
 refine ce1 (L := [(0, .slice A2 x0.length c3)]) (N := 32) func210 ?_
 refine sr (wa (nt' (CM_seq (sr (wa (nt' (CM_block ?_)))))))
 let F1 := fun k (_ : Unit) => spec_IsSet_b1 x0 k
 let R2 := rng (R := Bool) F1
 refine CM_loop (σ := Nat × (Unit) × (Unit)) (fun s => [(0, .slice A2 x0.length c3), (3, .int .i64 ((s.1 : Nat) : Int))]) (fun s => []) (fun s => s.1 ≤ x0.length ∧ R2 (x0.length - s.1) s.1 s.2.1 = R2 (x0.length - 0) 0 ()) (fun s => x0.length - s.1) (0, (), ()) sl2 (fun W hm => hm) ⟨(by omega), rfl⟩ ?_
 rintro ⟨k6, ⟨⟩, ⟨⟩⟩ H9
 obtain ⟨hk7, hF8⟩ : k6 ≤ x0.length ∧ R2 (x0.length - k6) k6 () = R2 (x0.length - 0) 0 () := H9
 show CM Tryz.prog 32 _ _ _ _ [(0, .slice A2 x0.length c3), (3, .int .i64 ((k6 : Nat) : Int))] []
 refine CM_seq (sr (wm (wm ?_)))
 refine wv (vlen underlying25) ?_
 refine wv vlss ?_
 refine nt' ?_
 by_cases hl10 : k6 < x0.length
 ·have g11 := dlT hl10
  refine CM_condT rfl g11 ?_
  refine CM_skip (QM_then (CM_seq (CM_block (CM_seq ?_))))
  refine CM_regionD (by kernel_rfl) (by kernel_rfl) ?_
  refine qm (qm ?_)
  obtain ⟨a12, rfl, hb13, he14⟩ := q4 (by omega)
  refine qv (vix 1 k6 underlying25 type3) ?_
  refine qv (fun W hm => rv_load underlying3 rfl rfl ((hm.cell0 (show (a12.add (k6 * 1)).block < w.heap.size from by rw [add_block]; exact hb13.1)).trans (rdS_int he14 k6 (by omega)))) ?_
  refine QR_callV (cl_fn cb128 rfl) (fun W hm => spec_l1In_c W (gt x0 k6) 0 23) (Wd_none rfl) (by decide) ?_
  refine qv vnot ?_
  refine qm ?_
  rcases Bool.eq_false_or_eq_true (spec_l1In_m (gt x0 k6) 0 23) with g16 | g16
  ·
   have hw := spec_l1In_fact g16
   refine qg vmv (nt g16) ?_
   refine qg (fun W hm => rv_gtr rfl rfl) (nt g16) ?_
   refine qg vmv (nt g16) ?_
   by_cases h17 : 0 < ((k6 : Nat) : Int)
   ·have g18 := decide_eq_true h17
    refine qg vmv g18 ?_
    refine qg vmv g18 ?_
    refine qg (vix 1 k6 underlying25 type3) g18 ?_
    refine qg (fun W hm => rv_load underlying3 rfl rfl ((hm.cell0 (show (a12.add (k6 * 1)).block < w.heap.size from by rw [add_block]; exact hb13.1)).trans (rdS_int he14 k6 (by omega)))) g18 ?_
    refine qg vmv g18 ?_
    refine qg vmv g18 ?_
    refine qg (fun W hm => rv_subN (p := k6) (q := 1) rfl rfl (by omega) (by omega)) g18 ?_
    refine qg (fun W hm => rv_index (sz := 1) (k := k6 - 1) underlying25 type3 rfl rfl rfl (by omega)) g18 ?_
    refine qg (fun W hm => rv_load underlying3 rfl rfl ((hm.cell0 (show (a12.add ((k6 - 1) * 1)).block < w.heap.size from by rw [add_block]; exact hb13.1)).trans (rdS_int he14 (k6 - 1) (by omega)))) g18 ?_
    refine qg (fun W hm => rv_leq rfl rfl) g18 ?_
    refine qg (vpT g18) (nt g16) ?_
    refine qv (vpF (nt g16)) ?_
    refine nq' ?_
    by_cases h19 : (gt x0 k6) ≤ (gt x0 (k6 - 1))
    ·have g20 := decide_eq_true h19
     refine CM_condT rfl g20 ?_
     refine sr (wa (nt' (CM_ret (QM_block_ret (QM_then_ret (QM_then_ret (QM_block_ret (QM_then_ret ?_))))))))
     exact rtb (h := fin_inl (rng_ret (body := F1) (k := k6) (s := ()) (show k6 < x0.length from by omega) (cond_t g16 (cond_t g18 (cond_t g20 (rfl)))) hF8) rfl)
    ·have g20 := decide_eq_false h19
     refine CM_condF rfl g20 ?_
     refine CM_skip (QM_block_normal (QM_then (CM_region (wm ?_))))
     refine wv (vadN k6 1 (by omega)) ?_
     refine wa (WM_nil ?_)
     have hn21 := rng_next (R := Bool) (body := F1) (k := k6) (s := ()) (s' := ()) (show k6 < x0.length from by omega) (cond_t g16 (cond_t g18 (cond_f g20 (rfl)))) hF8
     exact QM_round (k6 + 1, (), ()) sl2 (fun W hm => hm) ⟨(by omega), hn21⟩ (rl (by omega))
   ·have g18 := decide_eq_false h17
    refine qs g18 ?_
    refine qs g18 ?_
    refine qs g18 ?_
    refine qs g18 ?_
    refine qs g18 ?_
    refine qs g18 ?_
    refine qs g18 ?_
    refine qs g18 ?_
    refine qs g18 ?_
    refine qs g18 ?_
    refine qg (vpF g18) (nt g16) ?_
    refine qv (vpF (nt g16)) ?_
    refine nq' ?_
    refine CM_condF rfl rfl ?_
    refine CM_skip (QM_block_normal (QM_then (CM_region (wm ?_))))
    refine wv (vadN k6 1 (by omega)) ?_
    refine wa (WM_nil ?_)
    have hn22 := rng_next (R := Bool) (body := F1) (k := k6) (s := ()) (s' := ()) (show k6 < x0.length from by omega) (cond_t g16 (cond_f g18 (rfl))) hF8
    exact QM_round (k6 + 1, (), ()) sl2 (fun W hm => hm) ⟨(by omega), hn22⟩ (rl (by omega))
  ·
   refine qs (nf g16) ?_
   refine qs (nf g16) ?_
   refine qs (nf g16) ?_
   refine qu ?_
   refine qu ?_
   refine qu ?_
   refine qu ?_
   refine qu ?_
   refine qu ?_
   refine qu ?_
   refine qu ?_
   refine qu ?_
   refine qu ?_
   refine qs (nf g16) ?_
   refine qv (vpT (nf g16)) ?_
   refine nq' ?_
   refine CM_condT rfl rfl ?_
   refine sr (wa (nt' (CM_ret (QM_block_ret (QM_then_ret (QM_then_ret (QM_block_ret (QM_then_ret ?_))))))))
   exact rtb (h := fin_inl (rng_ret (body := F1) (k := k6) (s := ()) (show k6 < x0.length from by omega) (cond_f g16 (rfl)) hF8) rfl)
 ·have g11 := dlF hl10
  refine CM_condF rfl g11 ?_
  refine CM_exit (QM_then_exit (QM_then_exit ?_))
  have hE23 : R2 (x0.length - 0) 0 () = Sum.inr () := rng_end hl10 hF8
  refine QM_block_hit (QM_then (sr (wa (nt' (CM_ret ?_)))))
  exact rtb (h := fin_inr hE23 (rfl))

def spec_IsCharge_b1 (x0 : DCharge) (k37 : Nat) : Bool ⊕ (Unit) :=
 cond (spec_l1In_m (gt x0.Tenants k37) 0 3) (cond (spec_l1In_m (gt x0.Rows k37) 0 x0.Base) (Sum.inr ()) (Sum.inl false)) (Sum.inl false)
def spec_IsCharge_m (x0 : DCharge) : Bool :=
 cond (spec_IsSet_m x0.Ids) (cond (((x0.Ids.length : Nat) : Int) == 0) false (cond (decide (8 < ((x0.Ids.length : Nat) : Int))) false (cond (((x0.Tenants.length : Nat) : Int) != ((x0.Ids.length : Nat) : Int)) false (cond (((x0.Rows.length : Nat) : Int) != ((x0.Ids.length : Nat) : Int)) false (cond (spec_l1In_m x0.Segment 0 7) (cond (spec_l1In_m x0.Base 0 4) (Sum.elim id (fun (s : Unit) => true) (rng (R := Bool) (fun k (_ : Unit) => spec_IsCharge_b1 x0 k) (x0.Ids.length - 0) 0 ())) false) false))))) false
theorem cb154 : Cb Tryz.prog 154 := ⟨f154, _, func154, rfl, by decide⟩
theorem spec_IsCharge_c (w : World) (z0 : List Value) (x0 : DCharge) (r_0 : tyCharge.rd w w.heap.size z0 x0) :
  Calls Tryz.prog 154 #[.agg z0.toArray] w fun e w' => e = .returned (.bool (spec_IsCharge_m x0)) ∧ Below w.heap.size w w' := by
 obtain ⟨v1, v3, v5, rfl, r2, r4, r6⟩ := tyCharge_rd r_0
 obtain ⟨m7, A8, c9, rfl, q10, r11⟩ := rdS_op r2
 obtain ⟨m12, A13, c14, rfl, q15, r16⟩ := rdS_op r4
 obtain ⟨m17, A18, c19, rfl, q20, r21⟩ := rdS_op r6
 refine ce1 (L := [(0, .agg #[.int .i64 x0.Segment, .int .i64 x0.Base, .slice A8 x0.Ids.length c9, .slice A13 x0.Tenants.length c14, .slice A18 x0.Rows.length c19])]) (N := 69) func154 ?_
 refine sr ?_
 refine WM_box rfl (Wd_none rfl) (by decide) (fun p22 => ?_)
 refine wa (nt' (sr ?_))
 refine wv (vf underlying133 rfl type25) ?_
 refine wv (vl 0 2 underlying25) ?_
 refine wv (vlen underlying25) ?_
 refine wa (nt' (CM_seq (sr ?_)))
 refine wv (vf underlying133 rfl type25) ?_
 refine wv (vl 0 2 underlying25) ?_
 refine wcv (cl_fn cb210 rfl) (fun W hm => spec_IsSet_c W _ x0.Ids (hm.rdS0 r11)) ?_
 refine wv vnot ?_
 refine wm ?_
 rcases Bool.eq_false_or_eq_true (spec_IsSet_m x0.Ids) with g24 | g24
 ·
  refine wg vmv (nt g24) ?_
  refine wg (fun W hm => rv_eql rfl rfl) (nt g24) ?_
  refine wv (vpF (nt g24)) ?_
  refine wm ?_
  by_cases h25 : ((x0.Ids.length : Nat) : Int) = 0
  ·have g26 := beq_iff_eq.2 h25
   refine ws g26 ?_
   refine ws g26 ?_
   refine wv (vpT g26) ?_
   refine wm ?_
   refine wk ?_
   refine wk ?_
   refine wk ?_
   refine wk ?_
   refine wk ?_
   refine wv (vpT rfl) ?_
   refine wm ?_
   refine wk ?_
   refine wk ?_
   refine wk ?_
   refine wk ?_
   refine wk ?_
   refine wv (vpT rfl) ?_
   refine wm ?_
   refine wk ?_
   refine wk ?_
   refine wk ?_
   refine wk ?_
   refine wv (vpT rfl) ?_
   refine wm ?_
   refine wk ?_
   refine wk ?_
   refine wk ?_
   refine wk ?_
   refine wv (vpT rfl) ?_
   refine nt' ?_
   refine CM_condT rfl rfl ?_
   refine sr (wa (nt' (CM_ret (QM_then_ret ?_))))
   exact rtb (h := cond_t g24 (cond_t g26 (rfl)))
  ·have g26 := beq_eq_false_iff_ne.2 h25
   refine wg vmv g26 ?_
   refine wg (fun W hm => rv_gtr rfl rfl) g26 ?_
   refine wv (vpF g26) ?_
   refine wm ?_
   by_cases h27 : 8 < ((x0.Ids.length : Nat) : Int)
   ·have g28 := decide_eq_true h27
    refine ws g28 ?_
    refine ws g28 ?_
    refine ws g28 ?_
    refine ws g28 ?_
    refine ws g28 ?_
    refine wv (vpT g28) ?_
    refine wm ?_
    refine wk ?_
    refine wk ?_
    refine wk ?_
    refine wk ?_
    refine wk ?_
    refine wv (vpT rfl) ?_
    refine wm ?_
    refine wk ?_
    refine wk ?_
    refine wk ?_
    refine wk ?_
    refine wv (vpT rfl) ?_
    refine wm ?_
    refine wk ?_
    refine wk ?_
    refine wk ?_
    refine wk ?_
    refine wv (vpT rfl) ?_
    refine nt' ?_
    refine CM_condT rfl rfl ?_
    refine sr (wa (nt' (CM_ret (QM_then_ret ?_))))
    exact rtb (h := cond_t g24 (cond_f g26 (cond_t g28 (rfl))))
   ·have g28 := decide_eq_false h27
    refine wg (vf underlying133 rfl type25) g28 ?_
    refine wg (vl 0 3 underlying25) g28 ?_
    refine wg (vlen underlying25) g28 ?_
    refine wg vmv g28 ?_
    refine wg vneq g28 ?_
    refine wv (vpF g28) ?_
    refine wm ?_
    by_cases h29 : ((x0.Tenants.length : Nat) : Int) = ((x0.Ids.length : Nat) : Int)
    ·have g30 : (((x0.Tenants.length : Nat) : Int) != ((x0.Ids.length : Nat) : Int)) = false := by rw [h29]; exact bne_self_eq_false _
     refine wg (vf underlying133 rfl type25) g30 ?_
     refine wg (vl 0 4 underlying25) g30 ?_
     refine wg (vlen underlying25) g30 ?_
     refine wg vmv g30 ?_
     refine wg vneq g30 ?_
     refine wv (vpF g30) ?_
     refine wm ?_
     by_cases h31 : ((x0.Rows.length : Nat) : Int) = ((x0.Ids.length : Nat) : Int)
     ·have g32 : (((x0.Rows.length : Nat) : Int) != ((x0.Ids.length : Nat) : Int)) = false := by rw [h31]; exact bne_self_eq_false _
      refine wg (vf underlying133 rfl type3) g32 ?_
      refine wg (vl 0 0 underlying3) g32 ?_
      refine WM_callV (cl_fn cb128 rfl) (fun W hm => spec_l1In_c W x0.Segment 0 7) (Wd_some rfl rfl rfl (bw g32 rfl)) (by decide) ?_
      refine wg vnot g32 ?_
      refine wv (vpF g32) ?_
      refine wm ?_
      rcases Bool.eq_false_or_eq_true (spec_l1In_m x0.Segment 0 7) with g34 | g34
      ·
       have hw := spec_l1In_fact g34
       refine wg (vf underlying133 rfl type3) (nt g34) ?_
       refine wg (vl 0 1 underlying3) (nt g34) ?_
       refine WM_callV (cl_fn cb128 rfl) (fun W hm => spec_l1In_c W x0.Base 0 4) (Wd_some rfl rfl rfl (bw (nt g34) rfl)) (by decide) ?_
       refine wg vnot (nt g34) ?_
       refine wv (vpF (nt g34)) ?_
       refine nt' ?_
       rcases Bool.eq_false_or_eq_true (spec_l1In_m x0.Base 0 4) with g36 | g36
       ·
        have hw := spec_l1In_fact g36
        refine CM_condF rfl (nt g36) ?_
        refine CM_skip (QM_then (CM_seq (sr (wa (nt' (CM_block ?_))))))
        let F1 := fun k (_ : Unit) => spec_IsCharge_b1 x0 k
        let R2 := rng (R := Bool) F1
        let K3 : List Value := [.int .i64 x0.Segment, .int .i64 x0.Base, .slice A8 x0.Ids.length c9, .slice A13 x0.Tenants.length c14, .slice A18 x0.Rows.length c19]
        refine CM_loop (σ := Nat × (Unit) × (Unit)) (fun s => [(1, .pointer (some (⟨p22, 0, none⟩ : Addr))), (3, .int .i64 ((x0.Ids.length : Nat) : Int)), (4, .int .i64 ((s.1 : Nat) : Int))]) (fun s => [iBox p22 133 K3]) (fun s => s.1 ≤ x0.Ids.length ∧ R2 (x0.Ids.length - s.1) s.1 s.2.1 = R2 (x0.Ids.length - 0) 0 ()) (fun s => x0.Ids.length - s.1) (0, (), ()) sl3 (fun W hm => hm) ⟨(by omega), rfl⟩ ?_
        rintro ⟨k37, ⟨⟩, ⟨⟩⟩ H40
        obtain ⟨hk38, hF39⟩ : k37 ≤ x0.Ids.length ∧ R2 (x0.Ids.length - k37) k37 () = R2 (x0.Ids.length - 0) 0 () := H40
        show CM Tryz.prog 69 _ _ _ _ [(1, .pointer (some (⟨p22, 0, none⟩ : Addr))), (3, .int .i64 ((x0.Ids.length : Nat) : Int)), (4, .int .i64 ((k37 : Nat) : Int))] [iBox p22 133 K3]
        refine CM_seq (sr (wm (wm ?_)))
        refine wv vlss ?_
        refine nt' ?_
        by_cases hl41 : k37 < x0.Ids.length
        ·have g42 := dlT hl41
         refine CM_condT rfl g42 ?_
         refine CM_skip (QM_then (CM_seq (CM_block (CM_seq ?_))))
         refine CM_regionD (by kernel_rfl) (by kernel_rfl) ?_
         refine qv (vf underlying133 rfl type25) ?_
         refine qv (vl 0 3 underlying25) ?_
         refine qm ?_
         obtain ⟨a43, rfl, hb44, he45⟩ := q15 (by omega)
         refine qv (vix 1 k37 underlying25 type3) ?_
         refine qv (fun W hm => rv_load underlying3 rfl rfl ((hm.cell0 (show (a43.add (k37 * 1)).block < w.heap.size from by rw [add_block]; exact hb44.1)).trans (rdS_int he45 k37 (by omega)))) ?_
         refine QR_callV (cl_fn cb128 rfl) (fun W hm => spec_l1In_c W (gt x0.Tenants k37) 0 3) (Wd_none rfl) (by decide) ?_
         refine qv vnot ?_
         refine qm ?_
         rcases Bool.eq_false_or_eq_true (spec_l1In_m (gt x0.Tenants k37) 0 3) with g47 | g47
         ·
          have hw := spec_l1In_fact g47
          refine qg (vf underlying133 rfl type25) (nt g47) ?_
          refine qg (vl 0 4 underlying25) (nt g47) ?_
          refine qg vmv (nt g47) ?_
          obtain ⟨a48, rfl, hb49, he50⟩ := q20 (by omega)
          refine qg (vix 1 k37 underlying25 type3) (nt g47) ?_
          refine qg (fun W hm => rv_load underlying3 rfl rfl ((hm.cell0 (show (a48.add (k37 * 1)).block < w.heap.size from by rw [add_block]; exact hb49.1)).trans (rdS_int he50 k37 (by omega)))) (nt g47) ?_
          refine qg (vf underlying133 rfl type3) (nt g47) ?_
          refine qg (vl 0 1 underlying3) (nt g47) ?_
          refine QR_callV (cl_fn cb128 rfl) (fun W hm => spec_l1In_c W (gt x0.Rows k37) 0 x0.Base) (Wd_some rfl rfl rfl (bw (nt g47) rfl)) (by decide) ?_
          refine qg vnot (nt g47) ?_
          refine qv (vpF (nt g47)) ?_
          refine nq' ?_
          rcases Bool.eq_false_or_eq_true (spec_l1In_m (gt x0.Rows k37) 0 x0.Base) with g52 | g52
          ·
           have hw := spec_l1In_fact g52
           refine CM_condF rfl (nt g52) ?_
           refine CM_skip (QM_block_normal (QM_then (CM_region (wm ?_))))
           refine wv (vadN k37 1 (by omega)) ?_
           refine wa (WM_nil ?_)
           have hn53 := rng_next (R := Bool) (body := F1) (k := k37) (s := ()) (s' := ()) (show k37 < x0.Ids.length from by omega) (cond_t g47 (cond_t g52 (rfl))) hF39
           exact QM_round (k37 + 1, (), ()) sl3 (fun W hm => hm) ⟨(by omega), hn53⟩ (rl (by omega))
          ·
           refine CM_condT rfl (nf g52) ?_
           refine sr (wa (nt' (CM_ret (QM_block_ret (QM_then_ret (QM_then_ret (QM_block_ret (QM_then_ret ?_))))))))
           exact rtb (h := cond_t g24 (cond_f g26 (cond_f g28 (cond_f g30 (cond_f g32 (cond_t g34 (cond_t g36 (fin_inl (rng_ret (body := F1) (k := k37) (s := ()) (show k37 < x0.Ids.length from by omega) (cond_t g47 (cond_f g52 (rfl))) hF39) rfl))))))))
         ·
          refine qs (nf g47) ?_
          refine qs (nf g47) ?_
          refine qs (nf g47) ?_
          refine qs (nf g47) ?_
          refine qs (nf g47) ?_
          refine qs (nf g47) ?_
          refine qs (nf g47) ?_
          refine qs (nf g47) ?_
          refine qs (nf g47) ?_
          refine qv (vpT (nf g47)) ?_
          refine nq' ?_
          refine CM_condT rfl rfl ?_
          refine sr (wa (nt' (CM_ret (QM_block_ret (QM_then_ret (QM_then_ret (QM_block_ret (QM_then_ret ?_))))))))
          exact rtb (h := cond_t g24 (cond_f g26 (cond_f g28 (cond_f g30 (cond_f g32 (cond_t g34 (cond_t g36 (fin_inl (rng_ret (body := F1) (k := k37) (s := ()) (show k37 < x0.Ids.length from by omega) (cond_f g47 (rfl)) hF39) rfl))))))))
        ·have g42 := dlF hl41
         refine CM_condF rfl g42 ?_
         refine CM_exit (QM_then_exit (QM_then_exit ?_))
         have hE54 : R2 (x0.Ids.length - 0) 0 () = Sum.inr () := rng_end hl41 hF39
         refine QM_block_hit (QM_then (sr (wa (nt' (CM_ret ?_)))))
         exact rtb (h := cond_t g24 (cond_f g26 (cond_f g28 (cond_f g30 (cond_f g32 (cond_t g34 (cond_t g36 (fin_inr hE54 (rfl)))))))))
       ·
        refine CM_condT rfl (nf g36) ?_
        refine sr (wa (nt' (CM_ret (QM_then_ret ?_))))
        exact rtb (h := cond_t g24 (cond_f g26 (cond_f g28 (cond_f g30 (cond_f g32 (cond_t g34 (cond_f g36 (rfl))))))))
      ·
       refine ws (nf g34) ?_
       refine ws (nf g34) ?_
       refine ws (nf g34) ?_
       refine ws (nf g34) ?_
       refine wv (vpT (nf g34)) ?_
       refine nt' ?_
       refine CM_condT rfl rfl ?_
       refine sr (wa (nt' (CM_ret (QM_then_ret ?_))))
       exact rtb (h := cond_t g24 (cond_f g26 (cond_f g28 (cond_f g30 (cond_f g32 (cond_f g34 (rfl)))))))
     ·have g32 : (((x0.Rows.length : Nat) : Int) != ((x0.Ids.length : Nat) : Int)) = true := bne_iff_ne.2 h31
      refine ws g32 ?_
      refine ws g32 ?_
      refine ws g32 ?_
      refine ws g32 ?_
      refine wv (vpT g32) ?_
      refine wm ?_
      refine wk ?_
      refine wk ?_
      refine wk ?_
      refine wk ?_
      refine wv (vpT rfl) ?_
      refine nt' ?_
      refine CM_condT rfl rfl ?_
      refine sr (wa (nt' (CM_ret (QM_then_ret ?_))))
      exact rtb (h := cond_t g24 (cond_f g26 (cond_f g28 (cond_f g30 (cond_t g32 (rfl))))))
    ·have g30 : (((x0.Tenants.length : Nat) : Int) != ((x0.Ids.length : Nat) : Int)) = true := bne_iff_ne.2 h29
     refine ws g30 ?_
     refine ws g30 ?_
     refine ws g30 ?_
     refine ws g30 ?_
     refine ws g30 ?_
     refine wv (vpT g30) ?_
     refine wm ?_
     refine wk ?_
     refine wk ?_
     refine wk ?_
     refine wk ?_
     refine wv (vpT rfl) ?_
     refine wm ?_
     refine wk ?_
     refine wk ?_
     refine wk ?_
     refine wk ?_
     refine wv (vpT rfl) ?_
     refine nt' ?_
     refine CM_condT rfl rfl ?_
     refine sr (wa (nt' (CM_ret (QM_then_ret ?_))))
     exact rtb (h := cond_t g24 (cond_f g26 (cond_f g28 (cond_t g30 (rfl)))))
 ·
  refine ws (nf g24) ?_
  refine ws (nf g24) ?_
  refine wv (vpT (nf g24)) ?_
  refine wm ?_
  refine wk ?_
  refine wk ?_
  refine wv (vpT rfl) ?_
  refine wm ?_
  refine wk ?_
  refine wk ?_
  refine wk ?_
  refine wk ?_
  refine wk ?_
  refine wv (vpT rfl) ?_
  refine wm ?_
  refine wk ?_
  refine wk ?_
  refine wk ?_
  refine wk ?_
  refine wk ?_
  refine wv (vpT rfl) ?_
  refine wm ?_
  refine wk ?_
  refine wk ?_
  refine wk ?_
  refine wk ?_
  refine wv (vpT rfl) ?_
  refine wm ?_
  refine wk ?_
  refine wk ?_
  refine wk ?_
  refine wk ?_
  refine wv (vpT rfl) ?_
  refine nt' ?_
  refine CM_condT rfl rfl ?_
  refine sr (wa (nt' (CM_ret (QM_then_ret ?_))))
  exact rtb (h := cond_f g24 (rfl))

theorem spec_IsCharge_fact {x : DCharge} (h : spec_IsCharge_m x = true) : 1 ≤ x.Ids.length ∧ x.Tenants.length = x.Ids.length ∧ x.Rows.length = x.Ids.length := by
  unfold spec_IsCharge_m at h
  cases h1 : spec_IsSet_m x.Ids <;> rw [h1] at h
  · cases h
  by_cases h2 : ((x.Ids.length : Nat) : Int) = 0
  · rw [beq_iff_eq.2 h2] at h
    cases h
  · by_cases h3 : ((x.Tenants.length : Nat) : Int) = ((x.Ids.length : Nat) : Int)
    · by_cases h4 : ((x.Rows.length : Nat) : Int) = ((x.Ids.length : Nat) : Int)
      · omega
      · rw [bne_iff_ne.2 h4] at h
        revert h
        cases (((x.Ids.length : Nat) : Int) == 0) <;> cases decide (8 < ((x.Ids.length : Nat) : Int)) <;> cases (((x.Tenants.length : Nat) : Int) != ((x.Ids.length : Nat) : Int)) <;> intro h <;> cases h
    · rw [bne_iff_ne.2 h3] at h
      revert h
      cases (((x.Ids.length : Nat) : Int) == 0) <;> cases decide (8 < ((x.Ids.length : Nat) : Int)) <;> intro h <;> cases h

def spec_IsEngine_b3 (x0 : DEngine) (k188 : Nat) : Bool ⊕ (Unit) :=
 cond (spec_IsCharge_m (gt x0.Ledger k188)) (Sum.inr ()) (Sum.inl false)
def spec_IsEngine_b2 (x0 : DEngine) (k142 : Nat) : Bool ⊕ (Unit) :=
 cond (spec_IsQuery_m ((gt x0.Done k142).Query)) (cond (spec_l1In_m ((gt x0.Done k142).Time) 0 x0.Store.Now) (cond (spec_l1In_m ((gt x0.Done k142).Steps) 0 100000) (cond (spec_l9List_m ((gt x0.Done k142).Rows)) (Sum.inr ()) (Sum.inl false)) (Sum.inl false)) (Sum.inl false)) (Sum.inl false)
def spec_IsEngine_b1 (x0 : DEngine) (k56 : Nat) : Bool ⊕ (Unit) :=
 cond (spec_l9Active_m x0 (gt x0.Active k56)) (cond (decide (0 < ((k56 : Nat) : Int))) (cond (decide (((gt x0.Active k56).Query.Id) ≤ ((gt x0.Active (k56 - 1)).Query.Id))) (Sum.inl false) (Sum.inr ())) (Sum.inr ())) (Sum.inl false)
def spec_IsEngine_m (x0 : DEngine) : Bool :=
 cond (spec_IsStore_m x0.Store) (cond (spec_l1In_m x0.Cursor 0 (IntKind.i64.wrap (((x0.Store.Segments.length : Nat) : Int) - 1))) (cond (spec_l6Order_m x0.Order) (cond (decide (8 < ((x0.Active.length : Nat) : Int))) false (cond (spec_l1In_m x0.Steps 0 100000) (cond (decide (1000 < ((x0.Done.length : Nat) : Int))) false (cond (decide (1000 < ((x0.Ledger.length : Nat) : Int))) false (Sum.elim id (fun (s1_ : Unit) => Sum.elim id (fun (s2_ : Unit) => Sum.elim id (fun (s : Unit) => true) (rng (R := Bool) (fun k (_ : Unit) => spec_IsEngine_b3 x0 k) (x0.Ledger.length - 0) 0 ())) (rng (R := Bool) (fun k (_ : Unit) => spec_IsEngine_b2 x0 k) (x0.Done.length - 0) 0 ())) (rng (R := Bool) (fun k (_ : Unit) => spec_IsEngine_b1 x0 k) (x0.Active.length - 0) 0 ())))) false)) false) false) false
theorem cb65 : Cb Tryz.prog 65 := ⟨f65, _, func65, rfl, by decide⟩
theorem spec_IsEngine_c (w : World) (z0 : List Value) (x0 : DEngine) (r_0 : tyEngine.rd w w.heap.size z0 x0) (s_0 : smEngine 68719476736 x0) :
  Calls Tryz.prog 65 #[.agg z0.toArray] w fun e w' => e = .returned (.bool (spec_IsEngine_m x0)) ∧ Below w.heap.size w w' := by
 obtain ⟨v1, v3, v5, v7, v9, rfl, r2, r4, r6, r8, r10⟩ := tyEngine_rd r_0
 obtain ⟨m11, A12, c13, rfl, q14, r15⟩ := rdS_op r2
 obtain ⟨m16, A17, c18, rfl, q19, r20⟩ := rdS_op r4
 obtain ⟨m21, A22, c23, rfl, q24, r25⟩ := rdS_op r6
 obtain ⟨m26, A27, c28, rfl, q29, r30⟩ := rdS_op r8
 obtain ⟨m31, A32, c33, rfl, q34, r35⟩ := rdS_op r10
 have l36 : x0.Store.Segments.length ≤ 68719476736 := s_0.1.1
 have l37 : x0.Order.length ≤ 68719476736 := s_0.2.1
 have l38 : x0.Active.length ≤ 68719476736 := s_0.2.2.1.1
 have l39 : x0.Done.length ≤ 68719476736 := s_0.2.2.2.1.1
 have l40 : x0.Ledger.length ≤ 68719476736 := s_0.2.2.2.2.1
 refine ce1 (L := [(0, .agg #[.slice A12 x0.Store.Segments.length c13, .int .i64 x0.Store.Now, .int .i64 x0.Cursor, .slice A17 x0.Order.length c18, .slice A22 x0.Active.length c23, .slice A27 x0.Done.length c28, .slice A32 x0.Ledger.length c33, .int .i64 x0.Steps])]) (N := 140) func65 ?_
 refine sr ?_
 refine WM_box rfl (Wd_none rfl) (by decide) (fun p41 => ?_)
 refine wa (nt' (CM_seq (sr ?_)))
 refine wv (vf underlying47 rfl type42) ?_
 refine wv (fun W hm => rv_loadN (cs := [.slice A12 x0.Store.Segments.length c13, .int .i64 x0.Store.Now]) underlying42 type42 rfl rfl (hm.boxPart (n := 0) rfl rfl)) ?_
 refine wcv (cl_fn cb151 rfl) (fun W hm => spec_IsStore_c W _ x0.Store (tyStore_mk (x := x0.Store) (hm.rdS0 r15)) s_0.1) ?_
 refine wv vnot ?_
 refine wm ?_
 rcases Bool.eq_false_or_eq_true (spec_IsStore_m x0.Store) with g43 | g43
 ·
  refine wg (vf underlying47 rfl type3) (nt g43) ?_
  refine wg (vl 0 2 underlying3) (nt g43) ?_
  refine wg (vf underlying47 rfl type42) (nt g43) ?_
  refine wg (fun W hm => rv_fieldA (o := 0) underlying42 rfl type40 (by decide) rfl rfl) (nt g43) ?_
  refine wg (vl 0 0 underlying40) (nt g43) ?_
  refine wg (vlen underlying40) (nt g43) ?_
  refine wg (fun W hm => rv_sub rfl rfl) (nt g43) ?_
  refine WM_callV (cl_fn cb128 rfl) (fun W hm => spec_l1In_c W x0.Cursor 0 (IntKind.i64.wrap (((x0.Store.Segments.length : Nat) : Int) - 1))) (Wd_some rfl rfl rfl (bw (nt g43) rfl)) (by decide) ?_
  refine wg vnot (nt g43) ?_
  refine wv (vpF (nt g43)) ?_
  refine wm ?_
  rcases Bool.eq_false_or_eq_true (spec_l1In_m x0.Cursor 0 (IntKind.i64.wrap (((x0.Store.Segments.length : Nat) : Int) - 1))) with g45 | g45
  ·
   have hw := spec_l1In_fact g45
   rw [wrap_pred (by omega)] at hw
   refine wg (vf underlying47 rfl type25) (nt g45) ?_
   refine wg (vl 0 3 underlying25) (nt g45) ?_
   refine WM_callV (cl_fn cb137 rfl) (fun W hm => spec_l6Order_c W _ x0.Order (hm.rdS0 r20)) (Wd_some rfl rfl rfl (bw (nt g45) rfl)) (by decide) ?_
   refine wg vnot (nt g45) ?_
   refine wv (vpF (nt g45)) ?_
   refine wm ?_
   rcases Bool.eq_false_or_eq_true (spec_l6Order_m x0.Order) with g47 | g47
   ·
    refine wg (vf underlying47 rfl type43) (nt g47) ?_
    refine wg (vl 0 4 underlying43) (nt g47) ?_
    refine wg (vlen underlying43) (nt g47) ?_
    refine wg (fun W hm => rv_gtr rfl rfl) (nt g47) ?_
    refine wv (vpF (nt g47)) ?_
    refine wm ?_
    by_cases h48 : 8 < ((x0.Active.length : Nat) : Int)
    ·have g49 := decide_eq_true h48
     refine ws g49 ?_
     refine ws g49 ?_
     refine ws g49 ?_
     refine ws g49 ?_
     refine wv (vpT g49) ?_
     refine wm ?_
     refine wk ?_
     refine wk ?_
     refine wk ?_
     refine wk ?_
     refine wv (vpT rfl) ?_
     refine wm ?_
     refine wk ?_
     refine wk ?_
     refine wk ?_
     refine wk ?_
     refine wv (vpT rfl) ?_
     refine nt' ?_
     refine CM_condT rfl rfl ?_
     refine sr (wa (nt' (CM_ret (QM_then_ret ?_))))
     exact rtb (h := cond_t g43 (cond_t g45 (cond_t g47 (cond_t g49 (rfl)))))
    ·have g49 := decide_eq_false h48
     refine wg (vf underlying47 rfl type3) g49 ?_
     refine wg (vl 0 7 underlying3) g49 ?_
     refine WM_callV (cl_fn cb128 rfl) (fun W hm => spec_l1In_c W x0.Steps 0 100000) (Wd_some rfl rfl rfl (bw g49 rfl)) (by decide) ?_
     refine wg vnot g49 ?_
     refine wv (vpF g49) ?_
     refine wm ?_
     rcases Bool.eq_false_or_eq_true (spec_l1In_m x0.Steps 0 100000) with g51 | g51
     ·
      have hw := spec_l1In_fact g51
      refine wg (vf underlying47 rfl type44) (nt g51) ?_
      refine wg (vl 0 5 underlying44) (nt g51) ?_
      refine wg (vlen underlying44) (nt g51) ?_
      refine wg (fun W hm => rv_gtr rfl rfl) (nt g51) ?_
      refine wv (vpF (nt g51)) ?_
      refine wm ?_
      by_cases h52 : 1000 < ((x0.Done.length : Nat) : Int)
      ·have g53 := decide_eq_true h52
       refine ws g53 ?_
       refine ws g53 ?_
       refine ws g53 ?_
       refine ws g53 ?_
       refine wv (vpT g53) ?_
       refine nt' ?_
       refine CM_condT rfl rfl ?_
       refine sr (wa (nt' (CM_ret (QM_then_ret ?_))))
       exact rtb (h := cond_t g43 (cond_t g45 (cond_t g47 (cond_f g49 (cond_t g51 (cond_t g53 (rfl)))))))
      ·have g53 := decide_eq_false h52
       refine wg (vf underlying47 rfl type45) g53 ?_
       refine wg (vl 0 6 underlying45) g53 ?_
       refine wg (vlen underlying45) g53 ?_
       refine wg (fun W hm => rv_gtr rfl rfl) g53 ?_
       refine wv (vpF g53) ?_
       refine nt' ?_
       by_cases h54 : 1000 < ((x0.Ledger.length : Nat) : Int)
       ·have g55 := decide_eq_true h54
        refine CM_condT rfl g55 ?_
        refine sr (wa (nt' (CM_ret (QM_then_ret ?_))))
        exact rtb (h := cond_t g43 (cond_t g45 (cond_t g47 (cond_f g49 (cond_t g51 (cond_f g53 (cond_t g55 (rfl))))))))
       ·have g55 := decide_eq_false h54
        refine CM_condF rfl g55 ?_
        refine CM_skip (QM_then (CM_seq (sr (wa (nt' (CM_block ?_))))))
        let F1 := fun k (_ : Unit) => spec_IsEngine_b1 x0 k
        let R4 := rng (R := Bool) F1
        let K7 : List Value := [.slice A12 x0.Store.Segments.length c13, .int .i64 x0.Store.Now, .int .i64 x0.Cursor, .slice A17 x0.Order.length c18, .slice A22 x0.Active.length c23, .slice A27 x0.Done.length c28, .slice A32 x0.Ledger.length c33, .int .i64 x0.Steps]
        refine CM_loop (σ := Nat × (Unit) × (Unit)) (fun s => [(1, .pointer (some (⟨p41, 0, none⟩ : Addr))), (3, .int .i64 ((s.1 : Nat) : Int))]) (fun s => [iBox p41 47 K7]) (fun s => s.1 ≤ x0.Active.length ∧ R4 (x0.Active.length - s.1) s.1 s.2.1 = R4 (x0.Active.length - 0) 0 ()) (fun s => x0.Active.length - s.1) (0, (), ()) sl2 (fun W hm => hm) ⟨(by omega), rfl⟩ ?_
        rintro ⟨k56, ⟨⟩, ⟨⟩⟩ H59
        obtain ⟨hk57, hF58⟩ : k56 ≤ x0.Active.length ∧ R4 (x0.Active.length - k56) k56 () = R4 (x0.Active.length - 0) 0 () := H59
        show CM Tryz.prog 140 _ _ _ _ [(1, .pointer (some (⟨p41, 0, none⟩ : Addr))), (3, .int .i64 ((k56 : Nat) : Int))] [iBox p41 47 K7]
        refine CM_seq (sr (wm ?_))
        refine wv (vf underlying47 rfl type43) ?_
        refine wv (vl 0 4 underlying43) ?_
        refine wv (vlen underlying43) ?_
        refine wv vlss ?_
        refine nt' ?_
        by_cases hl60 : k56 < x0.Active.length
        ·have g61 := dlT hl60
         refine CM_condT rfl g61 ?_
         refine CM_skip (QM_then (CM_seq (CM_block (CM_seq ?_))))
         refine CM_regionD (by kernel_rfl) (by kernel_rfl) ?_
         refine qv (fun W hm => rv_loadN (cs := K7) underlying47 type47 rfl rfl (hm.boxCells (n := 0) rfl)) ?_
         refine qv (vf underlying47 rfl type43) ?_
         refine qv (vl 0 4 underlying43) ?_
         refine qm ?_
         obtain ⟨a62, rfl, hb63, he64⟩ := q24 (by omega)
         refine qv (vix 10 k56 underlying43 type64) ?_
         obtain ⟨_, e74, hc65⟩ := he64 k56 _ (gt_some (show k56 < x0.Active.length from by omega))
         obtain ⟨v66, v68, v70, v72, rfl, r67, r69, r71, r73⟩ := tyActive_rd e74
         have l75 : ((gt x0.Active k56).Query.Conds).length ≤ 68719476736 := (s_0.2.2.1.2 _ (gt_mem (show k56 < x0.Active.length from by omega))).1.1
         have l76 : ((gt x0.Active k56).Query.Out).length ≤ 68719476736 := (s_0.2.2.1.2 _ (gt_mem (show k56 < x0.Active.length from by omega))).1.2
         have l77 : ((gt x0.Active k56).Todo).length ≤ 68719476736 := (s_0.2.2.1.2 _ (gt_mem (show k56 < x0.Active.length from by omega))).2.1
         have l78 : ((gt x0.Active k56).Rows).length ≤ 68719476736 := (s_0.2.2.1.2 _ (gt_mem (show k56 < x0.Active.length from by omega))).2.2.1
         obtain ⟨m79, A80, c81, rfl, q82, r83⟩ := rdS_op r67
         obtain ⟨m84, A85, c86, rfl, q87, r88⟩ := rdS_op r69
         obtain ⟨m89, A90, c91, rfl, q92, r93⟩ := rdS_op r71
         obtain ⟨m94, A95, c96, rfl, q97, r98⟩ := rdS_op r73
         refine qv (fun W hm => rv_loadN (cs := [.int .i64 ((gt x0.Active k56).Query.Id), .int .i64 ((gt x0.Active k56).Query.Tenant), .slice A80 ((gt x0.Active k56).Query.Conds).length c81, .slice A85 ((gt x0.Active k56).Query.Out).length c86, .int .i64 ((gt x0.Active k56).Time), .slice A90 ((gt x0.Active k56).Todo).length c91, .int .i64 ((gt x0.Active k56).Age), .int .i64 ((gt x0.Active k56).Sent), .int .i64 ((gt x0.Active k56).Cap), .slice A95 ((gt x0.Active k56).Rows).length c96]) underlying64 type64 rfl rfl (hm.elCells (show (a62.add (k56 * 10)).block < w.heap.size from by rw [add_block]; exact hb63.1) hc65)) ?_
         refine QR_callV (cl_fn cb152 rfl) (fun W hm => spec_l9Active_c W _ x0 _ (gt x0.Active k56) (tyEngine_mk (x := x0) (hm.rdS0 r15) (hm.rdS0 r20) (hm.rdS0 r25) (hm.rdS0 r30) (hm.rdS0 r35)) (tyActive_mk (x := (gt x0.Active k56)) (hm.rdS0 r83) (hm.rdS0 r88) (hm.rdS0 r93) (hm.rdS0 r98))) (Wd_none rfl) (by decide) ?_
         refine qv vnot ?_
         refine qm ?_
         rcases Bool.eq_false_or_eq_true (spec_l9Active_m x0 (gt x0.Active k56)) with g100 | g100
         ·
          refine qg vmv (nt g100) ?_
          refine qg (fun W hm => rv_gtr rfl rfl) (nt g100) ?_
          refine qg vmv (nt g100) ?_
          by_cases h101 : 0 < ((k56 : Nat) : Int)
          ·have g102 := decide_eq_true h101
           refine qg (vf underlying47 rfl type43) g102 ?_
           refine qg (vl 0 4 underlying43) g102 ?_
           refine qg vmv g102 ?_
           refine qg (vix 10 k56 underlying43 type64) g102 ?_
           refine qg (vf underlying64 rfl type34) g102 ?_
           refine qg (fun W hm => rv_fieldA (o := 0) underlying34 rfl type3 (by decide) rfl rfl) g102 ?_
           refine qg (fun W hm => rv_load underlying3 rfl rfl ((hm.cell0 (show ((a62.add (k56 * 10)).add 0).block < w.heap.size from by rw [add_block, add_block]; exact hb63.1)).trans (hc65 0 _ rfl))) g102 ?_
           refine qg (vf underlying47 rfl type43) g102 ?_
           refine qg (vl 0 4 underlying43) g102 ?_
           refine qg vmv g102 ?_
           refine qg (fun W hm => rv_subN (p := k56) (q := 1) rfl rfl (by omega) (by omega)) g102 ?_
           refine qg (fun W hm => rv_index (sz := 10) (k := k56 - 1) underlying43 type64 rfl rfl rfl (by omega)) g102 ?_
           refine qg (vf underlying64 rfl type34) g102 ?_
           refine qg (fun W hm => rv_fieldA (o := 0) underlying34 rfl type3 (by decide) rfl rfl) g102 ?_
           obtain ⟨_, e112, hc103⟩ := he64 (k56 - 1) _ (gt_some (show (k56 - 1) < x0.Active.length from by omega))
           obtain ⟨v104, v106, v108, v110, rfl, r105, r107, r109, r111⟩ := tyActive_rd e112
           have l113 : ((gt x0.Active (k56 - 1)).Query.Conds).length ≤ 68719476736 := (s_0.2.2.1.2 _ (gt_mem (show (k56 - 1) < x0.Active.length from by omega))).1.1
           have l114 : ((gt x0.Active (k56 - 1)).Query.Out).length ≤ 68719476736 := (s_0.2.2.1.2 _ (gt_mem (show (k56 - 1) < x0.Active.length from by omega))).1.2
           have l115 : ((gt x0.Active (k56 - 1)).Todo).length ≤ 68719476736 := (s_0.2.2.1.2 _ (gt_mem (show (k56 - 1) < x0.Active.length from by omega))).2.1
           have l116 : ((gt x0.Active (k56 - 1)).Rows).length ≤ 68719476736 := (s_0.2.2.1.2 _ (gt_mem (show (k56 - 1) < x0.Active.length from by omega))).2.2.1
           obtain ⟨m117, A118, c119, rfl, q120, r121⟩ := rdS_op r105
           obtain ⟨m122, A123, c124, rfl, q125, r126⟩ := rdS_op r107
           obtain ⟨m127, A128, c129, rfl, q130, r131⟩ := rdS_op r109
           obtain ⟨m132, A133, c134, rfl, q135, r136⟩ := rdS_op r111
           refine qg (fun W hm => rv_load underlying3 rfl rfl ((hm.cell0 (show ((a62.add ((k56 - 1) * 10)).add 0).block < w.heap.size from by rw [add_block, add_block]; exact hb63.1)).trans (hc103 0 _ rfl))) g102 ?_
           refine qg (fun W hm => rv_leq rfl rfl) g102 ?_
           refine qg (vpT g102) (nt g100) ?_
           refine qv (vpF (nt g100)) ?_
           refine nq' ?_
           by_cases h137 : ((gt x0.Active k56).Query.Id) ≤ ((gt x0.Active (k56 - 1)).Query.Id)
           ·have g138 := decide_eq_true h137
            refine CM_condT rfl g138 ?_
            refine sr (wa (nt' (CM_ret (QM_block_ret (QM_then_ret (QM_then_ret (QM_block_ret (QM_then_ret ?_))))))))
            exact rtb (h := cond_t g43 (cond_t g45 (cond_t g47 (cond_f g49 (cond_t g51 (cond_f g53 (cond_f g55 (fin_inl (rng_ret (body := F1) (k := k56) (s := ()) (show k56 < x0.Active.length from by omega) (cond_t g100 (cond_t g102 (cond_t g138 (rfl)))) hF58) rfl))))))))
           ·have g138 := decide_eq_false h137
            refine CM_condF rfl g138 ?_
            refine CM_skip (QM_block_normal (QM_then (CM_region (wm ?_))))
            refine wv (vadN k56 1 (by omega)) ?_
            refine wa (WM_nil ?_)
            have hn139 := rng_next (R := Bool) (body := F1) (k := k56) (s := ()) (s' := ()) (show k56 < x0.Active.length from by omega) (cond_t g100 (cond_t g102 (cond_f g138 (rfl)))) hF58
            exact QM_round (k56 + 1, (), ()) sl2 (fun W hm => hm) ⟨(by omega), hn139⟩ (rl (by omega))
          ·have g102 := decide_eq_false h101
           refine qs g102 ?_
           refine qs g102 ?_
           refine qs g102 ?_
           refine qs g102 ?_
           refine qs g102 ?_
           refine qs g102 ?_
           refine qs g102 ?_
           refine qs g102 ?_
           refine qs g102 ?_
           refine qs g102 ?_
           refine qs g102 ?_
           refine qs g102 ?_
           refine qs g102 ?_
           refine qs g102 ?_
           refine qs g102 ?_
           refine qs g102 ?_
           refine qg (vpF g102) (nt g100) ?_
           refine qv (vpF (nt g100)) ?_
           refine nq' ?_
           refine CM_condF rfl rfl ?_
           refine CM_skip (QM_block_normal (QM_then (CM_region (wm ?_))))
           refine wv (vadN k56 1 (by omega)) ?_
           refine wa (WM_nil ?_)
           have hn140 := rng_next (R := Bool) (body := F1) (k := k56) (s := ()) (s' := ()) (show k56 < x0.Active.length from by omega) (cond_t g100 (cond_f g102 (rfl))) hF58
           exact QM_round (k56 + 1, (), ()) sl2 (fun W hm => hm) ⟨(by omega), hn140⟩ (rl (by omega))
         ·
          refine qs (nf g100) ?_
          refine qs (nf g100) ?_
          refine qs (nf g100) ?_
          refine qu ?_
          refine qu ?_
          refine qu ?_
          refine qu ?_
          refine qu ?_
          refine qu ?_
          refine qu ?_
          refine qu ?_
          refine qu ?_
          refine qu ?_
          refine qu ?_
          refine qu ?_
          refine qu ?_
          refine qu ?_
          refine qu ?_
          refine qu ?_
          refine qs (nf g100) ?_
          refine qv (vpT (nf g100)) ?_
          refine nq' ?_
          refine CM_condT rfl rfl ?_
          refine sr (wa (nt' (CM_ret (QM_block_ret (QM_then_ret (QM_then_ret (QM_block_ret (QM_then_ret ?_))))))))
          exact rtb (h := cond_t g43 (cond_t g45 (cond_t g47 (cond_f g49 (cond_t g51 (cond_f g53 (cond_f g55 (fin_inl (rng_ret (body := F1) (k := k56) (s := ()) (show k56 < x0.Active.length from by omega) (cond_f g100 (rfl)) hF58) rfl))))))))
        ·have g61 := dlF hl60
         refine CM_condF rfl g61 ?_
         refine CM_exit (QM_then_exit (QM_then_exit ?_))
         have hE141 : R4 (x0.Active.length - 0) 0 () = Sum.inr () := rng_end hl60 hF58
         refine QM_block_hit (QM_then (CM_seq (sr (wa (nt' (CM_block ?_))))))
         let F2 := fun k (_ : Unit) => spec_IsEngine_b2 x0 k
         let R5 := rng (R := Bool) F2
         refine CM_loop (σ := Nat × (Unit) × (Unit)) (fun s => [(1, .pointer (some (⟨p41, 0, none⟩ : Addr))), (4, .int .i64 ((s.1 : Nat) : Int))]) (fun s => [iBox p41 47 K7]) (fun s => s.1 ≤ x0.Done.length ∧ R5 (x0.Done.length - s.1) s.1 s.2.1 = R5 (x0.Done.length - 0) 0 ()) (fun s => x0.Done.length - s.1) (0, (), ()) sl2 (fun W hm => hm) ⟨(by omega), rfl⟩ ?_
         rintro ⟨k142, ⟨⟩, ⟨⟩⟩ H145
         obtain ⟨hk143, hF144⟩ : k142 ≤ x0.Done.length ∧ R5 (x0.Done.length - k142) k142 () = R5 (x0.Done.length - 0) 0 () := H145
         show CM Tryz.prog 140 _ _ _ _ [(1, .pointer (some (⟨p41, 0, none⟩ : Addr))), (4, .int .i64 ((k142 : Nat) : Int))] [iBox p41 47 K7]
         refine CM_seq (sr (wm ?_))
         refine wv (vf underlying47 rfl type44) ?_
         refine wv (vl 0 5 underlying44) ?_
         refine wv (vlen underlying44) ?_
         refine wv vlss ?_
         refine nt' ?_
         by_cases hl146 : k142 < x0.Done.length
         ·have g147 := dlT hl146
          refine CM_condT rfl g147 ?_
          refine CM_skip (QM_then (CM_seq (CM_block (sr ?_))))
          refine wv (vf underlying47 rfl type44) ?_
          refine wv (vl 0 5 underlying44) ?_
          refine wm ?_
          obtain ⟨a148, rfl, hb149, he150⟩ := q29 (by omega)
          refine wv (vix 7 k142 underlying44 type37) ?_
          obtain ⟨_, e158, hc151⟩ := he150 k142 _ (gt_some (show k142 < x0.Done.length from by omega))
          obtain ⟨v152, v154, v156, rfl, r153, r155, r157⟩ := tyFinished_rd e158
          have l159 : ((gt x0.Done k142).Query.Conds).length ≤ 68719476736 := (s_0.2.2.2.1.2 _ (gt_mem (show k142 < x0.Done.length from by omega))).1.1
          have l160 : ((gt x0.Done k142).Query.Out).length ≤ 68719476736 := (s_0.2.2.2.1.2 _ (gt_mem (show k142 < x0.Done.length from by omega))).1.2
          have l161 : ((gt x0.Done k142).Rows).length ≤ 68719476736 := (s_0.2.2.2.1.2 _ (gt_mem (show k142 < x0.Done.length from by omega))).2.1
          obtain ⟨m162, A163, c164, rfl, q165, r166⟩ := rdS_op r153
          obtain ⟨m167, A168, c169, rfl, q170, r171⟩ := rdS_op r155
          obtain ⟨m172, A173, c174, rfl, q175, r176⟩ := rdS_op r157
          let K8 : List Value := [.int .i64 ((gt x0.Done k142).Query.Id), .int .i64 ((gt x0.Done k142).Query.Tenant), .slice A163 ((gt x0.Done k142).Query.Conds).length c164, .slice A168 ((gt x0.Done k142).Query.Out).length c169, .int .i64 ((gt x0.Done k142).Time), .int .i64 ((gt x0.Done k142).Steps), .slice A173 ((gt x0.Done k142).Rows).length c174]
          refine wv (fun W hm => rv_loadN (cs := K8) underlying37 type37 rfl rfl (hm.elCells (show (a148.add (k142 * 7)).block < w.heap.size from by rw [add_block]; exact hb149.1) hc151)) ?_
          refine WM_alloc type37 rfl (Wd_none rfl) (by decide) (fun p177 => ?_)
          refine sb 0 K8 [iBox p41 47 [.slice A12 x0.Store.Segments.length c13, .int .i64 x0.Store.Now, .int .i64 x0.Cursor, .slice A17 x0.Order.length c18, .slice A22 x0.Active.length c23, .slice (some a148) x0.Done.length c28, .slice A32 x0.Ledger.length c33, .int .i64 x0.Steps]] (fun W hm => hm) type37 ?_
          refine nt' (sr ?_)
          refine wv (vf underlying37 rfl type34) ?_
          refine wv (fun W hm => rv_loadN (cs := [.int .i64 ((gt x0.Done k142).Query.Id), .int .i64 ((gt x0.Done k142).Query.Tenant), .slice A163 ((gt x0.Done k142).Query.Conds).length c164, .slice A168 ((gt x0.Done k142).Query.Out).length c169]) underlying34 type34 rfl rfl (hm.boxPart (n := 0) rfl rfl)) ?_
          refine wcv (cl_fn cb127 rfl) (fun W hm => spec_IsQuery_c W _ ((gt x0.Done k142).Query) (tyQuery_mk (x := ((gt x0.Done k142).Query)) (hm.rdS0 r166) (hm.rdS0 r171))) ?_
          refine wv vnot ?_
          refine wm ?_
          rcases Bool.eq_false_or_eq_true (spec_IsQuery_m ((gt x0.Done k142).Query)) with g179 | g179
          ·
           refine wg (vf underlying37 rfl type3) (nt g179) ?_
           refine wg (vl 0 4 underlying3) (nt g179) ?_
           refine wg (vf underlying47 rfl type42) (nt g179) ?_
           refine wg (fun W hm => rv_fieldA (o := 1) underlying42 rfl type3 (by decide) rfl rfl) (nt g179) ?_
           refine wg (vl 1 1 underlying3) (nt g179) ?_
           refine WM_callV (cl_fn cb128 rfl) (fun W hm => spec_l1In_c W ((gt x0.Done k142).Time) 0 x0.Store.Now) (Wd_some rfl rfl rfl (bw (nt g179) rfl)) (by decide) ?_
           refine wg vnot (nt g179) ?_
           refine wv (vpF (nt g179)) ?_
           refine wm ?_
           rcases Bool.eq_false_or_eq_true (spec_l1In_m ((gt x0.Done k142).Time) 0 x0.Store.Now) with g181 | g181
           ·
            have hw := spec_l1In_fact g181
            refine wg (vf underlying37 rfl type3) (nt g181) ?_
            refine wg (vl 0 5 underlying3) (nt g181) ?_
            refine WM_callV (cl_fn cb128 rfl) (fun W hm => spec_l1In_c W ((gt x0.Done k142).Steps) 0 100000) (Wd_some rfl rfl rfl (bw (nt g181) rfl)) (by decide) ?_
            refine wg vnot (nt g181) ?_
            refine wv (vpF (nt g181)) ?_
            refine wm ?_
            rcases Bool.eq_false_or_eq_true (spec_l1In_m ((gt x0.Done k142).Steps) 0 100000) with g183 | g183
            ·
             have hw := spec_l1In_fact g183
             refine wg (vf underlying37 rfl type35) (nt g183) ?_
             refine wg (vl 0 6 underlying35) (nt g183) ?_
             refine WM_callV (cl_fn cb153 rfl) (fun W hm => spec_l9List_c W _ ((gt x0.Done k142).Rows) (hm.rdS0 r176)) (Wd_some rfl rfl rfl (bw (nt g183) rfl)) (by decide) ?_
             refine wg vnot (nt g183) ?_
             refine wv (vpF (nt g183)) ?_
             refine nt' ?_
             rcases Bool.eq_false_or_eq_true (spec_l9List_m ((gt x0.Done k142).Rows)) with g185 | g185
             ·
              refine CM_condF rfl (nt g185) ?_
              refine CM_skip (QM_block_normal (QM_then (CM_region (wm ?_))))
              refine wv (vadN k142 1 (by omega)) ?_
              refine wa (WM_nil ?_)
              have hn186 := rng_next (R := Bool) (body := F2) (k := k142) (s := ()) (s' := ()) (show k142 < x0.Done.length from by omega) (cond_t g179 (cond_t g181 (cond_t g183 (cond_t g185 (rfl))))) hF144
              exact QM_round (k142 + 1, (), ()) sl2 (pk [1]) ⟨(by omega), hn186⟩ (rl (by omega))
             ·
              refine CM_condT rfl (nf g185) ?_
              refine sr (wa (nt' (CM_ret (QM_block_ret (QM_then_ret (QM_then_ret (QM_block_ret (QM_then_ret ?_))))))))
              exact rtb (h := cond_t g43 (cond_t g45 (cond_t g47 (cond_f g49 (cond_t g51 (cond_f g53 (cond_f g55 (fin_inr hE141 (fin_inl (rng_ret (body := F2) (k := k142) (s := ()) (show k142 < x0.Done.length from by omega) (cond_t g179 (cond_t g181 (cond_t g183 (cond_f g185 (rfl))))) hF144) rfl)))))))))
            ·
             refine ws (nf g183) ?_
             refine ws (nf g183) ?_
             refine ws (nf g183) ?_
             refine ws (nf g183) ?_
             refine wv (vpT (nf g183)) ?_
             refine nt' ?_
             refine CM_condT rfl rfl ?_
             refine sr (wa (nt' (CM_ret (QM_block_ret (QM_then_ret (QM_then_ret (QM_block_ret (QM_then_ret ?_))))))))
             exact rtb (h := cond_t g43 (cond_t g45 (cond_t g47 (cond_f g49 (cond_t g51 (cond_f g53 (cond_f g55 (fin_inr hE141 (fin_inl (rng_ret (body := F2) (k := k142) (s := ()) (show k142 < x0.Done.length from by omega) (cond_t g179 (cond_t g181 (cond_f g183 (rfl)))) hF144) rfl)))))))))
           ·
            refine ws (nf g181) ?_
            refine ws (nf g181) ?_
            refine ws (nf g181) ?_
            refine ws (nf g181) ?_
            refine wv (vpT (nf g181)) ?_
            refine wm ?_
            refine wk ?_
            refine wk ?_
            refine wk ?_
            refine wk ?_
            refine wv (vpT rfl) ?_
            refine nt' ?_
            refine CM_condT rfl rfl ?_
            refine sr (wa (nt' (CM_ret (QM_block_ret (QM_then_ret (QM_then_ret (QM_block_ret (QM_then_ret ?_))))))))
            exact rtb (h := cond_t g43 (cond_t g45 (cond_t g47 (cond_f g49 (cond_t g51 (cond_f g53 (cond_f g55 (fin_inr hE141 (fin_inl (rng_ret (body := F2) (k := k142) (s := ()) (show k142 < x0.Done.length from by omega) (cond_t g179 (cond_f g181 (rfl))) hF144) rfl)))))))))
          ·
           refine ws (nf g179) ?_
           refine ws (nf g179) ?_
           refine ws (nf g179) ?_
           refine ws (nf g179) ?_
           refine ws (nf g179) ?_
           refine ws (nf g179) ?_
           refine ws (nf g179) ?_
           refine wv (vpT (nf g179)) ?_
           refine wm ?_
           refine wk ?_
           refine wk ?_
           refine wk ?_
           refine wk ?_
           refine wv (vpT rfl) ?_
           refine wm ?_
           refine wk ?_
           refine wk ?_
           refine wk ?_
           refine wk ?_
           refine wv (vpT rfl) ?_
           refine nt' ?_
           refine CM_condT rfl rfl ?_
           refine sr (wa (nt' (CM_ret (QM_block_ret (QM_then_ret (QM_then_ret (QM_block_ret (QM_then_ret ?_))))))))
           exact rtb (h := cond_t g43 (cond_t g45 (cond_t g47 (cond_f g49 (cond_t g51 (cond_f g53 (cond_f g55 (fin_inr hE141 (fin_inl (rng_ret (body := F2) (k := k142) (s := ()) (show k142 < x0.Done.length from by omega) (cond_f g179 (rfl)) hF144) rfl)))))))))
         ·have g147 := dlF hl146
          refine CM_condF rfl g147 ?_
          refine CM_exit (QM_then_exit (QM_then_exit ?_))
          have hE187 : R5 (x0.Done.length - 0) 0 () = Sum.inr () := rng_end hl146 hF144
          refine QM_block_hit (QM_then (CM_seq (sr (wa (nt' (CM_block ?_))))))
          let F3 := fun k (_ : Unit) => spec_IsEngine_b3 x0 k
          let R6 := rng (R := Bool) F3
          refine CM_loop (σ := Nat × (Unit) × (Unit)) (fun s => [(1, .pointer (some (⟨p41, 0, none⟩ : Addr))), (6, .int .i64 ((s.1 : Nat) : Int))]) (fun s => [iBox p41 47 K7]) (fun s => s.1 ≤ x0.Ledger.length ∧ R6 (x0.Ledger.length - s.1) s.1 s.2.1 = R6 (x0.Ledger.length - 0) 0 ()) (fun s => x0.Ledger.length - s.1) (0, (), ()) sl2 (fun W hm => hm) ⟨(by omega), rfl⟩ ?_
          rintro ⟨k188, ⟨⟩, ⟨⟩⟩ H191
          obtain ⟨hk189, hF190⟩ : k188 ≤ x0.Ledger.length ∧ R6 (x0.Ledger.length - k188) k188 () = R6 (x0.Ledger.length - 0) 0 () := H191
          show CM Tryz.prog 140 _ _ _ _ [(1, .pointer (some (⟨p41, 0, none⟩ : Addr))), (6, .int .i64 ((k188 : Nat) : Int))] [iBox p41 47 K7]
          refine CM_seq (sr (wm ?_))
          refine wv (vf underlying47 rfl type45) ?_
          refine wv (vl 0 6 underlying45) ?_
          refine wv (vlen underlying45) ?_
          refine wv vlss ?_
          refine nt' ?_
          by_cases hl192 : k188 < x0.Ledger.length
          ·have g193 := dlT hl192
           refine CM_condT rfl g193 ?_
           refine CM_skip (QM_then (CM_seq (CM_block (sr ?_))))
           refine wv (vf underlying47 rfl type45) ?_
           refine wv (vl 0 6 underlying45) ?_
           refine wm ?_
           obtain ⟨a194, rfl, hb195, he196⟩ := q34 (by omega)
           refine wv (vix 5 k188 underlying45 type133) ?_
           obtain ⟨_, e204, hc197⟩ := he196 k188 _ (gt_some (show k188 < x0.Ledger.length from by omega))
           obtain ⟨v198, v200, v202, rfl, r199, r201, r203⟩ := tyCharge_rd e204
           have l205 : ((gt x0.Ledger k188).Ids).length ≤ 68719476736 := (s_0.2.2.2.2.2 _ (gt_mem (show k188 < x0.Ledger.length from by omega))).1
           have l206 : ((gt x0.Ledger k188).Tenants).length ≤ 68719476736 := (s_0.2.2.2.2.2 _ (gt_mem (show k188 < x0.Ledger.length from by omega))).2.1
           have l207 : ((gt x0.Ledger k188).Rows).length ≤ 68719476736 := (s_0.2.2.2.2.2 _ (gt_mem (show k188 < x0.Ledger.length from by omega))).2.2
           obtain ⟨m208, A209, c210, rfl, q211, r212⟩ := rdS_op r199
           obtain ⟨m213, A214, c215, rfl, q216, r217⟩ := rdS_op r201
           obtain ⟨m218, A219, c220, rfl, q221, r222⟩ := rdS_op r203
           refine wv (fun W hm => rv_loadN (cs := [.int .i64 ((gt x0.Ledger k188).Segment), .int .i64 ((gt x0.Ledger k188).Base), .slice A209 ((gt x0.Ledger k188).Ids).length c210, .slice A214 ((gt x0.Ledger k188).Tenants).length c215, .slice A219 ((gt x0.Ledger k188).Rows).length c220]) underlying133 type133 rfl rfl (hm.elCells (show (a194.add (k188 * 5)).block < w.heap.size from by rw [add_block]; exact hb195.1) hc197)) ?_
           refine wcv (cl_fn cb154 rfl) (fun W hm => spec_IsCharge_c W _ (gt x0.Ledger k188) (tyCharge_mk (x := (gt x0.Ledger k188)) (hm.rdS0 r212) (hm.rdS0 r217) (hm.rdS0 r222))) ?_
           refine wv vnot ?_
           refine nt' ?_
           rcases Bool.eq_false_or_eq_true (spec_IsCharge_m (gt x0.Ledger k188)) with g224 | g224
           ·
            refine CM_condF rfl (nt g224) ?_
            refine CM_skip (QM_block_normal (QM_then (CM_region (wm ?_))))
            refine wv (vadN k188 1 (by omega)) ?_
            refine wa (WM_nil ?_)
            have hn225 := rng_next (R := Bool) (body := F3) (k := k188) (s := ()) (s' := ()) (show k188 < x0.Ledger.length from by omega) (cond_t g224 (rfl)) hF190
            exact QM_round (k188 + 1, (), ()) sl2 (fun W hm => hm) ⟨(by omega), hn225⟩ (rl (by omega))
           ·
            refine CM_condT rfl (nf g224) ?_
            refine sr (wa (nt' (CM_ret (QM_block_ret (QM_then_ret (QM_then_ret (QM_block_ret (QM_then_ret ?_))))))))
            exact rtb (h := cond_t g43 (cond_t g45 (cond_t g47 (cond_f g49 (cond_t g51 (cond_f g53 (cond_f g55 (fin_inr hE141 (fin_inr hE187 (fin_inl (rng_ret (body := F3) (k := k188) (s := ()) (show k188 < x0.Ledger.length from by omega) (cond_f g224 (rfl)) hF190) rfl))))))))))
          ·have g193 := dlF hl192
           refine CM_condF rfl g193 ?_
           refine CM_exit (QM_then_exit (QM_then_exit ?_))
           have hE226 : R6 (x0.Ledger.length - 0) 0 () = Sum.inr () := rng_end hl192 hF190
           refine QM_block_hit (QM_then (sr (wa (nt' (CM_ret ?_)))))
           exact rtb (h := cond_t g43 (cond_t g45 (cond_t g47 (cond_f g49 (cond_t g51 (cond_f g53 (cond_f g55 (fin_inr hE141 (fin_inr hE187 (fin_inr hE226 (rfl)))))))))))
     ·
      refine ws (nf g51) ?_
      refine ws (nf g51) ?_
      refine ws (nf g51) ?_
      refine ws (nf g51) ?_
      refine wv (vpT (nf g51)) ?_
      refine wm ?_
      refine wk ?_
      refine wk ?_
      refine wk ?_
      refine wk ?_
      refine wv (vpT rfl) ?_
      refine nt' ?_
      refine CM_condT rfl rfl ?_
      refine sr (wa (nt' (CM_ret (QM_then_ret ?_))))
      exact rtb (h := cond_t g43 (cond_t g45 (cond_t g47 (cond_f g49 (cond_f g51 (rfl))))))
   ·
    refine ws (nf g47) ?_
    refine ws (nf g47) ?_
    refine ws (nf g47) ?_
    refine ws (nf g47) ?_
    refine wv (vpT (nf g47)) ?_
    refine wm ?_
    refine wk ?_
    refine wk ?_
    refine wk ?_
    refine wk ?_
    refine wv (vpT rfl) ?_
    refine wm ?_
    refine wk ?_
    refine wk ?_
    refine wk ?_
    refine wk ?_
    refine wv (vpT rfl) ?_
    refine wm ?_
    refine wk ?_
    refine wk ?_
    refine wk ?_
    refine wk ?_
    refine wv (vpT rfl) ?_
    refine nt' ?_
    refine CM_condT rfl rfl ?_
    refine sr (wa (nt' (CM_ret (QM_then_ret ?_))))
    exact rtb (h := cond_t g43 (cond_t g45 (cond_f g47 (rfl))))
  ·
   refine ws (nf g45) ?_
   refine ws (nf g45) ?_
   refine ws (nf g45) ?_
   refine ws (nf g45) ?_
   refine wv (vpT (nf g45)) ?_
   refine wm ?_
   refine wk ?_
   refine wk ?_
   refine wk ?_
   refine wk ?_
   refine wv (vpT rfl) ?_
   refine wm ?_
   refine wk ?_
   refine wk ?_
   refine wk ?_
   refine wk ?_
   refine wv (vpT rfl) ?_
   refine wm ?_
   refine wk ?_
   refine wk ?_
   refine wk ?_
   refine wk ?_
   refine wv (vpT rfl) ?_
   refine wm ?_
   refine wk ?_
   refine wk ?_
   refine wk ?_
   refine wk ?_
   refine wv (vpT rfl) ?_
   refine nt' ?_
   refine CM_condT rfl rfl ?_
   refine sr (wa (nt' (CM_ret (QM_then_ret ?_))))
   exact rtb (h := cond_t g43 (cond_f g45 (rfl)))
 ·
  refine ws (nf g43) ?_
  refine ws (nf g43) ?_
  refine ws (nf g43) ?_
  refine ws (nf g43) ?_
  refine ws (nf g43) ?_
  refine ws (nf g43) ?_
  refine ws (nf g43) ?_
  refine ws (nf g43) ?_
  refine ws (nf g43) ?_
  refine wv (vpT (nf g43)) ?_
  refine wm ?_
  refine wk ?_
  refine wk ?_
  refine wk ?_
  refine wk ?_
  refine wv (vpT rfl) ?_
  refine wm ?_
  refine wk ?_
  refine wk ?_
  refine wk ?_
  refine wk ?_
  refine wv (vpT rfl) ?_
  refine wm ?_
  refine wk ?_
  refine wk ?_
  refine wk ?_
  refine wk ?_
  refine wv (vpT rfl) ?_
  refine wm ?_
  refine wk ?_
  refine wk ?_
  refine wk ?_
  refine wk ?_
  refine wv (vpT rfl) ?_
  refine wm ?_
  refine wk ?_
  refine wk ?_
  refine wk ?_
  refine wk ?_
  refine wv (vpT rfl) ?_
  refine nt' ?_
  refine CM_condT rfl rfl ?_
  refine sr (wa (nt' (CM_ret (QM_then_ret ?_))))
  exact rtb (h := cond_f g43 (rfl))

def spec_FindActive_b1 (x0 : DEngine) (x1 : Int) (k37 : Nat) : Int ⊕ (Unit) :=
 cond (((gt x0.Active k37).Query.Id) == x1) (Sum.inl ((k37 : Nat) : Int)) (Sum.inr ())
def spec_FindActive_m (x0 : DEngine) (x1 : Int) : Int :=
 Sum.elim id (fun (s : Unit) => (-1)) (rng (R := Int) (fun k (_ : Unit) => spec_FindActive_b1 x0 x1 k) (x0.Active.length - 0) 0 ())
theorem cb33 : Cb Tryz.prog 33 := ⟨f33, _, func33, rfl, by decide⟩
theorem spec_FindActive_c (w : World) (z0 : List Value) (x0 : DEngine) (x1 : Int) (r_0 : tyEngine.rd w w.heap.size z0 x0) :
  Calls Tryz.prog 33 #[.agg z0.toArray, .int .i64 x1] w fun e w' => e = .returned (.int .i64 (spec_FindActive_m x0 x1)) ∧ Below w.heap.size w w' := by
 obtain ⟨v1, v3, v5, v7, v9, rfl, r2, r4, r6, r8, r10⟩ := tyEngine_rd r_0
 obtain ⟨m11, A12, c13, rfl, q14, r15⟩ := rdS_op r2
 obtain ⟨m16, A17, c18, rfl, q19, r20⟩ := rdS_op r4
 obtain ⟨m21, A22, c23, rfl, q24, r25⟩ := rdS_op r6
 obtain ⟨m26, A27, c28, rfl, q29, r30⟩ := rdS_op r8
 obtain ⟨m31, A32, c33, rfl, q34, r35⟩ := rdS_op r10
 refine ce2 (L := [(0, .agg #[.slice A12 x0.Store.Segments.length c13, .int .i64 x0.Store.Now, .int .i64 x0.Cursor, .slice A17 x0.Order.length c18, .slice A22 x0.Active.length c23, .slice A27 x0.Done.length c28, .slice A32 x0.Ledger.length c33, .int .i64 x0.Steps]), (1, .int .i64 x1)]) (N := 23) func33 ?_
 refine sr ?_
 refine WM_box rfl (Wd_none rfl) (by decide) (fun p36 => ?_)
 refine wa (nt' (CM_seq (sr (wa (nt' (CM_block ?_))))))
 let F1 := fun k (_ : Unit) => spec_FindActive_b1 x0 x1 k
 let R2 := rng (R := Int) F1
 let K3 : List Value := [.slice A12 x0.Store.Segments.length c13, .int .i64 x0.Store.Now, .int .i64 x0.Cursor, .slice A17 x0.Order.length c18, .slice A22 x0.Active.length c23, .slice A27 x0.Done.length c28, .slice A32 x0.Ledger.length c33, .int .i64 x0.Steps]
 refine CM_loop (σ := Nat × (Unit) × (Unit)) (fun s => [(1, .int .i64 x1), (2, .pointer (some (⟨p36, 0, none⟩ : Addr))), (5, .int .i64 ((s.1 : Nat) : Int))]) (fun s => [iBox p36 47 K3]) (fun s => s.1 ≤ x0.Active.length ∧ R2 (x0.Active.length - s.1) s.1 s.2.1 = R2 (x0.Active.length - 0) 0 ()) (fun s => x0.Active.length - s.1) (0, (), ()) sl3 (fun W hm => hm) ⟨(by omega), rfl⟩ ?_
 rintro ⟨k37, ⟨⟩, ⟨⟩⟩ H40
 obtain ⟨hk38, hF39⟩ : k37 ≤ x0.Active.length ∧ R2 (x0.Active.length - k37) k37 () = R2 (x0.Active.length - 0) 0 () := H40
 show CM Tryz.prog 23 _ _ _ _ [(1, .int .i64 x1), (2, .pointer (some (⟨p36, 0, none⟩ : Addr))), (5, .int .i64 ((k37 : Nat) : Int))] [iBox p36 47 K3]
 refine CM_seq (sr (wm ?_))
 refine wv (vf underlying47 rfl type43) ?_
 refine wv (vl 0 4 underlying43) ?_
 refine wv (vlen underlying43) ?_
 refine wv vlss ?_
 refine nt' ?_
 by_cases hl41 : k37 < x0.Active.length
 ·have g42 := dlT hl41
  refine CM_condT rfl g42 ?_
  refine CM_skip (QM_then (CM_seq (CM_block (sr ?_))))
  refine wv (vf underlying47 rfl type43) ?_
  refine wv (vl 0 4 underlying43) ?_
  refine wm ?_
  obtain ⟨a43, rfl, hb44, he45⟩ := q24 (by omega)
  refine wv (vix 10 k37 underlying43 type64) ?_
  refine wv (vf underlying64 rfl type34) ?_
  refine wv (fun W hm => rv_fieldA (o := 0) underlying34 rfl type3 (by decide) rfl rfl) ?_
  obtain ⟨_, e55, hc46⟩ := he45 k37 _ (gt_some (show k37 < x0.Active.length from by omega))
  obtain ⟨v47, v49, v51, v53, rfl, r48, r50, r52, r54⟩ := tyActive_rd e55
  obtain ⟨m56, A57, c58, rfl, q59, r60⟩ := rdS_op r48
  obtain ⟨m61, A62, c63, rfl, q64, r65⟩ := rdS_op r50
  obtain ⟨m66, A67, c68, rfl, q69, r70⟩ := rdS_op r52
  obtain ⟨m71, A72, c73, rfl, q74, r75⟩ := rdS_op r54
  refine wv (fun W hm => rv_load underlying3 rfl rfl ((hm.cell0 (show ((a43.add (k37 * 10)).add 0).block < w.heap.size from by rw [add_block, add_block]; exact hb44.1)).trans (hc46 0 _ rfl))) ?_
  refine wm ?_
  refine wv (fun W hm => rv_eql rfl rfl) ?_
  refine nt' ?_
  by_cases h76 : ((gt x0.Active k37).Query.Id) = x1
  ·have g77 := beq_iff_eq.2 h76
   refine CM_condT rfl g77 ?_
   refine sr (wm (wa (nt' (CM_ret (QM_block_ret (QM_then_ret (QM_then_ret (QM_block_ret (QM_then_ret ?_)))))))))
   exact rti (h := fin_inl (rng_ret (body := F1) (k := k37) (s := ()) (show k37 < x0.Active.length from by omega) (cond_t g77 (rfl)) hF39) rfl)
  ·have g77 := beq_eq_false_iff_ne.2 h76
   refine CM_condF rfl g77 ?_
   refine CM_skip (QM_block_normal (QM_then (CM_region (wm ?_))))
   refine wv (vadN k37 1 (by omega)) ?_
   refine wa (WM_nil ?_)
   have hn78 := rng_next (R := Int) (body := F1) (k := k37) (s := ()) (s' := ()) (show k37 < x0.Active.length from by omega) (cond_f g77 (rfl)) hF39
   exact QM_round (k37 + 1, (), ()) sl3 (fun W hm => hm) ⟨(by omega), hn78⟩ (rl (by omega))
 ·have g42 := dlF hl41
  refine CM_condF rfl g42 ?_
  refine CM_exit (QM_then_exit (QM_then_exit ?_))
  have hE79 : R2 (x0.Active.length - 0) 0 () = Sum.inr () := rng_end hl41 hF39
  refine QM_block_hit (QM_then (sr (wa (nt' (CM_ret ?_)))))
  exact rti (h := fin_inr hE79 (rfl))

end Go.Proofs.YtmikmbmdibabmaaGreat
