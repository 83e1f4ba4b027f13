/-
  Contracts of functions, printed by a program of ours.
-/
import Derived.Test.YtmikmbmdibabmaaGreatL9F1
namespace Go.Proofs.YtmikmbmdibabmaaGreat
open Go.RowKit
set_option maxRecDepth 100000
set_option maxHeartbeats 4000000
open _root_.Go.Proofs.Tryz
abbrev Qnn (x0 : Qag) (k61 : Nat) (d64 : (List Qbf)) : (List Qbf) :=
 (d64 ++ [(⟨((gt x0.Active k61).Query), (gt x0.Active k61).Time, (gt x0.Active k61).Todo, (gt x0.Active k61).Age, (gt x0.Active k61).Sent, (gt x0.Active k61).Cap, ((gt x0.Active k61).Rows)⟩ : Qbf)])
def Qwv (x0 : Qag) (k208 : Nat) (d211 : (List Qay)) : Qag ⊕ ((List Qay)) :=
 Sum.inr (d211 ++ [(gt x0.Ledger k208)])
def Qwu (x0 : Qag) (k142 : Nat) (d145 : (List Qbg)) : Qag ⊕ ((List Qbg)) :=
 Sum.inr (d145 ++ [(⟨((gt x0.Done k142).Query), (gt x0.Done k142).Time, (gt x0.Done k142).Steps, ((gt x0.Done k142).Rows)⟩ : Qbg)])
def Qwt (x0 : Qag) (k61 : Nat) (d64 : (List Qbf)) : Qag ⊕ ((List Qbf)) :=
 Sum.inr (Qnn x0 k61 d64)
def Qsm (x0 : Qag) : Qag :=
 Sum.elim id (fun (s1_ : (List Qbf)) => Sum.elim id (fun (s2_ : (List Qbg)) => Sum.elim id (fun (s : (List Qay)) => (⟨x0.Store, x0.Cursor, x0.Order, s1_, s2_, s, x0.Steps⟩ : Qag)) (rng (R := Qag) (fun k (s : (List Qay)) => Qwv x0 k s) (x0.Ledger.length - 0) 0 [])) (rng (R := Qag) (fun k (s : (List Qbg)) => Qwu x0 k s) (x0.Done.length - 0) 0 [])) (rng (R := Qag) (fun k (s : (List Qbf)) => Qwt x0 k s) (x0.Active.length - 0) 0 [])
theorem cb81 : Cb Tryz.prog 81 := ⟨f81, _, func81, rfl, by decide⟩
theorem Qasr (w : World) (z0 : List Value) (x0 : Qag) (r_0 : Qdd.rd w w.heap.size z0 x0) (s_0 : Qgf 68719476736 x0) :
  Calls Tryz.prog 81 #[.agg z0.toArray] w fun e w' => ∃ v : List Value, e = .returned (.agg v.toArray) ∧ Mem w.heap.size w [Qd Qdd v (Qsm x0)] w' := by
 obtain ⟨v1, v3, v5, v7, v9, rfl, r2, r4, r6, r8, r10⟩ := Qki r_0
 obtain ⟨m11, A12, c13, rfl, q14, r15⟩ := Qk r2
 obtain ⟨m16, A17, c18, rfl, q19, r20⟩ := Qk r4
 obtain ⟨m21, A22, c23, rfl, q24, r25⟩ := Qk r6
 obtain ⟨m26, A27, c28, rfl, q29, r30⟩ := Qk r8
 obtain ⟨m31, A32, c33, rfl, q34, r35⟩ := Qk r10
 have l36 : x0.Store.Segments.length ≤ 68719476736 := s_0.1.1
 have l37 : x0.Order.length ≤ 68719476736 := s_0.2.1
 have l38 : x0.Active.length ≤ 68719476736 := s_0.2.2.1.1
 have l39 : x0.Done.length ≤ 68719476736 := s_0.2.2.2.1.1
 have l40 : x0.Ledger.length ≤ 68719476736 := s_0.2.2.2.2.1
 refine ce1 (L := [(0, .agg #[.slice A12 x0.Store.Segments.length c13, .int .i64 x0.Store.Now, .int .i64 x0.Cursor, .slice A17 x0.Order.length c18, .slice A22 x0.Active.length c23, .slice A27 x0.Done.length c28, .slice A32 x0.Ledger.length c33, .int .i64 x0.Steps])]) (N := 97) func81 ?_
 refine sr ?_
 refine Qbj rfl (Qo rfl) (by decide) (fun p41 => ?_)
 refine Qbo Qbv rfl (Qo rfl) (by decide) (fun p42 => ?_)
 refine nt' (Qf ?_)
 let K7 : List Value := [.slice none 0 0, .int .i64 0, .int .i64 0, .slice none 0 0, .slice none 0 0, .slice none 0 0, .slice none 0 0, .int .i64 0]
 let K8 : List Value := [.slice A12 x0.Store.Segments.length c13, .int .i64 x0.Store.Now, .int .i64 x0.Cursor, .slice A17 x0.Order.length c18, .slice A22 x0.Active.length c23, .slice A27 x0.Done.length c28, .slice A32 x0.Ledger.length c33, .int .i64 x0.Steps]
 refine rd2 14 [13] (s := [Qa p42 47 K7, Qa p41 47 K8]) (s2 := [Qa p42 47 K7, Qa p41 47 K8]) (fun W hm => hm) (fun W hm => hm) ?_
 refine Qlh (σ := Option Addr × Nat × Option Addr × Nat × Nat) (fun s => [Qa p42 47 K7, Qa p41 47 K8]) 14 8191 1 (fun s => [(1, .pointer (some (⟨p41, 0, none⟩ : Addr))), (2, .pointer (some (⟨p42, 0, none⟩ : Addr))), (20, .agg #[.slice s.1 x0.Store.Segments.length s.2.1, .int .i64 x0.Store.Now, .int .i64 x0.Cursor, .slice s.2.2.1 x0.Order.length s.2.2.2.1, .slice none 0 0, .slice none 0 0, .slice none 0 0, .int .i64 x0.Steps]), (3, .pointer (some (⟨s.2.2.2.2, 0, none⟩ : Addr)))]) (fun s => [Qa s.2.2.2.2 47 K7, Qd (tSl Qg 3) [.slice s.2.2.1 x0.Order.length s.2.2.2.1] x0.Order, Qd (tSl (tSl Qm 191) 131) [.slice s.1 x0.Store.Segments.length s.2.1] x0.Store.Segments, Qa p42 47 K7, Qa p41 47 K8]) ?_ (fun H => ?_)
 ·
  rintro ⟨A45, c46, A52, c53, p56⟩
  let I22 : It := Qd (tSl Qg 3) [.slice A52 x0.Order.length c53] x0.Order
  let I23 : It := Qd (tSl (tSl Qm 191) 131) [.slice A45 x0.Store.Segments.length c46] x0.Store.Segments
  show QD _ _ _ _ _ _ _ _ [(1, .pointer (some (⟨p41, 0, none⟩ : Addr))), (2, .pointer (some (⟨p42, 0, none⟩ : Addr))), (20, .agg #[.slice A45 x0.Store.Segments.length c46, .int .i64 x0.Store.Now, .int .i64 x0.Cursor, .slice A52 x0.Order.length c53, .slice none 0 0, .slice none 0 0, .slice none 0 0, .int .i64 x0.Steps]), (3, .pointer (some (⟨p56, 0, none⟩ : Addr)))] _ [Qa p42 47 K7, Qa p41 47 K8] _ [Qa p56 47 K7, I22, I23, Qa p42 47 K7, Qa p41 47 K8]
  refine Qej (n := 1) rfl ?_
  intro m57 m58
  refine Qej (n := 2) rfl ?_
  intro m59 m60
  refine qoD 14 13 16383 rfl ?_
  refine sb 0 [.slice A45 x0.Store.Segments.length c46, .int .i64 x0.Store.Now, .int .i64 x0.Cursor, .slice A52 x0.Order.length c53, .slice none 0 0, .slice none 0 0, .slice none 0 0, .int .i64 x0.Steps] [I22, I23, Qa p42 47 K7, Qa p41 47 K8] (fun W hm => hm) Qbv ?_
  refine qxD (pk [3, 4]) ?_
  refine Qef (by kernel_rfl) ?_
  refine Qi (Qf (sr (wa (nt' (Qab ?_)))))
  refine Qdf (fun W hm => (hm.addNil (E := Qbw) (e := 64)).last) ?_
  let F1 := fun k (s : (List Qbf)) => Qwt x0 k s
  let R4 := rng (R := Qag) F1
  refine Qbl (σ := Nat × ((List Qbf)) × (Option Addr × Nat)) (fun s => [(1, .pointer (some (⟨p41, 0, none⟩ : Addr))), (2, .pointer (some (⟨p42, 0, none⟩ : Addr))), (3, .pointer (some (⟨p56, 0, none⟩ : Addr))), (4, .int .i64 ((s.1 : Nat) : Int))]) (fun s => [Qa p56 47 [.slice A45 x0.Store.Segments.length c46, .int .i64 x0.Store.Now, .int .i64 x0.Cursor, .slice A52 x0.Order.length c53, .slice s.2.2.1 s.2.1.length s.2.2.2, .slice none 0 0, .slice none 0 0, .int .i64 x0.Steps], I22, I23, Qa p42 47 K7, Qa p41 47 K8, Qd (tSl Qbw 64) [.slice s.2.2.1 s.2.1.length s.2.2.2] s.2.1]) (fun s => s.1 ≤ x0.Active.length ∧ R4 (x0.Active.length - s.1) s.1 s.2.1 = R4 (x0.Active.length - 0) 0 [] ∧ s.2.1.length ≤ 0 + s.1) (fun s => x0.Active.length - s.1) (0, [], (none, 0)) sl4 (fun W hm => hm) ⟨(by omega), rfl, Nat.le_refl _⟩ ?_
  rintro ⟨k61, d64, ⟨A65, c66⟩⟩ H69
  obtain ⟨hk67, hF68, hi70⟩ : k61 ≤ x0.Active.length ∧ R4 (x0.Active.length - k61) k61 d64 = R4 (x0.Active.length - 0) 0 [] ∧ d64.length ≤ 0 + k61 := H69
  let K9 : List Value := [.slice A45 x0.Store.Segments.length c46, .int .i64 x0.Store.Now, .int .i64 x0.Cursor, .slice A52 x0.Order.length c53, .slice A65 d64.length c66, .slice none 0 0, .slice none 0 0, .int .i64 x0.Steps]
  let I24 : It := Qd (tSl Qbw 64) [.slice A65 d64.length c66] d64
  show CM Tryz.prog 97 _ _ _ _ [(1, .pointer (some (⟨p41, 0, none⟩ : Addr))), (2, .pointer (some (⟨p42, 0, none⟩ : Addr))), (3, .pointer (some (⟨p56, 0, none⟩ : Addr))), (4, .int .i64 ((k61 : Nat) : Int))] [Qa p56 47 K9, I22, I23, Qa p42 47 K7, Qa p41 47 K8, I24]
  refine Qf (sr (wm ?_))
  refine wv (vf Qaq rfl Qfn) ?_
  refine wv (vl 4 4 Qcj) ?_
  refine wv (Qai Qcj) ?_
  refine wv Qak ?_
  refine nt' ?_
  by_cases hl71 : k61 < x0.Active.length
  ·have g72 := dlT hl71
   refine Ql rfl g72 ?_
   refine Qq (Qi (Qf (Qab (sr ?_))))
   refine wv (vf Qaq rfl Qfn) ?_
   refine wv (vl 4 4 Qcj) ?_
   refine wm ?_
   obtain ⟨a73, rfl, hb74, he75⟩ := q24 (by omega)
   refine wv (vix 10 k61 Qcj Qcs) ?_
   obtain ⟨_, e85, hc76⟩ := he75 k61 _ (Qca (show k61 < x0.Active.length from by omega))
   obtain ⟨v77, v79, v81, v83, rfl, r78, r80, r82, r84⟩ := Qhz e85
   have l86 : ((gt x0.Active k61).Query.Conds).length ≤ 68719476736 := (s_0.2.2.1.2 _ (Qbh (show k61 < x0.Active.length from by omega))).1.1
   have l87 : ((gt x0.Active k61).Query.Out).length ≤ 68719476736 := (s_0.2.2.1.2 _ (Qbh (show k61 < x0.Active.length from by omega))).1.2
   have l88 : ((gt x0.Active k61).Todo).length ≤ 68719476736 := (s_0.2.2.1.2 _ (Qbh (show k61 < x0.Active.length from by omega))).2.1
   have l89 : ((gt x0.Active k61).Rows).length ≤ 68719476736 := (s_0.2.2.1.2 _ (Qbh (show k61 < x0.Active.length from by omega))).2.2.1
   obtain ⟨m90, A91, c92, rfl, q93, r94⟩ := Qk r78
   obtain ⟨m95, A96, c97, rfl, q98, r99⟩ := Qk r80
   obtain ⟨m100, A101, c102, rfl, q103, r104⟩ := Qk r82
   obtain ⟨m105, A106, c107, rfl, q108, r109⟩ := Qk r84
   let K10 : List Value := [.int .i64 ((gt x0.Active k61).Query.Id), .int .i64 ((gt x0.Active k61).Query.Tenant), .slice A91 ((gt x0.Active k61).Query.Conds).length c92, .slice A96 ((gt x0.Active k61).Query.Out).length c97, .int .i64 ((gt x0.Active k61).Time), .slice A101 ((gt x0.Active k61).Todo).length c102, .int .i64 ((gt x0.Active k61).Age), .int .i64 ((gt x0.Active k61).Sent), .int .i64 ((gt x0.Active k61).Cap), .slice A106 ((gt x0.Active k61).Rows).length c107]
   refine wv (fun W hm => Qz (cs := K10) Qbu Qcs rfl rfl (hm.elCells (show (a73.add (k61 * 10)).block < w.heap.size from by rw [Qah]; exact hb74.1) hc76)) ?_
   refine Qbo Qcs rfl (Qo rfl) (by decide) (fun p110 => ?_)
   let K11 : List Value := [.slice A12 x0.Store.Segments.length c13, .int .i64 x0.Store.Now, .int .i64 x0.Cursor, .slice A17 x0.Order.length c18, .slice (some a73) x0.Active.length c23, .slice A27 x0.Done.length c28, .slice A32 x0.Ledger.length c33, .int .i64 x0.Steps]
   refine sb 0 K10 [Qa p56 47 K9, I22, I23, Qa p42 47 K7, Qa p41 47 K11, I24] (fun W hm => hm) Qcs ?_
   refine nt' (sr ?_)
   refine wv (vf Qbu rfl Qcl) ?_
   refine wv (fun W hm => Qz (cs := [.int .i64 ((gt x0.Active k61).Query.Id), .int .i64 ((gt x0.Active k61).Query.Tenant), .slice A91 ((gt x0.Active k61).Query.Conds).length c92, .slice A96 ((gt x0.Active k61).Query.Out).length c97]) Qch Qcl rfl rfl (hm.boxPart (n := 0) rfl rfl)) ?_
   refine wcs Qez ((gt x0.Active k61).Query) (Qr Qyk rfl) (fun W hm => Qacr W _ ((gt x0.Active k61).Query) (Qjb (x := ((gt x0.Active k61).Query)) (hm.rdS0 r94) (hm.rdS0 r99)) (s_0.2.2.1.2 _ (Qbh (show k61 < x0.Active.length from by omega))).1) (fun z111 => ?_)
   refine Qpb ?_
   rintro ⟨v112, v113⟩ rfl
   refine Qs (n := 0) rfl ?_
   rintro A114 c115 rfl m116
   refine Qs (n := 1) rfl ?_
   rintro A118 c119 rfl m120
   refine wv (vf Qbu rfl Qcl) ?_
   let K12 : List Value := [.int .i64 (((gt x0.Active k61).Query).Id), .int .i64 (((gt x0.Active k61).Query).Tenant), .slice A114 (((gt x0.Active k61).Query).Conds).length c115, .slice A118 (((gt x0.Active k61).Query).Out).length c119, .int .i64 ((gt x0.Active k61).Time), .slice A101 ((gt x0.Active k61).Todo).length c102, .int .i64 ((gt x0.Active k61).Age), .int .i64 ((gt x0.Active k61).Sent), .int .i64 ((gt x0.Active k61).Cap), .slice A106 ((gt x0.Active k61).Rows).length c107]
   let K13 : List Value := [.slice A114 (((gt x0.Active k61).Query).Conds).length c115]
   let I25 : It := Qd (tSl Qbz 201) K13 (((gt x0.Active k61).Query).Conds)
   let I26 : It := Qd (tSl Qg 3) [.slice A118 (((gt x0.Active k61).Query).Out).length c119] (((gt x0.Active k61).Query).Out)
   refine sb 0 K12 [I25, I26, Qa p56 47 K9, I22, I23, Qa p42 47 K7, Qa p41 47 K11, I24] (pk [2, 0, 1, 3, 4, 5, 6, 7, 8]) Qcl ?_
   refine nt' (sr ?_)
   refine Qdb (E := Qg) Qv Qh (Qo rfl) (by decide) (fun p122 => ?_)
   refine wv (vf Qbu rfl Qap) ?_
   refine wv (vl 1 5 Qv) ?_
   refine apR Qg Qg 3 (.slice (some ⟨p122, 0, none⟩) 0 0) [] ((gt x0.Active k61).Todo) [Qa p110 64 K12, I25, I26, Qa p56 47 K9, I22, I23, Qa p42 47 K7, Qa p41 47 K11, I24] (fun W hm => hm) (fun W hm => Qdk Qcw (hm.rdS0 r104)) Qv Qh (show (0 + ((gt x0.Active k61).Todo).length) * 8 ≤ 140737488355328 from by omega) (fun v124 => ?_)
   refine Qs (n := 0) rfl ?_
   rintro A125 c126 rfl m127
   refine wv (vf Qbu rfl Qap) ?_
   let I27 : It := Qd (tSl Qg 3) [.slice A125 ((gt x0.Active k61).Todo).length c126] ((gt x0.Active k61).Todo)
   refine sb 5 [.int .i64 (((gt x0.Active k61).Query).Id), .int .i64 (((gt x0.Active k61).Query).Tenant), .slice A114 (((gt x0.Active k61).Query).Conds).length c115, .slice A118 (((gt x0.Active k61).Query).Out).length c119, .int .i64 ((gt x0.Active k61).Time), .slice A125 ((gt x0.Active k61).Todo).length c126, .int .i64 ((gt x0.Active k61).Age), .int .i64 ((gt x0.Active k61).Sent), .int .i64 ((gt x0.Active k61).Cap), .slice A106 ((gt x0.Active k61).Rows).length c107] [I27, I25, I26, Qa p56 47 K9, I22, I23, Qa p42 47 K7, Qa p41 47 K11, I24] (pk [1, 0, 2, 3, 4, 5, 6, 7, 8, 9]) Qap ?_
   refine nt' (sr ?_)
   refine wv (vf Qbu rfl Qfa) ?_
   refine wv (vl 0 9 Qdv) ?_
   refine wcl (tSl Qbp 73) ((gt x0.Active k61).Rows) (Qr Qyq rfl) (fun W hm => Qact W _ ((gt x0.Active k61).Rows) (hm.rdS0 r109) (s_0.2.2.1.2 _ (Qbh (show k61 < x0.Active.length from by omega))).2.2) (fun z129 => ?_)
   refine Qs (n := 0) rfl ?_
   rintro A130 c131 rfl m132
   refine wv (vf Qbu rfl Qfa) ?_
   let K14 : List Value := [.int .i64 (((gt x0.Active k61).Query).Id), .int .i64 (((gt x0.Active k61).Query).Tenant), .slice A114 (((gt x0.Active k61).Query).Conds).length c115, .slice A118 (((gt x0.Active k61).Query).Out).length c119, .int .i64 ((gt x0.Active k61).Time), .slice A125 ((gt x0.Active k61).Todo).length c126, .int .i64 ((gt x0.Active k61).Age), .int .i64 ((gt x0.Active k61).Sent), .int .i64 ((gt x0.Active k61).Cap), .slice A130 ((gt x0.Active k61).Rows).length c131]
   let I28 : It := Qd (tSl Qbp 73) [.slice A130 ((gt x0.Active k61).Rows).length c131] ((gt x0.Active k61).Rows)
   refine sb 9 K14 [I28, I27, I25, I26, Qa p56 47 K9, I22, I23, Qa p42 47 K7, Qa p41 47 K11, I24] (pk [1, 0, 2, 3, 4, 5, 6, 7, 8, 9, 10]) Qfa ?_
   refine nt' (Qad ?_)
   refine wv (vf Qaq rfl Qfn) ?_
   refine wv (vl 5 4 Qcj) ?_
   refine wv (fun W hm => Qz (cs := K14) Qbu Qcs rfl rfl (hm.boxCells (n := 0) rfl)) ?_
   refine Qfb (cs := K14) Qcj Qcs rfl (by decide) (by decide) rfl (by kernel_rfl) (Qo rfl) (by decide) (fun p134 => ?_)
   refine ap1 Qbw 64 (.slice A65 d64.length c66) d64 (⟨((gt x0.Active k61).Query), (gt x0.Active k61).Time, (gt x0.Active k61).Todo, (gt x0.Active k61).Age, (gt x0.Active k61).Sent, (gt x0.Active k61).Cap, ((gt x0.Active k61).Rows)⟩ : Qbf) [I25, I26, I27, I28] [Qa p110 64 K14, Qa p56 47 K9, I22, I23, Qa p42 47 K7, Qa p41 47 K11] K14 (pk [0, 11, 4, 5, 3, 2, 1, 6, 7, 8, 9, 10]) (fun _ _ hs => Els.single (Qmm (x := (⟨((gt x0.Active k61).Query), (gt x0.Active k61).Time, (gt x0.Active k61).Todo, (gt x0.Active k61).Age, (gt x0.Active k61).Sent, (gt x0.Active k61).Cap, ((gt x0.Active k61).Rows)⟩ : Qbf)) hs)) Qcj Qcs (show (d64.length + 1) * 144 ≤ 140737488355328 from by omega) (fun v135 => ?_)
   refine Qs (n := 0) rfl ?_
   rintro A136 c137 rfl m138
   refine wv (vf Qaq rfl Qfn) ?_
   refine sb 4 [.slice A45 x0.Store.Segments.length c46, .int .i64 x0.Store.Now, .int .i64 x0.Cursor, .slice A52 x0.Order.length c53, .slice A136 (Qnn x0 k61 d64).length c137, .slice none 0 0, .slice none 0 0, .int .i64 x0.Steps] [Qd (tSl Qbw 64) [.slice A136 (Qnn x0 k61 d64).length c137] (Qnn x0 k61 d64), Qa p110 64 K14, I22, I23, Qa p42 47 K7, Qa p41 47 K11] (pk [2, 0, 1, 3, 4, 5, 6]) Qfn ?_
   refine Qal (Qax (Qi (Qad (wm ?_))))
   refine wv (Qbd k61 1 (by omega)) ?_
   refine wa (Qal ?_)
   have hn140 := Qbb (R := Qag) (body := F1) (k := k61) (s := d64) (s' := (Qnn x0 k61 d64)) (show k61 < x0.Active.length from by omega) (rfl) hF68
   exact Qaz (k61 + 1, (Qnn x0 k61 d64), (A136, c137)) sl4 (pk [0, 3, 4, 5, 6, 1]) ⟨(by omega), hn140, (show (Qnn x0 k61 d64).length ≤ 0 + (k61 + 1) from by first | omega | (simp only [List.length_append, List.length_cons, List.length_nil] at *; omega))⟩ (rl (by omega))
  have g72 := dlF hl71
  refine Qp rfl g72 ?_
  refine Qbk (Qac (Qac ?_))
  have hE141 : R4 (x0.Active.length - 0) 0 [] = Sum.inr d64 := Qbn hl71 hF68
  refine Qbm (Qi (Qf (sr (wa (nt' (Qab ?_))))))
  refine Qdf (fun W hm => (hm.addNil (E := Qce) (e := 37)).last) ?_
  let F2 := fun k (s : (List Qbg)) => Qwu x0 k s
  let R5 := rng (R := Qag) F2
  refine Qbl (σ := Nat × ((List Qbg)) × (Option Addr × Nat)) (fun s => [(1, .pointer (some (⟨p41, 0, none⟩ : Addr))), (2, .pointer (some (⟨p42, 0, none⟩ : Addr))), (3, .pointer (some (⟨p56, 0, none⟩ : Addr))), (6, .int .i64 ((s.1 : Nat) : Int))]) (fun s => [Qa p56 47 [.slice A45 x0.Store.Segments.length c46, .int .i64 x0.Store.Now, .int .i64 x0.Cursor, .slice A52 x0.Order.length c53, .slice A65 d64.length c66, .slice s.2.2.1 s.2.1.length s.2.2.2, .slice none 0 0, .int .i64 x0.Steps], I22, I23, Qa p42 47 K7, Qa p41 47 K8, I24, Qd (tSl Qce 37) [.slice s.2.2.1 s.2.1.length s.2.2.2] s.2.1]) (fun s => s.1 ≤ x0.Done.length ∧ R5 (x0.Done.length - s.1) s.1 s.2.1 = R5 (x0.Done.length - 0) 0 [] ∧ s.2.1.length ≤ 0 + s.1) (fun s => x0.Done.length - s.1) (0, [], (none, 0)) sl4 (fun W hm => hm) ⟨(by omega), rfl, Nat.le_refl _⟩ ?_
  rintro ⟨k142, d145, ⟨A146, c147⟩⟩ H150
  obtain ⟨hk148, hF149, hi151⟩ : k142 ≤ x0.Done.length ∧ R5 (x0.Done.length - k142) k142 d145 = R5 (x0.Done.length - 0) 0 [] ∧ d145.length ≤ 0 + k142 := H150
  let K15 : List Value := [.slice A45 x0.Store.Segments.length c46, .int .i64 x0.Store.Now, .int .i64 x0.Cursor, .slice A52 x0.Order.length c53, .slice A65 d64.length c66, .slice A146 d145.length c147, .slice none 0 0, .int .i64 x0.Steps]
  let I29 : It := Qd (tSl Qce 37) [.slice A146 d145.length c147] d145
  show CM Tryz.prog 97 _ _ _ _ [(1, .pointer (some (⟨p41, 0, none⟩ : Addr))), (2, .pointer (some (⟨p42, 0, none⟩ : Addr))), (3, .pointer (some (⟨p56, 0, none⟩ : Addr))), (6, .int .i64 ((k142 : Nat) : Int))] [Qa p56 47 K15, I22, I23, Qa p42 47 K7, Qa p41 47 K8, I24, I29]
  refine Qf (sr (wm ?_))
  refine wv (vf Qaq rfl type44) ?_
  refine wv (vl 4 5 Qdn) ?_
  refine wv (Qai Qdn) ?_
  refine wv Qak ?_
  refine nt' ?_
  by_cases hl152 : k142 < x0.Done.length
  ·have g153 := dlT hl152
   refine Ql rfl g153 ?_
   refine Qq (Qi (Qf (Qab (sr ?_))))
   refine wv (vf Qaq rfl type44) ?_
   refine wv (vl 4 5 Qdn) ?_
   refine wm ?_
   obtain ⟨a154, rfl, hb155, he156⟩ := q29 (by omega)
   refine wv (vix 7 k142 Qdn Qdl) ?_
   obtain ⟨_, e164, hc157⟩ := he156 k142 _ (Qca (show k142 < x0.Done.length from by omega))
   obtain ⟨v158, v160, v162, rfl, r159, r161, r163⟩ := Qkj e164
   have l165 : ((gt x0.Done k142).Query.Conds).length ≤ 68719476736 := (s_0.2.2.2.1.2 _ (Qbh (show k142 < x0.Done.length from by omega))).1.1
   have l166 : ((gt x0.Done k142).Query.Out).length ≤ 68719476736 := (s_0.2.2.2.1.2 _ (Qbh (show k142 < x0.Done.length from by omega))).1.2
   have l167 : ((gt x0.Done k142).Rows).length ≤ 68719476736 := (s_0.2.2.2.1.2 _ (Qbh (show k142 < x0.Done.length from by omega))).2.1
   obtain ⟨m168, A169, c170, rfl, q171, r172⟩ := Qk r159
   obtain ⟨m173, A174, c175, rfl, q176, r177⟩ := Qk r161
   obtain ⟨m178, A179, c180, rfl, q181, r182⟩ := Qk r163
   let K16 : List Value := [.int .i64 ((gt x0.Done k142).Query.Id), .int .i64 ((gt x0.Done k142).Query.Tenant), .slice A169 ((gt x0.Done k142).Query.Conds).length c170, .slice A174 ((gt x0.Done k142).Query.Out).length c175, .int .i64 ((gt x0.Done k142).Time), .int .i64 ((gt x0.Done k142).Steps), .slice A179 ((gt x0.Done k142).Rows).length c180]
   refine wv (fun W hm => Qz (cs := K16) Qdh Qdl rfl rfl (hm.elCells (show (a154.add (k142 * 7)).block < w.heap.size from by rw [Qah]; exact hb155.1) hc157)) ?_
   refine Qbo Qdl rfl (Qo rfl) (by decide) (fun p183 => ?_)
   let K17 : List Value := [.slice A12 x0.Store.Segments.length c13, .int .i64 x0.Store.Now, .int .i64 x0.Cursor, .slice A17 x0.Order.length c18, .slice A22 x0.Active.length c23, .slice (some a154) x0.Done.length c28, .slice A32 x0.Ledger.length c33, .int .i64 x0.Steps]
   refine sb 0 K16 [Qa p56 47 K15, I22, I23, Qa p42 47 K7, Qa p41 47 K17, I24, I29] (fun W hm => hm) Qdl ?_
   refine nt' (sr ?_)
   refine wv (vf Qdh rfl Qcl) ?_
   refine wv (fun W hm => Qz (cs := [.int .i64 ((gt x0.Done k142).Query.Id), .int .i64 ((gt x0.Done k142).Query.Tenant), .slice A169 ((gt x0.Done k142).Query.Conds).length c170, .slice A174 ((gt x0.Done k142).Query.Out).length c175]) Qch Qcl rfl rfl (hm.boxPart (n := 0) rfl rfl)) ?_
   refine wcs Qez ((gt x0.Done k142).Query) (Qr Qyk rfl) (fun W hm => Qacr W _ ((gt x0.Done k142).Query) (Qjb (x := ((gt x0.Done k142).Query)) (hm.rdS0 r172) (hm.rdS0 r177)) (s_0.2.2.2.1.2 _ (Qbh (show k142 < x0.Done.length from by omega))).1) (fun z184 => ?_)
   refine Qpb ?_
   rintro ⟨v185, v186⟩ rfl
   refine Qs (n := 0) rfl ?_
   rintro A187 c188 rfl m189
   refine Qs (n := 1) rfl ?_
   rintro A191 c192 rfl m193
   refine wv (vf Qdh rfl Qcl) ?_
   let I30 : It := Qd (tSl Qbz 201) [.slice A187 (((gt x0.Done k142).Query).Conds).length c188] (((gt x0.Done k142).Query).Conds)
   let I31 : It := Qd (tSl Qg 3) [.slice A191 (((gt x0.Done k142).Query).Out).length c192] (((gt x0.Done k142).Query).Out)
   refine sb 0 [.int .i64 (((gt x0.Done k142).Query).Id), .int .i64 (((gt x0.Done k142).Query).Tenant), .slice A187 (((gt x0.Done k142).Query).Conds).length c188, .slice A191 (((gt x0.Done k142).Query).Out).length c192, .int .i64 ((gt x0.Done k142).Time), .int .i64 ((gt x0.Done k142).Steps), .slice A179 ((gt x0.Done k142).Rows).length c180] [I30, I31, Qa p56 47 K15, I22, I23, Qa p42 47 K7, Qa p41 47 K17, I24, I29] (pk [2, 0, 1, 3, 4, 5, 6, 7, 8, 9]) Qcl ?_
   refine nt' (sr ?_)
   refine wv (vf Qdh rfl Qfa) ?_
   refine wv (vl 0 6 Qdv) ?_
   refine wcl (tSl Qbp 73) ((gt x0.Done k142).Rows) (Qr Qyq rfl) (fun W hm => Qact W _ ((gt x0.Done k142).Rows) (hm.rdS0 r182) (s_0.2.2.2.1.2 _ (Qbh (show k142 < x0.Done.length from by omega))).2) (fun z195 => ?_)
   refine Qs (n := 0) rfl ?_
   rintro A196 c197 rfl m198
   refine wv (vf Qdh rfl Qfa) ?_
   let K18 : List Value := [.int .i64 (((gt x0.Done k142).Query).Id), .int .i64 (((gt x0.Done k142).Query).Tenant), .slice A187 (((gt x0.Done k142).Query).Conds).length c188, .slice A191 (((gt x0.Done k142).Query).Out).length c192, .int .i64 ((gt x0.Done k142).Time), .int .i64 ((gt x0.Done k142).Steps), .slice A196 ((gt x0.Done k142).Rows).length c197]
   let I32 : It := Qd (tSl Qbp 73) [.slice A196 ((gt x0.Done k142).Rows).length c197] ((gt x0.Done k142).Rows)
   refine sb 6 K18 [I32, I30, I31, Qa p56 47 K15, I22, I23, Qa p42 47 K7, Qa p41 47 K17, I24, I29] (pk [1, 0, 2, 3, 4, 5, 6, 7, 8, 9, 10]) Qfa ?_
   refine nt' (Qad ?_)
   refine wv (vf Qaq rfl type44) ?_
   refine wv (vl 4 5 Qdn) ?_
   refine wv (fun W hm => Qz (cs := K18) Qdh Qdl rfl rfl (hm.boxCells (n := 0) rfl)) ?_
   refine Qfb (cs := K18) Qdn Qdl rfl (by decide) (by decide) rfl (by kernel_rfl) (Qo rfl) (by decide) (fun p200 => ?_)
   refine ap1 Qce 37 (.slice A146 d145.length c147) d145 (⟨((gt x0.Done k142).Query), (gt x0.Done k142).Time, (gt x0.Done k142).Steps, ((gt x0.Done k142).Rows)⟩ : Qbg) [I30, I31, I32] [Qa p183 37 K18, Qa p56 47 K15, I22, I23, Qa p42 47 K7, Qa p41 47 K17, I24] K18 (pk [0, 11, 3, 4, 2, 1, 5, 6, 7, 8, 9, 10]) (fun _ _ hs => Els.single (Qoz (x := (⟨((gt x0.Done k142).Query), (gt x0.Done k142).Time, (gt x0.Done k142).Steps, ((gt x0.Done k142).Rows)⟩ : Qbg)) hs)) Qdn Qdl (show (d145.length + 1) * 104 ≤ 140737488355328 from by omega) (fun v201 => ?_)
   refine Qs (n := 0) rfl ?_
   rintro A202 c203 rfl m204
   refine wv (vf Qaq rfl type44) ?_
   refine sb 5 [.slice A45 x0.Store.Segments.length c46, .int .i64 x0.Store.Now, .int .i64 x0.Cursor, .slice A52 x0.Order.length c53, .slice A65 d64.length c66, .slice A202 (d145 ++ [(⟨((gt x0.Done k142).Query), (gt x0.Done k142).Time, (gt x0.Done k142).Steps, ((gt x0.Done k142).Rows)⟩ : Qbg)]).length c203, .slice none 0 0, .int .i64 x0.Steps] [Qd (tSl Qce 37) [.slice A202 (d145 ++ [(⟨((gt x0.Done k142).Query), (gt x0.Done k142).Time, (gt x0.Done k142).Steps, ((gt x0.Done k142).Rows)⟩ : Qbg)]).length c203] (d145 ++ [(⟨((gt x0.Done k142).Query), (gt x0.Done k142).Time, (gt x0.Done k142).Steps, ((gt x0.Done k142).Rows)⟩ : Qbg)]), Qa p183 37 K18, I22, I23, Qa p42 47 K7, Qa p41 47 K17, I24] (pk [2, 0, 1, 3, 4, 5, 6, 7]) type44 ?_
   refine Qal (Qax (Qi (Qad (wm ?_))))
   refine wv (Qbd k142 1 (by omega)) ?_
   refine wa (Qal ?_)
   have hn206 := Qbb (R := Qag) (body := F2) (k := k142) (s := d145) (s' := (d145 ++ [(⟨((gt x0.Done k142).Query), (gt x0.Done k142).Time, (gt x0.Done k142).Steps, ((gt x0.Done k142).Rows)⟩ : Qbg)])) (show k142 < x0.Done.length from by omega) (rfl) hF149
   exact Qaz (k142 + 1, (d145 ++ [(⟨((gt x0.Done k142).Query), (gt x0.Done k142).Time, (gt x0.Done k142).Steps, ((gt x0.Done k142).Rows)⟩ : Qbg)]), (A202, c203)) sl4 (pk [0, 3, 4, 5, 6, 7, 1]) ⟨(by omega), hn206, (show (d145 ++ [(⟨((gt x0.Done k142).Query), (gt x0.Done k142).Time, (gt x0.Done k142).Steps, ((gt x0.Done k142).Rows)⟩ : Qbg)]).length ≤ 0 + (k142 + 1) from by first | omega | (simp only [List.length_append, List.length_cons, List.length_nil] at *; omega))⟩ (rl (by omega))
  have g153 := dlF hl152
  refine Qp rfl g153 ?_
  refine Qbk (Qac (Qac ?_))
  have hE207 : R5 (x0.Done.length - 0) 0 [] = Sum.inr d145 := Qbn hl152 hF149
  refine Qbm (Qi (Qf (sr (wa (nt' (Qab ?_))))))
  refine Qdf (fun W hm => (hm.addNil (E := Qbx) (e := 133)).last) ?_
  let F3 := fun k (s : (List Qay)) => Qwv x0 k s
  let R6 := rng (R := Qag) F3
  refine Qbl (σ := Nat × ((List Qay)) × (Option Addr × Nat)) (fun s => [(1, .pointer (some (⟨p41, 0, none⟩ : Addr))), (2, .pointer (some (⟨p42, 0, none⟩ : Addr))), (3, .pointer (some (⟨p56, 0, none⟩ : Addr))), (8, .int .i64 ((s.1 : Nat) : Int))]) (fun s => [Qa p56 47 [.slice A45 x0.Store.Segments.length c46, .int .i64 x0.Store.Now, .int .i64 x0.Cursor, .slice A52 x0.Order.length c53, .slice A65 d64.length c66, .slice A146 d145.length c147, .slice s.2.2.1 s.2.1.length s.2.2.2, .int .i64 x0.Steps], I22, I23, Qa p42 47 K7, Qa p41 47 K8, I24, I29, Qd (tSl Qbx 133) [.slice s.2.2.1 s.2.1.length s.2.2.2] s.2.1]) (fun s => s.1 ≤ x0.Ledger.length ∧ R6 (x0.Ledger.length - s.1) s.1 s.2.1 = R6 (x0.Ledger.length - 0) 0 [] ∧ s.2.1.length ≤ 0 + s.1) (fun s => x0.Ledger.length - s.1) (0, [], (none, 0)) sl4 (fun W hm => hm) ⟨(by omega), rfl, Nat.le_refl _⟩ ?_
  rintro ⟨k208, d211, ⟨A212, c213⟩⟩ H216
  obtain ⟨hk214, hF215, hi217⟩ : k208 ≤ x0.Ledger.length ∧ R6 (x0.Ledger.length - k208) k208 d211 = R6 (x0.Ledger.length - 0) 0 [] ∧ d211.length ≤ 0 + k208 := H216
  let K19 : List Value := [.slice A45 x0.Store.Segments.length c46, .int .i64 x0.Store.Now, .int .i64 x0.Cursor, .slice A52 x0.Order.length c53, .slice A65 d64.length c66, .slice A146 d145.length c147, .slice A212 d211.length c213, .int .i64 x0.Steps]
  let I33 : It := Qd (tSl Qbx 133) [.slice A212 d211.length c213] d211
  show CM Tryz.prog 97 _ _ _ _ [(1, .pointer (some (⟨p41, 0, none⟩ : Addr))), (2, .pointer (some (⟨p42, 0, none⟩ : Addr))), (3, .pointer (some (⟨p56, 0, none⟩ : Addr))), (8, .int .i64 ((k208 : Nat) : Int))] [Qa p56 47 K19, I22, I23, Qa p42 47 K7, Qa p41 47 K8, I24, I29, I33]
  refine Qf (sr (wm ?_))
  refine wv (vf Qaq rfl type45) ?_
  refine wv (vl 4 6 Qdt) ?_
  refine wv (Qai Qdt) ?_
  refine wv Qak ?_
  refine nt' ?_
  by_cases hl218 : k208 < x0.Ledger.length
  ·have g219 := dlT hl218
   refine Ql rfl g219 ?_
   refine Qq (Qi (Qf (Qab ?_)))
   refine rd2 12 [11] (s := [I22, I23, Qa p42 47 K7, I24, I29]) (s2 := [Qa p56 47 K19, I22, I23, Qa p42 47 K7, Qa p41 47 K8, I24, I29]) (pk [1, 2, 3, 5, 6]) (pk [0, 1, 2, 3, 4, 5, 6]) ?_
   refine qtD 12 0 1 rfl (vf Qaq rfl type45) ?_
   refine qtD 12 1 3 rfl (vl 0 6 Qdt) ?_
   refine qtD 12 2 7 rfl (vf Qaq rfl type45) ?_
   refine qtD 12 3 15 rfl (vl 4 6 Qdt) ?_
   refine qtD 12 4 31 rfl vmv ?_
   obtain ⟨a220, rfl, hb221, he222⟩ := q34 (by omega)
   refine qtD 12 5 63 rfl (vix 5 k208 Qdt Qdr) ?_
   obtain ⟨_, e230, hc223⟩ := he222 k208 _ (Qca (show k208 < x0.Ledger.length from by omega))
   obtain ⟨v224, v226, v228, rfl, r225, r227, r229⟩ := Qik e230
   have l231 : ((gt x0.Ledger k208).Ids).length ≤ 68719476736 := (s_0.2.2.2.2.2 _ (Qbh (show k208 < x0.Ledger.length from by omega))).1
   have l232 : ((gt x0.Ledger k208).Tenants).length ≤ 68719476736 := (s_0.2.2.2.2.2 _ (Qbh (show k208 < x0.Ledger.length from by omega))).2.1
   have l233 : ((gt x0.Ledger k208).Rows).length ≤ 68719476736 := (s_0.2.2.2.2.2 _ (Qbh (show k208 < x0.Ledger.length from by omega))).2.2
   obtain ⟨m234, A235, c236, rfl, q237, r238⟩ := Qk r225
   obtain ⟨m239, A240, c241, rfl, q242, r243⟩ := Qk r227
   obtain ⟨m244, A245, c246, rfl, q247, r248⟩ := Qk r229
   refine qtD 12 6 127 rfl (fun W hm => Qz (cs := [.int .i64 ((gt x0.Ledger k208).Segment), .int .i64 ((gt x0.Ledger k208).Base), .slice A235 ((gt x0.Ledger k208).Ids).length c236, .slice A240 ((gt x0.Ledger k208).Tenants).length c241, .slice A245 ((gt x0.Ledger k208).Rows).length c246]) Qcm Qdr rfl rfl (hm.elCells (show (a220.add (k208 * 5)).block < w.heap.size from by rw [Qah]; exact hb221.1) hc223)) ?_
   refine qoD 12 7 255 rfl ?_
   refine wcs Qbx (gt x0.Ledger k208) (Qr Qagq rfl) (fun W hm => Qarw W _ (gt x0.Ledger k208) (Qoy (x := (gt x0.Ledger k208)) (hm.rdS0 r238) (hm.rdS0 r243) (hm.rdS0 r248)) (s_0.2.2.2.2.2 _ (Qbh (show k208 < x0.Ledger.length from by omega)))) (fun z249 => ?_)
   refine Qsq ?_
   rintro ⟨v250, v251, v252⟩ rfl
   refine Qs (n := 0) rfl ?_
   rintro A253 c254 rfl m255
   refine Qs (n := 1) rfl ?_
   rintro A257 c258 rfl m259
   refine Qs (n := 2) rfl ?_
   rintro A261 c262 rfl m263
   refine qnD (pk [4, 5, 6, 8, 9]) (pk [3, 4, 5, 6, 7, 8, 9]) ?_
   refine qoD 12 8 511 rfl ?_
   let K20 : List Value := [.int .i64 ((gt x0.Ledger k208).Segment), .int .i64 ((gt x0.Ledger k208).Base), .slice A253 ((gt x0.Ledger k208).Ids).length c254, .slice A257 ((gt x0.Ledger k208).Tenants).length c258, .slice A261 ((gt x0.Ledger k208).Rows).length c262]
   refine Qfb (cs := K20) Qdt Qdr rfl (by decide) (by decide) rfl (by kernel_rfl) (Qo rfl) (by decide) (fun p265 => ?_)
   refine qnD (pk [5, 6, 7, 9, 10]) (pk [4, 5, 6, 7, 8, 9, 10]) ?_
   refine qoD 12 9 1023 rfl ?_
   let K21 : List Value := [.slice A12 x0.Store.Segments.length c13, .int .i64 x0.Store.Now, .int .i64 x0.Cursor, .slice A17 x0.Order.length c18, .slice A22 x0.Active.length c23, .slice A27 x0.Done.length c28, .slice (some a220) x0.Ledger.length c33, .int .i64 x0.Steps]
   refine ap1 Qbx 133 (.slice A212 d211.length c213) d211 (gt x0.Ledger k208) [Qd (tSl Qg 3) [.slice A253 ((gt x0.Ledger k208).Ids).length c254] ((gt x0.Ledger k208).Ids), Qd (tSl Qg 3) [.slice A257 ((gt x0.Ledger k208).Tenants).length c258] ((gt x0.Ledger k208).Tenants), Qd (tSl Qg 3) [.slice A261 ((gt x0.Ledger k208).Rows).length c262] ((gt x0.Ledger k208).Rows)] [Qa p56 47 K19, I22, I23, Qa p42 47 K7, Qa p41 47 K21, I24, I29] K20 (pk [0, 11, 1, 2, 3, 4, 5, 6, 7, 8, 9, 10]) (fun _ _ hs => Els.single (Qnp (x := (gt x0.Ledger k208)) hs)) Qdt Qdr (show (d211.length + 1) * 88 ≤ 140737488355328 from by omega) (fun v266 => ?_)
   refine Qs (n := 0) rfl ?_
   rintro A267 c268 rfl m269
   refine qnD (pk [2, 3, 4, 6, 7]) (pk [1, 2, 3, 4, 5, 6, 7]) ?_
   refine qtD 12 10 2047 rfl (vf Qaq rfl type45) ?_
   refine qoD 12 11 4095 rfl ?_
   refine sb 6 [.slice A45 x0.Store.Segments.length c46, .int .i64 x0.Store.Now, .int .i64 x0.Cursor, .slice A52 x0.Order.length c53, .slice A65 d64.length c66, .slice A146 d145.length c147, .slice A267 (d211 ++ [(gt x0.Ledger k208)]).length c268, .int .i64 x0.Steps] [Qd (tSl Qbx 133) [.slice A267 (d211 ++ [(gt x0.Ledger k208)]).length c268] (d211 ++ [(gt x0.Ledger k208)]), I22, I23, Qa p42 47 K7, Qa p41 47 K21, I24, I29] (pk [1, 0, 2, 3, 4, 5, 6, 7]) type45 ?_
   refine qxD (pk [2, 3, 4, 6, 7]) ?_
   refine Qef (by kernel_rfl) ?_
   refine Qax (Qi (Qad (wm ?_)))
   refine wv (Qbd k208 1 (by omega)) ?_
   refine wa (Qal ?_)
   have hn271 := Qbb (R := Qag) (body := F3) (k := k208) (s := d211) (s' := (d211 ++ [(gt x0.Ledger k208)])) (show k208 < x0.Ledger.length from by omega) (rfl) hF215
   exact Qaz (k208 + 1, (d211 ++ [(gt x0.Ledger k208)]), (A267, c268)) sl4 (pk [0, 2, 3, 4, 5, 6, 7, 1]) ⟨(by omega), hn271, (show (d211 ++ [(gt x0.Ledger k208)]).length ≤ 0 + (k208 + 1) from by first | omega | (simp only [List.length_append, List.length_cons, List.length_nil] at *; omega))⟩ (rl (by omega))
  have g219 := dlF hl218
  refine Qp rfl g219 ?_
  refine Qbk (Qac (Qac ?_))
  have hE272 : R6 (x0.Ledger.length - 0) 0 [] = Sum.inr d211 := Qbn hl218 hF215
  refine Qbm (Qi (sr ?_))
  refine wv (fun W hm => Qz (cs := K19) Qaq Qbv rfl rfl (hm.boxCells (n := 0) rfl)) ?_
  refine sb 0 K19 [Qa p56 47 K19, I22, I23, Qa p41 47 K8, I24, I29, I33] (pk [3, 0, 1, 2, 4, 5, 6, 7]) Qbv ?_
  refine nt' (Qj ?_)
  have he273 := (show Qsm x0 = (⟨x0.Store, x0.Cursor, x0.Order, d64, d145, d211, x0.Steps⟩ : Qag) from Qat hE141 (Qat hE207 (Qat hE272 (rfl))))
  refine Qec rfl (Qcp (n := 0) rfl rfl Qaq Qbv rfl) (fun W hm => ⟨K19, ?_, ?_⟩)
  ·first | rw [he273] | rfl
  rw [he273]; exact Mem.join (is := [I23, I22, I24, I29, I33]) (js := []) (fun _ _ hs => Qhe (x := (⟨x0.Store, x0.Cursor, x0.Order, d64, d145, d211, x0.Steps⟩ : Qag)) hs) (hm.pick [3, 2, 5, 6, 7] (by decide))
 refine qtD 14 0 1 rfl (vf Qaq rfl Qae) ?_
 refine qtD 14 1 3 rfl (fun W hm => Qz (cs := [.slice A12 x0.Store.Segments.length c13, .int .i64 x0.Store.Now]) Qaf Qae rfl rfl (hm.boxPart (n := 1) rfl rfl)) ?_
 refine qtD 14 3 11 rfl (vf Qaq rfl Qh) ?_
 refine qtD 14 4 27 rfl (vl 1 2 Qt) ?_
 refine qtD 14 6 91 rfl (vf Qaq rfl Qap) ?_
 refine qtD 14 7 219 rfl (vl 1 3 Qv) ?_
 refine qtD 14 9 731 rfl (vf Qaq rfl Qh) ?_
 refine qtD 14 10 1755 rfl (vl 1 7 Qt) ?_
 refine qaD [2, 5, 12] ?_
 refine qcD 14 1759 rfl ?_ ?_
 ·
  refine wcs Qcz x0.Store (Qr Qms rfl) (fun W hm => Qnl W _ x0.Store (Qeg (x := x0.Store) (hm.rdS0 r15)) s_0.1) (fun z274 => ?_)
  refine Qgd ?_
  rintro v275 rfl
  refine Qs (n := 0) rfl ?_
  rintro A276 c277 rfl m278
  refine qnD (pk [1, 2]) (pk [1, 2]) ?_
  refine qaD [5, 12] ?_
  refine qcD 14 1791 rfl ?_ ?_
  ·
   refine Qdb (E := Qg) Qv Qh (Qo rfl) (by decide) (fun p280 => ?_)
   refine qnD (pk [2, 3]) (pk [2, 3]) ?_
   refine qaD [8, 12] ?_
   refine qcD 14 2047 rfl ?_ ?_
   ·
    refine apR Qg Qg 3 (.slice (some ⟨p280, 0, none⟩) 0 0) [] x0.Order [Qd (tSl (tSl Qm 191) 131) [.slice A276 x0.Store.Segments.length c277] x0.Store.Segments, Qa p42 47 K7, Qa p41 47 K8] (fun W hm => hm) (fun W hm => Qdk Qcw (hm.rdS0 r20)) Qv Qh (show (0 + x0.Order.length) * 8 ≤ 140737488355328 from by omega) (fun v282 => ?_)
    refine Qs (n := 0) rfl ?_
    rintro A283 c284 rfl m285
    refine qnD (pk [2, 3]) (pk [2, 3]) ?_
    refine qtD 14 11 4095 rfl (fun W hm => Qeq (cs := [.slice A276 x0.Store.Segments.length c277, .int .i64 x0.Store.Now, .int .i64 x0.Cursor, .slice A283 x0.Order.length c284, .slice none 0 0, .slice none 0 0, .slice none 0 0, .int .i64 x0.Steps]) rfl (by kernel_rfl)) ?_
    refine qoD 14 12 8191 rfl ?_
    refine Qbo Qbv rfl (Qo rfl) (by decide) (fun p287 => ?_)
    refine qnD (pk [3, 4]) (pk [3, 4]) ?_
    exact Qdw sl4 (fun W hm => hm) (H (A276, c277, A283, c284, p287))
   refine qcD 14 5887 rfl ?_ ?_
   ·
    refine Qbo Qbv rfl (Qo rfl) (by decide) (fun p288 => ?_)
    refine qnD (pk [3, 4]) (pk [3, 4]) ?_
    refine qoD 14 8 6143 rfl ?_
    refine apR Qg Qg 3 (.slice (some ⟨p280, 0, none⟩) 0 0) [] x0.Order [Qa p288 47 K7, Qd (tSl (tSl Qm 191) 131) [.slice A276 x0.Store.Segments.length c277] x0.Store.Segments, Qa p42 47 K7, Qa p41 47 K8] (pk [1, 0, 2, 3, 4]) (fun W hm => Qdk Qcw (hm.rdS0 r20)) Qv Qh (show (0 + x0.Order.length) * 8 ≤ 140737488355328 from by omega) (fun v289 => ?_)
    refine Qs (n := 0) rfl ?_
    rintro A290 c291 rfl m292
    refine qnD (pk [3, 4]) (pk [3, 4]) ?_
    refine qtD 14 11 8191 rfl (fun W hm => Qeq (cs := [.slice A276 x0.Store.Segments.length c277, .int .i64 x0.Store.Now, .int .i64 x0.Cursor, .slice A290 x0.Order.length c291, .slice none 0 0, .slice none 0 0, .slice none 0 0, .int .i64 x0.Steps]) rfl (by kernel_rfl)) ?_
    exact Qdw sl4 (pk [1, 0, 2, 3, 4]) (H (A276, c277, A290, c291, p288))
   exact Qek
  refine qcD 14 5855 rfl ?_ ?_
  ·
   refine Qbo Qbv rfl (Qo rfl) (by decide) (fun p294 => ?_)
   refine qnD (pk [2, 3]) (pk [2, 3]) ?_
   refine qoD 14 5 5887 rfl ?_
   refine Qdb (E := Qg) Qv Qh (Qo rfl) (by decide) (fun p295 => ?_)
   refine qnD (pk [3, 4]) (pk [3, 4]) ?_
   refine qoD 14 8 6143 rfl ?_
   refine apR Qg Qg 3 (.slice (some ⟨p295, 0, none⟩) 0 0) [] x0.Order [Qa p294 47 K7, Qd (tSl (tSl Qm 191) 131) [.slice A276 x0.Store.Segments.length c277] x0.Store.Segments, Qa p42 47 K7, Qa p41 47 K8] (fun W hm => hm) (fun W hm => Qdk Qcw (hm.rdS0 r20)) Qv Qh (show (0 + x0.Order.length) * 8 ≤ 140737488355328 from by omega) (fun v297 => ?_)
   refine Qs (n := 0) rfl ?_
   rintro A298 c299 rfl m300
   refine qnD (pk [3, 4]) (pk [3, 4]) ?_
   refine qtD 14 11 8191 rfl (fun W hm => Qeq (cs := [.slice A276 x0.Store.Segments.length c277, .int .i64 x0.Store.Now, .int .i64 x0.Cursor, .slice A298 x0.Order.length c299, .slice none 0 0, .slice none 0 0, .slice none 0 0, .int .i64 x0.Steps]) rfl (by kernel_rfl)) ?_
   exact Qdw sl4 (pk [1, 0, 2, 3, 4]) (H (A276, c277, A298, c299, p294))
  exact Qek
 refine qcD 14 1787 rfl ?_ ?_
 ·
  refine Qdb (E := Qg) Qv Qh (Qo rfl) (by decide) (fun p302 => ?_)
  refine qnD (pk [1, 2]) (pk [1, 2]) ?_
  refine qaD [2, 12] ?_
  refine qcD 14 1791 rfl ?_ ?_
  ·
   refine wcs Qcz x0.Store (Qr Qms rfl) (fun W hm => Qnl W _ x0.Store (Qeg (x := x0.Store) (hm.rdS0 r15)) s_0.1) (fun z304 => ?_)
   refine Qgd ?_
   rintro v305 rfl
   refine Qs (n := 0) rfl ?_
   rintro A306 c307 rfl m308
   refine qnD (pk [2, 3]) (pk [2, 3]) ?_
   refine qaD [8, 12] ?_
   refine qcD 14 2047 rfl ?_ ?_
   ·
    refine apR Qg Qg 3 (.slice (some ⟨p302, 0, none⟩) 0 0) [] x0.Order [Qd (tSl (tSl Qm 191) 131) [.slice A306 x0.Store.Segments.length c307] x0.Store.Segments, Qa p42 47 K7, Qa p41 47 K8] (pk [1, 0, 2, 3]) (fun W hm => Qdk Qcw (hm.rdS0 r20)) Qv Qh (show (0 + x0.Order.length) * 8 ≤ 140737488355328 from by omega) (fun v310 => ?_)
    refine Qs (n := 0) rfl ?_
    rintro A311 c312 rfl m313
    refine qnD (pk [2, 3]) (pk [2, 3]) ?_
    refine qtD 14 11 4095 rfl (fun W hm => Qeq (cs := [.slice A306 x0.Store.Segments.length c307, .int .i64 x0.Store.Now, .int .i64 x0.Cursor, .slice A311 x0.Order.length c312, .slice none 0 0, .slice none 0 0, .slice none 0 0, .int .i64 x0.Steps]) rfl (by kernel_rfl)) ?_
    refine qoD 14 12 8191 rfl ?_
    refine Qbo Qbv rfl (Qo rfl) (by decide) (fun p315 => ?_)
    refine qnD (pk [3, 4]) (pk [3, 4]) ?_
    exact Qdw sl4 (fun W hm => hm) (H (A306, c307, A311, c312, p315))
   refine qcD 14 5887 rfl ?_ ?_
   ·
    refine Qbo Qbv rfl (Qo rfl) (by decide) (fun p316 => ?_)
    refine qnD (pk [3, 4]) (pk [3, 4]) ?_
    refine qoD 14 8 6143 rfl ?_
    refine apR Qg Qg 3 (.slice (some ⟨p302, 0, none⟩) 0 0) [] x0.Order [Qa p316 47 K7, Qd (tSl (tSl Qm 191) 131) [.slice A306 x0.Store.Segments.length c307] x0.Store.Segments, Qa p42 47 K7, Qa p41 47 K8] (pk [2, 0, 1, 3, 4]) (fun W hm => Qdk Qcw (hm.rdS0 r20)) Qv Qh (show (0 + x0.Order.length) * 8 ≤ 140737488355328 from by omega) (fun v317 => ?_)
    refine Qs (n := 0) rfl ?_
    rintro A318 c319 rfl m320
    refine qnD (pk [3, 4]) (pk [3, 4]) ?_
    refine qtD 14 11 8191 rfl (fun W hm => Qeq (cs := [.slice A306 x0.Store.Segments.length c307, .int .i64 x0.Store.Now, .int .i64 x0.Cursor, .slice A318 x0.Order.length c319, .slice none 0 0, .slice none 0 0, .slice none 0 0, .int .i64 x0.Steps]) rfl (by kernel_rfl)) ?_
    exact Qdw sl4 (pk [1, 0, 2, 3, 4]) (H (A306, c307, A318, c319, p316))
   exact Qek
  refine qcD 14 5883 rfl ?_ ?_
  ·
   refine Qbo Qbv rfl (Qo rfl) (by decide) (fun p322 => ?_)
   refine qnD (pk [2, 3]) (pk [2, 3]) ?_
   refine qoD 14 2 5887 rfl ?_
   refine wcs Qcz x0.Store (Qr Qms rfl) (fun W hm => Qnl W _ x0.Store (Qeg (x := x0.Store) (hm.rdS0 r15)) s_0.1) (fun z323 => ?_)
   refine Qgd ?_
   rintro v324 rfl
   refine Qs (n := 0) rfl ?_
   rintro A325 c326 rfl m327
   refine qnD (pk [3, 4]) (pk [3, 4]) ?_
   refine qoD 14 8 6143 rfl ?_
   refine apR Qg Qg 3 (.slice (some ⟨p302, 0, none⟩) 0 0) [] x0.Order [Qd (tSl (tSl Qm 191) 131) [.slice A325 x0.Store.Segments.length c326] x0.Store.Segments, Qa p322 47 K7, Qa p42 47 K7, Qa p41 47 K8] (pk [2, 0, 1, 3, 4]) (fun W hm => Qdk Qcw (hm.rdS0 r20)) Qv Qh (show (0 + x0.Order.length) * 8 ≤ 140737488355328 from by omega) (fun v329 => ?_)
   refine Qs (n := 0) rfl ?_
   rintro A330 c331 rfl m332
   refine qnD (pk [3, 4]) (pk [3, 4]) ?_
   refine qtD 14 11 8191 rfl (fun W hm => Qeq (cs := [.slice A325 x0.Store.Segments.length c326, .int .i64 x0.Store.Now, .int .i64 x0.Cursor, .slice A330 x0.Order.length c331, .slice none 0 0, .slice none 0 0, .slice none 0 0, .int .i64 x0.Steps]) rfl (by kernel_rfl)) ?_
   exact Qdw sl4 (pk [2, 0, 1, 3, 4]) (H (A325, c326, A330, c331, p322))
  exact Qek
 refine qcD 14 5851 rfl ?_ ?_
 ·
  refine Qbo Qbv rfl (Qo rfl) (by decide) (fun p334 => ?_)
  refine qnD (pk [1, 2]) (pk [1, 2]) ?_
  refine qaD [2, 5] ?_
  refine qcD 14 5855 rfl ?_ ?_
  ·
   refine wcs Qcz x0.Store (Qr Qms rfl) (fun W hm => Qnl W _ x0.Store (Qeg (x := x0.Store) (hm.rdS0 r15)) s_0.1) (fun z335 => ?_)
   refine Qgd ?_
   rintro v336 rfl
   refine Qs (n := 0) rfl ?_
   rintro A337 c338 rfl m339
   refine qnD (pk [2, 3]) (pk [2, 3]) ?_
   refine qoD 14 5 5887 rfl ?_
   refine Qdb (E := Qg) Qv Qh (Qo rfl) (by decide) (fun p341 => ?_)
   refine qnD (pk [3, 4]) (pk [3, 4]) ?_
   refine qoD 14 8 6143 rfl ?_
   refine apR Qg Qg 3 (.slice (some ⟨p341, 0, none⟩) 0 0) [] x0.Order [Qd (tSl (tSl Qm 191) 131) [.slice A337 x0.Store.Segments.length c338] x0.Store.Segments, Qa p334 47 K7, Qa p42 47 K7, Qa p41 47 K8] (fun W hm => hm) (fun W hm => Qdk Qcw (hm.rdS0 r20)) Qv Qh (show (0 + x0.Order.length) * 8 ≤ 140737488355328 from by omega) (fun v343 => ?_)
   refine Qs (n := 0) rfl ?_
   rintro A344 c345 rfl m346
   refine qnD (pk [3, 4]) (pk [3, 4]) ?_
   refine qtD 14 11 8191 rfl (fun W hm => Qeq (cs := [.slice A337 x0.Store.Segments.length c338, .int .i64 x0.Store.Now, .int .i64 x0.Cursor, .slice A344 x0.Order.length c345, .slice none 0 0, .slice none 0 0, .slice none 0 0, .int .i64 x0.Steps]) rfl (by kernel_rfl)) ?_
   exact Qdw sl4 (pk [2, 0, 1, 3, 4]) (H (A337, c338, A344, c345, p334))
  refine qcD 14 5883 rfl ?_ ?_
  ·
   refine Qdb (E := Qg) Qv Qh (Qo rfl) (by decide) (fun p348 => ?_)
   refine qnD (pk [2, 3]) (pk [2, 3]) ?_
   refine qoD 14 2 5887 rfl ?_
   refine wcs Qcz x0.Store (Qr Qms rfl) (fun W hm => Qnl W _ x0.Store (Qeg (x := x0.Store) (hm.rdS0 r15)) s_0.1) (fun z350 => ?_)
   refine Qgd ?_
   rintro v351 rfl
   refine Qs (n := 0) rfl ?_
   rintro A352 c353 rfl m354
   refine qnD (pk [3, 4]) (pk [3, 4]) ?_
   refine qoD 14 8 6143 rfl ?_
   refine apR Qg Qg 3 (.slice (some ⟨p348, 0, none⟩) 0 0) [] x0.Order [Qd (tSl (tSl Qm 191) 131) [.slice A352 x0.Store.Segments.length c353] x0.Store.Segments, Qa p334 47 K7, Qa p42 47 K7, Qa p41 47 K8] (pk [1, 0, 2, 3, 4]) (fun W hm => Qdk Qcw (hm.rdS0 r20)) Qv Qh (show (0 + x0.Order.length) * 8 ≤ 140737488355328 from by omega) (fun v356 => ?_)
   refine Qs (n := 0) rfl ?_
   rintro A357 c358 rfl m359
   refine qnD (pk [3, 4]) (pk [3, 4]) ?_
   refine qtD 14 11 8191 rfl (fun W hm => Qeq (cs := [.slice A352 x0.Store.Segments.length c353, .int .i64 x0.Store.Now, .int .i64 x0.Cursor, .slice A357 x0.Order.length c358, .slice none 0 0, .slice none 0 0, .slice none 0 0, .int .i64 x0.Steps]) rfl (by kernel_rfl)) ?_
   exact Qdw sl4 (pk [2, 0, 1, 3, 4]) (H (A352, c353, A357, c358, p334))
  exact Qek
 exact Qek
theorem Qast (x0 : Qag) : Qsm x0 = x0 := by
 unfold Qsm; rw [Qix (xs := x0.Active) (b := fun k s => Qwt x0 k s) (fun _ _ => rfl), Qix (xs := x0.Done) (b := fun k s => Qwu x0 k s) (fun _ _ => rfl), Qix (xs := x0.Ledger) (b := fun k s => Qwv x0 k s) (fun _ _ => rfl)]; rfl
theorem Qass (w : World) (z0 : List Value) (x0 : Qag) (r_0 : Qdd.rd w w.heap.size z0 x0) (s_0 : Qgf 68719476736 x0) :
  Calls Tryz.prog 81 #[.agg z0.toArray] w fun e w' => ∃ v : List Value, e = .returned (.agg v.toArray) ∧ Mem w.heap.size w [Qd Qdd v x0] w' := by
 have h := Qasr w z0 x0 r_0 s_0
 rw [Qast] at h
 exact h

def Qbt (x0 : Int) (x1 : Int) (x2 : Int) : Bool :=
 cond (decide (x1 ≤ x0)) (decide (x0 ≤ x2)) false
theorem Qep : Cb Tryz.prog 128 := ⟨f128, _, func128, rfl, by decide⟩
theorem Qer (w : World) (x0 : Int) (x1 : Int) (x2 : Int) :
  Calls Tryz.prog 128 #[.int .i64 x0, .int .i64 x1, .int .i64 x2] w fun e w' => e = .returned (.bool (Qbt x0 x1 x2)) ∧ Below w.heap.size w w' := by
 refine ce3 (L := [(0, .int .i64 x0), (1, .int .i64 x1), (2, .int .i64 x2)]) (N := 15) func128 ?_
 refine sr (wa (nt' (sr (wm (wm ?_)))))
 refine wv (fun W hm => Qii rfl rfl) ?_
 refine wm ?_
 by_cases h1 : x1 ≤ x0
 ·have g2 := decide_eq_true h1
  refine wg vmv g2 ?_
  refine wg vmv g2 ?_
  refine wg (fun W hm => Qgv rfl rfl) g2 ?_
  refine wv (vpT g2) ?_
  refine wa (nt' (Qj ?_))
  exact rtb (h := Qb g2 (rfl))
 have g2 := decide_eq_false h1
 refine ws g2 ?_
 refine ws g2 ?_
 refine ws g2 ?_
 refine wv (vpF g2) ?_
 refine wa (nt' (Qj ?_))
 exact rtb (h := Qc g2 (rfl))

theorem Qev {x a b : Int} (h : Qbt x a b = true) : a ≤ x ∧ x ≤ b := by
  unfold Qbt at h
  by_cases h1 : a ≤ x
  · rw [decide_eq_true h1] at h
    exact ⟨h1, of_decide_eq_true h⟩
  rw [decide_eq_false h1] at h
  cases h
theorem Qqo (x a b : Int) : Qbt x a b = decide (a ≤ x ∧ x ≤ b) := by
  unfold Qbt
  by_cases h1 : a ≤ x
  · by_cases h2 : x ≤ b
    · simp [h1, h2]
    simp [h1, h2]
  simp [h1]

def Qwq (x0 : Qx) (k12 : Nat) (d13 : (List Qn)) : (List Qn) ⊕ ((List Qn)) :=
 Sum.inr (d13 ++ (gt x0.Segments k12))
def Qct (x0 : Qx) : (List Qn) :=
 Sum.elim id (fun (s : (List Qn)) => s) (rng (R := (List Qn)) (fun k (s : (List Qn)) => Qwq x0 k s) (x0.Segments.length - 0) 0 [])
theorem Qahs : Cb Tryz.prog 205 := ⟨f205, _, func205, rfl, by decide⟩
theorem Qasf (B : Nat) (w0 : World) (is : List It) (w : World) (z0 : List Value) (x0 : Qx) (r_0 : Qcz.rd w0 B z0 x0) (s_0 : Qfl 68719476736 x0) (hq : (x0.Segments.map List.length).sum ≤ 68719476736) (hm : Mem B w0 is w) :
  Calls Tryz.prog 205 #[.agg z0.toArray] w fun e w' => ∃ v : Value, e = .returned (v) ∧ Mem B w0 (Qd (tSl (Qfh Qm w0 B) 191) [v] (Qct x0) :: is) w' := by
 obtain ⟨v1, rfl, r2⟩ := Qgy r_0
 obtain ⟨m3, A4, c5, rfl, q6, r7⟩ := Qk r2
 have l8 : x0.Segments.length ≤ 68719476736 := s_0.1
 refine Qhi (L := [(0, .agg #[.slice A4 x0.Segments.length c5, .int .i64 x0.Now])]) (N := 21) func205 rfl rfl (Nat.le_of_ble_eq_true rfl) (Qee rfl Qgl) hm ?_
 refine sr ?_
 refine Qbj rfl (Qo rfl) (by decide) (fun p9 => ?_)
 refine wa (nt' (sr ?_))
 refine Qdb (E := (Qfh Qm w0 B)) Qav Qar (Qo rfl) (by decide) (fun p10 => ?_)
 refine wa (nt' (Qf (sr (wa (nt' (Qab ?_))))))
 let F1 := fun k (s : (List Qn)) => Qwq x0 k s
 let R2 := rng (R := (List Qn)) F1
 let I3 : It := Qa p9 42 [.slice A4 x0.Segments.length c5, .int .i64 x0.Now]
 refine Qbl (σ := Nat × ((List Qn)) × (Option Addr × Nat)) (fun s => [(1, .pointer (some (⟨p9, 0, none⟩ : Addr))), (3, .slice s.2.2.1 s.2.1.length s.2.2.2), (4, .int .i64 ((s.1 : Nat) : Int))]) (fun s => (Qd (tSl (Qfh Qm w0 B) 191) [.slice s.2.2.1 s.2.1.length s.2.2.2] s.2.1 :: I3 :: is)) (fun s => s.1 ≤ x0.Segments.length ∧ R2 (x0.Segments.length - s.1) s.1 s.2.1 = R2 (x0.Segments.length - 0) 0 [] ∧ s.2.1.length ≤ ((x0.Segments.take s.1).map List.length).sum) (fun s => x0.Segments.length - s.1) (0, [], ((some ⟨p10, 0, none⟩), 0)) sl3 (fun W hm => hm) ⟨(by omega), rfl, Nat.zero_le _⟩ ?_
 rintro ⟨k12, d13, ⟨A14, c15⟩⟩ H18
 obtain ⟨hk16, hF17, hi19⟩ : k12 ≤ x0.Segments.length ∧ R2 (x0.Segments.length - k12) k12 d13 = R2 (x0.Segments.length - 0) 0 [] ∧ d13.length ≤ ((x0.Segments.take k12).map List.length).sum := H18
 show CM Tryz.prog 21 _ _ _ _ [(1, .pointer (some (⟨p9, 0, none⟩ : Addr))), (3, .slice A14 d13.length c15), (4, .int .i64 ((k12 : Nat) : Int))] (Qd (tSl (Qfh Qm w0 B) 191) [.slice A14 d13.length c15] d13 :: I3 :: is)
 refine Qf (sr (wm ?_))
 refine wv (vf Qaf rfl Qcu) ?_
 refine wv (vl 1 0 Qas) ?_
 refine wv (Qai Qas) ?_
 refine wv Qak ?_
 refine nt' ?_
 by_cases hl20 : k12 < x0.Segments.length
 ·have g21 := dlT hl20
  refine Ql rfl g21 ?_
  refine Qq (Qi (Qf (Qab (Qad (wm ?_)))))
  refine wv (vf Qaf rfl Qcu) ?_
  refine wv (vl 1 0 Qas) ?_
  refine wm ?_
  obtain ⟨a22, rfl, hb23, he24⟩ := q6 (by omega)
  refine wv (vix 1 k12 Qas Qda) ?_
  obtain ⟨_, e26, hc25⟩ := he24 k12 _ (Qca (show k12 < x0.Segments.length from by omega))
  have l27 : (gt x0.Segments k12).length ≤ 68719476736 := (s_0.2 _ (Qbh (show k12 < x0.Segments.length from by omega))).1
  obtain ⟨v28, rfl, r29⟩ := e26
  obtain ⟨m30, A31, c32, rfl, q33, r34⟩ := Qk r29
  refine wv (fun W hm => Qaw Qav rfl rfl ((hm.cell0 (show (a22.add (k12 * 1)).block < B from by rw [Qah]; exact hb23.1)).trans (hc25 0 _ rfl))) ?_
  refine apR (Qfh Qm w0 B) Qm 191 (.slice A14 d13.length c15) d13 (gt x0.Segments k12) (Qa p9 42 [.slice (some a22) x0.Segments.length c5, .int .i64 x0.Now] :: is) (fun W hm => (hm.front (n := 0) rfl)) (fun W hm => Qasy hm r34) Qav Qar (show (d13.length + (gt x0.Segments k12).length) * 48 ≤ 140737488355328 from by have h1 := Qqt (w := List.length) (xs := x0.Segments) (j := k12) (by omega); have h2 := Qasz (w := List.length) (xs := x0.Segments) (k12 + 1); omega) (fun v35 => ?_)
  refine Qs (n := 0) rfl ?_
  rintro A36 c37 rfl m38
  refine wa (Qal (Qax (Qi (Qad (wm ?_)))))
  refine wv (Qbd k12 1 (by omega)) ?_
  refine wa (Qal ?_)
  have hn40 := Qbb (R := (List Qn)) (body := F1) (k := k12) (s := d13) (s' := (d13 ++ (gt x0.Segments k12))) (show k12 < x0.Segments.length from by omega) (rfl) hF17
  exact Qaz (k12 + 1, (d13 ++ (gt x0.Segments k12)), (A36, c37)) sl3 (fun W hm => hm) ⟨(by omega), hn40, (show (d13 ++ (gt x0.Segments k12)).length ≤ ((x0.Segments.take (k12 + 1)).map List.length).sum from by rw [List.length_append, Qqt (by omega)]; omega)⟩ (rl (by omega))
 have g21 := dlF hl20
 refine Qp rfl g21 ?_
 refine Qbk (Qac (Qac ?_))
 have hE41 : R2 (x0.Segments.length - 0) 0 [] = Sum.inr d13 := Qbn hl20 hF17
 refine Qbm (Qi (sr (wm (wa (nt' (Qj ?_))))))
 have he42 := (show Qct x0 = d13 from Qat hE41 (rfl))
 refine Qec rfl (Qcv rfl) (fun W hm => ⟨.slice A14 d13.length c15, ?_, ?_⟩)
 ·first | rw [he42] | rfl
 rw [he42]; exact ((hm.front (n := 0) rfl).front (n := 1) rfl).tail

def Qwe (x0 : Qaj) (k9 : Nat) : Bool ⊕ (Unit) :=
 cond (Qbt (gt x0.Values k9) 0 99) (Sum.inr ()) (Sum.inl false)
def Qgx (x0 : Qaj) : Bool :=
 Sum.elim id (fun (s : Unit) => cond (Qbt x0.Id 0 999) (((x0.Values.length : Nat) : Int) == 3) false) (rng (R := Bool) (fun k (_ : Unit) => Qwe x0 k) (x0.Values.length - 0) 0 ())
theorem Qtm : Cb Tryz.prog 209 := ⟨f209, _, func209, rfl, by decide⟩
theorem Qwf (w : World) (z0 : List Value) (x0 : Qaj) (r_0 : Qbp.rd w w.heap.size z0 x0) :
  Calls Tryz.prog 209 #[.agg z0.toArray] w fun e w' => e = .returned (.bool (Qgx x0)) ∧ Below w.heap.size w w' := by
 obtain ⟨v1, rfl, r2⟩ := Qin r_0
 obtain ⟨m3, A4, c5, rfl, q6, r7⟩ := Qk r2
 refine ce1 (L := [(0, .agg #[.int .i64 x0.Id, .slice A4 x0.Values.length c5])]) (N := 27) func209 ?_
 refine sr ?_
 refine Qbj rfl (Qo rfl) (by decide) (fun p8 => ?_)
 refine wa (nt' (Qf (sr (wa (nt' (Qab ?_))))))
 let F1 := fun k (_ : Unit) => Qwe x0 k
 let R2 := rng (R := Bool) F1
 let I3 : It := Qa p8 73 [.int .i64 x0.Id, .slice A4 x0.Values.length c5]
 refine Qbl (σ := Nat × (Unit) × (Unit)) (fun s => [(1, .pointer (some (⟨p8, 0, none⟩ : Addr))), (3, .int .i64 ((s.1 : Nat) : Int))]) (fun s => [I3]) (fun s => s.1 ≤ x0.Values.length ∧ R2 (x0.Values.length - s.1) s.1 s.2.1 = R2 (x0.Values.length - 0) 0 ()) (fun s => x0.Values.length - s.1) (0, (), ()) sl2 (fun W hm => hm) ⟨(by omega), rfl⟩ ?_
 rintro ⟨k9, ⟨⟩, ⟨⟩⟩ H12
 obtain ⟨hk10, hF11⟩ : k9 ≤ x0.Values.length ∧ R2 (x0.Values.length - k9) k9 () = R2 (x0.Values.length - 0) 0 () := H12
 show CM Tryz.prog 27 _ _ _ _ [(1, .pointer (some (⟨p8, 0, none⟩ : Addr))), (3, .int .i64 ((k9 : Nat) : Int))] [I3]
 refine Qf (sr (wm ?_))
 refine wv (vf Qde rfl Qap) ?_
 refine wv (vl 0 1 Qv) ?_
 refine wv (Qai Qv) ?_
 refine wv Qak ?_
 refine nt' ?_
 by_cases hl13 : k9 < x0.Values.length
 ·have g14 := dlT hl13
  refine Ql rfl g14 ?_
  refine Qq (Qi (Qf (Qab (sr ?_))))
  refine wv (vf Qde rfl Qap) ?_
  refine wv (vl 0 1 Qv) ?_
  refine wm ?_
  obtain ⟨a15, rfl, hb16, he17⟩ := q6 (by omega)
  refine wv (vix 1 k9 Qv Qh) ?_
  refine wv (fun W hm => Qaw Qt rfl rfl ((hm.cell0 (show (a15.add (k9 * 1)).block < w.heap.size from by rw [Qah]; exact hb16.1)).trans (Qex he17 k9 (by omega)))) ?_
  refine wcv (Qr Qep rfl) (fun W hm => Qer W (gt x0.Values k9) 0 99) ?_
  refine wv Qbr ?_
  refine nt' ?_
  rcases Bool.eq_false_or_eq_true (Qbt (gt x0.Values k9) 0 99) with g19 | g19
  ·
   have hw := Qev g19
   refine Qp rfl (nt g19) ?_
   refine Qq (Qax (Qi (Qad (wm ?_))))
   refine wv (Qbd k9 1 (by omega)) ?_
   refine wa (Qal ?_)
   have hn20 := Qbb (R := Bool) (body := F1) (k := k9) (s := ()) (s' := ()) (show k9 < x0.Values.length from by omega) (Qb g19 (rfl)) hF11
   exact Qaz (k9 + 1, (), ()) sl2 (fun W hm => hm) ⟨(by omega), hn20⟩ (rl (by omega))
  refine Ql rfl (nf g19) ?_
  refine sr (wa (nt' (Qj (Qy (Qe (Qe (Qy (Qe ?_))))))))
  exact rtb (h := Qba (Qbc (body := F1) (k := k9) (s := ()) (show k9 < x0.Values.length from by omega) (Qc g19 (rfl)) hF11) rfl)
 have g14 := dlF hl13
 refine Qp rfl g14 ?_
 refine Qbk (Qac (Qac ?_))
 have hE21 : R2 (x0.Values.length - 0) 0 () = Sum.inr () := Qbn hl13 hF11
 refine Qbm (Qi (sr ?_))
 refine wv (vf Qde rfl Qh) ?_
 refine wv (vl 0 0 Qt) ?_
 refine wcv (Qr Qep rfl) (fun W hm => Qer W x0.Id 0 999) ?_
 refine wm ?_
 rcases Bool.eq_false_or_eq_true (Qbt x0.Id 0 999) with g23 | g23
 ·
  have hw := Qev g23
  refine wg (vf Qde rfl Qap) g23 ?_
  refine wg (vl 0 1 Qv) g23 ?_
  refine wg (Qai Qv) g23 ?_
  refine wg (fun W hm => Qdj rfl rfl) g23 ?_
  refine wv (vpT g23) ?_
  refine wa (nt' (Qj ?_))
  exact rtb (h := Qat hE21 (Qb g23 (rfl)))
 refine ws g23 ?_
 refine ws g23 ?_
 refine ws g23 ?_
 refine ws g23 ?_
 refine wv (vpF g23) ?_
 refine wa (nt' (Qj ?_))
 exact rtb (h := Qat hE21 (Qc g23 (rfl)))

def Qho (x0 : Qn) (x1 : Int) : Bool :=
 cond (Qgx (⟨x0.Id, x0.Values⟩ : Qaj)) (cond (Qbt x0.Born 0 x1) (cond (x0.Died == (-1)) true (Qbt x0.Died (IntKind.i64.wrap (x0.Born + 1)) x1)) false) false
theorem Qaht : Cb Tryz.prog 206 := ⟨f206, _, func206, rfl, by decide⟩
theorem Qasn (w : World) (z0 : List Value) (x0 : Qn) (x1 : Int) (r_0 : Qm.rd w w.heap.size z0 x0) :
  Calls Tryz.prog 206 #[.agg z0.toArray, .int .i64 x1] w fun e w' => e = .returned (.bool (Qho x0 x1)) ∧ Below w.heap.size w w' := by
 obtain ⟨v1, rfl, r2⟩ := Qfm r_0
 obtain ⟨m3, A4, c5, rfl, q6, r7⟩ := Qk r2
 refine ce2 (L := [(0, .agg #[.int .i64 x0.Id, .slice A4 x0.Values.length c5, .int .i64 x0.Born, .int .i64 x0.Died]), (1, .int .i64 x1)]) (N := 31) func206 ?_
 refine sr ?_
 refine Qbj rfl (Qo rfl) (by decide) (fun p8 => ?_)
 refine wa (nt' (sr ?_))
 refine wv (vf Qbe rfl Qh) ?_
 refine wv (vl 0 0 Qt) ?_
 refine wv (vf Qbe rfl Qap) ?_
 refine wv (vl 0 1 Qv) ?_
 refine wv (fun W hm => Qeq (cs := [.int .i64 x0.Id, .slice A4 x0.Values.length c5]) rfl (by kernel_rfl)) ?_
 refine wcv (Qr Qtm rfl) (fun W hm => Qwf W _ (⟨x0.Id, x0.Values⟩ : Qaj) (Qim (x := (⟨x0.Id, x0.Values⟩ : Qaj)) (hm.rdS0 r7))) ?_
 refine wm ?_
 rcases Bool.eq_false_or_eq_true (Qgx (⟨x0.Id, x0.Values⟩ : Qaj)) with g10 | g10
 ·
  refine wg (vf Qbe rfl Qh) g10 ?_
  refine wg (vl 0 2 Qt) g10 ?_
  refine wg vmv g10 ?_
  refine Qdm (Qr Qep rfl) (fun W hm => Qer W x0.Born 0 x1) (Qcq rfl rfl rfl (bw g10 rfl)) (by decide) ?_
  refine wv (vpT g10) ?_
  refine wm ?_
  rcases Bool.eq_false_or_eq_true (Qbt x0.Born 0 x1) with g12 | g12
  ·
   have hw := Qev g12
   refine wg (vf Qbe rfl Qh) g12 ?_
   refine wg (vl 0 3 Qt) g12 ?_
   refine wg (fun W hm => Qdj rfl rfl) g12 ?_
   refine wg vmv g12 ?_
   by_cases h13 : x0.Died = (-1)
   ·have g14 := beq_iff_eq.2 h13
    refine ws g14 ?_
    refine ws g14 ?_
    refine ws g14 ?_
    refine ws g14 ?_
    refine ws g14 ?_
    refine ws g14 ?_
    refine ws g14 ?_
    refine wg (vpT g14) g12 ?_
    refine wv (vpT g12) ?_
    refine wa (nt' (Qj ?_))
    exact rtb (h := Qb g10 (Qb g12 (Qb g14 (rfl))))
   have g14 := beq_eq_false_iff_ne.2 h13
   refine wg (vf Qbe rfl Qh) g14 ?_
   refine wg (vl 0 3 Qt) g14 ?_
   refine wg (vf Qbe rfl Qh) g14 ?_
   refine wg (vl 0 2 Qt) g14 ?_
   refine wg Qdq g14 ?_
   refine wg vmv g14 ?_
   refine Qdm (Qr Qep rfl) (fun W hm => Qer W x0.Died (IntKind.i64.wrap (x0.Born + 1)) x1) (Qcq rfl rfl rfl (bw g14 rfl)) (by decide) ?_
   refine wg (vpF g14) g12 ?_
   refine wv (vpT g12) ?_
   refine wa (nt' (Qj ?_))
   exact rtb (h := Qb g10 (Qb g12 (Qc g14 (rfl))))
  refine ws g12 ?_
  refine ws g12 ?_
  refine ws g12 ?_
  refine ws g12 ?_
  refine wu ?_
  refine wu ?_
  refine wu ?_
  refine wu ?_
  refine wu ?_
  refine wu ?_
  refine wu ?_
  refine ws g12 ?_
  refine wv (vpF g12) ?_
  refine wa (nt' (Qj ?_))
  exact rtb (h := Qb g10 (Qc g12 (rfl)))
 refine ws g10 ?_
 refine ws g10 ?_
 refine ws g10 ?_
 refine ws g10 ?_
 refine wv (vpF g10) ?_
 refine wm ?_
 refine wk ?_
 refine wk ?_
 refine wk ?_
 refine wk ?_
 refine wu ?_
 refine wu ?_
 refine wu ?_
 refine wu ?_
 refine wu ?_
 refine wu ?_
 refine wu ?_
 refine wk ?_
 refine wv (vpF rfl) ?_
 refine wa (nt' (Qj ?_))
 exact rtb (h := Qc g10 (rfl))

def Qkg (x0 : Qn) (x1 : Qn) : Bool :=
 cond (x0.Id != x1.Id) true (cond (x0.Died != (-1)) (cond (decide (x0.Died ≤ x1.Born)) true (cond (x1.Died != (-1)) (decide (x1.Died ≤ x0.Born)) false)) (cond (x1.Died != (-1)) (decide (x1.Died ≤ x0.Born)) false))
theorem Qahu : Cb Tryz.prog 207 := ⟨f207, _, func207, rfl, by decide⟩
theorem Qasg (w : World) (z0 : List Value) (x0 : Qn) (z1 : List Value) (x1 : Qn) (r_0 : Qm.rd w w.heap.size z0 x0) (r_1 : Qm.rd w w.heap.size z1 x1) :
  Calls Tryz.prog 207 #[.agg z0.toArray, .agg z1.toArray] w fun e w' => e = .returned (.bool (Qkg x0 x1)) ∧ Below w.heap.size w w' := by
 obtain ⟨v1, rfl, r2⟩ := Qfm r_0
 obtain ⟨m3, A4, c5, rfl, q6, r7⟩ := Qk r2
 obtain ⟨v8, rfl, r9⟩ := Qfm r_1
 obtain ⟨m10, A11, c12, rfl, q13, r14⟩ := Qk r9
 refine ce2 (L := [(0, .agg #[.int .i64 x0.Id, .slice A4 x0.Values.length c5, .int .i64 x0.Born, .int .i64 x0.Died]), (1, .agg #[.int .i64 x1.Id, .slice A11 x1.Values.length c12, .int .i64 x1.Born, .int .i64 x1.Died])]) (N := 34) func207 ?_
 refine sr ?_
 refine Qbj rfl (Qo rfl) (by decide) (fun p15 => ?_)
 refine Qbj rfl (Qo rfl) (by decide) (fun p16 => ?_)
 refine wa (nt' (sr ?_))
 refine wv (vf Qbe rfl Qh) ?_
 refine wv (vl 1 0 Qt) ?_
 refine wv (vf Qbe rfl Qh) ?_
 refine wv (vl 0 0 Qt) ?_
 refine wv Qcf ?_
 refine wm ?_
 by_cases h17 : x0.Id = x1.Id
 ·have g18 : (x0.Id != x1.Id) = false := by rw [h17]; exact bne_self_eq_false _
  refine wg (vf Qbe rfl Qh) g18 ?_
  refine wg (vl 1 3 Qt) g18 ?_
  refine wg Qcf g18 ?_
  refine wg vmv g18 ?_
  by_cases h19 : x0.Died = (-1)
  ·have g20 : (x0.Died != (-1)) = false := by rw [h19]; exact bne_self_eq_false _
   refine ws g20 ?_
   refine ws g20 ?_
   refine ws g20 ?_
   refine ws g20 ?_
   refine ws g20 ?_
   refine wg (vpF g20) g18 ?_
   refine wv (vpF g18) ?_
   refine wm ?_
   refine Qjt (vf Qbe rfl Qh) (Qcq rfl rfl rfl rfl) rfl (by decide) ?_
   refine Qjt (vl 0 3 Qt) (Qcq rfl rfl rfl rfl) rfl (by decide) ?_
   refine Qjt Qcf (Qcq rfl rfl rfl rfl) rfl (by decide) ?_
   refine Qjt vmv (Qcq rfl rfl rfl rfl) rfl (by decide) ?_
   by_cases h21 : x1.Died = (-1)
   ·have g22 : (x1.Died != (-1)) = false := by rw [h21]; exact bne_self_eq_false _
    refine ws g22 ?_
    refine ws g22 ?_
    refine ws g22 ?_
    refine ws g22 ?_
    refine ws g22 ?_
    refine Qjt (vpF g22) (Qcq rfl rfl rfl rfl) rfl (by decide) ?_
    refine wv (vpF rfl) ?_
    refine wa (nt' (Qj ?_))
    exact rtb (h := Qc g18 (Qc g20 (Qc g22 (rfl))))
   have g22 : (x1.Died != (-1)) = true := bne_iff_ne.2 h21
   refine wg (vf Qbe rfl Qh) g22 ?_
   refine wg (vl 0 3 Qt) g22 ?_
   refine wg (vf Qbe rfl Qh) g22 ?_
   refine wg (vl 1 2 Qt) g22 ?_
   refine wg (fun W hm => Qgv rfl rfl) g22 ?_
   refine Qjt (vpT g22) (Qcq rfl rfl rfl rfl) rfl (by decide) ?_
   refine wv (vpF rfl) ?_
   refine wa (nt' (Qj ?_))
   exact rtb (h := Qc g18 (Qc g20 (Qb g22 (rfl))))
  have g20 : (x0.Died != (-1)) = true := bne_iff_ne.2 h19
  refine wg (vf Qbe rfl Qh) g20 ?_
  refine wg (vl 1 3 Qt) g20 ?_
  refine wg (vf Qbe rfl Qh) g20 ?_
  refine wg (vl 0 2 Qt) g20 ?_
  refine wg (fun W hm => Qgv rfl rfl) g20 ?_
  refine wg (vpT g20) g18 ?_
  refine wv (vpF g18) ?_
  refine wm ?_
  by_cases h23 : x0.Died ≤ x1.Born
  ·have g24 := decide_eq_true h23
   refine ws g24 ?_
   refine ws g24 ?_
   refine ws g24 ?_
   refine ws g24 ?_
   refine wu ?_
   refine wu ?_
   refine wu ?_
   refine wu ?_
   refine wu ?_
   refine ws g24 ?_
   refine wv (vpT g24) ?_
   refine wa (nt' (Qj ?_))
   exact rtb (h := Qc g18 (Qb g20 (Qb g24 (rfl))))
  have g24 := decide_eq_false h23
  refine wg (vf Qbe rfl Qh) g24 ?_
  refine wg (vl 0 3 Qt) g24 ?_
  refine wg Qcf g24 ?_
  refine wg vmv g24 ?_
  by_cases h25 : x1.Died = (-1)
  ·have g26 : (x1.Died != (-1)) = false := by rw [h25]; exact bne_self_eq_false _
   refine ws g26 ?_
   refine ws g26 ?_
   refine ws g26 ?_
   refine ws g26 ?_
   refine ws g26 ?_
   refine wg (vpF g26) g24 ?_
   refine wv (vpF g24) ?_
   refine wa (nt' (Qj ?_))
   exact rtb (h := Qc g18 (Qb g20 (Qc g24 (Qc g26 (rfl)))))
  have g26 : (x1.Died != (-1)) = true := bne_iff_ne.2 h25
  refine wg (vf Qbe rfl Qh) g26 ?_
  refine wg (vl 0 3 Qt) g26 ?_
  refine wg (vf Qbe rfl Qh) g26 ?_
  refine wg (vl 1 2 Qt) g26 ?_
  refine wg (fun W hm => Qgv rfl rfl) g26 ?_
  refine wg (vpT g26) g24 ?_
  refine wv (vpF g24) ?_
  refine wa (nt' (Qj ?_))
  exact rtb (h := Qc g18 (Qb g20 (Qc g24 (Qb g26 (rfl)))))
 have g18 : (x0.Id != x1.Id) = true := bne_iff_ne.2 h17
 refine ws g18 ?_
 refine ws g18 ?_
 refine ws g18 ?_
 refine ws g18 ?_
 refine wu ?_
 refine wu ?_
 refine wu ?_
 refine wu ?_
 refine wu ?_
 refine ws g18 ?_
 refine wv (vpT g18) ?_
 refine wm ?_
 refine wk ?_
 refine wk ?_
 refine wk ?_
 refine wk ?_
 refine wu ?_
 refine wu ?_
 refine wu ?_
 refine wu ?_
 refine wu ?_
 refine wk ?_
 refine wv (vpT rfl) ?_
 refine wa (nt' (Qj ?_))
 exact rtb (h := Qb g18 (rfl))

def Qacn (x0 : Qx) (k42 : Nat) (k62 : Nat) : Bool ⊕ (Unit) :=
 cond (Qkg (gt (Qct x0) k42) (gt (Qct x0) k62)) (Sum.inr ()) (Sum.inl false)
def Qsg (x0 : Qx) (k42 : Nat) : Bool ⊕ (Unit) :=
 cond (Qho (gt (Qct x0) k42) x0.Now) (Sum.elim Sum.inl (fun (s : Unit) => Sum.inr ()) (rng (R := Bool) (fun k (_ : Unit) => Qacn x0 k42 k) (k42 - 0) 0 ())) (Sum.inl false)
def Qqm (x0 : Qx) (k14 : Nat) : Bool ⊕ (Unit) :=
 cond (decide (4 < ((((gt x0.Segments k14)).length : Nat) : Int))) (Sum.inl false) (Sum.inr ())
def Qhd (x0 : Qx) : Bool :=
 cond (Qbt ((x0.Segments.length : Nat) : Int) 1 8) (cond (Qbt x0.Now 0 100000) (Sum.elim id (fun (s1_ : Unit) => Sum.elim id (fun (s : Unit) => true) (rng (R := Bool) (fun k (_ : Unit) => Qsg x0 k) ((Qct x0).length - 0) 0 ())) (rng (R := Bool) (fun k (_ : Unit) => Qqm x0 k) (x0.Segments.length - 0) 0 ())) false) false
theorem Qarp {x0 : Qx} (h : ((x0.Segments.length : Nat) : Int) ≤ 8) (hE : rng (R := Bool) (fun k (_ : Unit) => Qqm x0 k) (x0.Segments.length - 0) 0 () = .inr ()) : (x0.Segments.map List.length).sum ≤ 68719476736 := by
 have h1 := Qwy (w := List.length) (c := 4) (xs := x0.Segments) fun j hj => by
  have h2 := Qabx _ _ hE j (Nat.zero_le _) (by omega)
  unfold Qqm at h2
  by_cases h3 : 4 < ((gt x0.Segments j).length : Int)
  ·rw [decide_eq_true h3] at h2; cases h2
  omega
 omega
theorem Qtj : Cb Tryz.prog 151 := ⟨f151, _, func151, rfl, by decide⟩
theorem Qwg (w : World) (z0 : List Value) (x0 : Qx) (r_0 : Qcz.rd w w.heap.size z0 x0) (s_0 : Qfl 68719476736 x0) :
  Calls Tryz.prog 151 #[.agg z0.toArray] w fun e w' => e = .returned (.bool (Qhd x0)) ∧ Below w.heap.size w w' := by
 obtain ⟨v1, rfl, r2⟩ := Qgy r_0
 obtain ⟨m3, A4, c5, rfl, q6, r7⟩ := Qk r2
 have l8 : x0.Segments.length ≤ 68719476736 := s_0.1
 refine ce1 (L := [(0, .agg #[.slice A4 x0.Segments.length c5, .int .i64 x0.Now])]) (N := 63) func151 ?_
 refine sr ?_
 refine Qbj rfl (Qo rfl) (by decide) (fun p9 => ?_)
 refine wa (nt' (Qf (sr ?_)))
 refine wv (vf Qaf rfl Qcu) ?_
 refine wv (vl 0 0 Qas) ?_
 refine wv (Qai Qas) ?_
 refine wcv (Qr Qep rfl) (fun W hm => Qer W ((x0.Segments.length : Nat) : Int) 1 8) ?_
 refine wv Qbr ?_
 refine wm ?_
 rcases Bool.eq_false_or_eq_true (Qbt ((x0.Segments.length : Nat) : Int) 1 8) with g11 | g11
 ·
  have hw := Qev g11
  refine wg (vf Qaf rfl Qh) (nt g11) ?_
  refine wg (vl 0 1 Qt) (nt g11) ?_
  refine Qdm (Qr Qep rfl) (fun W hm => Qer W x0.Now 0 100000) (Qcq rfl rfl rfl (bw (nt g11) rfl)) (by decide) ?_
  refine wg Qbr (nt g11) ?_
  refine wv (vpF (nt g11)) ?_
  refine nt' ?_
  rcases Bool.eq_false_or_eq_true (Qbt x0.Now 0 100000) with g13 | g13
  ·
   have hw := Qev g13
   refine Qp rfl (nt g13) ?_
   refine Qq (Qi (Qf (sr (wa (nt' (Qab ?_))))))
   let F1 := fun k (_ : Unit) => Qqm x0 k
   let R4 := rng (R := Bool) F1
   let I7 : It := Qa p9 42 [.slice A4 x0.Segments.length c5, .int .i64 x0.Now]
   refine Qbl (σ := Nat × (Unit) × (Unit)) (fun s => [(1, .pointer (some (⟨p9, 0, none⟩ : Addr))), (3, .int .i64 ((s.1 : Nat) : Int))]) (fun s => [I7]) (fun s => s.1 ≤ x0.Segments.length ∧ R4 (x0.Segments.length - s.1) s.1 s.2.1 = R4 (x0.Segments.length - 0) 0 ()) (fun s => x0.Segments.length - s.1) (0, (), ()) sl2 (fun W hm => hm) ⟨(by omega), rfl⟩ ?_
   rintro ⟨k14, ⟨⟩, ⟨⟩⟩ H17
   obtain ⟨hk15, hF16⟩ : k14 ≤ x0.Segments.length ∧ R4 (x0.Segments.length - k14) k14 () = R4 (x0.Segments.length - 0) 0 () := H17
   show CM Tryz.prog 63 _ _ _ _ [(1, .pointer (some (⟨p9, 0, none⟩ : Addr))), (3, .int .i64 ((k14 : Nat) : Int))] [I7]
   refine Qf (sr (wm ?_))
   refine wv (vf Qaf rfl Qcu) ?_
   refine wv (vl 0 0 Qas) ?_
   refine wv (Qai Qas) ?_
   refine wv Qak ?_
   refine nt' ?_
   by_cases hl18 : k14 < x0.Segments.length
   ·have g19 := dlT hl18
    refine Ql rfl g19 ?_
    refine Qq (Qi (Qf (Qab (sr ?_))))
    refine wv (vf Qaf rfl Qcu) ?_
    refine wv (vl 0 0 Qas) ?_
    refine wm ?_
    obtain ⟨a20, rfl, hb21, he22⟩ := q6 (by omega)
    refine wv (vix 1 k14 Qas Qda) ?_
    obtain ⟨_, e24, hc23⟩ := he22 k14 _ (Qca (show k14 < x0.Segments.length from by omega))
    have l25 : (gt x0.Segments k14).length ≤ 68719476736 := (s_0.2 _ (Qbh (show k14 < x0.Segments.length from by omega))).1
    obtain ⟨v26, rfl, r27⟩ := e24
    obtain ⟨m28, A29, c30, rfl, q31, r32⟩ := Qk r27
    refine wv (fun W hm => Qaw Qav rfl rfl ((hm.cell0 (show (a20.add (k14 * 1)).block < w.heap.size from by rw [Qah]; exact hb21.1)).trans (hc23 0 _ rfl))) ?_
    refine wv (Qai Qav) ?_
    refine wv (fun W hm => Qfy rfl rfl) ?_
    refine nt' ?_
    by_cases h33 : 4 < ((((gt x0.Segments k14)).length : Nat) : Int)
    ·have g34 := decide_eq_true h33
     refine Ql rfl g34 ?_
     refine sr (wa (nt' (Qj (Qy (Qe (Qe (Qy (Qe ?_))))))))
     exact rtb (h := Qb g11 (Qb g13 (Qba (Qbc (body := F1) (k := k14) (s := ()) (show k14 < x0.Segments.length from by omega) (Qb g34 (rfl)) hF16) rfl)))
    have g34 := decide_eq_false h33
    refine Qp rfl g34 ?_
    refine Qq (Qax (Qi (Qad (wm ?_))))
    refine wv (Qbd k14 1 (by omega)) ?_
    refine wa (Qal ?_)
    have hn35 := Qbb (R := Bool) (body := F1) (k := k14) (s := ()) (s' := ()) (show k14 < x0.Segments.length from by omega) (Qc g34 (rfl)) hF16
    exact Qaz (k14 + 1, (), ()) sl2 (fun W hm => hm) ⟨(by omega), hn35⟩ (rl (by omega))
   have g19 := dlF hl18
   refine Qp rfl g19 ?_
   refine Qbk (Qac (Qac ?_))
   have hE36 : R4 (x0.Segments.length - 0) 0 () = Sum.inr () := Qbn hl18 hF16
   have HQ := Qarp (by omega) hE36
   refine Qbm (Qi (sr ?_))
   refine wv (fun W hm => Qz (cs := [.slice A4 x0.Segments.length c5, .int .i64 x0.Now]) Qaf Qae rfl rfl (hm.boxCells (n := 0) rfl)) ?_
   refine Qqy (χ := Value) (val := fun x => x) (js := fun x => (Qd (tSl (Qfh Qm w w.heap.size) 191) [x] (Qct x0) :: [I7])) (Qr Qahs rfl) (fun W hm => Qasf w.heap.size w [I7] W _ x0 (Qeg r7) s_0 (HQ) hm) (Qo rfl) (by decide) (fun v37 => ?_)
   refine Qs (n := 0) rfl ?_
   rintro A38 c39 rfl m40
   refine wa (nt' (Qf (sr (wa (nt' (Qab ?_))))))
   let F2 := fun k (_ : Unit) => Qsg x0 k
   let R5 := rng (R := Bool) F2
   let I8 : It := Qd (tSl (Qfh Qm w w.heap.size) 191) [.slice A38 (Qct x0).length c39] (Qct x0)
   refine Qbl (σ := Nat × (Unit) × (Unit)) (fun s => [(1, .pointer (some (⟨p9, 0, none⟩ : Addr))), (4, .slice A38 (Qct x0).length c39), (5, .int .i64 ((s.1 : Nat) : Int))]) (fun s => [I8, I7]) (fun s => s.1 ≤ (Qct x0).length ∧ R5 ((Qct x0).length - s.1) s.1 s.2.1 = R5 ((Qct x0).length - 0) 0 ()) (fun s => (Qct x0).length - s.1) (0, (), ()) sl3 (fun W hm => hm) ⟨(by omega), rfl⟩ ?_
   rintro ⟨k42, ⟨⟩, ⟨⟩⟩ H45
   obtain ⟨hk43, hF44⟩ : k42 ≤ (Qct x0).length ∧ R5 ((Qct x0).length - k42) k42 () = R5 ((Qct x0).length - 0) 0 () := H45
   show CM Tryz.prog 63 _ _ _ _ [(1, .pointer (some (⟨p9, 0, none⟩ : Addr))), (4, .slice A38 (Qct x0).length c39), (5, .int .i64 ((k42 : Nat) : Int))] [I8, I7]
   refine Qf (sr (wm (wm ?_)))
   refine wv (Qai Qav) ?_
   refine wv Qak ?_
   refine nt' ?_
   by_cases hl46 : k42 < (Qct x0).length
   ·have g47 := dlT hl46
    refine Ql rfl g47 ?_
    refine Qq (Qi (Qf (Qab (Qf (Qf ?_)))))
    refine Qod (n := 0) rfl (by omega) ?_
    rintro g48 rfl
    refine Qxm (T := Qm) (wb := w) (Bb := w.heap.size) (e := 191) (g := g48) (n := (Qct x0).length) (c := c39) (xs := (Qct x0)) (js := [I7]) (fun W hm => hm) ?_
    rintro ck49 rk50
    refine Qge (by kernel_rfl) (by kernel_rfl) ?_
    refine qm (qm ?_)
    refine qv (vix 4 k42 Qav Qar) ?_
    obtain ⟨_, e51, hc52⟩ := rk50.get (j := k42) (by omega)
    obtain ⟨v53, rfl, r54⟩ := Qfm e51
    obtain ⟨m55, A56, c57, rfl, q58, r59⟩ := Qk r54
    refine qv (fun W hm => Qz (cs := [.int .i64 ((gt (Qct x0) k42).Id), .slice A56 ((gt (Qct x0) k42).Values).length c57, .int .i64 ((gt (Qct x0) k42).Born), .int .i64 ((gt (Qct x0) k42).Died)]) Qbe Qar rfl rfl (hm.rowCells (i := 0) rfl hc52)) ?_
    refine qv (vf Qaf rfl Qh) ?_
    refine qv (vl 1 1 Qt) ?_
    refine Qfu (Qr Qaht rfl) (fun W hm => Qasn W _ (gt (Qct x0) k42) x0.Now (Qgz (x := (gt (Qct x0) k42)) (hm.rdS0 r59))) (Qo rfl) (by decide) ?_
    refine qv Qbr ?_
    refine nq' ?_
    rcases Bool.eq_false_or_eq_true (Qho (gt (Qct x0) k42) x0.Now) with g61 | g61
    ·
     refine Qp rfl (nt g61) ?_
     refine Qq (Qi (sr (wa (nt' (Qab ?_)))))
     refine Qdf (fun W hm => Mem.hide rk50 hm) ?_
     let F3 := fun k (_ : Unit) => Qacn x0 k42 k
     let R6 := rng (R := Bool) F3
     let I9 : It := Qd (tSl (Qfh Qm w w.heap.size) 191) [.slice (some ⟨g48, 0, none⟩) (Qct x0).length c39] (Qct x0)
     refine Qbl (σ := Nat × (Unit) × (Unit)) (fun s => [(1, .pointer (some (⟨p9, 0, none⟩ : Addr))), (4, .slice (some ⟨g48, 0, none⟩) (Qct x0).length c39), (5, .int .i64 ((k42 : Nat) : Int)), (6, .int .i64 ((s.1 : Nat) : Int))]) (fun s => [I9, I7]) (fun s => s.1 ≤ k42 ∧ R6 (k42 - s.1) s.1 s.2.1 = R6 (k42 - 0) 0 ()) (fun s => k42 - s.1) (0, (), ()) sl4 (fun W hm => hm) ⟨(by omega), rfl⟩ ?_
     rintro ⟨k62, ⟨⟩, ⟨⟩⟩ H65
     obtain ⟨hk63, hF64⟩ : k62 ≤ k42 ∧ R6 (k42 - k62) k62 () = R6 (k42 - 0) 0 () := H65
     show CM Tryz.prog 63 _ _ _ _ [(1, .pointer (some (⟨p9, 0, none⟩ : Addr))), (4, .slice (some ⟨g48, 0, none⟩) (Qct x0).length c39), (5, .int .i64 ((k42 : Nat) : Int)), (6, .int .i64 ((k62 : Nat) : Int))] [I9, I7]
     refine Qf (sr (wm (wm ?_)))
     refine wv Qak ?_
     refine nt' ?_
     by_cases hl66 : k62 < k42
     ·have g67 := dlT hl66
      refine Ql rfl g67 ?_
      refine Qq (Qi (Qf (Qab (Qf ?_))))
      refine Qxm (T := Qm) (wb := w) (Bb := w.heap.size) (e := 191) (g := g48) (n := (Qct x0).length) (c := c39) (xs := (Qct x0)) (js := [I7]) (fun W hm => hm) ?_
      rintro ck68 rk69
      refine Qge (by kernel_rfl) (by kernel_rfl) ?_
      refine qm (qm ?_)
      refine qv (vix 4 k42 Qav Qar) ?_
      obtain ⟨_, e70, hc71⟩ := rk69.get (j := k42) (by omega)
      obtain ⟨v72, rfl, r73⟩ := Qfm e70
      obtain ⟨m74, A75, c76, rfl, q77, r78⟩ := Qk r73
      refine qv (fun W hm => Qz (cs := [.int .i64 ((gt (Qct x0) k42).Id), .slice A75 ((gt (Qct x0) k42).Values).length c76, .int .i64 ((gt (Qct x0) k42).Born), .int .i64 ((gt (Qct x0) k42).Died)]) Qbe Qar rfl rfl (hm.rowCells (i := 0) rfl hc71)) ?_
      refine qm (qm ?_)
      refine qv (vix 4 k62 Qav Qar) ?_
      obtain ⟨_, e79, hc80⟩ := rk69.get (j := k62) (by omega)
      obtain ⟨v81, rfl, r82⟩ := Qfm e79
      obtain ⟨m83, A84, c85, rfl, q86, r87⟩ := Qk r82
      refine qv (fun W hm => Qz (cs := [.int .i64 ((gt (Qct x0) k62).Id), .slice A84 ((gt (Qct x0) k62).Values).length c85, .int .i64 ((gt (Qct x0) k62).Born), .int .i64 ((gt (Qct x0) k62).Died)]) Qbe Qar rfl rfl (hm.rowCells (i := 0) rfl hc80)) ?_
      refine Qfu (Qr Qahu rfl) (fun W hm => Qasg W _ (gt (Qct x0) k42) _ (gt (Qct x0) k62) (Qgz (x := (gt (Qct x0) k42)) (hm.rdS0 r78)) (Qgz (x := (gt (Qct x0) k62)) (hm.rdS0 r87))) (Qo rfl) (by decide) ?_
      refine qv Qbr ?_
      refine nq' ?_
      rcases Bool.eq_false_or_eq_true (Qkg (gt (Qct x0) k42) (gt (Qct x0) k62)) with g89 | g89
      ·
       refine Qp rfl (nt g89) ?_
       refine Qq (Qax (Qi (Qad (wm ?_))))
       refine wv (Qbd k62 1 (by omega)) ?_
       refine wa (Qal ?_)
       refine Qdu (fun W hm => Mem.hide rk69 hm) ?_
       have hn90 := Qbb (R := Bool) (body := F3) (k := k62) (s := ()) (s' := ()) (show k62 < k42 from by omega) (Qb g89 (rfl)) hF64
       exact Qaz (k62 + 1, (), ()) sl4 (fun W hm => hm) ⟨(by omega), hn90⟩ (rl (by omega))
      refine Ql rfl (nf g89) ?_
      refine sr (wa (nt' (Qj (Qy (Qe (Qe (Qy (Qy (Qe (Qe (Qy (Qe ?_))))))))))))
      refine Qdu (fun W hm => Mem.hide rk69 hm) ?_
      exact rtb (h := Qb g11 (Qb g13 (Qat hE36 (Qba (Qbc (body := F2) (k := k42) (s := ()) (show k42 < (Qct x0).length from by omega) (Qb g61 (Qba (Qbc (body := F3) (k := k62) (s := ()) (show k62 < k42 from by omega) (Qc g89 (rfl)) hF64) rfl)) hF44) rfl))))
     have g67 := dlF hl66
     refine Qp rfl g67 ?_
     refine Qbk (Qac (Qac ?_))
     have hE91 : R6 (k42 - 0) 0 () = Sum.inr () := Qbn hl66 hF64
     refine Qbm (Qax (Qi (Qad (wm ?_))))
     refine wv (Qbd k42 1 (by omega)) ?_
     refine wa (Qal ?_)
     have hn92 := Qbb (R := Bool) (body := F2) (k := k42) (s := ()) (s' := ()) (show k42 < (Qct x0).length from by omega) (Qb g61 (Qat hE91 (rfl))) hF44
     exact Qaz (k42 + 1, (), ()) sl3 (fun W hm => hm) ⟨(by omega), hn92⟩ (show (Qct x0).length - (k42 + 1) < (Qct x0).length - k42 from by omega)
    refine Ql rfl (nf g61) ?_
    refine sr (wa (nt' (Qj (Qe (Qy (Qe (Qe (Qy (Qe ?_)))))))))
    refine Qdu (fun W hm => Mem.hide rk50 hm) ?_
    exact rtb (h := Qb g11 (Qb g13 (Qat hE36 (Qba (Qbc (body := F2) (k := k42) (s := ()) (show k42 < (Qct x0).length from by omega) (Qc g61 (rfl)) hF44) rfl))))
   have g47 := dlF hl46
   refine Qp rfl g47 ?_
   refine Qbk (Qac (Qac ?_))
   have hE93 : R5 ((Qct x0).length - 0) 0 () = Sum.inr () := Qbn hl46 hF44
   refine Qbm (Qi (sr (wa (nt' (Qj ?_)))))
   exact rtb (h := Qb g11 (Qb g13 (Qat hE36 (Qat hE93 (rfl)))))
  refine Ql rfl (nf g13) ?_
  refine sr (wa (nt' (Qj (Qe ?_))))
  exact rtb (h := Qb g11 (Qc g13 (rfl)))
 refine ws (nf g11) ?_
 refine ws (nf g11) ?_
 refine ws (nf g11) ?_
 refine ws (nf g11) ?_
 refine wv (vpT (nf g11)) ?_
 refine nt' ?_
 refine Ql rfl rfl ?_
 refine sr (wa (nt' (Qj (Qe ?_))))
 exact rtb (h := Qc g11 (rfl))

def Qack (x0 : (List Int)) (x1 : Int) (k6 : Nat) : Bool ⊕ (Unit) :=
 cond ((gt x0 k6) == x1) (Sum.inl true) (Sum.inr ())
def Qqj (x0 : (List Int)) (x1 : Int) : Bool :=
 Sum.elim id (fun (s : Unit) => false) (rng (R := Bool) (fun k (_ : Unit) => Qack x0 x1 k) (x0.length - 0) 0 ())
theorem Qaft : Cb Tryz.prog 116 := ⟨f116, _, func116, rfl, by decide⟩
theorem Qark (w : World) (z0 : Value) (x0 : (List Int)) (x1 : Int) (r_0 : rdS Qg w w.heap.size z0 x0) :
  Calls Tryz.prog 116 #[z0, .int .i64 x1] w fun e w' => e = .returned (.bool (Qqj x0 x1)) ∧ Below w.heap.size w w' := by
 obtain ⟨m1, A2, c3, rfl, q4, r5⟩ := Qk r_0
 refine ce2 (L := [(0, .slice A2 x0.length c3), (1, .int .i64 x1)]) (N := 18) func116 ?_
 refine sr (wa (nt' (Qf (sr (wa (nt' (Qab ?_)))))))
 let F1 := fun k (_ : Unit) => Qack x0 x1 k
 let R2 := rng (R := Bool) F1
 refine Qbl (σ := Nat × (Unit) × (Unit)) (fun s => [(0, .slice A2 x0.length c3), (1, .int .i64 x1), (5, .int .i64 ((s.1 : Nat) : Int))]) (fun s => []) (fun s => s.1 ≤ x0.length ∧ R2 (x0.length - s.1) s.1 s.2.1 = R2 (x0.length - 0) 0 ()) (fun s => x0.length - s.1) (0, (), ()) sl3 (fun W hm => hm) ⟨(by omega), rfl⟩ ?_
 rintro ⟨k6, ⟨⟩, ⟨⟩⟩ H9
 obtain ⟨hk7, hF8⟩ : k6 ≤ x0.length ∧ R2 (x0.length - k6) k6 () = R2 (x0.length - 0) 0 () := H9
 show CM Tryz.prog 18 _ _ _ _ [(0, .slice A2 x0.length c3), (1, .int .i64 x1), (5, .int .i64 ((k6 : Nat) : Int))] []
 refine Qf (sr (wm (wm ?_)))
 refine wv (Qai Qv) ?_
 refine wv Qak ?_
 refine nt' ?_
 by_cases hl10 : k6 < x0.length
 ·have g11 := dlT hl10
  refine Ql rfl g11 ?_
  refine Qq (Qi (Qf (Qab (sr (wm (wm ?_))))))
  obtain ⟨a12, rfl, hb13, he14⟩ := q4 (by omega)
  refine wv (vix 1 k6 Qv Qh) ?_
  refine wv (fun W hm => Qaw Qt rfl rfl ((hm.cell0 (show (a12.add (k6 * 1)).block < w.heap.size from by rw [Qah]; exact hb13.1)).trans (Qex he14 k6 (by omega)))) ?_
  refine wm ?_
  refine wv (fun W hm => Qdj rfl rfl) ?_
  refine nt' ?_
  by_cases h15 : (gt x0 k6) = x1
  ·have g16 := beq_iff_eq.2 h15
   refine Ql rfl g16 ?_
   refine sr (wa (nt' (Qj (Qy (Qe (Qe (Qy (Qe ?_))))))))
   exact rtb (h := Qba (Qbc (body := F1) (k := k6) (s := ()) (show k6 < x0.length from by omega) (Qb g16 (rfl)) hF8) rfl)
  have g16 := beq_eq_false_iff_ne.2 h15
  refine Qp rfl g16 ?_
  refine Qq (Qax (Qi (Qad (wm ?_))))
  refine wv (Qbd k6 1 (by omega)) ?_
  refine wa (Qal ?_)
  have hn17 := Qbb (R := Bool) (body := F1) (k := k6) (s := ()) (s' := ()) (show k6 < x0.length from by omega) (Qc g16 (rfl)) hF8
  exact Qaz (k6 + 1, (), ()) sl3 (fun W hm => hm) ⟨(by omega), hn17⟩ (rl (by omega))
 have g11 := dlF hl10
 refine Qp rfl g11 ?_
 refine Qbk (Qac (Qac ?_))
 have hE18 : R2 (x0.length - 0) 0 () = Sum.inr () := Qbn hl10 hF8
 refine Qbm (Qi (sr (wa (nt' (Qj ?_)))))
 exact rtb (h := Qat hE18 (rfl))

def Qwo (x0 : (List Int)) (k8 : Nat) : Bool ⊕ (Unit) :=
 cond (Qbt (gt x0 k8) 0 2) (cond (Qqj (List.take k8 x0) (gt x0 k8)) (Sum.inl false) (Sum.inr ())) (Sum.inl false)
def Qqp (x0 : (List Int)) : Bool :=
 cond (((x0.length : Nat) : Int) != 3) false (Sum.elim id (fun (s : Unit) => true) (rng (R := Bool) (fun k (_ : Unit) => Qwo x0 k) (x0.length - 0) 0 ()))
theorem Qaga : Cb Tryz.prog 137 := ⟨f137, _, func137, rfl, by decide⟩
theorem Qasc (w : World) (z0 : Value) (x0 : (List Int)) (r_0 : rdS Qg w w.heap.size z0 x0) :
  Calls Tryz.prog 137 #[z0] w fun e w' => e = .returned (.bool (Qqp x0)) ∧ Below w.heap.size w w' := by
 obtain ⟨m1, A2, c3, rfl, q4, r5⟩ := Qk r_0
 refine ce1 (L := [(0, .slice A2 x0.length c3)]) (N := 29) func137 ?_
 refine sr (wa (nt' (Qf (sr (wm ?_)))))
 refine wv (Qai Qv) ?_
 refine wv Qcf ?_
 refine nt' ?_
 by_cases h6 : ((x0.length : Nat) : Int) = 3
 ·have g7 : (((x0.length : Nat) : Int) != 3) = false := by rw [h6]; exact bne_self_eq_false _
  refine Qp rfl g7 ?_
  refine Qq (Qi (Qf (sr (wa (nt' (Qab ?_))))))
  let F1 := fun k (_ : Unit) => Qwo x0 k
  let R2 := rng (R := Bool) F1
  refine Qbl (σ := Nat × (Unit) × (Unit)) (fun s => [(0, .slice A2 x0.length c3), (3, .int .i64 ((s.1 : Nat) : Int))]) (fun s => []) (fun s => s.1 ≤ x0.length ∧ R2 (x0.length - s.1) s.1 s.2.1 = R2 (x0.length - 0) 0 ()) (fun s => x0.length - s.1) (0, (), ()) sl2 (fun W hm => hm) ⟨(by omega), rfl⟩ ?_
  rintro ⟨k8, ⟨⟩, ⟨⟩⟩ H11
  obtain ⟨hk9, hF10⟩ : k8 ≤ x0.length ∧ R2 (x0.length - k8) k8 () = R2 (x0.length - 0) 0 () := H11
  show CM Tryz.prog 29 _ _ _ _ [(0, .slice A2 x0.length c3), (3, .int .i64 ((k8 : Nat) : Int))] []
  refine Qf (sr (wm (wm ?_)))
  refine wv (Qai Qv) ?_
  refine wv Qak ?_
  refine nt' ?_
  by_cases hl12 : k8 < x0.length
  ·have g13 := dlT hl12
   refine Ql rfl g13 ?_
   refine Qq (Qi (Qf (Qab (Qf ?_))))
   refine Qge (by kernel_rfl) (by kernel_rfl) ?_
   refine qm (qm ?_)
   obtain ⟨a14, rfl, hb15, he16⟩ := q4 (by omega)
   refine qv (vix 1 k8 Qv Qh) ?_
   refine qv (fun W hm => Qaw Qt rfl rfl ((hm.cell0 (show (a14.add (k8 * 1)).block < w.heap.size from by rw [Qah]; exact hb15.1)).trans (Qex he16 k8 (by omega)))) ?_
   refine Qfu (Qr Qep rfl) (fun W hm => Qer W (gt x0 k8) 0 2) (Qo rfl) (by decide) ?_
   refine qv Qbr ?_
   refine qm ?_
   rcases Bool.eq_false_or_eq_true (Qbt (gt x0 k8) 0 2) with g18 | g18
   ·
    have hw := Qev g18
    refine qg vmv (nt g18) ?_
    refine qg vmv (nt g18) ?_
    have hc21 := Qapy r5
    have r19 := Qapz (k := k8) (by omega) r5
    refine qg (fun W hm => Qaqx (k := k8) Qv Qh rfl rfl (by omega)) (nt g18) ?_
    refine qg vmv (nt g18) ?_
    refine qg vmv (nt g18) ?_
    refine qg (vix 1 k8 Qv Qh) (nt g18) ?_
    refine qg (fun W hm => Qaw Qt rfl rfl ((hm.cell0 (show (a14.add (k8 * 1)).block < w.heap.size from by rw [Qah]; exact hb15.1)).trans (Qex he16 k8 (by omega)))) (nt g18) ?_
    refine Qfu (Qr Qaft rfl) (fun W hm => Qark W _ (List.take k8 x0) (gt x0 k8) (hm.rdS0 r19)) (Qcq rfl rfl rfl (bw (nt g18) rfl)) (by decide) ?_
    refine qv (vpF (nt g18)) ?_
    refine nq' ?_
    rcases Bool.eq_false_or_eq_true (Qqj (List.take k8 x0) (gt x0 k8)) with g23 | g23
    ·
     refine Ql rfl g23 ?_
     refine sr (wa (nt' (Qj (Qy (Qe (Qe (Qy (Qe ?_))))))))
     exact rtb (h := Qc g7 (Qba (Qbc (body := F1) (k := k8) (s := ()) (show k8 < x0.length from by omega) (Qb g18 (Qb g23 (rfl))) hF10) rfl))
    refine Qp rfl g23 ?_
    refine Qq (Qax (Qi (Qad (wm ?_))))
    refine wv (Qbd k8 1 (by omega)) ?_
    refine wa (Qal ?_)
    have hn24 := Qbb (R := Bool) (body := F1) (k := k8) (s := ()) (s' := ()) (show k8 < x0.length from by omega) (Qb g18 (Qc g23 (rfl))) hF10
    exact Qaz (k8 + 1, (), ()) sl2 (fun W hm => hm) ⟨(by omega), hn24⟩ (rl (by omega))
   refine qs (nf g18) ?_
   refine qs (nf g18) ?_
   refine qs (nf g18) ?_
   refine qs (nf g18) ?_
   refine qs (nf g18) ?_
   refine qs (nf g18) ?_
   refine qs (nf g18) ?_
   refine qs (nf g18) ?_
   refine qv (vpT (nf g18)) ?_
   refine nq' ?_
   refine Ql rfl rfl ?_
   refine sr (wa (nt' (Qj (Qy (Qe (Qe (Qy (Qe ?_))))))))
   exact rtb (h := Qc g7 (Qba (Qbc (body := F1) (k := k8) (s := ()) (show k8 < x0.length from by omega) (Qc g18 (rfl)) hF10) rfl))
  have g13 := dlF hl12
  refine Qp rfl g13 ?_
  refine Qbk (Qac (Qac ?_))
  have hE25 : R2 (x0.length - 0) 0 () = Sum.inr () := Qbn hl12 hF10
  refine Qbm (Qi (sr (wa (nt' (Qj ?_)))))
  exact rtb (h := Qc g7 (Qat hE25 (rfl)))
 have g7 : (((x0.length : Nat) : Int) != 3) = true := bne_iff_ne.2 h6
 refine Ql rfl g7 ?_
 refine sr (wa (nt' (Qj (Qe ?_))))
 exact rtb (h := Qb g7 (rfl))

def Qos (x0 : Qby) : Bool :=
 cond (Qbt x0.Field 0 2) (cond (Qbt x0.Low 0 x0.High) (decide (x0.High ≤ 99)) false) false
theorem Qahh : Cb Tryz.prog 190 := ⟨f190, _, func190, rfl, by decide⟩
theorem Qarm (w : World) (z0 : List Value) (x0 : Qby) (r_0 : Qbz.rd w w.heap.size z0 x0) :
  Calls Tryz.prog 190 #[.agg z0.toArray] w fun e w' => e = .returned (.bool (Qos x0)) ∧ Below w.heap.size w w' := by
 obtain rfl := Qjk r_0
 refine ce1 (L := [(0, .agg #[.int .i64 x0.Field, .int .i64 x0.Low, .int .i64 x0.High])]) (N := 18) func190 ?_
 refine sr ?_
 refine Qbj rfl (Qo rfl) (by decide) (fun p1 => ?_)
 refine wa (nt' (sr ?_))
 refine wv (vf Qei rfl Qh) ?_
 refine wv (vl 0 0 Qt) ?_
 refine wcv (Qr Qep rfl) (fun W hm => Qer W x0.Field 0 2) ?_
 refine wm ?_
 rcases Bool.eq_false_or_eq_true (Qbt x0.Field 0 2) with g3 | g3
 ·
  have hw := Qev g3
  refine wg (vf Qei rfl Qh) g3 ?_
  refine wg (vl 0 1 Qt) g3 ?_
  refine wg (vf Qei rfl Qh) g3 ?_
  refine wg (vl 0 2 Qt) g3 ?_
  refine Qdm (Qr Qep rfl) (fun W hm => Qer W x0.Low 0 x0.High) (Qcq rfl rfl rfl (bw g3 rfl)) (by decide) ?_
  refine wv (vpT g3) ?_
  refine wm ?_
  rcases Bool.eq_false_or_eq_true (Qbt x0.Low 0 x0.High) with g5 | g5
  ·
   have hw := Qev g5
   refine wg (vf Qei rfl Qh) g5 ?_
   refine wg (vl 0 2 Qt) g5 ?_
   refine wg (fun W hm => Qgv rfl rfl) g5 ?_
   refine wv (vpT g5) ?_
   refine wa (nt' (Qj ?_))
   exact rtb (h := Qb g3 (Qb g5 (rfl)))
  refine ws g5 ?_
  refine ws g5 ?_
  refine ws g5 ?_
  refine wv (vpF g5) ?_
  refine wa (nt' (Qj ?_))
  exact rtb (h := Qb g3 (Qc g5 (rfl)))
 refine ws g3 ?_
 refine ws g3 ?_
 refine ws g3 ?_
 refine ws g3 ?_
 refine ws g3 ?_
 refine wv (vpF g3) ?_
 refine wm ?_
 refine wk ?_
 refine wk ?_
 refine wk ?_
 refine wv (vpF rfl) ?_
 refine wa (nt' (Qj ?_))
 exact rtb (h := Qc g3 (rfl))

def Qot (x0 : (List Int)) (k6 : Nat) : Bool ⊕ (Unit) :=
 cond (Qbt (gt x0 k6) 0 2) (Sum.inr ()) (Sum.inl false)
def Qwn (x0 : (List Int)) : Bool :=
 Sum.elim id (fun (s : Unit) => (Qbt ((x0.length : Nat) : Int) 1 3)) (rng (R := Bool) (fun k (_ : Unit) => Qot x0 k) (x0.length - 0) 0 ())
theorem Qahi : Cb Tryz.prog 191 := ⟨f191, _, func191, rfl, by decide⟩
theorem Qasb (w : World) (z0 : Value) (x0 : (List Int)) (r_0 : rdS Qg w w.heap.size z0 x0) :
  Calls Tryz.prog 191 #[z0] w fun e w' => e = .returned (.bool (Qwn x0)) ∧ Below w.heap.size w w' := by
 obtain ⟨m1, A2, c3, rfl, q4, r5⟩ := Qk r_0
 refine ce1 (L := [(0, .slice A2 x0.length c3)]) (N := 19) func191 ?_
 refine sr (wa (nt' (Qf (sr (wa (nt' (Qab ?_)))))))
 let F1 := fun k (_ : Unit) => Qot x0 k
 let R2 := rng (R := Bool) F1
 refine Qbl (σ := Nat × (Unit) × (Unit)) (fun s => [(0, .slice A2 x0.length c3), (3, .int .i64 ((s.1 : Nat) : Int))]) (fun s => []) (fun s => s.1 ≤ x0.length ∧ R2 (x0.length - s.1) s.1 s.2.1 = R2 (x0.length - 0) 0 ()) (fun s => x0.length - s.1) (0, (), ()) sl2 (fun W hm => hm) ⟨(by omega), rfl⟩ ?_
 rintro ⟨k6, ⟨⟩, ⟨⟩⟩ H9
 obtain ⟨hk7, hF8⟩ : k6 ≤ x0.length ∧ R2 (x0.length - k6) k6 () = R2 (x0.length - 0) 0 () := H9
 show CM Tryz.prog 19 _ _ _ _ [(0, .slice A2 x0.length c3), (3, .int .i64 ((k6 : Nat) : Int))] []
 refine Qf (sr (wm (wm ?_)))
 refine wv (Qai Qv) ?_
 refine wv Qak ?_
 refine nt' ?_
 by_cases hl10 : k6 < x0.length
 ·have g11 := dlT hl10
  refine Ql rfl g11 ?_
  refine Qq (Qi (Qf (Qab (sr (wm (wm ?_))))))
  obtain ⟨a12, rfl, hb13, he14⟩ := q4 (by omega)
  refine wv (vix 1 k6 Qv Qh) ?_
  refine wv (fun W hm => Qaw Qt rfl rfl ((hm.cell0 (show (a12.add (k6 * 1)).block < w.heap.size from by rw [Qah]; exact hb13.1)).trans (Qex he14 k6 (by omega)))) ?_
  refine wcv (Qr Qep rfl) (fun W hm => Qer W (gt x0 k6) 0 2) ?_
  refine wv Qbr ?_
  refine nt' ?_
  rcases Bool.eq_false_or_eq_true (Qbt (gt x0 k6) 0 2) with g16 | g16
  ·
   have hw := Qev g16
   refine Qp rfl (nt g16) ?_
   refine Qq (Qax (Qi (Qad (wm ?_))))
   refine wv (Qbd k6 1 (by omega)) ?_
   refine wa (Qal ?_)
   have hn17 := Qbb (R := Bool) (body := F1) (k := k6) (s := ()) (s' := ()) (show k6 < x0.length from by omega) (Qb g16 (rfl)) hF8
   exact Qaz (k6 + 1, (), ()) sl2 (fun W hm => hm) ⟨(by omega), hn17⟩ (rl (by omega))
  refine Ql rfl (nf g16) ?_
  refine sr (wa (nt' (Qj (Qy (Qe (Qe (Qy (Qe ?_))))))))
  exact rtb (h := Qba (Qbc (body := F1) (k := k6) (s := ()) (show k6 < x0.length from by omega) (Qc g16 (rfl)) hF8) rfl)
 have g11 := dlF hl10
 refine Qp rfl g11 ?_
 refine Qbk (Qac (Qac ?_))
 have hE18 : R2 (x0.length - 0) 0 () = Sum.inr () := Qbn hl10 hF8
 refine Qbm (Qi (sr (wm ?_)))
 refine wv (Qai Qv) ?_
 refine wcv (Qr Qep rfl) (fun W hm => Qer W ((x0.length : Nat) : Int) 1 3) ?_
 refine wa (nt' (Qj ?_))
 exact rtb (h := Qat hE18 (rfl))

def Qni (x0 : Qcg) (k16 : Nat) : Bool ⊕ (Unit) :=
 cond (Qos (gt x0.Conds k16)) (cond (decide (0 < ((k16 : Nat) : Int))) (cond (decide (((gt x0.Conds k16).Field) ≤ ((gt x0.Conds (k16 - 1)).Field))) (Sum.inl false) (Sum.inr ())) (Sum.inr ())) (Sum.inl false)
def Qnj (x0 : Qcg) : Bool :=
 Sum.elim id (fun (s : Unit) => cond (Qbt x0.Id 0 23) (cond (Qbt x0.Tenant 0 3) (cond (decide (((x0.Conds.length : Nat) : Int) ≤ 3)) (Qwn x0.Out) false) false) false) (rng (R := Bool) (fun k (_ : Unit) => Qni x0 k) (x0.Conds.length - 0) 0 ())
theorem Qyj : Cb Tryz.prog 127 := ⟨f127, _, func127, rfl, by decide⟩
theorem Qacl (w : World) (z0 : List Value) (x0 : Qcg) (r_0 : Qez.rd w w.heap.size z0 x0) :
  Calls Tryz.prog 127 #[.agg z0.toArray] w fun e w' => e = .returned (.bool (Qnj x0)) ∧ Below w.heap.size w w' := by
 obtain ⟨v1, v3, rfl, r2, r4⟩ := Qpa r_0
 obtain ⟨m5, A6, c7, rfl, q8, r9⟩ := Qk r2
 obtain ⟨m10, A11, c12, rfl, q13, r14⟩ := Qk r4
 refine ce1 (L := [(0, .agg #[.int .i64 x0.Id, .int .i64 x0.Tenant, .slice A6 x0.Conds.length c7, .slice A11 x0.Out.length c12])]) (N := 57) func127 ?_
 refine sr ?_
 refine Qbj rfl (Qo rfl) (by decide) (fun p15 => ?_)
 refine wa (nt' (Qf (sr (wa (nt' (Qab ?_))))))
 let F1 := fun k (_ : Unit) => Qni x0 k
 let R2 := rng (R := Bool) F1
 let K3 : List Value := [.int .i64 x0.Id, .int .i64 x0.Tenant, .slice A6 x0.Conds.length c7, .slice A11 x0.Out.length c12]
 refine Qbl (σ := Nat × (Unit) × (Unit)) (fun s => [(1, .pointer (some (⟨p15, 0, none⟩ : Addr))), (3, .int .i64 ((s.1 : Nat) : Int))]) (fun s => [Qa p15 34 K3]) (fun s => s.1 ≤ x0.Conds.length ∧ R2 (x0.Conds.length - s.1) s.1 s.2.1 = R2 (x0.Conds.length - 0) 0 ()) (fun s => x0.Conds.length - s.1) (0, (), ()) sl2 (fun W hm => hm) ⟨(by omega), rfl⟩ ?_
 rintro ⟨k16, ⟨⟩, ⟨⟩⟩ H19
 obtain ⟨hk17, hF18⟩ : k16 ≤ x0.Conds.length ∧ R2 (x0.Conds.length - k16) k16 () = R2 (x0.Conds.length - 0) 0 () := H19
 show CM Tryz.prog 57 _ _ _ _ [(1, .pointer (some (⟨p15, 0, none⟩ : Addr))), (3, .int .i64 ((k16 : Nat) : Int))] [Qa p15 34 K3]
 refine Qf (sr (wm ?_))
 refine wv (vf Qch rfl type32) ?_
 refine wv (vl 0 2 Qds) ?_
 refine wv (Qai Qds) ?_
 refine wv Qak ?_
 refine nt' ?_
 by_cases hl20 : k16 < x0.Conds.length
 ·have g21 := dlT hl20
  refine Ql rfl g21 ?_
  refine Qq (Qi (Qf (Qab (Qf ?_))))
  refine Qge (by kernel_rfl) (by kernel_rfl) ?_
  refine qv (vf Qch rfl type32) ?_
  refine qv (vl 0 2 Qds) ?_
  refine qm ?_
  obtain ⟨a22, rfl, hb23, he24⟩ := q8 (by omega)
  refine qv (vix 3 k16 Qds Qeh) ?_
  obtain ⟨_, e26, hc25⟩ := he24 k16 _ (Qca (show k16 < x0.Conds.length from by omega))
  obtain rfl := Qjk e26
  refine qv (fun W hm => Qz (cs := [.int .i64 ((gt x0.Conds k16).Field), .int .i64 ((gt x0.Conds k16).Low), .int .i64 ((gt x0.Conds k16).High)]) Qei Qeh rfl rfl (hm.elCells (show (a22.add (k16 * 3)).block < w.heap.size from by rw [Qah]; exact hb23.1) hc25)) ?_
  refine Qfu (Qr Qahh rfl) (fun W hm => Qarm W _ (gt x0.Conds k16) (Qsr (x := (gt x0.Conds k16)))) (Qo rfl) (by decide) ?_
  refine qv Qbr ?_
  refine qm ?_
  rcases Bool.eq_false_or_eq_true (Qos (gt x0.Conds k16)) with g28 | g28
  ·
   refine qg vmv (nt g28) ?_
   refine qg (fun W hm => Qfy rfl rfl) (nt g28) ?_
   refine qg vmv (nt g28) ?_
   by_cases h29 : 0 < ((k16 : Nat) : Int)
   ·have g30 := decide_eq_true h29
    refine qg (vf Qch rfl type32) g30 ?_
    refine qg (vl 0 2 Qds) g30 ?_
    refine qg vmv g30 ?_
    refine qg (vix 3 k16 Qds Qeh) g30 ?_
    refine qg (vf Qei rfl Qh) g30 ?_
    refine qg (fun W hm => Qaw Qt rfl rfl ((hm.cell0 (show ((a22.add (k16 * 3)).add 0).block < w.heap.size from by rw [Qah, Qah]; exact hb23.1)).trans (hc25 0 _ rfl))) g30 ?_
    refine qg (vf Qch rfl type32) g30 ?_
    refine qg (vl 0 2 Qds) g30 ?_
    refine qg vmv g30 ?_
    refine qg (fun W hm => Qml (p := k16) (q := 1) rfl rfl (by omega) (by omega)) g30 ?_
    refine qg (fun W hm => Qkf (sz := 3) (k := k16 - 1) Qds Qeh rfl rfl rfl (by omega)) g30 ?_
    refine qg (vf Qei rfl Qh) g30 ?_
    obtain ⟨_, e32, hc31⟩ := he24 (k16 - 1) _ (Qca (show (k16 - 1) < x0.Conds.length from by omega))
    obtain rfl := Qjk e32
    refine qg (fun W hm => Qaw Qt rfl rfl ((hm.cell0 (show ((a22.add ((k16 - 1) * 3)).add 0).block < w.heap.size from by rw [Qah, Qah]; exact hb23.1)).trans (hc31 0 _ rfl))) g30 ?_
    refine qg (fun W hm => Qgv rfl rfl) g30 ?_
    refine qg (vpT g30) (nt g28) ?_
    refine qv (vpF (nt g28)) ?_
    refine nq' ?_
    by_cases h33 : ((gt x0.Conds k16).Field) ≤ ((gt x0.Conds (k16 - 1)).Field)
    ·have g34 := decide_eq_true h33
     refine Ql rfl g34 ?_
     refine sr (wa (nt' (Qj (Qy (Qe (Qe (Qy (Qe ?_))))))))
     exact rtb (h := Qba (Qbc (body := F1) (k := k16) (s := ()) (show k16 < x0.Conds.length from by omega) (Qb g28 (Qb g30 (Qb g34 (rfl)))) hF18) rfl)
    have g34 := decide_eq_false h33
    refine Qp rfl g34 ?_
    refine Qq (Qax (Qi (Qad (wm ?_))))
    refine wv (Qbd k16 1 (by omega)) ?_
    refine wa (Qal ?_)
    have hn35 := Qbb (R := Bool) (body := F1) (k := k16) (s := ()) (s' := ()) (show k16 < x0.Conds.length from by omega) (Qb g28 (Qb g30 (Qc g34 (rfl)))) hF18
    exact Qaz (k16 + 1, (), ()) sl2 (fun W hm => hm) ⟨(by omega), hn35⟩ (rl (by omega))
   have g30 := decide_eq_false h29
   refine qs g30 ?_
   refine qs g30 ?_
   refine qs g30 ?_
   refine qs g30 ?_
   refine qs g30 ?_
   refine qs g30 ?_
   refine qs g30 ?_
   refine qs g30 ?_
   refine qs g30 ?_
   refine qs g30 ?_
   refine qs g30 ?_
   refine qs g30 ?_
   refine qs g30 ?_
   refine qs g30 ?_
   refine qg (vpF g30) (nt g28) ?_
   refine qv (vpF (nt g28)) ?_
   refine nq' ?_
   refine Qp rfl rfl ?_
   refine Qq (Qax (Qi (Qad (wm ?_))))
   refine wv (Qbd k16 1 (by omega)) ?_
   refine wa (Qal ?_)
   have hn36 := Qbb (R := Bool) (body := F1) (k := k16) (s := ()) (s' := ()) (show k16 < x0.Conds.length from by omega) (Qb g28 (Qc g30 (rfl))) hF18
   exact Qaz (k16 + 1, (), ()) sl2 (fun W hm => hm) ⟨(by omega), hn36⟩ (rl (by omega))
  refine qs (nf g28) ?_
  refine qs (nf g28) ?_
  refine qs (nf g28) ?_
  refine qu ?_
  refine qu ?_
  refine qu ?_
  refine qu ?_
  refine qu ?_
  refine qu ?_
  refine qu ?_
  refine qu ?_
  refine qu ?_
  refine qu ?_
  refine qu ?_
  refine qu ?_
  refine qu ?_
  refine qu ?_
  refine qs (nf g28) ?_
  refine qv (vpT (nf g28)) ?_
  refine nq' ?_
  refine Ql rfl rfl ?_
  refine sr (wa (nt' (Qj (Qy (Qe (Qe (Qy (Qe ?_))))))))
  exact rtb (h := Qba (Qbc (body := F1) (k := k16) (s := ()) (show k16 < x0.Conds.length from by omega) (Qc g28 (rfl)) hF18) rfl)
 have g21 := dlF hl20
 refine Qp rfl g21 ?_
 refine Qbk (Qac (Qac ?_))
 have hE37 : R2 (x0.Conds.length - 0) 0 () = Sum.inr () := Qbn hl20 hF18
 refine Qbm (Qi (sr ?_))
 refine wv (vf Qch rfl Qh) ?_
 refine wv (vl 0 0 Qt) ?_
 refine wcv (Qr Qep rfl) (fun W hm => Qer W x0.Id 0 23) ?_
 refine wm ?_
 rcases Bool.eq_false_or_eq_true (Qbt x0.Id 0 23) with g39 | g39
 ·
  have hw := Qev g39
  refine wg (vf Qch rfl Qh) g39 ?_
  refine wg (vl 0 1 Qt) g39 ?_
  refine Qdm (Qr Qep rfl) (fun W hm => Qer W x0.Tenant 0 3) (Qcq rfl rfl rfl (bw g39 rfl)) (by decide) ?_
  refine wv (vpT g39) ?_
  refine wm ?_
  rcases Bool.eq_false_or_eq_true (Qbt x0.Tenant 0 3) with g41 | g41
  ·
   have hw := Qev g41
   refine wg (vf Qch rfl type32) g41 ?_
   refine wg (vl 0 2 Qds) g41 ?_
   refine wg (Qai Qds) g41 ?_
   refine wg (fun W hm => Qgv rfl rfl) g41 ?_
   refine wv (vpT g41) ?_
   refine wm ?_
   by_cases h42 : ((x0.Conds.length : Nat) : Int) ≤ 3
   ·have g43 := decide_eq_true h42
    refine wg (vf Qch rfl Qap) g43 ?_
    refine wg (vl 0 3 Qv) g43 ?_
    refine Qdm (Qr Qahi rfl) (fun W hm => Qasb W _ x0.Out (hm.rdS0 r14)) (Qcq rfl rfl rfl (bw g43 rfl)) (by decide) ?_
    refine wv (vpT g43) ?_
    refine wa (nt' (Qj ?_))
    exact rtb (h := Qat hE37 (Qb g39 (Qb g41 (Qb g43 (rfl)))))
   have g43 := decide_eq_false h42
   refine ws g43 ?_
   refine ws g43 ?_
   refine ws g43 ?_
   refine wv (vpF g43) ?_
   refine wa (nt' (Qj ?_))
   exact rtb (h := Qat hE37 (Qb g39 (Qb g41 (Qc g43 (rfl)))))
  refine ws g41 ?_
  refine ws g41 ?_
  refine ws g41 ?_
  refine ws g41 ?_
  refine wv (vpF g41) ?_
  refine wm ?_
  refine wk ?_
  refine wk ?_
  refine wk ?_
  refine wv (vpF rfl) ?_
  refine wa (nt' (Qj ?_))
  exact rtb (h := Qat hE37 (Qb g39 (Qc g41 (rfl))))
 refine ws g39 ?_
 refine ws g39 ?_
 refine ws g39 ?_
 refine wv (vpF g39) ?_
 refine wm ?_
 refine wk ?_
 refine wk ?_
 refine wk ?_
 refine wk ?_
 refine wv (vpF rfl) ?_
 refine wm ?_
 refine wk ?_
 refine wk ?_
 refine wk ?_
 refine wv (vpF rfl) ?_
 refine wa (nt' (Qj ?_))
 exact rtb (h := Qat hE37 (Qc g39 (rfl)))

def Qqs (x0 : (List Int)) (x1 : Int) (k6 : Nat) : Bool ⊕ (Unit) :=
 cond (Qbt (gt x0 k6) 0 (IntKind.i64.wrap (x1 - 1))) (cond (decide (0 < ((k6 : Nat) : Int))) (cond (decide ((gt x0 k6) ≤ (gt x0 (k6 - 1)))) (Sum.inl false) (Sum.inr ())) (Sum.inr ())) (Sum.inl false)
def Qso (x0 : (List Int)) (x1 : Int) : Bool :=
 Sum.elim id (fun (s : Unit) => (decide (0 < ((x0.length : Nat) : Int)))) (rng (R := Bool) (fun k (_ : Unit) => Qqs x0 x1 k) (x0.length - 0) 0 ())
theorem Qahv : Cb Tryz.prog 208 := ⟨f208, _, func208, rfl, by decide⟩
theorem Qasx (w : World) (z0 : Value) (x0 : (List Int)) (x1 : Int) (r_0 : rdS Qg w w.heap.size z0 x0) :
  Calls Tryz.prog 208 #[z0, .int .i64 x1] w fun e w' => e = .returned (.bool (Qso x0 x1)) ∧ Below w.heap.size w w' := by
 obtain ⟨m1, A2, c3, rfl, q4, r5⟩ := Qk r_0
 refine ce2 (L := [(0, .slice A2 x0.length c3), (1, .int .i64 x1)]) (N := 39) func208 ?_
 refine sr (wa (nt' (Qf (sr (wa (nt' (Qab ?_)))))))
 let F1 := fun k (_ : Unit) => Qqs x0 x1 k
 let R2 := rng (R := Bool) F1
 refine Qbl (σ := Nat × (Unit) × (Unit)) (fun s => [(0, .slice A2 x0.length c3), (1, .int .i64 x1), (5, .int .i64 ((s.1 : Nat) : Int))]) (fun s => []) (fun s => s.1 ≤ x0.length ∧ R2 (x0.length - s.1) s.1 s.2.1 = R2 (x0.length - 0) 0 ()) (fun s => x0.length - s.1) (0, (), ()) sl3 (fun W hm => hm) ⟨(by omega), rfl⟩ ?_
 rintro ⟨k6, ⟨⟩, ⟨⟩⟩ H9
 obtain ⟨hk7, hF8⟩ : k6 ≤ x0.length ∧ R2 (x0.length - k6) k6 () = R2 (x0.length - 0) 0 () := H9
 show CM Tryz.prog 39 _ _ _ _ [(0, .slice A2 x0.length c3), (1, .int .i64 x1), (5, .int .i64 ((k6 : Nat) : Int))] []
 refine Qf (sr (wm (wm ?_)))
 refine wv (Qai Qv) ?_
 refine wv Qak ?_
 refine nt' ?_
 by_cases hl10 : k6 < x0.length
 ·have g11 := dlT hl10
  refine Ql rfl g11 ?_
  refine Qq (Qi (Qf (Qab (Qf ?_))))
  refine Qge (by kernel_rfl) (by kernel_rfl) ?_
  refine qm (qm ?_)
  obtain ⟨a12, rfl, hb13, he14⟩ := q4 (by omega)
  refine qv (vix 1 k6 Qv Qh) ?_
  refine qv (fun W hm => Qaw Qt rfl rfl ((hm.cell0 (show (a12.add (k6 * 1)).block < w.heap.size from by rw [Qah]; exact hb13.1)).trans (Qex he14 k6 (by omega)))) ?_
  refine qm ?_
  refine qv (fun W hm => Qhw rfl rfl) ?_
  refine Qfu (Qr Qep rfl) (fun W hm => Qer W (gt x0 k6) 0 (IntKind.i64.wrap (x1 - 1))) (Qo rfl) (by decide) ?_
  refine qv Qbr ?_
  refine qm ?_
  rcases Bool.eq_false_or_eq_true (Qbt (gt x0 k6) 0 (IntKind.i64.wrap (x1 - 1))) with g16 | g16
  ·
   have hw := Qev g16
   refine qg vmv (nt g16) ?_
   refine qg (fun W hm => Qfy rfl rfl) (nt g16) ?_
   refine qg vmv (nt g16) ?_
   by_cases h17 : 0 < ((k6 : Nat) : Int)
   ·have g18 := decide_eq_true h17
    refine qg vmv g18 ?_
    refine qg vmv g18 ?_
    refine qg (vix 1 k6 Qv Qh) g18 ?_
    refine qg (fun W hm => Qaw Qt rfl rfl ((hm.cell0 (show (a12.add (k6 * 1)).block < w.heap.size from by rw [Qah]; exact hb13.1)).trans (Qex he14 k6 (by omega)))) g18 ?_
    refine qg vmv g18 ?_
    refine qg vmv g18 ?_
    refine qg (fun W hm => Qml (p := k6) (q := 1) rfl rfl (by omega) (by omega)) g18 ?_
    refine qg (fun W hm => Qkf (sz := 1) (k := k6 - 1) Qv Qh rfl rfl rfl (by omega)) g18 ?_
    refine qg (fun W hm => Qaw Qt rfl rfl ((hm.cell0 (show (a12.add ((k6 - 1) * 1)).block < w.heap.size from by rw [Qah]; exact hb13.1)).trans (Qex he14 (k6 - 1) (by omega)))) g18 ?_
    refine qg (fun W hm => Qgv rfl rfl) g18 ?_
    refine qg (vpT g18) (nt g16) ?_
    refine qv (vpF (nt g16)) ?_
    refine nq' ?_
    by_cases h19 : (gt x0 k6) ≤ (gt x0 (k6 - 1))
    ·have g20 := decide_eq_true h19
     refine Ql rfl g20 ?_
     refine sr (wa (nt' (Qj (Qy (Qe (Qe (Qy (Qe ?_))))))))
     exact rtb (h := Qba (Qbc (body := F1) (k := k6) (s := ()) (show k6 < x0.length from by omega) (Qb g16 (Qb g18 (Qb g20 (rfl)))) hF8) rfl)
    have g20 := decide_eq_false h19
    refine Qp rfl g20 ?_
    refine Qq (Qax (Qi (Qad (wm ?_))))
    refine wv (Qbd k6 1 (by omega)) ?_
    refine wa (Qal ?_)
    have hn21 := Qbb (R := Bool) (body := F1) (k := k6) (s := ()) (s' := ()) (show k6 < x0.length from by omega) (Qb g16 (Qb g18 (Qc g20 (rfl)))) hF8
    exact Qaz (k6 + 1, (), ()) sl3 (fun W hm => hm) ⟨(by omega), hn21⟩ (rl (by omega))
   have g18 := decide_eq_false h17
   refine qs g18 ?_
   refine qs g18 ?_
   refine qs g18 ?_
   refine qs g18 ?_
   refine qs g18 ?_
   refine qs g18 ?_
   refine qs g18 ?_
   refine qs g18 ?_
   refine qs g18 ?_
   refine qs g18 ?_
   refine qg (vpF g18) (nt g16) ?_
   refine qv (vpF (nt g16)) ?_
   refine nq' ?_
   refine Qp rfl rfl ?_
   refine Qq (Qax (Qi (Qad (wm ?_))))
   refine wv (Qbd k6 1 (by omega)) ?_
   refine wa (Qal ?_)
   have hn22 := Qbb (R := Bool) (body := F1) (k := k6) (s := ()) (s' := ()) (show k6 < x0.length from by omega) (Qb g16 (Qc g18 (rfl))) hF8
   exact Qaz (k6 + 1, (), ()) sl3 (fun W hm => hm) ⟨(by omega), hn22⟩ (rl (by omega))
  refine qs (nf g16) ?_
  refine qs (nf g16) ?_
  refine qs (nf g16) ?_
  refine qu ?_
  refine qu ?_
  refine qu ?_
  refine qu ?_
  refine qu ?_
  refine qu ?_
  refine qu ?_
  refine qu ?_
  refine qu ?_
  refine qu ?_
  refine qs (nf g16) ?_
  refine qv (vpT (nf g16)) ?_
  refine nq' ?_
  refine Ql rfl rfl ?_
  refine sr (wa (nt' (Qj (Qy (Qe (Qe (Qy (Qe ?_))))))))
  exact rtb (h := Qba (Qbc (body := F1) (k := k6) (s := ()) (show k6 < x0.length from by omega) (Qc g16 (rfl)) hF8) rfl)
 have g11 := dlF hl10
 refine Qp rfl g11 ?_
 refine Qbk (Qac (Qac ?_))
 have hE23 : R2 (x0.length - 0) 0 () = Sum.inr () := Qbn hl10 hF8
 refine Qbm (Qi (sr (wm ?_)))
 refine wv (Qai Qv) ?_
 refine wv (fun W hm => Qfy rfl rfl) ?_
 refine wa (nt' (Qj ?_))
 exact rtb (h := Qat hE23 (rfl))

def Qqr (x0 : (List Qaj)) (k6 : Nat) : Bool ⊕ (Unit) :=
 cond (Qgx (gt x0 k6)) (Sum.inr ()) (Sum.inl false)
def Qov (x0 : (List Qaj)) : Bool :=
 Sum.elim id (fun (s : Unit) => (decide (((x0.length : Nat) : Int) ≤ 1000))) (rng (R := Bool) (fun k (_ : Unit) => Qqr x0 k) (x0.length - 0) 0 ())
theorem Qyp : Cb Tryz.prog 153 := ⟨f153, _, func153, rfl, by decide⟩
theorem Qacs (w : World) (z0 : Value) (x0 : (List Qaj)) (r_0 : rdS Qbp w w.heap.size z0 x0) :
  Calls Tryz.prog 153 #[z0] w fun e w' => e = .returned (.bool (Qov x0)) ∧ Below w.heap.size w w' := by
 obtain ⟨m1, A2, c3, rfl, q4, r5⟩ := Qk r_0
 refine ce1 (L := [(0, .slice A2 x0.length c3)]) (N := 19) func153 ?_
 refine sr (wa (nt' (Qf (sr (wa (nt' (Qab ?_)))))))
 let F1 := fun k (_ : Unit) => Qqr x0 k
 let R2 := rng (R := Bool) F1
 refine Qbl (σ := Nat × (Unit) × (Unit)) (fun s => [(0, .slice A2 x0.length c3), (3, .int .i64 ((s.1 : Nat) : Int))]) (fun s => []) (fun s => s.1 ≤ x0.length ∧ R2 (x0.length - s.1) s.1 s.2.1 = R2 (x0.length - 0) 0 ()) (fun s => x0.length - s.1) (0, (), ()) sl2 (fun W hm => hm) ⟨(by omega), rfl⟩ ?_
 rintro ⟨k6, ⟨⟩, ⟨⟩⟩ H9
 obtain ⟨hk7, hF8⟩ : k6 ≤ x0.length ∧ R2 (x0.length - k6) k6 () = R2 (x0.length - 0) 0 () := H9
 show CM Tryz.prog 19 _ _ _ _ [(0, .slice A2 x0.length c3), (3, .int .i64 ((k6 : Nat) : Int))] []
 refine Qf (sr (wm (wm ?_)))
 refine wv (Qai Qdv) ?_
 refine wv Qak ?_
 refine nt' ?_
 by_cases hl10 : k6 < x0.length
 ·have g11 := dlT hl10
  refine Ql rfl g11 ?_
  refine Qq (Qi (Qf (Qab (sr (wm (wm ?_))))))
  obtain ⟨a12, rfl, hb13, he14⟩ := q4 (by omega)
  refine wv (vix 2 k6 Qdv Qcc) ?_
  obtain ⟨_, e18, hc15⟩ := he14 k6 _ (Qca (show k6 < x0.length from by omega))
  obtain ⟨v16, rfl, r17⟩ := Qin e18
  obtain ⟨m19, A20, c21, rfl, q22, r23⟩ := Qk r17
  refine wv (fun W hm => Qz (cs := [.int .i64 ((gt x0 k6).Id), .slice A20 ((gt x0 k6).Values).length c21]) Qde Qcc rfl rfl (hm.elCells (show (a12.add (k6 * 2)).block < w.heap.size from by rw [Qah]; exact hb13.1) hc15)) ?_
  refine wcv (Qr Qtm rfl) (fun W hm => Qwf W _ (gt x0 k6) (Qim (x := (gt x0 k6)) (hm.rdS0 r23))) ?_
  refine wv Qbr ?_
  refine nt' ?_
  rcases Bool.eq_false_or_eq_true (Qgx (gt x0 k6)) with g25 | g25
  ·
   refine Qp rfl (nt g25) ?_
   refine Qq (Qax (Qi (Qad (wm ?_))))
   refine wv (Qbd k6 1 (by omega)) ?_
   refine wa (Qal ?_)
   have hn26 := Qbb (R := Bool) (body := F1) (k := k6) (s := ()) (s' := ()) (show k6 < x0.length from by omega) (Qb g25 (rfl)) hF8
   exact Qaz (k6 + 1, (), ()) sl2 (fun W hm => hm) ⟨(by omega), hn26⟩ (rl (by omega))
  refine Ql rfl (nf g25) ?_
  refine sr (wa (nt' (Qj (Qy (Qe (Qe (Qy (Qe ?_))))))))
  exact rtb (h := Qba (Qbc (body := F1) (k := k6) (s := ()) (show k6 < x0.length from by omega) (Qc g25 (rfl)) hF8) rfl)
 have g11 := dlF hl10
 refine Qp rfl g11 ?_
 refine Qbk (Qac (Qac ?_))
 have hE27 : R2 (x0.length - 0) 0 () = Sum.inr () := Qbn hl10 hF8
 refine Qbm (Qi (sr (wm ?_)))
 refine wv (Qai Qdv) ?_
 refine wv (fun W hm => Qgv rfl rfl) ?_
 refine wa (nt' (Qj ?_))
 exact rtb (h := Qat hE27 (rfl))

def Qqq (x0 : Qag) (x1 : Qbf) : Bool :=
 cond (Qnj x1.Query) (cond (Qbt x1.Time 0 x0.Store.Now) (cond (Qso x1.Todo ((x0.Store.Segments.length : Nat) : Int)) (cond (Qbt x1.Age 0 100000) (cond (Qbt x1.Sent 0 1000) (cond (Qbt x1.Cap 0 32) (Qov x1.Rows) false) false) false) false) false) false
theorem Qagk : Cb Tryz.prog 152 := ⟨f152, _, func152, rfl, by decide⟩
theorem Qasq (w : World) (z0 : List Value) (x0 : Qag) (z1 : List Value) (x1 : Qbf) (r_0 : Qdd.rd w w.heap.size z0 x0) (r_1 : Qbw.rd w w.heap.size z1 x1) :
  Calls Tryz.prog 152 #[.agg z0.toArray, .agg z1.toArray] w fun e w' => e = .returned (.bool (Qqq x0 x1)) ∧ Below w.heap.size w w' := by
 obtain ⟨v1, v3, v5, v7, v9, rfl, r2, r4, r6, r8, r10⟩ := Qki r_0
 obtain ⟨m11, A12, c13, rfl, q14, r15⟩ := Qk r2
 obtain ⟨m16, A17, c18, rfl, q19, r20⟩ := Qk r4
 obtain ⟨m21, A22, c23, rfl, q24, r25⟩ := Qk r6
 obtain ⟨m26, A27, c28, rfl, q29, r30⟩ := Qk r8
 obtain ⟨m31, A32, c33, rfl, q34, r35⟩ := Qk r10
 obtain ⟨v36, v38, v40, v42, rfl, r37, r39, r41, r43⟩ := Qhz r_1
 obtain ⟨m44, A45, c46, rfl, q47, r48⟩ := Qk r37
 obtain ⟨m49, A50, c51, rfl, q52, r53⟩ := Qk r39
 obtain ⟨m54, A55, c56, rfl, q57, r58⟩ := Qk r41
 obtain ⟨m59, A60, c61, rfl, q62, r63⟩ := Qk r43
 refine ce2 (L := [(0, .agg #[.slice A12 x0.Store.Segments.length c13, .int .i64 x0.Store.Now, .int .i64 x0.Cursor, .slice A17 x0.Order.length c18, .slice A22 x0.Active.length c23, .slice A27 x0.Done.length c28, .slice A32 x0.Ledger.length c33, .int .i64 x0.Steps]), (1, .agg #[.int .i64 x1.Query.Id, .int .i64 x1.Query.Tenant, .slice A45 x1.Query.Conds.length c46, .slice A50 x1.Query.Out.length c51, .int .i64 x1.Time, .slice A55 x1.Todo.length c56, .int .i64 x1.Age, .int .i64 x1.Sent, .int .i64 x1.Cap, .slice A60 x1.Rows.length c61])]) (N := 45) func152 ?_
 refine sr ?_
 refine Qbj rfl (Qo rfl) (by decide) (fun p64 => ?_)
 refine Qbj rfl (Qo rfl) (by decide) (fun p65 => ?_)
 refine wa (nt' (sr ?_))
 refine wv (vf Qbu rfl Qcl) ?_
 refine wv (fun W hm => Qz (cs := [.int .i64 x1.Query.Id, .int .i64 x1.Query.Tenant, .slice A45 x1.Query.Conds.length c46, .slice A50 x1.Query.Out.length c51]) Qch Qcl rfl rfl (hm.boxPart (n := 0) rfl rfl)) ?_
 refine wcv (Qr Qyj rfl) (fun W hm => Qacl W _ x1.Query (Qjb (x := x1.Query) (hm.rdS0 r48) (hm.rdS0 r53))) ?_
 refine wm ?_
 rcases Bool.eq_false_or_eq_true (Qnj x1.Query) with g67 | g67
 ·
  refine wg (vf Qbu rfl Qh) g67 ?_
  refine wg (vl 0 4 Qt) g67 ?_
  refine wg (vf Qaq rfl Qae) g67 ?_
  refine wg (fun W hm => Qdy (o := 1) Qaf rfl Qh (by decide) rfl rfl) g67 ?_
  refine wg (vl 1 1 Qt) g67 ?_
  refine Qdm (Qr Qep rfl) (fun W hm => Qer W x1.Time 0 x0.Store.Now) (Qcq rfl rfl rfl (bw g67 rfl)) (by decide) ?_
  refine wv (vpT g67) ?_
  refine wm ?_
  rcases Bool.eq_false_or_eq_true (Qbt x1.Time 0 x0.Store.Now) with g69 | g69
  ·
   have hw := Qev g69
   refine wg (vf Qbu rfl Qap) g69 ?_
   refine wg (vl 0 5 Qv) g69 ?_
   refine wg (vf Qaq rfl Qae) g69 ?_
   refine wg (fun W hm => Qdy (o := 0) Qaf rfl Qcu (by decide) rfl rfl) g69 ?_
   refine wg (vl 1 0 Qas) g69 ?_
   refine wg (Qai Qas) g69 ?_
   refine Qdm (Qr Qahv rfl) (fun W hm => Qasx W _ x1.Todo ((x0.Store.Segments.length : Nat) : Int) (hm.rdS0 r58)) (Qcq rfl rfl rfl (bw g69 rfl)) (by decide) ?_
   refine wv (vpT g69) ?_
   refine wm ?_
   rcases Bool.eq_false_or_eq_true (Qso x1.Todo ((x0.Store.Segments.length : Nat) : Int)) with g71 | g71
   ·
    refine wg (vf Qbu rfl Qh) g71 ?_
    refine wg (vl 0 6 Qt) g71 ?_
    refine Qdm (Qr Qep rfl) (fun W hm => Qer W x1.Age 0 100000) (Qcq rfl rfl rfl (bw g71 rfl)) (by decide) ?_
    refine wv (vpT g71) ?_
    refine wm ?_
    rcases Bool.eq_false_or_eq_true (Qbt x1.Age 0 100000) with g73 | g73
    ·
     have hw := Qev g73
     refine wg (vf Qbu rfl Qh) g73 ?_
     refine wg (vl 0 7 Qt) g73 ?_
     refine Qdm (Qr Qep rfl) (fun W hm => Qer W x1.Sent 0 1000) (Qcq rfl rfl rfl (bw g73 rfl)) (by decide) ?_
     refine wv (vpT g73) ?_
     refine wm ?_
     rcases Bool.eq_false_or_eq_true (Qbt x1.Sent 0 1000) with g75 | g75
     ·
      have hw := Qev g75
      refine wg (vf Qbu rfl Qh) g75 ?_
      refine wg (vl 0 8 Qt) g75 ?_
      refine Qdm (Qr Qep rfl) (fun W hm => Qer W x1.Cap 0 32) (Qcq rfl rfl rfl (bw g75 rfl)) (by decide) ?_
      refine wv (vpT g75) ?_
      refine wm ?_
      rcases Bool.eq_false_or_eq_true (Qbt x1.Cap 0 32) with g77 | g77
      ·
       have hw := Qev g77
       refine wg (vf Qbu rfl Qfa) g77 ?_
       refine wg (vl 0 9 Qdv) g77 ?_
       refine Qdm (Qr Qyp rfl) (fun W hm => Qacs W _ x1.Rows (hm.rdS0 r63)) (Qcq rfl rfl rfl (bw g77 rfl)) (by decide) ?_
       refine wv (vpT g77) ?_
       refine wa (nt' (Qj ?_))
       exact rtb (h := Qb g67 (Qb g69 (Qb g71 (Qb g73 (Qb g75 (Qb g77 (rfl)))))))
      refine ws g77 ?_
      refine ws g77 ?_
      refine ws g77 ?_
      refine wv (vpF g77) ?_
      refine wa (nt' (Qj ?_))
      exact rtb (h := Qb g67 (Qb g69 (Qb g71 (Qb g73 (Qb g75 (Qc g77 (rfl)))))))
     refine ws g75 ?_
     refine ws g75 ?_
     refine ws g75 ?_
     refine wv (vpF g75) ?_
     refine wm ?_
     refine wk ?_
     refine wk ?_
     refine wk ?_
     refine wv (vpF rfl) ?_
     refine wa (nt' (Qj ?_))
     exact rtb (h := Qb g67 (Qb g69 (Qb g71 (Qb g73 (Qc g75 (rfl))))))
    refine ws g73 ?_
    refine ws g73 ?_
    refine ws g73 ?_
    refine wv (vpF g73) ?_
    refine wm ?_
    refine wk ?_
    refine wk ?_
    refine wk ?_
    refine wv (vpF rfl) ?_
    refine wm ?_
    refine wk ?_
    refine wk ?_
    refine wk ?_
    refine wv (vpF rfl) ?_
    refine wa (nt' (Qj ?_))
    exact rtb (h := Qb g67 (Qb g69 (Qb g71 (Qc g73 (rfl)))))
   refine ws g71 ?_
   refine ws g71 ?_
   refine ws g71 ?_
   refine wv (vpF g71) ?_
   refine wm ?_
   refine wk ?_
   refine wk ?_
   refine wk ?_
   refine wv (vpF rfl) ?_
   refine wm ?_
   refine wk ?_
   refine wk ?_
   refine wk ?_
   refine wv (vpF rfl) ?_
   refine wm ?_
   refine wk ?_
   refine wk ?_
   refine wk ?_
   refine wv (vpF rfl) ?_
   refine wa (nt' (Qj ?_))
   exact rtb (h := Qb g67 (Qb g69 (Qc g71 (rfl))))
  refine ws g69 ?_
  refine ws g69 ?_
  refine ws g69 ?_
  refine ws g69 ?_
  refine ws g69 ?_
  refine ws g69 ?_
  refine ws g69 ?_
  refine wv (vpF g69) ?_
  refine wm ?_
  refine wk ?_
  refine wk ?_
  refine wk ?_
  refine wv (vpF rfl) ?_
  refine wm ?_
  refine wk ?_
  refine wk ?_
  refine wk ?_
  refine wv (vpF rfl) ?_
  refine wm ?_
  refine wk ?_
  refine wk ?_
  refine wk ?_
  refine wv (vpF rfl) ?_
  refine wm ?_
  refine wk ?_
  refine wk ?_
  refine wk ?_
  refine wv (vpF rfl) ?_
  refine wa (nt' (Qj ?_))
  exact rtb (h := Qb g67 (Qc g69 (rfl)))
 refine ws g67 ?_
 refine ws g67 ?_
 refine ws g67 ?_
 refine ws g67 ?_
 refine ws g67 ?_
 refine ws g67 ?_
 refine wv (vpF g67) ?_
 refine wm ?_
 refine wk ?_
 refine wk ?_
 refine wk ?_
 refine wk ?_
 refine wk ?_
 refine wk ?_
 refine wk ?_
 refine wv (vpF rfl) ?_
 refine wm ?_
 refine wk ?_
 refine wk ?_
 refine wk ?_
 refine wv (vpF rfl) ?_
 refine wm ?_
 refine wk ?_
 refine wk ?_
 refine wk ?_
 refine wv (vpF rfl) ?_
 refine wm ?_
 refine wk ?_
 refine wk ?_
 refine wk ?_
 refine wv (vpF rfl) ?_
 refine wm ?_
 refine wk ?_
 refine wk ?_
 refine wk ?_
 refine wv (vpF rfl) ?_
 refine wa (nt' (Qj ?_))
 exact rtb (h := Qc g67 (rfl))

def Qsf (x0 : (List Int)) (k6 : Nat) : Bool ⊕ (Unit) :=
 cond (Qbt (gt x0 k6) 0 23) (cond (decide (0 < ((k6 : Nat) : Int))) (cond (decide ((gt x0 k6) ≤ (gt x0 (k6 - 1)))) (Sum.inl false) (Sum.inr ())) (Sum.inr ())) (Sum.inl false)
def Qnk (x0 : (List Int)) : Bool :=
 Sum.elim id (fun (s : Unit) => true) (rng (R := Bool) (fun k (_ : Unit) => Qsf x0 k) (x0.length - 0) 0 ())
theorem Qahw : Cb Tryz.prog 210 := ⟨f210, _, func210, rfl, by decide⟩
theorem Qaro (w : World) (z0 : Value) (x0 : (List Int)) (r_0 : rdS Qg w w.heap.size z0 x0) :
  Calls Tryz.prog 210 #[z0] w fun e w' => e = .returned (.bool (Qnk x0)) ∧ Below w.heap.size w w' := by
 obtain ⟨m1, A2, c3, rfl, q4, r5⟩ := Qk r_0
 refine ce1 (L := [(0, .slice A2 x0.length c3)]) (N := 32) func210 ?_
 refine sr (wa (nt' (Qf (sr (wa (nt' (Qab ?_)))))))
 let F1 := fun k (_ : Unit) => Qsf x0 k
 let R2 := rng (R := Bool) F1
 refine Qbl (σ := Nat × (Unit) × (Unit)) (fun s => [(0, .slice A2 x0.length c3), (3, .int .i64 ((s.1 : Nat) : Int))]) (fun s => []) (fun s => s.1 ≤ x0.length ∧ R2 (x0.length - s.1) s.1 s.2.1 = R2 (x0.length - 0) 0 ()) (fun s => x0.length - s.1) (0, (), ()) sl2 (fun W hm => hm) ⟨(by omega), rfl⟩ ?_
 rintro ⟨k6, ⟨⟩, ⟨⟩⟩ H9
 obtain ⟨hk7, hF8⟩ : k6 ≤ x0.length ∧ R2 (x0.length - k6) k6 () = R2 (x0.length - 0) 0 () := H9
 show CM Tryz.prog 32 _ _ _ _ [(0, .slice A2 x0.length c3), (3, .int .i64 ((k6 : Nat) : Int))] []
 refine Qf (sr (wm (wm ?_)))
 refine wv (Qai Qv) ?_
 refine wv Qak ?_
 refine nt' ?_
 by_cases hl10 : k6 < x0.length
 ·have g11 := dlT hl10
  refine Ql rfl g11 ?_
  refine Qq (Qi (Qf (Qab (Qf ?_))))
  refine Qge (by kernel_rfl) (by kernel_rfl) ?_
  refine qm (qm ?_)
  obtain ⟨a12, rfl, hb13, he14⟩ := q4 (by omega)
  refine qv (vix 1 k6 Qv Qh) ?_
  refine qv (fun W hm => Qaw Qt rfl rfl ((hm.cell0 (show (a12.add (k6 * 1)).block < w.heap.size from by rw [Qah]; exact hb13.1)).trans (Qex he14 k6 (by omega)))) ?_
  refine Qfu (Qr Qep rfl) (fun W hm => Qer W (gt x0 k6) 0 23) (Qo rfl) (by decide) ?_
  refine qv Qbr ?_
  refine qm ?_
  rcases Bool.eq_false_or_eq_true (Qbt (gt x0 k6) 0 23) with g16 | g16
  ·
   have hw := Qev g16
   refine qg vmv (nt g16) ?_
   refine qg (fun W hm => Qfy rfl rfl) (nt g16) ?_
   refine qg vmv (nt g16) ?_
   by_cases h17 : 0 < ((k6 : Nat) : Int)
   ·have g18 := decide_eq_true h17
    refine qg vmv g18 ?_
    refine qg vmv g18 ?_
    refine qg (vix 1 k6 Qv Qh) g18 ?_
    refine qg (fun W hm => Qaw Qt rfl rfl ((hm.cell0 (show (a12.add (k6 * 1)).block < w.heap.size from by rw [Qah]; exact hb13.1)).trans (Qex he14 k6 (by omega)))) g18 ?_
    refine qg vmv g18 ?_
    refine qg vmv g18 ?_
    refine qg (fun W hm => Qml (p := k6) (q := 1) rfl rfl (by omega) (by omega)) g18 ?_
    refine qg (fun W hm => Qkf (sz := 1) (k := k6 - 1) Qv Qh rfl rfl rfl (by omega)) g18 ?_
    refine qg (fun W hm => Qaw Qt rfl rfl ((hm.cell0 (show (a12.add ((k6 - 1) * 1)).block < w.heap.size from by rw [Qah]; exact hb13.1)).trans (Qex he14 (k6 - 1) (by omega)))) g18 ?_
    refine qg (fun W hm => Qgv rfl rfl) g18 ?_
    refine qg (vpT g18) (nt g16) ?_
    refine qv (vpF (nt g16)) ?_
    refine nq' ?_
    by_cases h19 : (gt x0 k6) ≤ (gt x0 (k6 - 1))
    ·have g20 := decide_eq_true h19
     refine Ql rfl g20 ?_
     refine sr (wa (nt' (Qj (Qy (Qe (Qe (Qy (Qe ?_))))))))
     exact rtb (h := Qba (Qbc (body := F1) (k := k6) (s := ()) (show k6 < x0.length from by omega) (Qb g16 (Qb g18 (Qb g20 (rfl)))) hF8) rfl)
    have g20 := decide_eq_false h19
    refine Qp rfl g20 ?_
    refine Qq (Qax (Qi (Qad (wm ?_))))
    refine wv (Qbd k6 1 (by omega)) ?_
    refine wa (Qal ?_)
    have hn21 := Qbb (R := Bool) (body := F1) (k := k6) (s := ()) (s' := ()) (show k6 < x0.length from by omega) (Qb g16 (Qb g18 (Qc g20 (rfl)))) hF8
    exact Qaz (k6 + 1, (), ()) sl2 (fun W hm => hm) ⟨(by omega), hn21⟩ (rl (by omega))
   have g18 := decide_eq_false h17
   refine qs g18 ?_
   refine qs g18 ?_
   refine qs g18 ?_
   refine qs g18 ?_
   refine qs g18 ?_
   refine qs g18 ?_
   refine qs g18 ?_
   refine qs g18 ?_
   refine qs g18 ?_
   refine qs g18 ?_
   refine qg (vpF g18) (nt g16) ?_
   refine qv (vpF (nt g16)) ?_
   refine nq' ?_
   refine Qp rfl rfl ?_
   refine Qq (Qax (Qi (Qad (wm ?_))))
   refine wv (Qbd k6 1 (by omega)) ?_
   refine wa (Qal ?_)
   have hn22 := Qbb (R := Bool) (body := F1) (k := k6) (s := ()) (s' := ()) (show k6 < x0.length from by omega) (Qb g16 (Qc g18 (rfl))) hF8
   exact Qaz (k6 + 1, (), ()) sl2 (fun W hm => hm) ⟨(by omega), hn22⟩ (rl (by omega))
  refine qs (nf g16) ?_
  refine qs (nf g16) ?_
  refine qs (nf g16) ?_
  refine qu ?_
  refine qu ?_
  refine qu ?_
  refine qu ?_
  refine qu ?_
  refine qu ?_
  refine qu ?_
  refine qu ?_
  refine qu ?_
  refine qu ?_
  refine qs (nf g16) ?_
  refine qv (vpT (nf g16)) ?_
  refine nq' ?_
  refine Ql rfl rfl ?_
  refine sr (wa (nt' (Qj (Qy (Qe (Qe (Qy (Qe ?_))))))))
  exact rtb (h := Qba (Qbc (body := F1) (k := k6) (s := ()) (show k6 < x0.length from by omega) (Qc g16 (rfl)) hF8) rfl)
 have g11 := dlF hl10
 refine Qp rfl g11 ?_
 refine Qbk (Qac (Qac ?_))
 have hE23 : R2 (x0.length - 0) 0 () = Sum.inr () := Qbn hl10 hF8
 refine Qbm (Qi (sr (wa (nt' (Qj ?_)))))
 exact rtb (h := Qat hE23 (rfl))

def Qng (x0 : Qay) (k37 : Nat) : Bool ⊕ (Unit) :=
 cond (Qbt (gt x0.Tenants k37) 0 3) (cond (Qbt (gt x0.Rows k37) 0 x0.Base) (Sum.inr ()) (Sum.inl false)) (Sum.inl false)
def Qnh (x0 : Qay) : Bool :=
 cond (Qnk x0.Ids) (cond (((x0.Ids.length : Nat) : Int) == 0) false (cond (decide (8 < ((x0.Ids.length : Nat) : Int))) false (cond (((x0.Tenants.length : Nat) : Int) != ((x0.Ids.length : Nat) : Int)) false (cond (((x0.Rows.length : Nat) : Int) != ((x0.Ids.length : Nat) : Int)) false (cond (Qbt x0.Segment 0 7) (cond (Qbt x0.Base 0 4) (Sum.elim id (fun (s : Unit) => true) (rng (R := Bool) (fun k (_ : Unit) => Qng x0 k) (x0.Ids.length - 0) 0 ())) false) false))))) false
theorem Qagl : Cb Tryz.prog 154 := ⟨f154, _, func154, rfl, by decide⟩
theorem Qarl (w : World) (z0 : List Value) (x0 : Qay) (r_0 : Qbx.rd w w.heap.size z0 x0) :
  Calls Tryz.prog 154 #[.agg z0.toArray] w fun e w' => e = .returned (.bool (Qnh x0)) ∧ Below w.heap.size w w' := by
 obtain ⟨v1, v3, v5, rfl, r2, r4, r6⟩ := Qik r_0
 obtain ⟨m7, A8, c9, rfl, q10, r11⟩ := Qk r2
 obtain ⟨m12, A13, c14, rfl, q15, r16⟩ := Qk r4
 obtain ⟨m17, A18, c19, rfl, q20, r21⟩ := Qk r6
 refine ce1 (L := [(0, .agg #[.int .i64 x0.Segment, .int .i64 x0.Base, .slice A8 x0.Ids.length c9, .slice A13 x0.Tenants.length c14, .slice A18 x0.Rows.length c19])]) (N := 69) func154 ?_
 refine sr ?_
 refine Qbj rfl (Qo rfl) (by decide) (fun p22 => ?_)
 refine wa (nt' (sr ?_))
 refine wv (vf Qcm rfl Qap) ?_
 refine wv (vl 0 2 Qv) ?_
 refine wv (Qai Qv) ?_
 refine wa (nt' (Qf (sr ?_)))
 refine wv (vf Qcm rfl Qap) ?_
 refine wv (vl 0 2 Qv) ?_
 refine wcv (Qr Qahw rfl) (fun W hm => Qaro W _ x0.Ids (hm.rdS0 r11)) ?_
 refine wv Qbr ?_
 refine wm ?_
 rcases Bool.eq_false_or_eq_true (Qnk x0.Ids) with g24 | g24
 ·
  refine wg vmv (nt g24) ?_
  refine wg (fun W hm => Qdj rfl rfl) (nt g24) ?_
  refine wv (vpF (nt g24)) ?_
  refine wm ?_
  by_cases h25 : ((x0.Ids.length : Nat) : Int) = 0
  ·have g26 := beq_iff_eq.2 h25
   refine ws g26 ?_
   refine ws g26 ?_
   refine wv (vpT g26) ?_
   refine wm ?_
   refine wk ?_
   refine wk ?_
   refine wk ?_
   refine wk ?_
   refine wk ?_
   refine wv (vpT rfl) ?_
   refine wm ?_
   refine wk ?_
   refine wk ?_
   refine wk ?_
   refine wk ?_
   refine wk ?_
   refine wv (vpT rfl) ?_
   refine wm ?_
   refine wk ?_
   refine wk ?_
   refine wk ?_
   refine wk ?_
   refine wv (vpT rfl) ?_
   refine wm ?_
   refine wk ?_
   refine wk ?_
   refine wk ?_
   refine wk ?_
   refine wv (vpT rfl) ?_
   refine nt' ?_
   refine Ql rfl rfl ?_
   refine sr (wa (nt' (Qj (Qe ?_))))
   exact rtb (h := Qb g24 (Qb g26 (rfl)))
  have g26 := beq_eq_false_iff_ne.2 h25
  refine wg vmv g26 ?_
  refine wg (fun W hm => Qfy rfl rfl) g26 ?_
  refine wv (vpF g26) ?_
  refine wm ?_
  by_cases h27 : 8 < ((x0.Ids.length : Nat) : Int)
  ·have g28 := decide_eq_true h27
   refine ws g28 ?_
   refine ws g28 ?_
   refine ws g28 ?_
   refine ws g28 ?_
   refine ws g28 ?_
   refine wv (vpT g28) ?_
   refine wm ?_
   refine wk ?_
   refine wk ?_
   refine wk ?_
   refine wk ?_
   refine wk ?_
   refine wv (vpT rfl) ?_
   refine wm ?_
   refine wk ?_
   refine wk ?_
   refine wk ?_
   refine wk ?_
   refine wv (vpT rfl) ?_
   refine wm ?_
   refine wk ?_
   refine wk ?_
   refine wk ?_
   refine wk ?_
   refine wv (vpT rfl) ?_
   refine nt' ?_
   refine Ql rfl rfl ?_
   refine sr (wa (nt' (Qj (Qe ?_))))
   exact rtb (h := Qb g24 (Qc g26 (Qb g28 (rfl))))
  have g28 := decide_eq_false h27
  refine wg (vf Qcm rfl Qap) g28 ?_
  refine wg (vl 0 3 Qv) g28 ?_
  refine wg (Qai Qv) g28 ?_
  refine wg vmv g28 ?_
  refine wg Qcf g28 ?_
  refine wv (vpF g28) ?_
  refine wm ?_
  by_cases h29 : ((x0.Tenants.length : Nat) : Int) = ((x0.Ids.length : Nat) : Int)
  ·have g30 : (((x0.Tenants.length : Nat) : Int) != ((x0.Ids.length : Nat) : Int)) = false := by rw [h29]; exact bne_self_eq_false _
   refine wg (vf Qcm rfl Qap) g30 ?_
   refine wg (vl 0 4 Qv) g30 ?_
   refine wg (Qai Qv) g30 ?_
   refine wg vmv g30 ?_
   refine wg Qcf g30 ?_
   refine wv (vpF g30) ?_
   refine wm ?_
   by_cases h31 : ((x0.Rows.length : Nat) : Int) = ((x0.Ids.length : Nat) : Int)
   ·have g32 : (((x0.Rows.length : Nat) : Int) != ((x0.Ids.length : Nat) : Int)) = false := by rw [h31]; exact bne_self_eq_false _
    refine wg (vf Qcm rfl Qh) g32 ?_
    refine wg (vl 0 0 Qt) g32 ?_
    refine Qdm (Qr Qep rfl) (fun W hm => Qer W x0.Segment 0 7) (Qcq rfl rfl rfl (bw g32 rfl)) (by decide) ?_
    refine wg Qbr g32 ?_
    refine wv (vpF g32) ?_
    refine wm ?_
    rcases Bool.eq_false_or_eq_true (Qbt x0.Segment 0 7) with g34 | g34
    ·
     have hw := Qev g34
     refine wg (vf Qcm rfl Qh) (nt g34) ?_
     refine wg (vl 0 1 Qt) (nt g34) ?_
     refine Qdm (Qr Qep rfl) (fun W hm => Qer W x0.Base 0 4) (Qcq rfl rfl rfl (bw (nt g34) rfl)) (by decide) ?_
     refine wg Qbr (nt g34) ?_
     refine wv (vpF (nt g34)) ?_
     refine nt' ?_
     rcases Bool.eq_false_or_eq_true (Qbt x0.Base 0 4) with g36 | g36
     ·
      have hw := Qev g36
      refine Qp rfl (nt g36) ?_
      refine Qq (Qi (Qf (sr (wa (nt' (Qab ?_))))))
      let F1 := fun k (_ : Unit) => Qng x0 k
      let R2 := rng (R := Bool) F1
      let K3 : List Value := [.int .i64 x0.Segment, .int .i64 x0.Base, .slice A8 x0.Ids.length c9, .slice A13 x0.Tenants.length c14, .slice A18 x0.Rows.length c19]
      refine Qbl (σ := Nat × (Unit) × (Unit)) (fun s => [(1, .pointer (some (⟨p22, 0, none⟩ : Addr))), (3, .int .i64 ((x0.Ids.length : Nat) : Int)), (4, .int .i64 ((s.1 : Nat) : Int))]) (fun s => [Qa p22 133 K3]) (fun s => s.1 ≤ x0.Ids.length ∧ R2 (x0.Ids.length - s.1) s.1 s.2.1 = R2 (x0.Ids.length - 0) 0 ()) (fun s => x0.Ids.length - s.1) (0, (), ()) sl3 (fun W hm => hm) ⟨(by omega), rfl⟩ ?_
      rintro ⟨k37, ⟨⟩, ⟨⟩⟩ H40
      obtain ⟨hk38, hF39⟩ : k37 ≤ x0.Ids.length ∧ R2 (x0.Ids.length - k37) k37 () = R2 (x0.Ids.length - 0) 0 () := H40
      show CM Tryz.prog 69 _ _ _ _ [(1, .pointer (some (⟨p22, 0, none⟩ : Addr))), (3, .int .i64 ((x0.Ids.length : Nat) : Int)), (4, .int .i64 ((k37 : Nat) : Int))] [Qa p22 133 K3]
      refine Qf (sr (wm (wm ?_)))
      refine wv Qak ?_
      refine nt' ?_
      by_cases hl41 : k37 < x0.Ids.length
      ·have g42 := dlT hl41
       refine Ql rfl g42 ?_
       refine Qq (Qi (Qf (Qab (Qf ?_))))
       refine Qge (by kernel_rfl) (by kernel_rfl) ?_
       refine qv (vf Qcm rfl Qap) ?_
       refine qv (vl 0 3 Qv) ?_
       refine qm ?_
       obtain ⟨a43, rfl, hb44, he45⟩ := q15 (by omega)
       refine qv (vix 1 k37 Qv Qh) ?_
       refine qv (fun W hm => Qaw Qt rfl rfl ((hm.cell0 (show (a43.add (k37 * 1)).block < w.heap.size from by rw [Qah]; exact hb44.1)).trans (Qex he45 k37 (by omega)))) ?_
       refine Qfu (Qr Qep rfl) (fun W hm => Qer W (gt x0.Tenants k37) 0 3) (Qo rfl) (by decide) ?_
       refine qv Qbr ?_
       refine qm ?_
       rcases Bool.eq_false_or_eq_true (Qbt (gt x0.Tenants k37) 0 3) with g47 | g47
       ·
        have hw := Qev g47
        refine qg (vf Qcm rfl Qap) (nt g47) ?_
        refine qg (vl 0 4 Qv) (nt g47) ?_
        refine qg vmv (nt g47) ?_
        obtain ⟨a48, rfl, hb49, he50⟩ := q20 (by omega)
        refine qg (vix 1 k37 Qv Qh) (nt g47) ?_
        refine qg (fun W hm => Qaw Qt rfl rfl ((hm.cell0 (show (a48.add (k37 * 1)).block < w.heap.size from by rw [Qah]; exact hb49.1)).trans (Qex he50 k37 (by omega)))) (nt g47) ?_
        refine qg (vf Qcm rfl Qh) (nt g47) ?_
        refine qg (vl 0 1 Qt) (nt g47) ?_
        refine Qfu (Qr Qep rfl) (fun W hm => Qer W (gt x0.Rows k37) 0 x0.Base) (Qcq rfl rfl rfl (bw (nt g47) rfl)) (by decide) ?_
        refine qg Qbr (nt g47) ?_
        refine qv (vpF (nt g47)) ?_
        refine nq' ?_
        rcases Bool.eq_false_or_eq_true (Qbt (gt x0.Rows k37) 0 x0.Base) with g52 | g52
        ·
         have hw := Qev g52
         refine Qp rfl (nt g52) ?_
         refine Qq (Qax (Qi (Qad (wm ?_))))
         refine wv (Qbd k37 1 (by omega)) ?_
         refine wa (Qal ?_)
         have hn53 := Qbb (R := Bool) (body := F1) (k := k37) (s := ()) (s' := ()) (show k37 < x0.Ids.length from by omega) (Qb g47 (Qb g52 (rfl))) hF39
         exact Qaz (k37 + 1, (), ()) sl3 (fun W hm => hm) ⟨(by omega), hn53⟩ (rl (by omega))
        refine Ql rfl (nf g52) ?_
        refine sr (wa (nt' (Qj (Qy (Qe (Qe (Qy (Qe ?_))))))))
        exact rtb (h := Qb g24 (Qc g26 (Qc g28 (Qc g30 (Qc g32 (Qb g34 (Qb g36 (Qba (Qbc (body := F1) (k := k37) (s := ()) (show k37 < x0.Ids.length from by omega) (Qb g47 (Qc g52 (rfl))) hF39) rfl))))))))
       refine qs (nf g47) ?_
       refine qs (nf g47) ?_
       refine qs (nf g47) ?_
       refine qs (nf g47) ?_
       refine qs (nf g47) ?_
       refine qs (nf g47) ?_
       refine qs (nf g47) ?_
       refine qs (nf g47) ?_
       refine qs (nf g47) ?_
       refine qv (vpT (nf g47)) ?_
       refine nq' ?_
       refine Ql rfl rfl ?_
       refine sr (wa (nt' (Qj (Qy (Qe (Qe (Qy (Qe ?_))))))))
       exact rtb (h := Qb g24 (Qc g26 (Qc g28 (Qc g30 (Qc g32 (Qb g34 (Qb g36 (Qba (Qbc (body := F1) (k := k37) (s := ()) (show k37 < x0.Ids.length from by omega) (Qc g47 (rfl)) hF39) rfl))))))))
      have g42 := dlF hl41
      refine Qp rfl g42 ?_
      refine Qbk (Qac (Qac ?_))
      have hE54 : R2 (x0.Ids.length - 0) 0 () = Sum.inr () := Qbn hl41 hF39
      refine Qbm (Qi (sr (wa (nt' (Qj ?_)))))
      exact rtb (h := Qb g24 (Qc g26 (Qc g28 (Qc g30 (Qc g32 (Qb g34 (Qb g36 (Qat hE54 (rfl)))))))))
     refine Ql rfl (nf g36) ?_
     refine sr (wa (nt' (Qj (Qe ?_))))
     exact rtb (h := Qb g24 (Qc g26 (Qc g28 (Qc g30 (Qc g32 (Qb g34 (Qc g36 (rfl))))))))
    refine ws (nf g34) ?_
    refine ws (nf g34) ?_
    refine ws (nf g34) ?_
    refine ws (nf g34) ?_
    refine wv (vpT (nf g34)) ?_
    refine nt' ?_
    refine Ql rfl rfl ?_
    refine sr (wa (nt' (Qj (Qe ?_))))
    exact rtb (h := Qb g24 (Qc g26 (Qc g28 (Qc g30 (Qc g32 (Qc g34 (rfl)))))))
   have g32 : (((x0.Rows.length : Nat) : Int) != ((x0.Ids.length : Nat) : Int)) = true := bne_iff_ne.2 h31
   refine ws g32 ?_
   refine ws g32 ?_
   refine ws g32 ?_
   refine ws g32 ?_
   refine wv (vpT g32) ?_
   refine wm ?_
   refine wk ?_
   refine wk ?_
   refine wk ?_
   refine wk ?_
   refine wv (vpT rfl) ?_
   refine nt' ?_
   refine Ql rfl rfl ?_
   refine sr (wa (nt' (Qj (Qe ?_))))
   exact rtb (h := Qb g24 (Qc g26 (Qc g28 (Qc g30 (Qb g32 (rfl))))))
  have g30 : (((x0.Tenants.length : Nat) : Int) != ((x0.Ids.length : Nat) : Int)) = true := bne_iff_ne.2 h29
  refine ws g30 ?_
  refine ws g30 ?_
  refine ws g30 ?_
  refine ws g30 ?_
  refine ws g30 ?_
  refine wv (vpT g30) ?_
  refine wm ?_
  refine wk ?_
  refine wk ?_
  refine wk ?_
  refine wk ?_
  refine wv (vpT rfl) ?_
  refine wm ?_
  refine wk ?_
  refine wk ?_
  refine wk ?_
  refine wk ?_
  refine wv (vpT rfl) ?_
  refine nt' ?_
  refine Ql rfl rfl ?_
  refine sr (wa (nt' (Qj (Qe ?_))))
  exact rtb (h := Qb g24 (Qc g26 (Qc g28 (Qb g30 (rfl)))))
 refine ws (nf g24) ?_
 refine ws (nf g24) ?_
 refine wv (vpT (nf g24)) ?_
 refine wm ?_
 refine wk ?_
 refine wk ?_
 refine wv (vpT rfl) ?_
 refine wm ?_
 refine wk ?_
 refine wk ?_
 refine wk ?_
 refine wk ?_
 refine wk ?_
 refine wv (vpT rfl) ?_
 refine wm ?_
 refine wk ?_
 refine wk ?_
 refine wk ?_
 refine wk ?_
 refine wk ?_
 refine wv (vpT rfl) ?_
 refine wm ?_
 refine wk ?_
 refine wk ?_
 refine wk ?_
 refine wk ?_
 refine wv (vpT rfl) ?_
 refine wm ?_
 refine wk ?_
 refine wk ?_
 refine wk ?_
 refine wk ?_
 refine wv (vpT rfl) ?_
 refine nt' ?_
 refine Ql rfl rfl ?_
 refine sr (wa (nt' (Qj (Qe ?_))))
 exact rtb (h := Qc g24 (rfl))

theorem Qavl {x : Qay} (h : Qnh x = true) : 1 ≤ x.Ids.length ∧ x.Tenants.length = x.Ids.length ∧ x.Rows.length = x.Ids.length := by
  unfold Qnh at h
  cases h1 : Qnk x.Ids <;> rw [h1] at h
  · cases h
  by_cases h2 : ((x.Ids.length : Nat) : Int) = 0
  · rw [beq_iff_eq.2 h2] at h
    cases h
  by_cases h3 : ((x.Tenants.length : Nat) : Int) = ((x.Ids.length : Nat) : Int)
  · by_cases h4 : ((x.Rows.length : Nat) : Int) = ((x.Ids.length : Nat) : Int)
    · omega
    rw [bne_iff_ne.2 h4] at h
    revert h
    cases (((x.Ids.length : Nat) : Int) == 0) <;> cases decide (8 < ((x.Ids.length : Nat) : Int)) <;> cases (((x.Tenants.length : Nat) : Int) != ((x.Ids.length : Nat) : Int)) <;> intro h <;> cases h
  rw [bne_iff_ne.2 h3] at h
  revert h
  cases (((x.Ids.length : Nat) : Int) == 0) <;> cases decide (8 < ((x.Ids.length : Nat) : Int)) <;> intro h <;> cases h

def Qse (x0 : Qag) (k188 : Nat) : Bool ⊕ (Unit) :=
 cond (Qnh (gt x0.Ledger k188)) (Sum.inr ()) (Sum.inl false)
def Qsd (x0 : Qag) (k142 : Nat) : Bool ⊕ (Unit) :=
 cond (Qnj ((gt x0.Done k142).Query)) (cond (Qbt ((gt x0.Done k142).Time) 0 x0.Store.Now) (cond (Qbt ((gt x0.Done k142).Steps) 0 100000) (cond (Qov ((gt x0.Done k142).Rows)) (Sum.inr ()) (Sum.inl false)) (Sum.inl false)) (Sum.inl false)) (Sum.inl false)
def Qqk (x0 : Qag) (k56 : Nat) : Bool ⊕ (Unit) :=
 cond (Qqq x0 (gt x0.Active k56)) (cond (decide (0 < ((k56 : Nat) : Int))) (cond (decide (((gt x0.Active k56).Query.Id) ≤ ((gt x0.Active (k56 - 1)).Query.Id))) (Sum.inl false) (Sum.inr ())) (Sum.inr ())) (Sum.inl false)
def Qql (x0 : Qag) : Bool :=
 cond (Qhd x0.Store) (cond (Qbt x0.Cursor 0 (IntKind.i64.wrap (((x0.Store.Segments.length : Nat) : Int) - 1))) (cond (Qqp x0.Order) (cond (decide (8 < ((x0.Active.length : Nat) : Int))) false (cond (Qbt x0.Steps 0 100000) (cond (decide (1000 < ((x0.Done.length : Nat) : Int))) false (cond (decide (1000 < ((x0.Ledger.length : Nat) : Int))) false (Sum.elim id (fun (s1_ : Unit) => Sum.elim id (fun (s2_ : Unit) => Sum.elim id (fun (s : Unit) => true) (rng (R := Bool) (fun k (_ : Unit) => Qse x0 k) (x0.Ledger.length - 0) 0 ())) (rng (R := Bool) (fun k (_ : Unit) => Qsd x0 k) (x0.Done.length - 0) 0 ())) (rng (R := Bool) (fun k (_ : Unit) => Qqk x0 k) (x0.Active.length - 0) 0 ())))) false)) false) false) false
theorem cb65 : Cb Tryz.prog 65 := ⟨f65, _, func65, rfl, by decide⟩
theorem Qarn (w : World) (z0 : List Value) (x0 : Qag) (r_0 : Qdd.rd w w.heap.size z0 x0) (s_0 : Qgf 68719476736 x0) :
  Calls Tryz.prog 65 #[.agg z0.toArray] w fun e w' => e = .returned (.bool (Qql x0)) ∧ Below w.heap.size w w' := by
 obtain ⟨v1, v3, v5, v7, v9, rfl, r2, r4, r6, r8, r10⟩ := Qki r_0
 obtain ⟨m11, A12, c13, rfl, q14, r15⟩ := Qk r2
 obtain ⟨m16, A17, c18, rfl, q19, r20⟩ := Qk r4
 obtain ⟨m21, A22, c23, rfl, q24, r25⟩ := Qk r6
 obtain ⟨m26, A27, c28, rfl, q29, r30⟩ := Qk r8
 obtain ⟨m31, A32, c33, rfl, q34, r35⟩ := Qk r10
 have l36 : x0.Store.Segments.length ≤ 68719476736 := s_0.1.1
 have l37 : x0.Order.length ≤ 68719476736 := s_0.2.1
 have l38 : x0.Active.length ≤ 68719476736 := s_0.2.2.1.1
 have l39 : x0.Done.length ≤ 68719476736 := s_0.2.2.2.1.1
 have l40 : x0.Ledger.length ≤ 68719476736 := s_0.2.2.2.2.1
 refine ce1 (L := [(0, .agg #[.slice A12 x0.Store.Segments.length c13, .int .i64 x0.Store.Now, .int .i64 x0.Cursor, .slice A17 x0.Order.length c18, .slice A22 x0.Active.length c23, .slice A27 x0.Done.length c28, .slice A32 x0.Ledger.length c33, .int .i64 x0.Steps])]) (N := 140) func65 ?_
 refine sr ?_
 refine Qbj rfl (Qo rfl) (by decide) (fun p41 => ?_)
 refine wa (nt' (Qf (sr ?_)))
 refine wv (vf Qaq rfl Qae) ?_
 refine wv (fun W hm => Qz (cs := [.slice A12 x0.Store.Segments.length c13, .int .i64 x0.Store.Now]) Qaf Qae rfl rfl (hm.boxPart (n := 0) rfl rfl)) ?_
 refine wcv (Qr Qtj rfl) (fun W hm => Qwg W _ x0.Store (Qeg (x := x0.Store) (hm.rdS0 r15)) s_0.1) ?_
 refine wv Qbr ?_
 refine wm ?_
 rcases Bool.eq_false_or_eq_true (Qhd x0.Store) with g43 | g43
 ·
  refine wg (vf Qaq rfl Qh) (nt g43) ?_
  refine wg (vl 0 2 Qt) (nt g43) ?_
  refine wg (vf Qaq rfl Qae) (nt g43) ?_
  refine wg (fun W hm => Qdy (o := 0) Qaf rfl Qcu (by decide) rfl rfl) (nt g43) ?_
  refine wg (vl 0 0 Qas) (nt g43) ?_
  refine wg (Qai Qas) (nt g43) ?_
  refine wg (fun W hm => Qhw rfl rfl) (nt g43) ?_
  refine Qdm (Qr Qep rfl) (fun W hm => Qer W x0.Cursor 0 (IntKind.i64.wrap (((x0.Store.Segments.length : Nat) : Int) - 1))) (Qcq rfl rfl rfl (bw (nt g43) rfl)) (by decide) ?_
  refine wg Qbr (nt g43) ?_
  refine wv (vpF (nt g43)) ?_
  refine wm ?_
  rcases Bool.eq_false_or_eq_true (Qbt x0.Cursor 0 (IntKind.i64.wrap (((x0.Store.Segments.length : Nat) : Int) - 1))) with g45 | g45
  ·
   have hw := Qev g45
   rw [Qxl (by omega)] at hw
   refine wg (vf Qaq rfl Qap) (nt g45) ?_
   refine wg (vl 0 3 Qv) (nt g45) ?_
   refine Qdm (Qr Qaga rfl) (fun W hm => Qasc W _ x0.Order (hm.rdS0 r20)) (Qcq rfl rfl rfl (bw (nt g45) rfl)) (by decide) ?_
   refine wg Qbr (nt g45) ?_
   refine wv (vpF (nt g45)) ?_
   refine wm ?_
   rcases Bool.eq_false_or_eq_true (Qqp x0.Order) with g47 | g47
   ·
    refine wg (vf Qaq rfl Qfn) (nt g47) ?_
    refine wg (vl 0 4 Qcj) (nt g47) ?_
    refine wg (Qai Qcj) (nt g47) ?_
    refine wg (fun W hm => Qfy rfl rfl) (nt g47) ?_
    refine wv (vpF (nt g47)) ?_
    refine wm ?_
    by_cases h48 : 8 < ((x0.Active.length : Nat) : Int)
    ·have g49 := decide_eq_true h48
     refine ws g49 ?_
     refine ws g49 ?_
     refine ws g49 ?_
     refine ws g49 ?_
     refine wv (vpT g49) ?_
     refine wm ?_
     refine wk ?_
     refine wk ?_
     refine wk ?_
     refine wk ?_
     refine wv (vpT rfl) ?_
     refine wm ?_
     refine wk ?_
     refine wk ?_
     refine wk ?_
     refine wk ?_
     refine wv (vpT rfl) ?_
     refine nt' ?_
     refine Ql rfl rfl ?_
     refine sr (wa (nt' (Qj (Qe ?_))))
     exact rtb (h := Qb g43 (Qb g45 (Qb g47 (Qb g49 (rfl)))))
    have g49 := decide_eq_false h48
    refine wg (vf Qaq rfl Qh) g49 ?_
    refine wg (vl 0 7 Qt) g49 ?_
    refine Qdm (Qr Qep rfl) (fun W hm => Qer W x0.Steps 0 100000) (Qcq rfl rfl rfl (bw g49 rfl)) (by decide) ?_
    refine wg Qbr g49 ?_
    refine wv (vpF g49) ?_
    refine wm ?_
    rcases Bool.eq_false_or_eq_true (Qbt x0.Steps 0 100000) with g51 | g51
    ·
     have hw := Qev g51
     refine wg (vf Qaq rfl type44) (nt g51) ?_
     refine wg (vl 0 5 Qdn) (nt g51) ?_
     refine wg (Qai Qdn) (nt g51) ?_
     refine wg (fun W hm => Qfy rfl rfl) (nt g51) ?_
     refine wv (vpF (nt g51)) ?_
     refine wm ?_
     by_cases h52 : 1000 < ((x0.Done.length : Nat) : Int)
     ·have g53 := decide_eq_true h52
      refine ws g53 ?_
      refine ws g53 ?_
      refine ws g53 ?_
      refine ws g53 ?_
      refine wv (vpT g53) ?_
      refine nt' ?_
      refine Ql rfl rfl ?_
      refine sr (wa (nt' (Qj (Qe ?_))))
      exact rtb (h := Qb g43 (Qb g45 (Qb g47 (Qc g49 (Qb g51 (Qb g53 (rfl)))))))
     have g53 := decide_eq_false h52
     refine wg (vf Qaq rfl type45) g53 ?_
     refine wg (vl 0 6 Qdt) g53 ?_
     refine wg (Qai Qdt) g53 ?_
     refine wg (fun W hm => Qfy rfl rfl) g53 ?_
     refine wv (vpF g53) ?_
     refine nt' ?_
     by_cases h54 : 1000 < ((x0.Ledger.length : Nat) : Int)
     ·have g55 := decide_eq_true h54
      refine Ql rfl g55 ?_
      refine sr (wa (nt' (Qj (Qe ?_))))
      exact rtb (h := Qb g43 (Qb g45 (Qb g47 (Qc g49 (Qb g51 (Qc g53 (Qb g55 (rfl))))))))
     have g55 := decide_eq_false h54
     refine Qp rfl g55 ?_
     refine Qq (Qi (Qf (sr (wa (nt' (Qab ?_))))))
     let F1 := fun k (_ : Unit) => Qqk x0 k
     let R4 := rng (R := Bool) F1
     let K7 : List Value := [.slice A12 x0.Store.Segments.length c13, .int .i64 x0.Store.Now, .int .i64 x0.Cursor, .slice A17 x0.Order.length c18, .slice A22 x0.Active.length c23, .slice A27 x0.Done.length c28, .slice A32 x0.Ledger.length c33, .int .i64 x0.Steps]
     refine Qbl (σ := Nat × (Unit) × (Unit)) (fun s => [(1, .pointer (some (⟨p41, 0, none⟩ : Addr))), (3, .int .i64 ((s.1 : Nat) : Int))]) (fun s => [Qa p41 47 K7]) (fun s => s.1 ≤ x0.Active.length ∧ R4 (x0.Active.length - s.1) s.1 s.2.1 = R4 (x0.Active.length - 0) 0 ()) (fun s => x0.Active.length - s.1) (0, (), ()) sl2 (fun W hm => hm) ⟨(by omega), rfl⟩ ?_
     rintro ⟨k56, ⟨⟩, ⟨⟩⟩ H59
     obtain ⟨hk57, hF58⟩ : k56 ≤ x0.Active.length ∧ R4 (x0.Active.length - k56) k56 () = R4 (x0.Active.length - 0) 0 () := H59
     show CM Tryz.prog 140 _ _ _ _ [(1, .pointer (some (⟨p41, 0, none⟩ : Addr))), (3, .int .i64 ((k56 : Nat) : Int))] [Qa p41 47 K7]
     refine Qf (sr (wm ?_))
     refine wv (vf Qaq rfl Qfn) ?_
     refine wv (vl 0 4 Qcj) ?_
     refine wv (Qai Qcj) ?_
     refine wv Qak ?_
     refine nt' ?_
     by_cases hl60 : k56 < x0.Active.length
     ·have g61 := dlT hl60
      refine Ql rfl g61 ?_
      refine Qq (Qi (Qf (Qab (Qf ?_))))
      refine Qge (by kernel_rfl) (by kernel_rfl) ?_
      refine qv (fun W hm => Qz (cs := K7) Qaq Qbv rfl rfl (hm.boxCells (n := 0) rfl)) ?_
      refine qv (vf Qaq rfl Qfn) ?_
      refine qv (vl 0 4 Qcj) ?_
      refine qm ?_
      obtain ⟨a62, rfl, hb63, he64⟩ := q24 (by omega)
      refine qv (vix 10 k56 Qcj Qcs) ?_
      obtain ⟨_, e74, hc65⟩ := he64 k56 _ (Qca (show k56 < x0.Active.length from by omega))
      obtain ⟨v66, v68, v70, v72, rfl, r67, r69, r71, r73⟩ := Qhz e74
      have l75 : ((gt x0.Active k56).Query.Conds).length ≤ 68719476736 := (s_0.2.2.1.2 _ (Qbh (show k56 < x0.Active.length from by omega))).1.1
      have l76 : ((gt x0.Active k56).Query.Out).length ≤ 68719476736 := (s_0.2.2.1.2 _ (Qbh (show k56 < x0.Active.length from by omega))).1.2
      have l77 : ((gt x0.Active k56).Todo).length ≤ 68719476736 := (s_0.2.2.1.2 _ (Qbh (show k56 < x0.Active.length from by omega))).2.1
      have l78 : ((gt x0.Active k56).Rows).length ≤ 68719476736 := (s_0.2.2.1.2 _ (Qbh (show k56 < x0.Active.length from by omega))).2.2.1
      obtain ⟨m79, A80, c81, rfl, q82, r83⟩ := Qk r67
      obtain ⟨m84, A85, c86, rfl, q87, r88⟩ := Qk r69
      obtain ⟨m89, A90, c91, rfl, q92, r93⟩ := Qk r71
      obtain ⟨m94, A95, c96, rfl, q97, r98⟩ := Qk r73
      refine qv (fun W hm => Qz (cs := [.int .i64 ((gt x0.Active k56).Query.Id), .int .i64 ((gt x0.Active k56).Query.Tenant), .slice A80 ((gt x0.Active k56).Query.Conds).length c81, .slice A85 ((gt x0.Active k56).Query.Out).length c86, .int .i64 ((gt x0.Active k56).Time), .slice A90 ((gt x0.Active k56).Todo).length c91, .int .i64 ((gt x0.Active k56).Age), .int .i64 ((gt x0.Active k56).Sent), .int .i64 ((gt x0.Active k56).Cap), .slice A95 ((gt x0.Active k56).Rows).length c96]) Qbu Qcs rfl rfl (hm.elCells (show (a62.add (k56 * 10)).block < w.heap.size from by rw [Qah]; exact hb63.1) hc65)) ?_
      refine Qfu (Qr Qagk rfl) (fun W hm => Qasq W _ x0 _ (gt x0.Active k56) (Qfr (x := x0) (hm.rdS0 r15) (hm.rdS0 r20) (hm.rdS0 r25) (hm.rdS0 r30) (hm.rdS0 r35)) (Qqu (x := (gt x0.Active k56)) (hm.rdS0 r83) (hm.rdS0 r88) (hm.rdS0 r93) (hm.rdS0 r98))) (Qo rfl) (by decide) ?_
      refine qv Qbr ?_
      refine qm ?_
      rcases Bool.eq_false_or_eq_true (Qqq x0 (gt x0.Active k56)) with g100 | g100
      ·
       refine qg vmv (nt g100) ?_
       refine qg (fun W hm => Qfy rfl rfl) (nt g100) ?_
       refine qg vmv (nt g100) ?_
       by_cases h101 : 0 < ((k56 : Nat) : Int)
       ·have g102 := decide_eq_true h101
        refine qg (vf Qaq rfl Qfn) g102 ?_
        refine qg (vl 0 4 Qcj) g102 ?_
        refine qg vmv g102 ?_
        refine qg (vix 10 k56 Qcj Qcs) g102 ?_
        refine qg (vf Qbu rfl Qcl) g102 ?_
        refine qg (fun W hm => Qdy (o := 0) Qch rfl Qh (by decide) rfl rfl) g102 ?_
        refine qg (fun W hm => Qaw Qt rfl rfl ((hm.cell0 (show ((a62.add (k56 * 10)).add 0).block < w.heap.size from by rw [Qah, Qah]; exact hb63.1)).trans (hc65 0 _ rfl))) g102 ?_
        refine qg (vf Qaq rfl Qfn) g102 ?_
        refine qg (vl 0 4 Qcj) g102 ?_
        refine qg vmv g102 ?_
        refine qg (fun W hm => Qml (p := k56) (q := 1) rfl rfl (by omega) (by omega)) g102 ?_
        refine qg (fun W hm => Qkf (sz := 10) (k := k56 - 1) Qcj Qcs rfl rfl rfl (by omega)) g102 ?_
        refine qg (vf Qbu rfl Qcl) g102 ?_
        refine qg (fun W hm => Qdy (o := 0) Qch rfl Qh (by decide) rfl rfl) g102 ?_
        obtain ⟨_, e112, hc103⟩ := he64 (k56 - 1) _ (Qca (show (k56 - 1) < x0.Active.length from by omega))
        obtain ⟨v104, v106, v108, v110, rfl, r105, r107, r109, r111⟩ := Qhz e112
        have l113 : ((gt x0.Active (k56 - 1)).Query.Conds).length ≤ 68719476736 := (s_0.2.2.1.2 _ (Qbh (show (k56 - 1) < x0.Active.length from by omega))).1.1
        have l114 : ((gt x0.Active (k56 - 1)).Query.Out).length ≤ 68719476736 := (s_0.2.2.1.2 _ (Qbh (show (k56 - 1) < x0.Active.length from by omega))).1.2
        have l115 : ((gt x0.Active (k56 - 1)).Todo).length ≤ 68719476736 := (s_0.2.2.1.2 _ (Qbh (show (k56 - 1) < x0.Active.length from by omega))).2.1
        have l116 : ((gt x0.Active (k56 - 1)).Rows).length ≤ 68719476736 := (s_0.2.2.1.2 _ (Qbh (show (k56 - 1) < x0.Active.length from by omega))).2.2.1
        obtain ⟨m117, A118, c119, rfl, q120, r121⟩ := Qk r105
        obtain ⟨m122, A123, c124, rfl, q125, r126⟩ := Qk r107
        obtain ⟨m127, A128, c129, rfl, q130, r131⟩ := Qk r109
        obtain ⟨m132, A133, c134, rfl, q135, r136⟩ := Qk r111
        refine qg (fun W hm => Qaw Qt rfl rfl ((hm.cell0 (show ((a62.add ((k56 - 1) * 10)).add 0).block < w.heap.size from by rw [Qah, Qah]; exact hb63.1)).trans (hc103 0 _ rfl))) g102 ?_
        refine qg (fun W hm => Qgv rfl rfl) g102 ?_
        refine qg (vpT g102) (nt g100) ?_
        refine qv (vpF (nt g100)) ?_
        refine nq' ?_
        by_cases h137 : ((gt x0.Active k56).Query.Id) ≤ ((gt x0.Active (k56 - 1)).Query.Id)
        ·have g138 := decide_eq_true h137
         refine Ql rfl g138 ?_
         refine sr (wa (nt' (Qj (Qy (Qe (Qe (Qy (Qe ?_))))))))
         exact rtb (h := Qb g43 (Qb g45 (Qb g47 (Qc g49 (Qb g51 (Qc g53 (Qc g55 (Qba (Qbc (body := F1) (k := k56) (s := ()) (show k56 < x0.Active.length from by omega) (Qb g100 (Qb g102 (Qb g138 (rfl)))) hF58) rfl))))))))
        have g138 := decide_eq_false h137
        refine Qp rfl g138 ?_
        refine Qq (Qax (Qi (Qad (wm ?_))))
        refine wv (Qbd k56 1 (by omega)) ?_
        refine wa (Qal ?_)
        have hn139 := Qbb (R := Bool) (body := F1) (k := k56) (s := ()) (s' := ()) (show k56 < x0.Active.length from by omega) (Qb g100 (Qb g102 (Qc g138 (rfl)))) hF58
        exact Qaz (k56 + 1, (), ()) sl2 (fun W hm => hm) ⟨(by omega), hn139⟩ (rl (by omega))
       have g102 := decide_eq_false h101
       refine qs g102 ?_
       refine qs g102 ?_
       refine qs g102 ?_
       refine qs g102 ?_
       refine qs g102 ?_
       refine qs g102 ?_
       refine qs g102 ?_
       refine qs g102 ?_
       refine qs g102 ?_
       refine qs g102 ?_
       refine qs g102 ?_
       refine qs g102 ?_
       refine qs g102 ?_
       refine qs g102 ?_
       refine qs g102 ?_
       refine qs g102 ?_
       refine qg (vpF g102) (nt g100) ?_
       refine qv (vpF (nt g100)) ?_
       refine nq' ?_
       refine Qp rfl rfl ?_
       refine Qq (Qax (Qi (Qad (wm ?_))))
       refine wv (Qbd k56 1 (by omega)) ?_
       refine wa (Qal ?_)
       have hn140 := Qbb (R := Bool) (body := F1) (k := k56) (s := ()) (s' := ()) (show k56 < x0.Active.length from by omega) (Qb g100 (Qc g102 (rfl))) hF58
       exact Qaz (k56 + 1, (), ()) sl2 (fun W hm => hm) ⟨(by omega), hn140⟩ (rl (by omega))
      refine qs (nf g100) ?_
      refine qs (nf g100) ?_
      refine qs (nf g100) ?_
      refine qu ?_
      refine qu ?_
      refine qu ?_
      refine qu ?_
      refine qu ?_
      refine qu ?_
      refine qu ?_
      refine qu ?_
      refine qu ?_
      refine qu ?_
      refine qu ?_
      refine qu ?_
      refine qu ?_
      refine qu ?_
      refine qu ?_
      refine qu ?_
      refine qs (nf g100) ?_
      refine qv (vpT (nf g100)) ?_
      refine nq' ?_
      refine Ql rfl rfl ?_
      refine sr (wa (nt' (Qj (Qy (Qe (Qe (Qy (Qe ?_))))))))
      exact rtb (h := Qb g43 (Qb g45 (Qb g47 (Qc g49 (Qb g51 (Qc g53 (Qc g55 (Qba (Qbc (body := F1) (k := k56) (s := ()) (show k56 < x0.Active.length from by omega) (Qc g100 (rfl)) hF58) rfl))))))))
     have g61 := dlF hl60
     refine Qp rfl g61 ?_
     refine Qbk (Qac (Qac ?_))
     have hE141 : R4 (x0.Active.length - 0) 0 () = Sum.inr () := Qbn hl60 hF58
     refine Qbm (Qi (Qf (sr (wa (nt' (Qab ?_))))))
     let F2 := fun k (_ : Unit) => Qsd x0 k
     let R5 := rng (R := Bool) F2
     refine Qbl (σ := Nat × (Unit) × (Unit)) (fun s => [(1, .pointer (some (⟨p41, 0, none⟩ : Addr))), (4, .int .i64 ((s.1 : Nat) : Int))]) (fun s => [Qa p41 47 K7]) (fun s => s.1 ≤ x0.Done.length ∧ R5 (x0.Done.length - s.1) s.1 s.2.1 = R5 (x0.Done.length - 0) 0 ()) (fun s => x0.Done.length - s.1) (0, (), ()) sl2 (fun W hm => hm) ⟨(by omega), rfl⟩ ?_
     rintro ⟨k142, ⟨⟩, ⟨⟩⟩ H145
     obtain ⟨hk143, hF144⟩ : k142 ≤ x0.Done.length ∧ R5 (x0.Done.length - k142) k142 () = R5 (x0.Done.length - 0) 0 () := H145
     show CM Tryz.prog 140 _ _ _ _ [(1, .pointer (some (⟨p41, 0, none⟩ : Addr))), (4, .int .i64 ((k142 : Nat) : Int))] [Qa p41 47 K7]
     refine Qf (sr (wm ?_))
     refine wv (vf Qaq rfl type44) ?_
     refine wv (vl 0 5 Qdn) ?_
     refine wv (Qai Qdn) ?_
     refine wv Qak ?_
     refine nt' ?_
     by_cases hl146 : k142 < x0.Done.length
     ·have g147 := dlT hl146
      refine Ql rfl g147 ?_
      refine Qq (Qi (Qf (Qab (sr ?_))))
      refine wv (vf Qaq rfl type44) ?_
      refine wv (vl 0 5 Qdn) ?_
      refine wm ?_
      obtain ⟨a148, rfl, hb149, he150⟩ := q29 (by omega)
      refine wv (vix 7 k142 Qdn Qdl) ?_
      obtain ⟨_, e158, hc151⟩ := he150 k142 _ (Qca (show k142 < x0.Done.length from by omega))
      obtain ⟨v152, v154, v156, rfl, r153, r155, r157⟩ := Qkj e158
      have l159 : ((gt x0.Done k142).Query.Conds).length ≤ 68719476736 := (s_0.2.2.2.1.2 _ (Qbh (show k142 < x0.Done.length from by omega))).1.1
      have l160 : ((gt x0.Done k142).Query.Out).length ≤ 68719476736 := (s_0.2.2.2.1.2 _ (Qbh (show k142 < x0.Done.length from by omega))).1.2
      have l161 : ((gt x0.Done k142).Rows).length ≤ 68719476736 := (s_0.2.2.2.1.2 _ (Qbh (show k142 < x0.Done.length from by omega))).2.1
      obtain ⟨m162, A163, c164, rfl, q165, r166⟩ := Qk r153
      obtain ⟨m167, A168, c169, rfl, q170, r171⟩ := Qk r155
      obtain ⟨m172, A173, c174, rfl, q175, r176⟩ := Qk r157
      let K8 : List Value := [.int .i64 ((gt x0.Done k142).Query.Id), .int .i64 ((gt x0.Done k142).Query.Tenant), .slice A163 ((gt x0.Done k142).Query.Conds).length c164, .slice A168 ((gt x0.Done k142).Query.Out).length c169, .int .i64 ((gt x0.Done k142).Time), .int .i64 ((gt x0.Done k142).Steps), .slice A173 ((gt x0.Done k142).Rows).length c174]
      refine wv (fun W hm => Qz (cs := K8) Qdh Qdl rfl rfl (hm.elCells (show (a148.add (k142 * 7)).block < w.heap.size from by rw [Qah]; exact hb149.1) hc151)) ?_
      refine Qbo Qdl rfl (Qo rfl) (by decide) (fun p177 => ?_)
      refine sb 0 K8 [Qa p41 47 [.slice A12 x0.Store.Segments.length c13, .int .i64 x0.Store.Now, .int .i64 x0.Cursor, .slice A17 x0.Order.length c18, .slice A22 x0.Active.length c23, .slice (some a148) x0.Done.length c28, .slice A32 x0.Ledger.length c33, .int .i64 x0.Steps]] (fun W hm => hm) Qdl ?_
      refine nt' (sr ?_)
      refine wv (vf Qdh rfl Qcl) ?_
      refine wv (fun W hm => Qz (cs := [.int .i64 ((gt x0.Done k142).Query.Id), .int .i64 ((gt x0.Done k142).Query.Tenant), .slice A163 ((gt x0.Done k142).Query.Conds).length c164, .slice A168 ((gt x0.Done k142).Query.Out).length c169]) Qch Qcl rfl rfl (hm.boxPart (n := 0) rfl rfl)) ?_
      refine wcv (Qr Qyj rfl) (fun W hm => Qacl W _ ((gt x0.Done k142).Query) (Qjb (x := ((gt x0.Done k142).Query)) (hm.rdS0 r166) (hm.rdS0 r171))) ?_
      refine wv Qbr ?_
      refine wm ?_
      rcases Bool.eq_false_or_eq_true (Qnj ((gt x0.Done k142).Query)) with g179 | g179
      ·
       refine wg (vf Qdh rfl Qh) (nt g179) ?_
       refine wg (vl 0 4 Qt) (nt g179) ?_
       refine wg (vf Qaq rfl Qae) (nt g179) ?_
       refine wg (fun W hm => Qdy (o := 1) Qaf rfl Qh (by decide) rfl rfl) (nt g179) ?_
       refine wg (vl 1 1 Qt) (nt g179) ?_
       refine Qdm (Qr Qep rfl) (fun W hm => Qer W ((gt x0.Done k142).Time) 0 x0.Store.Now) (Qcq rfl rfl rfl (bw (nt g179) rfl)) (by decide) ?_
       refine wg Qbr (nt g179) ?_
       refine wv (vpF (nt g179)) ?_
       refine wm ?_
       rcases Bool.eq_false_or_eq_true (Qbt ((gt x0.Done k142).Time) 0 x0.Store.Now) with g181 | g181
       ·
        have hw := Qev g181
        refine wg (vf Qdh rfl Qh) (nt g181) ?_
        refine wg (vl 0 5 Qt) (nt g181) ?_
        refine Qdm (Qr Qep rfl) (fun W hm => Qer W ((gt x0.Done k142).Steps) 0 100000) (Qcq rfl rfl rfl (bw (nt g181) rfl)) (by decide) ?_
        refine wg Qbr (nt g181) ?_
        refine wv (vpF (nt g181)) ?_
        refine wm ?_
        rcases Bool.eq_false_or_eq_true (Qbt ((gt x0.Done k142).Steps) 0 100000) with g183 | g183
        ·
         have hw := Qev g183
         refine wg (vf Qdh rfl Qfa) (nt g183) ?_
         refine wg (vl 0 6 Qdv) (nt g183) ?_
         refine Qdm (Qr Qyp rfl) (fun W hm => Qacs W _ ((gt x0.Done k142).Rows) (hm.rdS0 r176)) (Qcq rfl rfl rfl (bw (nt g183) rfl)) (by decide) ?_
         refine wg Qbr (nt g183) ?_
         refine wv (vpF (nt g183)) ?_
         refine nt' ?_
         rcases Bool.eq_false_or_eq_true (Qov ((gt x0.Done k142).Rows)) with g185 | g185
         ·
          refine Qp rfl (nt g185) ?_
          refine Qq (Qax (Qi (Qad (wm ?_))))
          refine wv (Qbd k142 1 (by omega)) ?_
          refine wa (Qal ?_)
          have hn186 := Qbb (R := Bool) (body := F2) (k := k142) (s := ()) (s' := ()) (show k142 < x0.Done.length from by omega) (Qb g179 (Qb g181 (Qb g183 (Qb g185 (rfl))))) hF144
          exact Qaz (k142 + 1, (), ()) sl2 (pk [1]) ⟨(by omega), hn186⟩ (rl (by omega))
         refine Ql rfl (nf g185) ?_
         refine sr (wa (nt' (Qj (Qy (Qe (Qe (Qy (Qe ?_))))))))
         exact rtb (h := Qb g43 (Qb g45 (Qb g47 (Qc g49 (Qb g51 (Qc g53 (Qc g55 (Qat hE141 (Qba (Qbc (body := F2) (k := k142) (s := ()) (show k142 < x0.Done.length from by omega) (Qb g179 (Qb g181 (Qb g183 (Qc g185 (rfl))))) hF144) rfl)))))))))
        refine ws (nf g183) ?_
        refine ws (nf g183) ?_
        refine ws (nf g183) ?_
        refine ws (nf g183) ?_
        refine wv (vpT (nf g183)) ?_
        refine nt' ?_
        refine Ql rfl rfl ?_
        refine sr (wa (nt' (Qj (Qy (Qe (Qe (Qy (Qe ?_))))))))
        exact rtb (h := Qb g43 (Qb g45 (Qb g47 (Qc g49 (Qb g51 (Qc g53 (Qc g55 (Qat hE141 (Qba (Qbc (body := F2) (k := k142) (s := ()) (show k142 < x0.Done.length from by omega) (Qb g179 (Qb g181 (Qc g183 (rfl)))) hF144) rfl)))))))))
       refine ws (nf g181) ?_
       refine ws (nf g181) ?_
       refine ws (nf g181) ?_
       refine ws (nf g181) ?_
       refine wv (vpT (nf g181)) ?_
       refine wm ?_
       refine wk ?_
       refine wk ?_
       refine wk ?_
       refine wk ?_
       refine wv (vpT rfl) ?_
       refine nt' ?_
       refine Ql rfl rfl ?_
       refine sr (wa (nt' (Qj (Qy (Qe (Qe (Qy (Qe ?_))))))))
       exact rtb (h := Qb g43 (Qb g45 (Qb g47 (Qc g49 (Qb g51 (Qc g53 (Qc g55 (Qat hE141 (Qba (Qbc (body := F2) (k := k142) (s := ()) (show k142 < x0.Done.length from by omega) (Qb g179 (Qc g181 (rfl))) hF144) rfl)))))))))
      refine ws (nf g179) ?_
      refine ws (nf g179) ?_
      refine ws (nf g179) ?_
      refine ws (nf g179) ?_
      refine ws (nf g179) ?_
      refine ws (nf g179) ?_
      refine ws (nf g179) ?_
      refine wv (vpT (nf g179)) ?_
      refine wm ?_
      refine wk ?_
      refine wk ?_
      refine wk ?_
      refine wk ?_
      refine wv (vpT rfl) ?_
      refine wm ?_
      refine wk ?_
      refine wk ?_
      refine wk ?_
      refine wk ?_
      refine wv (vpT rfl) ?_
      refine nt' ?_
      refine Ql rfl rfl ?_
      refine sr (wa (nt' (Qj (Qy (Qe (Qe (Qy (Qe ?_))))))))
      exact rtb (h := Qb g43 (Qb g45 (Qb g47 (Qc g49 (Qb g51 (Qc g53 (Qc g55 (Qat hE141 (Qba (Qbc (body := F2) (k := k142) (s := ()) (show k142 < x0.Done.length from by omega) (Qc g179 (rfl)) hF144) rfl)))))))))
     have g147 := dlF hl146
     refine Qp rfl g147 ?_
     refine Qbk (Qac (Qac ?_))
     have hE187 : R5 (x0.Done.length - 0) 0 () = Sum.inr () := Qbn hl146 hF144
     refine Qbm (Qi (Qf (sr (wa (nt' (Qab ?_))))))
     let F3 := fun k (_ : Unit) => Qse x0 k
     let R6 := rng (R := Bool) F3
     refine Qbl (σ := Nat × (Unit) × (Unit)) (fun s => [(1, .pointer (some (⟨p41, 0, none⟩ : Addr))), (6, .int .i64 ((s.1 : Nat) : Int))]) (fun s => [Qa p41 47 K7]) (fun s => s.1 ≤ x0.Ledger.length ∧ R6 (x0.Ledger.length - s.1) s.1 s.2.1 = R6 (x0.Ledger.length - 0) 0 ()) (fun s => x0.Ledger.length - s.1) (0, (), ()) sl2 (fun W hm => hm) ⟨(by omega), rfl⟩ ?_
     rintro ⟨k188, ⟨⟩, ⟨⟩⟩ H191
     obtain ⟨hk189, hF190⟩ : k188 ≤ x0.Ledger.length ∧ R6 (x0.Ledger.length - k188) k188 () = R6 (x0.Ledger.length - 0) 0 () := H191
     show CM Tryz.prog 140 _ _ _ _ [(1, .pointer (some (⟨p41, 0, none⟩ : Addr))), (6, .int .i64 ((k188 : Nat) : Int))] [Qa p41 47 K7]
     refine Qf (sr (wm ?_))
     refine wv (vf Qaq rfl type45) ?_
     refine wv (vl 0 6 Qdt) ?_
     refine wv (Qai Qdt) ?_
     refine wv Qak ?_
     refine nt' ?_
     by_cases hl192 : k188 < x0.Ledger.length
     ·have g193 := dlT hl192
      refine Ql rfl g193 ?_
      refine Qq (Qi (Qf (Qab (sr ?_))))
      refine wv (vf Qaq rfl type45) ?_
      refine wv (vl 0 6 Qdt) ?_
      refine wm ?_
      obtain ⟨a194, rfl, hb195, he196⟩ := q34 (by omega)
      refine wv (vix 5 k188 Qdt Qdr) ?_
      obtain ⟨_, e204, hc197⟩ := he196 k188 _ (Qca (show k188 < x0.Ledger.length from by omega))
      obtain ⟨v198, v200, v202, rfl, r199, r201, r203⟩ := Qik e204
      have l205 : ((gt x0.Ledger k188).Ids).length ≤ 68719476736 := (s_0.2.2.2.2.2 _ (Qbh (show k188 < x0.Ledger.length from by omega))).1
      have l206 : ((gt x0.Ledger k188).Tenants).length ≤ 68719476736 := (s_0.2.2.2.2.2 _ (Qbh (show k188 < x0.Ledger.length from by omega))).2.1
      have l207 : ((gt x0.Ledger k188).Rows).length ≤ 68719476736 := (s_0.2.2.2.2.2 _ (Qbh (show k188 < x0.Ledger.length from by omega))).2.2
      obtain ⟨m208, A209, c210, rfl, q211, r212⟩ := Qk r199
      obtain ⟨m213, A214, c215, rfl, q216, r217⟩ := Qk r201
      obtain ⟨m218, A219, c220, rfl, q221, r222⟩ := Qk r203
      refine wv (fun W hm => Qz (cs := [.int .i64 ((gt x0.Ledger k188).Segment), .int .i64 ((gt x0.Ledger k188).Base), .slice A209 ((gt x0.Ledger k188).Ids).length c210, .slice A214 ((gt x0.Ledger k188).Tenants).length c215, .slice A219 ((gt x0.Ledger k188).Rows).length c220]) Qcm Qdr rfl rfl (hm.elCells (show (a194.add (k188 * 5)).block < w.heap.size from by rw [Qah]; exact hb195.1) hc197)) ?_
      refine wcv (Qr Qagl rfl) (fun W hm => Qarl W _ (gt x0.Ledger k188) (Qoy (x := (gt x0.Ledger k188)) (hm.rdS0 r212) (hm.rdS0 r217) (hm.rdS0 r222))) ?_
      refine wv Qbr ?_
      refine nt' ?_
      rcases Bool.eq_false_or_eq_true (Qnh (gt x0.Ledger k188)) with g224 | g224
      ·
       refine Qp rfl (nt g224) ?_
       refine Qq (Qax (Qi (Qad (wm ?_))))
       refine wv (Qbd k188 1 (by omega)) ?_
       refine wa (Qal ?_)
       have hn225 := Qbb (R := Bool) (body := F3) (k := k188) (s := ()) (s' := ()) (show k188 < x0.Ledger.length from by omega) (Qb g224 (rfl)) hF190
       exact Qaz (k188 + 1, (), ()) sl2 (fun W hm => hm) ⟨(by omega), hn225⟩ (rl (by omega))
      refine Ql rfl (nf g224) ?_
      refine sr (wa (nt' (Qj (Qy (Qe (Qe (Qy (Qe ?_))))))))
      exact rtb (h := Qb g43 (Qb g45 (Qb g47 (Qc g49 (Qb g51 (Qc g53 (Qc g55 (Qat hE141 (Qat hE187 (Qba (Qbc (body := F3) (k := k188) (s := ()) (show k188 < x0.Ledger.length from by omega) (Qc g224 (rfl)) hF190) rfl))))))))))
     have g193 := dlF hl192
     refine Qp rfl g193 ?_
     refine Qbk (Qac (Qac ?_))
     have hE226 : R6 (x0.Ledger.length - 0) 0 () = Sum.inr () := Qbn hl192 hF190
     refine Qbm (Qi (sr (wa (nt' (Qj ?_)))))
     exact rtb (h := Qb g43 (Qb g45 (Qb g47 (Qc g49 (Qb g51 (Qc g53 (Qc g55 (Qat hE141 (Qat hE187 (Qat hE226 (rfl)))))))))))
    refine ws (nf g51) ?_
    refine ws (nf g51) ?_
    refine ws (nf g51) ?_
    refine ws (nf g51) ?_
    refine wv (vpT (nf g51)) ?_
    refine wm ?_
    refine wk ?_
    refine wk ?_
    refine wk ?_
    refine wk ?_
    refine wv (vpT rfl) ?_
    refine nt' ?_
    refine Ql rfl rfl ?_
    refine sr (wa (nt' (Qj (Qe ?_))))
    exact rtb (h := Qb g43 (Qb g45 (Qb g47 (Qc g49 (Qc g51 (rfl))))))
   refine ws (nf g47) ?_
   refine ws (nf g47) ?_
   refine ws (nf g47) ?_
   refine ws (nf g47) ?_
   refine wv (vpT (nf g47)) ?_
   refine wm ?_
   refine wk ?_
   refine wk ?_
   refine wk ?_
   refine wk ?_
   refine wv (vpT rfl) ?_
   refine wm ?_
   refine wk ?_
   refine wk ?_
   refine wk ?_
   refine wk ?_
   refine wv (vpT rfl) ?_
   refine wm ?_
   refine wk ?_
   refine wk ?_
   refine wk ?_
   refine wk ?_
   refine wv (vpT rfl) ?_
   refine nt' ?_
   refine Ql rfl rfl ?_
   refine sr (wa (nt' (Qj (Qe ?_))))
   exact rtb (h := Qb g43 (Qb g45 (Qc g47 (rfl))))
  refine ws (nf g45) ?_
  refine ws (nf g45) ?_
  refine ws (nf g45) ?_
  refine ws (nf g45) ?_
  refine wv (vpT (nf g45)) ?_
  refine wm ?_
  refine wk ?_
  refine wk ?_
  refine wk ?_
  refine wk ?_
  refine wv (vpT rfl) ?_
  refine wm ?_
  refine wk ?_
  refine wk ?_
  refine wk ?_
  refine wk ?_
  refine wv (vpT rfl) ?_
  refine wm ?_
  refine wk ?_
  refine wk ?_
  refine wk ?_
  refine wk ?_
  refine wv (vpT rfl) ?_
  refine wm ?_
  refine wk ?_
  refine wk ?_
  refine wk ?_
  refine wk ?_
  refine wv (vpT rfl) ?_
  refine nt' ?_
  refine Ql rfl rfl ?_
  refine sr (wa (nt' (Qj (Qe ?_))))
  exact rtb (h := Qb g43 (Qc g45 (rfl)))
 refine ws (nf g43) ?_
 refine ws (nf g43) ?_
 refine ws (nf g43) ?_
 refine ws (nf g43) ?_
 refine ws (nf g43) ?_
 refine ws (nf g43) ?_
 refine ws (nf g43) ?_
 refine ws (nf g43) ?_
 refine ws (nf g43) ?_
 refine wv (vpT (nf g43)) ?_
 refine wm ?_
 refine wk ?_
 refine wk ?_
 refine wk ?_
 refine wk ?_
 refine wv (vpT rfl) ?_
 refine wm ?_
 refine wk ?_
 refine wk ?_
 refine wk ?_
 refine wk ?_
 refine wv (vpT rfl) ?_
 refine wm ?_
 refine wk ?_
 refine wk ?_
 refine wk ?_
 refine wk ?_
 refine wv (vpT rfl) ?_
 refine wm ?_
 refine wk ?_
 refine wk ?_
 refine wk ?_
 refine wk ?_
 refine wv (vpT rfl) ?_
 refine wm ?_
 refine wk ?_
 refine wk ?_
 refine wk ?_
 refine wk ?_
 refine wv (vpT rfl) ?_
 refine nt' ?_
 refine Ql rfl rfl ?_
 refine sr (wa (nt' (Qj (Qe ?_))))
 exact rtb (h := Qc g43 (rfl))

def Qkv (x0 : Qci) : Bool :=
 cond (x0.Kind == 1) (cond (Qgx x0.Row) (cond (x0.Field == 0) (x0.Value == 0) false) false) (cond (x0.Kind == 2) (cond (Qbt x0.Row.Id 0 999) (cond (((x0.Row.Values.length : Nat) : Int) == 0) (cond (x0.Field == 0) (x0.Value == 0) false) false) false) (cond (x0.Kind == 3) (cond (Qbt x0.Row.Id 0 999) (cond (((x0.Row.Values.length : Nat) : Int) == 0) (cond (Qbt x0.Field 0 2) (Qbt x0.Value 0 99) false) false) false) false))
theorem Qahm : Cb Tryz.prog 197 := ⟨f197, _, func197, rfl, by decide⟩
theorem Qarq (w : World) (z0 : List Value) (x0 : Qci) (r_0 : Qfi.rd w w.heap.size z0 x0) :
  Calls Tryz.prog 197 #[.agg z0.toArray] w fun e w' => e = .returned (.bool (Qkv x0)) ∧ Below w.heap.size w w' := by
 obtain ⟨v1, rfl, r2⟩ := Qmo r_0
 obtain ⟨m3, A4, c5, rfl, q6, r7⟩ := Qk r2
 refine ce1 (L := [(0, .agg #[.int .i64 x0.Kind, .int .i64 x0.Row.Id, .slice A4 x0.Row.Values.length c5, .int .i64 x0.Field, .int .i64 x0.Value])]) (N := 66) func197 ?_
 refine sr ?_
 refine Qbj rfl (Qo rfl) (by decide) (fun p8 => ?_)
 refine wa (nt' (Qf (sr ?_)))
 refine wv (vf Qbs rfl Qh) ?_
 refine wv (vl 0 0 Qt) ?_
 refine nt' (Qab (sr ?_))
 refine wv (fun W hm => Qdj rfl rfl) ?_
 refine wa (nt' ?_)
 by_cases h9 : x0.Kind = 1
 ·have g10 := beq_iff_eq.2 h9
  refine Ql rfl g10 ?_
  refine sr ?_
  refine wv (vf Qbs rfl Qcc) ?_
  refine wv (fun W hm => Qz (cs := [.int .i64 x0.Row.Id, .slice A4 x0.Row.Values.length c5]) Qde Qcc rfl rfl (hm.boxPart (n := 0) rfl rfl)) ?_
  refine wcv (Qr Qtm rfl) (fun W hm => Qwf W _ x0.Row (Qim (x := x0.Row) (hm.rdS0 r7))) ?_
  refine wm ?_
  rcases Bool.eq_false_or_eq_true (Qgx x0.Row) with g12 | g12
  ·
   refine wg (vf Qbs rfl Qh) g12 ?_
   refine wg (vl 0 3 Qt) g12 ?_
   refine wg (fun W hm => Qdj rfl rfl) g12 ?_
   refine wv (vpT g12) ?_
   refine wm ?_
   by_cases h13 : x0.Field = 0
   ·have g14 := beq_iff_eq.2 h13
    refine wg (vf Qbs rfl Qh) g14 ?_
    refine wg (vl 0 4 Qt) g14 ?_
    refine wg (fun W hm => Qdj rfl rfl) g14 ?_
    refine wv (vpT g14) ?_
    refine wa (nt' (Qj (Qy (Qe ?_))))
    exact rtb (h := Qb g10 (Qb g12 (Qb g14 (rfl))))
   have g14 := beq_eq_false_iff_ne.2 h13
   refine ws g14 ?_
   refine ws g14 ?_
   refine ws g14 ?_
   refine wv (vpF g14) ?_
   refine wa (nt' (Qj (Qy (Qe ?_))))
   exact rtb (h := Qb g10 (Qb g12 (Qc g14 (rfl))))
  refine ws g12 ?_
  refine ws g12 ?_
  refine ws g12 ?_
  refine wv (vpF g12) ?_
  refine wm ?_
  refine wk ?_
  refine wk ?_
  refine wk ?_
  refine wv (vpF rfl) ?_
  refine wa (nt' (Qj (Qy (Qe ?_))))
  exact rtb (h := Qb g10 (Qc g12 (rfl)))
 have g10 := beq_eq_false_iff_ne.2 h9
 refine Qp rfl g10 ?_
 refine sr ?_
 refine wv (fun W hm => Qdj rfl rfl) ?_
 refine wa (nt' ?_)
 by_cases h15 : x0.Kind = 2
 ·have g16 := beq_iff_eq.2 h15
  refine Ql rfl g16 ?_
  refine sr ?_
  refine wv (vf Qbs rfl Qcc) ?_
  refine wv (fun W hm => Qdy (o := 1) Qde rfl Qh (by decide) rfl rfl) ?_
  refine wv (vl 0 1 Qt) ?_
  refine wcv (Qr Qep rfl) (fun W hm => Qer W x0.Row.Id 0 999) ?_
  refine wm ?_
  rcases Bool.eq_false_or_eq_true (Qbt x0.Row.Id 0 999) with g18 | g18
  ·
   have hw := Qev g18
   refine wg (vf Qbs rfl Qcc) g18 ?_
   refine wg (fun W hm => Qdy (o := 2) Qde rfl Qap (by decide) rfl rfl) g18 ?_
   refine wg (vl 0 2 Qv) g18 ?_
   refine wg (Qai Qv) g18 ?_
   refine wg (fun W hm => Qdj rfl rfl) g18 ?_
   refine wv (vpT g18) ?_
   refine wm ?_
   by_cases h19 : ((x0.Row.Values.length : Nat) : Int) = 0
   ·have g20 := beq_iff_eq.2 h19
    refine wg (vf Qbs rfl Qh) g20 ?_
    refine wg (vl 0 3 Qt) g20 ?_
    refine wg (fun W hm => Qdj rfl rfl) g20 ?_
    refine wv (vpT g20) ?_
    refine wm ?_
    by_cases h21 : x0.Field = 0
    ·have g22 := beq_iff_eq.2 h21
     refine wg (vf Qbs rfl Qh) g22 ?_
     refine wg (vl 0 4 Qt) g22 ?_
     refine wg (fun W hm => Qdj rfl rfl) g22 ?_
     refine wv (vpT g22) ?_
     refine wa (nt' (Qj (Qy (Qe ?_))))
     exact rtb (h := Qc g10 (Qb g16 (Qb g18 (Qb g20 (Qb g22 (rfl))))))
    have g22 := beq_eq_false_iff_ne.2 h21
    refine ws g22 ?_
    refine ws g22 ?_
    refine ws g22 ?_
    refine wv (vpF g22) ?_
    refine wa (nt' (Qj (Qy (Qe ?_))))
    exact rtb (h := Qc g10 (Qb g16 (Qb g18 (Qb g20 (Qc g22 (rfl))))))
   have g20 := beq_eq_false_iff_ne.2 h19
   refine ws g20 ?_
   refine ws g20 ?_
   refine ws g20 ?_
   refine wv (vpF g20) ?_
   refine wm ?_
   refine wk ?_
   refine wk ?_
   refine wk ?_
   refine wv (vpF rfl) ?_
   refine wa (nt' (Qj (Qy (Qe ?_))))
   exact rtb (h := Qc g10 (Qb g16 (Qb g18 (Qc g20 (rfl)))))
  refine ws g18 ?_
  refine ws g18 ?_
  refine ws g18 ?_
  refine ws g18 ?_
  refine ws g18 ?_
  refine wv (vpF g18) ?_
  refine wm ?_
  refine wk ?_
  refine wk ?_
  refine wk ?_
  refine wv (vpF rfl) ?_
  refine wm ?_
  refine wk ?_
  refine wk ?_
  refine wk ?_
  refine wv (vpF rfl) ?_
  refine wa (nt' (Qj (Qy (Qe ?_))))
  exact rtb (h := Qc g10 (Qb g16 (Qc g18 (rfl))))
 have g16 := beq_eq_false_iff_ne.2 h15
 refine Qp rfl g16 ?_
 refine sr ?_
 refine wv (fun W hm => Qdj rfl rfl) ?_
 refine wa (nt' ?_)
 by_cases h23 : x0.Kind = 3
 ·have g24 := beq_iff_eq.2 h23
  refine Ql rfl g24 ?_
  refine sr ?_
  refine wv (vf Qbs rfl Qcc) ?_
  refine wv (fun W hm => Qdy (o := 1) Qde rfl Qh (by decide) rfl rfl) ?_
  refine wv (vl 0 1 Qt) ?_
  refine wcv (Qr Qep rfl) (fun W hm => Qer W x0.Row.Id 0 999) ?_
  refine wm ?_
  rcases Bool.eq_false_or_eq_true (Qbt x0.Row.Id 0 999) with g26 | g26
  ·
   have hw := Qev g26
   refine wg (vf Qbs rfl Qcc) g26 ?_
   refine wg (fun W hm => Qdy (o := 2) Qde rfl Qap (by decide) rfl rfl) g26 ?_
   refine wg (vl 0 2 Qv) g26 ?_
   refine wg (Qai Qv) g26 ?_
   refine wg (fun W hm => Qdj rfl rfl) g26 ?_
   refine wv (vpT g26) ?_
   refine wm ?_
   by_cases h27 : ((x0.Row.Values.length : Nat) : Int) = 0
   ·have g28 := beq_iff_eq.2 h27
    refine wg (vf Qbs rfl Qh) g28 ?_
    refine wg (vl 0 3 Qt) g28 ?_
    refine Qdm (Qr Qep rfl) (fun W hm => Qer W x0.Field 0 2) (Qcq rfl rfl rfl (bw g28 rfl)) (by decide) ?_
    refine wv (vpT g28) ?_
    refine wm ?_
    rcases Bool.eq_false_or_eq_true (Qbt x0.Field 0 2) with g30 | g30
    ·
     have hw := Qev g30
     refine wg (vf Qbs rfl Qh) g30 ?_
     refine wg (vl 0 4 Qt) g30 ?_
     refine Qdm (Qr Qep rfl) (fun W hm => Qer W x0.Value 0 99) (Qcq rfl rfl rfl (bw g30 rfl)) (by decide) ?_
     refine wv (vpT g30) ?_
     refine wa (nt' (Qj (Qy (Qe ?_))))
     exact rtb (h := Qc g10 (Qc g16 (Qb g24 (Qb g26 (Qb g28 (Qb g30 (rfl)))))))
    refine ws g30 ?_
    refine ws g30 ?_
    refine ws g30 ?_
    refine wv (vpF g30) ?_
    refine wa (nt' (Qj (Qy (Qe ?_))))
    exact rtb (h := Qc g10 (Qc g16 (Qb g24 (Qb g26 (Qb g28 (Qc g30 (rfl)))))))
   have g28 := beq_eq_false_iff_ne.2 h27
   refine ws g28 ?_
   refine ws g28 ?_
   refine ws g28 ?_
   refine wv (vpF g28) ?_
   refine wm ?_
   refine wk ?_
   refine wk ?_
   refine wk ?_
   refine wv (vpF rfl) ?_
   refine wa (nt' (Qj (Qy (Qe ?_))))
   exact rtb (h := Qc g10 (Qc g16 (Qb g24 (Qb g26 (Qc g28 (rfl))))))
  refine ws g26 ?_
  refine ws g26 ?_
  refine ws g26 ?_
  refine ws g26 ?_
  refine ws g26 ?_
  refine wv (vpF g26) ?_
  refine wm ?_
  refine wk ?_
  refine wk ?_
  refine wk ?_
  refine wv (vpF rfl) ?_
  refine wm ?_
  refine wk ?_
  refine wk ?_
  refine wk ?_
  refine wv (vpF rfl) ?_
  refine wa (nt' (Qj (Qy (Qe ?_))))
  exact rtb (h := Qc g10 (Qc g16 (Qb g24 (Qc g26 (rfl)))))
 have g24 := beq_eq_false_iff_ne.2 h23
 refine Qp rfl g24 ?_
 refine Qq (Qax (Qi (sr (wa (nt' (Qj ?_))))))
 exact rtb (h := Qc g10 (Qc g16 (Qc g24 (rfl))))

def Qou (x0 : Qx) (x1 : Int) (k9 : Nat) (k27 : Nat) : (Int × Int) ⊕ (Unit) :=
 cond (((gt (gt x0.Segments k9) k27).Id) == x1) (cond (((gt (gt x0.Segments k9) k27).Died) == (-1)) (Sum.inl (((k9 : Nat) : Int), ((k27 : Nat) : Int))) (Sum.inr ())) (Sum.inr ())
def Qnm (x0 : Qx) (x1 : Int) (k9 : Nat) : (Int × Int) ⊕ (Unit) :=
 Sum.elim Sum.inl (fun (s : Unit) => Sum.inr ()) (rng (R := (Int × Int)) (fun k (_ : Unit) => Qou x0 x1 k9 k) (((gt x0.Segments k9)).length - 0) 0 ())
def Qw (x0 : Qx) (x1 : Int) : (Int × Int) :=
 Sum.elim id (fun (s : Unit) => ((-1), (-1))) (rng (R := (Int × Int)) (fun k (_ : Unit) => Qnm x0 x1 k) (x0.Segments.length - 0) 0 ())
theorem Qahn : Cb Tryz.prog 198 := ⟨f198, _, func198, rfl, by decide⟩
theorem Qaso (w : World) (z0 : List Value) (x0 : Qx) (x1 : Int) (r_0 : Qcz.rd w w.heap.size z0 x0) :
  Calls Tryz.prog 198 #[.agg z0.toArray, .int .i64 x1] w fun e w' => e = .returned (.tuple #[.int .i64 ((Qw x0 x1).1), .int .i64 ((Qw x0 x1).2)]) ∧ Below w.heap.size w w' := by
 obtain ⟨v1, rfl, r2⟩ := Qgy r_0
 obtain ⟨m3, A4, c5, rfl, q6, r7⟩ := Qk r2
 refine ce2 (L := [(0, .agg #[.slice A4 x0.Segments.length c5, .int .i64 x0.Now]), (1, .int .i64 x1)]) (N := 50) func198 ?_
 refine sr ?_
 refine Qbj rfl (Qo rfl) (by decide) (fun p8 => ?_)
 refine wa (wa (nt' (Qf (sr (wa (nt' (Qab ?_)))))))
 let F1 := fun k (_ : Unit) => Qnm x0 x1 k
 let R3 := rng (R := (Int × Int)) F1
 let I5 : It := Qa p8 42 [.slice A4 x0.Segments.length c5, .int .i64 x0.Now]
 refine Qbl (σ := Nat × (Unit) × (Unit)) (fun s => [(1, .int .i64 x1), (2, .pointer (some (⟨p8, 0, none⟩ : Addr))), (6, .int .i64 ((s.1 : Nat) : Int))]) (fun s => [I5]) (fun s => s.1 ≤ x0.Segments.length ∧ R3 (x0.Segments.length - s.1) s.1 s.2.1 = R3 (x0.Segments.length - 0) 0 ()) (fun s => x0.Segments.length - s.1) (0, (), ()) sl3 (fun W hm => hm) ⟨(by omega), rfl⟩ ?_
 rintro ⟨k9, ⟨⟩, ⟨⟩⟩ H12
 obtain ⟨hk10, hF11⟩ : k9 ≤ x0.Segments.length ∧ R3 (x0.Segments.length - k9) k9 () = R3 (x0.Segments.length - 0) 0 () := H12
 show CM Tryz.prog 50 _ _ _ _ [(1, .int .i64 x1), (2, .pointer (some (⟨p8, 0, none⟩ : Addr))), (6, .int .i64 ((k9 : Nat) : Int))] [I5]
 refine Qf (sr (wm ?_))
 refine wv (vf Qaf rfl Qcu) ?_
 refine wv (vl 0 0 Qas) ?_
 refine wv (Qai Qas) ?_
 refine wv Qak ?_
 refine nt' ?_
 by_cases hl13 : k9 < x0.Segments.length
 ·have g14 := dlT hl13
  refine Ql rfl g14 ?_
  refine Qq (Qi (Qf (Qab (sr (wa (nt' (Qab ?_)))))))
  obtain ⟨a15, rfl, hb16, he17⟩ := q6 (by omega)
  obtain ⟨_, e19, hc18⟩ := he17 k9 _ (Qca (show k9 < x0.Segments.length from by omega))
  obtain ⟨v20, rfl, r21⟩ := e19
  obtain ⟨m22, A23, c24, rfl, q25, r26⟩ := Qk r21
  let F2 := fun k (_ : Unit) => Qou x0 x1 k9 k
  let R4 := rng (R := (Int × Int)) F2
  let I6 : It := Qa p8 42 [.slice (some a15) x0.Segments.length c5, .int .i64 x0.Now]
  refine Qbl (σ := Nat × (Unit) × (Unit)) (fun s => [(1, .int .i64 x1), (2, .pointer (some (⟨p8, 0, none⟩ : Addr))), (6, .int .i64 ((k9 : Nat) : Int)), (7, .int .i64 ((s.1 : Nat) : Int))]) (fun s => [I6]) (fun s => s.1 ≤ ((gt x0.Segments k9)).length ∧ R4 (((gt x0.Segments k9)).length - s.1) s.1 s.2.1 = R4 (((gt x0.Segments k9)).length - 0) 0 ()) (fun s => ((gt x0.Segments k9)).length - s.1) (0, (), ()) sl4 (fun W hm => hm) ⟨(by omega), rfl⟩ ?_
  rintro ⟨k27, ⟨⟩, ⟨⟩⟩ H30
  obtain ⟨hk28, hF29⟩ : k27 ≤ ((gt x0.Segments k9)).length ∧ R4 (((gt x0.Segments k9)).length - k27) k27 () = R4 (((gt x0.Segments k9)).length - 0) 0 () := H30
  show CM Tryz.prog 50 _ _ _ _ [(1, .int .i64 x1), (2, .pointer (some (⟨p8, 0, none⟩ : Addr))), (6, .int .i64 ((k9 : Nat) : Int)), (7, .int .i64 ((k27 : Nat) : Int))] [I6]
  refine Qf (sr (wm ?_))
  refine wv (vf Qaf rfl Qcu) ?_
  refine wv (vl 0 0 Qas) ?_
  refine wm ?_
  refine wv (vix 1 k9 Qas Qda) ?_
  refine wv (fun W hm => Qaw Qav rfl rfl ((hm.cell0 (show (a15.add (k9 * 1)).block < w.heap.size from by rw [Qah]; exact hb16.1)).trans (hc18 0 _ rfl))) ?_
  refine wv (Qai Qav) ?_
  refine wv Qak ?_
  refine nt' ?_
  by_cases hl31 : k27 < ((gt x0.Segments k9)).length
  ·have g32 := dlT hl31
   refine Ql rfl g32 ?_
   refine Qq (Qi (Qf (Qab (sr ?_))))
   refine wv (vf Qaf rfl Qcu) ?_
   refine wv (vl 0 0 Qas) ?_
   refine wm ?_
   refine wv (vix 1 k9 Qas Qda) ?_
   refine wv (fun W hm => Qaw Qav rfl rfl ((hm.cell0 (show (a15.add (k9 * 1)).block < w.heap.size from by rw [Qah]; exact hb16.1)).trans (hc18 0 _ rfl))) ?_
   refine wm ?_
   obtain ⟨a33, rfl, hb34, he35⟩ := q25 (by omega)
   refine wv (vix 4 k27 Qav Qar) ?_
   refine wv (vf Qbe rfl Qh) ?_
   obtain ⟨_, e39, hc36⟩ := he35 k27 _ (Qca (show k27 < ((gt x0.Segments k9)).length from by omega))
   obtain ⟨v37, rfl, r38⟩ := Qfm e39
   obtain ⟨m40, A41, c42, rfl, q43, r44⟩ := Qk r38
   refine wv (fun W hm => Qaw Qt rfl rfl ((hm.cell0 (show ((a33.add (k27 * 4)).add 0).block < w.heap.size from by rw [Qah, Qah]; exact hb34.1)).trans (hc36 0 _ rfl))) ?_
   refine wm ?_
   refine wv (fun W hm => Qdj rfl rfl) ?_
   refine wm ?_
   by_cases h45 : ((gt (gt x0.Segments k9) k27).Id) = x1
   ·have g46 := beq_iff_eq.2 h45
    refine wg (vf Qaf rfl Qcu) g46 ?_
    refine wg (vl 0 0 Qas) g46 ?_
    refine wg vmv g46 ?_
    refine wg (vix 1 k9 Qas Qda) g46 ?_
    refine wg (fun W hm => Qaw Qav rfl rfl ((hm.cell0 (show (a15.add (k9 * 1)).block < w.heap.size from by rw [Qah]; exact hb16.1)).trans (hc18 0 _ rfl))) g46 ?_
    refine wg vmv g46 ?_
    refine wg (vix 4 k27 Qav Qar) g46 ?_
    refine wg (vf Qbe rfl Qh) g46 ?_
    refine wg (fun W hm => Qaw Qt rfl rfl ((hm.cell0 (show ((a33.add (k27 * 4)).add 3).block < w.heap.size from by rw [Qah, Qah]; exact hb34.1)).trans (hc36 3 _ rfl))) g46 ?_
    refine wg (fun W hm => Qdj rfl rfl) g46 ?_
    refine wv (vpT g46) ?_
    refine nt' ?_
    by_cases h47 : ((gt (gt x0.Segments k9) k27).Died) = (-1)
    ·have g48 := beq_iff_eq.2 h47
     refine Ql rfl g48 ?_
     refine sr (wm (wm (wa (wa (nt' (Qj (Qy (Qe (Qe (Qy (Qy (Qe (Qe (Qy (Qe ?_)))))))))))))))
     have he49 := (show Qw x0 x1 = (((k9 : Nat) : Int), ((k27 : Nat) : Int)) from Qba (Qbc (body := F1) (k := k9) (s := ()) (show k9 < x0.Segments.length from by omega) (Qba (Qbc (body := F2) (k := k27) (s := ()) (show k27 < ((gt x0.Segments k9)).length from by omega) (Qb g46 (Qb g48 (rfl))) hF29) rfl) hF11) rfl)
     exact Qdx rfl (Qcv rfl) (Qcv rfl) (fun W hm => ⟨by rw [he49], hm.below⟩)
    have g48 := beq_eq_false_iff_ne.2 h47
    refine Qp rfl g48 ?_
    refine Qq (Qax (Qi (Qad (wm ?_))))
    refine wv (Qbd k27 1 (by omega)) ?_
    refine wa (Qal ?_)
    have hn50 := Qbb (R := (Int × Int)) (body := F2) (k := k27) (s := ()) (s' := ()) (show k27 < ((gt x0.Segments k9)).length from by omega) (Qb g46 (Qc g48 (rfl))) hF29
    exact Qaz (k27 + 1, (), ()) sl4 (fun W hm => hm) ⟨(by omega), hn50⟩ (show ((gt x0.Segments k9)).length - (k27 + 1) < ((gt x0.Segments k9)).length - k27 from by omega)
   have g46 := beq_eq_false_iff_ne.2 h45
   refine ws g46 ?_
   refine ws g46 ?_
   refine ws g46 ?_
   refine ws g46 ?_
   refine ws g46 ?_
   refine ws g46 ?_
   refine ws g46 ?_
   refine ws g46 ?_
   refine ws g46 ?_
   refine ws g46 ?_
   refine wv (vpF g46) ?_
   refine nt' ?_
   refine Qp rfl rfl ?_
   refine Qq (Qax (Qi (Qad (wm ?_))))
   refine wv (Qbd k27 1 (by omega)) ?_
   refine wa (Qal ?_)
   have hn51 := Qbb (R := (Int × Int)) (body := F2) (k := k27) (s := ()) (s' := ()) (show k27 < ((gt x0.Segments k9)).length from by omega) (Qc g46 (rfl)) hF29
   exact Qaz (k27 + 1, (), ()) sl4 (fun W hm => hm) ⟨(by omega), hn51⟩ (show ((gt x0.Segments k9)).length - (k27 + 1) < ((gt x0.Segments k9)).length - k27 from by omega)
  have g32 := dlF hl31
  refine Qp rfl g32 ?_
  refine Qbk (Qac (Qac ?_))
  have hE52 : R4 (((gt x0.Segments k9)).length - 0) 0 () = Sum.inr () := Qbn hl31 hF29
  refine Qbm (Qax (Qi (Qad (wm ?_))))
  refine wv (Qbd k9 1 (by omega)) ?_
  refine wa (Qal ?_)
  have hn53 := Qbb (R := (Int × Int)) (body := F1) (k := k9) (s := ()) (s' := ()) (show k9 < x0.Segments.length from by omega) (Qat hE52 (rfl)) hF11
  exact Qaz (k9 + 1, (), ()) sl3 (fun W hm => hm) ⟨(by omega), hn53⟩ (rl (by omega))
 have g14 := dlF hl13
 refine Qp rfl g14 ?_
 refine Qbk (Qac (Qac ?_))
 have hE54 : R3 (x0.Segments.length - 0) 0 () = Sum.inr () := Qbn hl13 hF11
 refine Qbm (Qi (sr (wa (wa (nt' (Qj ?_))))))
 have he55 := (show Qw x0 x1 = ((-1), (-1)) from Qat hE54 (rfl))
 exact Qdx rfl (Qcv rfl) (Qcv rfl) (fun W hm => ⟨by rw [he55], hm.below⟩)

def Qhp (x0 : Qx) (k9 : Nat) : Int ⊕ (Unit) :=
 cond (decide (((((gt x0.Segments k9)).length : Nat) : Int) < 4)) (Sum.inl ((k9 : Nat) : Int)) (Sum.inr ())
def Qbq (x0 : Qx) : Int :=
 Sum.elim id (fun (s : Unit) => (-1)) (rng (R := Int) (fun k (_ : Unit) => Qhp x0 k) (x0.Segments.length - 0) 0 ())
theorem Qaho : Cb Tryz.prog 199 := ⟨f199, _, func199, rfl, by decide⟩
theorem Qasp (w : World) (z0 : List Value) (x0 : Qx) (r_0 : Qcz.rd w w.heap.size z0 x0) :
  Calls Tryz.prog 199 #[.agg z0.toArray] w fun e w' => e = .returned (.int .i64 (Qbq x0)) ∧ Below w.heap.size w w' := by
 obtain ⟨v1, rfl, r2⟩ := Qgy r_0
 obtain ⟨m3, A4, c5, rfl, q6, r7⟩ := Qk r2
 refine ce1 (L := [(0, .agg #[.slice A4 x0.Segments.length c5, .int .i64 x0.Now])]) (N := 19) func199 ?_
 refine sr ?_
 refine Qbj rfl (Qo rfl) (by decide) (fun p8 => ?_)
 refine wa (nt' (Qf (sr (wa (nt' (Qab ?_))))))
 let F1 := fun k (_ : Unit) => Qhp x0 k
 let R2 := rng (R := Int) F1
 let I3 : It := Qa p8 42 [.slice A4 x0.Segments.length c5, .int .i64 x0.Now]
 refine Qbl (σ := Nat × (Unit) × (Unit)) (fun s => [(1, .pointer (some (⟨p8, 0, none⟩ : Addr))), (3, .int .i64 ((s.1 : Nat) : Int))]) (fun s => [I3]) (fun s => s.1 ≤ x0.Segments.length ∧ R2 (x0.Segments.length - s.1) s.1 s.2.1 = R2 (x0.Segments.length - 0) 0 ()) (fun s => x0.Segments.length - s.1) (0, (), ()) sl2 (fun W hm => hm) ⟨(by omega), rfl⟩ ?_
 rintro ⟨k9, ⟨⟩, ⟨⟩⟩ H12
 obtain ⟨hk10, hF11⟩ : k9 ≤ x0.Segments.length ∧ R2 (x0.Segments.length - k9) k9 () = R2 (x0.Segments.length - 0) 0 () := H12
 show CM Tryz.prog 19 _ _ _ _ [(1, .pointer (some (⟨p8, 0, none⟩ : Addr))), (3, .int .i64 ((k9 : Nat) : Int))] [I3]
 refine Qf (sr (wm ?_))
 refine wv (vf Qaf rfl Qcu) ?_
 refine wv (vl 0 0 Qas) ?_
 refine wv (Qai Qas) ?_
 refine wv Qak ?_
 refine nt' ?_
 by_cases hl13 : k9 < x0.Segments.length
 ·have g14 := dlT hl13
  refine Ql rfl g14 ?_
  refine Qq (Qi (Qf (Qab (sr ?_))))
  refine wv (vf Qaf rfl Qcu) ?_
  refine wv (vl 0 0 Qas) ?_
  refine wm ?_
  obtain ⟨a15, rfl, hb16, he17⟩ := q6 (by omega)
  refine wv (vix 1 k9 Qas Qda) ?_
  obtain ⟨_, e19, hc18⟩ := he17 k9 _ (Qca (show k9 < x0.Segments.length from by omega))
  obtain ⟨v20, rfl, r21⟩ := e19
  obtain ⟨m22, A23, c24, rfl, q25, r26⟩ := Qk r21
  refine wv (fun W hm => Qaw Qav rfl rfl ((hm.cell0 (show (a15.add (k9 * 1)).block < w.heap.size from by rw [Qah]; exact hb16.1)).trans (hc18 0 _ rfl))) ?_
  refine wv (Qai Qav) ?_
  refine wv Qak ?_
  refine nt' ?_
  by_cases h27 : ((((gt x0.Segments k9)).length : Nat) : Int) < 4
  ·have g28 := decide_eq_true h27
   refine Ql rfl g28 ?_
   refine sr (wm (wa (nt' (Qj (Qy (Qe (Qe (Qy (Qe ?_)))))))))
   exact rti (h := Qba (Qbc (body := F1) (k := k9) (s := ()) (show k9 < x0.Segments.length from by omega) (Qb g28 (rfl)) hF11) rfl)
  have g28 := decide_eq_false h27
  refine Qp rfl g28 ?_
  refine Qq (Qax (Qi (Qad (wm ?_))))
  refine wv (Qbd k9 1 (by omega)) ?_
  refine wa (Qal ?_)
  have hn29 := Qbb (R := Int) (body := F1) (k := k9) (s := ()) (s' := ()) (show k9 < x0.Segments.length from by omega) (Qc g28 (rfl)) hF11
  exact Qaz (k9 + 1, (), ()) sl2 (fun W hm => hm) ⟨(by omega), hn29⟩ (rl (by omega))
 have g14 := dlF hl13
 refine Qp rfl g14 ?_
 refine Qbk (Qac (Qac ?_))
 have hE30 : R2 (x0.Segments.length - 0) 0 () = Sum.inr () := Qbn hl13 hF11
 refine Qbm (Qi (sr (wa (nt' (Qj ?_)))))
 exact rti (h := Qat hE30 (rfl))

end Go.Proofs.YtmikmbmdibabmaaGreat
