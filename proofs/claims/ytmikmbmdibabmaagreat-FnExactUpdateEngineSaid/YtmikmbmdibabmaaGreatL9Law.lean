/-
  The contract of the law.
-/
import Derived.Test.YtmikmbmdibabmaaGreatL9Pl
namespace Go.Proofs.YtmikmbmdibabmaaGreat
open Go.RowKit
set_option maxRecDepth 100000
set_option maxHeartbeats 4000000
open _root_.Go.Proofs.Tryz
def Qup (x0 : Qag) (x1 : Qci) : Bool :=
 cond (decide ((Qkb x0 1048576) < 0)) true (cond (decide ((Qon x1 (Qkb x0 1048576)) < 0)) true (cond (Qkp (Qdi (Qan x0) (Qbi x1)).1 (Qgi (Qan x0) (Qbi x1)).1) (cond ((Qdi (Qan x0) (Qbi x1)).2 != (Qgi (Qan x0) (Qbi x1)).2) false (cond (Qkp (Qan x0) (Qan x0)) (cond (Qpx (Qbi x1) (Qbi x1)) (cond (decide ((Qna (Qbi x1) (Qcb (Qan x0) 1).1).1 < 0)) false (cond (decide ((Qjy (⟨(⟨(Qcb (Qdi (Qan x0) (Qbi x1)).1 1).2.Store.Segments, (Qdi (Qan x0) (Qbi x1)).1.Store.Now⟩ : Qx), (Qdi (Qan x0) (Qbi x1)).1.Cursor, (Qcb (Qdi (Qan x0) (Qbi x1)).1 1).2.Order, (Qcb (Qdi (Qan x0) (Qbi x1)).1 1).2.Active, (Qcb (Qdi (Qan x0) (Qbi x1)).1 1).2.Done, (Qcb (Qdi (Qan x0) (Qbi x1)).1 1).2.Ledger, (Qdi (Qan x0) (Qbi x1)).1.Steps⟩ : Qag) 1) < 0)) false (cond ((Qjy (⟨(⟨(Qcb (Qdi (Qan x0) (Qbi x1)).1 1).2.Store.Segments, (Qdi (Qan x0) (Qbi x1)).1.Store.Now⟩ : Qx), (Qdi (Qan x0) (Qbi x1)).1.Cursor, (Qcb (Qdi (Qan x0) (Qbi x1)).1 1).2.Order, (Qcb (Qdi (Qan x0) (Qbi x1)).1 1).2.Active, (Qcb (Qdi (Qan x0) (Qbi x1)).1 1).2.Done, (Qcb (Qdi (Qan x0) (Qbi x1)).1 1).2.Ledger, (Qdi (Qan x0) (Qbi x1)).1.Steps⟩ : Qag) 1) != ((Qcb (Qdi (Qan x0) (Qbi x1)).1 1).1)) false (cond (Qkp (Qdi (Qan x0) (Qbi x1)).1 (Qgi (Qan x0) (Qbi x1)).1) (cond ((Qdi (Qan x0) (Qbi x1)).2 != (Qgi (Qan x0) (Qbi x1)).2) false true) false)))) false) false)) false))
theorem cb9 : Cb Tryz.prog 9 := ⟨f9, _, func9, rfl, by decide⟩
theorem Qalp (w : World) (z0 : List Value) (x0 : Qag) (z1 : List Value) (x1 : Qci) (r_0 : Qnq.rd w w.heap.size z0 x0) (r_1 : Qnt.rd w w.heap.size z1 x1) :
  Calls Tryz.prog 9 #[.agg z0.toArray, .agg z1.toArray] w fun e w' => e = .returned (.bool (Qup x0 x1)) ∧ Below w.heap.size w w' := by
 have ok0 := (Qadc r_0)
 have ok1 := (Qadj r_1)
 obtain ⟨v1, v3, v5, v7, v9, rfl, r2, r4, r6, r8, r10⟩ := Qxc r_0
 obtain ⟨m11, A12, c13, rfl, q14, r15⟩ := Qk r2
 obtain ⟨m16, A17, c18, rfl, q19, r20⟩ := Qk r4
 obtain ⟨m21, A22, c23, rfl, q24, r25⟩ := Qk r6
 obtain ⟨m26, A27, c28, rfl, q29, r30⟩ := Qk r8
 obtain ⟨m31, A32, c33, rfl, q34, r35⟩ := Qk r10
 obtain ⟨v36, rfl, r37⟩ := Qxf r_1
 obtain ⟨m38, A39, c40, rfl, q41, r42⟩ := Qk r37
 refine ce2 (L := [(0, .agg #[.slice A12 x0.Store.Segments.length c13, .int .i64 x0.Store.Now, .int .i64 x0.Cursor, .slice A17 x0.Order.length c18, .slice A22 x0.Active.length c23, .slice A27 x0.Done.length c28, .slice A32 x0.Ledger.length c33, .int .i64 x0.Steps]), (1, .agg #[.int .i64 x1.Kind, .int .i64 x1.Row.Id, .slice A39 x1.Row.Values.length c40, .int .i64 x1.Field, .int .i64 x1.Value])]) (N := 119) func9 ?_
 refine sr ?_
 refine Qbj rfl (Qo rfl) (by decide) (fun p43 => ?_)
 refine Qbj rfl (Qo rfl) (by decide) (fun p44 => ?_)
 refine wa (nt' (sr (wa (nt' (sr ?_)))))
 let K1 : List Value := [.slice A12 x0.Store.Segments.length c13, .int .i64 x0.Store.Now, .int .i64 x0.Cursor, .slice A17 x0.Order.length c18, .slice A22 x0.Active.length c23, .slice A27 x0.Done.length c28, .slice A32 x0.Ledger.length c33, .int .i64 x0.Steps]
 refine wv (fun W hm => Qz (cs := K1) Qhf type30 rfl rfl (hm.boxCells (n := 1) rfl)) ?_
 refine wm ?_
 refine wcv (Qr cb14 rfl) (fun W hm => Qaoe W _ x0 1048576 (Qnr (x := x0) (hm.rdS0 r15) (hm.rdS0 r20) (hm.rdS0 r25) (hm.rdS0 r30) (hm.rdS0 r35))) ?_
 refine wa (nt' (Qf (sr (wm ?_))))
 refine wv Qak ?_
 refine nt' ?_
 by_cases h45 : (Qkb x0 1048576) < 0
 ·have g46 := decide_eq_true h45
  refine Ql rfl g46 ?_
  refine sr (wa (nt' (Qj (Qe ?_))))
  exact rtb (h := Qb g46 (rfl))
 have g46 := decide_eq_false h45
 obtain ⟨hz0, hy0, hw0⟩ := Qsp Qaax ok0 (by omega) (by omega) g46
 refine Qp rfl g46 ?_
 refine Qq (Qi (sr ?_))
 let K2 : List Value := [.int .i64 x1.Kind, .int .i64 x1.Row.Id, .slice A39 x1.Row.Values.length c40, .int .i64 x1.Field, .int .i64 x1.Value]
 refine wv (fun W hm => Qz (cs := K2) Qlb type95 rfl rfl (hm.boxCells (n := 0) rfl)) ?_
 refine wm ?_
 refine wcv (Qr cb56 rfl) (fun W hm => Qaol W _ x1 (Qkb x0 1048576) (Qkw (x := x1) (hm.rdS0 r42))) ?_
 refine wa (nt' (Qf (sr (wm ?_))))
 refine wv Qak ?_
 refine nt' ?_
 by_cases h47 : (Qon x1 (Qkb x0 1048576)) < 0
 ·have g48 := decide_eq_true h47
  refine Ql rfl g48 ?_
  refine sr (wa (nt' (Qj (Qe ?_))))
  exact rtb (h := Qc g46 (Qb g48 (rfl)))
 have g48 := decide_eq_false h47
 obtain ⟨hz1, hy1, hw1⟩ := Qsp Qabg ok1 (by omega) (by omega) g48
 refine Qp rfl g48 ?_
 refine Qq (Qi (Qf ?_))
 obtain ⟨G49, hG49⟩ : ∃ G, G = (Qgi (Qan x0) (Qbi x1)) := ⟨_, rfl⟩
 refine rd2 11 [9] (s := [Qa p44 95 K2, Qa p43 30 K1]) (s2 := [Qa p44 95 K2, Qa p43 30 K1]) (fun W hm => hm) (fun W hm => hm) ?_
 let K3 : List Value := [.slice none 0 0, .int .i64 0, .int .i64 0, .slice none 0 0, .slice none 0 0, .slice none 0 0, .slice none 0 0, .int .i64 0]
 refine Qlh (σ := Option Addr × Nat × Option Addr × Nat × Option Addr × Nat × Option Addr × Nat × Option Addr × Nat × Nat × Option Addr × Nat × Option Addr × Nat × Option Addr × Nat × Option Addr × Nat × Option Addr × Nat × Option Addr × Nat) (fun s => [Qa p44 95 K2, Qa p43 30 K1]) 11 511 2 (fun s => [(2, .pointer (some (⟨p43, 0, none⟩ : Addr))), (3, .pointer (some (⟨p44, 0, none⟩ : Addr))), (33, .agg #[.slice s.1 G49.1.Store.Segments.length s.2.1, .int .i64 G49.1.Store.Now, .int .i64 G49.1.Cursor, .slice s.2.2.1 G49.1.Order.length s.2.2.2.1, .slice s.2.2.2.2.1 G49.1.Active.length s.2.2.2.2.2.1, .slice s.2.2.2.2.2.2.1 G49.1.Done.length s.2.2.2.2.2.2.2.1, .slice s.2.2.2.2.2.2.2.2.1 G49.1.Ledger.length s.2.2.2.2.2.2.2.2.2.1, .int .i64 G49.1.Steps]), (34, .bool G49.2), (6, .pointer (some (⟨s.2.2.2.2.2.2.2.2.2.2.1, 0, none⟩ : Addr)))]) (fun s => [Qa s.2.2.2.2.2.2.2.2.2.2.1 47 K3, Qd (tSl (tSl Qm 191) 131) [.slice s.1 G49.1.Store.Segments.length s.2.1] G49.1.Store.Segments, Qd (tSl Qg 3) [.slice s.2.2.1 G49.1.Order.length s.2.2.2.1] G49.1.Order, Qd (tSl Qbw 64) [.slice s.2.2.2.2.1 G49.1.Active.length s.2.2.2.2.2.1] G49.1.Active, Qd (tSl Qce 37) [.slice s.2.2.2.2.2.2.1 G49.1.Done.length s.2.2.2.2.2.2.2.1] G49.1.Done, Qd (tSl Qbx 133) [.slice s.2.2.2.2.2.2.2.2.1 G49.1.Ledger.length s.2.2.2.2.2.2.2.2.2.1] G49.1.Ledger, Qd (tSl Qg 3) [.slice s.2.2.2.2.2.2.2.2.2.2.2.1 ((Qbi x1).Row.Values).length s.2.2.2.2.2.2.2.2.2.2.2.2.1] ((Qbi x1).Row.Values), Qd (tSl (tSl Qm 191) 131) [.slice s.2.2.2.2.2.2.2.2.2.2.2.2.2.1 ((Qan x0).Store.Segments).length s.2.2.2.2.2.2.2.2.2.2.2.2.2.2.1] ((Qan x0).Store.Segments), Qd (tSl Qg 3) [.slice s.2.2.2.2.2.2.2.2.2.2.2.2.2.2.2.1 ((Qan x0).Order).length s.2.2.2.2.2.2.2.2.2.2.2.2.2.2.2.2.1] ((Qan x0).Order), Qd (tSl Qbw 64) [.slice s.2.2.2.2.2.2.2.2.2.2.2.2.2.2.2.2.2.1 ((Qan x0).Active).length s.2.2.2.2.2.2.2.2.2.2.2.2.2.2.2.2.2.2.1] ((Qan x0).Active), Qd (tSl Qce 37) [.slice s.2.2.2.2.2.2.2.2.2.2.2.2.2.2.2.2.2.2.2.1 ((Qan x0).Done).length s.2.2.2.2.2.2.2.2.2.2.2.2.2.2.2.2.2.2.2.2.1] ((Qan x0).Done), Qd (tSl Qbx 133) [.slice s.2.2.2.2.2.2.2.2.2.2.2.2.2.2.2.2.2.2.2.2.2.1 ((Qan x0).Ledger).length s.2.2.2.2.2.2.2.2.2.2.2.2.2.2.2.2.2.2.2.2.2.2] ((Qan x0).Ledger), Qa p44 95 K2, Qa p43 30 K1]) ?_ (fun H => ?_)
 ·
  rintro ⟨A88, c89, A92, c93, A96, c97, A100, c101, A104, c105, p108, A78, c79, A56, c57, A60, c61, A64, c65, A68, c69, A72, c73⟩
  let K4 : List Value := [.slice A56 ((Qan x0).Store.Segments).length c57]
  let I11 : It := Qd (tSl (tSl Qm 191) 131) [.slice A88 G49.1.Store.Segments.length c89] G49.1.Store.Segments
  let I12 : It := Qd (tSl Qg 3) [.slice A92 G49.1.Order.length c93] G49.1.Order
  let I13 : It := Qd (tSl Qbw 64) [.slice A96 G49.1.Active.length c97] G49.1.Active
  let I14 : It := Qd (tSl Qce 37) [.slice A100 G49.1.Done.length c101] G49.1.Done
  let I15 : It := Qd (tSl Qbx 133) [.slice A104 G49.1.Ledger.length c105] G49.1.Ledger
  let I16 : It := Qd (tSl Qg 3) [.slice A78 ((Qbi x1).Row.Values).length c79] ((Qbi x1).Row.Values)
  let I17 : It := Qd (tSl (tSl Qm 191) 131) K4 ((Qan x0).Store.Segments)
  let I18 : It := Qd (tSl Qg 3) [.slice A60 ((Qan x0).Order).length c61] ((Qan x0).Order)
  let I19 : It := Qd (tSl Qbw 64) [.slice A64 ((Qan x0).Active).length c65] ((Qan x0).Active)
  let I20 : It := Qd (tSl Qce 37) [.slice A68 ((Qan x0).Done).length c69] ((Qan x0).Done)
  let I21 : It := Qd (tSl Qbx 133) [.slice A72 ((Qan x0).Ledger).length c73] ((Qan x0).Ledger)
  show QD _ _ _ _ _ _ _ _ [(2, .pointer (some (⟨p43, 0, none⟩ : Addr))), (3, .pointer (some (⟨p44, 0, none⟩ : Addr))), (33, .agg #[.slice A88 G49.1.Store.Segments.length c89, .int .i64 G49.1.Store.Now, .int .i64 G49.1.Cursor, .slice A92 G49.1.Order.length c93, .slice A96 G49.1.Active.length c97, .slice A100 G49.1.Done.length c101, .slice A104 G49.1.Ledger.length c105, .int .i64 G49.1.Steps]), (34, .bool G49.2), (6, .pointer (some (⟨p108, 0, none⟩ : Addr)))] _ [Qa p44 95 K2, Qa p43 30 K1] _ [Qa p108 47 K3, I11, I12, I13, I14, I15, I16, I17, I18, I19, I20, I21, Qa p44 95 K2, Qa p43 30 K1]
  refine Qej (n := 1) rfl ?_
  intro m109 m110
  refine Qej (n := 2) rfl ?_
  intro m111 m112
  refine Qej (n := 3) rfl ?_
  intro m113 m114
  refine Qej (n := 4) rfl ?_
  intro m115 m116
  refine Qej (n := 5) rfl ?_
  intro m117 m118
  refine Qej (n := 6) rfl ?_
  intro m119 m120
  refine Qej (n := 7) rfl ?_
  intro m121 m122
  refine Qej (n := 8) rfl ?_
  intro m123 m124
  refine Qej (n := 9) rfl ?_
  intro m125 m126
  refine Qej (n := 10) rfl ?_
  intro m127 m128
  refine Qej (n := 11) rfl ?_
  intro m129 m130
  refine qoD 11 9 1023 rfl ?_
  let K5 : List Value := [.slice A88 G49.1.Store.Segments.length c89, .int .i64 G49.1.Store.Now, .int .i64 G49.1.Cursor, .slice A92 G49.1.Order.length c93, .slice A96 G49.1.Active.length c97, .slice A100 G49.1.Done.length c101, .slice A104 G49.1.Ledger.length c105, .int .i64 G49.1.Steps]
  refine sb 0 K5 [I11, I12, I13, I14, I15, I16, I17, I18, I19, I20, I21, Qa p44 95 K2, Qa p43 30 K1] (fun W hm => hm) Qbv ?_
  refine qxD (pk [12, 13]) ?_
  refine qt 11 10 2047 rfl (fun W hm => Qmk rfl) ?_
  refine Qef (by kernel_rfl) ?_
  refine Qi (Qf ?_)
  refine Qdf (pk [0, 1, 2, 3, 4, 5, 12, 13]) ?_
  refine Qad ?_
  refine wv (fun W hm => Qz (cs := K1) Qhf type30 rfl rfl (hm.boxCells (n := 7) rfl)) ?_
  refine wcs Qdd (Qan x0) (Qr Qog rfl) (fun W hm => Qoo W _ x0 (Qnr (x := x0) (hm.rdS0 r15) (hm.rdS0 r20) (hm.rdS0 r25) (hm.rdS0 r30) (hm.rdS0 r35)) (Qhl (by omega))) (fun z131 => ?_)
  refine Qgc ?_
  rintro ⟨v132, v133, v134, v135, v136⟩ rfl
  refine Qs (n := 0) rfl ?_
  rintro A137 c138 rfl m139
  refine Qs (n := 1) rfl ?_
  rintro A141 c142 rfl m143
  refine Qs (n := 2) rfl ?_
  rintro A145 c146 rfl m147
  refine Qs (n := 3) rfl ?_
  rintro A149 c150 rfl m151
  refine Qs (n := 4) rfl ?_
  rintro A153 c154 rfl m155
  refine Qbo Qbv rfl (Qo rfl) (by decide) (fun p157 => ?_)
  let K6 : List Value := [.slice A137 ((Qan x0).Store.Segments).length c138, .int .i64 ((Qan x0).Store.Now), .int .i64 ((Qan x0).Cursor), .slice A141 ((Qan x0).Order).length c142, .slice A145 ((Qan x0).Active).length c146, .slice A149 ((Qan x0).Done).length c150, .slice A153 ((Qan x0).Ledger).length c154, .int .i64 ((Qan x0).Steps)]
  let K7 : List Value := [.slice A137 ((Qan x0).Store.Segments).length c138]
  let I22 : It := Qd (tSl (tSl Qm 191) 131) K7 ((Qan x0).Store.Segments)
  let I23 : It := Qd (tSl Qg 3) [.slice A141 ((Qan x0).Order).length c142] ((Qan x0).Order)
  let I24 : It := Qd (tSl Qbw 64) [.slice A145 ((Qan x0).Active).length c146] ((Qan x0).Active)
  let I25 : It := Qd (tSl Qce 37) [.slice A149 ((Qan x0).Done).length c150] ((Qan x0).Done)
  let I26 : It := Qd (tSl Qbx 133) [.slice A153 ((Qan x0).Ledger).length c154] ((Qan x0).Ledger)
  refine sb 0 K6 [I22, I23, I24, I25, I26, Qa p108 47 K5, I11, I12, I13, I14, I15, Qa p44 95 K2, Qa p43 30 K1] (fun W hm => hm) Qbv ?_
  refine nt' (sr ?_)
  refine wv (fun W hm => Qz (cs := K2) Qlb type95 rfl rfl (hm.boxCells (n := 12) rfl)) ?_
  refine wcs Qfi (Qbi x1) (Qr Qln rfl) (fun W hm => Qmg W _ x1 (Qkw (x := x1) (hm.rdS0 r42)) (Qgw (by omega))) (fun z158 => ?_)
  refine Qkx ?_
  rintro v159 rfl
  refine Qs (n := 0) rfl ?_
  rintro A160 c161 rfl m162
  refine Qbo type75 rfl (Qo rfl) (by decide) (fun p164 => ?_)
  let K8 : List Value := [.int .i64 ((Qbi x1).Kind), .int .i64 ((Qbi x1).Row.Id), .slice A160 ((Qbi x1).Row.Values).length c161, .int .i64 ((Qbi x1).Field), .int .i64 ((Qbi x1).Value)]
  let I27 : It := Qd (tSl Qg 3) [.slice A160 ((Qbi x1).Row.Values).length c161] ((Qbi x1).Row.Values)
  refine sb 0 K8 [I27, Qa p157 47 K6, I22, I23, I24, I25, I26, Qa p108 47 K5, I11, I12, I13, I14, I15, Qa p44 95 K2, Qa p43 30 K1] (fun W hm => hm) type75 ?_
  refine nt' (sr ?_)
  refine wv (fun W hm => Qz (cs := K6) Qaq Qbv rfl rfl (hm.boxCells (n := 2) rfl)) ?_
  refine wv (fun W hm => Qz (cs := K8) Qbs type75 rfl rfl (hm.boxCells (n := 0) rfl)) ?_
  refine Qhg (χ := List Value) (val := fun x => .tuple #[.agg x.toArray, .bool ((Qdi (Qan x0) (Qbi x1)).2)]) (js := fun x => [Qd Qdd x ((Qdi (Qan x0) (Qbi x1)).1)]) (Qr Qpf rfl) (fun W hm => Qpk W _ (Qan x0) _ (Qbi x1) (Qfr (x := (Qan x0)) (hm.rdSI (n := 3) rfl) (hm.rdSI (n := 4) rfl) (hm.rdSI (n := 5) rfl) (hm.rdSI (n := 6) rfl) (hm.rdSI (n := 7) rfl)) (Qhs (x := (Qbi x1)) (hm.rdSI (n := 1) rfl)) (by rw [Qkc]; exact (Qhl (by omega))) (by rw [Qkd]; exact (Qgw (by omega)))) (Qo rfl) (by decide) (fun z165 => ?_)
  obtain ⟨G166, hG166⟩ : ∃ G, G = (Qdi (Qan x0) (Qbi x1)) := ⟨_, rfl⟩
  rw [← hG166]
  refine Qgc ?_
  rintro ⟨v167, v168, v169, v170, v171⟩ rfl
  refine Qs (n := 0) rfl ?_
  rintro A172 c173 rfl m174
  refine Qs (n := 1) rfl ?_
  rintro A176 c177 rfl m178
  refine Qs (n := 2) rfl ?_
  rintro A180 c181 rfl m182
  refine Qs (n := 3) rfl ?_
  rintro A184 c185 rfl m186
  refine Qs (n := 4) rfl ?_
  rintro A188 c189 rfl m190
  refine wm ?_
  refine wv (fun W hm => Qes rfl rfl) ?_
  refine wv (fun W hm => Qes rfl rfl) ?_
  refine Qbo Qbv rfl (Qo rfl) (by decide) (fun p192 => ?_)
  let K9 : List Value := [.slice A172 G166.1.Store.Segments.length c173, .int .i64 G166.1.Store.Now, .int .i64 G166.1.Cursor, .slice A176 G166.1.Order.length c177, .slice A180 G166.1.Active.length c181, .slice A184 G166.1.Done.length c185, .slice A188 G166.1.Ledger.length c189, .int .i64 G166.1.Steps]
  let I28 : It := Qd (tSl (tSl Qm 191) 131) [.slice A172 G166.1.Store.Segments.length c173] G166.1.Store.Segments
  let I29 : It := Qd (tSl Qg 3) [.slice A176 G166.1.Order.length c177] G166.1.Order
  let I30 : It := Qd (tSl Qbw 64) [.slice A180 G166.1.Active.length c181] G166.1.Active
  let I31 : It := Qd (tSl Qce 37) [.slice A184 G166.1.Done.length c185] G166.1.Done
  let I32 : It := Qd (tSl Qbx 133) [.slice A188 G166.1.Ledger.length c189] G166.1.Ledger
  refine sb 0 K9 [I28, I29, I30, I31, I32, Qa p164 75 K8, I27, Qa p157 47 K6, I22, I23, I24, I25, I26, Qa p108 47 K5, I11, I12, I13, I14, I15, Qa p44 95 K2, Qa p43 30 K1] (fun W hm => hm) Qbv ?_
  refine wa (nt' (Qf (sr ?_)))
  refine wv (fun W hm => Qz (cs := K9) Qaq Qbv rfl rfl (hm.boxCells (n := 0) rfl)) ?_
  refine wv (fun W hm => Qz (cs := K5) Qaq Qbv rfl rfl (hm.boxCells (n := 14) rfl)) ?_
  refine wcv (Qr Qrb rfl) (fun W hm => Qrw W _ G166.1 _ G49.1 (Qfr (x := G166.1) (hm.rdSI (n := 1) rfl) (hm.rdSI (n := 2) rfl) (hm.rdSI (n := 3) rfl) (hm.rdSI (n := 4) rfl) (hm.rdSI (n := 5) rfl)) (Qfr (x := G49.1) (hm.rdSI (n := 15) rfl) (hm.rdSI (n := 16) rfl) (hm.rdSI (n := 17) rfl) (hm.rdSI (n := 18) rfl) (hm.rdSI (n := 19) rfl))) ?_
  refine wv Qbr ?_
  refine wm ?_
  rcases Bool.eq_false_or_eq_true (Qkp G166.1 G49.1) with g194 | g194
  ·
   refine wg vmv (nt g194) ?_
   refine wg vmv (nt g194) ?_
   refine wg (fun W hm => Qrz underlying4 rfl rfl) (nt g194) ?_
   refine wv (vpF (nt g194)) ?_
   refine nt' ?_
   rcases Bool.eq_false_or_eq_true (G166.2 != G49.2) with g196 | g196
   ·
    refine Ql rfl g196 ?_
    refine Qf ?_
    refine Qdf (pk []) ?_
    refine Qad (wa (nt' (Qj (Qe ?_))))
    exact rtb (h := by subst hG49 hG166; exact Qc g46 (Qc g48 (Qb g194 (Qb g196 (rfl)))))
   refine Qp rfl g196 ?_
   refine Qq (Qi (Qf (Qf ?_)))
   refine rb 5 (s := [Qa p192 47 K9, I28, I29, I30, I31, I32, Qa p164 75 K8, I27, Qa p157 47 K6, I22, I23, I24, I25, I26, Qa p108 47 K5, I11, I12, I13, I14, I15, Qa p44 95 K2, Qa p43 30 K1]) (fun W hm => hm) ?_
   refine qt 5 0 1 rfl (fun W hm => Qz (cs := K6) Qaq Qbv rfl rfl (hm.boxCells (n := 8) rfl)) ?_
   refine qt 5 1 3 rfl (fun W hm => Qz (cs := K1) Qhf type30 rfl rfl (hm.boxCells (n := 21) rfl)) ?_
   refine qo 5 2 7 rfl ?_
   refine wcs Qdd (Qan x0) (Qr Qog rfl) (fun W hm => Qoo W _ x0 (Qnr (x := x0) (hm.rdS0 r15) (hm.rdS0 r20) (hm.rdS0 r25) (hm.rdS0 r30) (hm.rdS0 r35)) (Qhl (by omega))) (fun z197 => ?_)
   refine Qgc ?_
   rintro ⟨v198, v199, v200, v201, v202⟩ rfl
   refine Qs (n := 0) rfl ?_
   rintro A203 c204 rfl m205
   refine Qs (n := 1) rfl ?_
   rintro A207 c208 rfl m209
   refine Qs (n := 2) rfl ?_
   rintro A211 c212 rfl m213
   refine Qs (n := 3) rfl ?_
   rintro A215 c216 rfl m217
   refine Qs (n := 4) rfl ?_
   rintro A219 c220 rfl m221
   refine qn (pk [5, 6, 7, 8, 9, 10, 11, 12, 13, 14, 15, 16, 17, 18, 19, 20, 21, 22, 23, 24, 25, 26]) ?_
   refine qo 5 3 15 rfl ?_
   refine wcv (Qr Qrb rfl) (fun W hm => Qrw W _ (Qan x0) _ (Qan x0) (Qfr (x := (Qan x0)) (hm.rdSI (n := 14) rfl) (hm.rdSI (n := 15) rfl) (hm.rdSI (n := 16) rfl) (hm.rdSI (n := 17) rfl) (hm.rdSI (n := 18) rfl)) (Qfr (x := (Qan x0)) (hm.rdSI (n := 0) rfl) (hm.rdSI (n := 1) rfl) (hm.rdSI (n := 2) rfl) (hm.rdSI (n := 3) rfl) (hm.rdSI (n := 4) rfl))) ?_
   refine qn (pk [5, 6, 7, 8, 9, 10, 11, 12, 13, 14, 15, 16, 17, 18, 19, 20, 21, 22, 23, 24, 25, 26]) ?_
   refine qt 5 4 31 rfl Qbr ?_
   refine Qef (by kernel_rfl) ?_
   refine Qi ?_
   rcases Bool.eq_false_or_eq_true (Qkp (Qan x0) (Qan x0)) with g224 | g224
   ·
    refine Qp rfl (nt g224) ?_
    refine Qq (Qi (Qf (Qf ?_)))
    refine Qdf (pk [5, 6, 7, 8, 9, 10, 11, 12, 13, 14, 15, 16, 17, 18, 19, 20, 21, 22, 23, 24, 25, 26]) ?_
    refine rb 5 (s := [Qa p192 47 K9, I28, I29, I30, I31, I32, Qa p164 75 K8, I27, Qa p157 47 K6, I22, I23, I24, I25, I26, Qa p108 47 K5, I11, I12, I13, I14, I15, Qa p44 95 K2, Qa p43 30 K1]) (fun W hm => hm) ?_
    refine qt 5 0 1 rfl (fun W hm => Qz (cs := K8) Qbs type75 rfl rfl (hm.boxCells (n := 6) rfl)) ?_
    refine qt 5 1 3 rfl (fun W hm => Qz (cs := K2) Qlb type95 rfl rfl (hm.boxCells (n := 20) rfl)) ?_
    refine qo 5 2 7 rfl ?_
    refine wcs Qfi (Qbi x1) (Qr Qln rfl) (fun W hm => Qmg W _ x1 (Qkw (x := x1) (hm.rdS0 r42)) (Qgw (by omega))) (fun z225 => ?_)
    refine Qkx ?_
    rintro v226 rfl
    refine Qs (n := 0) rfl ?_
    rintro A227 c228 rfl m229
    refine qn (pk [1, 2, 3, 4, 5, 6, 7, 8, 9, 10, 11, 12, 13, 14, 15, 16, 17, 18, 19, 20, 21, 22]) ?_
    refine qo 5 3 15 rfl ?_
    refine wcv (Qr cb58 rfl) (fun W hm => Qami W _ (Qbi x1) _ (Qbi x1) (Qhs (x := (Qbi x1)) (hm.rdSI (n := 8) rfl)) (Qhs (x := (Qbi x1)) (hm.rdSI (n := 0) rfl))) ?_
    refine qn (pk [1, 2, 3, 4, 5, 6, 7, 8, 9, 10, 11, 12, 13, 14, 15, 16, 17, 18, 19, 20, 21, 22]) ?_
    refine qt 5 4 31 rfl Qbr ?_
    refine Qef (by kernel_rfl) ?_
    refine Qi ?_
    rcases Bool.eq_false_or_eq_true (Qpx (Qbi x1) (Qbi x1)) with g232 | g232
    ·
     refine Qp rfl (nt g232) ?_
     refine Qq (Qi (sr (wa (nt' (sr ?_)))))
     refine wv (fun W hm => Qz (cs := K6) Qaq Qbv rfl rfl (hm.boxCells (n := 9) rfl)) ?_
     refine wm ?_
     let I33 : It := Qd (tSl Qg 3) [.slice A227 ((Qbi x1).Row.Values).length c228] ((Qbi x1).Row.Values)
     refine Qli (js := (Qd Qdd K6 (Qan x0) :: [I33, Qa p192 47 K9, I28, I29, I30, I31, I32, Qa p164 75 K8, I27, Qa p157 47 K6, Qa p108 47 K5, I11, I12, I13, I14, I15, Qa p44 95 K2, Qa p43 30 K1])) (fun W hm => Mem.join (is := [I22, I23, I24, I25, I26]) (js := [I33, Qa p192 47 K9, I28, I29, I30, I31, I32, Qa p164 75 K8, I27, Qa p157 47 K6, Qa p108 47 K5, I11, I12, I13, I14, I15, Qa p44 95 K2, Qa p43 30 K1]) (fun _ _ hs => Qhe (x := (Qan x0)) hs) (hm.pick [10, 11, 12, 13, 14, 0, 1, 2, 3, 4, 5, 6, 7, 8, 9, 15, 16, 17, 18, 19, 20, 21, 22] (by decide))) ?_
     refine cw (Qr Qyu rfl) (fun W hm => Qaar w.heap.size w [I33, Qa p192 47 K9, I28, I29, I30, I31, I32, Qa p164 75 K8, I27, Qa p157 47 K6, Qa p108 47 K5, I11, I12, I13, I14, I15, Qa p44 95 K2, Qa p43 30 K1] W K6 (Qan x0) 1 hm) ?_
     obtain ⟨G233, hG233⟩ : ∃ G, G = (Qcb (Qan x0) 1) := ⟨_, rfl⟩
     rw [← hG233]
     refine Qgc ?_
     rintro ⟨v235, v236, v237, v238, v239⟩ h234
     simp +zetaDelta only [List.cons.injEq] at h234
     obtain ⟨rfl, -, -, rfl, rfl, rfl, rfl, -, -⟩ := h234
     refine wa (nt' (Qf ?_))
     refine Qdf (pk [6, 7, 8, 9, 10, 11, 12, 13, 15, 16, 17, 18, 19, 20, 21, 22]) ?_
     refine Qad ?_
     refine wv (fun W hm => Qz (cs := K8) Qbs type75 rfl rfl (hm.boxCells (n := 6) rfl)) ?_
     refine wm ?_
     refine Qli (js := (Qd Qfi K8 (Qbi x1) :: [Qa p192 47 K9, I28, I29, I30, I31, I32, Qa p164 75 K8, Qa p108 47 K5, I11, I12, I13, I14, I15, Qa p44 95 K2, Qa p43 30 K1])) (fun W hm => Mem.join (is := [I27]) (js := [Qa p192 47 K9, I28, I29, I30, I31, I32, Qa p164 75 K8, Qa p108 47 K5, I11, I12, I13, I14, I15, Qa p44 95 K2, Qa p43 30 K1]) (fun _ _ hs => Qxh (x := (Qbi x1)) hs) (hm.pick [7, 0, 1, 2, 3, 4, 5, 6, 8, 9, 10, 11, 12, 13, 14, 15] (by decide))) ?_
     refine cw (Qr cb59 rfl) (fun W hm => Qanm w.heap.size w [Qa p192 47 K9, I28, I29, I30, I31, I32, Qa p164 75 K8, Qa p108 47 K5, I11, I12, I13, I14, I15, Qa p44 95 K2, Qa p43 30 K1] W K8 (Qbi x1) G233.1 hm) ?_
     obtain ⟨G240, hG240⟩ : ∃ G, G = (Qna (Qbi x1) G233.1) := ⟨_, rfl⟩
     rw [← hG240]
     refine Qkx ?_
     rintro v242 h241
     simp +zetaDelta only [List.cons.injEq] at h241
     obtain ⟨-, -, rfl, -, -, -⟩ := h241
     refine wa (nt' (Qf (sr (wm ?_))))
     refine wv Qak ?_
     refine wm ?_
     by_cases h243 : G240.1 < 0
     ·have g244 := decide_eq_true h243
      refine ws g244 ?_
      refine ws g244 ?_
      refine ws g244 ?_
      refine ws g244 ?_
      refine wv (vpT g244) ?_
      refine wm ?_
      refine wk ?_
      refine wk ?_
      refine wk ?_
      refine wv (vpT rfl) ?_
      refine nt' ?_
      refine Ql rfl rfl ?_
      refine Qf ?_
      refine Qdf (pk []) ?_
      refine Qad (wa (nt' (Qj (Qe ?_))))
      exact rtb (h := by subst hG49 hG166 hG233 hG240; exact Qc g46 (Qc g48 (Qb g194 (Qc g196 (Qb g224 (Qb g232 (Qb g244 (rfl))))))))
     have g244 := decide_eq_false h243
     refine wg (fun W hm => Qz (cs := K9) Qaq Qbv rfl rfl (hm.boxCells (n := 1) rfl)) g244 ?_
     refine wg (fun W hm => Qz (cs := K5) Qaq Qbv rfl rfl (hm.boxCells (n := 8) rfl)) g244 ?_
     refine Qdm (Qr Qrb rfl) (fun W hm => Qrw W _ G166.1 _ G49.1 (Qfr (x := G166.1) (hm.rdSI (n := 2) rfl) (hm.rdSI (n := 3) rfl) (hm.rdSI (n := 4) rfl) (hm.rdSI (n := 5) rfl) (hm.rdSI (n := 6) rfl)) (Qfr (x := G49.1) (hm.rdSI (n := 9) rfl) (hm.rdSI (n := 10) rfl) (hm.rdSI (n := 11) rfl) (hm.rdSI (n := 12) rfl) (hm.rdSI (n := 13) rfl))) (Qcq rfl rfl rfl (bw g244 rfl)) (by decide) ?_
     refine wg Qbr g244 ?_
     refine wv (vpF g244) ?_
     refine wm ?_
     refine wg vmv (nt g194) ?_
     refine wg vmv (nt g194) ?_
     refine wg (fun W hm => Qrz underlying4 rfl rfl) (nt g194) ?_
     refine wv (vpF (nt g194)) ?_
     refine nt' ?_
     refine Qp rfl g196 ?_
     refine Qq (Qi (sr (wa (nt' (sr ?_)))))
     refine wv (fun W hm => Qz (cs := K9) Qaq Qbv rfl rfl (hm.boxCells (n := 1) rfl)) ?_
     refine wm ?_
     let I34 : It := Qd (tSl Qg 3) [.slice A160 ((Qbi x1).Row.Values).length c161] G240.2.Row.Values
     refine Qli (js := (Qd Qdd K9 G166.1 :: [I34, Qa p192 47 K9, Qa p164 75 K8, Qa p108 47 K5, I11, I12, I13, I14, I15, Qa p44 95 K2, Qa p43 30 K1])) (fun W hm => Mem.join (is := [I28, I29, I30, I31, I32]) (js := [I34, Qa p192 47 K9, Qa p164 75 K8, Qa p108 47 K5, I11, I12, I13, I14, I15, Qa p44 95 K2, Qa p43 30 K1]) (fun _ _ hs => Qhe (x := G166.1) hs) (hm.pick [2, 3, 4, 5, 6, 0, 1, 7, 8, 9, 10, 11, 12, 13, 14, 15] (by decide))) ?_
     refine cw (Qr Qyu rfl) (fun W hm => Qaar w.heap.size w [I34, Qa p192 47 K9, Qa p164 75 K8, Qa p108 47 K5, I11, I12, I13, I14, I15, Qa p44 95 K2, Qa p43 30 K1] W K9 G166.1 1 hm) ?_
     refine Qgc ?_
     rintro ⟨v246, v247, v248, v249, v250⟩ h245
     simp +zetaDelta only [List.cons.injEq] at h245
     obtain ⟨rfl, -, -, rfl, rfl, rfl, rfl, -, -⟩ := h245
     refine wa (nt' (sr (wa (nt' (sr ?_)))))
     refine wv (fun W hm => Qz (cs := K9) Qaq Qbv rfl rfl (hm.boxCells (n := 6) rfl)) ?_
     refine wm ?_
     refine wcv (Qr Qyy rfl) (fun W hm => Qaan W _ (⟨(⟨(Qcb G166.1 1).2.Store.Segments, G166.1.Store.Now⟩ : Qx), G166.1.Cursor, (Qcb G166.1 1).2.Order, (Qcb G166.1 1).2.Active, (Qcb G166.1 1).2.Done, (Qcb G166.1 1).2.Ledger, G166.1.Steps⟩ : Qag) 1 (Qfr (x := (⟨(⟨(Qcb G166.1 1).2.Store.Segments, G166.1.Store.Now⟩ : Qx), G166.1.Cursor, (Qcb G166.1 1).2.Order, (Qcb G166.1 1).2.Active, (Qcb G166.1 1).2.Done, (Qcb G166.1 1).2.Ledger, G166.1.Steps⟩ : Qag)) (hm.rdSI (n := 0) rfl) (hm.rdSI (n := 1) rfl) (hm.rdSI (n := 2) rfl) (hm.rdSI (n := 3) rfl) (hm.rdSI (n := 4) rfl))) ?_
     refine wa (nt' (Qf (sr (wm ?_))))
     refine wv Qak ?_
     refine nt' ?_
     by_cases h251 : (Qjy (⟨(⟨(Qcb G166.1 1).2.Store.Segments, G166.1.Store.Now⟩ : Qx), G166.1.Cursor, (Qcb G166.1 1).2.Order, (Qcb G166.1 1).2.Active, (Qcb G166.1 1).2.Done, (Qcb G166.1 1).2.Ledger, G166.1.Steps⟩ : Qag) 1) < 0
     ·have g252 := decide_eq_true h251
      refine Ql rfl g252 ?_
      refine Qf ?_
      refine Qdf (pk []) ?_
      refine Qad (wa (nt' (Qj (Qe ?_))))
      exact rtb (h := by subst hG49 hG166 hG233 hG240; exact Qc g46 (Qc g48 (Qb g194 (Qc g196 (Qb g224 (Qb g232 (Qc g244 (Qb g252 (rfl)))))))))
     have g252 := decide_eq_false h251
     refine Qp rfl g252 ?_
     refine Qq (Qi (Qf (sr (wm (wm ?_)))))
     refine wv Qcf ?_
     refine nt' ?_
     by_cases h253 : (Qjy (⟨(⟨(Qcb G166.1 1).2.Store.Segments, G166.1.Store.Now⟩ : Qx), G166.1.Cursor, (Qcb G166.1 1).2.Order, (Qcb G166.1 1).2.Active, (Qcb G166.1 1).2.Done, (Qcb G166.1 1).2.Ledger, G166.1.Steps⟩ : Qag) 1) = ((Qcb G166.1 1).1)
     ·have g254 : ((Qjy (⟨(⟨(Qcb G166.1 1).2.Store.Segments, G166.1.Store.Now⟩ : Qx), G166.1.Cursor, (Qcb G166.1 1).2.Order, (Qcb G166.1 1).2.Active, (Qcb G166.1 1).2.Done, (Qcb G166.1 1).2.Ledger, G166.1.Steps⟩ : Qag) 1) != ((Qcb G166.1 1).1)) = false := by rw [h253]; exact bne_self_eq_false _
      refine Qp rfl g254 ?_
      refine Qq (Qi (Qf ?_))
      obtain ⟨G255, hG255⟩ : ∃ G, G = (Qdi (Qan x0) (Qbi x1)) := ⟨_, rfl⟩
      let I35 : It := Qd (tSl (tSl Qm 191) 131) [.slice A172 G166.1.Store.Segments.length c173] ((Qcb G166.1 1).2.Store.Segments)
      let I36 : It := Qd (tSl Qg 3) [.slice A176 G166.1.Order.length c177] ((Qcb G166.1 1).2.Order)
      let I37 : It := Qd (tSl Qbw 64) [.slice A180 G166.1.Active.length c181] ((Qcb G166.1 1).2.Active)
      let I38 : It := Qd (tSl Qce 37) [.slice A184 G166.1.Done.length c185] ((Qcb G166.1 1).2.Done)
      let I39 : It := Qd (tSl Qbx 133) [.slice A188 G166.1.Ledger.length c189] ((Qcb G166.1 1).2.Ledger)
      refine rd2 11 [9] (s := [I35, I36, I37, I38, I39, I34, Qa p192 47 K9, Qa p164 75 K8, Qa p108 47 K5, I11, I12, I13, I14, I15, Qa p44 95 K2, Qa p43 30 K1]) (s2 := [I35, I36, I37, I38, I39, I34, Qa p192 47 K9, Qa p164 75 K8, Qa p108 47 K5, I11, I12, I13, I14, I15, Qa p44 95 K2, Qa p43 30 K1]) (fun W hm => hm) (fun W hm => hm) ?_
      refine Qlh (σ := Option Addr × Nat × Option Addr × Nat × Option Addr × Nat × Option Addr × Nat × Option Addr × Nat × Nat × Option Addr × Nat × Option Addr × Nat × Option Addr × Nat × Option Addr × Nat × Option Addr × Nat × Option Addr × Nat) (fun s => [I35, I36, I37, I38, I39, I34, Qa p192 47 K9, Qa p164 75 K8, Qa p108 47 K5, I11, I12, I13, I14, I15, Qa p44 95 K2, Qa p43 30 K1]) 11 511 2 (fun s => [(6, .pointer (some (⟨p108, 0, none⟩ : Addr))), (7, .bool G49.2), (10, .pointer (some (⟨p192, 0, none⟩ : Addr))), (13, .int .i64 ((Qcb G166.1 1).1)), (100, .agg #[.slice s.1 G255.1.Store.Segments.length s.2.1, .int .i64 G255.1.Store.Now, .int .i64 G255.1.Cursor, .slice s.2.2.1 G255.1.Order.length s.2.2.2.1, .slice s.2.2.2.2.1 G255.1.Active.length s.2.2.2.2.2.1, .slice s.2.2.2.2.2.2.1 G255.1.Done.length s.2.2.2.2.2.2.2.1, .slice s.2.2.2.2.2.2.2.2.1 G255.1.Ledger.length s.2.2.2.2.2.2.2.2.2.1, .int .i64 G255.1.Steps]), (101, .bool G255.2), (15, .pointer (some (⟨s.2.2.2.2.2.2.2.2.2.2.1, 0, none⟩ : Addr)))]) (fun s => [Qa s.2.2.2.2.2.2.2.2.2.2.1 47 K3, Qd (tSl (tSl Qm 191) 131) [.slice s.1 G255.1.Store.Segments.length s.2.1] G255.1.Store.Segments, Qd (tSl Qg 3) [.slice s.2.2.1 G255.1.Order.length s.2.2.2.1] G255.1.Order, Qd (tSl Qbw 64) [.slice s.2.2.2.2.1 G255.1.Active.length s.2.2.2.2.2.1] G255.1.Active, Qd (tSl Qce 37) [.slice s.2.2.2.2.2.2.1 G255.1.Done.length s.2.2.2.2.2.2.2.1] G255.1.Done, Qd (tSl Qbx 133) [.slice s.2.2.2.2.2.2.2.2.1 G255.1.Ledger.length s.2.2.2.2.2.2.2.2.2.1] G255.1.Ledger, Qd (tSl Qg 3) [.slice s.2.2.2.2.2.2.2.2.2.2.2.1 ((Qbi x1).Row.Values).length s.2.2.2.2.2.2.2.2.2.2.2.2.1] ((Qbi x1).Row.Values), Qd (tSl (tSl Qm 191) 131) [.slice s.2.2.2.2.2.2.2.2.2.2.2.2.2.1 ((Qan x0).Store.Segments).length s.2.2.2.2.2.2.2.2.2.2.2.2.2.2.1] ((Qan x0).Store.Segments), Qd (tSl Qg 3) [.slice s.2.2.2.2.2.2.2.2.2.2.2.2.2.2.2.1 ((Qan x0).Order).length s.2.2.2.2.2.2.2.2.2.2.2.2.2.2.2.2.1] ((Qan x0).Order), Qd (tSl Qbw 64) [.slice s.2.2.2.2.2.2.2.2.2.2.2.2.2.2.2.2.2.1 ((Qan x0).Active).length s.2.2.2.2.2.2.2.2.2.2.2.2.2.2.2.2.2.2.1] ((Qan x0).Active), Qd (tSl Qce 37) [.slice s.2.2.2.2.2.2.2.2.2.2.2.2.2.2.2.2.2.2.2.1 ((Qan x0).Done).length s.2.2.2.2.2.2.2.2.2.2.2.2.2.2.2.2.2.2.2.2.1] ((Qan x0).Done), Qd (tSl Qbx 133) [.slice s.2.2.2.2.2.2.2.2.2.2.2.2.2.2.2.2.2.2.2.2.2.1 ((Qan x0).Ledger).length s.2.2.2.2.2.2.2.2.2.2.2.2.2.2.2.2.2.2.2.2.2.2] ((Qan x0).Ledger), I35, I36, I37, I38, I39, I34, Qa p192 47 K9, Qa p164 75 K8, Qa p108 47 K5, I11, I12, I13, I14, I15, Qa p44 95 K2, Qa p43 30 K1]) ?_ (fun H => ?_)
      ·
       rintro ⟨A294, c295, A298, c299, A302, c303, A306, c307, A310, c311, p314, A284, c285, A262, c263, A266, c267, A270, c271, A274, c275, A278, c279⟩
       let I40 : It := Qd (tSl (tSl Qm 191) 131) [.slice A294 G255.1.Store.Segments.length c295] G255.1.Store.Segments
       let I41 : It := Qd (tSl Qg 3) [.slice A298 G255.1.Order.length c299] G255.1.Order
       let I42 : It := Qd (tSl Qbw 64) [.slice A302 G255.1.Active.length c303] G255.1.Active
       let I43 : It := Qd (tSl Qce 37) [.slice A306 G255.1.Done.length c307] G255.1.Done
       let I44 : It := Qd (tSl Qbx 133) [.slice A310 G255.1.Ledger.length c311] G255.1.Ledger
       let I45 : It := Qd (tSl Qg 3) [.slice A284 ((Qbi x1).Row.Values).length c285] ((Qbi x1).Row.Values)
       let I46 : It := Qd (tSl (tSl Qm 191) 131) [.slice A262 ((Qan x0).Store.Segments).length c263] ((Qan x0).Store.Segments)
       let I47 : It := Qd (tSl Qg 3) [.slice A266 ((Qan x0).Order).length c267] ((Qan x0).Order)
       let I48 : It := Qd (tSl Qbw 64) [.slice A270 ((Qan x0).Active).length c271] ((Qan x0).Active)
       let I49 : It := Qd (tSl Qce 37) [.slice A274 ((Qan x0).Done).length c275] ((Qan x0).Done)
       let I50 : It := Qd (tSl Qbx 133) [.slice A278 ((Qan x0).Ledger).length c279] ((Qan x0).Ledger)
       show QD _ _ _ _ _ _ _ _ [(6, .pointer (some (⟨p108, 0, none⟩ : Addr))), (7, .bool G49.2), (10, .pointer (some (⟨p192, 0, none⟩ : Addr))), (13, .int .i64 ((Qcb G166.1 1).1)), (100, .agg #[.slice A294 G255.1.Store.Segments.length c295, .int .i64 G255.1.Store.Now, .int .i64 G255.1.Cursor, .slice A298 G255.1.Order.length c299, .slice A302 G255.1.Active.length c303, .slice A306 G255.1.Done.length c307, .slice A310 G255.1.Ledger.length c311, .int .i64 G255.1.Steps]), (101, .bool G255.2), (15, .pointer (some (⟨p314, 0, none⟩ : Addr)))] _ [I35, I36, I37, I38, I39, I34, Qa p192 47 K9, Qa p164 75 K8, Qa p108 47 K5, I11, I12, I13, I14, I15, Qa p44 95 K2, Qa p43 30 K1] _ [Qa p314 47 K3, I40, I41, I42, I43, I44, I45, I46, I47, I48, I49, I50, I35, I36, I37, I38, I39, I34, Qa p192 47 K9, Qa p164 75 K8, Qa p108 47 K5, I11, I12, I13, I14, I15, Qa p44 95 K2, Qa p43 30 K1]
       refine Qej (n := 1) rfl ?_
       intro m315 m316
       refine Qej (n := 2) rfl ?_
       intro m317 m318
       refine Qej (n := 3) rfl ?_
       intro m319 m320
       refine Qej (n := 4) rfl ?_
       intro m321 m322
       refine Qej (n := 5) rfl ?_
       intro m323 m324
       refine Qej (n := 6) rfl ?_
       intro m325 m326
       refine Qej (n := 7) rfl ?_
       intro m327 m328
       refine Qej (n := 8) rfl ?_
       intro m329 m330
       refine Qej (n := 9) rfl ?_
       intro m331 m332
       refine Qej (n := 10) rfl ?_
       intro m333 m334
       refine Qej (n := 11) rfl ?_
       intro m335 m336
       refine qoD 11 9 1023 rfl ?_
       let K10 : List Value := [.slice A294 G255.1.Store.Segments.length c295, .int .i64 G255.1.Store.Now, .int .i64 G255.1.Cursor, .slice A298 G255.1.Order.length c299, .slice A302 G255.1.Active.length c303, .slice A306 G255.1.Done.length c307, .slice A310 G255.1.Ledger.length c311, .int .i64 G255.1.Steps]
       refine sb 0 K10 [I40, I41, I42, I43, I44, I45, I46, I47, I48, I49, I50, I35, I36, I37, I38, I39, I34, Qa p192 47 K9, Qa p164 75 K8, Qa p108 47 K5, I11, I12, I13, I14, I15, Qa p44 95 K2, Qa p43 30 K1] (fun W hm => hm) Qbv ?_
       refine qxD (pk [12, 13, 14, 15, 16, 17, 18, 19, 20, 21, 22, 23, 24, 25, 26, 27]) ?_
       refine qt 11 10 2047 rfl (fun W hm => Qmk rfl) ?_
       refine Qef (by kernel_rfl) ?_
       refine Qi (Qf (Qf ?_))
       refine Qdf (pk [0, 1, 2, 3, 4, 5, 12, 13, 14, 15, 16, 18, 20, 21, 22, 23, 24, 25]) ?_
       refine Qad ?_
       refine wv (fun W hm => Qz (cs := K10) Qaq Qbv rfl rfl (hm.boxCells (n := 0) rfl)) ?_
       refine wv (fun W hm => Qz (cs := K5) Qaq Qbv rfl rfl (hm.boxCells (n := 12) rfl)) ?_
       refine wcv (Qr Qrb rfl) (fun W hm => Qrw W _ G255.1 _ G49.1 (Qfr (x := G255.1) (hm.rdSI (n := 1) rfl) (hm.rdSI (n := 2) rfl) (hm.rdSI (n := 3) rfl) (hm.rdSI (n := 4) rfl) (hm.rdSI (n := 5) rfl)) (Qfr (x := G49.1) (hm.rdSI (n := 13) rfl) (hm.rdSI (n := 14) rfl) (hm.rdSI (n := 15) rfl) (hm.rdSI (n := 16) rfl) (hm.rdSI (n := 17) rfl))) ?_
       refine wv Qbr ?_
       refine wm ?_
       rcases Bool.eq_false_or_eq_true (Qkp G255.1 G49.1) with g338 | g338
       ·
        refine wg vmv (nt g338) ?_
        refine wg vmv (nt g338) ?_
        refine wg (fun W hm => Qrz underlying4 rfl rfl) (nt g338) ?_
        refine wv (vpF (nt g338)) ?_
        refine nt' ?_
        rcases Bool.eq_false_or_eq_true (G255.2 != G49.2) with g340 | g340
        ·
         refine Ql rfl g340 ?_
         refine Qf ?_
         refine Qdf (pk []) ?_
         refine Qad (wa (nt' (Qj (Qe ?_))))
         exact rtb (h := by subst hG49 hG166 hG233 hG240 hG255; exact Qc g46 (Qc g48 (Qb g194 (Qc g196 (Qb g224 (Qb g232 (Qc g244 (Qc g252 (Qc g254 (Qb g338 (Qb g340 (rfl))))))))))))
        refine Qp rfl g340 ?_
        refine Qq (Qi (Qf ?_))
        refine Qdf (pk [6, 7, 8, 9, 10, 11]) ?_
        refine Qad (wa (nt' (sr ?_)))
        refine wv (fun W hm => Qz (cs := K9) Qaq Qbv rfl rfl (hm.boxCells (n := 5) rfl)) ?_
        refine wm ?_
        refine wcv (Qr Qyy rfl) (fun W hm => Qaan W _ (⟨(⟨(Qcb G166.1 1).2.Store.Segments, G166.1.Store.Now⟩ : Qx), G166.1.Cursor, (Qcb G166.1 1).2.Order, (Qcb G166.1 1).2.Active, (Qcb G166.1 1).2.Done, (Qcb G166.1 1).2.Ledger, G166.1.Steps⟩ : Qag) 1 (Qfr (x := (⟨(⟨(Qcb G166.1 1).2.Store.Segments, G166.1.Store.Now⟩ : Qx), G166.1.Cursor, (Qcb G166.1 1).2.Order, (Qcb G166.1 1).2.Active, (Qcb G166.1 1).2.Done, (Qcb G166.1 1).2.Ledger, G166.1.Steps⟩ : Qag)) (hm.rdSI (n := 0) rfl) (hm.rdSI (n := 1) rfl) (hm.rdSI (n := 2) rfl) (hm.rdSI (n := 3) rfl) (hm.rdSI (n := 4) rfl))) ?_
        refine wa (nt' (Qf (Qf ?_)))
        refine Qdf (pk []) ?_
        refine Qad (wm ?_)
        refine wv Qak ?_
        refine nt' ?_
        refine Qp rfl g252 ?_
        refine Qq (Qi (Qf (sr (wm (wm ?_)))))
        refine wv Qcf ?_
        refine nt' ?_
        refine Qp rfl g254 ?_
        refine Qq (Qi (sr (wa (nt' (Qj ?_)))))
        exact rtb (h := by subst hG49 hG166 hG233 hG240 hG255; exact Qc g46 (Qc g48 (Qb g194 (Qc g196 (Qb g224 (Qb g232 (Qc g244 (Qc g252 (Qc g254 (Qb g338 (Qc g340 (rfl))))))))))))
       refine ws (nf g338) ?_
       refine ws (nf g338) ?_
       refine ws (nf g338) ?_
       refine wv (vpT (nf g338)) ?_
       refine nt' ?_
       refine Ql rfl rfl ?_
       refine Qf ?_
       refine Qdf (pk []) ?_
       refine Qad (wa (nt' (Qj (Qe ?_))))
       exact rtb (h := by subst hG49 hG166 hG233 hG240 hG255; exact Qc g46 (Qc g48 (Qb g194 (Qc g196 (Qb g224 (Qb g232 (Qc g244 (Qc g252 (Qc g254 (Qc g338 (rfl)))))))))))
      refine qtD 11 0 1 rfl (fun W hm => Qz (cs := K1) Qhf type30 rfl rfl (hm.boxCells (n := 15) rfl)) ?_
      refine qtD 11 2 5 rfl (fun W hm => Qz (cs := K2) Qlb type95 rfl rfl (hm.boxCells (n := 14) rfl)) ?_
      refine qaD [1, 8] ?_
      refine qcD 11 7 rfl ?_ ?_
      ·
       refine wcs Qdd (Qan x0) (Qr Qog rfl) (fun W hm => Qoo W _ x0 (Qnr (x := x0) (hm.rdS0 r15) (hm.rdS0 r20) (hm.rdS0 r25) (hm.rdS0 r30) (hm.rdS0 r35)) (Qhl (by omega))) (fun z341 => ?_)
       refine Qgc ?_
       rintro ⟨v342, v343, v344, v345, v346⟩ rfl
       refine Qs (n := 0) rfl ?_
       rintro A347 c348 rfl m349
       refine Qs (n := 1) rfl ?_
       rintro A351 c352 rfl m353
       refine Qs (n := 2) rfl ?_
       rintro A355 c356 rfl m357
       refine Qs (n := 3) rfl ?_
       rintro A359 c360 rfl m361
       refine Qs (n := 4) rfl ?_
       rintro A363 c364 rfl m365
       refine qnD (pk [5, 6, 7, 8, 9, 10, 11, 12, 13, 14, 15, 16, 17, 18, 19, 20]) (pk [5, 6, 7, 8, 9, 10, 11, 12, 13, 14, 15, 16, 17, 18, 19, 20]) ?_
       refine qaD [3, 8] ?_
       refine qcD 11 15 rfl ?_ ?_
       ·
        refine wcs Qfi (Qbi x1) (Qr Qln rfl) (fun W hm => Qmg W _ x1 (Qkw (x := x1) (hm.rdS0 r42)) (Qgw (by omega))) (fun z367 => ?_)
        refine Qkx ?_
        rintro v368 rfl
        refine Qs (n := 0) rfl ?_
        rintro A369 c370 rfl m371
        refine qnD (pk [6, 7, 8, 9, 10, 11, 12, 13, 14, 15, 16, 17, 18, 19, 20, 21]) (pk [6, 7, 8, 9, 10, 11, 12, 13, 14, 15, 16, 17, 18, 19, 20, 21]) ?_
        refine qaD [4, 8] ?_
        refine qcD 11 31 rfl ?_ ?_
        ·
         refine Qhg (χ := List Value) (val := fun x => .tuple #[.agg x.toArray, .bool ((Qdi (Qan x0) (Qbi x1)).2)]) (js := fun x => [Qd Qdd x ((Qdi (Qan x0) (Qbi x1)).1)]) (Qr Qpf rfl) (fun W hm => Qpk W _ (Qan x0) _ (Qbi x1) (Qfr (x := (Qan x0)) (hm.rdSI (n := 1) rfl) (hm.rdSI (n := 2) rfl) (hm.rdSI (n := 3) rfl) (hm.rdSI (n := 4) rfl) (hm.rdSI (n := 5) rfl)) (Qhs (x := (Qbi x1)) (hm.rdSI (n := 0) rfl)) (by rw [Qkc]; exact (Qhl (by omega))) (by rw [Qkd]; exact (Qgw (by omega)))) (Qo rfl) (by decide) (fun z373 => ?_)
         rw [← hG255]
         refine Qgc ?_
         rintro ⟨v374, v375, v376, v377, v378⟩ rfl
         refine Qs (n := 0) rfl ?_
         rintro A379 c380 rfl m381
         refine Qs (n := 1) rfl ?_
         rintro A383 c384 rfl m385
         refine Qs (n := 2) rfl ?_
         rintro A387 c388 rfl m389
         refine Qs (n := 3) rfl ?_
         rintro A391 c392 rfl m393
         refine Qs (n := 4) rfl ?_
         rintro A395 c396 rfl m397
         refine qnD (pk [11, 12, 13, 14, 15, 16, 17, 18, 19, 20, 21, 22, 23, 24, 25, 26]) (pk [11, 12, 13, 14, 15, 16, 17, 18, 19, 20, 21, 22, 23, 24, 25, 26]) ?_
         refine qtD 11 5 63 rfl vmv ?_
         refine qtD 11 6 127 rfl (fun W hm => Qes rfl rfl) ?_
         refine qtP 11 7 255 rfl (fun W => Qes rfl rfl) ?_
         refine qoD 11 8 511 rfl ?_
         refine Qbo Qbv rfl (Qo rfl) (by decide) (fun p399 => ?_)
         refine qnD (pk [12, 13, 14, 15, 16, 17, 18, 19, 20, 21, 22, 23, 24, 25, 26, 27]) (pk [12, 13, 14, 15, 16, 17, 18, 19, 20, 21, 22, 23, 24, 25, 26, 27]) ?_
         exact Qdw sl7 (fun W hm => hm) (H (A379, c380, A383, c384, A387, c388, A391, c392, A395, c396, p399, A369, c370, A347, c348, A351, c352, A355, c356, A359, c360, A363, c364))
        refine qcD 11 271 rfl ?_ ?_
        ·
         refine Qbo Qbv rfl (Qo rfl) (by decide) (fun p400 => ?_)
         refine qnD (pk [7, 8, 9, 10, 11, 12, 13, 14, 15, 16, 17, 18, 19, 20, 21, 22]) (pk [7, 8, 9, 10, 11, 12, 13, 14, 15, 16, 17, 18, 19, 20, 21, 22]) ?_
         refine qoD 11 4 287 rfl ?_
         refine Qhg (χ := List Value) (val := fun x => .tuple #[.agg x.toArray, .bool ((Qdi (Qan x0) (Qbi x1)).2)]) (js := fun x => [Qd Qdd x ((Qdi (Qan x0) (Qbi x1)).1)]) (Qr Qpf rfl) (fun W hm => Qpk W _ (Qan x0) _ (Qbi x1) (Qfr (x := (Qan x0)) (hm.rdSI (n := 2) rfl) (hm.rdSI (n := 3) rfl) (hm.rdSI (n := 4) rfl) (hm.rdSI (n := 5) rfl) (hm.rdSI (n := 6) rfl)) (Qhs (x := (Qbi x1)) (hm.rdSI (n := 1) rfl)) (by rw [Qkc]; exact (Qhl (by omega))) (by rw [Qkd]; exact (Qgw (by omega)))) (Qo rfl) (by decide) (fun z401 => ?_)
         rw [← hG255]
         refine Qgc ?_
         rintro ⟨v402, v403, v404, v405, v406⟩ rfl
         refine Qs (n := 0) rfl ?_
         rintro A407 c408 rfl m409
         refine Qs (n := 1) rfl ?_
         rintro A411 c412 rfl m413
         refine Qs (n := 2) rfl ?_
         rintro A415 c416 rfl m417
         refine Qs (n := 3) rfl ?_
         rintro A419 c420 rfl m421
         refine Qs (n := 4) rfl ?_
         rintro A423 c424 rfl m425
         refine qnD (pk [12, 13, 14, 15, 16, 17, 18, 19, 20, 21, 22, 23, 24, 25, 26, 27]) (pk [12, 13, 14, 15, 16, 17, 18, 19, 20, 21, 22, 23, 24, 25, 26, 27]) ?_
         refine qtD 11 5 319 rfl vmv ?_
         refine qtD 11 6 383 rfl (fun W hm => Qes rfl rfl) ?_
         refine qtP 11 7 511 rfl (fun W => Qes rfl rfl) ?_
         exact Qdw sl7 (pk [5, 0, 1, 2, 3, 4, 6, 7, 8, 9, 10, 11, 12, 13, 14, 15, 16, 17, 18, 19, 20, 21, 22, 23, 24, 25, 26, 27]) (H (A407, c408, A411, c412, A415, c416, A419, c420, A423, c424, p400, A369, c370, A347, c348, A351, c352, A355, c356, A359, c360, A363, c364))
        exact Qek
       refine qcD 11 263 rfl ?_ ?_
       ·
        refine Qbo Qbv rfl (Qo rfl) (by decide) (fun p427 => ?_)
        refine qnD (pk [6, 7, 8, 9, 10, 11, 12, 13, 14, 15, 16, 17, 18, 19, 20, 21]) (pk [6, 7, 8, 9, 10, 11, 12, 13, 14, 15, 16, 17, 18, 19, 20, 21]) ?_
        refine qoD 11 3 271 rfl ?_
        refine wcs Qfi (Qbi x1) (Qr Qln rfl) (fun W hm => Qmg W _ x1 (Qkw (x := x1) (hm.rdS0 r42)) (Qgw (by omega))) (fun z428 => ?_)
        refine Qkx ?_
        rintro v429 rfl
        refine Qs (n := 0) rfl ?_
        rintro A430 c431 rfl m432
        refine qnD (pk [7, 8, 9, 10, 11, 12, 13, 14, 15, 16, 17, 18, 19, 20, 21, 22]) (pk [7, 8, 9, 10, 11, 12, 13, 14, 15, 16, 17, 18, 19, 20, 21, 22]) ?_
        refine qoD 11 4 287 rfl ?_
        refine Qhg (χ := List Value) (val := fun x => .tuple #[.agg x.toArray, .bool ((Qdi (Qan x0) (Qbi x1)).2)]) (js := fun x => [Qd Qdd x ((Qdi (Qan x0) (Qbi x1)).1)]) (Qr Qpf rfl) (fun W hm => Qpk W _ (Qan x0) _ (Qbi x1) (Qfr (x := (Qan x0)) (hm.rdSI (n := 2) rfl) (hm.rdSI (n := 3) rfl) (hm.rdSI (n := 4) rfl) (hm.rdSI (n := 5) rfl) (hm.rdSI (n := 6) rfl)) (Qhs (x := (Qbi x1)) (hm.rdSI (n := 0) rfl)) (by rw [Qkc]; exact (Qhl (by omega))) (by rw [Qkd]; exact (Qgw (by omega)))) (Qo rfl) (by decide) (fun z434 => ?_)
        rw [← hG255]
        refine Qgc ?_
        rintro ⟨v435, v436, v437, v438, v439⟩ rfl
        refine Qs (n := 0) rfl ?_
        rintro A440 c441 rfl m442
        refine Qs (n := 1) rfl ?_
        rintro A444 c445 rfl m446
        refine Qs (n := 2) rfl ?_
        rintro A448 c449 rfl m450
        refine Qs (n := 3) rfl ?_
        rintro A452 c453 rfl m454
        refine Qs (n := 4) rfl ?_
        rintro A456 c457 rfl m458
        refine qnD (pk [12, 13, 14, 15, 16, 17, 18, 19, 20, 21, 22, 23, 24, 25, 26, 27]) (pk [12, 13, 14, 15, 16, 17, 18, 19, 20, 21, 22, 23, 24, 25, 26, 27]) ?_
        refine qtD 11 5 319 rfl vmv ?_
        refine qtD 11 6 383 rfl (fun W hm => Qes rfl rfl) ?_
        refine qtP 11 7 511 rfl (fun W => Qes rfl rfl) ?_
        exact Qdw sl7 (pk [6, 0, 1, 2, 3, 4, 5, 7, 8, 9, 10, 11, 12, 13, 14, 15, 16, 17, 18, 19, 20, 21, 22, 23, 24, 25, 26, 27]) (H (A440, c441, A444, c445, A448, c449, A452, c453, A456, c457, p427, A430, c431, A347, c348, A351, c352, A355, c356, A359, c360, A363, c364))
       exact Qek
      refine qcD 11 261 rfl ?_ ?_
      ·
       refine Qbo Qbv rfl (Qo rfl) (by decide) (fun p460 => ?_)
       refine qnD (pk [1, 2, 3, 4, 5, 6, 7, 8, 9, 10, 11, 12, 13, 14, 15, 16]) (pk [1, 2, 3, 4, 5, 6, 7, 8, 9, 10, 11, 12, 13, 14, 15, 16]) ?_
       refine qoD 11 1 263 rfl ?_
       refine wcs Qdd (Qan x0) (Qr Qog rfl) (fun W hm => Qoo W _ x0 (Qnr (x := x0) (hm.rdS0 r15) (hm.rdS0 r20) (hm.rdS0 r25) (hm.rdS0 r30) (hm.rdS0 r35)) (Qhl (by omega))) (fun z461 => ?_)
       refine Qgc ?_
       rintro ⟨v462, v463, v464, v465, v466⟩ rfl
       refine Qs (n := 0) rfl ?_
       rintro A467 c468 rfl m469
       refine Qs (n := 1) rfl ?_
       rintro A471 c472 rfl m473
       refine Qs (n := 2) rfl ?_
       rintro A475 c476 rfl m477
       refine Qs (n := 3) rfl ?_
       rintro A479 c480 rfl m481
       refine Qs (n := 4) rfl ?_
       rintro A483 c484 rfl m485
       refine qnD (pk [6, 7, 8, 9, 10, 11, 12, 13, 14, 15, 16, 17, 18, 19, 20, 21]) (pk [6, 7, 8, 9, 10, 11, 12, 13, 14, 15, 16, 17, 18, 19, 20, 21]) ?_
       refine qoD 11 3 271 rfl ?_
       refine wcs Qfi (Qbi x1) (Qr Qln rfl) (fun W hm => Qmg W _ x1 (Qkw (x := x1) (hm.rdS0 r42)) (Qgw (by omega))) (fun z487 => ?_)
       refine Qkx ?_
       rintro v488 rfl
       refine Qs (n := 0) rfl ?_
       rintro A489 c490 rfl m491
       refine qnD (pk [7, 8, 9, 10, 11, 12, 13, 14, 15, 16, 17, 18, 19, 20, 21, 22]) (pk [7, 8, 9, 10, 11, 12, 13, 14, 15, 16, 17, 18, 19, 20, 21, 22]) ?_
       refine qoD 11 4 287 rfl ?_
       refine Qhg (χ := List Value) (val := fun x => .tuple #[.agg x.toArray, .bool ((Qdi (Qan x0) (Qbi x1)).2)]) (js := fun x => [Qd Qdd x ((Qdi (Qan x0) (Qbi x1)).1)]) (Qr Qpf rfl) (fun W hm => Qpk W _ (Qan x0) _ (Qbi x1) (Qfr (x := (Qan x0)) (hm.rdSI (n := 1) rfl) (hm.rdSI (n := 2) rfl) (hm.rdSI (n := 3) rfl) (hm.rdSI (n := 4) rfl) (hm.rdSI (n := 5) rfl)) (Qhs (x := (Qbi x1)) (hm.rdSI (n := 0) rfl)) (by rw [Qkc]; exact (Qhl (by omega))) (by rw [Qkd]; exact (Qgw (by omega)))) (Qo rfl) (by decide) (fun z493 => ?_)
       rw [← hG255]
       refine Qgc ?_
       rintro ⟨v494, v495, v496, v497, v498⟩ rfl
       refine Qs (n := 0) rfl ?_
       rintro A499 c500 rfl m501
       refine Qs (n := 1) rfl ?_
       rintro A503 c504 rfl m505
       refine Qs (n := 2) rfl ?_
       rintro A507 c508 rfl m509
       refine Qs (n := 3) rfl ?_
       rintro A511 c512 rfl m513
       refine Qs (n := 4) rfl ?_
       rintro A515 c516 rfl m517
       refine qnD (pk [12, 13, 14, 15, 16, 17, 18, 19, 20, 21, 22, 23, 24, 25, 26, 27]) (pk [12, 13, 14, 15, 16, 17, 18, 19, 20, 21, 22, 23, 24, 25, 26, 27]) ?_
       refine qtD 11 5 319 rfl vmv ?_
       refine qtD 11 6 383 rfl (fun W hm => Qes rfl rfl) ?_
       refine qtP 11 7 511 rfl (fun W => Qes rfl rfl) ?_
       exact Qdw sl7 (pk [11, 0, 1, 2, 3, 4, 5, 6, 7, 8, 9, 10, 12, 13, 14, 15, 16, 17, 18, 19, 20, 21, 22, 23, 24, 25, 26, 27]) (H (A499, c500, A503, c504, A507, c508, A511, c512, A515, c516, p460, A489, c490, A467, c468, A471, c472, A475, c476, A479, c480, A483, c484))
      exact Qek
     have g254 : ((Qjy (⟨(⟨(Qcb G166.1 1).2.Store.Segments, G166.1.Store.Now⟩ : Qx), G166.1.Cursor, (Qcb G166.1 1).2.Order, (Qcb G166.1 1).2.Active, (Qcb G166.1 1).2.Done, (Qcb G166.1 1).2.Ledger, G166.1.Steps⟩ : Qag) 1) != ((Qcb G166.1 1).1)) = true := bne_iff_ne.2 h253
     refine Ql rfl g254 ?_
     refine Qf ?_
     refine Qdf (pk []) ?_
     refine Qad (wa (nt' (Qj (Qe ?_))))
     exact rtb (h := by subst hG49 hG166 hG233 hG240; exact Qc g46 (Qc g48 (Qb g194 (Qc g196 (Qb g224 (Qb g232 (Qc g244 (Qc g252 (Qb g254 (rfl))))))))))
    refine Ql rfl (nf g232) ?_
    refine Qf ?_
    refine Qdf (pk []) ?_
    refine Qad (wa (nt' (Qj (Qe ?_))))
    exact rtb (h := by subst hG49 hG166; exact Qc g46 (Qc g48 (Qb g194 (Qc g196 (Qb g224 (Qc g232 (rfl)))))))
   refine Ql rfl (nf g224) ?_
   refine Qf ?_
   refine Qdf (pk []) ?_
   refine Qad (wa (nt' (Qj (Qe ?_))))
   exact rtb (h := by subst hG49 hG166; exact Qc g46 (Qc g48 (Qb g194 (Qc g196 (Qc g224 (rfl))))))
  refine ws (nf g194) ?_
  refine ws (nf g194) ?_
  refine ws (nf g194) ?_
  refine wv (vpT (nf g194)) ?_
  refine nt' ?_
  refine Ql rfl rfl ?_
  refine Qf ?_
  refine Qdf (pk []) ?_
  refine Qad (wa (nt' (Qj (Qe ?_))))
  exact rtb (h := by subst hG49 hG166; exact Qc g46 (Qc g48 (Qc g194 (rfl))))
 refine qtD 11 0 1 rfl (fun W hm => Qz (cs := K1) Qhf type30 rfl rfl (hm.boxCells (n := 1) rfl)) ?_
 refine qtD 11 2 5 rfl (fun W hm => Qz (cs := K2) Qlb type95 rfl rfl (hm.boxCells (n := 0) rfl)) ?_
 refine qaD [1, 8] ?_
 refine qcD 11 7 rfl ?_ ?_
 ·
  refine wcs Qdd (Qan x0) (Qr Qog rfl) (fun W hm => Qoo W _ x0 (Qnr (x := x0) (hm.rdS0 r15) (hm.rdS0 r20) (hm.rdS0 r25) (hm.rdS0 r30) (hm.rdS0 r35)) (Qhl (by omega))) (fun z519 => ?_)
  refine Qgc ?_
  rintro ⟨v520, v521, v522, v523, v524⟩ rfl
  refine Qs (n := 0) rfl ?_
  rintro A525 c526 rfl m527
  refine Qs (n := 1) rfl ?_
  rintro A529 c530 rfl m531
  refine Qs (n := 2) rfl ?_
  rintro A533 c534 rfl m535
  refine Qs (n := 3) rfl ?_
  rintro A537 c538 rfl m539
  refine Qs (n := 4) rfl ?_
  rintro A541 c542 rfl m543
  refine qnD (pk [5, 6]) (pk [5, 6]) ?_
  refine qaD [3, 8] ?_
  refine qcD 11 15 rfl ?_ ?_
  ·
   refine wcs Qfi (Qbi x1) (Qr Qln rfl) (fun W hm => Qmg W _ x1 (Qkw (x := x1) (hm.rdS0 r42)) (Qgw (by omega))) (fun z545 => ?_)
   refine Qkx ?_
   rintro v546 rfl
   refine Qs (n := 0) rfl ?_
   rintro A547 c548 rfl m549
   refine qnD (pk [6, 7]) (pk [6, 7]) ?_
   refine qaD [4, 8] ?_
   refine qcD 11 31 rfl ?_ ?_
   ·
    refine Qhg (χ := List Value) (val := fun x => .tuple #[.agg x.toArray, .bool ((Qgi (Qan x0) (Qbi x1)).2)]) (js := fun x => [Qd Qdd x ((Qgi (Qan x0) (Qbi x1)).1)]) (Qr Qrc rfl) (fun W hm => Qsi W _ (Qan x0) _ (Qbi x1) (Qfr (x := (Qan x0)) (hm.rdSI (n := 1) rfl) (hm.rdSI (n := 2) rfl) (hm.rdSI (n := 3) rfl) (hm.rdSI (n := 4) rfl) (hm.rdSI (n := 5) rfl)) (Qhs (x := (Qbi x1)) (hm.rdSI (n := 0) rfl)) (by rw [Qkc]; exact (Qhl (by omega))) (by rw [Qkd]; exact (Qgw (by omega)))) (Qo rfl) (by decide) (fun z551 => ?_)
    rw [← hG49]
    refine Qgc ?_
    rintro ⟨v552, v553, v554, v555, v556⟩ rfl
    refine Qs (n := 0) rfl ?_
    rintro A557 c558 rfl m559
    refine Qs (n := 1) rfl ?_
    rintro A561 c562 rfl m563
    refine Qs (n := 2) rfl ?_
    rintro A565 c566 rfl m567
    refine Qs (n := 3) rfl ?_
    rintro A569 c570 rfl m571
    refine Qs (n := 4) rfl ?_
    rintro A573 c574 rfl m575
    refine qnD (pk [11, 12]) (pk [11, 12]) ?_
    refine qtD 11 5 63 rfl vmv ?_
    refine qtD 11 6 127 rfl (fun W hm => Qes rfl rfl) ?_
    refine qtP 11 7 255 rfl (fun W => Qes rfl rfl) ?_
    refine qoD 11 8 511 rfl ?_
    refine Qbo Qbv rfl (Qo rfl) (by decide) (fun p577 => ?_)
    refine qnD (pk [12, 13]) (pk [12, 13]) ?_
    exact Qdw sl5 (fun W hm => hm) (H (A557, c558, A561, c562, A565, c566, A569, c570, A573, c574, p577, A547, c548, A525, c526, A529, c530, A533, c534, A537, c538, A541, c542))
   refine qcD 11 271 rfl ?_ ?_
   ·
    refine Qbo Qbv rfl (Qo rfl) (by decide) (fun p578 => ?_)
    refine qnD (pk [7, 8]) (pk [7, 8]) ?_
    refine qoD 11 4 287 rfl ?_
    refine Qhg (χ := List Value) (val := fun x => .tuple #[.agg x.toArray, .bool ((Qgi (Qan x0) (Qbi x1)).2)]) (js := fun x => [Qd Qdd x ((Qgi (Qan x0) (Qbi x1)).1)]) (Qr Qrc rfl) (fun W hm => Qsi W _ (Qan x0) _ (Qbi x1) (Qfr (x := (Qan x0)) (hm.rdSI (n := 2) rfl) (hm.rdSI (n := 3) rfl) (hm.rdSI (n := 4) rfl) (hm.rdSI (n := 5) rfl) (hm.rdSI (n := 6) rfl)) (Qhs (x := (Qbi x1)) (hm.rdSI (n := 1) rfl)) (by rw [Qkc]; exact (Qhl (by omega))) (by rw [Qkd]; exact (Qgw (by omega)))) (Qo rfl) (by decide) (fun z579 => ?_)
    rw [← hG49]
    refine Qgc ?_
    rintro ⟨v580, v581, v582, v583, v584⟩ rfl
    refine Qs (n := 0) rfl ?_
    rintro A585 c586 rfl m587
    refine Qs (n := 1) rfl ?_
    rintro A589 c590 rfl m591
    refine Qs (n := 2) rfl ?_
    rintro A593 c594 rfl m595
    refine Qs (n := 3) rfl ?_
    rintro A597 c598 rfl m599
    refine Qs (n := 4) rfl ?_
    rintro A601 c602 rfl m603
    refine qnD (pk [12, 13]) (pk [12, 13]) ?_
    refine qtD 11 5 319 rfl vmv ?_
    refine qtD 11 6 383 rfl (fun W hm => Qes rfl rfl) ?_
    refine qtP 11 7 511 rfl (fun W => Qes rfl rfl) ?_
    exact Qdw sl5 (pk [5, 0, 1, 2, 3, 4, 6, 7, 8, 9, 10, 11, 12, 13]) (H (A585, c586, A589, c590, A593, c594, A597, c598, A601, c602, p578, A547, c548, A525, c526, A529, c530, A533, c534, A537, c538, A541, c542))
   exact Qek
  refine qcD 11 263 rfl ?_ ?_
  ·
   refine Qbo Qbv rfl (Qo rfl) (by decide) (fun p605 => ?_)
   refine qnD (pk [6, 7]) (pk [6, 7]) ?_
   refine qoD 11 3 271 rfl ?_
   refine wcs Qfi (Qbi x1) (Qr Qln rfl) (fun W hm => Qmg W _ x1 (Qkw (x := x1) (hm.rdS0 r42)) (Qgw (by omega))) (fun z606 => ?_)
   refine Qkx ?_
   rintro v607 rfl
   refine Qs (n := 0) rfl ?_
   rintro A608 c609 rfl m610
   refine qnD (pk [7, 8]) (pk [7, 8]) ?_
   refine qoD 11 4 287 rfl ?_
   refine Qhg (χ := List Value) (val := fun x => .tuple #[.agg x.toArray, .bool ((Qgi (Qan x0) (Qbi x1)).2)]) (js := fun x => [Qd Qdd x ((Qgi (Qan x0) (Qbi x1)).1)]) (Qr Qrc rfl) (fun W hm => Qsi W _ (Qan x0) _ (Qbi x1) (Qfr (x := (Qan x0)) (hm.rdSI (n := 2) rfl) (hm.rdSI (n := 3) rfl) (hm.rdSI (n := 4) rfl) (hm.rdSI (n := 5) rfl) (hm.rdSI (n := 6) rfl)) (Qhs (x := (Qbi x1)) (hm.rdSI (n := 0) rfl)) (by rw [Qkc]; exact (Qhl (by omega))) (by rw [Qkd]; exact (Qgw (by omega)))) (Qo rfl) (by decide) (fun z612 => ?_)
   rw [← hG49]
   refine Qgc ?_
   rintro ⟨v613, v614, v615, v616, v617⟩ rfl
   refine Qs (n := 0) rfl ?_
   rintro A618 c619 rfl m620
   refine Qs (n := 1) rfl ?_
   rintro A622 c623 rfl m624
   refine Qs (n := 2) rfl ?_
   rintro A626 c627 rfl m628
   refine Qs (n := 3) rfl ?_
   rintro A630 c631 rfl m632
   refine Qs (n := 4) rfl ?_
   rintro A634 c635 rfl m636
   refine qnD (pk [12, 13]) (pk [12, 13]) ?_
   refine qtD 11 5 319 rfl vmv ?_
   refine qtD 11 6 383 rfl (fun W hm => Qes rfl rfl) ?_
   refine qtP 11 7 511 rfl (fun W => Qes rfl rfl) ?_
   exact Qdw sl5 (pk [6, 0, 1, 2, 3, 4, 5, 7, 8, 9, 10, 11, 12, 13]) (H (A618, c619, A622, c623, A626, c627, A630, c631, A634, c635, p605, A608, c609, A525, c526, A529, c530, A533, c534, A537, c538, A541, c542))
  exact Qek
 refine qcD 11 261 rfl ?_ ?_
 ·
  refine Qbo Qbv rfl (Qo rfl) (by decide) (fun p638 => ?_)
  refine qnD (pk [1, 2]) (pk [1, 2]) ?_
  refine qoD 11 1 263 rfl ?_
  refine wcs Qdd (Qan x0) (Qr Qog rfl) (fun W hm => Qoo W _ x0 (Qnr (x := x0) (hm.rdS0 r15) (hm.rdS0 r20) (hm.rdS0 r25) (hm.rdS0 r30) (hm.rdS0 r35)) (Qhl (by omega))) (fun z639 => ?_)
  refine Qgc ?_
  rintro ⟨v640, v641, v642, v643, v644⟩ rfl
  refine Qs (n := 0) rfl ?_
  rintro A645 c646 rfl m647
  refine Qs (n := 1) rfl ?_
  rintro A649 c650 rfl m651
  refine Qs (n := 2) rfl ?_
  rintro A653 c654 rfl m655
  refine Qs (n := 3) rfl ?_
  rintro A657 c658 rfl m659
  refine Qs (n := 4) rfl ?_
  rintro A661 c662 rfl m663
  refine qnD (pk [6, 7]) (pk [6, 7]) ?_
  refine qoD 11 3 271 rfl ?_
  refine wcs Qfi (Qbi x1) (Qr Qln rfl) (fun W hm => Qmg W _ x1 (Qkw (x := x1) (hm.rdS0 r42)) (Qgw (by omega))) (fun z665 => ?_)
  refine Qkx ?_
  rintro v666 rfl
  refine Qs (n := 0) rfl ?_
  rintro A667 c668 rfl m669
  refine qnD (pk [7, 8]) (pk [7, 8]) ?_
  refine qoD 11 4 287 rfl ?_
  refine Qhg (χ := List Value) (val := fun x => .tuple #[.agg x.toArray, .bool ((Qgi (Qan x0) (Qbi x1)).2)]) (js := fun x => [Qd Qdd x ((Qgi (Qan x0) (Qbi x1)).1)]) (Qr Qrc rfl) (fun W hm => Qsi W _ (Qan x0) _ (Qbi x1) (Qfr (x := (Qan x0)) (hm.rdSI (n := 1) rfl) (hm.rdSI (n := 2) rfl) (hm.rdSI (n := 3) rfl) (hm.rdSI (n := 4) rfl) (hm.rdSI (n := 5) rfl)) (Qhs (x := (Qbi x1)) (hm.rdSI (n := 0) rfl)) (by rw [Qkc]; exact (Qhl (by omega))) (by rw [Qkd]; exact (Qgw (by omega)))) (Qo rfl) (by decide) (fun z671 => ?_)
  rw [← hG49]
  refine Qgc ?_
  rintro ⟨v672, v673, v674, v675, v676⟩ rfl
  refine Qs (n := 0) rfl ?_
  rintro A677 c678 rfl m679
  refine Qs (n := 1) rfl ?_
  rintro A681 c682 rfl m683
  refine Qs (n := 2) rfl ?_
  rintro A685 c686 rfl m687
  refine Qs (n := 3) rfl ?_
  rintro A689 c690 rfl m691
  refine Qs (n := 4) rfl ?_
  rintro A693 c694 rfl m695
  refine qnD (pk [12, 13]) (pk [12, 13]) ?_
  refine qtD 11 5 319 rfl vmv ?_
  refine qtD 11 6 383 rfl (fun W hm => Qes rfl rfl) ?_
  refine qtP 11 7 511 rfl (fun W => Qes rfl rfl) ?_
  exact Qdw sl5 (pk [11, 0, 1, 2, 3, 4, 5, 6, 7, 8, 9, 10, 12, 13]) (H (A677, c678, A681, c682, A685, c686, A689, c690, A693, c694, p638, A667, c668, A645, c646, A649, c650, A653, c654, A657, c658, A661, c662))
 exact Qek

end Go.Proofs.YtmikmbmdibabmaaGreat
