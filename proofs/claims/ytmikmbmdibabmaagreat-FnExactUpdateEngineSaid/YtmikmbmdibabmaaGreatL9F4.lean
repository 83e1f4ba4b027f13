/-
  Contracts of functions, printed by a program of ours.
-/
import Derived.Test.YtmikmbmdibabmaaGreatL9F3
namespace Go.Proofs.YtmikmbmdibabmaaGreat
open Go.RowKit
set_option maxRecDepth 100000
set_option maxHeartbeats 4000000
open _root_.Go.Proofs.Tryz
def Qug (x0 : Qag) (k204 : Nat) (d207 : (List Qay)) : Qag ⊕ ((List Qay)) :=
 Sum.inr (d207 ++ [(gt x0.Ledger k204)])
def Quf (x0 : Qag) (k138 : Nat) (d141 : (List Qbg)) : Qag ⊕ ((List Qbg)) :=
 Sum.inr (d141 ++ [(gt x0.Done k138)])
def Que (x0 : Qag) (k59 : Nat) (d62 : (List Qbf)) : Qag ⊕ ((List Qbf)) :=
 Sum.inr (d62 ++ [(gt x0.Active k59)])
def Qrq (x0 : Qag) : Qag :=
 Sum.elim id (fun (s1_ : (List Qbf)) => Sum.elim id (fun (s2_ : (List Qbg)) => Sum.elim id (fun (s : (List Qay)) => (⟨x0.Store, x0.Cursor, x0.Order, s1_, s2_, s, x0.Steps⟩ : Qag)) (rng (R := Qag) (fun k (s : (List Qay)) => Qug x0 k s) (x0.Ledger.length - 0) 0 [])) (rng (R := Qag) (fun k (s : (List Qbg)) => Quf x0 k s) (x0.Done.length - 0) 0 [])) (rng (R := Qag) (fun k (s : (List Qbf)) => Que x0 k s) (x0.Active.length - 0) 0 [])
theorem Qafq : Cb Tryz.prog 101 := ⟨f101, _, func101, rfl, by decide⟩
theorem Qakl (w : World) (z0 : List Value) (x0 : Qag) (r_0 : Qdd.rd w w.heap.size z0 x0) (s_0 : Qgf 68719476736 x0) :
  Calls Tryz.prog 101 #[.agg z0.toArray] w fun e w' => ∃ v : List Value, e = .returned (.agg v.toArray) ∧ Mem w.heap.size w [Qd Qdd v (Qrq x0)] w' := by
 obtain ⟨v1, v3, v5, v7, v9, rfl, r2, r4, r6, r8, r10⟩ := Qki r_0
 obtain ⟨m11, A12, c13, rfl, q14, r15⟩ := Qk r2
 obtain ⟨m16, A17, c18, rfl, q19, r20⟩ := Qk r4
 obtain ⟨m21, A22, c23, rfl, q24, r25⟩ := Qk r6
 obtain ⟨m26, A27, c28, rfl, q29, r30⟩ := Qk r8
 obtain ⟨m31, A32, c33, rfl, q34, r35⟩ := Qk r10
 have l36 : x0.Store.Segments.length ≤ 68719476736 := s_0.1.1
 have l37 : x0.Order.length ≤ 68719476736 := s_0.2.1
 have l38 : x0.Active.length ≤ 68719476736 := s_0.2.2.1.1
 have l39 : x0.Done.length ≤ 68719476736 := s_0.2.2.2.1.1
 have l40 : x0.Ledger.length ≤ 68719476736 := s_0.2.2.2.2.1
 refine ce1 (L := [(0, .agg #[.slice A12 x0.Store.Segments.length c13, .int .i64 x0.Store.Now, .int .i64 x0.Cursor, .slice A17 x0.Order.length c18, .slice A22 x0.Active.length c23, .slice A27 x0.Done.length c28, .slice A32 x0.Ledger.length c33, .int .i64 x0.Steps])]) (N := 67) func101 ?_
 refine sr ?_
 refine Qbj rfl (Qo rfl) (by decide) (fun p41 => ?_)
 refine Qbo Qbv rfl (Qo rfl) (by decide) (fun p42 => ?_)
 refine nt' (Qf ?_)
 let K7 : List Value := [.slice none 0 0, .int .i64 0, .int .i64 0, .slice none 0 0, .slice none 0 0, .slice none 0 0, .slice none 0 0, .int .i64 0]
 let K8 : List Value := [.slice A12 x0.Store.Segments.length c13, .int .i64 x0.Store.Now, .int .i64 x0.Cursor, .slice A17 x0.Order.length c18, .slice A22 x0.Active.length c23, .slice A27 x0.Done.length c28, .slice A32 x0.Ledger.length c33, .int .i64 x0.Steps]
 refine rd2 13 [12] (s := [Qa p42 47 K7, Qa p41 47 K8]) (s2 := [Qa p42 47 K7, Qa p41 47 K8]) (fun W hm => hm) (fun W hm => hm) ?_
 refine Qlh (σ := Option Addr × Nat × Option Addr × Nat × Nat) (fun s => [Qa p42 47 K7, Qa p41 47 K8]) 13 4095 1 (fun s => [(1, .pointer (some (⟨p41, 0, none⟩ : Addr))), (2, .pointer (some (⟨p42, 0, none⟩ : Addr))), (20, .agg #[.slice s.1 x0.Store.Segments.length s.2.1, .int .i64 x0.Store.Now, .int .i64 x0.Cursor, .slice s.2.2.1 x0.Order.length s.2.2.2.1, .slice none 0 0, .slice none 0 0, .slice none 0 0, .int .i64 x0.Steps]), (3, .pointer (some (⟨s.2.2.2.2, 0, none⟩ : Addr)))]) (fun s => [Qa s.2.2.2.2 47 K7, Qd (tSl Qg 3) [.slice s.2.2.1 x0.Order.length s.2.2.2.1] x0.Order, Qd (tSl (tSl Qm 191) 131) [.slice s.1 x0.Store.Segments.length s.2.1] x0.Store.Segments, Qa p42 47 K7, Qa p41 47 K8]) ?_ (fun H => ?_)
 ·
  rintro ⟨A45, c46, A50, c51, p54⟩
  let I21 : It := Qd (tSl Qg 3) [.slice A50 x0.Order.length c51] x0.Order
  let I22 : It := Qd (tSl (tSl Qm 191) 131) [.slice A45 x0.Store.Segments.length c46] x0.Store.Segments
  show QD _ _ _ _ _ _ _ _ [(1, .pointer (some (⟨p41, 0, none⟩ : Addr))), (2, .pointer (some (⟨p42, 0, none⟩ : Addr))), (20, .agg #[.slice A45 x0.Store.Segments.length c46, .int .i64 x0.Store.Now, .int .i64 x0.Cursor, .slice A50 x0.Order.length c51, .slice none 0 0, .slice none 0 0, .slice none 0 0, .int .i64 x0.Steps]), (3, .pointer (some (⟨p54, 0, none⟩ : Addr)))] _ [Qa p42 47 K7, Qa p41 47 K8] _ [Qa p54 47 K7, I21, I22, Qa p42 47 K7, Qa p41 47 K8]
  refine Qej (n := 1) rfl ?_
  intro m55 m56
  refine Qej (n := 2) rfl ?_
  intro m57 m58
  refine qoD 13 12 8191 rfl ?_
  refine sb 0 [.slice A45 x0.Store.Segments.length c46, .int .i64 x0.Store.Now, .int .i64 x0.Cursor, .slice A50 x0.Order.length c51, .slice none 0 0, .slice none 0 0, .slice none 0 0, .int .i64 x0.Steps] [I21, I22, Qa p42 47 K7, Qa p41 47 K8] (fun W hm => hm) Qbv ?_
  refine qxD (pk [3, 4]) ?_
  refine Qef (by kernel_rfl) ?_
  refine Qi (Qf (sr ?_))
  refine wv (vf Qaq rfl Qfn) ?_
  refine wv (vl 4 4 Qcj) ?_
  refine wv (Qai Qcj) ?_
  refine wm (nt' (Qab ?_))
  refine Qdf (fun W hm => (hm.addNil (E := Qbw) (e := 64)).last) ?_
  let F1 := fun k (s : (List Qbf)) => Que x0 k s
  let R4 := rng (R := Qag) F1
  refine Qbl (σ := Nat × ((List Qbf)) × (Option Addr × Nat)) (fun s => [(1, .pointer (some (⟨p41, 0, none⟩ : Addr))), (2, .pointer (some (⟨p42, 0, none⟩ : Addr))), (3, .pointer (some (⟨p54, 0, none⟩ : Addr))), (22, .slice A22 x0.Active.length c23), (23, .int .i64 ((x0.Active.length : Nat) : Int)), (24, .int .i64 ((s.1 : Nat) : Int))]) (fun s => [Qa p54 47 [.slice A45 x0.Store.Segments.length c46, .int .i64 x0.Store.Now, .int .i64 x0.Cursor, .slice A50 x0.Order.length c51, .slice s.2.2.1 s.2.1.length s.2.2.2, .slice none 0 0, .slice none 0 0, .int .i64 x0.Steps], I21, I22, Qa p42 47 K7, Qa p41 47 K8, Qd (tSl Qbw 64) [.slice s.2.2.1 s.2.1.length s.2.2.2] s.2.1]) (fun s => s.1 ≤ x0.Active.length ∧ R4 (x0.Active.length - s.1) s.1 s.2.1 = R4 (x0.Active.length - 0) 0 [] ∧ s.2.1.length ≤ 0 + s.1) (fun s => x0.Active.length - s.1) (0, [], (none, 0)) sl6 (fun W hm => hm) ⟨(by omega), rfl, Nat.le_refl _⟩ ?_
  rintro ⟨k59, d62, ⟨A63, c64⟩⟩ H67
  obtain ⟨hk65, hF66, hi68⟩ : k59 ≤ x0.Active.length ∧ R4 (x0.Active.length - k59) k59 d62 = R4 (x0.Active.length - 0) 0 [] ∧ d62.length ≤ 0 + k59 := H67
  let K9 : List Value := [.slice A45 x0.Store.Segments.length c46, .int .i64 x0.Store.Now, .int .i64 x0.Cursor, .slice A50 x0.Order.length c51, .slice A63 d62.length c64, .slice none 0 0, .slice none 0 0, .int .i64 x0.Steps]
  let I23 : It := Qd (tSl Qbw 64) [.slice A63 d62.length c64] d62
  show CM Tryz.prog 67 _ _ _ _ [(1, .pointer (some (⟨p41, 0, none⟩ : Addr))), (2, .pointer (some (⟨p42, 0, none⟩ : Addr))), (3, .pointer (some (⟨p54, 0, none⟩ : Addr))), (22, .slice A22 x0.Active.length c23), (23, .int .i64 ((x0.Active.length : Nat) : Int)), (24, .int .i64 ((k59 : Nat) : Int))] [Qa p54 47 K9, I21, I22, Qa p42 47 K7, Qa p41 47 K8, I23]
  refine sr ?_
  refine wv Qak ?_
  refine nt' (Qf ?_)
  by_cases hl69 : k59 < x0.Active.length
  ·have g70 := dlT hl69
   refine Ql rfl g70 ?_
   refine Qq (Qi (Qf (Qab (sr ?_))))
   obtain ⟨a71, rfl, hb72, he73⟩ := q24 (by omega)
   refine wv (vix 10 k59 Qcj Qcs) ?_
   obtain ⟨_, e83, hc74⟩ := he73 k59 _ (Qca (show k59 < x0.Active.length from by omega))
   obtain ⟨v75, v77, v79, v81, rfl, r76, r78, r80, r82⟩ := Qhz e83
   have l84 : ((gt x0.Active k59).Query.Conds).length ≤ 68719476736 := (s_0.2.2.1.2 _ (Qbh (show k59 < x0.Active.length from by omega))).1.1
   have l85 : ((gt x0.Active k59).Query.Out).length ≤ 68719476736 := (s_0.2.2.1.2 _ (Qbh (show k59 < x0.Active.length from by omega))).1.2
   have l86 : ((gt x0.Active k59).Todo).length ≤ 68719476736 := (s_0.2.2.1.2 _ (Qbh (show k59 < x0.Active.length from by omega))).2.1
   have l87 : ((gt x0.Active k59).Rows).length ≤ 68719476736 := (s_0.2.2.1.2 _ (Qbh (show k59 < x0.Active.length from by omega))).2.2.1
   obtain ⟨m88, A89, c90, rfl, q91, r92⟩ := Qk r76
   obtain ⟨m93, A94, c95, rfl, q96, r97⟩ := Qk r78
   obtain ⟨m98, A99, c100, rfl, q101, r102⟩ := Qk r80
   obtain ⟨m103, A104, c105, rfl, q106, r107⟩ := Qk r82
   let K10 : List Value := [.int .i64 ((gt x0.Active k59).Query.Id), .int .i64 ((gt x0.Active k59).Query.Tenant), .slice A89 ((gt x0.Active k59).Query.Conds).length c90, .slice A94 ((gt x0.Active k59).Query.Out).length c95, .int .i64 ((gt x0.Active k59).Time), .slice A99 ((gt x0.Active k59).Todo).length c100, .int .i64 ((gt x0.Active k59).Age), .int .i64 ((gt x0.Active k59).Sent), .int .i64 ((gt x0.Active k59).Cap), .slice A104 ((gt x0.Active k59).Rows).length c105]
   refine wv (fun W hm => Qz (cs := K10) Qbu Qcs rfl rfl (hm.elCells (show (a71.add (k59 * 10)).block < w.heap.size from by rw [Qah]; exact hb72.1) hc74)) ?_
   refine Qbo Qcs rfl (Qo rfl) (by decide) (fun p108 => ?_)
   let K11 : List Value := [.slice A12 x0.Store.Segments.length c13, .int .i64 x0.Store.Now, .int .i64 x0.Cursor, .slice A17 x0.Order.length c18, .slice (some a71) x0.Active.length c23, .slice A27 x0.Done.length c28, .slice A32 x0.Ledger.length c33, .int .i64 x0.Steps]
   refine sb 0 K10 [Qa p54 47 K9, I21, I22, Qa p42 47 K7, Qa p41 47 K11, I23] (fun W hm => hm) Qcs ?_
   refine nt' ?_
   refine rd2 8 [7] (s := [Qa p108 64 K10, I21, I22, Qa p42 47 K7, Qa p41 47 K11]) (s2 := [Qa p108 64 K10, Qa p54 47 K9, I21, I22, Qa p42 47 K7, Qa p41 47 K11]) (pk [0, 2, 3, 4, 5]) (pk [0, 1, 2, 3, 4, 5]) ?_
   refine qtD 8 0 1 rfl (vf Qaq rfl Qfn) ?_
   refine qtD 8 1 3 rfl (vl 1 4 Qcj) ?_
   refine qtD 8 2 7 rfl (fun W hm => Qz (cs := K10) Qbu Qcs rfl rfl (hm.boxCells (n := 0) rfl)) ?_
   refine qoD 8 3 15 rfl ?_
   refine wcs Qbw (gt x0.Active k59) (Qr Qagz rfl) (fun W hm => Qakg W _ (gt x0.Active k59) (Qqu (x := (gt x0.Active k59)) (hm.rdS0 r92) (hm.rdS0 r97) (hm.rdS0 r102) (hm.rdS0 r107)) (s_0.2.2.1.2 _ (Qbh (show k59 < x0.Active.length from by omega)))) (fun z109 => ?_)
   refine Qqv ?_
   rintro ⟨v110, v111, v112, v113⟩ rfl
   refine Qs (n := 0) rfl ?_
   rintro A114 c115 rfl m116
   refine Qs (n := 1) rfl ?_
   rintro A118 c119 rfl m120
   refine Qs (n := 2) rfl ?_
   rintro A122 c123 rfl m124
   refine Qs (n := 3) rfl ?_
   rintro A126 c127 rfl m128
   refine qnD (pk [4, 6, 7, 8, 9]) (pk [4, 5, 6, 7, 8, 9]) ?_
   refine qoD 8 4 31 rfl ?_
   let K12 : List Value := [.int .i64 ((gt x0.Active k59).Query.Id), .int .i64 ((gt x0.Active k59).Query.Tenant), .slice A114 ((gt x0.Active k59).Query.Conds).length c115, .slice A118 ((gt x0.Active k59).Query.Out).length c119, .int .i64 ((gt x0.Active k59).Time), .slice A122 ((gt x0.Active k59).Todo).length c123, .int .i64 ((gt x0.Active k59).Age), .int .i64 ((gt x0.Active k59).Sent), .int .i64 ((gt x0.Active k59).Cap), .slice A126 ((gt x0.Active k59).Rows).length c127]
   refine Qfb (cs := K12) Qcj Qcs rfl (by decide) (by decide) rfl (by kernel_rfl) (Qo rfl) (by decide) (fun p130 => ?_)
   refine qnD (pk [5, 7, 8, 9, 10]) (pk [5, 6, 7, 8, 9, 10]) ?_
   refine qoD 8 5 63 rfl ?_
   refine ap1 Qbw 64 (.slice A63 d62.length c64) d62 (gt x0.Active k59) [Qd (tSl Qbz 201) [.slice A114 ((gt x0.Active k59).Query.Conds).length c115] ((gt x0.Active k59).Query.Conds), Qd (tSl Qg 3) [.slice A118 ((gt x0.Active k59).Query.Out).length c119] ((gt x0.Active k59).Query.Out), Qd (tSl Qg 3) [.slice A122 ((gt x0.Active k59).Todo).length c123] ((gt x0.Active k59).Todo), Qd (tSl Qbp 73) [.slice A126 ((gt x0.Active k59).Rows).length c127] ((gt x0.Active k59).Rows)] [Qa p108 64 K10, Qa p54 47 K9, I21, I22, Qa p42 47 K7, Qa p41 47 K11] K12 (pk [0, 11, 1, 2, 3, 4, 5, 6, 7, 8, 9, 10]) (fun _ _ hs => Els.single (Qmm (x := (gt x0.Active k59)) hs)) Qcj Qcs (show (d62.length + 1) * 144 ≤ 140737488355328 from by omega) (fun v131 => ?_)
   refine Qs (n := 0) rfl ?_
   rintro A132 c133 rfl m134
   refine qnD (pk [1, 3, 4, 5, 6]) (pk [1, 2, 3, 4, 5, 6]) ?_
   refine qtD 8 6 127 rfl (vf Qaq rfl Qfn) ?_
   refine qoD 8 7 255 rfl ?_
   refine sb 4 [.slice A45 x0.Store.Segments.length c46, .int .i64 x0.Store.Now, .int .i64 x0.Cursor, .slice A50 x0.Order.length c51, .slice A132 (d62 ++ [(gt x0.Active k59)]).length c133, .slice none 0 0, .slice none 0 0, .int .i64 x0.Steps] [Qd (tSl Qbw 64) [.slice A132 (d62 ++ [(gt x0.Active k59)]).length c133] (d62 ++ [(gt x0.Active k59)]), Qa p108 64 K10, I21, I22, Qa p42 47 K7, Qa p41 47 K11] (pk [2, 0, 1, 3, 4, 5, 6]) Qfn ?_
   refine qxD (pk [2, 3, 4, 5, 6]) ?_
   refine Qef (by kernel_rfl) ?_
   refine Qax (Qi (Qad ?_))
   refine wv (Qbd k59 1 (by omega)) ?_
   refine wm (Qal ?_)
   have hn136 := Qbb (R := Qag) (body := F1) (k := k59) (s := d62) (s' := (d62 ++ [(gt x0.Active k59)])) (show k59 < x0.Active.length from by omega) (rfl) hF66
   exact Qaz (k59 + 1, (d62 ++ [(gt x0.Active k59)]), (A132, c133)) sl6 (pk [0, 3, 4, 5, 6, 1]) ⟨(by omega), hn136, (show (d62 ++ [(gt x0.Active k59)]).length ≤ 0 + (k59 + 1) from by first | omega | (simp only [List.length_append, List.length_cons, List.length_nil] at *; omega))⟩ (rl (by omega))
  have g70 := dlF hl69
  refine Qp rfl g70 ?_
  refine Qbk (Qac (Qac ?_))
  have hE137 : R4 (x0.Active.length - 0) 0 [] = Sum.inr d62 := Qbn hl69 hF66
  refine Qbm (Qi (Qf (sr ?_)))
  refine wv (vf Qaq rfl type44) ?_
  refine wv (vl 4 5 Qdn) ?_
  refine wv (Qai Qdn) ?_
  refine wm (nt' (Qab ?_))
  refine Qdf (fun W hm => (hm.addNil (E := Qce) (e := 37)).last) ?_
  let F2 := fun k (s : (List Qbg)) => Quf x0 k s
  let R5 := rng (R := Qag) F2
  refine Qbl (σ := Nat × ((List Qbg)) × (Option Addr × Nat)) (fun s => [(1, .pointer (some (⟨p41, 0, none⟩ : Addr))), (2, .pointer (some (⟨p42, 0, none⟩ : Addr))), (3, .pointer (some (⟨p54, 0, none⟩ : Addr))), (37, .slice A27 x0.Done.length c28), (38, .int .i64 ((x0.Done.length : Nat) : Int)), (39, .int .i64 ((s.1 : Nat) : Int))]) (fun s => [Qa p54 47 [.slice A45 x0.Store.Segments.length c46, .int .i64 x0.Store.Now, .int .i64 x0.Cursor, .slice A50 x0.Order.length c51, .slice A63 d62.length c64, .slice s.2.2.1 s.2.1.length s.2.2.2, .slice none 0 0, .int .i64 x0.Steps], I21, I22, Qa p42 47 K7, Qa p41 47 K8, I23, Qd (tSl Qce 37) [.slice s.2.2.1 s.2.1.length s.2.2.2] s.2.1]) (fun s => s.1 ≤ x0.Done.length ∧ R5 (x0.Done.length - s.1) s.1 s.2.1 = R5 (x0.Done.length - 0) 0 [] ∧ s.2.1.length ≤ 0 + s.1) (fun s => x0.Done.length - s.1) (0, [], (none, 0)) sl6 (fun W hm => hm) ⟨(by omega), rfl, Nat.le_refl _⟩ ?_
  rintro ⟨k138, d141, ⟨A142, c143⟩⟩ H146
  obtain ⟨hk144, hF145, hi147⟩ : k138 ≤ x0.Done.length ∧ R5 (x0.Done.length - k138) k138 d141 = R5 (x0.Done.length - 0) 0 [] ∧ d141.length ≤ 0 + k138 := H146
  let K13 : List Value := [.slice A45 x0.Store.Segments.length c46, .int .i64 x0.Store.Now, .int .i64 x0.Cursor, .slice A50 x0.Order.length c51, .slice A63 d62.length c64, .slice A142 d141.length c143, .slice none 0 0, .int .i64 x0.Steps]
  let I24 : It := Qd (tSl Qce 37) [.slice A142 d141.length c143] d141
  show CM Tryz.prog 67 _ _ _ _ [(1, .pointer (some (⟨p41, 0, none⟩ : Addr))), (2, .pointer (some (⟨p42, 0, none⟩ : Addr))), (3, .pointer (some (⟨p54, 0, none⟩ : Addr))), (37, .slice A27 x0.Done.length c28), (38, .int .i64 ((x0.Done.length : Nat) : Int)), (39, .int .i64 ((k138 : Nat) : Int))] [Qa p54 47 K13, I21, I22, Qa p42 47 K7, Qa p41 47 K8, I23, I24]
  refine sr ?_
  refine wv Qak ?_
  refine nt' (Qf ?_)
  by_cases hl148 : k138 < x0.Done.length
  ·have g149 := dlT hl148
   refine Ql rfl g149 ?_
   refine Qq (Qi (Qf (Qab (sr ?_))))
   obtain ⟨a150, rfl, hb151, he152⟩ := q29 (by omega)
   refine wv (vix 7 k138 Qdn Qdl) ?_
   obtain ⟨_, e160, hc153⟩ := he152 k138 _ (Qca (show k138 < x0.Done.length from by omega))
   obtain ⟨v154, v156, v158, rfl, r155, r157, r159⟩ := Qkj e160
   have l161 : ((gt x0.Done k138).Query.Conds).length ≤ 68719476736 := (s_0.2.2.2.1.2 _ (Qbh (show k138 < x0.Done.length from by omega))).1.1
   have l162 : ((gt x0.Done k138).Query.Out).length ≤ 68719476736 := (s_0.2.2.2.1.2 _ (Qbh (show k138 < x0.Done.length from by omega))).1.2
   have l163 : ((gt x0.Done k138).Rows).length ≤ 68719476736 := (s_0.2.2.2.1.2 _ (Qbh (show k138 < x0.Done.length from by omega))).2.1
   obtain ⟨m164, A165, c166, rfl, q167, r168⟩ := Qk r155
   obtain ⟨m169, A170, c171, rfl, q172, r173⟩ := Qk r157
   obtain ⟨m174, A175, c176, rfl, q177, r178⟩ := Qk r159
   let K14 : List Value := [.int .i64 ((gt x0.Done k138).Query.Id), .int .i64 ((gt x0.Done k138).Query.Tenant), .slice A165 ((gt x0.Done k138).Query.Conds).length c166, .slice A170 ((gt x0.Done k138).Query.Out).length c171, .int .i64 ((gt x0.Done k138).Time), .int .i64 ((gt x0.Done k138).Steps), .slice A175 ((gt x0.Done k138).Rows).length c176]
   refine wv (fun W hm => Qz (cs := K14) Qdh Qdl rfl rfl (hm.elCells (show (a150.add (k138 * 7)).block < w.heap.size from by rw [Qah]; exact hb151.1) hc153)) ?_
   refine Qbo Qdl rfl (Qo rfl) (by decide) (fun p179 => ?_)
   let K15 : List Value := [.slice A12 x0.Store.Segments.length c13, .int .i64 x0.Store.Now, .int .i64 x0.Cursor, .slice A17 x0.Order.length c18, .slice A22 x0.Active.length c23, .slice (some a150) x0.Done.length c28, .slice A32 x0.Ledger.length c33, .int .i64 x0.Steps]
   refine sb 0 K14 [Qa p54 47 K13, I21, I22, Qa p42 47 K7, Qa p41 47 K15, I23, I24] (fun W hm => hm) Qdl ?_
   refine nt' ?_
   refine rd2 8 [7] (s := [Qa p179 37 K14, I21, I22, Qa p42 47 K7, Qa p41 47 K15, I23]) (s2 := [Qa p179 37 K14, Qa p54 47 K13, I21, I22, Qa p42 47 K7, Qa p41 47 K15, I23]) (pk [0, 2, 3, 4, 5, 6]) (pk [0, 1, 2, 3, 4, 5, 6]) ?_
   refine qtD 8 0 1 rfl (vf Qaq rfl type44) ?_
   refine qtD 8 1 3 rfl (vl 1 5 Qdn) ?_
   refine qtD 8 2 7 rfl (fun W hm => Qz (cs := K14) Qdh Qdl rfl rfl (hm.boxCells (n := 0) rfl)) ?_
   refine qoD 8 3 15 rfl ?_
   refine wcs Qce (gt x0.Done k138) (Qr cb86 rfl) (fun W hm => Qakp W _ (gt x0.Done k138) (Qxa (x := (gt x0.Done k138)) (hm.rdS0 r168) (hm.rdS0 r173) (hm.rdS0 r178)) (s_0.2.2.2.1.2 _ (Qbh (show k138 < x0.Done.length from by omega)))) (fun z180 => ?_)
   refine Qxb ?_
   rintro ⟨v181, v182, v183⟩ rfl
   refine Qs (n := 0) rfl ?_
   rintro A184 c185 rfl m186
   refine Qs (n := 1) rfl ?_
   rintro A188 c189 rfl m190
   refine Qs (n := 2) rfl ?_
   rintro A192 c193 rfl m194
   refine qnD (pk [3, 5, 6, 7, 8, 9]) (pk [3, 4, 5, 6, 7, 8, 9]) ?_
   refine qoD 8 4 31 rfl ?_
   let K16 : List Value := [.int .i64 ((gt x0.Done k138).Query.Id), .int .i64 ((gt x0.Done k138).Query.Tenant), .slice A184 ((gt x0.Done k138).Query.Conds).length c185, .slice A188 ((gt x0.Done k138).Query.Out).length c189, .int .i64 ((gt x0.Done k138).Time), .int .i64 ((gt x0.Done k138).Steps), .slice A192 ((gt x0.Done k138).Rows).length c193]
   refine Qfb (cs := K16) Qdn Qdl rfl (by decide) (by decide) rfl (by kernel_rfl) (Qo rfl) (by decide) (fun p196 => ?_)
   refine qnD (pk [4, 6, 7, 8, 9, 10]) (pk [4, 5, 6, 7, 8, 9, 10]) ?_
   refine qoD 8 5 63 rfl ?_
   refine ap1 Qce 37 (.slice A142 d141.length c143) d141 (gt x0.Done k138) [Qd (tSl Qbz 201) [.slice A184 ((gt x0.Done k138).Query.Conds).length c185] ((gt x0.Done k138).Query.Conds), Qd (tSl Qg 3) [.slice A188 ((gt x0.Done k138).Query.Out).length c189] ((gt x0.Done k138).Query.Out), Qd (tSl Qbp 73) [.slice A192 ((gt x0.Done k138).Rows).length c193] ((gt x0.Done k138).Rows)] [Qa p179 37 K14, Qa p54 47 K13, I21, I22, Qa p42 47 K7, Qa p41 47 K15, I23] K16 (pk [0, 11, 1, 2, 3, 4, 5, 6, 7, 8, 9, 10]) (fun _ _ hs => Els.single (Qoz (x := (gt x0.Done k138)) hs)) Qdn Qdl (show (d141.length + 1) * 104 ≤ 140737488355328 from by omega) (fun v197 => ?_)
   refine Qs (n := 0) rfl ?_
   rintro A198 c199 rfl m200
   refine qnD (pk [1, 3, 4, 5, 6, 7]) (pk [1, 2, 3, 4, 5, 6, 7]) ?_
   refine qtD 8 6 127 rfl (vf Qaq rfl type44) ?_
   refine qoD 8 7 255 rfl ?_
   refine sb 5 [.slice A45 x0.Store.Segments.length c46, .int .i64 x0.Store.Now, .int .i64 x0.Cursor, .slice A50 x0.Order.length c51, .slice A63 d62.length c64, .slice A198 (d141 ++ [(gt x0.Done k138)]).length c199, .slice none 0 0, .int .i64 x0.Steps] [Qd (tSl Qce 37) [.slice A198 (d141 ++ [(gt x0.Done k138)]).length c199] (d141 ++ [(gt x0.Done k138)]), Qa p179 37 K14, I21, I22, Qa p42 47 K7, Qa p41 47 K15, I23] (pk [2, 0, 1, 3, 4, 5, 6, 7]) type44 ?_
   refine qxD (pk [2, 3, 4, 5, 6, 7]) ?_
   refine Qef (by kernel_rfl) ?_
   refine Qax (Qi (Qad ?_))
   refine wv (Qbd k138 1 (by omega)) ?_
   refine wm (Qal ?_)
   have hn202 := Qbb (R := Qag) (body := F2) (k := k138) (s := d141) (s' := (d141 ++ [(gt x0.Done k138)])) (show k138 < x0.Done.length from by omega) (rfl) hF145
   exact Qaz (k138 + 1, (d141 ++ [(gt x0.Done k138)]), (A198, c199)) sl6 (pk [0, 3, 4, 5, 6, 7, 1]) ⟨(by omega), hn202, (show (d141 ++ [(gt x0.Done k138)]).length ≤ 0 + (k138 + 1) from by first | omega | (simp only [List.length_append, List.length_cons, List.length_nil] at *; omega))⟩ (rl (by omega))
  have g149 := dlF hl148
  refine Qp rfl g149 ?_
  refine Qbk (Qac (Qac ?_))
  have hE203 : R5 (x0.Done.length - 0) 0 [] = Sum.inr d141 := Qbn hl148 hF145
  refine Qbm (Qi (Qf (sr ?_)))
  refine wv (vf Qaq rfl type45) ?_
  refine wv (vl 4 6 Qdt) ?_
  refine wv (Qai Qdt) ?_
  refine wm (nt' (Qab ?_))
  refine Qdf (fun W hm => (hm.addNil (E := Qbx) (e := 133)).last) ?_
  let F3 := fun k (s : (List Qay)) => Qug x0 k s
  let R6 := rng (R := Qag) F3
  refine Qbl (σ := Nat × ((List Qay)) × (Option Addr × Nat)) (fun s => [(2, .pointer (some (⟨p42, 0, none⟩ : Addr))), (3, .pointer (some (⟨p54, 0, none⟩ : Addr))), (52, .slice A32 x0.Ledger.length c33), (53, .int .i64 ((x0.Ledger.length : Nat) : Int)), (54, .int .i64 ((s.1 : Nat) : Int))]) (fun s => [Qa p54 47 [.slice A45 x0.Store.Segments.length c46, .int .i64 x0.Store.Now, .int .i64 x0.Cursor, .slice A50 x0.Order.length c51, .slice A63 d62.length c64, .slice A142 d141.length c143, .slice s.2.2.1 s.2.1.length s.2.2.2, .int .i64 x0.Steps], I21, I22, Qa p42 47 K7, Qa p41 47 K8, I23, I24, Qd (tSl Qbx 133) [.slice s.2.2.1 s.2.1.length s.2.2.2] s.2.1]) (fun s => s.1 ≤ x0.Ledger.length ∧ R6 (x0.Ledger.length - s.1) s.1 s.2.1 = R6 (x0.Ledger.length - 0) 0 [] ∧ s.2.1.length ≤ 0 + s.1) (fun s => x0.Ledger.length - s.1) (0, [], (none, 0)) sl5 (fun W hm => hm) ⟨(by omega), rfl, Nat.le_refl _⟩ ?_
  rintro ⟨k204, d207, ⟨A208, c209⟩⟩ H212
  obtain ⟨hk210, hF211, hi213⟩ : k204 ≤ x0.Ledger.length ∧ R6 (x0.Ledger.length - k204) k204 d207 = R6 (x0.Ledger.length - 0) 0 [] ∧ d207.length ≤ 0 + k204 := H212
  let K17 : List Value := [.slice A45 x0.Store.Segments.length c46, .int .i64 x0.Store.Now, .int .i64 x0.Cursor, .slice A50 x0.Order.length c51, .slice A63 d62.length c64, .slice A142 d141.length c143, .slice A208 d207.length c209, .int .i64 x0.Steps]
  let I25 : It := Qd (tSl Qbx 133) [.slice A208 d207.length c209] d207
  show CM Tryz.prog 67 _ _ _ _ [(2, .pointer (some (⟨p42, 0, none⟩ : Addr))), (3, .pointer (some (⟨p54, 0, none⟩ : Addr))), (52, .slice A32 x0.Ledger.length c33), (53, .int .i64 ((x0.Ledger.length : Nat) : Int)), (54, .int .i64 ((k204 : Nat) : Int))] [Qa p54 47 K17, I21, I22, Qa p42 47 K7, Qa p41 47 K8, I23, I24, I25]
  refine sr ?_
  refine wv Qak ?_
  refine nt' (Qf ?_)
  by_cases hl214 : k204 < x0.Ledger.length
  ·have g215 := dlT hl214
   refine Ql rfl g215 ?_
   refine Qq (Qi (Qf (Qab (sr ?_))))
   obtain ⟨a216, rfl, hb217, he218⟩ := q34 (by omega)
   refine wv (vix 5 k204 Qdt Qdr) ?_
   obtain ⟨_, e226, hc219⟩ := he218 k204 _ (Qca (show k204 < x0.Ledger.length from by omega))
   obtain ⟨v220, v222, v224, rfl, r221, r223, r225⟩ := Qik e226
   have l227 : ((gt x0.Ledger k204).Ids).length ≤ 68719476736 := (s_0.2.2.2.2.2 _ (Qbh (show k204 < x0.Ledger.length from by omega))).1
   have l228 : ((gt x0.Ledger k204).Tenants).length ≤ 68719476736 := (s_0.2.2.2.2.2 _ (Qbh (show k204 < x0.Ledger.length from by omega))).2.1
   have l229 : ((gt x0.Ledger k204).Rows).length ≤ 68719476736 := (s_0.2.2.2.2.2 _ (Qbh (show k204 < x0.Ledger.length from by omega))).2.2
   obtain ⟨m230, A231, c232, rfl, q233, r234⟩ := Qk r221
   obtain ⟨m235, A236, c237, rfl, q238, r239⟩ := Qk r223
   obtain ⟨m240, A241, c242, rfl, q243, r244⟩ := Qk r225
   let K18 : List Value := [.int .i64 ((gt x0.Ledger k204).Segment), .int .i64 ((gt x0.Ledger k204).Base), .slice A231 ((gt x0.Ledger k204).Ids).length c232, .slice A236 ((gt x0.Ledger k204).Tenants).length c237, .slice A241 ((gt x0.Ledger k204).Rows).length c242]
   refine wv (fun W hm => Qz (cs := K18) Qcm Qdr rfl rfl (hm.elCells (show (a216.add (k204 * 5)).block < w.heap.size from by rw [Qah]; exact hb217.1) hc219)) ?_
   refine Qbo Qdr rfl (Qo rfl) (by decide) (fun p245 => ?_)
   let K19 : List Value := [.slice A12 x0.Store.Segments.length c13, .int .i64 x0.Store.Now, .int .i64 x0.Cursor, .slice A17 x0.Order.length c18, .slice A22 x0.Active.length c23, .slice A27 x0.Done.length c28, .slice (some a216) x0.Ledger.length c33, .int .i64 x0.Steps]
   refine sb 0 K18 [Qa p54 47 K17, I21, I22, Qa p42 47 K7, Qa p41 47 K19, I23, I24, I25] (fun W hm => hm) Qdr ?_
   refine nt' ?_
   refine rd2 8 [7] (s := [Qa p245 133 K18, I21, I22, Qa p42 47 K7, Qa p41 47 K19, I23, I24]) (s2 := [Qa p245 133 K18, Qa p54 47 K17, I21, I22, Qa p42 47 K7, Qa p41 47 K19, I23, I24]) (pk [0, 2, 3, 4, 5, 6, 7]) (pk [0, 1, 2, 3, 4, 5, 6, 7]) ?_
   refine qtD 8 0 1 rfl (vf Qaq rfl type45) ?_
   refine qtD 8 1 3 rfl (vl 1 6 Qdt) ?_
   refine qtD 8 2 7 rfl (fun W hm => Qz (cs := K18) Qcm Qdr rfl rfl (hm.boxCells (n := 0) rfl)) ?_
   refine qoD 8 3 15 rfl ?_
   refine wcs Qbx (gt x0.Ledger k204) (Qr Qaha rfl) (fun W hm => Qakj W _ (gt x0.Ledger k204) (Qoy (x := (gt x0.Ledger k204)) (hm.rdS0 r234) (hm.rdS0 r239) (hm.rdS0 r244)) (s_0.2.2.2.2.2 _ (Qbh (show k204 < x0.Ledger.length from by omega)))) (fun z246 => ?_)
   refine Qsq ?_
   rintro ⟨v247, v248, v249⟩ rfl
   refine Qs (n := 0) rfl ?_
   rintro A250 c251 rfl m252
   refine Qs (n := 1) rfl ?_
   rintro A254 c255 rfl m256
   refine Qs (n := 2) rfl ?_
   rintro A258 c259 rfl m260
   refine qnD (pk [3, 5, 6, 7, 8, 9, 10]) (pk [3, 4, 5, 6, 7, 8, 9, 10]) ?_
   refine qoD 8 4 31 rfl ?_
   let K20 : List Value := [.int .i64 ((gt x0.Ledger k204).Segment), .int .i64 ((gt x0.Ledger k204).Base), .slice A250 ((gt x0.Ledger k204).Ids).length c251, .slice A254 ((gt x0.Ledger k204).Tenants).length c255, .slice A258 ((gt x0.Ledger k204).Rows).length c259]
   refine Qfb (cs := K20) Qdt Qdr rfl (by decide) (by decide) rfl (by kernel_rfl) (Qo rfl) (by decide) (fun p262 => ?_)
   refine qnD (pk [4, 6, 7, 8, 9, 10, 11]) (pk [4, 5, 6, 7, 8, 9, 10, 11]) ?_
   refine qoD 8 5 63 rfl ?_
   refine ap1 Qbx 133 (.slice A208 d207.length c209) d207 (gt x0.Ledger k204) [Qd (tSl Qg 3) [.slice A250 ((gt x0.Ledger k204).Ids).length c251] ((gt x0.Ledger k204).Ids), Qd (tSl Qg 3) [.slice A254 ((gt x0.Ledger k204).Tenants).length c255] ((gt x0.Ledger k204).Tenants), Qd (tSl Qg 3) [.slice A258 ((gt x0.Ledger k204).Rows).length c259] ((gt x0.Ledger k204).Rows)] [Qa p245 133 K18, Qa p54 47 K17, I21, I22, Qa p42 47 K7, Qa p41 47 K19, I23, I24] K20 (pk [0, 12, 1, 2, 3, 4, 5, 6, 7, 8, 9, 10, 11]) (fun _ _ hs => Els.single (Qnp (x := (gt x0.Ledger k204)) hs)) Qdt Qdr (show (d207.length + 1) * 88 ≤ 140737488355328 from by omega) (fun v263 => ?_)
   refine Qs (n := 0) rfl ?_
   rintro A264 c265 rfl m266
   refine qnD (pk [1, 3, 4, 5, 6, 7, 8]) (pk [1, 2, 3, 4, 5, 6, 7, 8]) ?_
   refine qtD 8 6 127 rfl (vf Qaq rfl type45) ?_
   refine qoD 8 7 255 rfl ?_
   refine sb 6 [.slice A45 x0.Store.Segments.length c46, .int .i64 x0.Store.Now, .int .i64 x0.Cursor, .slice A50 x0.Order.length c51, .slice A63 d62.length c64, .slice A142 d141.length c143, .slice A264 (d207 ++ [(gt x0.Ledger k204)]).length c265, .int .i64 x0.Steps] [Qd (tSl Qbx 133) [.slice A264 (d207 ++ [(gt x0.Ledger k204)]).length c265] (d207 ++ [(gt x0.Ledger k204)]), Qa p245 133 K18, I21, I22, Qa p42 47 K7, Qa p41 47 K19, I23, I24] (pk [2, 0, 1, 3, 4, 5, 6, 7, 8]) type45 ?_
   refine qxD (pk [2, 3, 4, 5, 6, 7, 8]) ?_
   refine Qef (by kernel_rfl) ?_
   refine Qax (Qi (Qad ?_))
   refine wv (Qbd k204 1 (by omega)) ?_
   refine wm (Qal ?_)
   have hn268 := Qbb (R := Qag) (body := F3) (k := k204) (s := d207) (s' := (d207 ++ [(gt x0.Ledger k204)])) (show k204 < x0.Ledger.length from by omega) (rfl) hF211
   exact Qaz (k204 + 1, (d207 ++ [(gt x0.Ledger k204)]), (A264, c265)) sl5 (pk [0, 3, 4, 5, 6, 7, 8, 1]) ⟨(by omega), hn268, (show (d207 ++ [(gt x0.Ledger k204)]).length ≤ 0 + (k204 + 1) from by first | omega | (simp only [List.length_append, List.length_cons, List.length_nil] at *; omega))⟩ (rl (by omega))
  have g215 := dlF hl214
  refine Qp rfl g215 ?_
  refine Qbk (Qac (Qac ?_))
  have hE269 : R6 (x0.Ledger.length - 0) 0 [] = Sum.inr d207 := Qbn hl214 hF211
  refine Qbm (Qi (sr ?_))
  refine wv (fun W hm => Qz (cs := K17) Qaq Qbv rfl rfl (hm.boxCells (n := 0) rfl)) ?_
  refine sb 0 K17 [Qa p54 47 K17, I21, I22, Qa p41 47 K8, I23, I24, I25] (pk [3, 0, 1, 2, 4, 5, 6, 7]) Qbv ?_
  refine nt' (Qj ?_)
  have he270 := (show Qrq x0 = (⟨x0.Store, x0.Cursor, x0.Order, d62, d141, d207, x0.Steps⟩ : Qag) from Qat hE137 (Qat hE203 (Qat hE269 (rfl))))
  refine Qec rfl (Qcp (n := 0) rfl rfl Qaq Qbv rfl) (fun W hm => ⟨K17, ?_, ?_⟩)
  ·first | rw [he270] | rfl
  rw [he270]; exact Mem.join (is := [I22, I21, I23, I24, I25]) (js := []) (fun _ _ hs => Qhe (x := (⟨x0.Store, x0.Cursor, x0.Order, d62, d141, d207, x0.Steps⟩ : Qag)) hs) (hm.pick [3, 2, 5, 6, 7] (by decide))
 refine qtD 13 0 1 rfl (vf Qaq rfl Qae) ?_
 refine qtD 13 1 3 rfl (fun W hm => Qz (cs := [.slice A12 x0.Store.Segments.length c13, .int .i64 x0.Store.Now]) Qaf Qae rfl rfl (hm.boxPart (n := 1) rfl rfl)) ?_
 refine qtD 13 3 11 rfl (vf Qaq rfl Qh) ?_
 refine qtD 13 4 27 rfl (vl 1 2 Qt) ?_
 refine qtD 13 5 59 rfl (vf Qaq rfl Qap) ?_
 refine qtD 13 6 123 rfl (vl 1 3 Qv) ?_
 refine qtD 13 8 379 rfl (vf Qaq rfl Qh) ?_
 refine qtD 13 9 891 rfl (vl 1 7 Qt) ?_
 refine qaD [2, 11] ?_
 refine qcD 13 895 rfl ?_ ?_
 ·
  refine wcs Qcz x0.Store (Qr Qlk rfl) (fun W hm => Qls W _ x0.Store (Qeg (x := x0.Store) (hm.rdS0 r15)) s_0.1) (fun z271 => ?_)
  refine Qgd ?_
  rintro v272 rfl
  refine Qs (n := 0) rfl ?_
  rintro A273 c274 rfl m275
  refine qnD (pk [1, 2]) (pk [1, 2]) ?_
  refine qaD [7, 11] ?_
  refine qcD 13 1023 rfl ?_ ?_
  ·
   refine wcl (tSl Qg 3) x0.Order (Qr Qia rfl) (fun W hm => Qid W _ x0.Order (hm.rdS0 r20) s_0.2.1) (fun z277 => ?_)
   refine Qs (n := 0) rfl ?_
   rintro A278 c279 rfl m280
   refine qnD (pk [2, 3]) (pk [2, 3]) ?_
   refine qtD 13 10 2047 rfl (fun W hm => Qeq (cs := [.slice A273 x0.Store.Segments.length c274, .int .i64 x0.Store.Now, .int .i64 x0.Cursor, .slice A278 x0.Order.length c279, .slice none 0 0, .slice none 0 0, .slice none 0 0, .int .i64 x0.Steps]) rfl (by kernel_rfl)) ?_
   refine qoD 13 11 4095 rfl ?_
   refine Qbo Qbv rfl (Qo rfl) (by decide) (fun p282 => ?_)
   refine qnD (pk [3, 4]) (pk [3, 4]) ?_
   exact Qdw sl4 (fun W hm => hm) (H (A273, c274, A278, c279, p282))
  refine qcD 13 2943 rfl ?_ ?_
  ·
   refine Qbo Qbv rfl (Qo rfl) (by decide) (fun p283 => ?_)
   refine qnD (pk [2, 3]) (pk [2, 3]) ?_
   refine qoD 13 7 3071 rfl ?_
   refine wcl (tSl Qg 3) x0.Order (Qr Qia rfl) (fun W hm => Qid W _ x0.Order (hm.rdS0 r20) s_0.2.1) (fun z284 => ?_)
   refine Qs (n := 0) rfl ?_
   rintro A285 c286 rfl m287
   refine qnD (pk [3, 4]) (pk [3, 4]) ?_
   refine qtD 13 10 4095 rfl (fun W hm => Qeq (cs := [.slice A273 x0.Store.Segments.length c274, .int .i64 x0.Store.Now, .int .i64 x0.Cursor, .slice A285 x0.Order.length c286, .slice none 0 0, .slice none 0 0, .slice none 0 0, .int .i64 x0.Steps]) rfl (by kernel_rfl)) ?_
   exact Qdw sl4 (pk [1, 0, 2, 3, 4]) (H (A273, c274, A285, c286, p283))
  exact Qek
 refine qcD 13 2939 rfl ?_ ?_
 ·
  refine Qbo Qbv rfl (Qo rfl) (by decide) (fun p289 => ?_)
  refine qnD (pk [1, 2]) (pk [1, 2]) ?_
  refine qoD 13 2 2943 rfl ?_
  refine wcs Qcz x0.Store (Qr Qlk rfl) (fun W hm => Qls W _ x0.Store (Qeg (x := x0.Store) (hm.rdS0 r15)) s_0.1) (fun z290 => ?_)
  refine Qgd ?_
  rintro v291 rfl
  refine Qs (n := 0) rfl ?_
  rintro A292 c293 rfl m294
  refine qnD (pk [2, 3]) (pk [2, 3]) ?_
  refine qoD 13 7 3071 rfl ?_
  refine wcl (tSl Qg 3) x0.Order (Qr Qia rfl) (fun W hm => Qid W _ x0.Order (hm.rdS0 r20) s_0.2.1) (fun z296 => ?_)
  refine Qs (n := 0) rfl ?_
  rintro A297 c298 rfl m299
  refine qnD (pk [3, 4]) (pk [3, 4]) ?_
  refine qtD 13 10 4095 rfl (fun W hm => Qeq (cs := [.slice A292 x0.Store.Segments.length c293, .int .i64 x0.Store.Now, .int .i64 x0.Cursor, .slice A297 x0.Order.length c298, .slice none 0 0, .slice none 0 0, .slice none 0 0, .int .i64 x0.Steps]) rfl (by kernel_rfl)) ?_
  exact Qdw sl4 (pk [2, 0, 1, 3, 4]) (H (A292, c293, A297, c298, p289))
 exact Qek
theorem Qakn (x0 : Qag) : Qrq x0 = x0 := by
 unfold Qrq; rw [Qix (xs := x0.Active) (b := fun k s => Que x0 k s) (fun _ _ => rfl), Qix (xs := x0.Done) (b := fun k s => Quf x0 k s) (fun _ _ => rfl), Qix (xs := x0.Ledger) (b := fun k s => Qug x0 k s) (fun _ _ => rfl)]; rfl
theorem Qakm (w : World) (z0 : List Value) (x0 : Qag) (r_0 : Qdd.rd w w.heap.size z0 x0) (s_0 : Qgf 68719476736 x0) :
  Calls Tryz.prog 101 #[.agg z0.toArray] w fun e w' => ∃ v : List Value, e = .returned (.agg v.toArray) ∧ Mem w.heap.size w [Qd Qdd v x0] w' := by
 have h := Qakl w z0 x0 r_0 s_0
 rw [Qakn] at h
 exact h

def Qdg (x0 : Int) (x1 : Int) (x2 : Int) : Bool :=
 cond (decide (x1 ≤ x0)) (decide (x0 ≤ x2)) false
theorem Qfc : Cb Tryz.prog 118 := ⟨f118, _, func118, rfl, by decide⟩
theorem Qfd (w : World) (x0 : Int) (x1 : Int) (x2 : Int) :
  Calls Tryz.prog 118 #[.int .i64 x0, .int .i64 x1, .int .i64 x2] w fun e w' => e = .returned (.bool (Qdg x0 x1 x2)) ∧ Below w.heap.size w w' := by
 refine ce3 (L := [(0, .int .i64 x0), (1, .int .i64 x1), (2, .int .i64 x2)]) (N := 15) func118 ?_
 refine sr (wa (nt' (sr (wm (wm ?_)))))
 refine wv (fun W hm => Qii rfl rfl) ?_
 refine wm ?_
 by_cases h1 : x1 ≤ x0
 ·have g2 := decide_eq_true h1
  refine wg vmv g2 ?_
  refine wg vmv g2 ?_
  refine wg (fun W hm => Qgv rfl rfl) g2 ?_
  refine wv (vpT g2) ?_
  refine wa (nt' (Qj ?_))
  exact rtb (h := Qb g2 (rfl))
 have g2 := decide_eq_false h1
 refine ws g2 ?_
 refine ws g2 ?_
 refine ws g2 ?_
 refine wv (vpF g2) ?_
 refine wa (nt' (Qj ?_))
 exact rtb (h := Qc g2 (rfl))

theorem Qfv {x a b : Int} (h : Qdg x a b = true) : a ≤ x ∧ x ≤ b := by
  unfold Qdg at h
  by_cases h1 : a ≤ x
  · rw [decide_eq_true h1] at h
    exact ⟨h1, of_decide_eq_true h⟩
  rw [decide_eq_false h1] at h
  cases h
theorem Qrv (x a b : Int) : Qdg x a b = decide (a ≤ x ∧ x ≤ b) := by
  unfold Qdg
  by_cases h1 : a ≤ x
  · by_cases h2 : x ≤ b
    · simp [h1, h2]
    simp [h1, h2]
  simp [h1]

def Qit (x0 : Qn) : Qaj :=
 (⟨x0.Id, x0.Values⟩ : Qaj)
theorem Qahb : Cb Tryz.prog 177 := ⟨f177, _, func177, rfl, by decide⟩
theorem Qalh (w : World) (z0 : List Value) (x0 : Qn) (r_0 : Qm.rd w w.heap.size z0 x0) (s_0 : Qhm 68719476736 x0) :
  Calls Tryz.prog 177 #[.agg z0.toArray] w fun e w' => ∃ v : List Value, e = .returned (.agg v.toArray) ∧ Mem w.heap.size w [Qd Qbp v (Qit x0)] w' := by
 obtain ⟨v1, rfl, r2⟩ := Qfm r_0
 obtain ⟨m3, A4, c5, rfl, q6, r7⟩ := Qk r2
 have l8 : x0.Values.length ≤ 68719476736 := s_0
 refine ce1 (L := [(0, .agg #[.int .i64 x0.Id, .slice A4 x0.Values.length c5, .int .i64 x0.Born, .int .i64 x0.Died])]) (N := 9) func177 ?_
 refine sr ?_
 refine Qbj rfl (Qo rfl) (by decide) (fun p9 => ?_)
 refine Qbo Qcc rfl (Qo rfl) (by decide) (fun p10 => ?_)
 refine nt' (Qf ?_)
 let K1 : List Value := [.int .i64 x0.Id, .slice A4 x0.Values.length c5, .int .i64 x0.Born, .int .i64 x0.Died]
 refine rd2 7 [6] (s := [Qa p9 191 K1]) (s2 := [Qa p10 73 [.int .i64 0, .slice none 0 0], Qa p9 191 K1]) (pk [1]) (fun W hm => hm) ?_
 refine qtD 7 0 1 rfl (vf Qbe rfl Qh) ?_
 refine qtD 7 1 3 rfl (vl 1 0 Qt) ?_
 refine qtD 7 2 7 rfl (vf Qbe rfl Qap) ?_
 refine qtD 7 3 15 rfl (vl 1 1 Qv) ?_
 refine qoD 7 4 31 rfl ?_
 refine wcl (tSl Qg 3) x0.Values (Qr Qia rfl) (fun W hm => Qid W _ x0.Values (hm.rdS0 r7) s_0) (fun z11 => ?_)
 refine Qs (n := 0) rfl ?_
 rintro A12 c13 rfl m14
 refine qnD (pk [2]) (pk [1, 2]) ?_
 refine qtD 7 5 63 rfl (fun W hm => Qeq (cs := [.int .i64 x0.Id, .slice A12 x0.Values.length c13]) rfl (by kernel_rfl)) ?_
 refine qoD 7 6 127 rfl ?_
 let I2 : It := Qd (tSl Qg 3) [.slice A12 x0.Values.length c13] x0.Values
 refine sb 0 [.int .i64 x0.Id, .slice A12 x0.Values.length c13] [I2, Qa p9 191 K1] (pk [1, 0, 2]) Qcc ?_
 refine qxD (pk [2]) ?_
 refine Qef (by kernel_rfl) ?_
 refine Qi (Qj ?_)
 have he16 := (show Qit x0 = (⟨x0.Id, x0.Values⟩ : Qaj) from rfl)
 refine Qec rfl (Qcp (n := 0) rfl rfl Qde Qcc rfl) (fun W hm => ⟨[.int .i64 x0.Id, .slice A12 x0.Values.length c13], ?_, ?_⟩)
 ·first | rw [he16] | rfl
 rw [he16]; exact Mem.join (is := [I2]) (js := []) (fun _ _ hs => Qkk (x := (⟨x0.Id, x0.Values⟩ : Qaj)) hs) (hm.pick [1] (by decide))

def Qzu (x0 : Qaj) (k9 : Nat) : Bool ⊕ (Unit) :=
 cond (Qdg (gt x0.Values k9) 0 99) (Sum.inr ()) (Sum.inl false)
def Qjd (x0 : Qaj) : Bool :=
 Sum.elim id (fun (s : Unit) => cond (Qdg x0.Id 0 999) (((x0.Values.length : Nat) : Int) == 3) false) (rng (R := Bool) (fun k (_ : Unit) => Qzu x0 k) (x0.Values.length - 0) 0 ())
theorem Qra : Cb Tryz.prog 178 := ⟨f178, _, func178, rfl, by decide⟩
theorem Qrl (w : World) (z0 : List Value) (x0 : Qaj) (r_0 : Qbp.rd w w.heap.size z0 x0) :
  Calls Tryz.prog 178 #[.agg z0.toArray] w fun e w' => e = .returned (.bool (Qjd x0)) ∧ Below w.heap.size w w' := by
 obtain ⟨v1, rfl, r2⟩ := Qin r_0
 obtain ⟨m3, A4, c5, rfl, q6, r7⟩ := Qk r2
 refine ce1 (L := [(0, .agg #[.int .i64 x0.Id, .slice A4 x0.Values.length c5])]) (N := 25) func178 ?_
 refine sr ?_
 refine Qbj rfl (Qo rfl) (by decide) (fun p8 => ?_)
 refine wa (nt' (Qf (sr ?_)))
 refine wv (vf Qde rfl Qap) ?_
 refine wv (vl 0 1 Qv) ?_
 refine wv (Qai Qv) ?_
 refine wm (nt' (Qab ?_))
 let F1 := fun k (_ : Unit) => Qzu x0 k
 let R2 := rng (R := Bool) F1
 let I3 : It := Qa p8 73 [.int .i64 x0.Id, .slice A4 x0.Values.length c5]
 refine Qbl (σ := Nat × (Unit) × (Unit)) (fun s => [(1, .pointer (some (⟨p8, 0, none⟩ : Addr))), (6, .slice A4 x0.Values.length c5), (7, .int .i64 ((x0.Values.length : Nat) : Int)), (8, .int .i64 ((s.1 : Nat) : Int))]) (fun s => [I3]) (fun s => s.1 ≤ x0.Values.length ∧ R2 (x0.Values.length - s.1) s.1 s.2.1 = R2 (x0.Values.length - 0) 0 ()) (fun s => x0.Values.length - s.1) (0, (), ()) sl4 (fun W hm => hm) ⟨(by omega), rfl⟩ ?_
 rintro ⟨k9, ⟨⟩, ⟨⟩⟩ H12
 obtain ⟨hk10, hF11⟩ : k9 ≤ x0.Values.length ∧ R2 (x0.Values.length - k9) k9 () = R2 (x0.Values.length - 0) 0 () := H12
 show CM Tryz.prog 25 _ _ _ _ [(1, .pointer (some (⟨p8, 0, none⟩ : Addr))), (6, .slice A4 x0.Values.length c5), (7, .int .i64 ((x0.Values.length : Nat) : Int)), (8, .int .i64 ((k9 : Nat) : Int))] [I3]
 refine sr ?_
 refine wv Qak ?_
 refine nt' (Qf ?_)
 by_cases hl13 : k9 < x0.Values.length
 ·have g14 := dlT hl13
  refine Ql rfl g14 ?_
  refine Qq (Qi (Qf (Qab (sr ?_))))
  obtain ⟨a15, rfl, hb16, he17⟩ := q6 (by omega)
  refine wv (vix 1 k9 Qv Qh) ?_
  refine wv (fun W hm => Qaw Qt rfl rfl ((hm.cell0 (show (a15.add (k9 * 1)).block < w.heap.size from by rw [Qah]; exact hb16.1)).trans (Qex he17 k9 (by omega)))) ?_
  refine wa (nt' (sr (wm ?_)))
  refine wcv (Qr Qfc rfl) (fun W hm => Qfd W (gt x0.Values k9) 0 99) ?_
  refine wv Qbr ?_
  refine nt' ?_
  rcases Bool.eq_false_or_eq_true (Qdg (gt x0.Values k9) 0 99) with g19 | g19
  ·
   have hw := Qfv g19
   refine Qp rfl (nt g19) ?_
   refine Qq (Qax (Qi (Qad ?_)))
   refine wv (Qbd k9 1 (by omega)) ?_
   refine wm (Qal ?_)
   have hn20 := Qbb (R := Bool) (body := F1) (k := k9) (s := ()) (s' := ()) (show k9 < x0.Values.length from by omega) (Qb g19 (rfl)) hF11
   exact Qaz (k9 + 1, (), ()) sl4 (fun W hm => hm) ⟨(by omega), hn20⟩ (rl (by omega))
  refine Ql rfl (nf g19) ?_
  refine sr (wa (nt' (Qj (Qy (Qe (Qe (Qy (Qe ?_))))))))
  exact rtb (h := Qba (Qbc (body := F1) (k := k9) (s := ()) (show k9 < x0.Values.length from by omega) (Qc g19 (rfl)) hF11) rfl)
 have g14 := dlF hl13
 refine Qp rfl g14 ?_
 refine Qbk (Qac (Qac ?_))
 have hE21 : R2 (x0.Values.length - 0) 0 () = Sum.inr () := Qbn hl13 hF11
 refine Qbm (Qi (sr ?_))
 refine wv (vf Qde rfl Qh) ?_
 refine wv (vl 0 0 Qt) ?_
 refine wcv (Qr Qfc rfl) (fun W hm => Qfd W x0.Id 0 999) ?_
 refine wm ?_
 rcases Bool.eq_false_or_eq_true (Qdg x0.Id 0 999) with g23 | g23
 ·
  have hw := Qfv g23
  refine wg (vf Qde rfl Qap) g23 ?_
  refine wg (vl 0 1 Qv) g23 ?_
  refine wg (Qai Qv) g23 ?_
  refine wg (fun W hm => Qdj rfl rfl) g23 ?_
  refine wv (vpT g23) ?_
  refine wa (nt' (Qj ?_))
  exact rtb (h := Qat hE21 (Qb g23 (rfl)))
 refine ws g23 ?_
 refine ws g23 ?_
 refine ws g23 ?_
 refine ws g23 ?_
 refine wv (vpF g23) ?_
 refine wa (nt' (Qj ?_))
 exact rtb (h := Qat hE21 (Qc g23 (rfl)))

def Qic (x0 : Qn) (x1 : Int) : Bool :=
 cond (decide (x0.Born ≤ x1)) (cond (x0.Died == (-1)) true (decide (x1 < x0.Died))) false
theorem Qtk : Cb Tryz.prog 176 := ⟨f176, _, func176, rfl, by decide⟩
theorem Qtx (w : World) (z0 : List Value) (x0 : Qn) (x1 : Int) (r_0 : Qm.rd w w.heap.size z0 x0) :
  Calls Tryz.prog 176 #[.agg z0.toArray, .int .i64 x1] w fun e w' => e = .returned (.bool (Qic x0 x1)) ∧ Below w.heap.size w w' := by
 obtain ⟨v1, rfl, r2⟩ := Qfm r_0
 obtain ⟨m3, A4, c5, rfl, q6, r7⟩ := Qk r2
 refine ce2 (L := [(0, .agg #[.int .i64 x0.Id, .slice A4 x0.Values.length c5, .int .i64 x0.Born, .int .i64 x0.Died]), (1, .int .i64 x1)]) (N := 20) func176 ?_
 refine sr ?_
 refine Qbj rfl (Qo rfl) (by decide) (fun p8 => ?_)
 refine wa (nt' (sr ?_))
 refine wv (vf Qbe rfl Qh) ?_
 refine wv (vl 0 2 Qt) ?_
 refine wm ?_
 refine wv (fun W hm => Qgv rfl rfl) ?_
 refine wm ?_
 by_cases h9 : x0.Born ≤ x1
 ·have g10 := decide_eq_true h9
  refine wg (vf Qbe rfl Qh) g10 ?_
  refine wg (vl 0 3 Qt) g10 ?_
  refine wg (fun W hm => Qdj rfl rfl) g10 ?_
  refine wg vmv g10 ?_
  by_cases h11 : x0.Died = (-1)
  ·have g12 := beq_iff_eq.2 h11
   refine ws g12 ?_
   refine ws g12 ?_
   refine ws g12 ?_
   refine ws g12 ?_
   refine wg (vpT g12) g10 ?_
   refine wv (vpT g10) ?_
   refine wa (nt' (Qj ?_))
   exact rtb (h := Qb g10 (Qb g12 (rfl)))
  have g12 := beq_eq_false_iff_ne.2 h11
  refine wg (vf Qbe rfl Qh) g12 ?_
  refine wg (vl 0 3 Qt) g12 ?_
  refine wg vmv g12 ?_
  refine wg (fun W hm => Qfy rfl rfl) g12 ?_
  refine wg (vpF g12) g10 ?_
  refine wv (vpT g10) ?_
  refine wa (nt' (Qj ?_))
  exact rtb (h := Qb g10 (Qc g12 (rfl)))
 have g10 := decide_eq_false h9
 refine ws g10 ?_
 refine ws g10 ?_
 refine ws g10 ?_
 refine ws g10 ?_
 refine wu ?_
 refine wu ?_
 refine wu ?_
 refine wu ?_
 refine ws g10 ?_
 refine wv (vpF g10) ?_
 refine wa (nt' (Qj ?_))
 exact rtb (h := Qc g10 (rfl))

def Qie (x0 : Qn) (x1 : Qn) : Bool :=
 cond (Qic x0 x1.Born) true (Qic x1 x0.Born)
theorem Qyt : Cb Tryz.prog 184 := ⟨f184, _, func184, rfl, by decide⟩
theorem Qaac (w : World) (z0 : List Value) (x0 : Qn) (z1 : List Value) (x1 : Qn) (r_0 : Qm.rd w w.heap.size z0 x0) (r_1 : Qm.rd w w.heap.size z1 x1) :
  Calls Tryz.prog 184 #[.agg z0.toArray, .agg z1.toArray] w fun e w' => e = .returned (.bool (Qie x0 x1)) ∧ Below w.heap.size w w' := by
 obtain ⟨v1, rfl, r2⟩ := Qfm r_0
 obtain ⟨m3, A4, c5, rfl, q6, r7⟩ := Qk r2
 obtain ⟨v8, rfl, r9⟩ := Qfm r_1
 obtain ⟨m10, A11, c12, rfl, q13, r14⟩ := Qk r9
 refine ce2 (L := [(0, .agg #[.int .i64 x0.Id, .slice A4 x0.Values.length c5, .int .i64 x0.Born, .int .i64 x0.Died]), (1, .agg #[.int .i64 x1.Id, .slice A11 x1.Values.length c12, .int .i64 x1.Born, .int .i64 x1.Died])]) (N := 15) func184 ?_
 refine sr ?_
 refine Qbj rfl (Qo rfl) (by decide) (fun p15 => ?_)
 refine Qbj rfl (Qo rfl) (by decide) (fun p16 => ?_)
 refine wa (nt' (sr ?_))
 refine wv (fun W hm => Qz (cs := [.int .i64 x0.Id, .slice A4 x0.Values.length c5, .int .i64 x0.Born, .int .i64 x0.Died]) Qbe Qar rfl rfl (hm.boxCells (n := 1) rfl)) ?_
 refine wv (vf Qbe rfl Qh) ?_
 refine wv (vl 0 2 Qt) ?_
 refine wcv (Qr Qtk rfl) (fun W hm => Qtx W _ x0 x1.Born (Qgz (x := x0) (hm.rdS0 r7))) ?_
 refine wm ?_
 rcases Bool.eq_false_or_eq_true (Qic x0 x1.Born) with g18 | g18
 ·
  refine ws g18 ?_
  refine ws g18 ?_
  refine ws g18 ?_
  refine ws g18 ?_
  refine wv (vpT g18) ?_
  refine wa (nt' (Qj ?_))
  exact rtb (h := Qb g18 (rfl))
 refine wg (fun W hm => Qz (cs := [.int .i64 x1.Id, .slice A11 x1.Values.length c12, .int .i64 x1.Born, .int .i64 x1.Died]) Qbe Qar rfl rfl (hm.boxCells (n := 0) rfl)) g18 ?_
 refine wg (vf Qbe rfl Qh) g18 ?_
 refine wg (vl 1 2 Qt) g18 ?_
 refine Qdm (Qr Qtk rfl) (fun W hm => Qtx W _ x1 x0.Born (Qgz (x := x1) (hm.rdS0 r14))) (Qcq rfl rfl rfl (bw g18 rfl)) (by decide) ?_
 refine wv (vpF g18) ?_
 refine wa (nt' (Qj ?_))
 exact rtb (h := Qc g18 (rfl))

def Qpj (x0 : Qx) (k16 : Nat) (k41 : Nat) (d42 : (List Qn)) (k77 : Nat) : Bool ⊕ (Unit) :=
 cond (((gt (gt x0.Segments k16) k41).Id) == ((gt d42 k77).Id)) (cond (Qie (gt (gt x0.Segments k16) k41) (gt d42 k77)) (Sum.inl false) (Sum.inr ())) (Sum.inr ())
def Qtv (x0 : Qx) (k16 : Nat) (k41 : Nat) (d42 : (List Qn)) (k112 : Nat) : Bool ⊕ (Unit) :=
 cond (((gt (gt x0.Segments k16) k41).Id) == ((gt d42 k112).Id)) (cond (Qie (gt (gt x0.Segments k16) k41) (gt d42 k112)) (Sum.inl false) (Sum.inr ())) (Sum.inr ())
def Qro (x0 : Qx) (k16 : Nat) (k41 : Nat) (d42 : (List Qn)) : Bool ⊕ ((List Qn)) :=
 cond (Qjd (Qit (gt (gt x0.Segments k16) k41))) (cond (Qdg ((gt (gt x0.Segments k16) k41).Born) 0 x0.Now) (cond (((gt (gt x0.Segments k16) k41).Died) != (-1)) (cond (Qdg ((gt (gt x0.Segments k16) k41).Died) (IntKind.i64.wrap (((gt (gt x0.Segments k16) k41).Born) + 1)) x0.Now) (Sum.elim Sum.inl (fun (s : Unit) => Sum.inr (d42 ++ [(gt (gt x0.Segments k16) k41)])) (rng (R := Bool) (fun k (_ : Unit) => Qtv x0 k16 k41 d42 k) (d42.length - 0) 0 ())) (Sum.inl false)) (Sum.elim Sum.inl (fun (s : Unit) => Sum.inr (d42 ++ [(gt (gt x0.Segments k16) k41)])) (rng (R := Bool) (fun k (_ : Unit) => Qpj x0 k16 k41 d42 k) (d42.length - 0) 0 ()))) (Sum.inl false)) (Sum.inl false)
def Qrn (x0 : Qx) (k16 : Nat) (d17 : (List Qn)) : Bool ⊕ ((List Qn)) :=
 cond (decide (4 < ((((gt x0.Segments k16)).length : Nat) : Int))) (Sum.inl false) (Sum.elim Sum.inl (fun (s : (List Qn)) => Sum.inr s) (rng (R := Bool) (fun k (s : (List Qn)) => Qro x0 k16 k s) (((gt x0.Segments k16)).length - 0) 0 d17))
def Qib (x0 : Qx) : Bool :=
 cond (Qdg ((x0.Segments.length : Nat) : Int) 1 8) (cond (Qdg x0.Now 0 100000) (Sum.elim id (fun (s : (List Qn)) => true) (rng (R := Bool) (fun k (s : (List Qn)) => Qrn x0 k s) (x0.Segments.length - 0) 0 [])) false) false
theorem Qti : Cb Tryz.prog 117 := ⟨f117, _, func117, rfl, by decide⟩
theorem Qtw (w : World) (z0 : List Value) (x0 : Qx) (r_0 : Qcz.rd w w.heap.size z0 x0) (s_0 : Qfl 68719476736 x0) :
  Calls Tryz.prog 117 #[.agg z0.toArray] w fun e w' => e = .returned (.bool (Qib x0)) ∧ Below w.heap.size w w' := by
 obtain ⟨v1, rfl, r2⟩ := Qgy r_0
 obtain ⟨m3, A4, c5, rfl, q6, r7⟩ := Qk r2
 have l8 : x0.Segments.length ≤ 68719476736 := s_0.1
 refine ce1 (L := [(0, .agg #[.slice A4 x0.Segments.length c5, .int .i64 x0.Now])]) (N := 89) func117 ?_
 refine sr ?_
 refine Qbj rfl (Qo rfl) (by decide) (fun p9 => ?_)
 refine wa (nt' (Qf (sr ?_)))
 refine wv (vf Qaf rfl Qcu) ?_
 refine wv (vl 0 0 Qas) ?_
 refine wv (Qai Qas) ?_
 refine wcv (Qr Qfc rfl) (fun W hm => Qfd W ((x0.Segments.length : Nat) : Int) 1 8) ?_
 refine wv Qbr ?_
 refine wm ?_
 rcases Bool.eq_false_or_eq_true (Qdg ((x0.Segments.length : Nat) : Int) 1 8) with g11 | g11
 ·
  have hw := Qfv g11
  refine wg (vf Qaf rfl Qh) (nt g11) ?_
  refine wg (vl 0 1 Qt) (nt g11) ?_
  refine Qdm (Qr Qfc rfl) (fun W hm => Qfd W x0.Now 0 100000) (Qcq rfl rfl rfl (bw (nt g11) rfl)) (by decide) ?_
  refine wg Qbr (nt g11) ?_
  refine wv (vpF (nt g11)) ?_
  refine nt' ?_
  rcases Bool.eq_false_or_eq_true (Qdg x0.Now 0 100000) with g13 | g13
  ·
   have hw := Qfv g13
   refine Qp rfl (nt g13) ?_
   refine Qq (Qi (sr ?_))
   refine Qdb (E := (Qfh Qm w w.heap.size)) Qav Qar (Qo rfl) (by decide) (fun p14 => ?_)
   refine wa (nt' (Qf (sr ?_)))
   refine wv (vf Qaf rfl Qcu) ?_
   refine wv (vl 1 0 Qas) ?_
   refine wv (Qai Qas) ?_
   refine wm (nt' (Qab ?_))
   let F1 := fun k (s : (List Qn)) => Qrn x0 k s
   let R5 := rng (R := Bool) F1
   let I14 : It := Qa p9 42 [.slice A4 x0.Segments.length c5, .int .i64 x0.Now]
   refine Qbl (σ := Nat × ((List Qn)) × (Option Addr × Nat)) (fun s => [(1, .pointer (some (⟨p9, 0, none⟩ : Addr))), (3, .slice s.2.2.1 s.2.1.length s.2.2.2), (23, .slice A4 x0.Segments.length c5), (24, .int .i64 ((x0.Segments.length : Nat) : Int)), (25, .int .i64 ((s.1 : Nat) : Int))]) (fun s => [Qd (tSl (Qfh Qm w w.heap.size) 191) [.slice s.2.2.1 s.2.1.length s.2.2.2] s.2.1, I14]) (fun s => s.1 ≤ x0.Segments.length ∧ R5 (x0.Segments.length - s.1) s.1 s.2.1 = R5 (x0.Segments.length - 0) 0 [] ∧ s.2.1.length ≤ 0 + 4 * s.1) (fun s => x0.Segments.length - s.1) (0, [], ((some ⟨p14, 0, none⟩), 0)) sl5 (fun W hm => hm) ⟨(by omega), rfl, Nat.le_refl _⟩ ?_
   rintro ⟨k16, d17, ⟨A18, c19⟩⟩ H22
   obtain ⟨hk20, hF21, hi23⟩ : k16 ≤ x0.Segments.length ∧ R5 (x0.Segments.length - k16) k16 d17 = R5 (x0.Segments.length - 0) 0 [] ∧ d17.length ≤ 0 + 4 * k16 := H22
   show CM Tryz.prog 89 _ _ _ _ [(1, .pointer (some (⟨p9, 0, none⟩ : Addr))), (3, .slice A18 d17.length c19), (23, .slice A4 x0.Segments.length c5), (24, .int .i64 ((x0.Segments.length : Nat) : Int)), (25, .int .i64 ((k16 : Nat) : Int))] [Qd (tSl (Qfh Qm w w.heap.size) 191) [.slice A18 d17.length c19] d17, I14]
   refine sr ?_
   refine wv Qak ?_
   refine nt' (Qf ?_)
   by_cases hl24 : k16 < x0.Segments.length
   ·have g25 := dlT hl24
    refine Ql rfl g25 ?_
    refine Qq (Qi (Qf (Qab (sr ?_))))
    obtain ⟨a26, rfl, hb27, he28⟩ := q6 (by omega)
    refine wv (vix 1 k16 Qas Qda) ?_
    obtain ⟨_, e30, hc29⟩ := he28 k16 _ (Qca (show k16 < x0.Segments.length from by omega))
    have l31 : (gt x0.Segments k16).length ≤ 68719476736 := (s_0.2 _ (Qbh (show k16 < x0.Segments.length from by omega))).1
    obtain ⟨v32, rfl, r33⟩ := e30
    obtain ⟨m34, A35, c36, rfl, q37, r38⟩ := Qk r33
    refine wv (fun W hm => Qaw Qav rfl rfl ((hm.cell0 (show (a26.add (k16 * 1)).block < w.heap.size from by rw [Qah]; exact hb27.1)).trans (hc29 0 _ rfl))) ?_
    refine wa (nt' (Qf (sr (wm ?_))))
    refine wv (Qai Qav) ?_
    refine wv (fun W hm => Qfy rfl rfl) ?_
    refine nt' ?_
    by_cases h39 : 4 < ((((gt x0.Segments k16)).length : Nat) : Int)
    ·have g40 := decide_eq_true h39
     refine Ql rfl g40 ?_
     refine sr (wa (nt' (Qj (Qe (Qy (Qe (Qe (Qy (Qe ?_)))))))))
     exact rtb (h := Qb g11 (Qb g13 (Qba (Qbc (body := F1) (k := k16) (s := d17) (show k16 < x0.Segments.length from by omega) (Qb g40 (rfl)) hF21) rfl)))
    have g40 := decide_eq_false h39
    refine Qp rfl g40 ?_
    refine Qq (Qi (sr (wm ?_)))
    refine wv (Qai Qav) ?_
    refine wm (nt' (Qab ?_))
    let F2 := fun k (s : (List Qn)) => Qro x0 k16 k s
    let R6 := rng (R := Bool) F2
    let I15 : It := Qa p9 42 [.slice (some a26) x0.Segments.length c5, .int .i64 x0.Now]
    refine Qbl (σ := Nat × ((List Qn)) × (Option Addr × Nat)) (fun s => [(1, .pointer (some (⟨p9, 0, none⟩ : Addr))), (3, .slice s.2.2.1 s.2.1.length s.2.2.2), (23, .slice (some a26) x0.Segments.length c5), (24, .int .i64 ((x0.Segments.length : Nat) : Int)), (25, .int .i64 ((k16 : Nat) : Int)), (32, .slice A35 ((gt x0.Segments k16)).length c36), (33, .int .i64 ((((gt x0.Segments k16)).length : Nat) : Int)), (34, .int .i64 ((s.1 : Nat) : Int))]) (fun s => [Qd (tSl (Qfh Qm w w.heap.size) 191) [.slice s.2.2.1 s.2.1.length s.2.2.2] s.2.1, I15]) (fun s => s.1 ≤ ((gt x0.Segments k16)).length ∧ R6 (((gt x0.Segments k16)).length - s.1) s.1 s.2.1 = R6 (((gt x0.Segments k16)).length - 0) 0 d17 ∧ s.2.1.length ≤ d17.length + s.1) (fun s => ((gt x0.Segments k16)).length - s.1) (0, d17, (A18, c19)) sl8 (fun W hm => hm) ⟨(by omega), rfl, Nat.le_refl _⟩ ?_
    rintro ⟨k41, d42, ⟨A43, c44⟩⟩ H47
    obtain ⟨hk45, hF46, hi48⟩ : k41 ≤ ((gt x0.Segments k16)).length ∧ R6 (((gt x0.Segments k16)).length - k41) k41 d42 = R6 (((gt x0.Segments k16)).length - 0) 0 d17 ∧ d42.length ≤ d17.length + k41 := H47
    let I16 : It := Qd (tSl (Qfh Qm w w.heap.size) 191) [.slice A43 d42.length c44] d42
    show CM Tryz.prog 89 _ _ _ _ [(1, .pointer (some (⟨p9, 0, none⟩ : Addr))), (3, .slice A43 d42.length c44), (23, .slice (some a26) x0.Segments.length c5), (24, .int .i64 ((x0.Segments.length : Nat) : Int)), (25, .int .i64 ((k16 : Nat) : Int)), (32, .slice A35 ((gt x0.Segments k16)).length c36), (33, .int .i64 ((((gt x0.Segments k16)).length : Nat) : Int)), (34, .int .i64 ((k41 : Nat) : Int))] [I16, I15]
    refine sr ?_
    refine wv Qak ?_
    refine nt' (Qf ?_)
    by_cases hl49 : k41 < ((gt x0.Segments k16)).length
    ·have g50 := dlT hl49
     refine Ql rfl g50 ?_
     refine Qq (Qi (Qf (Qab (sr ?_))))
     obtain ⟨a51, rfl, hb52, he53⟩ := q37 (by omega)
     refine wv (vix 4 k41 Qav Qar) ?_
     obtain ⟨_, e57, hc54⟩ := he53 k41 _ (Qca (show k41 < ((gt x0.Segments k16)).length from by omega))
     obtain ⟨v55, rfl, r56⟩ := Qfm e57
     have l58 : ((gt (gt x0.Segments k16) k41).Values).length ≤ 68719476736 := ((s_0.2 _ (Qbh (show k16 < x0.Segments.length from by omega))).2 _ (Qbh (show k41 < ((gt x0.Segments k16)).length from by omega)))
     obtain ⟨m59, A60, c61, rfl, q62, r63⟩ := Qk r56
     let K9 : List Value := [.int .i64 ((gt (gt x0.Segments k16) k41).Id), .slice A60 ((gt (gt x0.Segments k16) k41).Values).length c61, .int .i64 ((gt (gt x0.Segments k16) k41).Born), .int .i64 ((gt (gt x0.Segments k16) k41).Died)]
     refine wv (fun W hm => Qz (cs := K9) Qbe Qar rfl rfl (hm.elCells (show (a51.add (k41 * 4)).block < w.heap.size from by rw [Qah]; exact hb52.1) hc54)) ?_
     refine Qbo Qar rfl (Qo rfl) (by decide) (fun p64 => ?_)
     refine sb 0 K9 [I16, I15] (fun W hm => hm) Qar ?_
     refine nt' (Qf (sr ?_))
     refine wv (fun W hm => Qz (cs := K9) Qbe Qar rfl rfl (hm.boxCells (n := 0) rfl)) ?_
     refine wcs Qbp (Qit (gt (gt x0.Segments k16) k41)) (Qr Qahb rfl) (fun W hm => Qalh W _ (gt (gt x0.Segments k16) k41) (Qgz (x := (gt (gt x0.Segments k16) k41)) (hm.rdS0 r63)) ((s_0.2 _ (Qbh (show k16 < x0.Segments.length from by omega))).2 _ (Qbh (show k41 < ((gt x0.Segments k16)).length from by omega)))) (fun z65 => ?_)
     refine Qnu ?_
     rintro v66 rfl
     refine Qs (n := 0) rfl ?_
     rintro A67 c68 rfl m69
     refine wcv (Qr Qra rfl) (fun W hm => Qrl W _ (Qit (gt (gt x0.Segments k16) k41)) (Qim (x := (Qit (gt (gt x0.Segments k16) k41))) (hm.rdSI (n := 0) rfl))) ?_
     refine wv Qbr ?_
     refine wm ?_
     rcases Bool.eq_false_or_eq_true (Qjd (Qit (gt (gt x0.Segments k16) k41))) with g72 | g72
     ·
      refine wg (vf Qbe rfl Qh) (nt g72) ?_
      refine wg (vl 1 2 Qt) (nt g72) ?_
      refine wg (vf Qaf rfl Qh) (nt g72) ?_
      refine wg (vl 3 1 Qt) (nt g72) ?_
      refine Qdm (Qr Qfc rfl) (fun W hm => Qfd W ((gt (gt x0.Segments k16) k41).Born) 0 x0.Now) (Qcq rfl rfl rfl (bw (nt g72) rfl)) (by decide) ?_
      refine wg Qbr (nt g72) ?_
      refine wv (vpF (nt g72)) ?_
      refine wm ?_
      rcases Bool.eq_false_or_eq_true (Qdg ((gt (gt x0.Segments k16) k41).Born) 0 x0.Now) with g74 | g74
      ·
       have hw := Qfv g74
       refine wg (vf Qbe rfl Qh) (nt g74) ?_
       refine wg (vl 1 3 Qt) (nt g74) ?_
       refine wg Qcf (nt g74) ?_
       refine wg vmv (nt g74) ?_
       by_cases h75 : ((gt (gt x0.Segments k16) k41).Died) = (-1)
       ·have g76 : (((gt (gt x0.Segments k16) k41).Died) != (-1)) = false := by rw [h75]; exact bne_self_eq_false _
        refine ws g76 ?_
        refine ws g76 ?_
        refine ws g76 ?_
        refine ws g76 ?_
        refine ws g76 ?_
        refine ws g76 ?_
        refine ws g76 ?_
        refine ws g76 ?_
        refine ws g76 ?_
        refine wg (vpF g76) (nt g74) ?_
        refine wv (vpF (nt g74)) ?_
        refine nt' ?_
        refine Qp rfl rfl ?_
        refine Qq (Qi (Qf (sr (wm ?_))))
        refine wv (Qai Qav) ?_
        refine wm (nt' (Qab ?_))
        let F3 := fun k (_ : Unit) => Qpj x0 k16 k41 d42 k
        let R7 := rng (R := Bool) F3
        let K10 : List Value := [.slice A67 ((Qit (gt (gt x0.Segments k16) k41)).Values).length c68]
        let I17 : It := Qd (tSl Qg 3) K10 ((Qit (gt (gt x0.Segments k16) k41)).Values)
        refine Qbl (σ := Nat × (Unit) × (Unit)) (fun s => [(1, .pointer (some (⟨p9, 0, none⟩ : Addr))), (3, .slice A43 d42.length c44), (7, .pointer (some (⟨p64, 0, none⟩ : Addr))), (23, .slice (some a26) x0.Segments.length c5), (24, .int .i64 ((x0.Segments.length : Nat) : Int)), (25, .int .i64 ((k16 : Nat) : Int)), (32, .slice (some a51) ((gt x0.Segments k16)).length c36), (33, .int .i64 ((((gt x0.Segments k16)).length : Nat) : Int)), (34, .int .i64 ((k41 : Nat) : Int)), (66, .slice A43 d42.length c44), (67, .int .i64 ((d42.length : Nat) : Int)), (68, .int .i64 ((s.1 : Nat) : Int))]) (fun s => [I17, Qa p64 191 K9, I16, I15]) (fun s => s.1 ≤ d42.length ∧ R7 (d42.length - s.1) s.1 s.2.1 = R7 (d42.length - 0) 0 ()) (fun s => d42.length - s.1) (0, (), ()) Qks (fun W hm => hm) ⟨(by omega), rfl⟩ ?_
        rintro ⟨k77, ⟨⟩, ⟨⟩⟩ H80
        obtain ⟨hk78, hF79⟩ : k77 ≤ d42.length ∧ R7 (d42.length - k77) k77 () = R7 (d42.length - 0) 0 () := H80
        show CM Tryz.prog 89 _ _ _ _ [(1, .pointer (some (⟨p9, 0, none⟩ : Addr))), (3, .slice A43 d42.length c44), (7, .pointer (some (⟨p64, 0, none⟩ : Addr))), (23, .slice (some a26) x0.Segments.length c5), (24, .int .i64 ((x0.Segments.length : Nat) : Int)), (25, .int .i64 ((k16 : Nat) : Int)), (32, .slice (some a51) ((gt x0.Segments k16)).length c36), (33, .int .i64 ((((gt x0.Segments k16)).length : Nat) : Int)), (34, .int .i64 ((k41 : Nat) : Int)), (66, .slice A43 d42.length c44), (67, .int .i64 ((d42.length : Nat) : Int)), (68, .int .i64 ((k77 : Nat) : Int))] [I17, Qa p64 191 K9, I16, I15]
        refine sr ?_
        refine wv Qak ?_
        refine nt' (Qf ?_)
        by_cases hl81 : k77 < d42.length
        ·have g82 := dlT hl81
         refine Ql rfl g82 ?_
         refine Qq (Qi (Qf (Qab (sr ?_))))
         refine Qfj (n := 2) rfl (by omega) ?_
         rintro g83 rfl
         refine wv (vix 4 k77 Qav Qar) ?_
         refine Qxx (T := Qm) (wb := w) (Bb := w.heap.size) (e := 191) (g := g83) (n := d42.length) (c := c44) (xs := d42) (js := [I17, Qa p64 191 K9, I15]) (pk [2, 0, 1, 3]) ?_
         rintro ck84 rk85
         obtain ⟨_, e86, hc87⟩ := rk85.get (j := k77) (by omega)
         obtain ⟨v88, rfl, r89⟩ := Qfm e86
         obtain ⟨m90, A91, c92, rfl, q93, r94⟩ := Qk r89
         let K11 : List Value := [.int .i64 ((gt d42 k77).Id), .slice A91 ((gt d42 k77).Values).length c92, .int .i64 ((gt d42 k77).Born), .int .i64 ((gt d42 k77).Died)]
         refine wv (fun W hm => Qz (cs := K11) Qbe Qar rfl rfl (hm.rowCells (i := 0) rfl hc87)) ?_
         refine Qbo Qar rfl (Qo rfl) (by decide) (fun p95 => ?_)
         refine sb 0 K11 [Qa g83 191 ck84, I17, Qa p64 191 K9, I15] (fun W hm => hm) Qar ?_
         refine nt' (sr ?_)
         refine wv (vf Qbe rfl Qh) ?_
         refine wv (vl 3 0 Qt) ?_
         refine wv (vf Qbe rfl Qh) ?_
         refine wv (vl 0 0 Qt) ?_
         refine wv (fun W hm => Qdj rfl rfl) ?_
         refine wm ?_
         by_cases h96 : ((gt (gt x0.Segments k16) k41).Id) = ((gt d42 k77).Id)
         ·have g97 := beq_iff_eq.2 h96
          refine wg (fun W hm => Qz (cs := K9) Qbe Qar rfl rfl (hm.boxCells (n := 3) rfl)) g97 ?_
          refine wg (fun W hm => Qz (cs := K11) Qbe Qar rfl rfl (hm.boxCells (n := 0) rfl)) g97 ?_
          refine Qdm (Qr Qyt rfl) (fun W hm => Qaac W _ (gt (gt x0.Segments k16) k41) _ (gt d42 k77) (Qgz (x := (gt (gt x0.Segments k16) k41)) (hm.rdS0 r63)) (Qgz (x := (gt d42 k77)) (hm.rdS0 r94))) (Qcq rfl rfl rfl (bw g97 rfl)) (by decide) ?_
          refine wv (vpT g97) ?_
          refine nt' ?_
          rcases Bool.eq_false_or_eq_true (Qie (gt (gt x0.Segments k16) k41) (gt d42 k77)) with g99 | g99
          ·
           refine Ql rfl g99 ?_
           refine sr (wa (nt' (Qj (Qy (Qe (Qe (Qy (Qe (Qy (Qe (Qe (Qy (Qy (Qe (Qe (Qy (Qe ?_)))))))))))))))))
           refine Qdu (fun W hm => Mem.hide rk85 (hm.pick [1, 0, 2, 3, 4] (by decide))) ?_
           exact rtb (h := Qb g11 (Qb g13 (Qba (Qbc (body := F1) (k := k16) (s := d17) (show k16 < x0.Segments.length from by omega) (Qc g40 (Qba (Qbc (body := F2) (k := k41) (s := d42) (show k41 < ((gt x0.Segments k16)).length from by omega) (Qb g72 (Qb g74 (Qc g76 (Qba (Qbc (body := F3) (k := k77) (s := ()) (show k77 < d42.length from by omega) (Qb g97 (Qb g99 (rfl))) hF79) rfl)))) hF46) rfl)) hF21) rfl)))
          refine Qp rfl g99 ?_
          refine Qq (Qax (Qi (Qad ?_)))
          refine wv (Qbd k77 1 (by omega)) ?_
          refine wm (Qal ?_)
          refine Qdu (fun W hm => Mem.hide rk85 (hm.pick [1, 0, 2, 3, 4] (by decide))) ?_
          have hn100 := Qbb (R := Bool) (body := F3) (k := k77) (s := ()) (s' := ()) (show k77 < d42.length from by omega) (Qb g97 (Qc g99 (rfl))) hF79
          exact Qaz (k77 + 1, (), ()) Qks (pk [2, 3, 0, 4]) ⟨(by omega), hn100⟩ (rl (by omega))
         have g97 := beq_eq_false_iff_ne.2 h96
         refine ws g97 ?_
         refine ws g97 ?_
         refine ws g97 ?_
         refine wv (vpF g97) ?_
         refine nt' ?_
         refine Qp rfl rfl ?_
         refine Qq (Qax (Qi (Qad ?_)))
         refine wv (Qbd k77 1 (by omega)) ?_
         refine wm (Qal ?_)
         refine Qdu (fun W hm => Mem.hide rk85 (hm.pick [1, 0, 2, 3, 4] (by decide))) ?_
         have hn101 := Qbb (R := Bool) (body := F3) (k := k77) (s := ()) (s' := ()) (show k77 < d42.length from by omega) (Qc g97 (rfl)) hF79
         exact Qaz (k77 + 1, (), ()) Qks (pk [2, 3, 0, 4]) ⟨(by omega), hn101⟩ (rl (by omega))
        have g82 := dlF hl81
        refine Qp rfl g82 ?_
        refine Qbk (Qac (Qac ?_))
        have hE102 : R7 (d42.length - 0) 0 () = Sum.inr () := Qbn hl81 hF79
        refine Qbm (Qi (Qad (wm ?_)))
        refine wv (fun W hm => Qz (cs := K9) Qbe Qar rfl rfl (hm.boxCells (n := 1) rfl)) ?_
        refine Qfb (cs := K9) Qav Qar rfl (by decide) (by decide) rfl (by kernel_rfl) (Qo rfl) (by decide) (fun p103 => ?_)
        refine ap1 (Qfh Qm w w.heap.size) 191 (.slice A43 d42.length c44) d42 (gt (gt x0.Segments k16) k41) [] [I17, Qa p64 191 K9, I15] K9 (pk [0, 3, 1, 2, 4]) (fun _ _ hs => by cases (Sep.nil hs); exact (Qre (E := (Qfh Qm w w.heap.size)) (L1 := []) ⟨rfl, (Qgz r63)⟩ Qrf)) Qav Qar (show (d42.length + 1) * 48 ≤ 140737488355328 from by omega) (fun v104 => ?_)
        refine Qs (n := 0) rfl ?_
        rintro A105 c106 rfl m107
        refine wa (Qal (Qax (Qi (Qad ?_))))
        refine wv (Qbd k41 1 (by omega)) ?_
        refine wm (Qal ?_)
        have hn109 := Qbb (R := Bool) (body := F2) (k := k41) (s := d42) (s' := (d42 ++ [(gt (gt x0.Segments k16) k41)])) (show k41 < ((gt x0.Segments k16)).length from by omega) (Qb g72 (Qb g74 (Qc g76 (Qat hE102 (rfl))))) hF46
        exact Qaz (k41 + 1, (d42 ++ [(gt (gt x0.Segments k16) k41)]), (A105, c106)) sl8 (pk [0, 3]) ⟨(by omega), hn109, (show (d42 ++ [(gt (gt x0.Segments k16) k41)]).length ≤ d17.length + (k41 + 1) from by first | omega | (simp only [List.length_append, List.length_cons, List.length_nil] at *; omega))⟩ (show ((gt x0.Segments k16)).length - (k41 + 1) < ((gt x0.Segments k16)).length - k41 from by omega)
       have g76 : (((gt (gt x0.Segments k16) k41).Died) != (-1)) = true := bne_iff_ne.2 h75
       refine wg (vf Qbe rfl Qh) g76 ?_
       refine wg (vl 1 3 Qt) g76 ?_
       refine wg (vf Qbe rfl Qh) g76 ?_
       refine wg (vl 1 2 Qt) g76 ?_
       refine wg Qdq g76 ?_
       refine wg (vf Qaf rfl Qh) g76 ?_
       refine wg (vl 3 1 Qt) g76 ?_
       refine Qdm (Qr Qfc rfl) (fun W hm => Qfd W ((gt (gt x0.Segments k16) k41).Died) (IntKind.i64.wrap (((gt (gt x0.Segments k16) k41).Born) + 1)) x0.Now) (Qcq rfl rfl rfl (bw g76 rfl)) (by decide) ?_
       refine wg Qbr g76 ?_
       refine wg (vpT g76) (nt g74) ?_
       refine wv (vpF (nt g74)) ?_
       refine nt' ?_
       rcases Bool.eq_false_or_eq_true (Qdg ((gt (gt x0.Segments k16) k41).Died) (IntKind.i64.wrap (((gt (gt x0.Segments k16) k41).Born) + 1)) x0.Now) with g111 | g111
       ·
        have hw := Qfv g111
        refine Qp rfl (nt g111) ?_
        refine Qq (Qi (Qf (sr (wm ?_))))
        refine wv (Qai Qav) ?_
        refine wm (nt' (Qab ?_))
        let F4 := fun k (_ : Unit) => Qtv x0 k16 k41 d42 k
        let R8 := rng (R := Bool) F4
        let K12 : List Value := [.slice A67 ((Qit (gt (gt x0.Segments k16) k41)).Values).length c68]
        let I18 : It := Qd (tSl Qg 3) K12 ((Qit (gt (gt x0.Segments k16) k41)).Values)
        refine Qbl (σ := Nat × (Unit) × (Unit)) (fun s => [(1, .pointer (some (⟨p9, 0, none⟩ : Addr))), (3, .slice A43 d42.length c44), (7, .pointer (some (⟨p64, 0, none⟩ : Addr))), (23, .slice (some a26) x0.Segments.length c5), (24, .int .i64 ((x0.Segments.length : Nat) : Int)), (25, .int .i64 ((k16 : Nat) : Int)), (32, .slice (some a51) ((gt x0.Segments k16)).length c36), (33, .int .i64 ((((gt x0.Segments k16)).length : Nat) : Int)), (34, .int .i64 ((k41 : Nat) : Int)), (66, .slice A43 d42.length c44), (67, .int .i64 ((d42.length : Nat) : Int)), (68, .int .i64 ((s.1 : Nat) : Int))]) (fun s => [I18, Qa p64 191 K9, I16, I15]) (fun s => s.1 ≤ d42.length ∧ R8 (d42.length - s.1) s.1 s.2.1 = R8 (d42.length - 0) 0 ()) (fun s => d42.length - s.1) (0, (), ()) Qks (fun W hm => hm) ⟨(by omega), rfl⟩ ?_
        rintro ⟨k112, ⟨⟩, ⟨⟩⟩ H115
        obtain ⟨hk113, hF114⟩ : k112 ≤ d42.length ∧ R8 (d42.length - k112) k112 () = R8 (d42.length - 0) 0 () := H115
        show CM Tryz.prog 89 _ _ _ _ [(1, .pointer (some (⟨p9, 0, none⟩ : Addr))), (3, .slice A43 d42.length c44), (7, .pointer (some (⟨p64, 0, none⟩ : Addr))), (23, .slice (some a26) x0.Segments.length c5), (24, .int .i64 ((x0.Segments.length : Nat) : Int)), (25, .int .i64 ((k16 : Nat) : Int)), (32, .slice (some a51) ((gt x0.Segments k16)).length c36), (33, .int .i64 ((((gt x0.Segments k16)).length : Nat) : Int)), (34, .int .i64 ((k41 : Nat) : Int)), (66, .slice A43 d42.length c44), (67, .int .i64 ((d42.length : Nat) : Int)), (68, .int .i64 ((k112 : Nat) : Int))] [I18, Qa p64 191 K9, I16, I15]
        refine sr ?_
        refine wv Qak ?_
        refine nt' (Qf ?_)
        by_cases hl116 : k112 < d42.length
        ·have g117 := dlT hl116
         refine Ql rfl g117 ?_
         refine Qq (Qi (Qf (Qab (sr ?_))))
         refine Qfj (n := 2) rfl (by omega) ?_
         rintro g118 rfl
         refine wv (vix 4 k112 Qav Qar) ?_
         refine Qxx (T := Qm) (wb := w) (Bb := w.heap.size) (e := 191) (g := g118) (n := d42.length) (c := c44) (xs := d42) (js := [I18, Qa p64 191 K9, I15]) (pk [2, 0, 1, 3]) ?_
         rintro ck119 rk120
         obtain ⟨_, e121, hc122⟩ := rk120.get (j := k112) (by omega)
         obtain ⟨v123, rfl, r124⟩ := Qfm e121
         obtain ⟨m125, A126, c127, rfl, q128, r129⟩ := Qk r124
         let K13 : List Value := [.int .i64 ((gt d42 k112).Id), .slice A126 ((gt d42 k112).Values).length c127, .int .i64 ((gt d42 k112).Born), .int .i64 ((gt d42 k112).Died)]
         refine wv (fun W hm => Qz (cs := K13) Qbe Qar rfl rfl (hm.rowCells (i := 0) rfl hc122)) ?_
         refine Qbo Qar rfl (Qo rfl) (by decide) (fun p130 => ?_)
         refine sb 0 K13 [Qa g118 191 ck119, I18, Qa p64 191 K9, I15] (fun W hm => hm) Qar ?_
         refine nt' (sr ?_)
         refine wv (vf Qbe rfl Qh) ?_
         refine wv (vl 3 0 Qt) ?_
         refine wv (vf Qbe rfl Qh) ?_
         refine wv (vl 0 0 Qt) ?_
         refine wv (fun W hm => Qdj rfl rfl) ?_
         refine wm ?_
         by_cases h131 : ((gt (gt x0.Segments k16) k41).Id) = ((gt d42 k112).Id)
         ·have g132 := beq_iff_eq.2 h131
          refine wg (fun W hm => Qz (cs := K9) Qbe Qar rfl rfl (hm.boxCells (n := 3) rfl)) g132 ?_
          refine wg (fun W hm => Qz (cs := K13) Qbe Qar rfl rfl (hm.boxCells (n := 0) rfl)) g132 ?_
          refine Qdm (Qr Qyt rfl) (fun W hm => Qaac W _ (gt (gt x0.Segments k16) k41) _ (gt d42 k112) (Qgz (x := (gt (gt x0.Segments k16) k41)) (hm.rdS0 r63)) (Qgz (x := (gt d42 k112)) (hm.rdS0 r129))) (Qcq rfl rfl rfl (bw g132 rfl)) (by decide) ?_
          refine wv (vpT g132) ?_
          refine nt' ?_
          rcases Bool.eq_false_or_eq_true (Qie (gt (gt x0.Segments k16) k41) (gt d42 k112)) with g134 | g134
          ·
           refine Ql rfl g134 ?_
           refine sr (wa (nt' (Qj (Qy (Qe (Qe (Qy (Qe (Qy (Qe (Qe (Qy (Qy (Qe (Qe (Qy (Qe ?_)))))))))))))))))
           refine Qdu (fun W hm => Mem.hide rk120 (hm.pick [1, 0, 2, 3, 4] (by decide))) ?_
           exact rtb (h := Qb g11 (Qb g13 (Qba (Qbc (body := F1) (k := k16) (s := d17) (show k16 < x0.Segments.length from by omega) (Qc g40 (Qba (Qbc (body := F2) (k := k41) (s := d42) (show k41 < ((gt x0.Segments k16)).length from by omega) (Qb g72 (Qb g74 (Qb g76 (Qb g111 (Qba (Qbc (body := F4) (k := k112) (s := ()) (show k112 < d42.length from by omega) (Qb g132 (Qb g134 (rfl))) hF114) rfl))))) hF46) rfl)) hF21) rfl)))
          refine Qp rfl g134 ?_
          refine Qq (Qax (Qi (Qad ?_)))
          refine wv (Qbd k112 1 (by omega)) ?_
          refine wm (Qal ?_)
          refine Qdu (fun W hm => Mem.hide rk120 (hm.pick [1, 0, 2, 3, 4] (by decide))) ?_
          have hn135 := Qbb (R := Bool) (body := F4) (k := k112) (s := ()) (s' := ()) (show k112 < d42.length from by omega) (Qb g132 (Qc g134 (rfl))) hF114
          exact Qaz (k112 + 1, (), ()) Qks (pk [2, 3, 0, 4]) ⟨(by omega), hn135⟩ (rl (by omega))
         have g132 := beq_eq_false_iff_ne.2 h131
         refine ws g132 ?_
         refine ws g132 ?_
         refine ws g132 ?_
         refine wv (vpF g132) ?_
         refine nt' ?_
         refine Qp rfl rfl ?_
         refine Qq (Qax (Qi (Qad ?_)))
         refine wv (Qbd k112 1 (by omega)) ?_
         refine wm (Qal ?_)
         refine Qdu (fun W hm => Mem.hide rk120 (hm.pick [1, 0, 2, 3, 4] (by decide))) ?_
         have hn136 := Qbb (R := Bool) (body := F4) (k := k112) (s := ()) (s' := ()) (show k112 < d42.length from by omega) (Qc g132 (rfl)) hF114
         exact Qaz (k112 + 1, (), ()) Qks (pk [2, 3, 0, 4]) ⟨(by omega), hn136⟩ (rl (by omega))
        have g117 := dlF hl116
        refine Qp rfl g117 ?_
        refine Qbk (Qac (Qac ?_))
        have hE137 : R8 (d42.length - 0) 0 () = Sum.inr () := Qbn hl116 hF114
        refine Qbm (Qi (Qad (wm ?_)))
        refine wv (fun W hm => Qz (cs := K9) Qbe Qar rfl rfl (hm.boxCells (n := 1) rfl)) ?_
        refine Qfb (cs := K9) Qav Qar rfl (by decide) (by decide) rfl (by kernel_rfl) (Qo rfl) (by decide) (fun p138 => ?_)
        refine ap1 (Qfh Qm w w.heap.size) 191 (.slice A43 d42.length c44) d42 (gt (gt x0.Segments k16) k41) [] [I18, Qa p64 191 K9, I15] K9 (pk [0, 3, 1, 2, 4]) (fun _ _ hs => by cases (Sep.nil hs); exact (Qre (E := (Qfh Qm w w.heap.size)) (L1 := []) ⟨rfl, (Qgz r63)⟩ Qrf)) Qav Qar (show (d42.length + 1) * 48 ≤ 140737488355328 from by omega) (fun v139 => ?_)
        refine Qs (n := 0) rfl ?_
        rintro A140 c141 rfl m142
        refine wa (Qal (Qax (Qi (Qad ?_))))
        refine wv (Qbd k41 1 (by omega)) ?_
        refine wm (Qal ?_)
        have hn144 := Qbb (R := Bool) (body := F2) (k := k41) (s := d42) (s' := (d42 ++ [(gt (gt x0.Segments k16) k41)])) (show k41 < ((gt x0.Segments k16)).length from by omega) (Qb g72 (Qb g74 (Qb g76 (Qb g111 (Qat hE137 (rfl)))))) hF46
        exact Qaz (k41 + 1, (d42 ++ [(gt (gt x0.Segments k16) k41)]), (A140, c141)) sl8 (pk [0, 3]) ⟨(by omega), hn144, (show (d42 ++ [(gt (gt x0.Segments k16) k41)]).length ≤ d17.length + (k41 + 1) from by first | omega | (simp only [List.length_append, List.length_cons, List.length_nil] at *; omega))⟩ (show ((gt x0.Segments k16)).length - (k41 + 1) < ((gt x0.Segments k16)).length - k41 from by omega)
       refine Ql rfl (nf g111) ?_
       refine sr (wa (nt' (Qj (Qe (Qy (Qe (Qe (Qy (Qy (Qe (Qe (Qy (Qe ?_)))))))))))))
       exact rtb (h := Qb g11 (Qb g13 (Qba (Qbc (body := F1) (k := k16) (s := d17) (show k16 < x0.Segments.length from by omega) (Qc g40 (Qba (Qbc (body := F2) (k := k41) (s := d42) (show k41 < ((gt x0.Segments k16)).length from by omega) (Qb g72 (Qb g74 (Qb g76 (Qc g111 (rfl))))) hF46) rfl)) hF21) rfl)))
      refine ws (nf g74) ?_
      refine ws (nf g74) ?_
      refine ws (nf g74) ?_
      refine ws (nf g74) ?_
      refine wu ?_
      refine wu ?_
      refine wu ?_
      refine wu ?_
      refine wu ?_
      refine wu ?_
      refine wu ?_
      refine wu ?_
      refine wu ?_
      refine ws (nf g74) ?_
      refine wv (vpT (nf g74)) ?_
      refine nt' ?_
      refine Ql rfl rfl ?_
      refine sr (wa (nt' (Qj (Qe (Qy (Qe (Qe (Qy (Qy (Qe (Qe (Qy (Qe ?_)))))))))))))
      exact rtb (h := Qb g11 (Qb g13 (Qba (Qbc (body := F1) (k := k16) (s := d17) (show k16 < x0.Segments.length from by omega) (Qc g40 (Qba (Qbc (body := F2) (k := k41) (s := d42) (show k41 < ((gt x0.Segments k16)).length from by omega) (Qb g72 (Qc g74 (rfl))) hF46) rfl)) hF21) rfl)))
     refine ws (nf g72) ?_
     refine ws (nf g72) ?_
     refine ws (nf g72) ?_
     refine ws (nf g72) ?_
     refine ws (nf g72) ?_
     refine ws (nf g72) ?_
     refine wv (vpT (nf g72)) ?_
     refine wm ?_
     refine wk ?_
     refine wk ?_
     refine wk ?_
     refine wk ?_
     refine wu ?_
     refine wu ?_
     refine wu ?_
     refine wu ?_
     refine wu ?_
     refine wu ?_
     refine wu ?_
     refine wu ?_
     refine wu ?_
     refine wk ?_
     refine wv (vpT rfl) ?_
     refine nt' ?_
     refine Ql rfl rfl ?_
     refine sr (wa (nt' (Qj (Qe (Qy (Qe (Qe (Qy (Qy (Qe (Qe (Qy (Qe ?_)))))))))))))
     exact rtb (h := Qb g11 (Qb g13 (Qba (Qbc (body := F1) (k := k16) (s := d17) (show k16 < x0.Segments.length from by omega) (Qc g40 (Qba (Qbc (body := F2) (k := k41) (s := d42) (show k41 < ((gt x0.Segments k16)).length from by omega) (Qc g72 (rfl)) hF46) rfl)) hF21) rfl)))
    have g50 := dlF hl49
    refine Qp rfl g50 ?_
    refine Qbk (Qac (Qac ?_))
    have hE145 : R6 (((gt x0.Segments k16)).length - 0) 0 d17 = Sum.inr d42 := Qbn hl49 hF46
    refine Qbm (Qax (Qi (Qad ?_)))
    refine wv (Qbd k16 1 (by omega)) ?_
    refine wm (Qal ?_)
    have hn146 := Qbb (R := Bool) (body := F1) (k := k16) (s := d17) (s' := d42) (show k16 < x0.Segments.length from by omega) (Qc g40 (Qat hE145 (rfl))) hF21
    exact Qaz (k16 + 1, d42, (A43, c44)) sl5 (fun W hm => hm) ⟨(by omega), hn146, (show d42.length ≤ 0 + 4 * (k16 + 1) from by first | omega | (simp only [List.length_append, List.length_cons, List.length_nil] at *; omega))⟩ (rl (by omega))
   have g25 := dlF hl24
   refine Qp rfl g25 ?_
   refine Qbk (Qac (Qac ?_))
   have hE147 : R5 (x0.Segments.length - 0) 0 [] = Sum.inr d17 := Qbn hl24 hF21
   refine Qbm (Qi (sr (wa (nt' (Qj ?_)))))
   exact rtb (h := Qb g11 (Qb g13 (Qat hE147 (rfl))))
  refine Ql rfl (nf g13) ?_
  refine sr (wa (nt' (Qj (Qe ?_))))
  exact rtb (h := Qb g11 (Qc g13 (rfl)))
 refine ws (nf g11) ?_
 refine ws (nf g11) ?_
 refine ws (nf g11) ?_
 refine ws (nf g11) ?_
 refine wv (vpT (nf g11)) ?_
 refine nt' ?_
 refine Ql rfl rfl ?_
 refine sr (wa (nt' (Qj (Qe ?_))))
 exact rtb (h := Qc g11 (rfl))

def Qlt (x0 : Int) : Bool :=
 (Qdg x0 0 2)
theorem Qtl : Cb Tryz.prog 186 := ⟨f186, _, func186, rfl, by decide⟩
theorem Qun (w : World) (x0 : Int) :
  Calls Tryz.prog 186 #[.int .i64 x0] w fun e w' => e = .returned (.bool (Qlt x0)) ∧ Below w.heap.size w w' := by
 refine ce1 (L := [(0, .int .i64 x0)]) (N := 5) func186 ?_
 refine sr (wa (nt' (sr (wm ?_))))
 refine wcv (Qr Qfc rfl) (fun W hm => Qfd W x0 0 2) ?_
 refine wa (nt' (Qj ?_))
 exact rtb (h := rfl)

def Qok (x0 : Qci) : Bool :=
 cond (Qdg x0.Row.Id 0 999) (cond (x0.Kind == 1) (cond (Qjd x0.Row) (cond (x0.Field == 0) (x0.Value == 0) false) false) (cond (x0.Kind == 2) (cond (((x0.Row.Values.length : Nat) : Int) == 0) (cond (x0.Field == 0) (x0.Value == 0) false) false) (cond (x0.Kind == 3) (cond (((x0.Row.Values.length : Nat) : Int) == 0) (cond (Qlt x0.Field) (Qdg x0.Value 0 99) false) false) false))) (cond (x0.Kind == 1) (cond (Qjd x0.Row) (cond (x0.Field == 0) (x0.Value == 0) false) false) (cond (x0.Kind == 2) false (cond (x0.Kind == 3) false false)))
theorem Qahk : Cb Tryz.prog 195 := ⟨f195, _, func195, rfl, by decide⟩
theorem Qajw (w : World) (z0 : List Value) (x0 : Qci) (r_0 : Qfi.rd w w.heap.size z0 x0) :
  Calls Tryz.prog 195 #[.agg z0.toArray] w fun e w' => e = .returned (.bool (Qok x0)) ∧ Below w.heap.size w w' := by
 obtain ⟨v1, rfl, r2⟩ := Qmo r_0
 obtain ⟨m3, A4, c5, rfl, q6, r7⟩ := Qk r2
 refine ce1 (L := [(0, .agg #[.int .i64 x0.Kind, .int .i64 x0.Row.Id, .slice A4 x0.Row.Values.length c5, .int .i64 x0.Field, .int .i64 x0.Value])]) (N := 58) func195 ?_
 refine sr ?_
 refine Qbj rfl (Qo rfl) (by decide) (fun p8 => ?_)
 refine wa (nt' (sr ?_))
 refine wv (vf Qbs rfl Qcc) ?_
 refine wv (fun W hm => Qdy (o := 1) Qde rfl Qh (by decide) rfl rfl) ?_
 refine wv (vl 0 1 Qt) ?_
 refine wcv (Qr Qfc rfl) (fun W hm => Qfd W x0.Row.Id 0 999) ?_
 refine wm ?_
 rcases Bool.eq_false_or_eq_true (Qdg x0.Row.Id 0 999) with g10 | g10
 ·
  have hw := Qfv g10
  refine wg (vf Qbs rfl Qcc) g10 ?_
  refine wg (fun W hm => Qdy (o := 2) Qde rfl Qap (by decide) rfl rfl) g10 ?_
  refine wg (vl 0 2 Qv) g10 ?_
  refine wg (Qai Qv) g10 ?_
  refine wg (fun W hm => Qdj rfl rfl) g10 ?_
  refine wv (vpT g10) ?_
  refine wa (nt' (Qf (sr ?_)))
  refine wv (vf Qbs rfl Qh) ?_
  refine wv (vl 0 0 Qt) ?_
  refine nt' (Qab (sr ?_))
  refine wv (fun W hm => Qdj rfl rfl) ?_
  refine wa (nt' ?_)
  by_cases h11 : x0.Kind = 1
  ·have g12 := beq_iff_eq.2 h11
   refine Ql rfl g12 ?_
   refine sr ?_
   refine wv (vf Qbs rfl Qcc) ?_
   refine wv (fun W hm => Qz (cs := [.int .i64 x0.Row.Id, .slice A4 x0.Row.Values.length c5]) Qde Qcc rfl rfl (hm.boxPart (n := 0) rfl rfl)) ?_
   refine wcv (Qr Qra rfl) (fun W hm => Qrl W _ x0.Row (Qim (x := x0.Row) (hm.rdS0 r7))) ?_
   refine wm ?_
   rcases Bool.eq_false_or_eq_true (Qjd x0.Row) with g14 | g14
   ·
    refine wg (vf Qbs rfl Qh) g14 ?_
    refine wg (vl 0 3 Qt) g14 ?_
    refine wg (fun W hm => Qdj rfl rfl) g14 ?_
    refine wv (vpT g14) ?_
    refine wm ?_
    by_cases h15 : x0.Field = 0
    ·have g16 := beq_iff_eq.2 h15
     refine wg (vf Qbs rfl Qh) g16 ?_
     refine wg (vl 0 4 Qt) g16 ?_
     refine wg (fun W hm => Qdj rfl rfl) g16 ?_
     refine wv (vpT g16) ?_
     refine wa (nt' (Qj (Qy (Qe ?_))))
     exact rtb (h := Qb g10 (Qb g12 (Qb g14 (Qb g16 (rfl)))))
    have g16 := beq_eq_false_iff_ne.2 h15
    refine ws g16 ?_
    refine ws g16 ?_
    refine ws g16 ?_
    refine wv (vpF g16) ?_
    refine wa (nt' (Qj (Qy (Qe ?_))))
    exact rtb (h := Qb g10 (Qb g12 (Qb g14 (Qc g16 (rfl)))))
   refine ws g14 ?_
   refine ws g14 ?_
   refine ws g14 ?_
   refine wv (vpF g14) ?_
   refine wm ?_
   refine wk ?_
   refine wk ?_
   refine wk ?_
   refine wv (vpF rfl) ?_
   refine wa (nt' (Qj (Qy (Qe ?_))))
   exact rtb (h := Qb g10 (Qb g12 (Qc g14 (rfl))))
  have g12 := beq_eq_false_iff_ne.2 h11
  refine Qp rfl g12 ?_
  refine sr ?_
  refine wv (fun W hm => Qdj rfl rfl) ?_
  refine wa (nt' ?_)
  by_cases h17 : x0.Kind = 2
  ·have g18 := beq_iff_eq.2 h17
   refine Ql rfl g18 ?_
   refine sr (wm (wm ?_))
   by_cases h19 : ((x0.Row.Values.length : Nat) : Int) = 0
   ·have g20 := beq_iff_eq.2 h19
    refine wg (vf Qbs rfl Qh) g20 ?_
    refine wg (vl 0 3 Qt) g20 ?_
    refine wg (fun W hm => Qdj rfl rfl) g20 ?_
    refine wv (vpT g20) ?_
    refine wm ?_
    by_cases h21 : x0.Field = 0
    ·have g22 := beq_iff_eq.2 h21
     refine wg (vf Qbs rfl Qh) g22 ?_
     refine wg (vl 0 4 Qt) g22 ?_
     refine wg (fun W hm => Qdj rfl rfl) g22 ?_
     refine wv (vpT g22) ?_
     refine wa (nt' (Qj (Qy (Qe ?_))))
     exact rtb (h := Qb g10 (Qc g12 (Qb g18 (Qb g20 (Qb g22 (rfl))))))
    have g22 := beq_eq_false_iff_ne.2 h21
    refine ws g22 ?_
    refine ws g22 ?_
    refine ws g22 ?_
    refine wv (vpF g22) ?_
    refine wa (nt' (Qj (Qy (Qe ?_))))
    exact rtb (h := Qb g10 (Qc g12 (Qb g18 (Qb g20 (Qc g22 (rfl))))))
   have g20 := beq_eq_false_iff_ne.2 h19
   refine ws g20 ?_
   refine ws g20 ?_
   refine ws g20 ?_
   refine wv (vpF g20) ?_
   refine wm ?_
   refine wk ?_
   refine wk ?_
   refine wk ?_
   refine wv (vpF rfl) ?_
   refine wa (nt' (Qj (Qy (Qe ?_))))
   exact rtb (h := Qb g10 (Qc g12 (Qb g18 (Qc g20 (rfl)))))
  have g18 := beq_eq_false_iff_ne.2 h17
  refine Qp rfl g18 ?_
  refine sr ?_
  refine wv (fun W hm => Qdj rfl rfl) ?_
  refine wa (nt' ?_)
  by_cases h23 : x0.Kind = 3
  ·have g24 := beq_iff_eq.2 h23
   refine Ql rfl g24 ?_
   refine sr (wm (wm ?_))
   by_cases h25 : ((x0.Row.Values.length : Nat) : Int) = 0
   ·have g26 := beq_iff_eq.2 h25
    refine wg (vf Qbs rfl Qh) g26 ?_
    refine wg (vl 0 3 Qt) g26 ?_
    refine Qdm (Qr Qtl rfl) (fun W hm => Qun W x0.Field) (Qcq rfl rfl rfl (bw g26 rfl)) (by decide) ?_
    refine wv (vpT g26) ?_
    refine wm ?_
    rcases Bool.eq_false_or_eq_true (Qlt x0.Field) with g28 | g28
    ·
     refine wg (vf Qbs rfl Qh) g28 ?_
     refine wg (vl 0 4 Qt) g28 ?_
     refine Qdm (Qr Qfc rfl) (fun W hm => Qfd W x0.Value 0 99) (Qcq rfl rfl rfl (bw g28 rfl)) (by decide) ?_
     refine wv (vpT g28) ?_
     refine wa (nt' (Qj (Qy (Qe ?_))))
     exact rtb (h := Qb g10 (Qc g12 (Qc g18 (Qb g24 (Qb g26 (Qb g28 (rfl)))))))
    refine ws g28 ?_
    refine ws g28 ?_
    refine ws g28 ?_
    refine wv (vpF g28) ?_
    refine wa (nt' (Qj (Qy (Qe ?_))))
    exact rtb (h := Qb g10 (Qc g12 (Qc g18 (Qb g24 (Qb g26 (Qc g28 (rfl)))))))
   have g26 := beq_eq_false_iff_ne.2 h25
   refine ws g26 ?_
   refine ws g26 ?_
   refine ws g26 ?_
   refine wv (vpF g26) ?_
   refine wm ?_
   refine wk ?_
   refine wk ?_
   refine wk ?_
   refine wv (vpF rfl) ?_
   refine wa (nt' (Qj (Qy (Qe ?_))))
   exact rtb (h := Qb g10 (Qc g12 (Qc g18 (Qb g24 (Qc g26 (rfl))))))
  have g24 := beq_eq_false_iff_ne.2 h23
  refine Qp rfl g24 ?_
  refine Qq (Qax (Qi (sr (wa (nt' (Qj ?_))))))
  exact rtb (h := Qb g10 (Qc g12 (Qc g18 (Qc g24 (rfl)))))
 refine ws g10 ?_
 refine ws g10 ?_
 refine ws g10 ?_
 refine ws g10 ?_
 refine ws g10 ?_
 refine wv (vpF g10) ?_
 refine wa (nt' (Qf (sr ?_)))
 refine wv (vf Qbs rfl Qh) ?_
 refine wv (vl 0 0 Qt) ?_
 refine nt' (Qab (sr ?_))
 refine wv (fun W hm => Qdj rfl rfl) ?_
 refine wa (nt' ?_)
 by_cases h29 : x0.Kind = 1
 ·have g30 := beq_iff_eq.2 h29
  refine Ql rfl g30 ?_
  refine sr ?_
  refine wv (vf Qbs rfl Qcc) ?_
  refine wv (fun W hm => Qz (cs := [.int .i64 x0.Row.Id, .slice A4 x0.Row.Values.length c5]) Qde Qcc rfl rfl (hm.boxPart (n := 0) rfl rfl)) ?_
  refine wcv (Qr Qra rfl) (fun W hm => Qrl W _ x0.Row (Qim (x := x0.Row) (hm.rdS0 r7))) ?_
  refine wm ?_
  rcases Bool.eq_false_or_eq_true (Qjd x0.Row) with g32 | g32
  ·
   refine wg (vf Qbs rfl Qh) g32 ?_
   refine wg (vl 0 3 Qt) g32 ?_
   refine wg (fun W hm => Qdj rfl rfl) g32 ?_
   refine wv (vpT g32) ?_
   refine wm ?_
   by_cases h33 : x0.Field = 0
   ·have g34 := beq_iff_eq.2 h33
    refine wg (vf Qbs rfl Qh) g34 ?_
    refine wg (vl 0 4 Qt) g34 ?_
    refine wg (fun W hm => Qdj rfl rfl) g34 ?_
    refine wv (vpT g34) ?_
    refine wa (nt' (Qj (Qy (Qe ?_))))
    exact rtb (h := Qc g10 (Qb g30 (Qb g32 (Qb g34 (rfl)))))
   have g34 := beq_eq_false_iff_ne.2 h33
   refine ws g34 ?_
   refine ws g34 ?_
   refine ws g34 ?_
   refine wv (vpF g34) ?_
   refine wa (nt' (Qj (Qy (Qe ?_))))
   exact rtb (h := Qc g10 (Qb g30 (Qb g32 (Qc g34 (rfl)))))
  refine ws g32 ?_
  refine ws g32 ?_
  refine ws g32 ?_
  refine wv (vpF g32) ?_
  refine wm ?_
  refine wk ?_
  refine wk ?_
  refine wk ?_
  refine wv (vpF rfl) ?_
  refine wa (nt' (Qj (Qy (Qe ?_))))
  exact rtb (h := Qc g10 (Qb g30 (Qc g32 (rfl))))
 have g30 := beq_eq_false_iff_ne.2 h29
 refine Qp rfl g30 ?_
 refine sr ?_
 refine wv (fun W hm => Qdj rfl rfl) ?_
 refine wa (nt' ?_)
 by_cases h35 : x0.Kind = 2
 ·have g36 := beq_iff_eq.2 h35
  refine Ql rfl g36 ?_
  refine sr (wm (wm ?_))
  refine wk ?_
  refine wk ?_
  refine wk ?_
  refine wv (vpF rfl) ?_
  refine wm ?_
  refine wk ?_
  refine wk ?_
  refine wk ?_
  refine wv (vpF rfl) ?_
  refine wa (nt' (Qj (Qy (Qe ?_))))
  exact rtb (h := Qc g10 (Qc g30 (Qb g36 (rfl))))
 have g36 := beq_eq_false_iff_ne.2 h35
 refine Qp rfl g36 ?_
 refine sr ?_
 refine wv (fun W hm => Qdj rfl rfl) ?_
 refine wa (nt' ?_)
 by_cases h37 : x0.Kind = 3
 ·have g38 := beq_iff_eq.2 h37
  refine Ql rfl g38 ?_
  refine sr (wm (wm ?_))
  refine wk ?_
  refine wk ?_
  refine wk ?_
  refine wv (vpF rfl) ?_
  refine wm ?_
  refine wk ?_
  refine wk ?_
  refine wk ?_
  refine wv (vpF rfl) ?_
  refine wa (nt' (Qj (Qy (Qe ?_))))
  exact rtb (h := Qc g10 (Qc g30 (Qc g36 (Qb g38 (rfl)))))
 have g38 := beq_eq_false_iff_ne.2 h37
 refine Qp rfl g38 ?_
 refine Qq (Qax (Qi (sr (wa (nt' (Qj ?_))))))
 exact rtb (h := Qc g10 (Qc g30 (Qc g36 (Qc g38 (rfl)))))

def Qzz (x0 : Qx) (x1 : Int) (k9 : Nat) (k27 : Nat) : (Int × Int) ⊕ (Unit) :=
 cond (((gt (gt x0.Segments k9) k27).Id) == x1) (cond (((gt (gt x0.Segments k9) k27).Died) == (-1)) (Sum.inl (((k9 : Nat) : Int), ((k27 : Nat) : Int))) (Sum.inr ())) (Sum.inr ())
def Qzy (x0 : Qx) (x1 : Int) (k9 : Nat) : (Int × Int) ⊕ (Unit) :=
 Sum.elim Sum.inl (fun (s : Unit) => Sum.inr ()) (rng (R := (Int × Int)) (fun k (_ : Unit) => Qzz x0 x1 k9 k) (((gt x0.Segments k9)).length - 0) 0 ())
def Qaa (x0 : Qx) (x1 : Int) : (Int × Int) :=
 Sum.elim id (fun (s : Unit) => ((-1), (-1))) (rng (R := (Int × Int)) (fun k (_ : Unit) => Qzy x0 x1 k) (x0.Segments.length - 0) 0 ())
theorem Qahl : Cb Tryz.prog 196 := ⟨f196, _, func196, rfl, by decide⟩
theorem Qalc (w : World) (z0 : List Value) (x0 : Qx) (x1 : Int) (r_0 : Qcz.rd w w.heap.size z0 x0) :
  Calls Tryz.prog 196 #[.agg z0.toArray, .int .i64 x1] w fun e w' => e = .returned (.tuple #[.int .i64 ((Qaa x0 x1).1), .int .i64 ((Qaa x0 x1).2)]) ∧ Below w.heap.size w w' := by
 obtain ⟨v1, rfl, r2⟩ := Qgy r_0
 obtain ⟨m3, A4, c5, rfl, q6, r7⟩ := Qk r2
 refine ce2 (L := [(0, .agg #[.slice A4 x0.Segments.length c5, .int .i64 x0.Now]), (1, .int .i64 x1)]) (N := 38) func196 ?_
 refine sr ?_
 refine Qbj rfl (Qo rfl) (by decide) (fun p8 => ?_)
 refine wa (wa (nt' (Qf (sr ?_))))
 refine wv (vf Qaf rfl Qcu) ?_
 refine wv (vl 0 0 Qas) ?_
 refine wv (Qai Qas) ?_
 refine wm (nt' (Qab ?_))
 let F1 := fun k (_ : Unit) => Qzy x0 x1 k
 let R3 := rng (R := (Int × Int)) F1
 let I6 : It := Qa p8 42 [.slice A4 x0.Segments.length c5, .int .i64 x0.Now]
 refine Qbl (σ := Nat × (Unit) × (Unit)) (fun s => [(1, .int .i64 x1), (11, .slice A4 x0.Segments.length c5), (12, .int .i64 ((x0.Segments.length : Nat) : Int)), (13, .int .i64 ((s.1 : Nat) : Int))]) (fun s => [I6]) (fun s => s.1 ≤ x0.Segments.length ∧ R3 (x0.Segments.length - s.1) s.1 s.2.1 = R3 (x0.Segments.length - 0) 0 ()) (fun s => x0.Segments.length - s.1) (0, (), ()) sl4 (fun W hm => hm) ⟨(by omega), rfl⟩ ?_
 rintro ⟨k9, ⟨⟩, ⟨⟩⟩ H12
 obtain ⟨hk10, hF11⟩ : k9 ≤ x0.Segments.length ∧ R3 (x0.Segments.length - k9) k9 () = R3 (x0.Segments.length - 0) 0 () := H12
 show CM Tryz.prog 38 _ _ _ _ [(1, .int .i64 x1), (11, .slice A4 x0.Segments.length c5), (12, .int .i64 ((x0.Segments.length : Nat) : Int)), (13, .int .i64 ((k9 : Nat) : Int))] [I6]
 refine sr ?_
 refine wv Qak ?_
 refine nt' (Qf ?_)
 by_cases hl13 : k9 < x0.Segments.length
 ·have g14 := dlT hl13
  refine Ql rfl g14 ?_
  refine Qq (Qi (Qf (Qab (sr (wm ?_)))))
  obtain ⟨a15, rfl, hb16, he17⟩ := q6 (by omega)
  refine wv (vix 1 k9 Qas Qda) ?_
  obtain ⟨_, e19, hc18⟩ := he17 k9 _ (Qca (show k9 < x0.Segments.length from by omega))
  obtain ⟨v20, rfl, r21⟩ := e19
  obtain ⟨m22, A23, c24, rfl, q25, r26⟩ := Qk r21
  refine wv (fun W hm => Qaw Qav rfl rfl ((hm.cell0 (show (a15.add (k9 * 1)).block < w.heap.size from by rw [Qah]; exact hb16.1)).trans (hc18 0 _ rfl))) ?_
  refine wa (wa (nt' (sr (wm ?_))))
  refine wv (Qai Qav) ?_
  refine wm (nt' (Qab ?_))
  let F2 := fun k (_ : Unit) => Qzz x0 x1 k9 k
  let R4 := rng (R := (Int × Int)) F2
  let I7 : It := Qa p8 42 [.slice (some a15) x0.Segments.length c5, .int .i64 x0.Now]
  refine Qbl (σ := Nat × (Unit) × (Unit)) (fun s => [(1, .int .i64 x1), (6, .int .i64 ((k9 : Nat) : Int)), (11, .slice (some a15) x0.Segments.length c5), (12, .int .i64 ((x0.Segments.length : Nat) : Int)), (13, .int .i64 ((k9 : Nat) : Int)), (18, .slice A23 ((gt x0.Segments k9)).length c24), (19, .int .i64 ((((gt x0.Segments k9)).length : Nat) : Int)), (20, .int .i64 ((s.1 : Nat) : Int))]) (fun s => [I7]) (fun s => s.1 ≤ ((gt x0.Segments k9)).length ∧ R4 (((gt x0.Segments k9)).length - s.1) s.1 s.2.1 = R4 (((gt x0.Segments k9)).length - 0) 0 ()) (fun s => ((gt x0.Segments k9)).length - s.1) (0, (), ()) sl8 (fun W hm => hm) ⟨(by omega), rfl⟩ ?_
  rintro ⟨k27, ⟨⟩, ⟨⟩⟩ H30
  obtain ⟨hk28, hF29⟩ : k27 ≤ ((gt x0.Segments k9)).length ∧ R4 (((gt x0.Segments k9)).length - k27) k27 () = R4 (((gt x0.Segments k9)).length - 0) 0 () := H30
  show CM Tryz.prog 38 _ _ _ _ [(1, .int .i64 x1), (6, .int .i64 ((k9 : Nat) : Int)), (11, .slice (some a15) x0.Segments.length c5), (12, .int .i64 ((x0.Segments.length : Nat) : Int)), (13, .int .i64 ((k9 : Nat) : Int)), (18, .slice A23 ((gt x0.Segments k9)).length c24), (19, .int .i64 ((((gt x0.Segments k9)).length : Nat) : Int)), (20, .int .i64 ((k27 : Nat) : Int))] [I7]
  refine sr ?_
  refine wv Qak ?_
  refine nt' (Qf ?_)
  by_cases hl31 : k27 < ((gt x0.Segments k9)).length
  ·have g32 := dlT hl31
   refine Ql rfl g32 ?_
   refine Qq (Qi (Qf (Qab (sr (wm ?_)))))
   obtain ⟨a33, rfl, hb34, he35⟩ := q25 (by omega)
   refine wv (vix 4 k27 Qav Qar) ?_
   obtain ⟨_, e39, hc36⟩ := he35 k27 _ (Qca (show k27 < ((gt x0.Segments k9)).length from by omega))
   obtain ⟨v37, rfl, r38⟩ := Qfm e39
   obtain ⟨m40, A41, c42, rfl, q43, r44⟩ := Qk r38
   let K5 : List Value := [.int .i64 ((gt (gt x0.Segments k9) k27).Id), .slice A41 ((gt (gt x0.Segments k9) k27).Values).length c42, .int .i64 ((gt (gt x0.Segments k9) k27).Born), .int .i64 ((gt (gt x0.Segments k9) k27).Died)]
   refine wv (fun W hm => Qz (cs := K5) Qbe Qar rfl rfl (hm.elCells (show (a33.add (k27 * 4)).block < w.heap.size from by rw [Qah]; exact hb34.1) hc36)) ?_
   refine Qbo Qar rfl (Qo rfl) (by decide) (fun p45 => ?_)
   refine wa ?_
   refine sb 0 K5 [I7] (fun W hm => hm) Qar ?_
   refine nt' (sr ?_)
   refine wv (vf Qbe rfl Qh) ?_
   refine wv (vl 0 0 Qt) ?_
   refine wm ?_
   refine wv (fun W hm => Qdj rfl rfl) ?_
   refine wm ?_
   by_cases h46 : ((gt (gt x0.Segments k9) k27).Id) = x1
   ·have g47 := beq_iff_eq.2 h46
    refine wg (vf Qbe rfl Qh) g47 ?_
    refine wg (vl 0 3 Qt) g47 ?_
    refine wg (fun W hm => Qdj rfl rfl) g47 ?_
    refine wv (vpT g47) ?_
    refine nt' ?_
    by_cases h48 : ((gt (gt x0.Segments k9) k27).Died) = (-1)
    ·have g49 := beq_iff_eq.2 h48
     refine Ql rfl g49 ?_
     refine sr (wm (wm (wa (wa (nt' (Qj (Qy (Qe (Qe (Qy (Qy (Qe (Qe (Qy (Qe ?_)))))))))))))))
     have he50 := (show Qaa x0 x1 = (((k9 : Nat) : Int), ((k27 : Nat) : Int)) from Qba (Qbc (body := F1) (k := k9) (s := ()) (show k9 < x0.Segments.length from by omega) (Qba (Qbc (body := F2) (k := k27) (s := ()) (show k27 < ((gt x0.Segments k9)).length from by omega) (Qb g47 (Qb g49 (rfl))) hF29) rfl) hF11) rfl)
     exact Qdx rfl (Qcv rfl) (Qcv rfl) (fun W hm => ⟨by rw [he50], hm.below⟩)
    have g49 := beq_eq_false_iff_ne.2 h48
    refine Qp rfl g49 ?_
    refine Qq (Qax (Qi (Qad ?_)))
    refine wv (Qbd k27 1 (by omega)) ?_
    refine wm (Qal ?_)
    have hn51 := Qbb (R := (Int × Int)) (body := F2) (k := k27) (s := ()) (s' := ()) (show k27 < ((gt x0.Segments k9)).length from by omega) (Qb g47 (Qc g49 (rfl))) hF29
    exact Qaz (k27 + 1, (), ()) sl8 (pk [1]) ⟨(by omega), hn51⟩ (show ((gt x0.Segments k9)).length - (k27 + 1) < ((gt x0.Segments k9)).length - k27 from by omega)
   have g47 := beq_eq_false_iff_ne.2 h46
   refine ws g47 ?_
   refine ws g47 ?_
   refine ws g47 ?_
   refine wv (vpF g47) ?_
   refine nt' ?_
   refine Qp rfl rfl ?_
   refine Qq (Qax (Qi (Qad ?_)))
   refine wv (Qbd k27 1 (by omega)) ?_
   refine wm (Qal ?_)
   have hn52 := Qbb (R := (Int × Int)) (body := F2) (k := k27) (s := ()) (s' := ()) (show k27 < ((gt x0.Segments k9)).length from by omega) (Qc g47 (rfl)) hF29
   exact Qaz (k27 + 1, (), ()) sl8 (pk [1]) ⟨(by omega), hn52⟩ (show ((gt x0.Segments k9)).length - (k27 + 1) < ((gt x0.Segments k9)).length - k27 from by omega)
  have g32 := dlF hl31
  refine Qp rfl g32 ?_
  refine Qbk (Qac (Qac ?_))
  have hE53 : R4 (((gt x0.Segments k9)).length - 0) 0 () = Sum.inr () := Qbn hl31 hF29
  refine Qbm (Qax (Qi (Qad ?_)))
  refine wv (Qbd k9 1 (by omega)) ?_
  refine wm (Qal ?_)
  have hn54 := Qbb (R := (Int × Int)) (body := F1) (k := k9) (s := ()) (s' := ()) (show k9 < x0.Segments.length from by omega) (Qat hE53 (rfl)) hF11
  exact Qaz (k9 + 1, (), ()) sl4 (fun W hm => hm) ⟨(by omega), hn54⟩ (rl (by omega))
 have g14 := dlF hl13
 refine Qp rfl g14 ?_
 refine Qbk (Qac (Qac ?_))
 have hE55 : R3 (x0.Segments.length - 0) 0 () = Sum.inr () := Qbn hl13 hF11
 refine Qbm (Qi (sr (wa (wa (nt' (Qj ?_))))))
 have he56 := (show Qaa x0 x1 = ((-1), (-1)) from Qat hE55 (rfl))
 exact Qdx rfl (Qcv rfl) (Qcv rfl) (fun W hm => ⟨by rw [he56], hm.below⟩)

theorem Qxj (x a b : Int) : Qdg x a b = Qbt x a b := rfl
theorem Qaen (x : Qaj) : Qjd x = Qgx x := rfl
theorem Qaae (x : Int) : Qlt x = Qbt x 0 2 := rfl
theorem Qxs (x : Qci) : Qok x = Qkv x := by
  unfold Qok Qkv
  rw [Qaen, Qxj, Qxj, Qaae]
  cases Qbt x.Row.Id 0 999 <;> cases h1 : x.Kind == 1 <;> cases x.Kind == 2 <;> cases x.Kind == 3 <;> cases Qgx x.Row <;> cases (((x.Row.Values.length : Nat) : Int) == 0) <;> rfl
def okI (now : Int) (seen : List Qn) (v : Qn) : Bool := Qho v now && seen.all fun w => !(v.Id == w.Id && Qie v w)
theorem Qacb (ok : List Qn → Qn → Bool) : ∀ (s t seen : List Qn), Qeu ok seen (s ++ t) = (Qeu ok seen s && Qeu ok (seen ++ s) t)
  | [], t, seen => by simp [Qeu]
  | v :: s, t, seen => by
    show (ok seen v && Qeu ok (seen ++ [v]) (s ++ t)) = _
    rw [Qacb ok s t]
    simp [Qeu, Bool.and_assoc]
theorem Qzf (ok : List Qn → Qn → Bool) : ∀ (l seen : List Qn), Qjx (fun d v => ok d v) (fun d v => d ++ [v]) l seen = cond (Qeu ok seen l) (some (seen ++ l)) none
  | [], seen => by simp [Qjx, Qeu]
  | v :: l, seen => by
    rw [Qjx, Qzf ok l]
    show _ = cond (ok seen v && Qeu ok (seen ++ [v]) l) _ _
    cases ok seen v <;> simp
theorem Qakb (x : Qx) (i j : Nat) (d : List Qn) : rng (R := Bool) (fun k (_ : Unit) => Qpj x i j d k) (d.length - 0) 0 () = cond (d.all fun w => !((gt (gt x.Segments i) j).Id == w.Id && Qie (gt (gt x.Segments i) j) w)) (.inr ()) (.inl false) :=
  Qvy fun k _ => by
    unfold Qpj
    cases (gt (gt x.Segments i) j).Id == (gt d k).Id <;> cases Qie (gt (gt x.Segments i) j) (gt d k) <;> rfl
theorem Qaka (x : Qx) (i j : Nat) (d : List Qn) : Qro x i j d = cond (okI x.Now d (gt (gt x.Segments i) j)) (.inr (d ++ [gt (gt x.Segments i) j])) (.inl false) := by
  have h4 : (fun k (_ : Unit) => Qtv x i j d k) = fun k (_ : Unit) => Qpj x i j d k := rfl
  unfold Qro okI
  rw [h4, Qakb, Qte, Qrv, Qrv]
  have hr : Qjd (Qit (gt (gt x.Segments i) j)) = Qgx (⟨(gt (gt x.Segments i) j).Id, (gt (gt x.Segments i) j).Values⟩ : Qaj) := rfl
  rw [hr]
  have hn : ((gt (gt x.Segments i) j).Died != (-1)) = !((gt (gt x.Segments i) j).Died == (-1)) := rfl
  rw [hn]
  cases Qgx (⟨(gt (gt x.Segments i) j).Id, (gt (gt x.Segments i) j).Values⟩ : Qaj) <;> cases decide (0 ≤ (gt (gt x.Segments i) j).Born ∧ (gt (gt x.Segments i) j).Born ≤ x.Now) <;> cases (gt (gt x.Segments i) j).Died == (-1) <;>
    cases decide (IntKind.i64.wrap ((gt (gt x.Segments i) j).Born + 1) ≤ (gt (gt x.Segments i) j).Died ∧ (gt (gt x.Segments i) j).Died ≤ x.Now) <;> cases (d.all fun w => !((gt (gt x.Segments i) j).Id == w.Id && Qie (gt (gt x.Segments i) j) w)) <;> rfl
theorem Qajz (x : Qx) (i : Nat) (d : List Qn) : Qrn x i d = cond (decide ((gt x.Segments i).length ≤ 4) && Qeu (okI x.Now) d (gt x.Segments i)) (.inr (d ++ gt x.Segments i)) (.inl false) := by
  unfold Qrn
  rw [Qabu (xs := gt x.Segments i) (r := false) (c := fun d v => okI x.Now d v) (f := fun d v => d ++ [v]) (fun j s _ => Qaka x i j s), Qzf]
  by_cases h : (gt x.Segments i).length ≤ 4
  · rw [decide_eq_true h, decide_eq_false (show ¬ 4 < ((gt x.Segments i).length : Int) by omega)]
    cases Qeu (okI x.Now) d (gt x.Segments i) <;> rfl
  rw [decide_eq_false h, decide_eq_true (show 4 < ((gt x.Segments i).length : Int) by omega)]
  rfl
theorem Qzg (ok : List Qn → Qn → Bool) : ∀ (l : List (List Qn)) (d : List Qn), Qjx (fun d s => decide (s.length ≤ 4) && Qeu ok d s) (fun d s => d ++ s) l d = cond (l.all (fun s => decide (s.length ≤ 4)) && Qeu ok d l.flatten) (some (d ++ l.flatten)) none
  | [], d => by simp [Qjx, Qeu]
  | s :: l, d => by
    rw [Qjx, Qzg ok l, List.flatten_cons, Qacb, List.all_cons]
    cases decide (s.length ≤ 4) <;> cases Qeu ok d s <;> cases l.all (fun s => decide (s.length ≤ 4)) <;> simp
theorem Qajv (x : Qx) : Qib x = Qow (okI x.Now) x := by
  unfold Qib Qow
  rw [Qabu (xs := x.Segments) (r := false) (c := fun d s => decide (s.length ≤ 4) && Qeu (okI x.Now) d s) (f := fun d s => d ++ s) (fun j s _ => Qajz x j s), Qzg, Qrv, Qrv]
  cases decide (1 ≤ (x.Segments.length : Int) ∧ (x.Segments.length : Int) ≤ 8) <;> cases decide (0 ≤ x.Now ∧ x.Now ≤ 100000) <;> cases x.Segments.all (fun s => decide (s.length ≤ 4)) <;> cases Qeu (okI x.Now) [] x.Segments.flatten <;> rfl
theorem Qxv {v : Qn} {now : Int} (hn : now ≤ 100000) (h : Qho v now = true) : 0 ≤ v.Born ∧ v.Born ≤ now ∧ (v.Died = -1 ∨ (v.Born + 1 ≤ v.Died ∧ v.Died ≤ now)) := by
  rw [Qte] at h
  simp only [Bool.and_eq_true, Bool.or_eq_true, decide_eq_true_eq, beq_iff_eq] at h
  obtain ⟨⟨_, h1, h2⟩, h3⟩ := h
  rw [Qft (by omega) (by omega)] at h3
  exact ⟨h1, h2, h3⟩
theorem Qxw (v : Qn) (t : Int) : Qic v t = decide (v.Born ≤ t ∧ (v.Died = -1 ∨ t < v.Died)) := by
  unfold Qic
  by_cases h1 : v.Born ≤ t <;> by_cases h2 : v.Died = -1 <;> by_cases h3 : t < v.Died <;> simp [h1, h2, h3]
theorem Qadu (v w : Qn) : Qkg v w = decide (v.Id ≠ w.Id ∨ (v.Died ≠ -1 ∧ v.Died ≤ w.Born) ∨ (w.Died ≠ -1 ∧ w.Died ≤ v.Born)) := by
  unfold Qkg
  by_cases h1 : v.Id = w.Id <;> by_cases h2 : v.Died = -1 <;> by_cases h3 : w.Died = -1 <;> by_cases h4 : v.Died ≤ w.Born <;> simp [h1, h2, h3, h4] <;> (try rw [h2] at h4) <;> (try simp_all) <;> (try rfl)
theorem Qyd {v w : Qn} {now : Int} (hn : now ≤ 100000) (hv : Qho v now = true) (hw : Qho w now = true) : Qkg v w = !(v.Id == w.Id && Qie v w) := by
  obtain ⟨a1, a2, a3⟩ := Qxv hn hv
  obtain ⟨b1, b2, b3⟩ := Qxv hn hw
  have hm : Qie v w = decide ((v.Born ≤ w.Born ∧ (v.Died = -1 ∨ w.Born < v.Died)) ∨ (w.Born ≤ v.Born ∧ (w.Died = -1 ∨ v.Born < w.Died))) := by
    unfold Qie
    rw [Qxw, Qxw]
    by_cases h1 : (v.Born ≤ w.Born ∧ (v.Died = -1 ∨ w.Born < v.Died)) <;> by_cases h2 : (w.Born ≤ v.Born ∧ (w.Died = -1 ∨ v.Born < w.Died)) <;> simp [h1, h2]
  rw [hm, Qadu]
  have hb : (v.Id == w.Id) = decide (v.Id = w.Id) := by by_cases h : v.Id = w.Id <;> simp [h]
  rw [hb, ← Bool.decide_and, ← decide_not]
  apply decide_eq_decide.2
  omega
theorem Qacd {now : Int} (hn : now ≤ 100000) : ∀ (l seen : List Qn), (∀ w ∈ seen, Qho w now = true) → Qeu (okI now) seen l = Qeu (okS now) seen l
  | [], _, _ => rfl
  | v :: l, seen, hs => by
    show (okI now seen v && Qeu (okI now) (seen ++ [v]) l) = (okS now seen v && Qeu (okS now) (seen ++ [v]) l)
    unfold okI okS
    cases hv : Qho v now with
    | false => rfl
    | true =>
      have e : (seen.all fun w => !(v.Id == w.Id && Qie v w)) = seen.all fun w => Qkg v w := by
        rw [Bool.eq_iff_iff, List.all_eq_true, List.all_eq_true]
        exact ⟨fun h w hw => by rw [Qyd hn hv (hs w hw)]; exact h w hw, fun h w hw => by rw [← Qyd hn hv (hs w hw)]; exact h w hw⟩
      have ih := Qacd hn l (seen ++ [v]) (fun w hw => by
        rcases List.mem_append.1 hw with h | h
        · exact hs w h
        rw [List.mem_singleton.1 h]; exact hv)
      unfold okI okS at ih
      rw [e, ih]
theorem Qpe (x : Qx) : Qib x = Qhd x := by
  rw [Qajv, Qaco]
  unfold Qow
  by_cases h : 0 ≤ x.Now ∧ x.Now ≤ 100000
  · rw [Qacd h.2 _ [] (fun w hw => by cases hw)]
  rw [decide_eq_false h, Bool.and_false, Bool.false_and]
  rfl
theorem Qajq {x : Qx} (h : Qib x = true) (id : Int) : (Qaa x id).1 < 0 ∨ (0 ≤ (Qaa x id).1 ∧ (Qaa x id).1.toNat < x.Segments.length ∧ 0 ≤ (Qaa x id).2 ∧ (Qaa x id).2.toNat < (gt x.Segments (Qaa x id).1.toNat).length ∧ (gt (gt x.Segments (Qaa x id).1.toNat) (Qaa x id).2.toNat).Values.length = 3 ∧ (Qaa x id).1 < (x.Segments.length : Int) ∧ (Qaa x id).2 < ((gt x.Segments (Qaa x id).1.toNat).length : Int)) := Qacj (by rw [← Qpe]; exact h) id
theorem Qakc {u : Qci} (h : Qok u = true) : (u.Kind = 1 ∨ u.Kind = 2 ∨ u.Kind = 3) ∧ (u.Kind = 3 → 0 ≤ u.Field ∧ u.Field ≤ 2) ∧ (u.Kind = 1 → u.Row.Values.length = 3) ∧ (u.Kind ≠ 1 → u.Row.Values.length = 0) := Qsj (by rw [← Qxs]; exact h)
abbrev Qcx (x0 : Qx) (x1 : Qci) : (List Qn) :=
 ((gt x0.Segments (((Qaa x0 x1.Row.Id).1).toNat)).set (((Qaa x0 x1.Row.Id).2).toNat) (⟨(gt (gt x0.Segments (((Qaa x0 x1.Row.Id).1).toNat)) (((Qaa x0 x1.Row.Id).2).toNat)).Id, (gt (gt x0.Segments (((Qaa x0 x1.Row.Id).1).toNat)) (((Qaa x0 x1.Row.Id).2).toNat)).Values, (gt (gt x0.Segments (((Qaa x0 x1.Row.Id).1).toNat)) (((Qaa x0 x1.Row.Id).2).toNat)).Born, (IntKind.i64.wrap (x0.Now + 1))⟩ : Qn))
abbrev Qkn (x0 : Qx) (x1 : Qci) (k95 : Nat) : (List Qn) :=
 ((gt (x0.Segments.set (((Qaa x0 x1.Row.Id).1).toNat) (Qcx x0 x1)) k95) ++ [(⟨x1.Row.Id, (((gt (gt x0.Segments (((Qaa x0 x1.Row.Id).1).toNat)) (((Qaa x0 x1.Row.Id).2).toNat)).Values).set (x1.Field.toNat) x1.Value), (IntKind.i64.wrap (x0.Now + 1)), (-1)⟩ : Qn)])
def Qtq (x0 : Qx) (x1 : Qci) (k95 : Nat) : (Qx × Bool) ⊕ (Unit) :=
 cond (decide ((((gt (x0.Segments.set (((Qaa x0 x1.Row.Id).1).toNat) (Qcx x0 x1)) k95).length : Nat) : Int) < 4)) (Sum.inl ((⟨((x0.Segments.set (((Qaa x0 x1.Row.Id).1).toNat) (Qcx x0 x1)).set k95 (Qkn x0 x1 k95)), (IntKind.i64.wrap (x0.Now + 1))⟩ : Qx), true)) (Sum.inr ())
abbrev Qko (x0 : Qx) (x1 : Qci) (k128 : Nat) : (List Qn) :=
 ((gt (x0.Segments.set (((Qaa x0 x1.Row.Id).1).toNat) (Qcx x0 x1)) k128) ++ [(⟨x1.Row.Id, ((gt (gt x0.Segments (((Qaa x0 x1.Row.Id).1).toNat)) (((Qaa x0 x1.Row.Id).2).toNat)).Values), (IntKind.i64.wrap (x0.Now + 1)), (-1)⟩ : Qn)])
def Qzq (x0 : Qx) (x1 : Qci) (k128 : Nat) : (Qx × Bool) ⊕ (Unit) :=
 cond (decide ((((gt (x0.Segments.set (((Qaa x0 x1.Row.Id).1).toNat) (Qcx x0 x1)) k128).length : Nat) : Int) < 4)) (Sum.inl ((⟨((x0.Segments.set (((Qaa x0 x1.Row.Id).1).toNat) (Qcx x0 x1)).set k128 (Qko x0 x1 k128)), (IntKind.i64.wrap (x0.Now + 1))⟩ : Qx), true)) (Sum.inr ())
def Qzr (x0 : Qx) (x1 : Qci) (k164 : Nat) : (Qx × Bool) ⊕ (Unit) :=
 cond (decide ((((gt x0.Segments k164).length : Nat) : Int) < 4)) (Sum.inl ((⟨(x0.Segments.set k164 ((gt x0.Segments k164) ++ [(⟨x1.Row.Id, (x1.Row.Values.set (x1.Field.toNat) x1.Value), (IntKind.i64.wrap (x0.Now + 1)), (-1)⟩ : Qn)])), (IntKind.i64.wrap (x0.Now + 1))⟩ : Qx), true)) (Sum.inr ())
def Qtr (x0 : Qx) (x1 : Qci) (k198 : Nat) : (Qx × Bool) ⊕ (Unit) :=
 cond (decide ((((gt x0.Segments k198).length : Nat) : Int) < 4)) (Sum.inl ((⟨(x0.Segments.set k198 ((gt x0.Segments k198) ++ [(⟨x1.Row.Id, x1.Row.Values, (IntKind.i64.wrap (x0.Now + 1)), (-1)⟩ : Qn)])), (IntKind.i64.wrap (x0.Now + 1))⟩ : Qx), true)) (Sum.inr ())
def Qdc (x0 : Qx) (x1 : Qci) : (Qx × Bool) :=
 cond (Qib x0) (cond (Qok x1) (cond (x0.Now == 100000) (x0, false) (cond ((decide (0 ≤ ((Qaa x0 x1.Row.Id).1))) == (x1.Kind == 1)) (x0, false) (cond (decide (0 ≤ ((Qaa x0 x1.Row.Id).1))) (cond (x1.Kind == 3) (cond (x1.Kind == 2) ((⟨(x0.Segments.set (((Qaa x0 x1.Row.Id).1).toNat) (Qcx x0 x1)), (IntKind.i64.wrap (x0.Now + 1))⟩ : Qx), true) (Sum.elim id (fun (s : Unit) => (x0, false)) (rng (R := (Qx × Bool)) (fun k (_ : Unit) => Qtq x0 x1 k) (x0.Segments.length - 0) 0 ()))) (cond (x1.Kind == 2) ((⟨(x0.Segments.set (((Qaa x0 x1.Row.Id).1).toNat) (Qcx x0 x1)), (IntKind.i64.wrap (x0.Now + 1))⟩ : Qx), true) (Sum.elim id (fun (s : Unit) => (x0, false)) (rng (R := (Qx × Bool)) (fun k (_ : Unit) => Qzq x0 x1 k) (x0.Segments.length - 0) 0 ())))) (cond (x1.Kind == 3) (cond (x1.Kind == 2) ((⟨x0.Segments, (IntKind.i64.wrap (x0.Now + 1))⟩ : Qx), true) (Sum.elim id (fun (s : Unit) => (x0, false)) (rng (R := (Qx × Bool)) (fun k (_ : Unit) => Qzr x0 x1 k) (x0.Segments.length - 0) 0 ()))) (cond (x1.Kind == 2) ((⟨x0.Segments, (IntKind.i64.wrap (x0.Now + 1))⟩ : Qx), true) (Sum.elim id (fun (s : Unit) => (x0, false)) (rng (R := (Qx × Bool)) (fun k (_ : Unit) => Qtr x0 x1 k) (x0.Segments.length - 0) 0 ()))))))) (x0, false)) (x0, false)
theorem Qafy : Cb Tryz.prog 133 := ⟨f133, _, func133, rfl, by decide⟩
theorem Qajo (w : World) (z0 : List Value) (x0 : Qx) (z1 : List Value) (x1 : Qci) (r_0 : Qcz.rd w w.heap.size z0 x0) (r_1 : Qfi.rd w w.heap.size z1 x1) (s_0 : Qfl 68719476736 x0) (s_1 : Qja 68719476736 x1) :
  Calls Tryz.prog 133 #[.agg z0.toArray, .agg z1.toArray] w fun e w' => ∃ v : List Value, e = .returned (.tuple #[.agg v.toArray, .bool ((Qdc x0 x1).2)]) ∧ Mem w.heap.size w [Qd Qcz v (Qdc x0 x1).1] w' := by
 obtain ⟨v1, rfl, r2⟩ := Qgy r_0
 obtain ⟨m3, A4, c5, rfl, q6, r7⟩ := Qk r2
 obtain ⟨v8, rfl, r9⟩ := Qmo r_1
 obtain ⟨m10, A11, c12, rfl, q13, r14⟩ := Qk r9
 have l15 : x0.Segments.length ≤ 68719476736 := s_0.1
 have l16 : x1.Row.Values.length ≤ 68719476736 := s_1
 refine ce2 (L := [(0, .agg #[.slice A4 x0.Segments.length c5, .int .i64 x0.Now]), (1, .agg #[.int .i64 x1.Kind, .int .i64 x1.Row.Id, .slice A11 x1.Row.Values.length c12, .int .i64 x1.Field, .int .i64 x1.Value])]) (N := 115) func133 ?_
 refine sr ?_
 refine Qbj rfl (Qo rfl) (by decide) (fun p17 => ?_)
 refine Qbj rfl (Qo rfl) (by decide) (fun p18 => ?_)
 refine Qbo Qae rfl (Qo rfl) (by decide) (fun p19 => ?_)
 refine wa (nt' (sr ?_))
 refine wv (fun W hm => Qz (cs := [.slice A4 x0.Segments.length c5, .int .i64 x0.Now]) Qaf Qae rfl rfl (hm.boxCells (n := 2) rfl)) ?_
 refine wcs Qcz x0 (Qr Qlk rfl) (fun W hm => Qls W _ x0 (Qeg (x := x0) (hm.rdS0 r7)) s_0) (fun z20 => ?_)
 refine Qgd ?_
 rintro v21 rfl
 refine Qs (n := 0) rfl ?_
 rintro A22 c23 rfl m24
 refine Qbo Qae rfl (Qo rfl) (by decide) (fun p26 => ?_)
 let K9 : List Value := [.int .i64 x1.Kind, .int .i64 x1.Row.Id, .slice A11 x1.Row.Values.length c12, .int .i64 x1.Field, .int .i64 x1.Value]
 let I29 : It := Qd (tSl (tSl Qm 191) 131) [.slice A22 x0.Segments.length c23] x0.Segments
 let I30 : It := Qa p17 42 [.slice A4 x0.Segments.length c5, .int .i64 x0.Now]
 refine sb 0 [.slice A22 x0.Segments.length c23, .int .i64 x0.Now] [I29, Qa p19 42 [.slice none 0 0, .int .i64 0], Qa p18 75 K9, I30] (fun W hm => hm) Qae ?_
 refine nt' (Qf (sr ?_))
 refine wv (fun W hm => Qz (cs := [.slice A4 x0.Segments.length c5, .int .i64 x0.Now]) Qaf Qae rfl rfl (hm.boxCells (n := 4) rfl)) ?_
 refine wcv (Qr Qti rfl) (fun W hm => Qtw W _ x0 (Qeg (x := x0) (hm.rdS0 r7)) s_0) ?_
 refine wv Qbr ?_
 refine wm ?_
 rcases Bool.eq_false_or_eq_true (Qib x0) with g28 | g28
 ·
  have hst := g28
  refine wg (fun W hm => Qz (cs := K9) Qbs type75 rfl rfl (hm.boxCells (n := 3) rfl)) (nt g28) ?_
  refine Qdm (Qr Qahk rfl) (fun W hm => Qajw W _ x1 (Qhs (x := x1) (hm.rdS0 r14))) (Qcq rfl rfl rfl (bw (nt g28) rfl)) (by decide) ?_
  refine wg Qbr (nt g28) ?_
  refine wv (vpF (nt g28)) ?_
  refine wm ?_
  rcases Bool.eq_false_or_eq_true (Qok x1) with g30 | g30
  ·
   obtain ⟨hu1, hu2, hu3, hu4⟩ := Qakc g30
   refine wg (vf Qaf rfl Qh) (nt g30) ?_
   refine wg (vl 4 1 Qt) (nt g30) ?_
   refine wg (fun W hm => Qdj rfl rfl) (nt g30) ?_
   refine wv (vpF (nt g30)) ?_
   refine nt' ?_
   by_cases h31 : x0.Now = 100000
   ·have g32 := beq_iff_eq.2 h31
    refine Ql rfl g32 ?_
    refine sr ?_
    refine wv (fun W hm => Qz (cs := [.slice A22 x0.Segments.length c23, .int .i64 x0.Now]) Qaf Qae rfl rfl (hm.boxCells (n := 0) rfl)) ?_
    refine sb 0 [.slice A22 x0.Segments.length c23, .int .i64 x0.Now] [Qa p26 42 [.slice A22 x0.Segments.length c23, .int .i64 x0.Now], I29, Qa p18 75 K9, I30] (pk [2, 0, 1, 3, 4]) Qae ?_
    refine wa (nt' (Qj (Qe ?_)))
    have he33 := (show Qdc x0 x1 = (x0, false) from Qb g28 (Qb g30 (Qb g32 (rfl))))
    refine Qdx rfl (Qcp (n := 0) rfl rfl Qaf Qae rfl) (Qcv rfl) (fun W hm => ⟨[.slice A22 x0.Segments.length c23, .int .i64 x0.Now], ?_, ?_⟩)
    ·first | rw [he33] | rfl
     try rfl
    rw [he33]; exact Mem.join (is := [I29]) (js := []) (fun _ _ hs => Qed (x := x0) hs) (hm.pick [2] (by decide))
   have g32 := beq_eq_false_iff_ne.2 h31
   refine Qp rfl g32 ?_
   refine Qq (Qi (sr ?_))
   refine wv (fun W hm => Qz (cs := [.slice A4 x0.Segments.length c5, .int .i64 x0.Now]) Qaf Qae rfl rfl (hm.boxCells (n := 4) rfl)) ?_
   refine wv (vf Qbs rfl Qcc) ?_
   refine wv (fun W hm => Qdy (o := 1) Qde rfl Qh (by decide) rfl rfl) ?_
   refine wv (vl 3 1 Qt) ?_
   refine wcv (Qr Qahl rfl) (fun W hm => Qalc W _ x0 x1.Row.Id (Qeg (x := x0) (hm.rdS0 r7))) ?_
   have hf := Qajq (x := x0) hst x1.Row.Id
   refine wm ?_
   refine wv (fun W hm => Qes rfl rfl) ?_
   refine wv (fun W hm => Qes rfl rfl) ?_
   refine wa (wa (nt' (Qf (sr (wm ?_)))))
   refine wv (fun W hm => Qii rfl rfl) ?_
   refine wv (vf Qbs rfl Qh) ?_
   refine wv (vl 3 0 Qt) ?_
   refine wv (fun W hm => Qdj rfl rfl) ?_
   refine wv (fun W hm => Qaqq underlying4 rfl rfl) ?_
   refine nt' ?_
   rcases Bool.eq_false_or_eq_true ((decide (0 ≤ ((Qaa x0 x1.Row.Id).1))) == (x1.Kind == 1)) with g35 | g35
   ·
    refine Ql rfl g35 ?_
    refine sr ?_
    refine wv (fun W hm => Qz (cs := [.slice A22 x0.Segments.length c23, .int .i64 x0.Now]) Qaf Qae rfl rfl (hm.boxCells (n := 0) rfl)) ?_
    refine sb 0 [.slice A22 x0.Segments.length c23, .int .i64 x0.Now] [Qa p26 42 [.slice A22 x0.Segments.length c23, .int .i64 x0.Now], I29, Qa p18 75 K9, I30] (pk [2, 0, 1, 3, 4]) Qae ?_
    refine wa (nt' (Qj (Qe ?_)))
    have he36 := (show Qdc x0 x1 = (x0, false) from Qb g28 (Qb g30 (Qc g32 (Qb g35 (rfl)))))
    refine Qdx rfl (Qcp (n := 0) rfl rfl Qaf Qae rfl) (Qcv rfl) (fun W hm => ⟨[.slice A22 x0.Segments.length c23, .int .i64 x0.Now], ?_, ?_⟩)
    ·first | rw [he36] | rfl
     try rfl
    rw [he36]; exact Mem.join (is := [I29]) (js := []) (fun _ _ hs => Qed (x := x0) hs) (hm.pick [2] (by decide))
   have hne := Qafm g35
   refine Qp rfl g35 ?_
   refine Qq (Qi (sr ?_))
   refine wv (vf Qaf rfl Qh) ?_
   refine wv (vl 0 1 Qt) ?_
   refine wv Qdq ?_
   refine wv (vf Qaf rfl Qh) ?_
   let K10 : List Value := [.slice A22 x0.Segments.length c23, .int .i64 (IntKind.i64.wrap (x0.Now + 1))]
   refine sb 1 K10 [I29, Qa p19 42 [.slice none 0 0, .int .i64 0], Qa p18 75 K9, I30] (fun W hm => hm) Qh ?_
   refine nt' (sr ?_)
   refine wv (vf Qbs rfl Qcc) ?_
   refine wv (fun W hm => Qdy (o := 2) Qde rfl Qap (by decide) rfl rfl) ?_
   refine wv (vl 3 2 Qv) ?_
   refine wcl (tSl Qg 3) x1.Row.Values (Qr Qia rfl) (fun W hm => Qid W _ x1.Row.Values (hm.rdS0 r14) s_1) (fun z37 => ?_)
   refine Qs (n := 0) rfl ?_
   rintro A38 c39 rfl m40
   refine wa (nt' (Qf (sr (wm ?_))))
   refine wv (fun W hm => Qii rfl rfl) ?_
   refine nt' ?_
   by_cases h42 : 0 ≤ ((Qaa x0 x1.Row.Id).1)
   ·have g43 := decide_eq_true h42
    obtain ⟨hf1, hf2, hf3, hf4, hf5, hf6, hf7⟩ := hf.resolve_left (by omega); clear hf
    refine Ql rfl g43 ?_
    refine Qf ?_
    refine Qod (n := 2) rfl (by omega) ?_
    rintro g44 rfl
    let K11 : List Value := [.slice (some ⟨g44, 0, none⟩) x0.Segments.length c23, .int .i64 (IntKind.i64.wrap (x0.Now + 1))]
    let I31 : It := Qd (tSl Qg 3) [.slice A38 x1.Row.Values.length c39] x1.Row.Values
    refine Qoc (E := (tSl Qm 191)) (e := 131) (A := (some ⟨g44, 0, none⟩)) (n := x0.Segments.length) (c := c23) (xs := x0.Segments) (k := (((Qaa x0 x1.Row.Id).1).toNat)) (js := [I31, Qa p26 42 K11, Qa p19 42 [.slice none 0 0, .int .i64 0], Qa p18 75 K9, I30]) (by omega) (pk [2, 0, 1, 3, 4, 5]) (fun ck45 => ?_)
    refine Qiq (γ := Value) (js := fun g => [Qd (tSl Qm 191) [g] (gt x0.Segments (((Qaa x0 x1.Row.Id).1).toNat))]) (C := fun g => ck45 = [g]) (fun _ _ h => Qhy h) ?_
    rintro v46 rfl
    refine Qel (n := 0) rfl ?_
    rintro A47 c48 rfl m49
    refine Qod (n := 0) rfl (by omega) ?_
    rintro g51 rfl
    let K12 : List Value := [.slice (some ⟨g51, 0, none⟩) (gt x0.Segments (((Qaa x0 x1.Row.Id).1).toNat)).length c48]
    refine rb 11 (s := [Qao (tSl Qm 191) 131 (some ⟨g44, 0, none⟩) x0.Segments.length c23 x0.Segments (((Qaa x0 x1.Row.Id).1).toNat) K12, I31, Qa p26 42 K11, Qa p19 42 [.slice none 0 0, .int .i64 0], Qa p18 75 K9, I30]) (pk [1, 2, 3, 4, 5, 6]) ?_
    refine qt 11 0 1 rfl (vf Qaf rfl Qcu) ?_
    refine qt 11 1 3 rfl (vl 2 0 Qas) ?_
    refine qt 11 2 7 rfl vmv ?_
    refine qt 11 3 15 rfl (fun W hm => Qfg (sz := 1) (k := (Qaa x0 x1.Row.Id).1) Qas Qda rfl rfl rfl (by omega) (by omega)) ?_
    refine qt 11 4 31 rfl (fun W hm => Qaw Qav rfl rfl (hm.focInt (i := 0) rfl rfl)) ?_
    refine qt 11 5 63 rfl vmv ?_
    refine qt 11 6 127 rfl (vf Qaf rfl Qh) ?_
    refine qt 11 7 255 rfl (vl 2 1 Qt) ?_
    refine qt 11 8 511 rfl (fun W hm => Qfg (sz := 4) (k := (Qaa x0 x1.Row.Id).2) Qav Qar rfl rfl rfl (by omega) (by omega)) ?_
    refine qt 11 9 1023 rfl (vf Qbe rfl Qh) ?_
    refine qo 11 10 2047 rfl ?_
    refine Qgk (E := Qm) (e := 191) (A := (some ⟨g51, 0, none⟩)) (n := (gt x0.Segments (((Qaa x0 x1.Row.Id).1).toNat)).length) (c := c48) (xs := (gt x0.Segments (((Qaa x0 x1.Row.Id).1).toNat))) (k := (((Qaa x0 x1.Row.Id).2).toNat)) (js := [Qao (tSl Qm 191) 131 (some ⟨g44, 0, none⟩) x0.Segments.length c23 x0.Segments (((Qaa x0 x1.Row.Id).1).toNat) K12, I31, Qa p26 42 K11, Qa p19 42 [.slice none 0 0, .int .i64 0], Qa p18 75 K9, I30]) (by omega) (fun W hm => hm) (fun ck52 => ?_)
    refine Qmp ?_
    rintro v53 rfl
    refine Qs (n := 0) rfl ?_
    rintro A54 c55 rfl m56
    let K13 : List Value := [.int .i64 ((gt (gt x0.Segments (((Qaa x0 x1.Row.Id).1).toNat)) (((Qaa x0 x1.Row.Id).2).toNat)).Id), .slice A54 ((gt (gt x0.Segments (((Qaa x0 x1.Row.Id).1).toNat)) (((Qaa x0 x1.Row.Id).2).toNat)).Values).length c55, .int .i64 ((gt (gt x0.Segments (((Qaa x0 x1.Row.Id).1).toNat)) (((Qaa x0 x1.Row.Id).2).toNat)).Born), .int .i64 (IntKind.i64.wrap (x0.Now + 1))]
    let K14 : List Value := [.slice A54 ((gt (gt x0.Segments (((Qaa x0 x1.Row.Id).1).toNat)) (((Qaa x0 x1.Row.Id).2).toNat)).Values).length c55]
    let I32 : It := Qd (tSl Qg 3) K14 ((gt (gt x0.Segments (((Qaa x0 x1.Row.Id).1).toNat)) (((Qaa x0 x1.Row.Id).2).toNat)).Values)
    refine sf 3 4 K13 [I32, Qao (tSl Qm 191) 131 (some ⟨g44, 0, none⟩) x0.Segments.length c23 x0.Segments (((Qaa x0 x1.Row.Id).1).toNat) K12, I31, Qa p26 42 K11, Qa p19 42 [.slice none 0 0, .int .i64 0], Qa p18 75 K9, I30] (pk [1, 0, 2, 3, 4, 5, 6, 7]) Qh ?_
    refine qn (pk [2, 3, 4, 5, 6, 7]) ?_
    refine Qef (by kernel_rfl) ?_
    refine Qi (Qad ?_)
    refine wv (vf Qaf rfl Qcu) ?_
    refine wv (vl 7 0 Qas) ?_
    refine wm ?_
    obtain ⟨a58, rfl, hb59, he60⟩ := q6 (by omega)
    refine wv (fun W hm => Qfg (sz := 1) (k := (Qaa x0 x1.Row.Id).1) Qas Qda rfl rfl rfl (by omega) (by omega)) ?_
    obtain ⟨_, e62, hc61⟩ := he60 (((Qaa x0 x1.Row.Id).1).toNat) _ (Qca (show (((Qaa x0 x1.Row.Id).1).toNat) < x0.Segments.length from by omega))
    have l63 : (gt x0.Segments (((Qaa x0 x1.Row.Id).1).toNat)).length ≤ 68719476736 := (s_0.2 _ (Qbh (show (((Qaa x0 x1.Row.Id).1).toNat) < x0.Segments.length from by omega))).1
    obtain ⟨v64, rfl, r65⟩ := e62
    obtain ⟨m66, A67, c68, rfl, q69, r70⟩ := Qk r65
    refine wv (fun W hm => Qaw Qav rfl rfl ((hm.cell0 (show (a58.add ((((Qaa x0 x1.Row.Id).1).toNat) * 1)).block < w.heap.size from by rw [Qah]; exact hb59.1)).trans (hc61 0 _ rfl))) ?_
    refine wm ?_
    obtain ⟨a71, rfl, hb72, he73⟩ := q69 (by omega)
    refine wv (fun W hm => Qfg (sz := 4) (k := (Qaa x0 x1.Row.Id).2) Qav Qar rfl rfl rfl (by omega) (by omega)) ?_
    refine wv (vf Qbe rfl Qap) ?_
    obtain ⟨_, e77, hc74⟩ := he73 (((Qaa x0 x1.Row.Id).2).toNat) _ (Qca (show (((Qaa x0 x1.Row.Id).2).toNat) < ((gt x0.Segments (((Qaa x0 x1.Row.Id).1).toNat))).length from by omega))
    obtain ⟨v75, rfl, r76⟩ := Qfm e77
    have l78 : ((gt (gt x0.Segments (((Qaa x0 x1.Row.Id).1).toNat)) (((Qaa x0 x1.Row.Id).2).toNat)).Values).length ≤ 68719476736 := ((s_0.2 _ (Qbh (show (((Qaa x0 x1.Row.Id).1).toNat) < x0.Segments.length from by omega))).2 _ (Qbh (show (((Qaa x0 x1.Row.Id).2).toNat) < ((gt x0.Segments (((Qaa x0 x1.Row.Id).1).toNat))).length from by omega)))
    obtain ⟨m79, A80, c81, rfl, q82, r83⟩ := Qk r76
    refine wv (fun W hm => Qaw Qv rfl rfl ((hm.cell0 (show ((a71.add ((((Qaa x0 x1.Row.Id).2).toNat) * 4)).add 1).block < w.heap.size from by rw [Qah, Qah]; exact hb72.1)).trans (hc74 1 _ rfl))) ?_
    refine wcl (tSl Qg 3) ((gt (gt x0.Segments (((Qaa x0 x1.Row.Id).1).toNat)) (((Qaa x0 x1.Row.Id).2).toNat)).Values) (Qr Qia rfl) (fun W hm => Qid W _ ((gt (gt x0.Segments (((Qaa x0 x1.Row.Id).1).toNat)) (((Qaa x0 x1.Row.Id).2).toNat)).Values) (hm.rdS0 r83) ((s_0.2 _ (Qbh (show (((Qaa x0 x1.Row.Id).1).toNat) < x0.Segments.length from by omega))).2 _ (Qbh (show (((Qaa x0 x1.Row.Id).2).toNat) < ((gt x0.Segments (((Qaa x0 x1.Row.Id).1).toNat))).length from by omega)))) (fun z84 => ?_)
    refine Qs (n := 0) rfl ?_
    rintro A85 c86 rfl m87
    refine wa (nt' (Qf (sr ?_)))
    refine wv (vf Qbs rfl Qh) ?_
    refine wv (vl 7 0 Qt) ?_
    refine wv (fun W hm => Qdj rfl rfl) ?_
    refine nt' ?_
    by_cases h89 : x1.Kind = 3
    ·have g90 := beq_iff_eq.2 h89
     obtain ⟨hu5, hu6⟩ := hu2 (by assumption)
     refine Ql rfl g90 ?_
     refine Qad (wm ?_)
     refine wv (vf Qbs rfl Qh) ?_
     refine wv (vl 7 3 Qt) ?_
     refine wv (vf Qbs rfl Qh) ?_
     refine wv (vl 7 4 Qt) ?_
     refine Qfj (n := 0) rfl (by omega) ?_
     rintro g91 rfl
     refine wv (fun W hm => Qfg (sz := 1) (k := x1.Field) Qv Qh rfl rfl rfl (by omega) (by omega)) ?_
     let I33 : It := Qa p17 42 [.slice (some a58) x0.Segments.length c5, .int .i64 x0.Now]
     refine Qhh (E := Qg) (e := 3) (u := .int .i64 x1.Value) (k := (x1.Field.toNat)) (p := g91) (n := ((gt (gt x0.Segments (((Qaa x0 x1.Row.Id).1).toNat)) (((Qaa x0 x1.Row.Id).2).toNat)).Values).length) (xs := ((gt (gt x0.Segments (((Qaa x0 x1.Row.Id).1).toNat)) (((Qaa x0 x1.Row.Id).2).toNat)).Values)) (eis := []) (js := [Qao Qm 191 (some ⟨g51, 0, none⟩) ((gt x0.Segments (((Qaa x0 x1.Row.Id).1).toNat)).length) c48 (gt x0.Segments (((Qaa x0 x1.Row.Id).1).toNat)) (((Qaa x0 x1.Row.Id).2).toNat) K13, I32, Qao (tSl Qm 191) 131 (some ⟨g44, 0, none⟩) x0.Segments.length c23 x0.Segments (((Qaa x0 x1.Row.Id).1).toNat) K12, I31, Qa p26 42 K11, Qa p19 42 [.slice none 0 0, .int .i64 0], Qa p18 75 K9, I33]) (yv := x1.Value) (fun W hm => hm) (fun _ _ hs => (Sep.nil hs ▸ Qcy)) rfl Qh rfl (by omega) rfl rfl (Qo rfl) ?_
     refine nt' (Qf (sr ?_))
     refine wv (vf Qbs rfl Qh) ?_
     refine wv (vl 7 0 Qt) ?_
     refine wv (fun W hm => Qdj rfl rfl) ?_
     refine nt' ?_
     by_cases h92 : x1.Kind = 2
     ·have g93 := beq_iff_eq.2 h92
      refine Ql rfl g93 ?_
      refine Qf ?_
      refine Qdf (pk [1, 2, 3, 5, 6]) ?_
      refine Qad ?_
      refine wv (fun W hm => Qz (cs := K11) Qaf Qae rfl rfl (hm.boxCells (n := 3) rfl)) ?_
      refine sb 0 K11 [Qao Qm 191 (some ⟨g51, 0, none⟩) ((gt x0.Segments (((Qaa x0 x1.Row.Id).1).toNat)).length) c48 (gt x0.Segments (((Qaa x0 x1.Row.Id).1).toNat)) (((Qaa x0 x1.Row.Id).2).toNat) K13, I32, Qao (tSl Qm 191) 131 (some ⟨g44, 0, none⟩) x0.Segments.length c23 x0.Segments (((Qaa x0 x1.Row.Id).1).toNat) K12, Qa p26 42 K11] (pk [4, 0, 1, 2, 3]) Qae ?_
      refine wa (nt' (Qj (Qe ?_)))
      refine Qdu (fun W hm => Mem.unfocus (Mem.join (is := [I32]) (js := (Qao Qm 191 (some ⟨g51, 0, none⟩) ((gt x0.Segments (((Qaa x0 x1.Row.Id).1).toNat)).length) c48 (gt x0.Segments (((Qaa x0 x1.Row.Id).1).toNat)) (((Qaa x0 x1.Row.Id).2).toNat) K13 :: [Qa p19 42 K11, Qao (tSl Qm 191) 131 (some ⟨g44, 0, none⟩) x0.Segments.length c23 x0.Segments (((Qaa x0 x1.Row.Id).1).toNat) K12, Qa p26 42 K11])) (fun _ _ hs => Qfs (x := (⟨(gt (gt x0.Segments (((Qaa x0 x1.Row.Id).1).toNat)) (((Qaa x0 x1.Row.Id).2).toNat)).Id, (gt (gt x0.Segments (((Qaa x0 x1.Row.Id).1).toNat)) (((Qaa x0 x1.Row.Id).2).toNat)).Values, (gt (gt x0.Segments (((Qaa x0 x1.Row.Id).1).toNat)) (((Qaa x0 x1.Row.Id).2).toNat)).Born, (IntKind.i64.wrap (x0.Now + 1))⟩ : Qn)) hs) (hm.pick [2, 1, 0, 3, 4] (by decide)))) ?_
      refine Qdu (fun W hm => Mem.unfocus (Mem.join (is := [Qd (tSl Qm 191) K12 (Qcx x0 x1)]) (js := (Qao (tSl Qm 191) 131 (some ⟨g44, 0, none⟩) x0.Segments.length c23 x0.Segments (((Qaa x0 x1.Row.Id).1).toNat) K12 :: [Qa p19 42 K11, Qa p26 42 K11])) (fun _ _ hs => Sep.one hs) (hm.pick [0, 2, 1, 3] (by decide)))) ?_
      have he94 := (show Qdc x0 x1 = ((⟨(x0.Segments.set (((Qaa x0 x1.Row.Id).1).toNat) (Qcx x0 x1)), (IntKind.i64.wrap (x0.Now + 1))⟩ : Qx), true) from Qb g28 (Qb g30 (Qc g32 (Qc g35 (Qb g43 (Qb g90 (Qb g93 (rfl))))))))
      refine Qdx rfl (Qcp (n := 1) rfl rfl Qaf Qae rfl) (Qcv rfl) (fun W hm => ⟨K11, ?_, ?_⟩)
      ·first | rw [he94] | rfl
       try rfl
      rw [he94]; exact Mem.join (is := [Qd (tSl (tSl Qm 191) 131) [.slice (some ⟨g44, 0, none⟩) x0.Segments.length c23] (x0.Segments.set (((Qaa x0 x1.Row.Id).1).toNat) (Qcx x0 x1))]) (js := []) (fun _ _ hs => Qed (x := (⟨(x0.Segments.set (((Qaa x0 x1.Row.Id).1).toNat) (Qcx x0 x1)), (IntKind.i64.wrap (x0.Now + 1))⟩ : Qx)) hs) (hm.pick [0] (by decide))
     have g93 := beq_eq_false_iff_ne.2 h92
     refine Qp rfl g93 ?_
     refine Qq (Qi (Qf (sr ?_)))
     refine wv (vf Qaf rfl Qcu) ?_
     refine wv (vl 5 0 Qas) ?_
     refine wv (Qai Qas) ?_
     refine wm (nt' (Qab ?_))
     let K15 : List Value := [.slice (some ⟨g91, 0, none⟩) ((gt (gt x0.Segments (((Qaa x0 x1.Row.Id).1).toNat)) (((Qaa x0 x1.Row.Id).2).toNat)).Values).length c86]
     let I34 : It := Qd (tSl Qg 3) K15 (((gt (gt x0.Segments (((Qaa x0 x1.Row.Id).1).toNat)) (((Qaa x0 x1.Row.Id).2).toNat)).Values).set (x1.Field.toNat) x1.Value)
     refine Qdf (fun W hm => Mem.unfocus (Mem.join (is := [I32]) (js := (Qao Qm 191 (some ⟨g51, 0, none⟩) ((gt x0.Segments (((Qaa x0 x1.Row.Id).1).toNat)).length) c48 (gt x0.Segments (((Qaa x0 x1.Row.Id).1).toNat)) (((Qaa x0 x1.Row.Id).2).toNat) K13 :: [I34, Qao (tSl Qm 191) 131 (some ⟨g44, 0, none⟩) x0.Segments.length c23 x0.Segments (((Qaa x0 x1.Row.Id).1).toNat) K12, I31, Qa p26 42 K11, Qa p19 42 [.slice none 0 0, .int .i64 0], Qa p18 75 K9, I33])) (fun _ _ hs => Qfs (x := (⟨(gt (gt x0.Segments (((Qaa x0 x1.Row.Id).1).toNat)) (((Qaa x0 x1.Row.Id).2).toNat)).Id, (gt (gt x0.Segments (((Qaa x0 x1.Row.Id).1).toNat)) (((Qaa x0 x1.Row.Id).2).toNat)).Values, (gt (gt x0.Segments (((Qaa x0 x1.Row.Id).1).toNat)) (((Qaa x0 x1.Row.Id).2).toNat)).Born, (IntKind.i64.wrap (x0.Now + 1))⟩ : Qn)) hs) (hm.pick [2, 1, 0, 3, 4, 5, 6, 7, 8] (by decide)))) ?_
     refine Qdf (fun W hm => Mem.unfocus (Mem.join (is := [Qd (tSl Qm 191) K12 (Qcx x0 x1)]) (js := (Qao (tSl Qm 191) 131 (some ⟨g44, 0, none⟩) x0.Segments.length c23 x0.Segments (((Qaa x0 x1.Row.Id).1).toNat) K12 :: [I34, I31, Qa p26 42 K11, Qa p19 42 [.slice none 0 0, .int .i64 0], Qa p18 75 K9, I33])) (fun _ _ hs => Sep.one hs) (hm.pick [0, 2, 1, 3, 4, 5, 6, 7] (by decide)))) ?_
     let F1 := fun k (_ : Unit) => Qtq x0 x1 k
     let R5 := rng (R := (Qx × Bool)) F1
     let I35 : It := Qd (tSl (tSl Qm 191) 131) [.slice (some ⟨g44, 0, none⟩) x0.Segments.length c23] (x0.Segments.set (((Qaa x0 x1.Row.Id).1).toNat) (Qcx x0 x1))
     refine Qbl (σ := Nat × (Unit) × (Unit)) (fun s => [(2, .pointer (some (⟨p17, 0, none⟩ : Addr))), (3, .pointer (some (⟨p18, 0, none⟩ : Addr))), (4, .pointer (some (⟨p19, 0, none⟩ : Addr))), (6, .pointer (some (⟨p26, 0, none⟩ : Addr))), (9, .slice (some ⟨g91, 0, none⟩) ((gt (gt x0.Segments (((Qaa x0 x1.Row.Id).1).toNat)) (((Qaa x0 x1.Row.Id).2).toNat)).Values).length c86), (87, .slice (some ⟨g44, 0, none⟩) x0.Segments.length c23), (88, .int .i64 ((x0.Segments.length : Nat) : Int)), (89, .int .i64 ((s.1 : Nat) : Int))]) (fun s => [I35, I34, I31, Qa p26 42 K11, Qa p19 42 [.slice none 0 0, .int .i64 0], Qa p18 75 K9, I33]) (fun s => s.1 ≤ x0.Segments.length ∧ R5 (x0.Segments.length - s.1) s.1 s.2.1 = R5 (x0.Segments.length - 0) 0 ()) (fun s => x0.Segments.length - s.1) (0, (), ()) sl8 (fun W hm => hm) ⟨(by omega), rfl⟩ ?_
     rintro ⟨k95, ⟨⟩, ⟨⟩⟩ H98
     obtain ⟨hk96, hF97⟩ : k95 ≤ x0.Segments.length ∧ R5 (x0.Segments.length - k95) k95 () = R5 (x0.Segments.length - 0) 0 () := H98
     show CM Tryz.prog 115 _ _ _ _ [(2, .pointer (some (⟨p17, 0, none⟩ : Addr))), (3, .pointer (some (⟨p18, 0, none⟩ : Addr))), (4, .pointer (some (⟨p19, 0, none⟩ : Addr))), (6, .pointer (some (⟨p26, 0, none⟩ : Addr))), (9, .slice (some ⟨g91, 0, none⟩) ((gt (gt x0.Segments (((Qaa x0 x1.Row.Id).1).toNat)) (((Qaa x0 x1.Row.Id).2).toNat)).Values).length c86), (87, .slice (some ⟨g44, 0, none⟩) x0.Segments.length c23), (88, .int .i64 ((x0.Segments.length : Nat) : Int)), (89, .int .i64 ((k95 : Nat) : Int))] [I35, I34, I31, Qa p26 42 K11, Qa p19 42 [.slice none 0 0, .int .i64 0], Qa p18 75 K9, I33]
     refine sr ?_
     refine wv Qak ?_
     refine nt' (Qf ?_)
     by_cases hl99 : k95 < x0.Segments.length
     ·have g100 := dlT hl99
      refine Ql rfl g100 ?_
      refine Qq (Qi (Qf (Qab (sr (wm ?_)))))
      refine wv (vix 1 k95 Qas Qda) ?_
      refine Qgk (E := (tSl Qm 191)) (e := 131) (A := (some ⟨g44, 0, none⟩)) (n := x0.Segments.length) (c := c23) (xs := (x0.Segments.set (((Qaa x0 x1.Row.Id).1).toNat) (Qcx x0 x1))) (k := k95) (js := [I34, I31, Qa p26 42 K11, Qa p19 42 [.slice none 0 0, .int .i64 0], Qa p18 75 K9, I33]) (by omega) (fun W hm => hm) (fun ck101 => ?_)
      refine Qgp (γ := Value) (js := fun g => [Qd (tSl Qm 191) [g] (gt (x0.Segments.set (((Qaa x0 x1.Row.Id).1).toNat) (Qcx x0 x1)) k95)]) (C := fun g => ck101 = [g]) (fun _ _ h => Qhy h) ?_
      rintro v102 rfl
      refine Qs (n := 0) rfl ?_
      rintro A103 c104 rfl m105
      refine wv (fun W hm => Qaw Qav rfl rfl (hm.focInt (i := 1) rfl rfl)) ?_
      refine wa (wa (nt' (sr (wm ?_))))
      refine wv (Qai Qav) ?_
      refine wv Qak ?_
      refine nt' ?_
      by_cases h107 : (((gt (x0.Segments.set (((Qaa x0 x1.Row.Id).1).toNat) (Qcx x0 x1)) k95).length : Nat) : Int) < 4
      ·have g108 := decide_eq_true h107
       refine Ql rfl g108 ?_
       refine Qf ?_
       let K16 : List Value := [.slice A103 (gt (x0.Segments.set (((Qaa x0 x1.Row.Id).1).toNat) (Qcx x0 x1)) k95).length c104]
       refine rd2 15 [14] (s := [I31, Qa p26 42 K11, Qa p19 42 [.slice none 0 0, .int .i64 0], Qa p18 75 K9, I33]) (s2 := [Qao (tSl Qm 191) 131 (some ⟨g44, 0, none⟩) x0.Segments.length c23 (x0.Segments.set (((Qaa x0 x1.Row.Id).1).toNat) (Qcx x0 x1)) k95 K16, I31, Qa p26 42 K11, Qa p19 42 [.slice none 0 0, .int .i64 0], Qa p18 75 K9, I33]) (pk [3, 4, 5, 6, 7]) (pk [1, 3, 4, 5, 6, 7]) ?_
       refine qtD 15 0 1 rfl (vf Qaf rfl Qcu) ?_
       refine qtD 15 1 3 rfl (vl 2 0 Qas) ?_
       refine qtD 15 2 7 rfl vmv ?_
       refine qtD 15 3 15 rfl vmv ?_
       refine qtD 15 4 31 rfl (vf Qbs rfl Qcc) ?_
       refine qtD 15 5 63 rfl (fun W hm => Qdy (o := 1) Qde rfl Qh (by decide) rfl rfl) ?_
       refine qtD 15 6 127 rfl (vl 4 1 Qt) ?_
       refine qtD 15 7 255 rfl vmv ?_
       refine qtD 15 8 511 rfl (vf Qaf rfl Qh) ?_
       refine qtD 15 9 1023 rfl (vl 2 1 Qt) ?_
       let K17 : List Value := [.int .i64 x1.Row.Id, .slice (some ⟨g91, 0, none⟩) ((gt (gt x0.Segments (((Qaa x0 x1.Row.Id).1).toNat)) (((Qaa x0 x1.Row.Id).2).toNat)).Values).length c86, .int .i64 (IntKind.i64.wrap (x0.Now + 1)), .int .i64 (-1)]
       refine qtD 15 10 2047 rfl (fun W hm => Qeq (cs := K17) rfl (by kernel_rfl)) ?_
       refine qoD 15 11 4095 rfl ?_
       refine Qfb (cs := K17) Qav Qar rfl (by decide) (by decide) rfl (by kernel_rfl) (Qo rfl) (by decide) (fun p109 => ?_)
       refine qnD (pk [4, 5, 6, 7, 8]) (pk [2, 4, 5, 6, 7, 8]) ?_
       refine qoD 15 12 8191 rfl ?_
       refine ap1 Qm 191 (.slice A103 (gt (x0.Segments.set (((Qaa x0 x1.Row.Id).1).toNat) (Qcx x0 x1)) k95).length c104) (gt (x0.Segments.set (((Qaa x0 x1.Row.Id).1).toNat) (Qcx x0 x1)) k95) (⟨x1.Row.Id, (((gt (gt x0.Segments (((Qaa x0 x1.Row.Id).1).toNat)) (((Qaa x0 x1.Row.Id).2).toNat)).Values).set (x1.Field.toNat) x1.Value), (IntKind.i64.wrap (x0.Now + 1)), (-1)⟩ : Qn) [I34] [Qao (tSl Qm 191) 131 (some ⟨g44, 0, none⟩) x0.Segments.length c23 (x0.Segments.set (((Qaa x0 x1.Row.Id).1).toNat) (Qcx x0 x1)) k95 K16, I31, Qa p26 42 K11, Qa p19 42 [.slice none 0 0, .int .i64 0], Qa p18 75 K9, I33] K17 (pk [0, 1, 3, 2, 4, 5, 6, 7, 8]) (fun _ _ hs => Els.single (Qfs (x := (⟨x1.Row.Id, (((gt (gt x0.Segments (((Qaa x0 x1.Row.Id).1).toNat)) (((Qaa x0 x1.Row.Id).2).toNat)).Values).set (x1.Field.toNat) x1.Value), (IntKind.i64.wrap (x0.Now + 1)), (-1)⟩ : Qn)) hs)) Qav Qar (show ((gt (x0.Segments.set (((Qaa x0 x1.Row.Id).1).toNat) (Qcx x0 x1)) k95).length + 1) * 48 ≤ 140737488355328 from by first | omega | (have hx := Qkm (xs := x0.Segments) (i := (Qaa x0 x1.Row.Id).1.toNat) (y := Qcx x0 x1) List.length_set k95; omega)) (fun v110 => ?_)
       refine Qs (n := 0) rfl ?_
       rintro A111 c112 rfl m113
       refine qnD (pk [2, 3, 4, 5, 6]) (pk [1, 2, 3, 4, 5, 6]) ?_
       refine qtD 15 13 16383 rfl (vix 1 k95 Qas Qda) ?_
       refine qoD 15 14 32767 rfl ?_
       let I36 : It := Qd (tSl Qm 191) [.slice A111 (Qkn x0 x1 k95).length c112] (Qkn x0 x1 k95)
       refine sf 0 1 [.slice A111 (Qkn x0 x1 k95).length c112] [I36, I31, Qa p26 42 K11, Qa p19 42 [.slice none 0 0, .int .i64 0], Qa p18 75 K9, I33] (pk [1, 0, 2, 3, 4, 5, 6]) Qda ?_
       refine qxD (pk [2, 3, 4, 5, 6]) ?_
       refine Qef (by kernel_rfl) ?_
       refine Qi (sr ?_)
       refine wv (fun W hm => Qz (cs := K11) Qaf Qae rfl rfl (hm.boxCells (n := 3) rfl)) ?_
       refine sb 0 K11 [Qao (tSl Qm 191) 131 (some ⟨g44, 0, none⟩) x0.Segments.length c23 (x0.Segments.set (((Qaa x0 x1.Row.Id).1).toNat) (Qcx x0 x1)) k95 [.slice A111 (Qkn x0 x1 k95).length c112], I36, I31, Qa p26 42 K11, Qa p18 75 K9, I33] (pk [4, 0, 1, 2, 3, 5, 6]) Qae ?_
       refine wa (nt' (Qj (Qy (Qe (Qe (Qy (Qe ?_)))))))
       refine Qdu (fun W hm => Mem.unfocus (Mem.join (is := [I36]) (js := (Qao (tSl Qm 191) 131 (some ⟨g44, 0, none⟩) x0.Segments.length c23 (x0.Segments.set (((Qaa x0 x1.Row.Id).1).toNat) (Qcx x0 x1)) k95 [.slice A111 (Qkn x0 x1 k95).length c112] :: [Qa p19 42 K11, I31, Qa p26 42 K11, Qa p18 75 K9, I33])) (fun _ _ hs => Sep.one hs) (hm.pick [2, 1, 0, 3, 4, 5, 6] (by decide)))) ?_
       have he115 := (show Qdc x0 x1 = ((⟨((x0.Segments.set (((Qaa x0 x1.Row.Id).1).toNat) (Qcx x0 x1)).set k95 (Qkn x0 x1 k95)), (IntKind.i64.wrap (x0.Now + 1))⟩ : Qx), true) from Qb g28 (Qb g30 (Qc g32 (Qc g35 (Qb g43 (Qb g90 (Qc g93 (Qba (Qbc (body := F1) (k := k95) (s := ()) (show k95 < x0.Segments.length from by omega) (Qb g108 (rfl)) hF97) rfl))))))))
       refine Qdx rfl (Qcp (n := 1) rfl rfl Qaf Qae rfl) (Qcv rfl) (fun W hm => ⟨K11, ?_, ?_⟩)
       ·first | rw [he115] | rfl
        try rfl
       rw [he115]; exact Mem.join (is := [Qd (tSl (tSl Qm 191) 131) [.slice (some ⟨g44, 0, none⟩) x0.Segments.length c23] ((x0.Segments.set (((Qaa x0 x1.Row.Id).1).toNat) (Qcx x0 x1)).set k95 (Qkn x0 x1 k95))]) (js := []) (fun _ _ hs => Qed (x := (⟨((x0.Segments.set (((Qaa x0 x1.Row.Id).1).toNat) (Qcx x0 x1)).set k95 (Qkn x0 x1 k95)), (IntKind.i64.wrap (x0.Now + 1))⟩ : Qx)) hs) (hm.pick [0] (by decide))
      have g108 := decide_eq_false h107
      refine Qp rfl g108 ?_
      refine Qq (Qax (Qi (Qad ?_)))
      refine wv (Qbd k95 1 (by omega)) ?_
      refine wm (Qal ?_)
      let K18 : List Value := [.slice A103 (gt (x0.Segments.set (((Qaa x0 x1.Row.Id).1).toNat) (Qcx x0 x1)) k95).length c104]
      refine Qdu (fun W hm => Mem.unfocus0 (Mem.join (is := [Qd (tSl Qm 191) K18 (gt (x0.Segments.set (((Qaa x0 x1.Row.Id).1).toNat) (Qcx x0 x1)) k95)]) (js := (Qao (tSl Qm 191) 131 (some ⟨g44, 0, none⟩) x0.Segments.length c23 (x0.Segments.set (((Qaa x0 x1.Row.Id).1).toNat) (Qcx x0 x1)) k95 K18 :: [I34, I31, Qa p26 42 K11, Qa p19 42 [.slice none 0 0, .int .i64 0], Qa p18 75 K9, I33])) (fun _ _ hs => Sep.one hs) hm)) ?_
      have hn116 := Qbb (R := (Qx × Bool)) (body := F1) (k := k95) (s := ()) (s' := ()) (show k95 < x0.Segments.length from by omega) (Qc g108 (rfl)) hF97
      exact Qaz (k95 + 1, (), ()) sl8 (fun W hm => hm) ⟨(by omega), hn116⟩ (rl (by omega))
     have g100 := dlF hl99
     refine Qp rfl g100 ?_
     refine Qbk (Qac (Qac ?_))
     have hE117 : R5 (x0.Segments.length - 0) 0 () = Sum.inr () := Qbn hl99 hF97
     refine Qbm (Qi (Qf ?_))
     refine Qdf (pk [4, 6]) ?_
     refine Qad ?_
     refine wv (fun W hm => Qz (cs := [.slice (some a58) x0.Segments.length c5, .int .i64 x0.Now]) Qaf Qae rfl rfl (hm.boxCells (n := 1) rfl)) ?_
     refine wcs Qcz x0 (Qr Qlk rfl) (fun W hm => Qls W _ x0 (Qeg (x := x0) (hm.rdS0 r7)) s_0) (fun z118 => ?_)
     refine Qgd ?_
     rintro v119 rfl
     refine Qs (n := 0) rfl ?_
     rintro A120 c121 rfl m122
     let I37 : It := Qd (tSl (tSl Qm 191) 131) [.slice A120 x0.Segments.length c121] x0.Segments
     refine sb 0 [.slice A120 x0.Segments.length c121, .int .i64 x0.Now] [I37, I33] (pk [1, 0, 2]) Qae ?_
     refine wa (nt' (Qj ?_))
     have he124 := (show Qdc x0 x1 = (x0, false) from Qb g28 (Qb g30 (Qc g32 (Qc g35 (Qb g43 (Qb g90 (Qc g93 (Qat hE117 (rfl)))))))))
     refine Qdx rfl (Qcp (n := 0) rfl rfl Qaf Qae rfl) (Qcv rfl) (fun W hm => ⟨[.slice A120 x0.Segments.length c121, .int .i64 x0.Now], ?_, ?_⟩)
     ·first | rw [he124] | rfl
      try rfl
     rw [he124]; exact Mem.join (is := [I37]) (js := []) (fun _ _ hs => Qed (x := x0) hs) (hm.pick [1] (by decide))
    have g90 := beq_eq_false_iff_ne.2 h89
    refine Qp rfl g90 ?_
    refine Qq (Qi (Qf (sr ?_)))
    refine wv (vf Qbs rfl Qh) ?_
    refine wv (vl 7 0 Qt) ?_
    refine wv (fun W hm => Qdj rfl rfl) ?_
    refine nt' ?_
    by_cases h125 : x1.Kind = 2
    ·have g126 := beq_iff_eq.2 h125
     refine Ql rfl g126 ?_
     refine Qf ?_
     refine Qdf (pk [1, 2, 3, 5, 6]) ?_
     refine Qad ?_
     refine wv (fun W hm => Qz (cs := K11) Qaf Qae rfl rfl (hm.boxCells (n := 3) rfl)) ?_
     refine sb 0 K11 [Qao Qm 191 (some ⟨g51, 0, none⟩) ((gt x0.Segments (((Qaa x0 x1.Row.Id).1).toNat)).length) c48 (gt x0.Segments (((Qaa x0 x1.Row.Id).1).toNat)) (((Qaa x0 x1.Row.Id).2).toNat) K13, I32, Qao (tSl Qm 191) 131 (some ⟨g44, 0, none⟩) x0.Segments.length c23 x0.Segments (((Qaa x0 x1.Row.Id).1).toNat) K12, Qa p26 42 K11] (pk [4, 0, 1, 2, 3]) Qae ?_
     refine wa (nt' (Qj (Qe ?_)))
     refine Qdu (fun W hm => Mem.unfocus (Mem.join (is := [I32]) (js := (Qao Qm 191 (some ⟨g51, 0, none⟩) ((gt x0.Segments (((Qaa x0 x1.Row.Id).1).toNat)).length) c48 (gt x0.Segments (((Qaa x0 x1.Row.Id).1).toNat)) (((Qaa x0 x1.Row.Id).2).toNat) K13 :: [Qa p19 42 K11, Qao (tSl Qm 191) 131 (some ⟨g44, 0, none⟩) x0.Segments.length c23 x0.Segments (((Qaa x0 x1.Row.Id).1).toNat) K12, Qa p26 42 K11])) (fun _ _ hs => Qfs (x := (⟨(gt (gt x0.Segments (((Qaa x0 x1.Row.Id).1).toNat)) (((Qaa x0 x1.Row.Id).2).toNat)).Id, (gt (gt x0.Segments (((Qaa x0 x1.Row.Id).1).toNat)) (((Qaa x0 x1.Row.Id).2).toNat)).Values, (gt (gt x0.Segments (((Qaa x0 x1.Row.Id).1).toNat)) (((Qaa x0 x1.Row.Id).2).toNat)).Born, (IntKind.i64.wrap (x0.Now + 1))⟩ : Qn)) hs) (hm.pick [2, 1, 0, 3, 4] (by decide)))) ?_
     refine Qdu (fun W hm => Mem.unfocus (Mem.join (is := [Qd (tSl Qm 191) K12 (Qcx x0 x1)]) (js := (Qao (tSl Qm 191) 131 (some ⟨g44, 0, none⟩) x0.Segments.length c23 x0.Segments (((Qaa x0 x1.Row.Id).1).toNat) K12 :: [Qa p19 42 K11, Qa p26 42 K11])) (fun _ _ hs => Sep.one hs) (hm.pick [0, 2, 1, 3] (by decide)))) ?_
     have he127 := (show Qdc x0 x1 = ((⟨(x0.Segments.set (((Qaa x0 x1.Row.Id).1).toNat) (Qcx x0 x1)), (IntKind.i64.wrap (x0.Now + 1))⟩ : Qx), true) from Qb g28 (Qb g30 (Qc g32 (Qc g35 (Qb g43 (Qc g90 (Qb g126 (rfl))))))))
     refine Qdx rfl (Qcp (n := 1) rfl rfl Qaf Qae rfl) (Qcv rfl) (fun W hm => ⟨K11, ?_, ?_⟩)
     ·first | rw [he127] | rfl
      try rfl
     rw [he127]; exact Mem.join (is := [Qd (tSl (tSl Qm 191) 131) [.slice (some ⟨g44, 0, none⟩) x0.Segments.length c23] (x0.Segments.set (((Qaa x0 x1.Row.Id).1).toNat) (Qcx x0 x1))]) (js := []) (fun _ _ hs => Qed (x := (⟨(x0.Segments.set (((Qaa x0 x1.Row.Id).1).toNat) (Qcx x0 x1)), (IntKind.i64.wrap (x0.Now + 1))⟩ : Qx)) hs) (hm.pick [0] (by decide))
    have g126 := beq_eq_false_iff_ne.2 h125
    refine Qp rfl g126 ?_
    refine Qq (Qi (Qf (sr ?_)))
    refine wv (vf Qaf rfl Qcu) ?_
    refine wv (vl 5 0 Qas) ?_
    refine wv (Qai Qas) ?_
    refine wm (nt' (Qab ?_))
    let K19 : List Value := [.slice A85 ((gt (gt x0.Segments (((Qaa x0 x1.Row.Id).1).toNat)) (((Qaa x0 x1.Row.Id).2).toNat)).Values).length c86]
    let I38 : It := Qd (tSl Qg 3) K19 ((gt (gt x0.Segments (((Qaa x0 x1.Row.Id).1).toNat)) (((Qaa x0 x1.Row.Id).2).toNat)).Values)
    let I39 : It := Qa p17 42 [.slice (some a58) x0.Segments.length c5, .int .i64 x0.Now]
    refine Qdf (fun W hm => Mem.unfocus (Mem.join (is := [I32]) (js := (Qao Qm 191 (some ⟨g51, 0, none⟩) ((gt x0.Segments (((Qaa x0 x1.Row.Id).1).toNat)).length) c48 (gt x0.Segments (((Qaa x0 x1.Row.Id).1).toNat)) (((Qaa x0 x1.Row.Id).2).toNat) K13 :: [I38, Qao (tSl Qm 191) 131 (some ⟨g44, 0, none⟩) x0.Segments.length c23 x0.Segments (((Qaa x0 x1.Row.Id).1).toNat) K12, I31, Qa p26 42 K11, Qa p19 42 [.slice none 0 0, .int .i64 0], Qa p18 75 K9, I39])) (fun _ _ hs => Qfs (x := (⟨(gt (gt x0.Segments (((Qaa x0 x1.Row.Id).1).toNat)) (((Qaa x0 x1.Row.Id).2).toNat)).Id, (gt (gt x0.Segments (((Qaa x0 x1.Row.Id).1).toNat)) (((Qaa x0 x1.Row.Id).2).toNat)).Values, (gt (gt x0.Segments (((Qaa x0 x1.Row.Id).1).toNat)) (((Qaa x0 x1.Row.Id).2).toNat)).Born, (IntKind.i64.wrap (x0.Now + 1))⟩ : Qn)) hs) (hm.pick [2, 1, 0, 3, 4, 5, 6, 7, 8] (by decide)))) ?_
    refine Qdf (fun W hm => Mem.unfocus (Mem.join (is := [Qd (tSl Qm 191) K12 (Qcx x0 x1)]) (js := (Qao (tSl Qm 191) 131 (some ⟨g44, 0, none⟩) x0.Segments.length c23 x0.Segments (((Qaa x0 x1.Row.Id).1).toNat) K12 :: [I38, I31, Qa p26 42 K11, Qa p19 42 [.slice none 0 0, .int .i64 0], Qa p18 75 K9, I39])) (fun _ _ hs => Sep.one hs) (hm.pick [0, 2, 1, 3, 4, 5, 6, 7] (by decide)))) ?_
    let F2 := fun k (_ : Unit) => Qzq x0 x1 k
    let R6 := rng (R := (Qx × Bool)) F2
    let I40 : It := Qd (tSl (tSl Qm 191) 131) [.slice (some ⟨g44, 0, none⟩) x0.Segments.length c23] (x0.Segments.set (((Qaa x0 x1.Row.Id).1).toNat) (Qcx x0 x1))
    refine Qbl (σ := Nat × (Unit) × (Unit)) (fun s => [(2, .pointer (some (⟨p17, 0, none⟩ : Addr))), (3, .pointer (some (⟨p18, 0, none⟩ : Addr))), (4, .pointer (some (⟨p19, 0, none⟩ : Addr))), (6, .pointer (some (⟨p26, 0, none⟩ : Addr))), (9, .slice A85 ((gt (gt x0.Segments (((Qaa x0 x1.Row.Id).1).toNat)) (((Qaa x0 x1.Row.Id).2).toNat)).Values).length c86), (87, .slice (some ⟨g44, 0, none⟩) x0.Segments.length c23), (88, .int .i64 ((x0.Segments.length : Nat) : Int)), (89, .int .i64 ((s.1 : Nat) : Int))]) (fun s => [I40, I38, I31, Qa p26 42 K11, Qa p19 42 [.slice none 0 0, .int .i64 0], Qa p18 75 K9, I39]) (fun s => s.1 ≤ x0.Segments.length ∧ R6 (x0.Segments.length - s.1) s.1 s.2.1 = R6 (x0.Segments.length - 0) 0 ()) (fun s => x0.Segments.length - s.1) (0, (), ()) sl8 (fun W hm => hm) ⟨(by omega), rfl⟩ ?_
    rintro ⟨k128, ⟨⟩, ⟨⟩⟩ H131
    obtain ⟨hk129, hF130⟩ : k128 ≤ x0.Segments.length ∧ R6 (x0.Segments.length - k128) k128 () = R6 (x0.Segments.length - 0) 0 () := H131
    show CM Tryz.prog 115 _ _ _ _ [(2, .pointer (some (⟨p17, 0, none⟩ : Addr))), (3, .pointer (some (⟨p18, 0, none⟩ : Addr))), (4, .pointer (some (⟨p19, 0, none⟩ : Addr))), (6, .pointer (some (⟨p26, 0, none⟩ : Addr))), (9, .slice A85 ((gt (gt x0.Segments (((Qaa x0 x1.Row.Id).1).toNat)) (((Qaa x0 x1.Row.Id).2).toNat)).Values).length c86), (87, .slice (some ⟨g44, 0, none⟩) x0.Segments.length c23), (88, .int .i64 ((x0.Segments.length : Nat) : Int)), (89, .int .i64 ((k128 : Nat) : Int))] [I40, I38, I31, Qa p26 42 K11, Qa p19 42 [.slice none 0 0, .int .i64 0], Qa p18 75 K9, I39]
    refine sr ?_
    refine wv Qak ?_
    refine nt' (Qf ?_)
    by_cases hl132 : k128 < x0.Segments.length
    ·have g133 := dlT hl132
     refine Ql rfl g133 ?_
     refine Qq (Qi (Qf (Qab (sr (wm ?_)))))
     refine wv (vix 1 k128 Qas Qda) ?_
     refine Qgk (E := (tSl Qm 191)) (e := 131) (A := (some ⟨g44, 0, none⟩)) (n := x0.Segments.length) (c := c23) (xs := (x0.Segments.set (((Qaa x0 x1.Row.Id).1).toNat) (Qcx x0 x1))) (k := k128) (js := [I38, I31, Qa p26 42 K11, Qa p19 42 [.slice none 0 0, .int .i64 0], Qa p18 75 K9, I39]) (by omega) (fun W hm => hm) (fun ck134 => ?_)
     refine Qgp (γ := Value) (js := fun g => [Qd (tSl Qm 191) [g] (gt (x0.Segments.set (((Qaa x0 x1.Row.Id).1).toNat) (Qcx x0 x1)) k128)]) (C := fun g => ck134 = [g]) (fun _ _ h => Qhy h) ?_
     rintro v135 rfl
     refine Qs (n := 0) rfl ?_
     rintro A136 c137 rfl m138
     refine wv (fun W hm => Qaw Qav rfl rfl (hm.focInt (i := 1) rfl rfl)) ?_
     refine wa (wa (nt' (sr (wm ?_))))
     refine wv (Qai Qav) ?_
     refine wv Qak ?_
     refine nt' ?_
     by_cases h140 : (((gt (x0.Segments.set (((Qaa x0 x1.Row.Id).1).toNat) (Qcx x0 x1)) k128).length : Nat) : Int) < 4
     ·have g141 := decide_eq_true h140
      refine Ql rfl g141 ?_
      refine Qf ?_
      let K20 : List Value := [.slice A136 (gt (x0.Segments.set (((Qaa x0 x1.Row.Id).1).toNat) (Qcx x0 x1)) k128).length c137]
      refine rd2 15 [14] (s := [I31, Qa p26 42 K11, Qa p19 42 [.slice none 0 0, .int .i64 0], Qa p18 75 K9, I39]) (s2 := [Qao (tSl Qm 191) 131 (some ⟨g44, 0, none⟩) x0.Segments.length c23 (x0.Segments.set (((Qaa x0 x1.Row.Id).1).toNat) (Qcx x0 x1)) k128 K20, I31, Qa p26 42 K11, Qa p19 42 [.slice none 0 0, .int .i64 0], Qa p18 75 K9, I39]) (pk [3, 4, 5, 6, 7]) (pk [1, 3, 4, 5, 6, 7]) ?_
      refine qtD 15 0 1 rfl (vf Qaf rfl Qcu) ?_
      refine qtD 15 1 3 rfl (vl 2 0 Qas) ?_
      refine qtD 15 2 7 rfl vmv ?_
      refine qtD 15 3 15 rfl vmv ?_
      refine qtD 15 4 31 rfl (vf Qbs rfl Qcc) ?_
      refine qtD 15 5 63 rfl (fun W hm => Qdy (o := 1) Qde rfl Qh (by decide) rfl rfl) ?_
      refine qtD 15 6 127 rfl (vl 4 1 Qt) ?_
      refine qtD 15 7 255 rfl vmv ?_
      refine qtD 15 8 511 rfl (vf Qaf rfl Qh) ?_
      refine qtD 15 9 1023 rfl (vl 2 1 Qt) ?_
      let K21 : List Value := [.int .i64 x1.Row.Id, .slice A85 ((gt (gt x0.Segments (((Qaa x0 x1.Row.Id).1).toNat)) (((Qaa x0 x1.Row.Id).2).toNat)).Values).length c86, .int .i64 (IntKind.i64.wrap (x0.Now + 1)), .int .i64 (-1)]
      refine qtD 15 10 2047 rfl (fun W hm => Qeq (cs := K21) rfl (by kernel_rfl)) ?_
      refine qoD 15 11 4095 rfl ?_
      refine Qfb (cs := K21) Qav Qar rfl (by decide) (by decide) rfl (by kernel_rfl) (Qo rfl) (by decide) (fun p142 => ?_)
      refine qnD (pk [4, 5, 6, 7, 8]) (pk [2, 4, 5, 6, 7, 8]) ?_
      refine qoD 15 12 8191 rfl ?_
      refine ap1 Qm 191 (.slice A136 (gt (x0.Segments.set (((Qaa x0 x1.Row.Id).1).toNat) (Qcx x0 x1)) k128).length c137) (gt (x0.Segments.set (((Qaa x0 x1.Row.Id).1).toNat) (Qcx x0 x1)) k128) (⟨x1.Row.Id, ((gt (gt x0.Segments (((Qaa x0 x1.Row.Id).1).toNat)) (((Qaa x0 x1.Row.Id).2).toNat)).Values), (IntKind.i64.wrap (x0.Now + 1)), (-1)⟩ : Qn) [I38] [Qao (tSl Qm 191) 131 (some ⟨g44, 0, none⟩) x0.Segments.length c23 (x0.Segments.set (((Qaa x0 x1.Row.Id).1).toNat) (Qcx x0 x1)) k128 K20, I31, Qa p26 42 K11, Qa p19 42 [.slice none 0 0, .int .i64 0], Qa p18 75 K9, I39] K21 (pk [0, 1, 3, 2, 4, 5, 6, 7, 8]) (fun _ _ hs => Els.single (Qfs (x := (⟨x1.Row.Id, ((gt (gt x0.Segments (((Qaa x0 x1.Row.Id).1).toNat)) (((Qaa x0 x1.Row.Id).2).toNat)).Values), (IntKind.i64.wrap (x0.Now + 1)), (-1)⟩ : Qn)) hs)) Qav Qar (show ((gt (x0.Segments.set (((Qaa x0 x1.Row.Id).1).toNat) (Qcx x0 x1)) k128).length + 1) * 48 ≤ 140737488355328 from by first | omega | (have hx := Qkm (xs := x0.Segments) (i := (Qaa x0 x1.Row.Id).1.toNat) (y := Qcx x0 x1) List.length_set k128; omega)) (fun v143 => ?_)
      refine Qs (n := 0) rfl ?_
      rintro A144 c145 rfl m146
      refine qnD (pk [2, 3, 4, 5, 6]) (pk [1, 2, 3, 4, 5, 6]) ?_
      refine qtD 15 13 16383 rfl (vix 1 k128 Qas Qda) ?_
      refine qoD 15 14 32767 rfl ?_
      let I41 : It := Qd (tSl Qm 191) [.slice A144 (Qko x0 x1 k128).length c145] (Qko x0 x1 k128)
      refine sf 0 1 [.slice A144 (Qko x0 x1 k128).length c145] [I41, I31, Qa p26 42 K11, Qa p19 42 [.slice none 0 0, .int .i64 0], Qa p18 75 K9, I39] (pk [1, 0, 2, 3, 4, 5, 6]) Qda ?_
      refine qxD (pk [2, 3, 4, 5, 6]) ?_
      refine Qef (by kernel_rfl) ?_
      refine Qi (sr ?_)
      refine wv (fun W hm => Qz (cs := K11) Qaf Qae rfl rfl (hm.boxCells (n := 3) rfl)) ?_
      refine sb 0 K11 [Qao (tSl Qm 191) 131 (some ⟨g44, 0, none⟩) x0.Segments.length c23 (x0.Segments.set (((Qaa x0 x1.Row.Id).1).toNat) (Qcx x0 x1)) k128 [.slice A144 (Qko x0 x1 k128).length c145], I41, I31, Qa p26 42 K11, Qa p18 75 K9, I39] (pk [4, 0, 1, 2, 3, 5, 6]) Qae ?_
      refine wa (nt' (Qj (Qy (Qe (Qe (Qy (Qe ?_)))))))
      refine Qdu (fun W hm => Mem.unfocus (Mem.join (is := [I41]) (js := (Qao (tSl Qm 191) 131 (some ⟨g44, 0, none⟩) x0.Segments.length c23 (x0.Segments.set (((Qaa x0 x1.Row.Id).1).toNat) (Qcx x0 x1)) k128 [.slice A144 (Qko x0 x1 k128).length c145] :: [Qa p19 42 K11, I31, Qa p26 42 K11, Qa p18 75 K9, I39])) (fun _ _ hs => Sep.one hs) (hm.pick [2, 1, 0, 3, 4, 5, 6] (by decide)))) ?_
      have he148 := (show Qdc x0 x1 = ((⟨((x0.Segments.set (((Qaa x0 x1.Row.Id).1).toNat) (Qcx x0 x1)).set k128 (Qko x0 x1 k128)), (IntKind.i64.wrap (x0.Now + 1))⟩ : Qx), true) from Qb g28 (Qb g30 (Qc g32 (Qc g35 (Qb g43 (Qc g90 (Qc g126 (Qba (Qbc (body := F2) (k := k128) (s := ()) (show k128 < x0.Segments.length from by omega) (Qb g141 (rfl)) hF130) rfl))))))))
      refine Qdx rfl (Qcp (n := 1) rfl rfl Qaf Qae rfl) (Qcv rfl) (fun W hm => ⟨K11, ?_, ?_⟩)
      ·first | rw [he148] | rfl
       try rfl
      rw [he148]; exact Mem.join (is := [Qd (tSl (tSl Qm 191) 131) [.slice (some ⟨g44, 0, none⟩) x0.Segments.length c23] ((x0.Segments.set (((Qaa x0 x1.Row.Id).1).toNat) (Qcx x0 x1)).set k128 (Qko x0 x1 k128))]) (js := []) (fun _ _ hs => Qed (x := (⟨((x0.Segments.set (((Qaa x0 x1.Row.Id).1).toNat) (Qcx x0 x1)).set k128 (Qko x0 x1 k128)), (IntKind.i64.wrap (x0.Now + 1))⟩ : Qx)) hs) (hm.pick [0] (by decide))
     have g141 := decide_eq_false h140
     refine Qp rfl g141 ?_
     refine Qq (Qax (Qi (Qad ?_)))
     refine wv (Qbd k128 1 (by omega)) ?_
     refine wm (Qal ?_)
     let K22 : List Value := [.slice A136 (gt (x0.Segments.set (((Qaa x0 x1.Row.Id).1).toNat) (Qcx x0 x1)) k128).length c137]
     refine Qdu (fun W hm => Mem.unfocus0 (Mem.join (is := [Qd (tSl Qm 191) K22 (gt (x0.Segments.set (((Qaa x0 x1.Row.Id).1).toNat) (Qcx x0 x1)) k128)]) (js := (Qao (tSl Qm 191) 131 (some ⟨g44, 0, none⟩) x0.Segments.length c23 (x0.Segments.set (((Qaa x0 x1.Row.Id).1).toNat) (Qcx x0 x1)) k128 K22 :: [I38, I31, Qa p26 42 K11, Qa p19 42 [.slice none 0 0, .int .i64 0], Qa p18 75 K9, I39])) (fun _ _ hs => Sep.one hs) hm)) ?_
     have hn149 := Qbb (R := (Qx × Bool)) (body := F2) (k := k128) (s := ()) (s' := ()) (show k128 < x0.Segments.length from by omega) (Qc g141 (rfl)) hF130
     exact Qaz (k128 + 1, (), ()) sl8 (fun W hm => hm) ⟨(by omega), hn149⟩ (rl (by omega))
    have g133 := dlF hl132
    refine Qp rfl g133 ?_
    refine Qbk (Qac (Qac ?_))
    have hE150 : R6 (x0.Segments.length - 0) 0 () = Sum.inr () := Qbn hl132 hF130
    refine Qbm (Qi (Qf ?_))
    refine Qdf (pk [4, 6]) ?_
    refine Qad ?_
    refine wv (fun W hm => Qz (cs := [.slice (some a58) x0.Segments.length c5, .int .i64 x0.Now]) Qaf Qae rfl rfl (hm.boxCells (n := 1) rfl)) ?_
    refine wcs Qcz x0 (Qr Qlk rfl) (fun W hm => Qls W _ x0 (Qeg (x := x0) (hm.rdS0 r7)) s_0) (fun z151 => ?_)
    refine Qgd ?_
    rintro v152 rfl
    refine Qs (n := 0) rfl ?_
    rintro A153 c154 rfl m155
    let I42 : It := Qd (tSl (tSl Qm 191) 131) [.slice A153 x0.Segments.length c154] x0.Segments
    refine sb 0 [.slice A153 x0.Segments.length c154, .int .i64 x0.Now] [I42, I39] (pk [1, 0, 2]) Qae ?_
    refine wa (nt' (Qj ?_))
    have he157 := (show Qdc x0 x1 = (x0, false) from Qb g28 (Qb g30 (Qc g32 (Qc g35 (Qb g43 (Qc g90 (Qc g126 (Qat hE150 (rfl)))))))))
    refine Qdx rfl (Qcp (n := 0) rfl rfl Qaf Qae rfl) (Qcv rfl) (fun W hm => ⟨[.slice A153 x0.Segments.length c154, .int .i64 x0.Now], ?_, ?_⟩)
    ·first | rw [he157] | rfl
     try rfl
    rw [he157]; exact Mem.join (is := [I42]) (js := []) (fun _ _ hs => Qed (x := x0) hs) (hm.pick [1] (by decide))
   have g43 := decide_eq_false h42
   refine Qp rfl g43 ?_
   refine Qq (Qi (Qf (sr ?_)))
   refine wv (vf Qbs rfl Qh) ?_
   refine wv (vl 4 0 Qt) ?_
   refine wv (fun W hm => Qdj rfl rfl) ?_
   refine nt' ?_
   by_cases h158 : x1.Kind = 3
   ·have g159 := beq_iff_eq.2 h158
    obtain ⟨hu5, hu6⟩ := hu2 (by assumption)
    refine Ql rfl g159 ?_
    refine Qad (wm ?_)
    refine wv (vf Qbs rfl Qh) ?_
    refine wv (vl 4 3 Qt) ?_
    refine wv (vf Qbs rfl Qh) ?_
    refine wv (vl 4 4 Qt) ?_
    refine Qfj (n := 0) rfl (by omega) ?_
    rintro g160 rfl
    refine wv (fun W hm => Qfg (sz := 1) (k := x1.Field) Qv Qh rfl rfl rfl (by omega) (by omega)) ?_
    refine Qhh (E := Qg) (e := 3) (u := .int .i64 x1.Value) (k := (x1.Field.toNat)) (p := g160) (n := x1.Row.Values.length) (xs := x1.Row.Values) (eis := []) (js := [Qa p26 42 K10, I29, Qa p19 42 [.slice none 0 0, .int .i64 0], Qa p18 75 K9, I30]) (yv := x1.Value) (fun W hm => hm) (fun _ _ hs => (Sep.nil hs ▸ Qcy)) rfl Qh rfl (by omega) rfl rfl (Qo rfl) ?_
    refine nt' (Qf (sr ?_))
    refine wv (vf Qbs rfl Qh) ?_
    refine wv (vl 4 0 Qt) ?_
    refine wv (fun W hm => Qdj rfl rfl) ?_
    refine nt' ?_
    by_cases h161 : x1.Kind = 2
    ·have g162 := beq_iff_eq.2 h161
     refine Ql rfl g162 ?_
     refine Qf ?_
     refine Qdf (pk [1, 2, 3]) ?_
     refine Qad ?_
     refine wv (fun W hm => Qz (cs := K10) Qaf Qae rfl rfl (hm.boxCells (n := 0) rfl)) ?_
     refine sb 0 K10 [Qa p26 42 K10, I29] (pk [2, 0, 1]) Qae ?_
     refine wa (nt' (Qj (Qe ?_)))
     have he163 := (show Qdc x0 x1 = ((⟨x0.Segments, (IntKind.i64.wrap (x0.Now + 1))⟩ : Qx), true) from Qb g28 (Qb g30 (Qc g32 (Qc g35 (Qc g43 (Qb g159 (Qb g162 (rfl))))))))
     refine Qdx rfl (Qcp (n := 0) rfl rfl Qaf Qae rfl) (Qcv rfl) (fun W hm => ⟨K10, ?_, ?_⟩)
     ·first | rw [he163] | rfl
      try rfl
     rw [he163]; exact Mem.join (is := [I29]) (js := []) (fun _ _ hs => Qed (x := (⟨x0.Segments, (IntKind.i64.wrap (x0.Now + 1))⟩ : Qx)) hs) (hm.pick [2] (by decide))
    have g162 := beq_eq_false_iff_ne.2 h161
    refine Qp rfl g162 ?_
    refine Qq (Qi (Qf (sr ?_)))
    refine wv (vf Qaf rfl Qcu) ?_
    refine wv (vl 1 0 Qas) ?_
    refine wv (Qai Qas) ?_
    refine wm (nt' (Qab ?_))
    let F3 := fun k (_ : Unit) => Qzr x0 x1 k
    let R7 := rng (R := (Qx × Bool)) F3
    let I43 : It := Qd (tSl Qg 3) [.slice (some ⟨g160, 0, none⟩) x1.Row.Values.length c39] (x1.Row.Values.set (x1.Field.toNat) x1.Value)
    refine Qbl (σ := Nat × (Unit) × (Unit)) (fun s => [(2, .pointer (some (⟨p17, 0, none⟩ : Addr))), (3, .pointer (some (⟨p18, 0, none⟩ : Addr))), (4, .pointer (some (⟨p19, 0, none⟩ : Addr))), (6, .pointer (some (⟨p26, 0, none⟩ : Addr))), (9, .slice (some ⟨g160, 0, none⟩) x1.Row.Values.length c39), (87, .slice A22 x0.Segments.length c23), (88, .int .i64 ((x0.Segments.length : Nat) : Int)), (89, .int .i64 ((s.1 : Nat) : Int))]) (fun s => [I43, Qa p26 42 K10, I29, Qa p19 42 [.slice none 0 0, .int .i64 0], Qa p18 75 K9, I30]) (fun s => s.1 ≤ x0.Segments.length ∧ R7 (x0.Segments.length - s.1) s.1 s.2.1 = R7 (x0.Segments.length - 0) 0 ()) (fun s => x0.Segments.length - s.1) (0, (), ()) sl8 (fun W hm => hm) ⟨(by omega), rfl⟩ ?_
    rintro ⟨k164, ⟨⟩, ⟨⟩⟩ H167
    obtain ⟨hk165, hF166⟩ : k164 ≤ x0.Segments.length ∧ R7 (x0.Segments.length - k164) k164 () = R7 (x0.Segments.length - 0) 0 () := H167
    show CM Tryz.prog 115 _ _ _ _ [(2, .pointer (some (⟨p17, 0, none⟩ : Addr))), (3, .pointer (some (⟨p18, 0, none⟩ : Addr))), (4, .pointer (some (⟨p19, 0, none⟩ : Addr))), (6, .pointer (some (⟨p26, 0, none⟩ : Addr))), (9, .slice (some ⟨g160, 0, none⟩) x1.Row.Values.length c39), (87, .slice A22 x0.Segments.length c23), (88, .int .i64 ((x0.Segments.length : Nat) : Int)), (89, .int .i64 ((k164 : Nat) : Int))] [I43, Qa p26 42 K10, I29, Qa p19 42 [.slice none 0 0, .int .i64 0], Qa p18 75 K9, I30]
    refine sr ?_
    refine wv Qak ?_
    refine nt' (Qf ?_)
    by_cases hl168 : k164 < x0.Segments.length
    ·have g169 := dlT hl168
     refine Ql rfl g169 ?_
     refine Qq (Qi (Qf (Qab (sr (wm ?_)))))
     refine Qfj (n := 2) rfl (by omega) ?_
     rintro g170 rfl
     refine wv (vix 1 k164 Qas Qda) ?_
     let K23 : List Value := [.slice (some ⟨g170, 0, none⟩) x0.Segments.length c23, .int .i64 (IntKind.i64.wrap (x0.Now + 1))]
     refine Qgk (E := (tSl Qm 191)) (e := 131) (A := (some ⟨g170, 0, none⟩)) (n := x0.Segments.length) (c := c23) (xs := x0.Segments) (k := k164) (js := [I43, Qa p26 42 K23, Qa p19 42 [.slice none 0 0, .int .i64 0], Qa p18 75 K9, I30]) (by omega) (pk [2, 0, 1, 3, 4, 5]) (fun ck171 => ?_)
     refine Qgp (γ := Value) (js := fun g => [Qd (tSl Qm 191) [g] (gt x0.Segments k164)]) (C := fun g => ck171 = [g]) (fun _ _ h => Qhy h) ?_
     rintro v172 rfl
     refine Qs (n := 0) rfl ?_
     rintro A173 c174 rfl m175
     refine wv (fun W hm => Qaw Qav rfl rfl (hm.focInt (i := 1) rfl rfl)) ?_
     refine wa (wa (nt' (sr (wm ?_))))
     refine wv (Qai Qav) ?_
     refine wv Qak ?_
     refine nt' ?_
     by_cases h177 : (((gt x0.Segments k164).length : Nat) : Int) < 4
     ·have g178 := decide_eq_true h177
      refine Ql rfl g178 ?_
      refine Qf ?_
      refine rd2 15 [14] (s := [Qa p26 42 K23, Qa p19 42 [.slice none 0 0, .int .i64 0], Qa p18 75 K9, I30]) (s2 := [Qao (tSl Qm 191) 131 (some ⟨g170, 0, none⟩) x0.Segments.length c23 x0.Segments k164 [.slice A173 (gt x0.Segments k164).length c174], Qa p26 42 K23, Qa p19 42 [.slice none 0 0, .int .i64 0], Qa p18 75 K9, I30]) (pk [3, 4, 5, 6]) (pk [1, 3, 4, 5, 6]) ?_
      refine qtD 15 0 1 rfl (vf Qaf rfl Qcu) ?_
      refine qtD 15 1 3 rfl (vl 1 0 Qas) ?_
      refine qtD 15 2 7 rfl vmv ?_
      refine qtD 15 3 15 rfl vmv ?_
      refine qtD 15 4 31 rfl (vf Qbs rfl Qcc) ?_
      refine qtD 15 5 63 rfl (fun W hm => Qdy (o := 1) Qde rfl Qh (by decide) rfl rfl) ?_
      refine qtD 15 6 127 rfl (vl 3 1 Qt) ?_
      refine qtD 15 7 255 rfl vmv ?_
      refine qtD 15 8 511 rfl (vf Qaf rfl Qh) ?_
      refine qtD 15 9 1023 rfl (vl 1 1 Qt) ?_
      let K24 : List Value := [.int .i64 x1.Row.Id, .slice (some ⟨g160, 0, none⟩) x1.Row.Values.length c39, .int .i64 (IntKind.i64.wrap (x0.Now + 1)), .int .i64 (-1)]
      refine qtD 15 10 2047 rfl (fun W hm => Qeq (cs := K24) rfl (by kernel_rfl)) ?_
      refine qoD 15 11 4095 rfl ?_
      refine Qfb (cs := K24) Qav Qar rfl (by decide) (by decide) rfl (by kernel_rfl) (Qo rfl) (by decide) (fun p179 => ?_)
      refine qnD (pk [4, 5, 6, 7]) (pk [2, 4, 5, 6, 7]) ?_
      refine qoD 15 12 8191 rfl ?_
      refine ap1 Qm 191 (.slice A173 (gt x0.Segments k164).length c174) (gt x0.Segments k164) (⟨x1.Row.Id, (x1.Row.Values.set (x1.Field.toNat) x1.Value), (IntKind.i64.wrap (x0.Now + 1)), (-1)⟩ : Qn) [I43] [Qao (tSl Qm 191) 131 (some ⟨g170, 0, none⟩) x0.Segments.length c23 x0.Segments k164 [.slice A173 (gt x0.Segments k164).length c174], Qa p26 42 K23, Qa p19 42 [.slice none 0 0, .int .i64 0], Qa p18 75 K9, I30] K24 (pk [0, 1, 3, 2, 4, 5, 6, 7]) (fun _ _ hs => Els.single (Qfs (x := (⟨x1.Row.Id, (x1.Row.Values.set (x1.Field.toNat) x1.Value), (IntKind.i64.wrap (x0.Now + 1)), (-1)⟩ : Qn)) hs)) Qav Qar (show ((gt x0.Segments k164).length + 1) * 48 ≤ 140737488355328 from by first | omega | (have hx := Qkm (xs := x0.Segments) (i := (Qaa x0 x1.Row.Id).1.toNat) (y := Qcx x0 x1) List.length_set k164; omega)) (fun v180 => ?_)
      refine Qs (n := 0) rfl ?_
      rintro A181 c182 rfl m183
      refine qnD (pk [2, 3, 4, 5]) (pk [1, 2, 3, 4, 5]) ?_
      refine qtD 15 13 16383 rfl (vix 1 k164 Qas Qda) ?_
      refine qoD 15 14 32767 rfl ?_
      let K25 : List Value := [.slice A181 ((gt x0.Segments k164) ++ [(⟨x1.Row.Id, (x1.Row.Values.set (x1.Field.toNat) x1.Value), (IntKind.i64.wrap (x0.Now + 1)), (-1)⟩ : Qn)]).length c182]
      let I44 : It := Qd (tSl Qm 191) K25 ((gt x0.Segments k164) ++ [(⟨x1.Row.Id, (x1.Row.Values.set (x1.Field.toNat) x1.Value), (IntKind.i64.wrap (x0.Now + 1)), (-1)⟩ : Qn)])
      refine sf 0 1 K25 [I44, Qa p26 42 K23, Qa p19 42 [.slice none 0 0, .int .i64 0], Qa p18 75 K9, I30] (pk [1, 0, 2, 3, 4, 5]) Qda ?_
      refine qxD (pk [2, 3, 4, 5]) ?_
      refine Qef (by kernel_rfl) ?_
      refine Qi (sr ?_)
      refine wv (fun W hm => Qz (cs := K23) Qaf Qae rfl rfl (hm.boxCells (n := 2) rfl)) ?_
      refine sb 0 K23 [Qao (tSl Qm 191) 131 (some ⟨g170, 0, none⟩) x0.Segments.length c23 x0.Segments k164 K25, I44, Qa p26 42 K23, Qa p18 75 K9, I30] (pk [3, 0, 1, 2, 4, 5]) Qae ?_
      refine wa (nt' (Qj (Qy (Qe (Qe (Qy (Qe ?_)))))))
      refine Qdu (fun W hm => Mem.unfocus (Mem.join (is := [I44]) (js := (Qao (tSl Qm 191) 131 (some ⟨g170, 0, none⟩) x0.Segments.length c23 x0.Segments k164 K25 :: [Qa p19 42 K23, Qa p26 42 K23, Qa p18 75 K9, I30])) (fun _ _ hs => Sep.one hs) (hm.pick [2, 1, 0, 3, 4, 5] (by decide)))) ?_
      have he185 := (show Qdc x0 x1 = ((⟨(x0.Segments.set k164 ((gt x0.Segments k164) ++ [(⟨x1.Row.Id, (x1.Row.Values.set (x1.Field.toNat) x1.Value), (IntKind.i64.wrap (x0.Now + 1)), (-1)⟩ : Qn)])), (IntKind.i64.wrap (x0.Now + 1))⟩ : Qx), true) from Qb g28 (Qb g30 (Qc g32 (Qc g35 (Qc g43 (Qb g159 (Qc g162 (Qba (Qbc (body := F3) (k := k164) (s := ()) (show k164 < x0.Segments.length from by omega) (Qb g178 (rfl)) hF166) rfl))))))))
      refine Qdx rfl (Qcp (n := 1) rfl rfl Qaf Qae rfl) (Qcv rfl) (fun W hm => ⟨K23, ?_, ?_⟩)
      ·first | rw [he185] | rfl
       try rfl
      rw [he185]; exact Mem.join (is := [Qd (tSl (tSl Qm 191) 131) [.slice (some ⟨g170, 0, none⟩) x0.Segments.length c23] (x0.Segments.set k164 ((gt x0.Segments k164) ++ [(⟨x1.Row.Id, (x1.Row.Values.set (x1.Field.toNat) x1.Value), (IntKind.i64.wrap (x0.Now + 1)), (-1)⟩ : Qn)]))]) (js := []) (fun _ _ hs => Qed (x := (⟨(x0.Segments.set k164 ((gt x0.Segments k164) ++ [(⟨x1.Row.Id, (x1.Row.Values.set (x1.Field.toNat) x1.Value), (IntKind.i64.wrap (x0.Now + 1)), (-1)⟩ : Qn)])), (IntKind.i64.wrap (x0.Now + 1))⟩ : Qx)) hs) (hm.pick [0] (by decide))
     have g178 := decide_eq_false h177
     refine Qp rfl g178 ?_
     refine Qq (Qax (Qi (Qad ?_)))
     refine wv (Qbd k164 1 (by omega)) ?_
     refine wm (Qal ?_)
     refine Qdu (fun W hm => Mem.unfocus0 (Mem.join (is := [Qd (tSl Qm 191) [.slice A173 (gt x0.Segments k164).length c174] (gt x0.Segments k164)]) (js := (Qao (tSl Qm 191) 131 (some ⟨g170, 0, none⟩) x0.Segments.length c23 x0.Segments k164 [.slice A173 (gt x0.Segments k164).length c174] :: [I43, Qa p26 42 K23, Qa p19 42 [.slice none 0 0, .int .i64 0], Qa p18 75 K9, I30])) (fun _ _ hs => Sep.one hs) hm)) ?_
     have hn186 := Qbb (R := (Qx × Bool)) (body := F3) (k := k164) (s := ()) (s' := ()) (show k164 < x0.Segments.length from by omega) (Qc g178 (rfl)) hF166
     exact Qaz (k164 + 1, (), ()) sl8 (pk [1, 2, 0, 3, 4, 5]) ⟨(by omega), hn186⟩ (rl (by omega))
    have g169 := dlF hl168
    refine Qp rfl g169 ?_
    refine Qbk (Qac (Qac ?_))
    have hE187 : R7 (x0.Segments.length - 0) 0 () = Sum.inr () := Qbn hl168 hF166
    refine Qbm (Qi (Qf ?_))
    refine Qdf (pk [3, 5]) ?_
    refine Qad ?_
    refine wv (fun W hm => Qz (cs := [.slice A4 x0.Segments.length c5, .int .i64 x0.Now]) Qaf Qae rfl rfl (hm.boxCells (n := 1) rfl)) ?_
    refine wcs Qcz x0 (Qr Qlk rfl) (fun W hm => Qls W _ x0 (Qeg (x := x0) (hm.rdS0 r7)) s_0) (fun z188 => ?_)
    refine Qgd ?_
    rintro v189 rfl
    refine Qs (n := 0) rfl ?_
    rintro A190 c191 rfl m192
    let I45 : It := Qd (tSl (tSl Qm 191) 131) [.slice A190 x0.Segments.length c191] x0.Segments
    refine sb 0 [.slice A190 x0.Segments.length c191, .int .i64 x0.Now] [I45, I30] (pk [1, 0, 2]) Qae ?_
    refine wa (nt' (Qj ?_))
    have he194 := (show Qdc x0 x1 = (x0, false) from Qb g28 (Qb g30 (Qc g32 (Qc g35 (Qc g43 (Qb g159 (Qc g162 (Qat hE187 (rfl)))))))))
    refine Qdx rfl (Qcp (n := 0) rfl rfl Qaf Qae rfl) (Qcv rfl) (fun W hm => ⟨[.slice A190 x0.Segments.length c191, .int .i64 x0.Now], ?_, ?_⟩)
    ·first | rw [he194] | rfl
     try rfl
    rw [he194]; exact Mem.join (is := [I45]) (js := []) (fun _ _ hs => Qed (x := x0) hs) (hm.pick [1] (by decide))
   have g159 := beq_eq_false_iff_ne.2 h158
   refine Qp rfl g159 ?_
   refine Qq (Qi (Qf (sr ?_)))
   refine wv (vf Qbs rfl Qh) ?_
   refine wv (vl 4 0 Qt) ?_
   refine wv (fun W hm => Qdj rfl rfl) ?_
   refine nt' ?_
   by_cases h195 : x1.Kind = 2
   ·have g196 := beq_iff_eq.2 h195
    refine Ql rfl g196 ?_
    refine Qf ?_
    refine Qdf (pk [1, 2, 3]) ?_
    refine Qad ?_
    refine wv (fun W hm => Qz (cs := K10) Qaf Qae rfl rfl (hm.boxCells (n := 0) rfl)) ?_
    refine sb 0 K10 [Qa p26 42 K10, I29] (pk [2, 0, 1]) Qae ?_
    refine wa (nt' (Qj (Qe ?_)))
    have he197 := (show Qdc x0 x1 = ((⟨x0.Segments, (IntKind.i64.wrap (x0.Now + 1))⟩ : Qx), true) from Qb g28 (Qb g30 (Qc g32 (Qc g35 (Qc g43 (Qc g159 (Qb g196 (rfl))))))))
    refine Qdx rfl (Qcp (n := 0) rfl rfl Qaf Qae rfl) (Qcv rfl) (fun W hm => ⟨K10, ?_, ?_⟩)
    ·first | rw [he197] | rfl
     try rfl
    rw [he197]; exact Mem.join (is := [I29]) (js := []) (fun _ _ hs => Qed (x := (⟨x0.Segments, (IntKind.i64.wrap (x0.Now + 1))⟩ : Qx)) hs) (hm.pick [2] (by decide))
   have g196 := beq_eq_false_iff_ne.2 h195
   refine Qp rfl g196 ?_
   refine Qq (Qi (Qf (sr ?_)))
   refine wv (vf Qaf rfl Qcu) ?_
   refine wv (vl 1 0 Qas) ?_
   refine wv (Qai Qas) ?_
   refine wm (nt' (Qab ?_))
   let F4 := fun k (_ : Unit) => Qtr x0 x1 k
   let R8 := rng (R := (Qx × Bool)) F4
   let I46 : It := Qd (tSl Qg 3) [.slice A38 x1.Row.Values.length c39] x1.Row.Values
   refine Qbl (σ := Nat × (Unit) × (Unit)) (fun s => [(2, .pointer (some (⟨p17, 0, none⟩ : Addr))), (3, .pointer (some (⟨p18, 0, none⟩ : Addr))), (4, .pointer (some (⟨p19, 0, none⟩ : Addr))), (6, .pointer (some (⟨p26, 0, none⟩ : Addr))), (9, .slice A38 x1.Row.Values.length c39), (87, .slice A22 x0.Segments.length c23), (88, .int .i64 ((x0.Segments.length : Nat) : Int)), (89, .int .i64 ((s.1 : Nat) : Int))]) (fun s => [I46, Qa p26 42 K10, I29, Qa p19 42 [.slice none 0 0, .int .i64 0], Qa p18 75 K9, I30]) (fun s => s.1 ≤ x0.Segments.length ∧ R8 (x0.Segments.length - s.1) s.1 s.2.1 = R8 (x0.Segments.length - 0) 0 ()) (fun s => x0.Segments.length - s.1) (0, (), ()) sl8 (fun W hm => hm) ⟨(by omega), rfl⟩ ?_
   rintro ⟨k198, ⟨⟩, ⟨⟩⟩ H201
   obtain ⟨hk199, hF200⟩ : k198 ≤ x0.Segments.length ∧ R8 (x0.Segments.length - k198) k198 () = R8 (x0.Segments.length - 0) 0 () := H201
   show CM Tryz.prog 115 _ _ _ _ [(2, .pointer (some (⟨p17, 0, none⟩ : Addr))), (3, .pointer (some (⟨p18, 0, none⟩ : Addr))), (4, .pointer (some (⟨p19, 0, none⟩ : Addr))), (6, .pointer (some (⟨p26, 0, none⟩ : Addr))), (9, .slice A38 x1.Row.Values.length c39), (87, .slice A22 x0.Segments.length c23), (88, .int .i64 ((x0.Segments.length : Nat) : Int)), (89, .int .i64 ((k198 : Nat) : Int))] [I46, Qa p26 42 K10, I29, Qa p19 42 [.slice none 0 0, .int .i64 0], Qa p18 75 K9, I30]
   refine sr ?_
   refine wv Qak ?_
   refine nt' (Qf ?_)
   by_cases hl202 : k198 < x0.Segments.length
   ·have g203 := dlT hl202
    refine Ql rfl g203 ?_
    refine Qq (Qi (Qf (Qab (sr (wm ?_)))))
    refine Qfj (n := 2) rfl (by omega) ?_
    rintro g204 rfl
    refine wv (vix 1 k198 Qas Qda) ?_
    let K26 : List Value := [.slice (some ⟨g204, 0, none⟩) x0.Segments.length c23, .int .i64 (IntKind.i64.wrap (x0.Now + 1))]
    refine Qgk (E := (tSl Qm 191)) (e := 131) (A := (some ⟨g204, 0, none⟩)) (n := x0.Segments.length) (c := c23) (xs := x0.Segments) (k := k198) (js := [I46, Qa p26 42 K26, Qa p19 42 [.slice none 0 0, .int .i64 0], Qa p18 75 K9, I30]) (by omega) (pk [2, 0, 1, 3, 4, 5]) (fun ck205 => ?_)
    refine Qgp (γ := Value) (js := fun g => [Qd (tSl Qm 191) [g] (gt x0.Segments k198)]) (C := fun g => ck205 = [g]) (fun _ _ h => Qhy h) ?_
    rintro v206 rfl
    refine Qs (n := 0) rfl ?_
    rintro A207 c208 rfl m209
    refine wv (fun W hm => Qaw Qav rfl rfl (hm.focInt (i := 1) rfl rfl)) ?_
    refine wa (wa (nt' (sr (wm ?_))))
    refine wv (Qai Qav) ?_
    refine wv Qak ?_
    refine nt' ?_
    by_cases h211 : (((gt x0.Segments k198).length : Nat) : Int) < 4
    ·have g212 := decide_eq_true h211
     refine Ql rfl g212 ?_
     refine Qf ?_
     refine rd2 15 [14] (s := [Qa p26 42 K26, Qa p19 42 [.slice none 0 0, .int .i64 0], Qa p18 75 K9, I30]) (s2 := [Qao (tSl Qm 191) 131 (some ⟨g204, 0, none⟩) x0.Segments.length c23 x0.Segments k198 [.slice A207 (gt x0.Segments k198).length c208], Qa p26 42 K26, Qa p19 42 [.slice none 0 0, .int .i64 0], Qa p18 75 K9, I30]) (pk [3, 4, 5, 6]) (pk [1, 3, 4, 5, 6]) ?_
     refine qtD 15 0 1 rfl (vf Qaf rfl Qcu) ?_
     refine qtD 15 1 3 rfl (vl 1 0 Qas) ?_
     refine qtD 15 2 7 rfl vmv ?_
     refine qtD 15 3 15 rfl vmv ?_
     refine qtD 15 4 31 rfl (vf Qbs rfl Qcc) ?_
     refine qtD 15 5 63 rfl (fun W hm => Qdy (o := 1) Qde rfl Qh (by decide) rfl rfl) ?_
     refine qtD 15 6 127 rfl (vl 3 1 Qt) ?_
     refine qtD 15 7 255 rfl vmv ?_
     refine qtD 15 8 511 rfl (vf Qaf rfl Qh) ?_
     refine qtD 15 9 1023 rfl (vl 1 1 Qt) ?_
     let K27 : List Value := [.int .i64 x1.Row.Id, .slice A38 x1.Row.Values.length c39, .int .i64 (IntKind.i64.wrap (x0.Now + 1)), .int .i64 (-1)]
     refine qtD 15 10 2047 rfl (fun W hm => Qeq (cs := K27) rfl (by kernel_rfl)) ?_
     refine qoD 15 11 4095 rfl ?_
     refine Qfb (cs := K27) Qav Qar rfl (by decide) (by decide) rfl (by kernel_rfl) (Qo rfl) (by decide) (fun p213 => ?_)
     refine qnD (pk [4, 5, 6, 7]) (pk [2, 4, 5, 6, 7]) ?_
     refine qoD 15 12 8191 rfl ?_
     refine ap1 Qm 191 (.slice A207 (gt x0.Segments k198).length c208) (gt x0.Segments k198) (⟨x1.Row.Id, x1.Row.Values, (IntKind.i64.wrap (x0.Now + 1)), (-1)⟩ : Qn) [I46] [Qao (tSl Qm 191) 131 (some ⟨g204, 0, none⟩) x0.Segments.length c23 x0.Segments k198 [.slice A207 (gt x0.Segments k198).length c208], Qa p26 42 K26, Qa p19 42 [.slice none 0 0, .int .i64 0], Qa p18 75 K9, I30] K27 (pk [0, 1, 3, 2, 4, 5, 6, 7]) (fun _ _ hs => Els.single (Qfs (x := (⟨x1.Row.Id, x1.Row.Values, (IntKind.i64.wrap (x0.Now + 1)), (-1)⟩ : Qn)) hs)) Qav Qar (show ((gt x0.Segments k198).length + 1) * 48 ≤ 140737488355328 from by first | omega | (have hx := Qkm (xs := x0.Segments) (i := (Qaa x0 x1.Row.Id).1.toNat) (y := Qcx x0 x1) List.length_set k198; omega)) (fun v214 => ?_)
     refine Qs (n := 0) rfl ?_
     rintro A215 c216 rfl m217
     refine qnD (pk [2, 3, 4, 5]) (pk [1, 2, 3, 4, 5]) ?_
     refine qtD 15 13 16383 rfl (vix 1 k198 Qas Qda) ?_
     refine qoD 15 14 32767 rfl ?_
     let K28 : List Value := [.slice A215 ((gt x0.Segments k198) ++ [(⟨x1.Row.Id, x1.Row.Values, (IntKind.i64.wrap (x0.Now + 1)), (-1)⟩ : Qn)]).length c216]
     let I47 : It := Qd (tSl Qm 191) K28 ((gt x0.Segments k198) ++ [(⟨x1.Row.Id, x1.Row.Values, (IntKind.i64.wrap (x0.Now + 1)), (-1)⟩ : Qn)])
     refine sf 0 1 K28 [I47, Qa p26 42 K26, Qa p19 42 [.slice none 0 0, .int .i64 0], Qa p18 75 K9, I30] (pk [1, 0, 2, 3, 4, 5]) Qda ?_
     refine qxD (pk [2, 3, 4, 5]) ?_
     refine Qef (by kernel_rfl) ?_
     refine Qi (sr ?_)
     refine wv (fun W hm => Qz (cs := K26) Qaf Qae rfl rfl (hm.boxCells (n := 2) rfl)) ?_
     refine sb 0 K26 [Qao (tSl Qm 191) 131 (some ⟨g204, 0, none⟩) x0.Segments.length c23 x0.Segments k198 K28, I47, Qa p26 42 K26, Qa p18 75 K9, I30] (pk [3, 0, 1, 2, 4, 5]) Qae ?_
     refine wa (nt' (Qj (Qy (Qe (Qe (Qy (Qe ?_)))))))
     refine Qdu (fun W hm => Mem.unfocus (Mem.join (is := [I47]) (js := (Qao (tSl Qm 191) 131 (some ⟨g204, 0, none⟩) x0.Segments.length c23 x0.Segments k198 K28 :: [Qa p19 42 K26, Qa p26 42 K26, Qa p18 75 K9, I30])) (fun _ _ hs => Sep.one hs) (hm.pick [2, 1, 0, 3, 4, 5] (by decide)))) ?_
     have he219 := (show Qdc x0 x1 = ((⟨(x0.Segments.set k198 ((gt x0.Segments k198) ++ [(⟨x1.Row.Id, x1.Row.Values, (IntKind.i64.wrap (x0.Now + 1)), (-1)⟩ : Qn)])), (IntKind.i64.wrap (x0.Now + 1))⟩ : Qx), true) from Qb g28 (Qb g30 (Qc g32 (Qc g35 (Qc g43 (Qc g159 (Qc g196 (Qba (Qbc (body := F4) (k := k198) (s := ()) (show k198 < x0.Segments.length from by omega) (Qb g212 (rfl)) hF200) rfl))))))))
     refine Qdx rfl (Qcp (n := 1) rfl rfl Qaf Qae rfl) (Qcv rfl) (fun W hm => ⟨K26, ?_, ?_⟩)
     ·first | rw [he219] | rfl
      try rfl
     rw [he219]; exact Mem.join (is := [Qd (tSl (tSl Qm 191) 131) [.slice (some ⟨g204, 0, none⟩) x0.Segments.length c23] (x0.Segments.set k198 ((gt x0.Segments k198) ++ [(⟨x1.Row.Id, x1.Row.Values, (IntKind.i64.wrap (x0.Now + 1)), (-1)⟩ : Qn)]))]) (js := []) (fun _ _ hs => Qed (x := (⟨(x0.Segments.set k198 ((gt x0.Segments k198) ++ [(⟨x1.Row.Id, x1.Row.Values, (IntKind.i64.wrap (x0.Now + 1)), (-1)⟩ : Qn)])), (IntKind.i64.wrap (x0.Now + 1))⟩ : Qx)) hs) (hm.pick [0] (by decide))
    have g212 := decide_eq_false h211
    refine Qp rfl g212 ?_
    refine Qq (Qax (Qi (Qad ?_)))
    refine wv (Qbd k198 1 (by omega)) ?_
    refine wm (Qal ?_)
    refine Qdu (fun W hm => Mem.unfocus0 (Mem.join (is := [Qd (tSl Qm 191) [.slice A207 (gt x0.Segments k198).length c208] (gt x0.Segments k198)]) (js := (Qao (tSl Qm 191) 131 (some ⟨g204, 0, none⟩) x0.Segments.length c23 x0.Segments k198 [.slice A207 (gt x0.Segments k198).length c208] :: [I46, Qa p26 42 K26, Qa p19 42 [.slice none 0 0, .int .i64 0], Qa p18 75 K9, I30])) (fun _ _ hs => Sep.one hs) hm)) ?_
    have hn220 := Qbb (R := (Qx × Bool)) (body := F4) (k := k198) (s := ()) (s' := ()) (show k198 < x0.Segments.length from by omega) (Qc g212 (rfl)) hF200
    exact Qaz (k198 + 1, (), ()) sl8 (pk [1, 2, 0, 3, 4, 5]) ⟨(by omega), hn220⟩ (rl (by omega))
   have g203 := dlF hl202
   refine Qp rfl g203 ?_
   refine Qbk (Qac (Qac ?_))
   have hE221 : R8 (x0.Segments.length - 0) 0 () = Sum.inr () := Qbn hl202 hF200
   refine Qbm (Qi (Qf ?_))
   refine Qdf (pk [3, 5]) ?_
   refine Qad ?_
   refine wv (fun W hm => Qz (cs := [.slice A4 x0.Segments.length c5, .int .i64 x0.Now]) Qaf Qae rfl rfl (hm.boxCells (n := 1) rfl)) ?_
   refine wcs Qcz x0 (Qr Qlk rfl) (fun W hm => Qls W _ x0 (Qeg (x := x0) (hm.rdS0 r7)) s_0) (fun z222 => ?_)
   refine Qgd ?_
   rintro v223 rfl
   refine Qs (n := 0) rfl ?_
   rintro A224 c225 rfl m226
   let I48 : It := Qd (tSl (tSl Qm 191) 131) [.slice A224 x0.Segments.length c225] x0.Segments
   refine sb 0 [.slice A224 x0.Segments.length c225, .int .i64 x0.Now] [I48, I30] (pk [1, 0, 2]) Qae ?_
   refine wa (nt' (Qj ?_))
   have he228 := (show Qdc x0 x1 = (x0, false) from Qb g28 (Qb g30 (Qc g32 (Qc g35 (Qc g43 (Qc g159 (Qc g196 (Qat hE221 (rfl)))))))))
   refine Qdx rfl (Qcp (n := 0) rfl rfl Qaf Qae rfl) (Qcv rfl) (fun W hm => ⟨[.slice A224 x0.Segments.length c225, .int .i64 x0.Now], ?_, ?_⟩)
   ·first | rw [he228] | rfl
    try rfl
   rw [he228]; exact Mem.join (is := [I48]) (js := []) (fun _ _ hs => Qed (x := x0) hs) (hm.pick [1] (by decide))
  refine ws (nf g30) ?_
  refine ws (nf g30) ?_
  refine ws (nf g30) ?_
  refine wv (vpT (nf g30)) ?_
  refine nt' ?_
  refine Ql rfl rfl ?_
  refine sr ?_
  refine wv (fun W hm => Qz (cs := [.slice A22 x0.Segments.length c23, .int .i64 x0.Now]) Qaf Qae rfl rfl (hm.boxCells (n := 0) rfl)) ?_
  refine sb 0 [.slice A22 x0.Segments.length c23, .int .i64 x0.Now] [Qa p26 42 [.slice A22 x0.Segments.length c23, .int .i64 x0.Now], I29, Qa p18 75 K9, I30] (pk [2, 0, 1, 3, 4]) Qae ?_
  refine wa (nt' (Qj (Qe ?_)))
  have he229 := (show Qdc x0 x1 = (x0, false) from Qb g28 (Qc g30 (rfl)))
  refine Qdx rfl (Qcp (n := 0) rfl rfl Qaf Qae rfl) (Qcv rfl) (fun W hm => ⟨[.slice A22 x0.Segments.length c23, .int .i64 x0.Now], ?_, ?_⟩)
  ·first | rw [he229] | rfl
   try rfl
  rw [he229]; exact Mem.join (is := [I29]) (js := []) (fun _ _ hs => Qed (x := x0) hs) (hm.pick [2] (by decide))
 refine ws (nf g28) ?_
 refine ws (nf g28) ?_
 refine ws (nf g28) ?_
 refine wv (vpT (nf g28)) ?_
 refine wm ?_
 refine wk ?_
 refine wk ?_
 refine wk ?_
 refine wv (vpT rfl) ?_
 refine nt' ?_
 refine Ql rfl rfl ?_
 refine sr ?_
 refine wv (fun W hm => Qz (cs := [.slice A22 x0.Segments.length c23, .int .i64 x0.Now]) Qaf Qae rfl rfl (hm.boxCells (n := 0) rfl)) ?_
 refine sb 0 [.slice A22 x0.Segments.length c23, .int .i64 x0.Now] [Qa p26 42 [.slice A22 x0.Segments.length c23, .int .i64 x0.Now], I29, Qa p18 75 K9, I30] (pk [2, 0, 1, 3, 4]) Qae ?_
 refine wa (nt' (Qj (Qe ?_)))
 have he230 := (show Qdc x0 x1 = (x0, false) from Qc g28 (rfl))
 refine Qdx rfl (Qcp (n := 0) rfl rfl Qaf Qae rfl) (Qcv rfl) (fun W hm => ⟨[.slice A22 x0.Segments.length c23, .int .i64 x0.Now], ?_, ?_⟩)
 ·first | rw [he230] | rfl
  try rfl
 rw [he230]; exact Mem.join (is := [I29]) (js := []) (fun _ _ hs => Qed (x := x0) hs) (hm.pick [2] (by decide))

def Qaaa (x0 : (List Int)) (x1 : Int) (k6 : Nat) : Bool ⊕ (Unit) :=
 cond ((gt x0 k6) == x1) (Sum.inl true) (Sum.inr ())
def Qmw (x0 : (List Int)) (x1 : Int) : Bool :=
 Sum.elim id (fun (s : Unit) => false) (rng (R := Bool) (fun k (_ : Unit) => Qaaa x0 x1 k) (x0.length - 0) 0 ())
theorem Qafs : Cb Tryz.prog 108 := ⟨f108, _, func108, rfl, by decide⟩
theorem Qald (w : World) (z0 : Value) (x0 : (List Int)) (x1 : Int) (r_0 : rdS Qg w w.heap.size z0 x0) :
  Calls Tryz.prog 108 #[z0, .int .i64 x1] w fun e w' => e = .returned (.bool (Qmw x0 x1)) ∧ Below w.heap.size w w' := by
 obtain ⟨m1, A2, c3, rfl, q4, r5⟩ := Qk r_0
 refine ce2 (L := [(0, .slice A2 x0.length c3), (1, .int .i64 x1)]) (N := 17) func108 ?_
 refine sr (wa (nt' (Qf (sr (wm ?_)))))
 refine wv (Qai Qv) ?_
 refine wm (nt' (Qab ?_))
 let F1 := fun k (_ : Unit) => Qaaa x0 x1 k
 let R2 := rng (R := Bool) F1
 refine Qbl (σ := Nat × (Unit) × (Unit)) (fun s => [(1, .int .i64 x1), (7, .slice A2 x0.length c3), (8, .int .i64 ((x0.length : Nat) : Int)), (9, .int .i64 ((s.1 : Nat) : Int))]) (fun s => []) (fun s => s.1 ≤ x0.length ∧ R2 (x0.length - s.1) s.1 s.2.1 = R2 (x0.length - 0) 0 ()) (fun s => x0.length - s.1) (0, (), ()) sl4 (fun W hm => hm) ⟨(by omega), rfl⟩ ?_
 rintro ⟨k6, ⟨⟩, ⟨⟩⟩ H9
 obtain ⟨hk7, hF8⟩ : k6 ≤ x0.length ∧ R2 (x0.length - k6) k6 () = R2 (x0.length - 0) 0 () := H9
 show CM Tryz.prog 17 _ _ _ _ [(1, .int .i64 x1), (7, .slice A2 x0.length c3), (8, .int .i64 ((x0.length : Nat) : Int)), (9, .int .i64 ((k6 : Nat) : Int))] []
 refine sr ?_
 refine wv Qak ?_
 refine nt' (Qf ?_)
 by_cases hl10 : k6 < x0.length
 ·have g11 := dlT hl10
  refine Ql rfl g11 ?_
  refine Qq (Qi (Qf (Qab (sr ?_))))
  obtain ⟨a12, rfl, hb13, he14⟩ := q4 (by omega)
  refine wv (vix 1 k6 Qv Qh) ?_
  refine wv (fun W hm => Qaw Qt rfl rfl ((hm.cell0 (show (a12.add (k6 * 1)).block < w.heap.size from by rw [Qah]; exact hb13.1)).trans (Qex he14 k6 (by omega)))) ?_
  refine wa (nt' (sr (wm (wm ?_))))
  refine wv (fun W hm => Qdj rfl rfl) ?_
  refine nt' ?_
  by_cases h15 : (gt x0 k6) = x1
  ·have g16 := beq_iff_eq.2 h15
   refine Ql rfl g16 ?_
   refine sr (wa (nt' (Qj (Qy (Qe (Qe (Qy (Qe ?_))))))))
   exact rtb (h := Qba (Qbc (body := F1) (k := k6) (s := ()) (show k6 < x0.length from by omega) (Qb g16 (rfl)) hF8) rfl)
  have g16 := beq_eq_false_iff_ne.2 h15
  refine Qp rfl g16 ?_
  refine Qq (Qax (Qi (Qad ?_)))
  refine wv (Qbd k6 1 (by omega)) ?_
  refine wm (Qal ?_)
  have hn17 := Qbb (R := Bool) (body := F1) (k := k6) (s := ()) (s' := ()) (show k6 < x0.length from by omega) (Qc g16 (rfl)) hF8
  exact Qaz (k6 + 1, (), ()) sl4 (fun W hm => hm) ⟨(by omega), hn17⟩ (rl (by omega))
 have g11 := dlF hl10
 refine Qp rfl g11 ?_
 refine Qbk (Qac (Qac ?_))
 have hE18 : R2 (x0.length - 0) 0 () = Sum.inr () := Qbn hl10 hF8
 refine Qbm (Qi (sr (wa (nt' (Qj ?_)))))
 exact rtb (h := Qat hE18 (rfl))

def Qaab (x0 : (List Int)) (k6 : Nat) : Bool ⊕ (Unit) :=
 cond (Qmw x0 ((k6 : Nat) : Int)) (Sum.inr ()) (Sum.inl false)
def Qpn (x0 : (List Int)) : Bool :=
 Sum.elim id (fun (s : Unit) => (((x0.length : Nat) : Int) == 3)) (rng (R := Bool) (fun k (_ : Unit) => Qaab x0 k) (3 - 0) 0 ())
theorem Qafu : Cb Tryz.prog 119 := ⟨f119, _, func119, rfl, by decide⟩
theorem Qalf (w : World) (z0 : Value) (x0 : (List Int)) (r_0 : rdS Qg w w.heap.size z0 x0) :
  Calls Tryz.prog 119 #[z0] w fun e w' => e = .returned (.bool (Qpn x0)) ∧ Below w.heap.size w w' := by
 obtain ⟨m1, A2, c3, rfl, q4, r5⟩ := Qk r_0
 refine ce1 (L := [(0, .slice A2 x0.length c3)]) (N := 15) func119 ?_
 refine sr (wa (nt' (Qf (sr (wa (nt' (Qab ?_)))))))
 let F1 := fun k (_ : Unit) => Qaab x0 k
 let R2 := rng (R := Bool) F1
 refine Qbl (σ := Nat × (Unit) × (Unit)) (fun s => [(0, .slice A2 x0.length c3), (3, .int .i64 ((s.1 : Nat) : Int))]) (fun s => []) (fun s => s.1 ≤ 3 ∧ R2 (3 - s.1) s.1 s.2.1 = R2 (3 - 0) 0 ()) (fun s => 3 - s.1) (0, (), ()) sl2 (fun W hm => hm) ⟨(by omega), rfl⟩ ?_
 rintro ⟨k6, ⟨⟩, ⟨⟩⟩ H9
 obtain ⟨hk7, hF8⟩ : k6 ≤ 3 ∧ R2 (3 - k6) k6 () = R2 (3 - 0) 0 () := H9
 show CM Tryz.prog 15 _ _ _ _ [(0, .slice A2 x0.length c3), (3, .int .i64 ((k6 : Nat) : Int))] []
 refine Qf (sr (wm ?_))
 refine wv Qak ?_
 refine nt' ?_
 by_cases hl10 : k6 < 3
 ·have g11 : (decide (((k6 : Nat) : Int) < 3)) = true := decide_eq_true (by omega)
  refine Ql rfl g11 ?_
  refine Qq (Qi (Qf (Qab (sr (wm (wm ?_))))))
  refine wcv (Qr Qafs rfl) (fun W hm => Qald W _ x0 ((k6 : Nat) : Int) (hm.rdS0 r5)) ?_
  refine wv Qbr ?_
  refine nt' ?_
  rcases Bool.eq_false_or_eq_true (Qmw x0 ((k6 : Nat) : Int)) with g13 | g13
  ·
   refine Qp rfl (nt g13) ?_
   refine Qq (Qax (Qi (Qad (wm ?_))))
   refine wv (Qbd k6 1 (by omega)) ?_
   refine wa (Qal ?_)
   have hn14 := Qbb (R := Bool) (body := F1) (k := k6) (s := ()) (s' := ()) (show k6 < 3 from by omega) (Qb g13 (rfl)) hF8
   exact Qaz (k6 + 1, (), ()) sl2 (fun W hm => hm) ⟨(by omega), hn14⟩ (rl (by omega))
  refine Ql rfl (nf g13) ?_
  refine sr (wa (nt' (Qj (Qy (Qe (Qe (Qy (Qe ?_))))))))
  exact rtb (h := Qba (Qbc (body := F1) (k := k6) (s := ()) (show k6 < 3 from by omega) (Qc g13 (rfl)) hF8) rfl)
 have g11 : (decide (((k6 : Nat) : Int) < 3)) = false := decide_eq_false (by omega)
 refine Qp rfl g11 ?_
 refine Qbk (Qac (Qac ?_))
 have hE15 : R2 (3 - 0) 0 () = Sum.inr () := Qbn hl10 hF8
 refine Qbm (Qi (sr (wm ?_)))
 refine wv (Qai Qv) ?_
 refine wv (fun W hm => Qdj rfl rfl) ?_
 refine wa (nt' (Qj ?_))
 exact rtb (h := Qat hE15 (rfl))

def Qpi (x0 : Qby) : Bool :=
 cond (Qlt x0.Field) (cond (decide (0 ≤ x0.Low)) (cond (decide (x0.Low ≤ x0.High)) (decide (x0.High ≤ 99)) false) false) false
theorem Qahe : Cb Tryz.prog 185 := ⟨f185, _, func185, rfl, by decide⟩
theorem Qajs (w : World) (z0 : List Value) (x0 : Qby) (r_0 : Qbz.rd w w.heap.size z0 x0) :
  Calls Tryz.prog 185 #[.agg z0.toArray] w fun e w' => e = .returned (.bool (Qpi x0)) ∧ Below w.heap.size w w' := by
 obtain rfl := Qjk r_0
 refine ce1 (L := [(0, .agg #[.int .i64 x0.Field, .int .i64 x0.Low, .int .i64 x0.High])]) (N := 23) func185 ?_
 refine sr ?_
 refine Qbj rfl (Qo rfl) (by decide) (fun p1 => ?_)
 refine wa (nt' (sr ?_))
 refine wv (vf Qei rfl Qh) ?_
 refine wv (vl 0 0 Qt) ?_
 refine wcv (Qr Qtl rfl) (fun W hm => Qun W x0.Field) ?_
 refine wm ?_
 rcases Bool.eq_false_or_eq_true (Qlt x0.Field) with g3 | g3
 ·
  refine wg (vf Qei rfl Qh) g3 ?_
  refine wg (vl 0 1 Qt) g3 ?_
  refine wg (fun W hm => Qii rfl rfl) g3 ?_
  refine wv (vpT g3) ?_
  refine wm ?_
  by_cases h4 : 0 ≤ x0.Low
  ·have g5 := decide_eq_true h4
   refine wg (vf Qei rfl Qh) g5 ?_
   refine wg (vl 0 1 Qt) g5 ?_
   refine wg (vf Qei rfl Qh) g5 ?_
   refine wg (vl 0 2 Qt) g5 ?_
   refine wg (fun W hm => Qgv rfl rfl) g5 ?_
   refine wv (vpT g5) ?_
   refine wm ?_
   by_cases h6 : x0.Low ≤ x0.High
   ·have g7 := decide_eq_true h6
    refine wg (vf Qei rfl Qh) g7 ?_
    refine wg (vl 0 2 Qt) g7 ?_
    refine wg (fun W hm => Qgv rfl rfl) g7 ?_
    refine wv (vpT g7) ?_
    refine wa (nt' (Qj ?_))
    exact rtb (h := Qb g3 (Qb g5 (Qb g7 (rfl))))
   have g7 := decide_eq_false h6
   refine ws g7 ?_
   refine ws g7 ?_
   refine ws g7 ?_
   refine wv (vpF g7) ?_
   refine wa (nt' (Qj ?_))
   exact rtb (h := Qb g3 (Qb g5 (Qc g7 (rfl))))
  have g5 := decide_eq_false h4
  refine ws g5 ?_
  refine ws g5 ?_
  refine ws g5 ?_
  refine ws g5 ?_
  refine ws g5 ?_
  refine wv (vpF g5) ?_
  refine wm ?_
  refine wk ?_
  refine wk ?_
  refine wk ?_
  refine wv (vpF rfl) ?_
  refine wa (nt' (Qj ?_))
  exact rtb (h := Qb g3 (Qc g5 (rfl)))
 refine ws g3 ?_
 refine ws g3 ?_
 refine ws g3 ?_
 refine wv (vpF g3) ?_
 refine wm ?_
 refine wk ?_
 refine wk ?_
 refine wk ?_
 refine wk ?_
 refine wk ?_
 refine wv (vpF rfl) ?_
 refine wm ?_
 refine wk ?_
 refine wk ?_
 refine wk ?_
 refine wv (vpF rfl) ?_
 refine wa (nt' (Qj ?_))
 exact rtb (h := Qc g3 (rfl))

def Qtu (x0 : Qcg) (k45 : Nat) : Bool ⊕ (Unit) :=
 cond (Qlt (gt x0.Out k45)) (Sum.inr ()) (Sum.inl false)
def Qrk (x0 : Qcg) (k22 : Nat) : Bool ⊕ (Unit) :=
 cond (Qpi (gt x0.Conds k22)) (cond (decide (0 < ((k22 : Nat) : Int))) (cond (decide (((gt x0.Conds k22).Field) ≤ ((gt x0.Conds (k22 - 1)).Field))) (Sum.inl false) (Sum.inr ())) (Sum.inr ())) (Sum.inl false)
def Qmv (x0 : Qcg) : Bool :=
 cond (Qdg x0.Id 0 23) (cond (Qdg x0.Tenant 0 3) (cond (decide (3 < ((x0.Conds.length : Nat) : Int))) false (Sum.elim id (fun (s1_ : Unit) => Sum.elim id (fun (s : Unit) => (Qdg ((x0.Out.length : Nat) : Int) 1 3)) (rng (R := Bool) (fun k (_ : Unit) => Qtu x0 k) (x0.Out.length - 0) 0 ())) (rng (R := Bool) (fun k (_ : Unit) => Qrk x0 k) (x0.Conds.length - 0) 0 ()))) false) false
theorem Qyg : Cb Tryz.prog 121 := ⟨f121, _, func121, rfl, by decide⟩
theorem Qzt (w : World) (z0 : List Value) (x0 : Qcg) (r_0 : Qez.rd w w.heap.size z0 x0) :
  Calls Tryz.prog 121 #[.agg z0.toArray] w fun e w' => e = .returned (.bool (Qmv x0)) ∧ Below w.heap.size w w' := by
 obtain ⟨v1, v3, rfl, r2, r4⟩ := Qpa r_0
 obtain ⟨m5, A6, c7, rfl, q8, r9⟩ := Qk r2
 obtain ⟨m10, A11, c12, rfl, q13, r14⟩ := Qk r4
 refine ce1 (L := [(0, .agg #[.int .i64 x0.Id, .int .i64 x0.Tenant, .slice A6 x0.Conds.length c7, .slice A11 x0.Out.length c12])]) (N := 66) func121 ?_
 refine sr ?_
 refine Qbj rfl (Qo rfl) (by decide) (fun p15 => ?_)
 refine wa (nt' (Qf (sr ?_)))
 refine wv (vf Qch rfl Qh) ?_
 refine wv (vl 0 0 Qt) ?_
 refine wcv (Qr Qfc rfl) (fun W hm => Qfd W x0.Id 0 23) ?_
 refine wv Qbr ?_
 refine wm ?_
 rcases Bool.eq_false_or_eq_true (Qdg x0.Id 0 23) with g17 | g17
 ·
  have hw := Qfv g17
  refine wg (vf Qch rfl Qh) (nt g17) ?_
  refine wg (vl 0 1 Qt) (nt g17) ?_
  refine Qdm (Qr Qfc rfl) (fun W hm => Qfd W x0.Tenant 0 3) (Qcq rfl rfl rfl (bw (nt g17) rfl)) (by decide) ?_
  refine wg Qbr (nt g17) ?_
  refine wv (vpF (nt g17)) ?_
  refine wm ?_
  rcases Bool.eq_false_or_eq_true (Qdg x0.Tenant 0 3) with g19 | g19
  ·
   have hw := Qfv g19
   refine wg (vf Qch rfl type32) (nt g19) ?_
   refine wg (vl 0 2 Qds) (nt g19) ?_
   refine wg (Qai Qds) (nt g19) ?_
   refine wg (fun W hm => Qfy rfl rfl) (nt g19) ?_
   refine wv (vpF (nt g19)) ?_
   refine nt' ?_
   by_cases h20 : 3 < ((x0.Conds.length : Nat) : Int)
   ·have g21 := decide_eq_true h20
    refine Ql rfl g21 ?_
    refine sr (wa (nt' (Qj (Qe ?_))))
    exact rtb (h := Qb g17 (Qb g19 (Qb g21 (rfl))))
   have g21 := decide_eq_false h20
   refine Qp rfl g21 ?_
   refine Qq (Qi (Qf (sr ?_)))
   refine wv (vf Qch rfl type32) ?_
   refine wv (vl 0 2 Qds) ?_
   refine wv (Qai Qds) ?_
   refine wm (nt' (Qab ?_))
   let F1 := fun k (_ : Unit) => Qrk x0 k
   let R3 := rng (R := Bool) F1
   let K5 : List Value := [.int .i64 x0.Id, .int .i64 x0.Tenant, .slice A6 x0.Conds.length c7, .slice A11 x0.Out.length c12]
   refine Qbl (σ := Nat × (Unit) × (Unit)) (fun s => [(1, .pointer (some (⟨p15, 0, none⟩ : Addr))), (24, .slice A6 x0.Conds.length c7), (25, .int .i64 ((x0.Conds.length : Nat) : Int)), (26, .int .i64 ((s.1 : Nat) : Int))]) (fun s => [Qa p15 34 K5]) (fun s => s.1 ≤ x0.Conds.length ∧ R3 (x0.Conds.length - s.1) s.1 s.2.1 = R3 (x0.Conds.length - 0) 0 ()) (fun s => x0.Conds.length - s.1) (0, (), ()) sl4 (fun W hm => hm) ⟨(by omega), rfl⟩ ?_
   rintro ⟨k22, ⟨⟩, ⟨⟩⟩ H25
   obtain ⟨hk23, hF24⟩ : k22 ≤ x0.Conds.length ∧ R3 (x0.Conds.length - k22) k22 () = R3 (x0.Conds.length - 0) 0 () := H25
   show CM Tryz.prog 66 _ _ _ _ [(1, .pointer (some (⟨p15, 0, none⟩ : Addr))), (24, .slice A6 x0.Conds.length c7), (25, .int .i64 ((x0.Conds.length : Nat) : Int)), (26, .int .i64 ((k22 : Nat) : Int))] [Qa p15 34 K5]
   refine sr ?_
   refine wv Qak ?_
   refine nt' (Qf ?_)
   by_cases hl26 : k22 < x0.Conds.length
   ·have g27 := dlT hl26
    refine Ql rfl g27 ?_
    refine Qq (Qi (Qf (Qab (sr (wm ?_)))))
    obtain ⟨a28, rfl, hb29, he30⟩ := q8 (by omega)
    refine wv (vix 3 k22 Qds Qeh) ?_
    obtain ⟨_, e32, hc31⟩ := he30 k22 _ (Qca (show k22 < x0.Conds.length from by omega))
    obtain rfl := Qjk e32
    let K6 : List Value := [.int .i64 ((gt x0.Conds k22).Field), .int .i64 ((gt x0.Conds k22).Low), .int .i64 ((gt x0.Conds k22).High)]
    refine wv (fun W hm => Qz (cs := K6) Qei Qeh rfl rfl (hm.elCells (show (a28.add (k22 * 3)).block < w.heap.size from by rw [Qah]; exact hb29.1) hc31)) ?_
    refine Qbo Qeh rfl (Qo rfl) (by decide) (fun p33 => ?_)
    refine wa ?_
    refine sb 0 K6 [Qa p15 34 [.int .i64 x0.Id, .int .i64 x0.Tenant, .slice (some a28) x0.Conds.length c7, .slice A11 x0.Out.length c12]] (fun W hm => hm) Qeh ?_
    refine nt' (Qf ?_)
    refine Qge (by kernel_rfl) (by kernel_rfl) ?_
    refine qv (fun W hm => Qz (cs := K6) Qei Qeh rfl rfl (hm.boxCells (n := 0) rfl)) ?_
    refine Qfu (Qr Qahe rfl) (fun W hm => Qajs W _ (gt x0.Conds k22) (Qsr (x := (gt x0.Conds k22)))) (Qo rfl) (by decide) ?_
    refine qv Qbr ?_
    refine qm ?_
    rcases Bool.eq_false_or_eq_true (Qpi (gt x0.Conds k22)) with g35 | g35
    ·
     refine qg vmv (nt g35) ?_
     refine qg (fun W hm => Qfy rfl rfl) (nt g35) ?_
     refine qg vmv (nt g35) ?_
     by_cases h36 : 0 < ((k22 : Nat) : Int)
     ·have g37 := decide_eq_true h36
      refine qg (vf Qch rfl type32) g37 ?_
      refine qg (vl 1 2 Qds) g37 ?_
      refine qg vmv g37 ?_
      refine qg (fun W hm => Qml (p := k22) (q := 1) rfl rfl (by omega) (by omega)) g37 ?_
      refine qg (fun W hm => Qkf (sz := 3) (k := k22 - 1) Qds Qeh rfl rfl rfl (by omega)) g37 ?_
      refine qg (vf Qei rfl Qh) g37 ?_
      obtain ⟨_, e39, hc38⟩ := he30 (k22 - 1) _ (Qca (show (k22 - 1) < x0.Conds.length from by omega))
      obtain rfl := Qjk e39
      refine qg (fun W hm => Qaw Qt rfl rfl ((hm.cell0 (show ((a28.add ((k22 - 1) * 3)).add 0).block < w.heap.size from by rw [Qah, Qah]; exact hb29.1)).trans (hc38 0 _ rfl))) g37 ?_
      refine qg (vf Qei rfl Qh) g37 ?_
      refine qg (vl 0 0 Qt) g37 ?_
      refine qg (fun W hm => Qii rfl rfl) g37 ?_
      refine qg (vpT g37) (nt g35) ?_
      refine qv (vpF (nt g35)) ?_
      refine nq' ?_
      by_cases h40 : ((gt x0.Conds k22).Field) ≤ ((gt x0.Conds (k22 - 1)).Field)
      ·have g41 := decide_eq_true h40
       refine Ql rfl g41 ?_
       refine sr (wa (nt' (Qj (Qy (Qe (Qe (Qy (Qe ?_))))))))
       exact rtb (h := Qb g17 (Qb g19 (Qc g21 (Qba (Qbc (body := F1) (k := k22) (s := ()) (show k22 < x0.Conds.length from by omega) (Qb g35 (Qb g37 (Qb g41 (rfl)))) hF24) rfl))))
      have g41 := decide_eq_false h40
      refine Qp rfl g41 ?_
      refine Qq (Qax (Qi (Qad ?_)))
      refine wv (Qbd k22 1 (by omega)) ?_
      refine wm (Qal ?_)
      have hn42 := Qbb (R := Bool) (body := F1) (k := k22) (s := ()) (s' := ()) (show k22 < x0.Conds.length from by omega) (Qb g35 (Qb g37 (Qc g41 (rfl)))) hF24
      exact Qaz (k22 + 1, (), ()) sl4 (pk [1]) ⟨(by omega), hn42⟩ (rl (by omega))
     have g37 := decide_eq_false h36
     refine qs g37 ?_
     refine qs g37 ?_
     refine qs g37 ?_
     refine qs g37 ?_
     refine qs g37 ?_
     refine qs g37 ?_
     refine qs g37 ?_
     refine qs g37 ?_
     refine qs g37 ?_
     refine qs g37 ?_
     refine qg (vpF g37) (nt g35) ?_
     refine qv (vpF (nt g35)) ?_
     refine nq' ?_
     refine Qp rfl rfl ?_
     refine Qq (Qax (Qi (Qad ?_)))
     refine wv (Qbd k22 1 (by omega)) ?_
     refine wm (Qal ?_)
     have hn43 := Qbb (R := Bool) (body := F1) (k := k22) (s := ()) (s' := ()) (show k22 < x0.Conds.length from by omega) (Qb g35 (Qc g37 (rfl))) hF24
     exact Qaz (k22 + 1, (), ()) sl4 (pk [1]) ⟨(by omega), hn43⟩ (rl (by omega))
    refine qs (nf g35) ?_
    refine qs (nf g35) ?_
    refine qs (nf g35) ?_
    refine qu ?_
    refine qu ?_
    refine qu ?_
    refine qu ?_
    refine qu ?_
    refine qu ?_
    refine qu ?_
    refine qu ?_
    refine qu ?_
    refine qu ?_
    refine qs (nf g35) ?_
    refine qv (vpT (nf g35)) ?_
    refine nq' ?_
    refine Ql rfl rfl ?_
    refine sr (wa (nt' (Qj (Qy (Qe (Qe (Qy (Qe ?_))))))))
    exact rtb (h := Qb g17 (Qb g19 (Qc g21 (Qba (Qbc (body := F1) (k := k22) (s := ()) (show k22 < x0.Conds.length from by omega) (Qc g35 (rfl)) hF24) rfl))))
   have g27 := dlF hl26
   refine Qp rfl g27 ?_
   refine Qbk (Qac (Qac ?_))
   have hE44 : R3 (x0.Conds.length - 0) 0 () = Sum.inr () := Qbn hl26 hF24
   refine Qbm (Qi (Qf (sr ?_)))
   refine wv (vf Qch rfl Qap) ?_
   refine wv (vl 0 3 Qv) ?_
   refine wv (Qai Qv) ?_
   refine wm (nt' (Qab ?_))
   let F2 := fun k (_ : Unit) => Qtu x0 k
   let R4 := rng (R := Bool) F2
   refine Qbl (σ := Nat × (Unit) × (Unit)) (fun s => [(1, .pointer (some (⟨p15, 0, none⟩ : Addr))), (52, .slice A11 x0.Out.length c12), (53, .int .i64 ((x0.Out.length : Nat) : Int)), (54, .int .i64 ((s.1 : Nat) : Int))]) (fun s => [Qa p15 34 K5]) (fun s => s.1 ≤ x0.Out.length ∧ R4 (x0.Out.length - s.1) s.1 s.2.1 = R4 (x0.Out.length - 0) 0 ()) (fun s => x0.Out.length - s.1) (0, (), ()) sl4 (fun W hm => hm) ⟨(by omega), rfl⟩ ?_
   rintro ⟨k45, ⟨⟩, ⟨⟩⟩ H48
   obtain ⟨hk46, hF47⟩ : k45 ≤ x0.Out.length ∧ R4 (x0.Out.length - k45) k45 () = R4 (x0.Out.length - 0) 0 () := H48
   show CM Tryz.prog 66 _ _ _ _ [(1, .pointer (some (⟨p15, 0, none⟩ : Addr))), (52, .slice A11 x0.Out.length c12), (53, .int .i64 ((x0.Out.length : Nat) : Int)), (54, .int .i64 ((k45 : Nat) : Int))] [Qa p15 34 K5]
   refine sr ?_
   refine wv Qak ?_
   refine nt' (Qf ?_)
   by_cases hl49 : k45 < x0.Out.length
   ·have g50 := dlT hl49
    refine Ql rfl g50 ?_
    refine Qq (Qi (Qf (Qab (sr ?_))))
    obtain ⟨a51, rfl, hb52, he53⟩ := q13 (by omega)
    refine wv (vix 1 k45 Qv Qh) ?_
    refine wv (fun W hm => Qaw Qt rfl rfl ((hm.cell0 (show (a51.add (k45 * 1)).block < w.heap.size from by rw [Qah]; exact hb52.1)).trans (Qex he53 k45 (by omega)))) ?_
    refine wa (nt' (sr (wm ?_)))
    refine wcv (Qr Qtl rfl) (fun W hm => Qun W (gt x0.Out k45)) ?_
    refine wv Qbr ?_
    refine nt' ?_
    rcases Bool.eq_false_or_eq_true (Qlt (gt x0.Out k45)) with g55 | g55
    ·
     refine Qp rfl (nt g55) ?_
     refine Qq (Qax (Qi (Qad ?_)))
     refine wv (Qbd k45 1 (by omega)) ?_
     refine wm (Qal ?_)
     have hn56 := Qbb (R := Bool) (body := F2) (k := k45) (s := ()) (s' := ()) (show k45 < x0.Out.length from by omega) (Qb g55 (rfl)) hF47
     exact Qaz (k45 + 1, (), ()) sl4 (fun W hm => hm) ⟨(by omega), hn56⟩ (rl (by omega))
    refine Ql rfl (nf g55) ?_
    refine sr (wa (nt' (Qj (Qy (Qe (Qe (Qy (Qe ?_))))))))
    exact rtb (h := Qb g17 (Qb g19 (Qc g21 (Qat hE44 (Qba (Qbc (body := F2) (k := k45) (s := ()) (show k45 < x0.Out.length from by omega) (Qc g55 (rfl)) hF47) rfl)))))
   have g50 := dlF hl49
   refine Qp rfl g50 ?_
   refine Qbk (Qac (Qac ?_))
   have hE57 : R4 (x0.Out.length - 0) 0 () = Sum.inr () := Qbn hl49 hF47
   refine Qbm (Qi (sr ?_))
   refine wv (vf Qch rfl Qap) ?_
   refine wv (vl 0 3 Qv) ?_
   refine wv (Qai Qv) ?_
   refine wcv (Qr Qfc rfl) (fun W hm => Qfd W ((x0.Out.length : Nat) : Int) 1 3) ?_
   refine wa (nt' (Qj ?_))
   exact rtb (h := Qb g17 (Qb g19 (Qc g21 (Qat hE44 (Qat hE57 (rfl))))))
  refine ws (nf g19) ?_
  refine ws (nf g19) ?_
  refine ws (nf g19) ?_
  refine ws (nf g19) ?_
  refine wv (vpT (nf g19)) ?_
  refine nt' ?_
  refine Ql rfl rfl ?_
  refine sr (wa (nt' (Qj (Qe ?_))))
  exact rtb (h := Qb g17 (Qc g19 (rfl)))
 refine ws (nf g17) ?_
 refine ws (nf g17) ?_
 refine ws (nf g17) ?_
 refine ws (nf g17) ?_
 refine wv (vpT (nf g17)) ?_
 refine wm ?_
 refine wk ?_
 refine wk ?_
 refine wk ?_
 refine wk ?_
 refine wv (vpT rfl) ?_
 refine nt' ?_
 refine Ql rfl rfl ?_
 refine sr (wa (nt' (Qj (Qe ?_))))
 exact rtb (h := Qc g17 (rfl))

def Qua (x0 : (List Qaj)) (k6 : Nat) : Bool ⊕ (Unit) :=
 cond (Qjd (gt x0 k6)) (Sum.inr ()) (Sum.inl false)
def Qub (x0 : (List Qaj)) : Bool :=
 Sum.elim id (fun (s : Unit) => true) (rng (R := Bool) (fun k (_ : Unit) => Qua x0 k) (x0.length - 0) 0 ())
theorem Qahf : Cb Tryz.prog 187 := ⟨f187, _, func187, rfl, by decide⟩
theorem Qake (w : World) (z0 : Value) (x0 : (List Qaj)) (r_0 : rdS Qbp w w.heap.size z0 x0) :
  Calls Tryz.prog 187 #[z0] w fun e w' => e = .returned (.bool (Qub x0)) ∧ Below w.heap.size w w' := by
 obtain ⟨m1, A2, c3, rfl, q4, r5⟩ := Qk r_0
 refine ce1 (L := [(0, .slice A2 x0.length c3)]) (N := 15) func187 ?_
 refine sr (wa (nt' (Qf (sr (wm ?_)))))
 refine wv (Qai Qdv) ?_
 refine wm (nt' (Qab ?_))
 let F1 := fun k (_ : Unit) => Qua x0 k
 let R2 := rng (R := Bool) F1
 refine Qbl (σ := Nat × (Unit) × (Unit)) (fun s => [(5, .slice A2 x0.length c3), (6, .int .i64 ((x0.length : Nat) : Int)), (7, .int .i64 ((s.1 : Nat) : Int))]) (fun s => []) (fun s => s.1 ≤ x0.length ∧ R2 (x0.length - s.1) s.1 s.2.1 = R2 (x0.length - 0) 0 ()) (fun s => x0.length - s.1) (0, (), ()) sl3 (fun W hm => hm) ⟨(by omega), rfl⟩ ?_
 rintro ⟨k6, ⟨⟩, ⟨⟩⟩ H9
 obtain ⟨hk7, hF8⟩ : k6 ≤ x0.length ∧ R2 (x0.length - k6) k6 () = R2 (x0.length - 0) 0 () := H9
 show CM Tryz.prog 15 _ _ _ _ [(5, .slice A2 x0.length c3), (6, .int .i64 ((x0.length : Nat) : Int)), (7, .int .i64 ((k6 : Nat) : Int))] []
 refine sr ?_
 refine wv Qak ?_
 refine nt' (Qf ?_)
 by_cases hl10 : k6 < x0.length
 ·have g11 := dlT hl10
  refine Ql rfl g11 ?_
  refine Qq (Qi (Qf (Qab (sr ?_))))
  obtain ⟨a12, rfl, hb13, he14⟩ := q4 (by omega)
  refine wv (vix 2 k6 Qdv Qcc) ?_
  obtain ⟨_, e18, hc15⟩ := he14 k6 _ (Qca (show k6 < x0.length from by omega))
  obtain ⟨v16, rfl, r17⟩ := Qin e18
  obtain ⟨m19, A20, c21, rfl, q22, r23⟩ := Qk r17
  let K3 : List Value := [.int .i64 ((gt x0 k6).Id), .slice A20 ((gt x0 k6).Values).length c21]
  refine wv (fun W hm => Qz (cs := K3) Qde Qcc rfl rfl (hm.elCells (show (a12.add (k6 * 2)).block < w.heap.size from by rw [Qah]; exact hb13.1) hc15)) ?_
  refine Qbo Qcc rfl (Qo rfl) (by decide) (fun p24 => ?_)
  refine sb 0 K3 [] (fun W hm => hm) Qcc ?_
  refine nt' (sr ?_)
  refine wv (fun W hm => Qz (cs := K3) Qde Qcc rfl rfl (hm.boxCells (n := 0) rfl)) ?_
  refine wcv (Qr Qra rfl) (fun W hm => Qrl W _ (gt x0 k6) (Qim (x := (gt x0 k6)) (hm.rdS0 r23))) ?_
  refine wv Qbr ?_
  refine nt' ?_
  rcases Bool.eq_false_or_eq_true (Qjd (gt x0 k6)) with g26 | g26
  ·
   refine Qp rfl (nt g26) ?_
   refine Qq (Qax (Qi (Qad ?_)))
   refine wv (Qbd k6 1 (by omega)) ?_
   refine wm (Qal ?_)
   have hn27 := Qbb (R := Bool) (body := F1) (k := k6) (s := ()) (s' := ()) (show k6 < x0.length from by omega) (Qb g26 (rfl)) hF8
   exact Qaz (k6 + 1, (), ()) sl3 (pk []) ⟨(by omega), hn27⟩ (rl (by omega))
  refine Ql rfl (nf g26) ?_
  refine sr (wa (nt' (Qj (Qy (Qe (Qe (Qy (Qe ?_))))))))
  exact rtb (h := Qba (Qbc (body := F1) (k := k6) (s := ()) (show k6 < x0.length from by omega) (Qc g26 (rfl)) hF8) rfl)
 have g11 := dlF hl10
 refine Qp rfl g11 ?_
 refine Qbk (Qac (Qac ?_))
 have hE28 : R2 (x0.length - 0) 0 () = Sum.inr () := Qbn hl10 hF8
 refine Qbm (Qi (sr (wa (nt' (Qj ?_)))))
 exact rtb (h := Qat hE28 (rfl))

def Qol (x0 : (List Qaj)) : Bool :=
 cond (decide (((x0.length : Nat) : Int) ≤ 1000)) (Qub x0) false
theorem Qyh : Cb Tryz.prog 122 := ⟨f122, _, func122, rfl, by decide⟩
theorem Qaad (w : World) (z0 : Value) (x0 : (List Qaj)) (r_0 : rdS Qbp w w.heap.size z0 x0) :
  Calls Tryz.prog 122 #[z0] w fun e w' => e = .returned (.bool (Qol x0)) ∧ Below w.heap.size w w' := by
 obtain ⟨m1, A2, c3, rfl, q4, r5⟩ := Qk r_0
 refine ce1 (L := [(0, .slice A2 x0.length c3)]) (N := 10) func122 ?_
 refine sr (wa (nt' (sr (wm ?_))))
 refine wv (Qai Qdv) ?_
 refine wv (fun W hm => Qgv rfl rfl) ?_
 refine wm ?_
 by_cases h6 : ((x0.length : Nat) : Int) ≤ 1000
 ·have g7 := decide_eq_true h6
  refine wg vmv g7 ?_
  refine Qdm (Qr Qahf rfl) (fun W hm => Qake W _ x0 (hm.rdS0 r5)) (Qcq rfl rfl rfl (bw g7 rfl)) (by decide) ?_
  refine wv (vpT g7) ?_
  refine wa (nt' (Qj ?_))
  exact rtb (h := Qb g7 (rfl))
 have g7 := decide_eq_false h6
 refine ws g7 ?_
 refine ws g7 ?_
 refine wv (vpF g7) ?_
 refine wa (nt' (Qj ?_))
 exact rtb (h := Qc g7 (rfl))

end Go.Proofs.YtmikmbmdibabmaaGreat
