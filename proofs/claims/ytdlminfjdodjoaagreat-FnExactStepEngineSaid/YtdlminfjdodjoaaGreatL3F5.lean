/-
  Contracts of functions, printed by a program of ours.
-/
import Derived.Test.YtdlminfjdodjoaaGreatL3F4
namespace Go.Proofs.YtdlminfjdodjoaaGreat
open Go.RowKit
set_option maxRecDepth 100000
set_option maxHeartbeats 4000000
open _root_.Go.Proofs.Tryz
theorem Qwf (x : Qr) (i : Int) : Qei x i = Qdh x i := rfl
theorem Qakm (x : Qr) : (Qcd x).length ≤ x.Active.length := by
  unfold Qcd
  cases Qkl x
  · exact Nat.zero_le _
  rw [Qhb (xs := x.Active) (f := fun d a => cond (Qnn a && Qhp a.Todo x.Cursor) (d ++ [a.Query.Id]) d) (b := fun k s => Qnm x k s) (fun j s _ => by
    unfold Qnm
    cases Qnn (gt x.Active j) <;> cases Qhp (gt x.Active j).Todo x.Cursor <;> rfl), Qmd]
  show ([] ++ _ : List Int).length ≤ _
  rw [List.nil_append, List.length_map]
  exact List.length_filter_le _ _
theorem Qahe (x : Qas) (i : Nat) (t : Int) : Qdl x ((i : Nat) : Int) t = Qhq (fun v => Qfy v t) (gt x.Segments i) := by
  unfold Qdl
  rw [Int.toNat_natCast]
  rw [Qhb (xs := gt x.Segments i) (f := fun d v => cond (Qfy v t) (d ++ [(⟨v.Id, v.Values⟩ : Qaa)]) d) (b := fun k s => Qum x ((i : Nat) : Int) t k s) (fun j s _ => by unfold Qum; rw [Int.toNat_natCast]; cases Qfy (gt (gt x.Segments i) j) t <;> rfl), Qmd]
  rfl
theorem Qayj (x : Qas) (i : Nat) (t : Int) : (Qdl x ((i : Nat) : Int) t).length ≤ (gt x.Segments i).length := by
  rw [Qahe]; exact Qaad _ _
theorem Qajy {x : Qr} {i : Int} (h : decide (0 ≤ Qdh x i) = false) : ∀ j, j < x.Active.length → (gt x.Active j).Query.Id ≠ i := by
  have h2 := of_decide_eq_false h
  unfold Qdh at h2
  have hr : rng (R := Int) (fun k (_ : Unit) => Qge x i k) (x.Active.length - 0) 0 () = .inr () := by
    rcases Qsl (P := fun (r : Int) => 0 ≤ r) (n := x.Active.length) (b := fun k (_ : Unit) => Qge x i k) (fun j hj => by
      show (∃ r, Qge x i j = _ ∧ _) ∨ Qge x i j = _
      unfold Qge
      cases (gt x.Active j).Query.Id == i
      · exact .inr rfl
      exact .inl ⟨_, rfl, Int.natCast_nonneg _⟩) (x.Active.length - 0) 0 (by omega) with ⟨r, e, hp⟩ | e
    · rw [e] at h2
      exact absurd hp h2
    exact e
  intro j hj e
  have hb : Qge x i j = .inr () := Qzw _ _ hr j (Nat.zero_le _) (by omega)
  unfold Qge at hb
  rw [beq_iff_eq.2 e] at hb
  cases hb
theorem Qaqn (x : Qr) (i : Int) : Qei x i < ((x.Active.length : Nat) : Int) := by
  unfold Qei
  rcases Qsl (P := fun (r : Int) => r < ((x.Active.length : Nat) : Int)) (n := x.Active.length) (b := fun k (_ : Unit) => Qpu x i k) (fun j hj => by
    show (∃ r, Qpu x i j = _ ∧ _) ∨ Qpu x i j = _
    unfold Qpu
    cases (gt x.Active j).Query.Id == i
    · exact .inr rfl
    exact .inl ⟨_, rfl, by omega⟩) (x.Active.length - 0) 0 (by omega) with ⟨r, e, hp⟩ | e
  · rw [e]; exact hp
  rw [e]; show (-1 : Int) < _; omega
theorem Qaql {x : Qr} (h : Qkl x = true) : Eng x := (Qpm x).1 (by rw [← Qtf]; exact h)
theorem Qaiu (l : List Int) (c : Int) : Qlo l c = l.filter (fun y => y != c) := by
  unfold Qlo
  rw [Qhb (xs := l) (f := fun d y => cond (y != c) (d ++ [y]) d) (b := fun k s => Quo l c k s) (fun j s _ => by
    unfold Quo
    cases gt l j != c <;> rfl), Qmd (fun y => y != c) (fun y => y)]
  show [] ++ _ = _
  rw [List.nil_append, List.map_id']
theorem Qbdi (l : List Int) (c : Int) : (Qlo l c).length ≤ l.length := by
  rw [Qaiu]; exact List.length_filter_le _ _
theorem Qahd {x : Qr} (h : Eng x) (t : Int) : (Qdl x.Store x.Cursor t).length ≤ 4 := by
  have hc := h.cur
  rw [show x.Cursor = ((x.Cursor.toNat : Nat) : Int) by omega]
  exact Nat.le_trans (Qayj _ _ _) (((Qkg _).1 h.st).2.2.1 _ (Qak (by omega)))
theorem Qakj {x : Qr} (_h : Eng x) (y : Int) (hy : y ∈ Qcd x) : 0 ≤ Qei x y := by
  rw [Qwf]
  cases hf : decide (0 ≤ Qdh x y) with
  | true => exact of_decide_eq_true hf
  | false =>
    have hn := Qajy hf
    rw [Qabw] at hy
    cases hE : Qkl x <;> rw [hE] at hy
    · cases hy
    obtain ⟨a, ha, rfl⟩ := List.mem_map.1 hy
    obtain ⟨i, hi, rfl⟩ := List.mem_iff_getElem.1 (List.mem_filter.1 ha).1
    exact absurd (by rw [Qdo hi]) (hn i hi)
abbrev Qpy (x0 : Qr) (d116 : (List Qw)) (G128 : Int) (s158 : Int) (d160 : (List Qaa)) : (List Qw) :=
 (d116.set (G128.toNat) (⟨(gt d116 (G128.toNat)).Query, (gt d116 (G128.toNat)).Time, (Qlo ((gt d116 (G128.toNat)).Todo) x0.Cursor), (gt d116 (G128.toNat)).Age, (IntKind.i64.wrap (((gt d116 (G128.toNat)).Sent) + s158)), (gt d116 (G128.toNat)).Cap, d160⟩ : Qw))
def Qpx (x0 : Qr) (k100 : Nat) (d116 : (List Qw)) (k157 : Nat) (s158 : Int) (d160 : (List Qaa)) : (Qr × Bool) ⊕ (Int × (List Qaa)) :=
 cond (Qrm ((gt d116 ((Qei x0 (gt (Qcd x0) k100)).toNat)).Query) (gt (Qdl x0.Store x0.Cursor ((gt d116 ((Qei x0 (gt (Qcd x0) k100)).toNat)).Time)) k157)) (Sum.inr ((IntKind.i64.wrap (s158 + 1)), (d160 ++ [(gt (Qdl x0.Store x0.Cursor ((gt d116 ((Qei x0 (gt (Qcd x0) k100)).toNat)).Time)) k157)]))) (Sum.inr (s158, d160))
abbrev Qpz (x0 : Qr) (d105 : (List Int)) (d109 : (List Int)) (d113 : (List Int)) : (List Qbb) :=
 (x0.Ledger ++ [(⟨x0.Cursor, ((((gt x0.Store.Segments (x0.Cursor.toNat))).length : Nat) : Int), d105, d109, d113⟩ : Qbb)])
abbrev Qkm (d116 : (List Qw)) (k231 : Nat) (d236 : (List Qat)) : (List Qat) :=
 (d236 ++ [(⟨(gt d116 k231).Query, (gt d116 k231).Time, (IntKind.i64.wrap (((gt d116 k231).Age) + 1)), (gt d116 k231).Rows⟩ : Qat)])
abbrev Que (d116 : (List Qw)) (k231 : Nat) (d232 : (List Qw)) : (List Qw) :=
 (d232 ++ [(⟨(gt d116 k231).Query, (gt d116 k231).Time, (gt d116 k231).Todo, (IntKind.i64.wrap (((gt d116 k231).Age) + 1)), 0, (gt d116 k231).Cap, (gt d116 k231).Rows⟩ : Qw)])
abbrev Quf (d116 : (List Qw)) (k231 : Nat) (d232 : (List Qw)) : (List Qw) :=
 (d232 ++ [(⟨(gt d116 k231).Query, (gt d116 k231).Time, (gt d116 k231).Todo, (IntKind.i64.wrap (((gt d116 k231).Age) + 1)), (gt d116 k231).Sent, (gt d116 k231).Cap, (gt d116 k231).Rows⟩ : Qw)])
def Qrn (x0 : Qr) (d116 : (List Qw)) (k231 : Nat) (d232 : (List Qw)) (d236 : (List Qat)) : (Qr × Bool) ⊕ ((List Qw) × (List Qat)) :=
 cond ((Int.tmod (IntKind.i64.wrap (((gt d116 k231).Age) + 1)) ((x0.Store.Segments.length : Nat) : Int)) == 0) (cond (((((gt d116 k231).Todo).length : Nat) : Int) == 0) (Sum.inr (d232, (Qkm d116 k231 d236))) (Sum.inr ((Que d116 k231 d232), d236))) (cond (((((gt d116 k231).Todo).length : Nat) : Int) == 0) (Sum.inr (d232, (Qkm d116 k231 d236))) (Sum.inr ((Quf d116 k231 d232), d236)))
def Qoj (x0 : Qr) (d105 : (List Int)) (d109 : (List Int)) (d113 : (List Int)) : (Qr × Bool) ⊕ (List Qbb) :=
 cond (decide (0 < ((d105.length : Nat) : Int))) (Sum.inr (Qpz x0 d105 d109 d113)) (Sum.inr x0.Ledger)
def Qpw (x0 : Qr) (k100 : Nat) (d105 : (List Int)) (d109 : (List Int)) (d113 : (List Int)) (d116 : (List Qw)) : (Qr × Bool) ⊕ ((List Int) × (List Int) × (List Int) × (List Qw)) :=
 Sum.elim Sum.inl (fun (s : Int × (List Qaa)) => Sum.inr ((d105 ++ [(gt (Qcd x0) k100)]), (d109 ++ [(gt d116 ((Qei x0 (gt (Qcd x0) k100)).toNat)).Query.Tenant]), (d113 ++ [s.1]), (Qpy x0 d116 (Qei x0 (gt (Qcd x0) k100)) s.1 s.2))) (rng (R := (Qr × Bool)) (fun k (s : Int × (List Qaa)) => Qpx x0 k100 d116 k s.1 s.2) ((Qdl x0.Store x0.Cursor ((gt d116 ((Qei x0 (gt (Qcd x0) k100)).toNat)).Time)).length - 0) 0 (0, (gt d116 ((Qei x0 (gt (Qcd x0) k100)).toNat)).Rows))
def Qdj (x0 : Qr) : (Qr × Bool) :=
 cond (Qkl x0) (cond (x0.Steps == 100000) (x0, false) (cond (((x0.Ledger.length : Nat) : Int) == 1000) (x0, false) (cond (decide (1000 < ((x0.Done.length + x0.Active.length : Nat) : Int))) (x0, false) (Sum.elim id (fun (s1_ : (List Int) × (List Int) × (List Int) × (List Qw)) => Sum.elim id (fun (s101_ : (List Qbb)) => Sum.elim id (fun (s : (List Qw) × (List Qat)) => ((Qfr (⟨x0.Store, (Int.tmod (IntKind.i64.wrap (x0.Cursor + 1)) ((x0.Store.Segments.length : Nat) : Int)), x0.Order, s.1, s.2, s101_, (IntKind.i64.wrap (x0.Steps + 1))⟩ : Qr)), true)) (rng (R := (Qr × Bool)) (fun k (s : (List Qw) × (List Qat)) => Qrn x0 s1_.2.2.2 k s.1 s.2) (x0.Active.length - 0) 0 ([], x0.Done))) ((Qoj x0 s1_.1 s1_.2.1 s1_.2.2.1))) (rng (R := (Qr × Bool)) (fun k (s : (List Int) × (List Int) × (List Int) × (List Qw)) => Qpw x0 k s.1 s.2.1 s.2.2.1 s.2.2.2) ((Qcd x0).length - 0) 0 ([], [], [], x0.Active)))))) (x0, false)
theorem cb12 : Cb Tryz.prog 12 := ⟨f12, _, func12, rfl, by decide⟩
theorem Qaew (w : World) (z0 : List Value) (x0 : Qr) (r_0 : Qcf.rd w w.heap.size z0 x0) (s_0 : Qgc 68719476736 x0) :
  Calls Tryz.prog 12 #[.agg z0.toArray] w fun e w' => ∃ v : List Value, e = .returned (.tuple #[.agg v.toArray, .bool ((Qdj x0).2)]) ∧ Mem w.heap.size w [Qm Qcf v (Qdj x0).1] w' := by
 obtain ⟨v1, v3, v5, v7, v9, rfl, r2, r4, r6, r8, r10⟩ := Qiq r_0
 obtain ⟨m11, A12, c13, rfl, q14, r15⟩ := Qi r2
 obtain ⟨m16, A17, c18, rfl, q19, r20⟩ := Qi r4
 obtain ⟨m21, A22, c23, rfl, q24, r25⟩ := Qi r6
 obtain ⟨m26, A27, c28, rfl, q29, r30⟩ := Qi r8
 obtain ⟨m31, A32, c33, rfl, q34, r35⟩ := Qi r10
 have l36 : x0.Store.Segments.length ≤ 68719476736 := s_0.1.1
 have l37 := s_0.2.1
 have l38 := s_0.2.2.1.1
 have l39 := s_0.2.2.2.1.1
 have l40 := s_0.2.2.2.2.1
 refine ce1 (L := [(0, .agg #[.slice A12 x0.Store.Segments.length c13, iV x0.Store.Now, iV x0.Cursor, .slice A17 x0.Order.length c18, .slice A22 x0.Active.length c23, .slice A27 x0.Done.length c28, .slice A32 x0.Ledger.length c33, iV x0.Steps])]) (N := 204) func12 ?_
 refine sr ?_
 refine Qbq rfl (Qk rfl) (by decide) (fun p41 => ?_)
 refine Qbs Qbm rfl (Qk rfl) (by decide) (fun p42 => ?_)
 refine wa (nt' (sr ?_))
 let K1 : List Value := [.slice A12 x0.Store.Segments.length c13, iV x0.Store.Now, iV x0.Cursor, .slice A17 x0.Order.length c18, .slice A22 x0.Active.length c23, .slice A27 x0.Done.length c28, .slice A32 x0.Ledger.length c33, iV x0.Steps]
 refine wv (fun W hm => Qae (cs := K1) Qac Qbm rfl rfl (hm.boxCells (n := 1) rfl)) ?_
 refine wcs Qcf x0 (Qq cb68 rfl) (fun W hm => Qark W _ x0 (Qff (x := x0) (hm.rdS0 r15) (hm.rdS0 r20) (hm.rdS0 r25) (hm.rdS0 r30) (hm.rdS0 r35)) s_0) (fun z43 => ?_)
 refine Qih ?_
 rintro ⟨v44, v45, v46, v47, v48⟩ rfl
 refine fm 0 ?_
 rintro A49 c50 rfl m51
 refine fm 1 ?_
 rintro A53 c54 rfl m55
 refine fm 2 ?_
 rintro A57 c58 rfl m59
 refine fm 3 ?_
 rintro A61 c62 rfl m63
 refine fm 4 ?_
 rintro A65 c66 rfl m67
 refine Qbs Qbm rfl (Qk rfl) (by decide) (fun p69 => ?_)
 let K2 : List Value := [.slice A49 x0.Store.Segments.length c50, iV x0.Store.Now, iV x0.Cursor, .slice A53 x0.Order.length c54, .slice A57 x0.Active.length c58, .slice A61 x0.Done.length c62, .slice A65 x0.Ledger.length c66, iV x0.Steps]
 let K3 : List Value := [.slice none 0 0, iV 0, iV 0, .slice none 0 0, .slice none 0 0, .slice none 0 0, .slice none 0 0, iV 0]
 let I24 : It := iS (tSl Qag 163) 100 A49 c50 x0.Store.Segments
 refine sb 0 K2 [I24, iS Qa 3 A53 c54 x0.Order, iS Qah 61 A57 c58 x0.Active, iS Qax 80 A61 c62 x0.Done, iS Qav 102 A65 c66 x0.Ledger, Qh p42 39 K3, Qh p41 39 K1] idM Qbm ?_
 refine nt' (Qd (sr ?_))
 refine wv (fun W hm => Qae (cs := K1) Qac Qbm rfl rfl (hm.boxCells (n := 7) rfl)) ?_
 refine wcv (Qq cb27 rfl) (fun W hm => Qaes W _ x0 (Qff (x := x0) (hm.rdS0 r15) (hm.rdS0 r20) (hm.rdS0 r25) (hm.rdS0 r30) (hm.rdS0 r35)) s_0) ?_
 refine wv Qbp ?_
 refine wm ?_
 rcases bd (Qkl x0) with g71 | g71
 ·
  have hE := Qaql g71
  have hE1 := hE.al
  have hE2 := hE.cur
  have hE3 := ((Qkg _).1 hE.st).1
  have hE4 := hE.dl
  have hE5 := hE.ll
  have hE6 := hE.stp
  refine wg (vf Qac rfl Qf) (nt g71) ?_
  refine wg (vl 7 7 Qs) (nt g71) ?_
  refine wg (fun W hm => Qfa rfl rfl) (nt g71) ?_
  refine wv (vpF (nt g71)) ?_
  refine wm ?_
  rcases dce x0.Steps 100000 with ⟨h72, g73⟩ | ⟨h72, g73⟩
  ·
   iterate 15 first | refine ws g73 ?_ | refine wv (vpT g73) ?_ | refine wm ?_ | refine wk ?_ | refine wv (vpT rfl) ?_
   refine nt' ?_
   refine Ql rfl rfl ?_
   refine sr ?_
   refine wv (fun W hm => Qae (cs := K2) Qac Qbm rfl rfl (hm.boxCells (n := 0) rfl)) ?_
   refine sb 0 K2 [Qh p69 39 K2, I24, iS Qa 3 A53 c54 x0.Order, iS Qah 61 A57 c58 x0.Active, iS Qax 80 A61 c62 x0.Done, iS Qav 102 A65 c66 x0.Ledger, Qh p41 39 K1] (pk [6, 0, 1, 2, 3, 4, 5, 7]) Qbm ?_
   refine wa (nt' (Qj (Qg ?_)))
   have he74 := (show Qdj x0 = (x0, false) from Qb g71 (Qb g73 (rfl)))
   refine Qhw rfl (Qdw (n := 0) rfl rfl Qac Qbm rfl) (Qdm rfl) (fun W hm => ⟨K2, ?_, ?_⟩)
   ·first | rw [he74] | rfl
    try rfl
   rw [he74]; exact Mem.join (is := [I24, iS Qa 3 A53 c54 x0.Order, iS Qah 61 A57 c58 x0.Active, iS Qax 80 A61 c62 x0.Done, iS Qav 102 A65 c66 x0.Ledger]) (js := []) (fun _ _ hs => Qfo (x := x0) hs) (hm.pick [2, 3, 4, 5, 6] (by decide))
  refine wg (vf Qac rfl Qfc) g73 ?_
  refine wg (vl 7 6 Qcv) g73 ?_
  refine wg (Qaf Qcv) g73 ?_
  refine wg (fun W hm => Qfa rfl rfl) g73 ?_
  refine wv (vpF g73) ?_
  refine wm ?_
  rcases dce ((x0.Ledger.length : Nat) : Int) 1000 with ⟨h75, g76⟩ | ⟨h75, g76⟩
  ·
   iterate 9 first | refine ws g76 ?_ | refine wv (vpT g76) ?_
   refine nt' ?_
   refine Ql rfl rfl ?_
   refine sr ?_
   refine wv (fun W hm => Qae (cs := K2) Qac Qbm rfl rfl (hm.boxCells (n := 0) rfl)) ?_
   refine sb 0 K2 [Qh p69 39 K2, I24, iS Qa 3 A53 c54 x0.Order, iS Qah 61 A57 c58 x0.Active, iS Qax 80 A61 c62 x0.Done, iS Qav 102 A65 c66 x0.Ledger, Qh p41 39 K1] (pk [6, 0, 1, 2, 3, 4, 5, 7]) Qbm ?_
   refine wa (nt' (Qj (Qg ?_)))
   have he77 := (show Qdj x0 = (x0, false) from Qb g71 (Qc g73 (Qb g76 (rfl))))
   refine Qhw rfl (Qdw (n := 0) rfl rfl Qac Qbm rfl) (Qdm rfl) (fun W hm => ⟨K2, ?_, ?_⟩)
   ·first | rw [he77] | rfl
    try rfl
   rw [he77]; exact Mem.join (is := [I24, iS Qa 3 A53 c54 x0.Order, iS Qah 61 A57 c58 x0.Active, iS Qax 80 A61 c62 x0.Done, iS Qav 102 A65 c66 x0.Ledger]) (js := []) (fun _ _ hs => Qfo (x := x0) hs) (hm.pick [2, 3, 4, 5, 6] (by decide))
  refine wg (vf Qac rfl Qek) g76 ?_
  refine wg (vl 7 5 Qch) g76 ?_
  refine wg (Qaf Qch) g76 ?_
  refine wg (vf Qac rfl Qcz) g76 ?_
  refine wg (vl 7 4 Qaw) g76 ?_
  refine wg (Qaf Qaw) g76 ?_
  refine wg (Qal x0.Done.length x0.Active.length (by omega)) g76 ?_
  refine wg (fun W hm => Qet rfl rfl) g76 ?_
  refine wv (vpF g76) ?_
  refine nt' ?_
  rcases dcd (1000 < ((x0.Done.length + x0.Active.length : Nat) : Int)) with ⟨h78, g79⟩ | ⟨h78, g79⟩
  ·
   refine Ql rfl g79 ?_
   refine sr ?_
   refine wv (fun W hm => Qae (cs := K2) Qac Qbm rfl rfl (hm.boxCells (n := 0) rfl)) ?_
   refine sb 0 K2 [Qh p69 39 K2, I24, iS Qa 3 A53 c54 x0.Order, iS Qah 61 A57 c58 x0.Active, iS Qax 80 A61 c62 x0.Done, iS Qav 102 A65 c66 x0.Ledger, Qh p41 39 K1] (pk [6, 0, 1, 2, 3, 4, 5, 7]) Qbm ?_
   refine wa (nt' (Qj (Qg ?_)))
   have he80 := (show Qdj x0 = (x0, false) from Qb g71 (Qc g73 (Qc g76 (Qb g79 (rfl)))))
   refine Qhw rfl (Qdw (n := 0) rfl rfl Qac Qbm rfl) (Qdm rfl) (fun W hm => ⟨K2, ?_, ?_⟩)
   ·first | rw [he80] | rfl
    try rfl
   rw [he80]; exact Mem.join (is := [I24, iS Qa 3 A53 c54 x0.Order, iS Qah 61 A57 c58 x0.Active, iS Qax 80 A61 c62 x0.Done, iS Qav 102 A65 c66 x0.Ledger]) (js := []) (fun _ _ hs => Qfo (x := x0) hs) (hm.pick [2, 3, 4, 5, 6] (by decide))
  refine Qn rfl g79 ?_
  refine Qo (Qe (sr ?_))
  refine wv (vf Qac rfl Qbt) ?_
  refine wv (fun W hm => Qea (o := 0) Qbx rfl Qdz (by decide) rfl rfl) ?_
  refine wv (vl 7 0 Qca) ?_
  refine wv (vf Qac rfl Qf) ?_
  refine wv (vl 7 2 Qs) ?_
  obtain ⟨a81, rfl, hb82, he83⟩ := q14 (by omega)
  refine wv (fun W hm => Qgg (sz := 1) (k := x0.Cursor) Qca Qfg rfl rfl rfl (by omega) (by omega)) ?_
  obtain ⟨_, e85, hc84⟩ := he83 (x0.Cursor.toNat) _ (Qbr (show (x0.Cursor.toNat) < x0.Store.Segments.length from by omega))
  have l86 : (gt x0.Store.Segments (x0.Cursor.toNat)).length ≤ 68719476736 := (s_0.1.2 _ (Qak (show (x0.Cursor.toNat) < x0.Store.Segments.length from by omega))).1
  obtain ⟨v87, rfl, r88⟩ := e85
  obtain ⟨m89, A90, c91, rfl, q92, r93⟩ := Qi r88
  refine wv (fun W hm => Qau Qbw rfl rfl ((hm.cell0 (show (a81.add ((x0.Cursor.toNat) * 1)).block < w.heap.size from by rw [Qab]; exact hb82.1)).trans (hc84 0 _ rfl))) ?_
  refine wa (nt' (sr ?_))
  refine wv (vf Qac rfl Qf) ?_
  refine wv (vl 7 2 Qs) ?_
  refine wm ?_
  refine wv (Qaf Qbw) ?_
  let K4 : List Value := [iV x0.Cursor, nI (((gt x0.Store.Segments (x0.Cursor.toNat))).length), .slice none 0 0, .slice none 0 0, .slice none 0 0]
  refine wv (fun W hm => Qef (cs := K4) rfl (by kernel_rfl)) ?_
  refine Qbs Qcr rfl (Qk rfl) (by decide) (fun p94 => ?_)
  let K5 : List Value := [.slice (some a81) x0.Store.Segments.length c13, iV x0.Store.Now, iV x0.Cursor, .slice A17 x0.Order.length c18, .slice A22 x0.Active.length c23, .slice A27 x0.Done.length c28, .slice A32 x0.Ledger.length c33, iV x0.Steps]
  let J47 : List It := [Qh p42 39 K3, Qh p41 39 K5]
  let J48 : List It := iS Qax 80 A61 c62 x0.Done :: iS Qav 102 A65 c66 x0.Ledger :: J47
  refine sb 0 K4 (Qh p69 39 K2 :: I24 :: iS Qa 3 A53 c54 x0.Order :: iS Qah 61 A57 c58 x0.Active :: J48) idM Qcr ?_
  refine nt' (Qd (sr ?_))
  refine wv (fun W hm => Qae (cs := K5) Qac Qbm rfl rfl (hm.boxCells (n := 8) rfl)) ?_
  refine wcl (tSl Qa 3) (Qcd x0) (Qq cb22 rfl) (fun W hm => Qaqu W _ x0 (Qff (x := x0) (hm.rdS0 r15) (hm.rdS0 r20) (hm.rdS0 r25) (hm.rdS0 r30) (hm.rdS0 r35)) s_0) (fun z95 => ?_)
  have hpl := Qakm x0
  refine fm 0 ?_
  rintro A96 c97 rfl m98
  refine wv (Qaf Qp) ?_
  refine wm (nt' (Qx ?_))
  refine Qdp (fun W hm => (hm.addNil (E := Qa) (e := 3)).last) ?_
  refine Qdp (fun W hm => (hm.addNil (E := Qa) (e := 3)).last) ?_
  refine Qdp (fun W hm => (hm.addNil (E := Qa) (e := 3)).last) ?_
  refine Qbf (S := (List Int) × (List Int) × (List Int) × (List Qw)) (R := Option Addr × Nat × Option Addr × Nat × Option Addr × Nat) (fun k (s : (List Int) × (List Int) × (List Int) × (List Qw)) => Qpw x0 k s.1 s.2.1 s.2.2.1 s.2.2.2) ((Qcd x0).length) 0 ([], [], [], x0.Active) (none, 0, none, 0, none, 0) (fun s => [(1, bp p41), (2, bp p42), (4, bp p69), (6, bp p94), (57, .slice A96 (Qcd x0).length c97), (58, nI ((Qcd x0).length)), (59, nI s.1)]) (fun s => [iS Qa 3 A96 c97 (Qcd x0), Qh p94 102 [iV x0.Cursor, nI (((gt x0.Store.Segments (x0.Cursor.toNat))).length), .slice s.2.2.1 s.2.1.1.length s.2.2.2.1, .slice s.2.2.2.2.1 s.2.1.2.1.length s.2.2.2.2.2.1, .slice s.2.2.2.2.2.2.1 s.2.1.2.2.1.length s.2.2.2.2.2.2.2], Qh p69 39 K2, I24, iS Qa 3 A53 c54 x0.Order, Qm (tSl Qah 61) [.slice A57 x0.Active.length c58] s.2.1.2.2.2, iS Qax 80 A61 c62 x0.Done, iS Qav 102 A65 c66 x0.Ledger, Qh p42 39 K3, Qh p41 39 K5, iS Qa 3 s.2.2.1 s.2.2.2.1 s.2.1.1, iS Qa 3 s.2.2.2.2.1 s.2.2.2.2.2.1 s.2.1.2.1, iS Qa 3 s.2.2.2.2.2.2.1 s.2.2.2.2.2.2.2 s.2.1.2.2.1]) (fun s => s.2.1.1.length ≤ 0 + s.1 ∧ s.2.1.2.1.length ≤ 0 + s.1 ∧ s.2.1.2.2.1.length ≤ 0 + s.1 ∧ s.2.1.2.2.2.length = x0.Active.length ∧ ∀ i, (gt s.2.1.2.2.2 i).Todo.length ≤ 8 ∧ (gt s.2.1.2.2.2 i).Rows.length ≤ 1000 + 4 * s.1) sl7 ⟨Nat.le_refl _, Nat.le_refl _, Nat.le_refl _, rfl, Qach hE⟩ ?_
  rintro ⟨k100, ⟨d105, d109, d113, d116⟩, ⟨A106, c107, A110, c111, A114, c115⟩⟩ H119 _ _ e e'
  dsimp only at H119 ⊢
  subst e e'
  obtain ⟨hk117, hF118, hi120, hi121, hi122, hi123, hi124⟩ := H119
  refine sr ?_
  refine wv Qai ?_
  refine nt' (Qd ?_)
  rcases dcl k100 ((Qcd x0).length) with ⟨hl125, g126⟩ | ⟨hl125, g126⟩
  ·
   have hp0 := Qakj hE _ (Qak (show k100 < (Qcd x0).length from by omega))
   have hfl := Qaqn x0 (gt (Qcd x0) k100)
   have ha1 := hi124 ((Qei x0 (gt (Qcd x0) k100)).toNat)
   refine Ql rfl g126 ?_
   refine Qo (Qe (Qd (Qx (sr ?_))))
   refine Qht (n := 0) rfl (by omega) ?_
   rintro g127 rfl
   refine wv (vix 1 k100 Qp Qf) ?_
   refine wv (fun W hm => Qau Qs rfl rfl (hm.ownInt (i := 0) rfl (by omega))) ?_
   refine wa (nt' (sr ?_))
   refine wv (fun W hm => Qae (cs := K5) Qac Qbm rfl rfl (hm.boxCells (n := 9) rfl)) ?_
   refine wm ?_
   refine wcv (Qq cb33 rfl) (fun W hm => Qaqm W _ x0 (gt (Qcd x0) k100) (Qff (x := x0) (hm.rdS0 r15) (hm.rdS0 r20) (hm.rdS0 r25) (hm.rdS0 r30) (hm.rdS0 r35))) ?_
   obtain ⟨G128, hG128⟩ : ∃ G, G = (Qei x0 (gt (Qcd x0) k100)) := ⟨_, rfl⟩
   rw [← hG128] at hp0 hfl ha1 ⊢
   refine wa (nt' (sr ?_))
   refine wv (vf Qac rfl Qcz) ?_
   refine wv (vl 2 4 Qaw) ?_
   refine wm ?_
   refine Qht (n := 5) rfl (by omega) ?_
   rintro g129 rfl
   refine wv (fun W hm => Qgg (sz := 10) (k := G128) Qaw Qbd rfl rfl rfl (by omega) (by omega)) ?_
   let K6 : List Value := [iV x0.Cursor, nI (((gt x0.Store.Segments (x0.Cursor.toNat))).length), .slice A106 d105.length c107, .slice A110 d109.length c111, .slice A114 d113.length c115]
   let K7 : List Value := [.slice A49 x0.Store.Segments.length c50, iV x0.Store.Now, iV x0.Cursor, .slice A53 x0.Order.length c54, .slice (sA g129) x0.Active.length c58, .slice A61 x0.Done.length c62, .slice A65 x0.Ledger.length c66, iV x0.Steps]
   let I25 : It := iS Qa 3 (sA g127) c97 (Qcd x0)
   let J49 : List It := [I25, Qh p94 102 K6, Qh p69 39 K7, I24, iS Qa 3 A53 c54 x0.Order, iS Qax 80 A61 c62 x0.Done, iS Qav 102 A65 c66 x0.Ledger, Qh p42 39 K3, Qh p41 39 K5, iS Qa 3 A106 c107 d105, iS Qa 3 A110 c111 d109, iS Qa 3 A114 c115 d113]
   refine Qjr (E := Qah) (e := 61) (A := (sA g129)) (n := x0.Active.length) (c := c58) (xs := d116) (k := (G128.toNat)) (js := J49) (by omega) (pk [5, 0, 1, 2, 3, 4, 6, 7, 8, 9, 10, 11, 12]) (fun ck130 => ?_)
   refine Qod ?_
   rintro ⟨v131, v132, v133, v134⟩ rfl
   refine fm 0 ?_
   rintro A135 c136 rfl m137
   refine fm 1 ?_
   rintro A139 c140 rfl m141
   refine fm 2 ?_
   rintro A143 c144 rfl m145
   refine fm 3 ?_
   rintro A147 c148 rfl m149
   let K8 : List Value := [iV ((gt d116 (G128.toNat)).Query.Id), iV ((gt d116 (G128.toNat)).Query.Tenant), .slice A135 ((gt d116 (G128.toNat)).Query.Conds).length c136, .slice A139 ((gt d116 (G128.toNat)).Query.Out).length c140, iV ((gt d116 (G128.toNat)).Time), .slice A143 ((gt d116 (G128.toNat)).Todo).length c144, iV ((gt d116 (G128.toNat)).Age), iV ((gt d116 (G128.toNat)).Sent), iV ((gt d116 (G128.toNat)).Cap), .slice A147 ((gt d116 (G128.toNat)).Rows).length c148]
   refine wv (fun W hm => Qae (cs := K8) Qaj Qbd rfl rfl (hm.focCells (i := 4) rfl rfl)) ?_
   refine Qbs Qbd rfl (Qk rfl) (by decide) (fun p151 => ?_)
   let I26 : It := iS Qbk 180 A135 c136 ((gt d116 (G128.toNat)).Query.Conds)
   let I27 : It := iS Qa 3 A139 c140 ((gt d116 (G128.toNat)).Query.Out)
   let I28 : It := iS Qa 3 A143 c144 ((gt d116 (G128.toNat)).Todo)
   let I29 : It := Qdf Qah 61 (sA g129) x0.Active.length c58 d116 (G128.toNat) K8
   refine sb 0 K8 (I26 :: I27 :: I28 :: iS Qap 70 A147 c148 ((gt d116 (G128.toNat)).Rows) :: I29 :: J49) idM Qbd ?_
   refine nt' (sr (wa (nt' (Qd (sr ?_)))))
   refine wv (vf Qac rfl Qbt) ?_
   refine wv (fun W hm => Qae (cs := [.slice (some a81) x0.Store.Segments.length c13, iV x0.Store.Now]) Qbx Qbt rfl rfl (hm.boxPart (n := 14) rfl rfl)) ?_
   refine wv (vf Qac rfl Qf) ?_
   refine wv (vl 14 2 Qs) ?_
   refine wv (vf Qaj rfl Qf) ?_
   refine wv (vl 0 4 Qs) ?_
   refine wcl (tSl Qap 70) (Qdl x0.Store x0.Cursor ((gt d116 (G128.toNat)).Time)) (Qq cb69 rfl) (fun W hm => Qase W _ x0.Store x0.Cursor ((gt d116 (G128.toNat)).Time) (Qfw (x := x0.Store) (hm.rdS0 r15)) s_0.1 (⟨by omega, by omega⟩)) (fun z152 => ?_)
   have hsr := Qahd hE ((gt d116 (G128.toNat)).Time)
   refine fm 0 ?_
   rintro A153 c154 rfl m155
   refine wv (Qaf Qci) ?_
   refine wm (nt' (Qx ?_))
   refine Qdp (fun W hm => Mem.toRest hm) ?_
   refine Qbf (S := Int × (List Qaa)) (R := Option Addr × Nat) (fun k (s : Int × (List Qaa)) => Qpx x0 k100 d116 k s.1 s.2) ((Qdl x0.Store x0.Cursor ((gt d116 (G128.toNat)).Time)).length) 0 (0, (gt d116 (G128.toNat)).Rows) (A147, c148) (fun s => [(1, bp p41), (2, bp p42), (4, bp p69), (6, bp p94), (8, iV (gt (Qcd x0) k100)), (9, iV G128), (10, bp p151), (11, iV s.2.1.1), (57, .slice (sA g127) (Qcd x0).length c97), (58, nI ((Qcd x0).length)), (59, nI k100), (77, .slice A153 (Qdl x0.Store x0.Cursor ((gt d116 (G128.toNat)).Time)).length c154), (78, nI ((Qdl x0.Store x0.Cursor ((gt d116 (G128.toNat)).Time)).length)), (79, nI s.1)]) (fun s => (Qhe Qap 70 A153 ((Qdl x0.Store x0.Cursor ((gt d116 (G128.toNat)).Time)).length) (Qdl x0.Store x0.Cursor ((gt d116 (G128.toNat)).Time)) s.1 :: Qh p151 61 [iV ((gt d116 (G128.toNat)).Query.Id), iV ((gt d116 (G128.toNat)).Query.Tenant), .slice A135 ((gt d116 (G128.toNat)).Query.Conds).length c136, .slice A139 ((gt d116 (G128.toNat)).Query.Out).length c140, iV ((gt d116 (G128.toNat)).Time), .slice A143 ((gt d116 (G128.toNat)).Todo).length c144, iV ((gt d116 (G128.toNat)).Age), iV ((gt d116 (G128.toNat)).Sent), iV ((gt d116 (G128.toNat)).Cap), .slice s.2.2.1 s.2.1.2.length s.2.2.2] :: I26 :: I27 :: I28 :: iS Qap 70 s.2.2.1 s.2.2.2 s.2.1.2 :: I29 :: J49)) (fun s => s.2.1.2.length ≤ ((gt d116 (G128.toNat)).Rows).length + s.1) (Qbv rfl (Qbv rfl Qjx)) (Nat.le_refl _) ?_
   rintro ⟨k157, ⟨s158, d160⟩, ⟨A161, c162⟩⟩ H165 _ _ e e'
   dsimp only at H165 ⊢
   subst e e'
   obtain ⟨hk163, hF164, hi166⟩ := H165
   refine sr ?_
   refine wv Qai ?_
   refine nt' (Qd ?_)
   rcases dcl k157 ((Qdl x0.Store x0.Cursor ((gt d116 (G128.toNat)).Time)).length) with ⟨hl167, g168⟩ | ⟨hl167, g168⟩
   ·
    refine Ql rfl g168 ?_
    refine Qo (Qe (Qd (Qx (sr ?_))))
    refine Qrg (n := 0) rfl (by omega) ?_
    rintro g169 rfl
    refine wv (vix 2 k157 Qci Qcg) ?_
    let K9 : List Value := [iV ((gt d116 (G128.toNat)).Query.Id), iV ((gt d116 (G128.toNat)).Query.Tenant), .slice A135 ((gt d116 (G128.toNat)).Query.Conds).length c136, .slice A139 ((gt d116 (G128.toNat)).Query.Out).length c140, iV ((gt d116 (G128.toNat)).Time), .slice A143 ((gt d116 (G128.toNat)).Todo).length c144, iV ((gt d116 (G128.toNat)).Age), iV ((gt d116 (G128.toNat)).Sent), iV ((gt d116 (G128.toNat)).Cap), .slice A161 d160.length c162]
    let J50 : List It := Qh p151 61 K9 :: I26 :: I27 :: I28 :: iS Qap 70 A161 c162 d160 :: I29 :: J49
    refine Qrh (E := Qap) (e := 70) (A := (sA g169)) (n := (Qdl x0.Store x0.Cursor ((gt d116 (G128.toNat)).Time)).length) (xs := (Qdl x0.Store x0.Cursor ((gt d116 (G128.toNat)).Time))) (k := k157) (js := J50) (by omega) idM (fun ck170 => ?_)
    refine Qmr ?_
    rintro v171 rfl
    refine fm 0 ?_
    rintro A172 c173 rfl m174
    let K10 : List Value := [iV ((gt (Qdl x0.Store x0.Cursor ((gt d116 (G128.toNat)).Time)) k157).Id), .slice A172 ((gt (Qdl x0.Store x0.Cursor ((gt d116 (G128.toNat)).Time)) k157).Values).length c173]
    refine wv (fun W hm => Qae (cs := K10) Qdv Qcg rfl rfl (hm.restCells (i := 1) rfl rfl)) ?_
    refine Qbs Qcg rfl (Qk rfl) (by decide) (fun p176 => ?_)
    let I30 : It := iS Qa 3 A172 c173 ((gt (Qdl x0.Store x0.Cursor ((gt d116 (G128.toNat)).Time)) k157).Values)
    let I31 : It := Qil Qap 70 (sA g169) ((Qdl x0.Store x0.Cursor ((gt d116 (G128.toNat)).Time)).length) (Qdl x0.Store x0.Cursor ((gt d116 (G128.toNat)).Time)) k157 K10
    refine sb 0 K10 (I30 :: I31 :: J50) idM Qcg ?_
    refine nt' (sr ?_)
    refine wv (vf Qaj rfl Qbi) ?_
    refine wv (fun W hm => Qae (cs := [iV ((gt d116 (G128.toNat)).Query.Id), iV ((gt d116 (G128.toNat)).Query.Tenant), .slice A135 ((gt d116 (G128.toNat)).Query.Conds).length c136, .slice A139 ((gt d116 (G128.toNat)).Query.Out).length c140]) Qbo Qbi rfl rfl (hm.boxPart (n := 3) rfl rfl)) ?_
    refine wv (fun W hm => Qae (cs := K10) Qdv Qcg rfl rfl (hm.boxCells (n := 0) rfl)) ?_
    refine wcv (Qq cb70 rfl) (fun W hm => Qaqs W _ ((gt d116 (G128.toNat)).Query) _ (gt (Qdl x0.Store x0.Cursor ((gt d116 (G128.toNat)).Time)) k157) (Qhd (x := ((gt d116 (G128.toNat)).Query)) (hm.rdSI (n := 4) rfl) (hm.rdSI (n := 5) rfl)) (Qjk (x := (gt (Qdl x0.Store x0.Cursor ((gt d116 (G128.toNat)).Time)) k157)) (hm.rdSI (n := 1) rfl))) ?_
    refine nt' ?_
    rcases bd (Qrm ((gt d116 (G128.toNat)).Query) (gt (Qdl x0.Store x0.Cursor ((gt d116 (G128.toNat)).Time)) k157)) with g178 | g178
    ·
     refine Ql rfl g178 ?_
     refine sr ?_
     refine wv (vf Qaj rfl Qdt) ?_
     refine wv (vl 3 9 Qci) ?_
     refine wv (fun W hm => Qae (cs := K10) Qdv Qcg rfl rfl (hm.boxCells (n := 0) rfl)) ?_
     refine Qde (cs := K10) Qci Qcg rfl (by decide) (by decide) rfl (by kernel_rfl) (Qk rfl) (by decide) (fun p179 => ?_)
     refine ap1 Qap 70 (.slice A161 d160.length c162) d160 (gt (Qdl x0.Store x0.Cursor ((gt d116 (G128.toNat)).Time)) k157) [I30] (Qh p176 70 K10 :: I31 :: Qh p151 61 K9 :: I26 :: I27 :: I28 :: I29 :: J49) K10 (pk [0, 8, 2, 1, 3, 4, 5, 6, 7, 9, 10, 11, 12, 13, 14, 15, 16, 17, 18, 19, 20, 21]) (fun _ _ hs => Els.single (Qjj (x := (gt (Qdl x0.Store x0.Cursor ((gt d116 (G128.toNat)).Time)) k157)) hs)) Qci Qcg (show (d160.length + 1) * 32 ≤ 140737488355328 from by omega) (fun v180 => ?_)
     refine fm 0 ?_
     rintro A181 c182 rfl m183
     refine wv (vf Qaj rfl Qdt) ?_
     refine sb 9 [iV ((gt d116 (G128.toNat)).Query.Id), iV ((gt d116 (G128.toNat)).Query.Tenant), .slice A135 ((gt d116 (G128.toNat)).Query.Conds).length c136, .slice A139 ((gt d116 (G128.toNat)).Query.Out).length c140, iV ((gt d116 (G128.toNat)).Time), .slice A143 ((gt d116 (G128.toNat)).Todo).length c144, iV ((gt d116 (G128.toNat)).Age), iV ((gt d116 (G128.toNat)).Sent), iV ((gt d116 (G128.toNat)).Cap), .slice A181 (d160 ++ [(gt (Qdl x0.Store x0.Cursor ((gt d116 (G128.toNat)).Time)) k157)]).length c182] (iS Qap 70 A181 c182 (d160 ++ [(gt (Qdl x0.Store x0.Cursor ((gt d116 (G128.toNat)).Time)) k157)]) :: Qh p176 70 K10 :: I31 :: I26 :: I27 :: I28 :: I29 :: J49) (pk [3, 0, 1, 2, 4, 5, 6, 7, 8, 9, 10, 11, 12, 13, 14, 15, 16, 17, 18, 19]) Qdt ?_
     refine nt' (Qy (wm ?_))
     refine wv Qcw ?_
     refine wa (Qad (Qan (Qe (Qy ?_))))
     refine wv (Qal k157 1 (by omega)) ?_
     refine wm (Qad ?_)
     refine Qdd (fun W hm => Mem.restNext (hm.pick [3, 0, 1, 2, 4, 5, 6, 7, 8, 9, 10, 11, 12, 13, 14, 15, 16, 17, 18, 19] (by decide))) ?_
     exact Qao (k157 + 1, ((IntKind.i64.wrap (s158 + 1)), (d160 ++ [(gt (Qdl x0.Store x0.Cursor ((gt d116 (G128.toNat)).Time)) k157)])), (A181, c182)) (Qbv rfl (Qbv rfl Qjx)) (pk [0, 1, 4, 5, 6, 2, 7, 8, 9, 10, 11, 12, 13, 14, 15, 16, 17, 18, 19]) ⟨(by omega), nx hF164 (by subst hG128; exact Qb g178 (rfl)), (show (d160 ++ [(gt (Qdl x0.Store x0.Cursor ((gt d116 (G128.toNat)).Time)) k157)]).length ≤ ((gt d116 (G128.toNat)).Rows).length + (k157 + 1) from by first | omega | (simp only [List.length_append, List.length_cons, List.length_nil] at *; omega))⟩ (show (Qdl x0.Store x0.Cursor ((gt d116 (G128.toNat)).Time)).length - (k157 + 1) < (Qdl x0.Store x0.Cursor ((gt d116 (G128.toNat)).Time)).length - k157 from by omega)
    refine Qn rfl g178 ?_
    refine Qo (Qan (Qe (Qy ?_)))
    refine wv (Qal k157 1 (by omega)) ?_
    refine wm (Qad ?_)
    refine Qdd (fun W hm => Mem.restNext (hm.pick [2, 0, 1, 3, 4, 5, 6, 7, 8, 9, 10, 11, 12, 13, 14, 15, 16, 17, 18, 19, 20] (by decide))) ?_
    exact Qao (k157 + 1, (s158, d160), (A161, c162)) (Qbv rfl (Qbv rfl Qjx)) (pk [0, 3, 4, 5, 6, 7, 8, 9, 10, 11, 12, 13, 14, 15, 16, 17, 18, 19, 20]) ⟨(by omega), nx hF164 (by subst hG128; exact Qc g178 (rfl)), (show d160.length ≤ ((gt d116 (G128.toNat)).Rows).length + (k157 + 1) from by first | omega | (simp only [List.length_append, List.length_cons, List.length_nil] at *; omega))⟩ (show (Qdl x0.Store x0.Cursor ((gt d116 (G128.toNat)).Time)).length - (k157 + 1) < (Qdl x0.Store x0.Cursor ((gt d116 (G128.toNat)).Time)).length - k157 from by omega)
   refine Qn rfl g168 ?_
   refine Qay (Qu (Qu ?_))
   have hE187 := Qbg hl167 hF164
   refine Qaz (Qe (sr ?_))
   refine wv (vf Qaj rfl Qf) ?_
   refine wv (vl 1 7 Qs) ?_
   refine wm ?_
   refine wv Qcw ?_
   refine wv (vf Qaj rfl Qf) ?_
   let I32 : It := Qhe Qap 70 A153 ((Qdl x0.Store x0.Cursor ((gt d116 (G128.toNat)).Time)).length) (Qdl x0.Store x0.Cursor ((gt d116 (G128.toNat)).Time)) k157
   let J51 : List It := I32 :: I26 :: I27 :: I28 :: iS Qap 70 A161 c162 d160 :: I29 :: J49
   refine sb 7 [iV ((gt d116 (G128.toNat)).Query.Id), iV ((gt d116 (G128.toNat)).Query.Tenant), .slice A135 ((gt d116 (G128.toNat)).Query.Conds).length c136, .slice A139 ((gt d116 (G128.toNat)).Query.Out).length c140, iV ((gt d116 (G128.toNat)).Time), .slice A143 ((gt d116 (G128.toNat)).Todo).length c144, iV ((gt d116 (G128.toNat)).Age), iV (IntKind.i64.wrap (((gt d116 (G128.toNat)).Sent) + s158)), iV ((gt d116 (G128.toNat)).Cap), .slice A161 d160.length c162] J51 (pk [1, 0, 2, 3, 4, 5, 6, 7, 8, 9, 10, 11, 12, 13, 14, 15, 16, 17, 18]) Qf ?_
   refine nt' (sr ?_)
   refine wv (vf Qaj rfl Qam) ?_
   refine wv (vl 0 5 Qp) ?_
   refine wv (vf Qac rfl Qf) ?_
   refine wv (vl 15 2 Qs) ?_
   refine wcl (tSl Qa 3) (Qlo ((gt d116 (G128.toNat)).Todo) x0.Cursor) (Qq cb71 rfl) (fun W hm => Qasf W _ ((gt d116 (G128.toNat)).Todo) x0.Cursor (hm.rdSI (n := 4) rfl) (show _ ≤ 68719476736 from by omega)) (fun z188 => ?_)
   have hwl := Qbdi ((gt d116 (G128.toNat)).Todo) x0.Cursor
   refine fm 0 ?_
   rintro A189 c190 rfl m191
   refine wv (vf Qaj rfl Qam) ?_
   let K11 : List Value := [iV ((gt d116 (G128.toNat)).Query.Id), iV ((gt d116 (G128.toNat)).Query.Tenant), .slice A135 ((gt d116 (G128.toNat)).Query.Conds).length c136, .slice A139 ((gt d116 (G128.toNat)).Query.Out).length c140, iV ((gt d116 (G128.toNat)).Time), .slice A189 (Qlo ((gt d116 (G128.toNat)).Todo) x0.Cursor).length c190, iV ((gt d116 (G128.toNat)).Age), iV (IntKind.i64.wrap (((gt d116 (G128.toNat)).Sent) + s158)), iV ((gt d116 (G128.toNat)).Cap), .slice A161 d160.length c162]
   let I33 : It := iS Qa 3 A189 c190 (Qlo ((gt d116 (G128.toNat)).Todo) x0.Cursor)
   refine sb 5 K11 (I33 :: J51) (pk [1, 0, 2, 3, 4, 5, 6, 7, 8, 9, 10, 11, 12, 13, 14, 15, 16, 17, 18, 19]) Qam ?_
   refine nt' (sr ?_)
   refine wv (vf Qac rfl Qcz) ?_
   refine wv (vl 10 4 Qaw) ?_
   refine wm ?_
   refine wv (fun W hm => Qae (cs := K11) Qaj Qbd rfl rfl (hm.boxCells (n := 0) rfl)) ?_
   refine wv (fun W hm => Qgg (sz := 10) (k := G128) Qaw Qbd rfl rfl rfl (by omega) (by omega)) ?_
   refine sf 0 10 K11 (Qh p151 61 K11 :: I33 :: I32 :: I26 :: I27 :: I28 :: iS Qap 70 A161 c162 d160 :: J49) (pk [7, 0, 1, 2, 3, 4, 5, 6, 8, 9, 10, 11, 12, 13, 14, 15, 16, 17, 18, 19]) Qbd ?_
   refine nt' (sr ?_)
   refine wv (vf Qbz rfl Qam) ?_
   refine wv (vl 9 2 Qp) ?_
   refine wm ?_
   refine Qde (cs := [iV (gt (Qcd x0) k100)]) Qp Qf rfl (by decide) (by decide) rfl (by kernel_rfl) (Qk rfl) (by decide) (fun p193 => ?_)
   let I34 : It := Qdf Qah 61 (sA g129) x0.Active.length c58 d116 (G128.toNat) K11
   let J52 : List It := [Qh p69 39 K7, I24, iS Qa 3 A53 c54 x0.Order, iS Qax 80 A61 c62 x0.Done, iS Qav 102 A65 c66 x0.Ledger, Qh p42 39 K3, Qh p41 39 K5, iS Qa 3 A110 c111 d109, iS Qa 3 A114 c115 d113]
   refine ap1 Qa 3 (.slice A106 d105.length c107) d105 (gt (Qcd x0) k100) [] (I34 :: Qh p151 61 K11 :: I33 :: I32 :: I26 :: I27 :: I28 :: iS Qap 70 A161 c162 d160 :: I25 :: Qh p94 102 K6 :: J52) [iV (gt (Qcd x0) k100)] (pk [0, 18, 1, 2, 3, 4, 5, 6, 7, 8, 9, 10, 11, 12, 13, 14, 15, 16, 17, 19, 20]) (fun _ _ hs => by cases (Sep.nil hs); exact (Qhn Qck Qho)) Qp Qf (show (d105.length + 1) * 8 ≤ 140737488355328 from by omega) (fun v194 => ?_)
   refine fm 0 ?_
   rintro A195 c196 rfl m197
   refine wv (vf Qbz rfl Qam) ?_
   let K12 : List Value := [iV x0.Cursor, nI (((gt x0.Store.Segments (x0.Cursor.toNat))).length), .slice A195 (d105 ++ [(gt (Qcd x0) k100)]).length c196, .slice A110 d109.length c111, .slice A114 d113.length c115]
   let I35 : It := iS Qa 3 A195 c196 (d105 ++ [(gt (Qcd x0) k100)])
   refine sb 2 K12 (I35 :: I34 :: Qh p151 61 K11 :: I33 :: I32 :: I26 :: I27 :: I28 :: iS Qap 70 A161 c162 d160 :: I25 :: J52) (pk [10, 0, 1, 2, 3, 4, 5, 6, 7, 8, 9, 11, 12, 13, 14, 15, 16, 17, 18, 19]) Qam ?_
   refine nt' (sr ?_)
   refine wv (vf Qbz rfl Qam) ?_
   refine wv (vl 0 3 Qp) ?_
   refine wv (vf Qaj rfl Qbi) ?_
   refine wv (fun W hm => Qea (o := 1) Qbo rfl Qf (by decide) rfl rfl) ?_
   refine wv (vl 3 1 Qs) ?_
   refine Qde (cs := [iV ((gt d116 (G128.toNat)).Query.Tenant)]) Qp Qf rfl (by decide) (by decide) rfl (by kernel_rfl) (Qk rfl) (by decide) (fun p199 => ?_)
   let J53 : List It := [I35, I34, Qh p151 61 K11, I33, I32, I26, I27, I28, iS Qap 70 A161 c162 d160, I25, Qh p69 39 K7, I24, iS Qa 3 A53 c54 x0.Order, iS Qax 80 A61 c62 x0.Done, iS Qav 102 A65 c66 x0.Ledger, Qh p42 39 K3, Qh p41 39 K5, iS Qa 3 A114 c115 d113]
   refine ap1 Qa 3 (.slice A110 d109.length c111) d109 ((gt d116 (G128.toNat)).Query.Tenant) [] (Qh p94 102 K12 :: J53) [iV ((gt d116 (G128.toNat)).Query.Tenant)] (pk [0, 19, 1, 2, 3, 4, 5, 6, 7, 8, 9, 10, 11, 12, 13, 14, 15, 16, 17, 18, 20]) (fun _ _ hs => by cases (Sep.nil hs); exact (Qhn Qck Qho)) Qp Qf (show (d109.length + 1) * 8 ≤ 140737488355328 from by omega) (fun v200 => ?_)
   refine fm 0 ?_
   rintro A201 c202 rfl m203
   refine wv (vf Qbz rfl Qam) ?_
   let K13 : List Value := [iV x0.Cursor, nI (((gt x0.Store.Segments (x0.Cursor.toNat))).length), .slice A195 (d105 ++ [(gt (Qcd x0) k100)]).length c196, .slice A201 (d109 ++ [(gt d116 (G128.toNat)).Query.Tenant]).length c202, .slice A114 d113.length c115]
   let I36 : It := iS Qa 3 A201 c202 (d109 ++ [(gt d116 (G128.toNat)).Query.Tenant])
   refine sb 3 K13 (I36 :: J53) (pk [1, 0, 2, 3, 4, 5, 6, 7, 8, 9, 10, 11, 12, 13, 14, 15, 16, 17, 18, 19]) Qam ?_
   refine nt' ?_
   refine Qdp (pk [0, 1, 2, 3, 5, 7, 8, 10, 11, 12, 13, 14, 15, 16, 17, 18, 19]) ?_
   refine Qy ?_
   refine wv (vf Qbz rfl Qam) ?_
   refine wv (vl 0 4 Qp) ?_
   refine wm ?_
   refine Qde (cs := [iV s158]) Qp Qf rfl (by decide) (by decide) rfl (by kernel_rfl) (Qk rfl) (by decide) (fun p205 => ?_)
   let J54 : List It := I36 :: I35 :: I34 :: I33 :: I26 :: I27 :: iS Qap 70 A161 c162 d160 :: I25 :: Qh p69 39 K7 :: I24 :: iS Qa 3 A53 c54 x0.Order :: J48
   refine ap1 Qa 3 (.slice A114 d113.length c115) d113 s158 [] (Qh p94 102 K13 :: J54) [iV s158] (pk [0, 17, 1, 2, 3, 4, 5, 6, 7, 8, 9, 10, 11, 12, 13, 14, 15, 16]) (fun _ _ hs => by cases (Sep.nil hs); exact (Qhn Qck Qho)) Qp Qf (show (d113.length + 1) * 8 ≤ 140737488355328 from by omega) (fun v206 => ?_)
   refine fm 0 ?_
   rintro A207 c208 rfl m209
   refine wv (vf Qbz rfl Qam) ?_
   let K14 : List Value := [iV x0.Cursor, nI (((gt x0.Store.Segments (x0.Cursor.toNat))).length), .slice A195 (d105 ++ [(gt (Qcd x0) k100)]).length c196, .slice A201 (d109 ++ [(gt d116 (G128.toNat)).Query.Tenant]).length c202, .slice A207 (d113 ++ [s158]).length c208]
   refine sb 4 K14 (iS Qa 3 A207 c208 (d113 ++ [s158]) :: J54) (pk [1, 0, 2, 3, 4, 5, 6, 7, 8, 9, 10, 11, 12, 13, 14, 15, 16]) Qam ?_
   refine Qad (Qan (Qe (Qy ?_)))
   refine wv (Qal k100 1 (by omega)) ?_
   refine wm (Qad ?_)
   refine Qdd (fun W hm => Mem.unfocus (Mem.join (is := [I26, I27, I33, iS Qap 70 A161 c162 d160]) (js := (I34 :: (Qh p94 102 K14 :: iS Qa 3 A207 c208 (d113 ++ [s158]) :: I36 :: I35 :: I25 :: Qh p69 39 K7 :: I24 :: iS Qa 3 A53 c54 x0.Order :: J48))) (fun _ _ hs => Qhl (x := (⟨(gt d116 (G128.toNat)).Query, (gt d116 (G128.toNat)).Time, (Qlo ((gt d116 (G128.toNat)).Todo) x0.Cursor), (gt d116 (G128.toNat)).Age, (IntKind.i64.wrap (((gt d116 (G128.toNat)).Sent) + s158)), (gt d116 (G128.toNat)).Cap, d160⟩ : Qw)) hs) (hm.pick [6, 7, 5, 8, 4, 0, 1, 2, 3, 9, 10, 11, 12, 13, 14, 15, 16] (by decide)))) ?_
   exact Qao (k100 + 1, ((d105 ++ [(gt (Qcd x0) k100)]), (d109 ++ [(gt d116 (G128.toNat)).Query.Tenant]), (d113 ++ [s158]), (Qpy x0 d116 G128 s158 d160)), (A195, c196, A201, c202, A207, c208)) sl7 (pk [5, 1, 6, 7, 8, 0, 9, 10, 11, 12, 4, 3, 2]) ⟨(by omega), nx hF118 (by subst hG128; exact Qaq hE187 (rfl)), (show (d105 ++ [(gt (Qcd x0) k100)]).length ≤ 0 + (k100 + 1) from by first | omega | (simp only [List.length_append, List.length_cons, List.length_nil] at *; omega)), (show (d109 ++ [(gt d116 (G128.toNat)).Query.Tenant]).length ≤ 0 + (k100 + 1) from by first | omega | (simp only [List.length_append, List.length_cons, List.length_nil] at *; omega)), (show (d113 ++ [s158]).length ≤ 0 + (k100 + 1) from by first | omega | (simp only [List.length_append, List.length_cons, List.length_nil] at *; omega)), (show (Qpy x0 d116 G128 s158 d160).length = x0.Active.length from by rw [List.length_set]; omega), (show ∀ i, (gt (Qpy x0 d116 G128 s158 d160) i).Todo.length ≤ 8 ∧ (gt (Qpy x0 d116 G128 s158 d160) i).Rows.length ≤ 1000 + 4 * (k100 + 1) from by exact Qaeo (P := fun (a : Qw) => a.Todo.length ≤ 8 ∧ a.Rows.length ≤ 1000 + 4 * (k100 + 1)) (fun i => by have := hi124 i; omega) ⟨by dsimp only; omega, by dsimp only; omega⟩)⟩ (show (Qcd x0).length - (k100 + 1) < (Qcd x0).length - k100 from by omega)
  refine Qn rfl g126 ?_
  refine Qay (Qu (Qu ?_))
  have hE212 := Qbg hl125 hF118
  refine Qaz (Qe (Qd (sr ?_)))
  refine wv (vf Qbz rfl Qam) ?_
  refine wv (vl 1 2 Qp) ?_
  refine wv (Qaf Qp) ?_
  refine wv (fun W hm => Qet rfl rfl) ?_
  refine nt' ?_
  let I37 : It := Qm (tSl Qah 61) [.slice A57 x0.Active.length c58] d116
  let J55 : List It := I24 :: iS Qa 3 A53 c54 x0.Order :: I37 :: iS Qax 80 A61 c62 x0.Done :: J47
  refine Qmy (σ := (List Qbb) × (Option Addr × Nat)) (fun s => [(1, bp p41), (2, bp p42), (4, bp p69)]) (fun s => (iS Qav 102 s.2.1 s.2.2 s.1 :: Qh p69 39 [.slice A49 x0.Store.Segments.length c50, iV x0.Store.Now, iV x0.Cursor, .slice A53 x0.Order.length c54, .slice A57 x0.Active.length c58, .slice A61 x0.Done.length c62, .slice s.2.1 s.1.length s.2.2, iV x0.Steps] :: J55)) (fun s => (Qoj x0 d105 d109 d113) = Sum.inr s.1) ?_ ?_
  ·
   rcases dcd (0 < ((d105.length : Nat) : Int)) with ⟨h217, g218⟩ | ⟨h217, g218⟩
   ·
    refine Ql rfl g218 ?_
    refine Qy ?_
    refine wv (vf Qac rfl Qfc) ?_
    refine wv (vl 2 6 Qcv) ?_
    let K15 : List Value := [iV x0.Cursor, nI (((gt x0.Store.Segments (x0.Cursor.toNat))).length), .slice A106 d105.length c107, .slice A110 d109.length c111, .slice A114 d113.length c115]
    refine wv (fun W hm => Qae (cs := K15) Qbz Qcr rfl rfl (hm.boxCells (n := 1) rfl)) ?_
    refine Qde (cs := K15) Qcv Qcr rfl (by decide) (by decide) rfl (by kernel_rfl) (Qk rfl) (by decide) (fun p219 => ?_)
    refine ap1 Qav 102 (.slice A65 x0.Ledger.length c66) x0.Ledger (⟨x0.Cursor, ((((gt x0.Store.Segments (x0.Cursor.toNat))).length : Nat) : Int), d105, d109, d113⟩ : Qbb) [iS Qa 3 A106 c107 d105, iS Qa 3 A110 c111 d109, iS Qa 3 A114 c115 d113] (iS Qa 3 A96 c97 (Qcd x0) :: Qh p94 102 K15 :: Qh p69 39 K2 :: J55) K15 (pk [0, 8, 11, 12, 13, 1, 2, 3, 4, 5, 6, 7, 9, 10]) (fun _ _ hs => Els.single (Qmp (x := (⟨x0.Cursor, ((((gt x0.Store.Segments (x0.Cursor.toNat))).length : Nat) : Int), d105, d109, d113⟩ : Qbb)) hs)) Qcv Qcr (show (x0.Ledger.length + 1) * 88 ≤ 140737488355328 from by omega) (fun v220 => ?_)
    refine fm 0 ?_
    rintro A221 c222 rfl m223
    refine wv (vf Qac rfl Qfc) ?_
    refine sb 6 [.slice A49 x0.Store.Segments.length c50, iV x0.Store.Now, iV x0.Cursor, .slice A53 x0.Order.length c54, .slice A57 x0.Active.length c58, .slice A61 x0.Done.length c62, .slice A221 (Qpz x0 d105 d109 d113).length c222, iV x0.Steps] (iS Qav 102 A221 c222 (Qpz x0 d105 d109 d113) :: iS Qa 3 A96 c97 (Qcd x0) :: Qh p94 102 K15 :: J55) (pk [3, 0, 1, 2, 4, 5, 6, 7, 8, 9]) Qfc ?_
    refine Qad ?_
    exact Qgl ((Qpz x0 d105 d109 d113), (A221, c222)) sl3 (pk [1, 0, 4, 5, 6, 7, 8, 9]) (show (Qoj x0 d105 d109 d113) = Sum.inr (Qpz x0 d105 d109 d113) from Qb g218 (rfl))
   refine Qn rfl g218 ?_
   refine Qo ?_
   exact Qgl (x0.Ledger, (A65, c66)) sl3 (pk [7, 2, 3, 4, 5, 6, 8, 9]) (show (Qoj x0 d105 d109 d113) = Sum.inr x0.Ledger from Qc g218 (rfl))
  rintro ⟨E213, ⟨A214, c215⟩⟩ H225
  dsimp only at H225
  have hE226 := H225
  show QM 204 _ _ _ .normal [(1, bp p41), (2, bp p42), (4, bp p69)] (iS Qav 102 A214 c215 E213 :: Qh p69 39 [.slice A49 x0.Store.Segments.length c50, iV x0.Store.Now, iV x0.Cursor, .slice A53 x0.Order.length c54, .slice A57 x0.Active.length c58, .slice A61 x0.Done.length c62, .slice A214 E213.length c215, iV x0.Steps] :: J55)
  refine Qna (n := 0) rfl ?_
  intro m227 m228
  refine Qe (sr ?_)
  refine Qce (E := Qah) Qaw Qbd (Qk rfl) (by decide) (fun p229 => ?_)
  refine wa (nt' (Qd (sr ?_)))
  refine wv (vf Qac rfl Qcz) ?_
  refine wv (vl 2 4 Qaw) ?_
  refine wv (Qaf Qaw) ?_
  refine wm (nt' (Qx ?_))
  refine Qdp (fun W hm => Mem.toRest (hm.pick [5, 0, 1, 2, 3, 4, 6, 7, 8] (by decide))) ?_
  refine Qbf (S := (List Qw) × (List Qat)) (R := Option Addr × Nat × Option Addr × Nat) (fun k (s : (List Qw) × (List Qat)) => Qrn x0 d116 k s.1 s.2) x0.Active.length 0 ([], x0.Done) ((sA p229), 0, A61, c62) (fun s => [(1, bp p41), (2, bp p42), (4, bp p69), (14, .slice s.2.2.1 s.2.1.1.length s.2.2.2.1), (145, .slice A57 x0.Active.length c58), (146, nI x0.Active.length), (147, nI s.1)]) (fun s => (Qhe Qah 61 A57 x0.Active.length d116 s.1 :: iS Qah 61 s.2.2.1 s.2.2.2.1 s.2.1.1 :: iS Qav 102 A214 c215 E213 :: Qh p69 39 [.slice A49 x0.Store.Segments.length c50, iV x0.Store.Now, iV x0.Cursor, .slice A53 x0.Order.length c54, .slice A57 x0.Active.length c58, .slice s.2.2.2.2.1 s.2.1.2.length s.2.2.2.2.2, .slice A214 E213.length c215, iV x0.Steps] :: I24 :: iS Qa 3 A53 c54 x0.Order :: iS Qax 80 s.2.2.2.2.1 s.2.2.2.2.2 s.2.1.2 :: J47)) (fun s => s.2.1.1.length ≤ 0 + s.1 ∧ s.2.1.2.length ≤ x0.Done.length + s.1) sl7 ⟨Nat.le_refl _, Nat.le_refl _⟩ ?_
  rintro ⟨k231, ⟨d232, d236⟩, ⟨A233, c234, A237, c238⟩⟩ H241 _ _ e e'
  dsimp only at H241 ⊢
  subst e e'
  obtain ⟨hk239, hF240, hi242, hi243⟩ := H241
  refine sr ?_
  refine wv Qai ?_
  refine nt' (Qd ?_)
  rcases dcl k231 x0.Active.length with ⟨hl244, g245⟩ | ⟨hl244, g245⟩
  ·
   refine Ql rfl g245 ?_
   refine Qo (Qe (Qd (Qx (sr ?_))))
   refine Qrg (n := 0) rfl (by omega) ?_
   rintro g246 rfl
   refine wv (vix 10 k231 Qaw Qbd) ?_
   let K16 : List Value := [.slice A49 x0.Store.Segments.length c50, iV x0.Store.Now, iV x0.Cursor, .slice A53 x0.Order.length c54, .slice (sA g246) x0.Active.length c58, .slice A237 d236.length c238, .slice A214 E213.length c215, iV x0.Steps]
   let J56 : List It := iS Qav 102 A214 c215 E213 :: Qh p69 39 K16 :: I24 :: iS Qa 3 A53 c54 x0.Order :: iS Qax 80 A237 c238 d236 :: J47
   let J57 : List It := iS Qah 61 A233 c234 d232 :: J56
   refine Qrh (E := Qah) (e := 61) (A := (sA g246)) (n := x0.Active.length) (xs := d116) (k := k231) (js := J57) (by omega) idM (fun ck247 => ?_)
   refine Qod ?_
   rintro ⟨v248, v249, v250, v251⟩ rfl
   refine fm 0 ?_
   rintro A252 c253 rfl m254
   refine fm 1 ?_
   rintro A256 c257 rfl m258
   refine fm 2 ?_
   rintro A260 c261 rfl m262
   refine fm 3 ?_
   rintro A264 c265 rfl m266
   let K17 : List Value := [iV ((gt d116 k231).Query.Id), iV ((gt d116 k231).Query.Tenant), .slice A252 ((gt d116 k231).Query.Conds).length c253, .slice A256 ((gt d116 k231).Query.Out).length c257, iV ((gt d116 k231).Time), .slice A260 ((gt d116 k231).Todo).length c261, iV ((gt d116 k231).Age), iV ((gt d116 k231).Sent), iV ((gt d116 k231).Cap), .slice A264 ((gt d116 k231).Rows).length c265]
   refine wv (fun W hm => Qae (cs := K17) Qaj Qbd rfl rfl (hm.restCells (i := 4) rfl rfl)) ?_
   refine Qbs Qbd rfl (Qk rfl) (by decide) (fun p268 => ?_)
   let I38 : It := iS Qbk 180 A252 c253 ((gt d116 k231).Query.Conds)
   let I39 : It := iS Qa 3 A256 c257 ((gt d116 k231).Query.Out)
   let I40 : It := Qil Qah 61 (sA g246) x0.Active.length d116 k231 K17
   let J58 : List It := I38 :: I39 :: iS Qa 3 A260 c261 ((gt d116 k231).Todo) :: iS Qap 70 A264 c265 ((gt d116 k231).Rows) :: I40 :: J57
   refine sb 0 K17 J58 idM Qbd ?_
   refine nt' (sr ?_)
   refine wv (vf Qaj rfl Qf) ?_
   refine wv (vl 0 6 Qs) ?_
   refine wv Qcw ?_
   refine wv (vf Qaj rfl Qf) ?_
   let K18 : List Value := [iV ((gt d116 k231).Query.Id), iV ((gt d116 k231).Query.Tenant), .slice A252 ((gt d116 k231).Query.Conds).length c253, .slice A256 ((gt d116 k231).Query.Out).length c257, iV ((gt d116 k231).Time), .slice A260 ((gt d116 k231).Todo).length c261, iV (IntKind.i64.wrap (((gt d116 k231).Age) + 1)), iV ((gt d116 k231).Sent), iV ((gt d116 k231).Cap), .slice A264 ((gt d116 k231).Rows).length c265]
   refine sb 6 K18 J58 idM Qf ?_
   refine nt' (Qd (sr ?_))
   refine wv (vf Qaj rfl Qf) ?_
   refine wv (vl 0 6 Qs) ?_
   refine wv (vf Qac rfl Qbt) ?_
   refine wv (fun W hm => Qea (o := 0) Qbx rfl Qdz (by decide) rfl rfl) ?_
   refine wv (vl 13 0 Qca) ?_
   refine wv (Qaf Qca) ?_
   refine wv (fun W hm => Qux rfl rfl (by omega)) ?_
   refine wv (fun W hm => Qfa rfl rfl) ?_
   refine nt' ?_
   rcases dce (Int.tmod (IntKind.i64.wrap (((gt d116 k231).Age) + 1)) ((x0.Store.Segments.length : Nat) : Int)) 0 with ⟨h269, g270⟩ | ⟨h269, g270⟩
   ·
    refine Ql rfl g270 ?_
    refine Qy ?_
    refine wv (vf Qaj rfl Qf) ?_
    let K19 : List Value := [iV ((gt d116 k231).Query.Id), iV ((gt d116 k231).Query.Tenant), .slice A252 ((gt d116 k231).Query.Conds).length c253, .slice A256 ((gt d116 k231).Query.Out).length c257, iV ((gt d116 k231).Time), .slice A260 ((gt d116 k231).Todo).length c261, iV (IntKind.i64.wrap (((gt d116 k231).Age) + 1)), iV 0, iV ((gt d116 k231).Cap), .slice A264 ((gt d116 k231).Rows).length c265]
    refine sb 7 K19 J58 idM Qf ?_
    refine nt' (sr ?_)
    refine wv (vf Qaj rfl Qam) ?_
    refine wv (vl 0 5 Qp) ?_
    refine wv (Qaf Qp) ?_
    refine wv (fun W hm => Qfa rfl rfl) ?_
    refine nt' ?_
    rcases dce ((((gt d116 k231).Todo).length : Nat) : Int) 0 with ⟨h271, g272⟩ | ⟨h271, g272⟩
    ·
     refine Ql rfl g272 ?_
     refine Qy ?_
     refine wv (vf Qac rfl Qek) ?_
     refine wv (vl 8 5 Qch) ?_
     refine wv (vf Qaj rfl Qbi) ?_
     refine wv (fun W hm => Qae (cs := [iV ((gt d116 k231).Query.Id), iV ((gt d116 k231).Query.Tenant), .slice A252 ((gt d116 k231).Query.Conds).length c253, .slice A256 ((gt d116 k231).Query.Out).length c257]) Qbo Qbi rfl rfl (hm.boxPart (n := 0) rfl rfl)) ?_
     refine wv (vf Qaj rfl Qf) ?_
     refine wv (vl 0 4 Qs) ?_
     refine wv (vf Qaj rfl Qf) ?_
     refine wv (vl 0 6 Qs) ?_
     refine wv (vf Qaj rfl Qdt) ?_
     refine wv (vl 0 9 Qci) ?_
     let K20 : List Value := [iV ((gt d116 k231).Query.Id), iV ((gt d116 k231).Query.Tenant), .slice A252 ((gt d116 k231).Query.Conds).length c253, .slice A256 ((gt d116 k231).Query.Out).length c257, iV ((gt d116 k231).Time), iV (IntKind.i64.wrap (((gt d116 k231).Age) + 1)), .slice A264 ((gt d116 k231).Rows).length c265]
     refine wv (fun W hm => Qef (cs := K20) rfl (by kernel_rfl)) ?_
     refine Qde (cs := K20) Qch Qcq rfl (by decide) (by decide) rfl (by kernel_rfl) (Qk rfl) (by decide) (fun p273 => ?_)
     refine ap1 Qax 80 (.slice A237 d236.length c238) d236 (⟨(gt d116 k231).Query, (gt d116 k231).Time, (IntKind.i64.wrap (((gt d116 k231).Age) + 1)), (gt d116 k231).Rows⟩ : Qat) [I38, I39, iS Qap 70 A264 c265 ((gt d116 k231).Rows)] (Qh p268 61 K19 :: iS Qa 3 A260 c261 ((gt d116 k231).Todo) :: I40 :: iS Qah 61 A233 c234 d232 :: iS Qav 102 A214 c215 E213 :: Qh p69 39 K16 :: I24 :: iS Qa 3 A53 c54 x0.Order :: J47) K20 (pk [0, 12, 2, 3, 5, 1, 4, 6, 7, 8, 9, 10, 11, 13, 14]) (fun _ _ hs => Els.single (Qlt (x := (⟨(gt d116 k231).Query, (gt d116 k231).Time, (IntKind.i64.wrap (((gt d116 k231).Age) + 1)), (gt d116 k231).Rows⟩ : Qat)) hs)) Qch Qcq (show (d236.length + 1) * 104 ≤ 140737488355328 from by omega) (fun v274 => ?_)
     refine fm 0 ?_
     rintro A275 c276 rfl m277
     refine wv (vf Qac rfl Qek) ?_
     refine sb 5 [.slice A49 x0.Store.Segments.length c50, iV x0.Store.Now, iV x0.Cursor, .slice A53 x0.Order.length c54, .slice (sA g246) x0.Active.length c58, .slice A275 (Qkm d116 k231 d236).length c276, .slice A214 E213.length c215, iV x0.Steps] (iS Qax 80 A275 c276 (Qkm d116 k231 d236) :: Qh p268 61 K19 :: iS Qa 3 A260 c261 ((gt d116 k231).Todo) :: I40 :: iS Qah 61 A233 c234 d232 :: iS Qav 102 A214 c215 E213 :: I24 :: iS Qa 3 A53 c54 x0.Order :: J47) (pk [6, 0, 1, 2, 3, 4, 5, 7, 8, 9, 10]) Qek ?_
     refine Qad (Qan (Qe (Qy ?_)))
     refine wv (Qal k231 1 (by omega)) ?_
     refine wm (Qad ?_)
     refine Qdd (fun W hm => Mem.restNext (hm.pick [4, 0, 1, 2, 3, 5, 6, 7, 8, 9, 10] (by decide))) ?_
     exact Qao (k231 + 1, (d232, (Qkm d116 k231 d236)), (A233, c234, A275, c276)) sl7 (pk [0, 5, 6, 1, 7, 8, 2, 9, 10]) ⟨(by omega), nx hF240 (Qb g270 (Qb g272 (rfl))), (show d232.length ≤ 0 + (k231 + 1) from by first | omega | (simp only [List.length_append, List.length_cons, List.length_nil] at *; omega)), (show (Qkm d116 k231 d236).length ≤ x0.Done.length + (k231 + 1) from by first | omega | (simp only [List.length_append, List.length_cons, List.length_nil] at *; omega))⟩ rl
    refine Qn rfl g272 ?_
    refine Qy (wm ?_)
    refine wv (fun W hm => Qae (cs := K19) Qaj Qbd rfl rfl (hm.boxCells (n := 0) rfl)) ?_
    refine Qde (cs := K19) Qaw Qbd rfl (by decide) (by decide) rfl (by kernel_rfl) (Qk rfl) (by decide) (fun p280 => ?_)
    refine ap1 Qah 61 (.slice A233 d232.length c234) d232 (⟨(gt d116 k231).Query, (gt d116 k231).Time, (gt d116 k231).Todo, (IntKind.i64.wrap (((gt d116 k231).Age) + 1)), 0, (gt d116 k231).Cap, (gt d116 k231).Rows⟩ : Qw) [I38, I39, iS Qa 3 A260 c261 ((gt d116 k231).Todo), iS Qap 70 A264 c265 ((gt d116 k231).Rows)] (Qh p268 61 K19 :: I40 :: J56) K19 (pk [0, 7, 2, 3, 4, 5, 1, 6, 8, 9, 10, 11, 12, 13, 14]) (fun _ _ hs => Els.single (Qhl (x := (⟨(gt d116 k231).Query, (gt d116 k231).Time, (gt d116 k231).Todo, (IntKind.i64.wrap (((gt d116 k231).Age) + 1)), 0, (gt d116 k231).Cap, (gt d116 k231).Rows⟩ : Qw)) hs)) Qaw Qbd (show (d232.length + 1) * 144 ≤ 140737488355328 from by omega) (fun v281 => ?_)
    refine fm 0 ?_
    rintro A282 c283 rfl m284
    refine wa (Qad (Qan (Qe (Qy ?_))))
    refine wv (Qal k231 1 (by omega)) ?_
    refine wm (Qad ?_)
    refine Qdd (fun W hm => Mem.restNext (hm.pick [2, 0, 1, 3, 4, 5, 6, 7, 8, 9] (by decide))) ?_
    exact Qao (k231 + 1, ((Que d116 k231 d232), d236), (A282, c283, A237, c238)) sl7 (pk [0, 1, 3, 4, 5, 6, 7, 8, 9]) ⟨(by omega), nx hF240 (Qb g270 (Qc g272 (rfl))), (show (Que d116 k231 d232).length ≤ 0 + (k231 + 1) from by first | omega | (simp only [List.length_append, List.length_cons, List.length_nil] at *; omega)), (show d236.length ≤ x0.Done.length + (k231 + 1) from by first | omega | (simp only [List.length_append, List.length_cons, List.length_nil] at *; omega))⟩ rl
   refine Qn rfl g270 ?_
   refine Qo (Qe (sr ?_))
   refine wv (vf Qaj rfl Qam) ?_
   refine wv (vl 0 5 Qp) ?_
   refine wv (Qaf Qp) ?_
   refine wv (fun W hm => Qfa rfl rfl) ?_
   refine nt' ?_
   rcases dce ((((gt d116 k231).Todo).length : Nat) : Int) 0 with ⟨h287, g288⟩ | ⟨h287, g288⟩
   ·
    refine Ql rfl g288 ?_
    refine Qy ?_
    refine wv (vf Qac rfl Qek) ?_
    refine wv (vl 8 5 Qch) ?_
    refine wv (vf Qaj rfl Qbi) ?_
    refine wv (fun W hm => Qae (cs := [iV ((gt d116 k231).Query.Id), iV ((gt d116 k231).Query.Tenant), .slice A252 ((gt d116 k231).Query.Conds).length c253, .slice A256 ((gt d116 k231).Query.Out).length c257]) Qbo Qbi rfl rfl (hm.boxPart (n := 0) rfl rfl)) ?_
    refine wv (vf Qaj rfl Qf) ?_
    refine wv (vl 0 4 Qs) ?_
    refine wv (vf Qaj rfl Qf) ?_
    refine wv (vl 0 6 Qs) ?_
    refine wv (vf Qaj rfl Qdt) ?_
    refine wv (vl 0 9 Qci) ?_
    let K21 : List Value := [iV ((gt d116 k231).Query.Id), iV ((gt d116 k231).Query.Tenant), .slice A252 ((gt d116 k231).Query.Conds).length c253, .slice A256 ((gt d116 k231).Query.Out).length c257, iV ((gt d116 k231).Time), iV (IntKind.i64.wrap (((gt d116 k231).Age) + 1)), .slice A264 ((gt d116 k231).Rows).length c265]
    refine wv (fun W hm => Qef (cs := K21) rfl (by kernel_rfl)) ?_
    refine Qde (cs := K21) Qch Qcq rfl (by decide) (by decide) rfl (by kernel_rfl) (Qk rfl) (by decide) (fun p289 => ?_)
    refine ap1 Qax 80 (.slice A237 d236.length c238) d236 (⟨(gt d116 k231).Query, (gt d116 k231).Time, (IntKind.i64.wrap (((gt d116 k231).Age) + 1)), (gt d116 k231).Rows⟩ : Qat) [I38, I39, iS Qap 70 A264 c265 ((gt d116 k231).Rows)] (Qh p268 61 K18 :: iS Qa 3 A260 c261 ((gt d116 k231).Todo) :: I40 :: iS Qah 61 A233 c234 d232 :: iS Qav 102 A214 c215 E213 :: Qh p69 39 K16 :: I24 :: iS Qa 3 A53 c54 x0.Order :: J47) K21 (pk [0, 12, 2, 3, 5, 1, 4, 6, 7, 8, 9, 10, 11, 13, 14]) (fun _ _ hs => Els.single (Qlt (x := (⟨(gt d116 k231).Query, (gt d116 k231).Time, (IntKind.i64.wrap (((gt d116 k231).Age) + 1)), (gt d116 k231).Rows⟩ : Qat)) hs)) Qch Qcq (show (d236.length + 1) * 104 ≤ 140737488355328 from by omega) (fun v290 => ?_)
    refine fm 0 ?_
    rintro A291 c292 rfl m293
    refine wv (vf Qac rfl Qek) ?_
    refine sb 5 [.slice A49 x0.Store.Segments.length c50, iV x0.Store.Now, iV x0.Cursor, .slice A53 x0.Order.length c54, .slice (sA g246) x0.Active.length c58, .slice A291 (Qkm d116 k231 d236).length c292, .slice A214 E213.length c215, iV x0.Steps] (iS Qax 80 A291 c292 (Qkm d116 k231 d236) :: Qh p268 61 K18 :: iS Qa 3 A260 c261 ((gt d116 k231).Todo) :: I40 :: iS Qah 61 A233 c234 d232 :: iS Qav 102 A214 c215 E213 :: I24 :: iS Qa 3 A53 c54 x0.Order :: J47) (pk [6, 0, 1, 2, 3, 4, 5, 7, 8, 9, 10]) Qek ?_
    refine Qad (Qan (Qe (Qy ?_)))
    refine wv (Qal k231 1 (by omega)) ?_
    refine wm (Qad ?_)
    refine Qdd (fun W hm => Mem.restNext (hm.pick [4, 0, 1, 2, 3, 5, 6, 7, 8, 9, 10] (by decide))) ?_
    exact Qao (k231 + 1, (d232, (Qkm d116 k231 d236)), (A233, c234, A291, c292)) sl7 (pk [0, 5, 6, 1, 7, 8, 2, 9, 10]) ⟨(by omega), nx hF240 (Qc g270 (Qb g288 (rfl))), (show d232.length ≤ 0 + (k231 + 1) from by first | omega | (simp only [List.length_append, List.length_cons, List.length_nil] at *; omega)), (show (Qkm d116 k231 d236).length ≤ x0.Done.length + (k231 + 1) from by first | omega | (simp only [List.length_append, List.length_cons, List.length_nil] at *; omega))⟩ rl
   refine Qn rfl g288 ?_
   refine Qy (wm ?_)
   refine wv (fun W hm => Qae (cs := K18) Qaj Qbd rfl rfl (hm.boxCells (n := 0) rfl)) ?_
   refine Qde (cs := K18) Qaw Qbd rfl (by decide) (by decide) rfl (by kernel_rfl) (Qk rfl) (by decide) (fun p296 => ?_)
   refine ap1 Qah 61 (.slice A233 d232.length c234) d232 (⟨(gt d116 k231).Query, (gt d116 k231).Time, (gt d116 k231).Todo, (IntKind.i64.wrap (((gt d116 k231).Age) + 1)), (gt d116 k231).Sent, (gt d116 k231).Cap, (gt d116 k231).Rows⟩ : Qw) [I38, I39, iS Qa 3 A260 c261 ((gt d116 k231).Todo), iS Qap 70 A264 c265 ((gt d116 k231).Rows)] (Qh p268 61 K18 :: I40 :: J56) K18 (pk [0, 7, 2, 3, 4, 5, 1, 6, 8, 9, 10, 11, 12, 13, 14]) (fun _ _ hs => Els.single (Qhl (x := (⟨(gt d116 k231).Query, (gt d116 k231).Time, (gt d116 k231).Todo, (IntKind.i64.wrap (((gt d116 k231).Age) + 1)), (gt d116 k231).Sent, (gt d116 k231).Cap, (gt d116 k231).Rows⟩ : Qw)) hs)) Qaw Qbd (show (d232.length + 1) * 144 ≤ 140737488355328 from by omega) (fun v297 => ?_)
   refine fm 0 ?_
   rintro A298 c299 rfl m300
   refine wa (Qad (Qan (Qe (Qy ?_))))
   refine wv (Qal k231 1 (by omega)) ?_
   refine wm (Qad ?_)
   refine Qdd (fun W hm => Mem.restNext (hm.pick [2, 0, 1, 3, 4, 5, 6, 7, 8, 9] (by decide))) ?_
   exact Qao (k231 + 1, ((Quf d116 k231 d232), d236), (A298, c299, A237, c238)) sl7 (pk [0, 1, 3, 4, 5, 6, 7, 8, 9]) ⟨(by omega), nx hF240 (Qc g270 (Qc g288 (rfl))), (show (Quf d116 k231 d232).length ≤ 0 + (k231 + 1) from by first | omega | (simp only [List.length_append, List.length_cons, List.length_nil] at *; omega)), (show d236.length ≤ x0.Done.length + (k231 + 1) from by first | omega | (simp only [List.length_append, List.length_cons, List.length_nil] at *; omega))⟩ rl
  refine Qn rfl g245 ?_
  refine Qay (Qu (Qu ?_))
  have hE303 := Qbg hl244 hF240
  refine Qaz (Qe (sr (wm ?_)))
  refine wv (vf Qac rfl Qcz) ?_
  let I41 : It := Qhe Qah 61 A57 x0.Active.length d116 k231
  let J59 : List It := I41 :: iS Qah 61 A233 c234 d232 :: iS Qav 102 A214 c215 E213 :: I24 :: iS Qa 3 A53 c54 x0.Order :: iS Qax 80 A237 c238 d236 :: J47
  refine sb 4 [.slice A49 x0.Store.Segments.length c50, iV x0.Store.Now, iV x0.Cursor, .slice A53 x0.Order.length c54, .slice A233 d232.length c234, .slice A237 d236.length c238, .slice A214 E213.length c215, iV x0.Steps] J59 (pk [3, 0, 1, 2, 4, 5, 6, 7, 8]) Qcz ?_
  refine nt' (sr ?_)
  refine wv (vf Qac rfl Qf) ?_
  refine wv (vl 8 2 Qs) ?_
  refine wv Qcw ?_
  refine wv (vf Qac rfl Qbt) ?_
  refine wv (fun W hm => Qea (o := 0) Qbx rfl Qdz (by decide) rfl rfl) ?_
  refine wv (vl 8 0 Qca) ?_
  refine wv (Qaf Qca) ?_
  refine wv (fun W hm => Qux rfl rfl (by omega)) ?_
  refine wv (vf Qac rfl Qf) ?_
  refine sb 2 [.slice A49 x0.Store.Segments.length c50, iV x0.Store.Now, iV (Int.tmod (IntKind.i64.wrap (x0.Cursor + 1)) ((x0.Store.Segments.length : Nat) : Int)), .slice A53 x0.Order.length c54, .slice A233 d232.length c234, .slice A237 d236.length c238, .slice A214 E213.length c215, iV x0.Steps] J59 idM Qf ?_
  refine nt' (sr ?_)
  refine wv (vf Qac rfl Qf) ?_
  refine wv (vl 0 7 Qs) ?_
  refine wv Qcw ?_
  refine wv (vf Qac rfl Qf) ?_
  let K22 : List Value := [.slice A49 x0.Store.Segments.length c50, iV x0.Store.Now, iV (Int.tmod (IntKind.i64.wrap (x0.Cursor + 1)) ((x0.Store.Segments.length : Nat) : Int)), .slice A53 x0.Order.length c54, .slice A233 d232.length c234, .slice A237 d236.length c238, .slice A214 E213.length c215, iV (IntKind.i64.wrap (x0.Steps + 1))]
  refine sb 7 K22 J59 idM Qf ?_
  refine nt' (sr ?_)
  refine wv (fun W hm => Qae (cs := K22) Qac Qbm rfl rfl (hm.boxCells (n := 0) rfl)) ?_
  let J60 : List It := Qh p69 39 K22 :: I41 :: J47
  refine Qkh (js := (Qm Qcf K22 (⟨x0.Store, (Int.tmod (IntKind.i64.wrap (x0.Cursor + 1)) ((x0.Store.Segments.length : Nat) : Int)), x0.Order, d232, d236, E213, (IntKind.i64.wrap (x0.Steps + 1))⟩ : Qr) :: J60)) (fun W hm => Mem.join (is := [I24, iS Qa 3 A53 c54 x0.Order, iS Qah 61 A233 c234 d232, iS Qax 80 A237 c238 d236, iS Qav 102 A214 c215 E213]) (js := J60) (fun _ _ hs => Qfo (x := (⟨x0.Store, (Int.tmod (IntKind.i64.wrap (x0.Cursor + 1)) ((x0.Store.Segments.length : Nat) : Int)), x0.Order, d232, d236, E213, (IntKind.i64.wrap (x0.Steps + 1))⟩ : Qr)) hs) (hm.pick [4, 5, 2, 6, 3, 0, 1, 7, 8] (by decide))) ?_
  refine Qpq (χ := List Value) (val := fun x => .agg x.toArray) (js := fun x => (Qm Qcf x (Qfr (⟨x0.Store, (Int.tmod (IntKind.i64.wrap (x0.Cursor + 1)) ((x0.Store.Segments.length : Nat) : Int)), x0.Order, d232, d236, E213, (IntKind.i64.wrap (x0.Steps + 1))⟩ : Qr)) :: J60)) (Qq cb72 rfl) (fun W hm => Qasd w.heap.size w J60 W K22 (⟨x0.Store, (Int.tmod (IntKind.i64.wrap (x0.Cursor + 1)) ((x0.Store.Segments.length : Nat) : Int)), x0.Order, d232, d236, E213, (IntKind.i64.wrap (x0.Steps + 1))⟩ : Qr)  ⟨s_0.1, (show d232.length ≤ 68719476736 from by omega)⟩ hm) (Qk rfl) (by decide) (fun z304 => ?_)
  refine Qih ?_
  rintro ⟨v305, v306, v307, v308, v309⟩ rfl
  refine fm 0 ?_
  rintro A310 c311 rfl m312
  refine fm 1 ?_
  rintro A314 c315 rfl m316
  refine fm 2 ?_
  rintro A318 c319 rfl m320
  refine fm 3 ?_
  rintro A322 c323 rfl m324
  refine fm 4 ?_
  rintro A326 c327 rfl m328
  let K23 : List Value := [.slice A310 ((Qfr (⟨x0.Store, (Int.tmod (IntKind.i64.wrap (x0.Cursor + 1)) ((x0.Store.Segments.length : Nat) : Int)), x0.Order, d232, d236, E213, (IntKind.i64.wrap (x0.Steps + 1))⟩ : Qr)).Store.Segments).length c311, iV ((Qfr (⟨x0.Store, (Int.tmod (IntKind.i64.wrap (x0.Cursor + 1)) ((x0.Store.Segments.length : Nat) : Int)), x0.Order, d232, d236, E213, (IntKind.i64.wrap (x0.Steps + 1))⟩ : Qr)).Store.Now), iV ((Qfr (⟨x0.Store, (Int.tmod (IntKind.i64.wrap (x0.Cursor + 1)) ((x0.Store.Segments.length : Nat) : Int)), x0.Order, d232, d236, E213, (IntKind.i64.wrap (x0.Steps + 1))⟩ : Qr)).Cursor), .slice A314 ((Qfr (⟨x0.Store, (Int.tmod (IntKind.i64.wrap (x0.Cursor + 1)) ((x0.Store.Segments.length : Nat) : Int)), x0.Order, d232, d236, E213, (IntKind.i64.wrap (x0.Steps + 1))⟩ : Qr)).Order).length c315, .slice A318 ((Qfr (⟨x0.Store, (Int.tmod (IntKind.i64.wrap (x0.Cursor + 1)) ((x0.Store.Segments.length : Nat) : Int)), x0.Order, d232, d236, E213, (IntKind.i64.wrap (x0.Steps + 1))⟩ : Qr)).Active).length c319, .slice A322 ((Qfr (⟨x0.Store, (Int.tmod (IntKind.i64.wrap (x0.Cursor + 1)) ((x0.Store.Segments.length : Nat) : Int)), x0.Order, d232, d236, E213, (IntKind.i64.wrap (x0.Steps + 1))⟩ : Qr)).Done).length c323, .slice A326 ((Qfr (⟨x0.Store, (Int.tmod (IntKind.i64.wrap (x0.Cursor + 1)) ((x0.Store.Segments.length : Nat) : Int)), x0.Order, d232, d236, E213, (IntKind.i64.wrap (x0.Steps + 1))⟩ : Qr)).Ledger).length c327, iV ((Qfr (⟨x0.Store, (Int.tmod (IntKind.i64.wrap (x0.Cursor + 1)) ((x0.Store.Segments.length : Nat) : Int)), x0.Order, d232, d236, E213, (IntKind.i64.wrap (x0.Steps + 1))⟩ : Qr)).Steps)]
  let I42 : It := iS (tSl Qag 163) 100 A310 c311 ((Qfr (⟨x0.Store, (Int.tmod (IntKind.i64.wrap (x0.Cursor + 1)) ((x0.Store.Segments.length : Nat) : Int)), x0.Order, d232, d236, E213, (IntKind.i64.wrap (x0.Steps + 1))⟩ : Qr)).Store.Segments)
  let I43 : It := iS Qa 3 A314 c315 ((Qfr (⟨x0.Store, (Int.tmod (IntKind.i64.wrap (x0.Cursor + 1)) ((x0.Store.Segments.length : Nat) : Int)), x0.Order, d232, d236, E213, (IntKind.i64.wrap (x0.Steps + 1))⟩ : Qr)).Order)
  let I44 : It := iS Qah 61 A318 c319 ((Qfr (⟨x0.Store, (Int.tmod (IntKind.i64.wrap (x0.Cursor + 1)) ((x0.Store.Segments.length : Nat) : Int)), x0.Order, d232, d236, E213, (IntKind.i64.wrap (x0.Steps + 1))⟩ : Qr)).Active)
  let I45 : It := iS Qax 80 A322 c323 ((Qfr (⟨x0.Store, (Int.tmod (IntKind.i64.wrap (x0.Cursor + 1)) ((x0.Store.Segments.length : Nat) : Int)), x0.Order, d232, d236, E213, (IntKind.i64.wrap (x0.Steps + 1))⟩ : Qr)).Done)
  let I46 : It := iS Qav 102 A326 c327 ((Qfr (⟨x0.Store, (Int.tmod (IntKind.i64.wrap (x0.Cursor + 1)) ((x0.Store.Segments.length : Nat) : Int)), x0.Order, d232, d236, E213, (IntKind.i64.wrap (x0.Steps + 1))⟩ : Qr)).Ledger)
  refine sb 0 K23 [I42, I43, I44, I45, I46, Qh p69 39 K22, I41, Qh p41 39 K5] (pk [7, 0, 1, 2, 3, 4, 5, 6, 8]) Qbm ?_
  refine wa (nt' (Qj ?_))
  have he330 := (show Qdj x0 = ((Qfr (⟨x0.Store, (Int.tmod (IntKind.i64.wrap (x0.Cursor + 1)) ((x0.Store.Segments.length : Nat) : Int)), x0.Order, d232, d236, E213, (IntKind.i64.wrap (x0.Steps + 1))⟩ : Qr)), true) from Qb g71 (Qc g73 (Qc g76 (Qc g79 (Qaq hE212 (Qaq hE226 (Qaq hE303 (rfl))))))))
  refine Qhw rfl (Qdw (n := 0) rfl rfl Qac Qbm rfl) (Qdm rfl) (fun W hm => ⟨K23, ?_, ?_⟩)
  ·first | rw [he330] | rfl
   try rfl
  rw [he330]; exact Mem.join (is := [I42, I43, I44, I45, I46]) (js := []) (fun _ _ hs => Qfo (x := (Qfr (⟨x0.Store, (Int.tmod (IntKind.i64.wrap (x0.Cursor + 1)) ((x0.Store.Segments.length : Nat) : Int)), x0.Order, d232, d236, E213, (IntKind.i64.wrap (x0.Steps + 1))⟩ : Qr))) hs) (hm.pick [1, 2, 3, 4, 5] (by decide))
 refine ws (nf g71) ?_
 refine ws (nf g71) ?_
 refine ws (nf g71) ?_
 iterate 17 first | refine wv (vpT (nf g71)) ?_ | refine wm ?_ | refine wk ?_ | refine wv (vpT rfl) ?_
 refine nt' ?_
 refine Ql rfl rfl ?_
 refine sr ?_
 refine wv (fun W hm => Qae (cs := K2) Qac Qbm rfl rfl (hm.boxCells (n := 0) rfl)) ?_
 refine sb 0 K2 [Qh p69 39 K2, I24, iS Qa 3 A53 c54 x0.Order, iS Qah 61 A57 c58 x0.Active, iS Qax 80 A61 c62 x0.Done, iS Qav 102 A65 c66 x0.Ledger, Qh p41 39 K1] (pk [6, 0, 1, 2, 3, 4, 5, 7]) Qbm ?_
 refine wa (nt' (Qj (Qg ?_)))
 have he331 := (show Qdj x0 = (x0, false) from Qc g71 (rfl))
 refine Qhw rfl (Qdw (n := 0) rfl rfl Qac Qbm rfl) (Qdm rfl) (fun W hm => ⟨K2, ?_, ?_⟩)
 ·first | rw [he331] | rfl
  try rfl
 rw [he331]; exact Mem.join (is := [I24, iS Qa 3 A53 c54 x0.Order, iS Qah 61 A57 c58 x0.Active, iS Qax 80 A61 c62 x0.Done, iS Qav 102 A65 c66 x0.Ledger]) (js := []) (fun _ _ hs => Qfo (x := x0) hs) (hm.pick [2, 3, 4, 5, 6] (by decide))

def Qyr (x0 : (List Int)) (x1 : (List Int)) (k13 : Nat) : Bool ⊕ (Unit) :=
 cond ((gt x0 k13) != (gt x1 k13)) (Sum.inl false) (Sum.inr ())
def Qgz (x0 : (List Int)) (x1 : (List Int)) : Bool :=
 cond (((x0.length : Nat) : Int) != ((x1.length : Nat) : Int)) false (Sum.elim id (fun (s : Unit) => true) (rng (R := Bool) (fun k (_ : Unit) => Qyr x0 x1 k) (x0.length - 0) 0 ()))
theorem Qni : Cb Tryz.prog 74 := ⟨f74, _, func74, rfl, by decide⟩
theorem Qno (w : World) (z0 : Value) (x0 : (List Int)) (z1 : Value) (x1 : (List Int)) (r_0 : rdS Qa w w.heap.size z0 x0) (r_1 : rdS Qa w w.heap.size z1 x1) :
  Calls Tryz.prog 74 #[z0, z1] w (rB w (Qgz x0 x1)) := by
 obtain ⟨m1, A2, c3, rfl, q4, r5⟩ := Qi r_0
 obtain ⟨m6, A7, c8, rfl, q9, r10⟩ := Qi r_1
 refine ce2 (L := [(0, .slice A2 x0.length c3), (1, .slice A7 x1.length c8)]) (N := 26) func74 ?_
 refine sr (wa (nt' (Qd (sr (wm ?_)))))
 refine wv (Qaf Qp) ?_
 refine wm ?_
 refine wv (Qaf Qp) ?_
 refine wv Qcj ?_
 refine nt' ?_
 rcases dcn ((x0.length : Nat) : Int) ((x1.length : Nat) : Int) with ⟨h11, g12⟩ | ⟨h11, g12⟩
 ·
  refine Qn rfl g12 ?_
  refine Qo (Qe (Qd (sr (wa (nt' (Qx ?_))))))
  refine Qbf (S := Unit) (R := Unit) (fun k (_ : Unit) => Qyr x0 x1 k) x0.length 0 () () (fun s => [(0, .slice A2 x0.length c3), (1, .slice A7 x1.length c8), (5, nI s.1)]) (fun s => []) (fun s => True) sl3 trivial ?_
  rintro ⟨k13, ⟨⟩, ⟨⟩⟩ H16 _ _ e e'
  dsimp only at H16 ⊢
  subst e e'
  obtain ⟨hk14, hF15, _⟩ := H16
  refine Qd (sr (wm (wm ?_)))
  refine wv (Qaf Qp) ?_
  refine wv Qai ?_
  refine nt' ?_
  rcases dcl k13 x0.length with ⟨hl17, g18⟩ | ⟨hl17, g18⟩
  ·
   refine Ql rfl g18 ?_
   refine Qo (Qe (Qd (Qx (Qd ?_))))
   refine Qew (by kernel_rfl) (by kernel_rfl) ?_
   refine qm (qm ?_)
   obtain ⟨a19, rfl, hb20, he21⟩ := q4 (by omega)
   refine qv (vix 1 k13 Qp Qf) ?_
   refine qv (fun W hm => Qau Qs rfl rfl ((hm.cell0 (show (a19.add (k13 * 1)).block < w.heap.size from by rw [Qab]; exact hb20.1)).trans (Qdr he21 k13 (by omega)))) ?_
   refine qm (qm ?_)
   obtain ⟨a22, rfl, hb23, he24⟩ := q9 (by omega)
   refine qv (vix 1 k13 Qp Qf) ?_
   refine qv (fun W hm => Qau Qs rfl rfl ((hm.cell0 (show (a22.add (k13 * 1)).block < w.heap.size from by rw [Qab]; exact hb23.1)).trans (Qdr he24 k13 (by omega)))) ?_
   refine qv Qcj ?_
   refine nq' ?_
   rcases dcn (gt x0 k13) (gt x1 k13) with ⟨h25, g26⟩ | ⟨h25, g26⟩
   ·
    refine Qn rfl g26 ?_
    refine Qo (Qan (Qe (Qy (wm ?_))))
    refine wv (Qal k13 1 (by omega)) ?_
    refine wa (Qad ?_)
    exact Qao (k13 + 1, (), ()) sl3 idM ⟨(by omega), nx hF15 (Qc g26 (rfl)), trivial⟩ rl
   refine Ql rfl g26 ?_
   refine sr (wa (nt' (Qj (Qz (Qg (Qg (Qz (Qg ?_))))))))
   exact rtb (h := Qc g12 (Qbe (nr hF15 (Qb g26 (rfl))) rfl))
  refine Qn rfl g18 ?_
  refine Qay (Qu (Qu ?_))
  have hE28 := Qbg hl17 hF15
  refine Qaz (Qe (sr (wa (nt' (Qj ?_)))))
  exact rtb (h := Qc g12 (Qaq hE28 (rfl)))
 refine Ql rfl g12 ?_
 refine sr (wa (nt' (Qj (Qg ?_))))
 exact rtb (h := Qb g12 (rfl))

def Qsc (x0 : Qt) (x1 : Qt) : Bool :=
 cond (x0.Id != x1.Id) false (cond (Qgz x0.Values x1.Values) (cond (x0.Born != x1.Born) false (cond (x0.Died != x1.Died) false true)) false)
theorem Qaop : Cb Tryz.prog 220 := ⟨f220, _, func220, rfl, by decide⟩
theorem Qatn (w : World) (z0 : List Value) (x0 : Qt) (z1 : List Value) (x1 : Qt) (r_0 : Qag.rd w w.heap.size z0 x0) (r_1 : Qag.rd w w.heap.size z1 x1) :
  Calls Tryz.prog 220 #[.agg z0.toArray, .agg z1.toArray] w (rB w (Qsc x0 x1)) := by
 obtain ⟨v1, rfl, r2⟩ := Qfx r_0
 obtain ⟨m3, A4, c5, rfl, q6, r7⟩ := Qi r2
 obtain ⟨v8, rfl, r9⟩ := Qfx r_1
 obtain ⟨m10, A11, c12, rfl, q13, r14⟩ := Qi r9
 refine ce2 (L := [(0, .agg #[iV x0.Id, .slice A4 x0.Values.length c5, iV x0.Born, iV x0.Died]), (1, .agg #[iV x1.Id, .slice A11 x1.Values.length c12, iV x1.Born, iV x1.Died])]) (N := 26) func220 ?_
 refine sr ?_
 refine Qbq rfl (Qk rfl) (by decide) (fun p15 => ?_)
 refine Qbq rfl (Qk rfl) (by decide) (fun p16 => ?_)
 refine wa (nt' (Qd (sr ?_)))
 refine wv (vf Qbn rfl Qf) ?_
 refine wv (vl 1 0 Qs) ?_
 refine wv (vf Qbn rfl Qf) ?_
 refine wv (vl 0 0 Qs) ?_
 refine wv Qcj ?_
 refine nt' ?_
 rcases dcn x0.Id x1.Id with ⟨h17, g18⟩ | ⟨h17, g18⟩
 ·
  refine Qn rfl g18 ?_
  refine Qo (Qe (Qd (sr ?_)))
  refine wv (vf Qbn rfl Qam) ?_
  refine wv (vl 1 1 Qp) ?_
  refine wv (vf Qbn rfl Qam) ?_
  refine wv (vl 0 1 Qp) ?_
  refine wcv (Qq Qni rfl) (fun W hm => Qno W _ x0.Values _ x1.Values (hm.rdS0 r7) (hm.rdS0 r14)) ?_
  refine wv Qbp ?_
  refine nt' ?_
  rcases bd (Qgz x0.Values x1.Values) with g20 | g20
  ·
   refine Qn rfl (nt g20) ?_
   refine Qo (Qe (Qd (sr ?_)))
   refine wv (vf Qbn rfl Qf) ?_
   refine wv (vl 1 2 Qs) ?_
   refine wv (vf Qbn rfl Qf) ?_
   refine wv (vl 0 2 Qs) ?_
   refine wv Qcj ?_
   refine nt' ?_
   rcases dcn x0.Born x1.Born with ⟨h21, g22⟩ | ⟨h21, g22⟩
   ·
    refine Qn rfl g22 ?_
    refine Qo (Qe (Qd (sr ?_)))
    refine wv (vf Qbn rfl Qf) ?_
    refine wv (vl 1 3 Qs) ?_
    refine wv (vf Qbn rfl Qf) ?_
    refine wv (vl 0 3 Qs) ?_
    refine wv Qcj ?_
    refine nt' ?_
    rcases dcn x0.Died x1.Died with ⟨h23, g24⟩ | ⟨h23, g24⟩
    ·
     refine Qn rfl g24 ?_
     refine Qo (Qe (sr (wa (nt' (Qj ?_)))))
     exact rtb (h := Qc g18 (Qb g20 (Qc g22 (Qc g24 (rfl)))))
    refine Ql rfl g24 ?_
    refine sr (wa (nt' (Qj (Qg ?_))))
    exact rtb (h := Qc g18 (Qb g20 (Qc g22 (Qb g24 (rfl)))))
   refine Ql rfl g22 ?_
   refine sr (wa (nt' (Qj (Qg ?_))))
   exact rtb (h := Qc g18 (Qb g20 (Qb g22 (rfl))))
  refine Ql rfl (nf g20) ?_
  refine sr (wa (nt' (Qj (Qg ?_))))
  exact rtb (h := Qc g18 (Qc g20 (rfl)))
 refine Ql rfl g18 ?_
 refine sr (wa (nt' (Qj (Qg ?_))))
 exact rtb (h := Qb g18 (rfl))

def Qyu (x0 : (List Qt)) (x1 : (List Qt)) (k13 : Nat) : Bool ⊕ (Unit) :=
 cond (Qsc (gt x0 k13) (gt x1 k13)) (Sum.inr ()) (Sum.inl false)
def Qsb (x0 : (List Qt)) (x1 : (List Qt)) : Bool :=
 cond (((x0.length : Nat) : Int) != ((x1.length : Nat) : Int)) false (Sum.elim id (fun (s : Unit) => true) (rng (R := Bool) (fun k (_ : Unit) => Qyu x0 x1 k) (x0.length - 0) 0 ()))
theorem Qanz : Cb Tryz.prog 198 := ⟨f198, _, func198, rfl, by decide⟩
theorem Qatl (w : World) (z0 : Value) (x0 : (List Qt)) (z1 : Value) (x1 : (List Qt)) (r_0 : rdS Qag w w.heap.size z0 x0) (r_1 : rdS Qag w w.heap.size z1 x1) :
  Calls Tryz.prog 198 #[z0, z1] w (rB w (Qsb x0 x1)) := by
 obtain ⟨m1, A2, c3, rfl, q4, r5⟩ := Qi r_0
 obtain ⟨m6, A7, c8, rfl, q9, r10⟩ := Qi r_1
 refine ce2 (L := [(0, .slice A2 x0.length c3), (1, .slice A7 x1.length c8)]) (N := 27) func198 ?_
 refine sr (wa (nt' (Qd (sr (wm ?_)))))
 refine wv (Qaf Qbw) ?_
 refine wm ?_
 refine wv (Qaf Qbw) ?_
 refine wv Qcj ?_
 refine nt' ?_
 rcases dcn ((x0.length : Nat) : Int) ((x1.length : Nat) : Int) with ⟨h11, g12⟩ | ⟨h11, g12⟩
 ·
  refine Qn rfl g12 ?_
  refine Qo (Qe (Qd (sr (wa (nt' (Qx ?_))))))
  refine Qbf (S := Unit) (R := Unit) (fun k (_ : Unit) => Qyu x0 x1 k) x0.length 0 () () (fun s => [(0, .slice A2 x0.length c3), (1, .slice A7 x1.length c8), (5, nI s.1)]) (fun s => []) (fun s => True) sl3 trivial ?_
  rintro ⟨k13, ⟨⟩, ⟨⟩⟩ H16 _ _ e e'
  dsimp only at H16 ⊢
  subst e e'
  obtain ⟨hk14, hF15, _⟩ := H16
  refine Qd (sr (wm (wm ?_)))
  refine wv (Qaf Qbw) ?_
  refine wv Qai ?_
  refine nt' ?_
  rcases dcl k13 x0.length with ⟨hl17, g18⟩ | ⟨hl17, g18⟩
  ·
   refine Ql rfl g18 ?_
   refine Qo (Qe (Qd (Qx (Qd ?_))))
   refine Qew (by kernel_rfl) (by kernel_rfl) ?_
   refine qm (qm ?_)
   obtain ⟨a19, rfl, hb20, he21⟩ := q4 (by omega)
   refine qv (vix 4 k13 Qbw Qbl) ?_
   obtain ⟨_, e25, hc22⟩ := he21 k13 _ (Qbr (show k13 < x0.length from by omega))
   obtain ⟨v23, rfl, r24⟩ := Qfx e25
   obtain ⟨m26, A27, c28, rfl, q29, r30⟩ := Qi r24
   refine qv (fun W hm => Qae (cs := [iV ((gt x0 k13).Id), .slice A27 ((gt x0 k13).Values).length c28, iV ((gt x0 k13).Born), iV ((gt x0 k13).Died)]) Qbn Qbl rfl rfl (hm.elCells (show (a19.add (k13 * 4)).block < w.heap.size from by rw [Qab]; exact hb20.1) hc22)) ?_
   refine qm (qm ?_)
   obtain ⟨a31, rfl, hb32, he33⟩ := q9 (by omega)
   refine qv (vix 4 k13 Qbw Qbl) ?_
   obtain ⟨_, e37, hc34⟩ := he33 k13 _ (Qbr (show k13 < x1.length from by omega))
   obtain ⟨v35, rfl, r36⟩ := Qfx e37
   obtain ⟨m38, A39, c40, rfl, q41, r42⟩ := Qi r36
   refine qv (fun W hm => Qae (cs := [iV ((gt x1 k13).Id), .slice A39 ((gt x1 k13).Values).length c40, iV ((gt x1 k13).Born), iV ((gt x1 k13).Died)]) Qbn Qbl rfl rfl (hm.elCells (show (a31.add (k13 * 4)).block < w.heap.size from by rw [Qab]; exact hb32.1) hc34)) ?_
   refine Qes (Qq Qaop rfl) (fun W hm => Qatn W _ (gt x0 k13) _ (gt x1 k13) (Qgu (x := (gt x0 k13)) (hm.rdS0 r30)) (Qgu (x := (gt x1 k13)) (hm.rdS0 r42))) (Qk rfl) (by decide) ?_
   refine qv Qbp ?_
   refine nq' ?_
   rcases bd (Qsc (gt x0 k13) (gt x1 k13)) with g44 | g44
   ·
    refine Qn rfl (nt g44) ?_
    refine Qo (Qan (Qe (Qy (wm ?_))))
    refine wv (Qal k13 1 (by omega)) ?_
    refine wa (Qad ?_)
    exact Qao (k13 + 1, (), ()) sl3 idM ⟨(by omega), nx hF15 (Qb g44 (rfl)), trivial⟩ rl
   refine Ql rfl (nf g44) ?_
   refine sr (wa (nt' (Qj (Qz (Qg (Qg (Qz (Qg ?_))))))))
   exact rtb (h := Qc g12 (Qbe (nr hF15 (Qc g44 (rfl))) rfl))
  refine Qn rfl g18 ?_
  refine Qay (Qu (Qu ?_))
  have hE46 := Qbg hl17 hF15
  refine Qaz (Qe (sr (wa (nt' (Qj ?_)))))
  exact rtb (h := Qc g12 (Qaq hE46 (rfl)))
 refine Ql rfl g12 ?_
 refine sr (wa (nt' (Qj (Qg ?_))))
 exact rtb (h := Qb g12 (rfl))

def Qyt (x0 : (List (List Qt))) (x1 : (List (List Qt))) (k13 : Nat) : Bool ⊕ (Unit) :=
 cond (Qsb (gt x0 k13) (gt x1 k13)) (Sum.inr ()) (Sum.inl false)
def Qsa (x0 : (List (List Qt))) (x1 : (List (List Qt))) : Bool :=
 cond (((x0.length : Nat) : Int) != ((x1.length : Nat) : Int)) false (Sum.elim id (fun (s : Unit) => true) (rng (R := Bool) (fun k (_ : Unit) => Qyt x0 x1 k) (x0.length - 0) 0 ()))
theorem Qanc : Cb Tryz.prog 146 := ⟨f146, _, func146, rfl, by decide⟩
theorem Qatj (w : World) (z0 : Value) (x0 : (List (List Qt))) (z1 : Value) (x1 : (List (List Qt))) (r_0 : rdS (tSl Qag 163) w w.heap.size z0 x0) (r_1 : rdS (tSl Qag 163) w w.heap.size z1 x1) :
  Calls Tryz.prog 146 #[z0, z1] w (rB w (Qsa x0 x1)) := by
 obtain ⟨m1, A2, c3, rfl, q4, r5⟩ := Qi r_0
 obtain ⟨m6, A7, c8, rfl, q9, r10⟩ := Qi r_1
 refine ce2 (L := [(0, .slice A2 x0.length c3), (1, .slice A7 x1.length c8)]) (N := 27) func146 ?_
 refine sr (wa (nt' (Qd (sr (wm ?_)))))
 refine wv (Qaf Qca) ?_
 refine wm ?_
 refine wv (Qaf Qca) ?_
 refine wv Qcj ?_
 refine nt' ?_
 rcases dcn ((x0.length : Nat) : Int) ((x1.length : Nat) : Int) with ⟨h11, g12⟩ | ⟨h11, g12⟩
 ·
  refine Qn rfl g12 ?_
  refine Qo (Qe (Qd (sr (wa (nt' (Qx ?_))))))
  refine Qbf (S := Unit) (R := Unit) (fun k (_ : Unit) => Qyt x0 x1 k) x0.length 0 () () (fun s => [(0, .slice A2 x0.length c3), (1, .slice A7 x1.length c8), (5, nI s.1)]) (fun s => []) (fun s => True) sl3 trivial ?_
  rintro ⟨k13, ⟨⟩, ⟨⟩⟩ H16 _ _ e e'
  dsimp only at H16 ⊢
  subst e e'
  obtain ⟨hk14, hF15, _⟩ := H16
  refine Qd (sr (wm (wm ?_)))
  refine wv (Qaf Qca) ?_
  refine wv Qai ?_
  refine nt' ?_
  rcases dcl k13 x0.length with ⟨hl17, g18⟩ | ⟨hl17, g18⟩
  ·
   refine Ql rfl g18 ?_
   refine Qo (Qe (Qd (Qx (Qd ?_))))
   refine Qew (by kernel_rfl) (by kernel_rfl) ?_
   refine qm (qm ?_)
   obtain ⟨a19, rfl, hb20, he21⟩ := q4 (by omega)
   refine qv (vix 1 k13 Qca Qfg) ?_
   obtain ⟨_, e23, hc22⟩ := he21 k13 _ (Qbr (show k13 < x0.length from by omega))
   obtain ⟨v24, rfl, r25⟩ := e23
   obtain ⟨m26, A27, c28, rfl, q29, r30⟩ := Qi r25
   refine qv (fun W hm => Qau Qbw rfl rfl ((hm.cell0 (show (a19.add (k13 * 1)).block < w.heap.size from by rw [Qab]; exact hb20.1)).trans (hc22 0 _ rfl))) ?_
   refine qm (qm ?_)
   obtain ⟨a31, rfl, hb32, he33⟩ := q9 (by omega)
   refine qv (vix 1 k13 Qca Qfg) ?_
   obtain ⟨_, e35, hc34⟩ := he33 k13 _ (Qbr (show k13 < x1.length from by omega))
   obtain ⟨v36, rfl, r37⟩ := e35
   obtain ⟨m38, A39, c40, rfl, q41, r42⟩ := Qi r37
   refine qv (fun W hm => Qau Qbw rfl rfl ((hm.cell0 (show (a31.add (k13 * 1)).block < w.heap.size from by rw [Qab]; exact hb32.1)).trans (hc34 0 _ rfl))) ?_
   refine Qes (Qq Qanz rfl) (fun W hm => Qatl W _ (gt x0 k13) _ (gt x1 k13) (hm.rdS0 r30) (hm.rdS0 r42)) (Qk rfl) (by decide) ?_
   refine qv Qbp ?_
   refine nq' ?_
   rcases bd (Qsb (gt x0 k13) (gt x1 k13)) with g44 | g44
   ·
    refine Qn rfl (nt g44) ?_
    refine Qo (Qan (Qe (Qy (wm ?_))))
    refine wv (Qal k13 1 (by omega)) ?_
    refine wa (Qad ?_)
    exact Qao (k13 + 1, (), ()) sl3 idM ⟨(by omega), nx hF15 (Qb g44 (rfl)), trivial⟩ rl
   refine Ql rfl (nf g44) ?_
   refine sr (wa (nt' (Qj (Qz (Qg (Qg (Qz (Qg ?_))))))))
   exact rtb (h := Qc g12 (Qbe (nr hF15 (Qc g44 (rfl))) rfl))
  refine Qn rfl g18 ?_
  refine Qay (Qu (Qu ?_))
  have hE46 := Qbg hl17 hF15
  refine Qaz (Qe (sr (wa (nt' (Qj ?_)))))
  exact rtb (h := Qc g12 (Qaq hE46 (rfl)))
 refine Ql rfl g12 ?_
 refine sr (wa (nt' (Qj (Qg ?_))))
 exact rtb (h := Qb g12 (rfl))

def Qrz (x0 : Qas) (x1 : Qas) : Bool :=
 cond (Qsa x0.Segments x1.Segments) (cond (x0.Now != x1.Now) false true) false
theorem cb73 : Cb Tryz.prog 73 := ⟨f73, _, func73, rfl, by decide⟩
theorem Qath (w : World) (z0 : List Value) (x0 : Qas) (z1 : List Value) (x1 : Qas) (r_0 : Qdn.rd w w.heap.size z0 x0) (r_1 : Qdn.rd w w.heap.size z1 x1) :
  Calls Tryz.prog 73 #[.agg z0.toArray, .agg z1.toArray] w (rB w (Qrz x0 x1)) := by
 obtain ⟨v1, rfl, r2⟩ := Qjl r_0
 obtain ⟨m3, A4, c5, rfl, q6, r7⟩ := Qi r2
 obtain ⟨v8, rfl, r9⟩ := Qjl r_1
 obtain ⟨m10, A11, c12, rfl, q13, r14⟩ := Qi r9
 refine ce2 (L := [(0, .agg #[.slice A4 x0.Segments.length c5, iV x0.Now]), (1, .agg #[.slice A11 x1.Segments.length c12, iV x1.Now])]) (N := 16) func73 ?_
 refine sr ?_
 refine Qbq rfl (Qk rfl) (by decide) (fun p15 => ?_)
 refine Qbq rfl (Qk rfl) (by decide) (fun p16 => ?_)
 refine wa (nt' (Qd (sr ?_)))
 refine wv (vf Qbx rfl Qdz) ?_
 refine wv (vl 1 0 Qca) ?_
 refine wv (vf Qbx rfl Qdz) ?_
 refine wv (vl 0 0 Qca) ?_
 refine wcv (Qq Qanc rfl) (fun W hm => Qatj W _ x0.Segments _ x1.Segments (hm.rdS0 r7) (hm.rdS0 r14)) ?_
 refine wv Qbp ?_
 refine nt' ?_
 rcases bd (Qsa x0.Segments x1.Segments) with g18 | g18
 ·
  refine Qn rfl (nt g18) ?_
  refine Qo (Qe (Qd (sr ?_)))
  refine wv (vf Qbx rfl Qf) ?_
  refine wv (vl 1 1 Qs) ?_
  refine wv (vf Qbx rfl Qf) ?_
  refine wv (vl 0 1 Qs) ?_
  refine wv Qcj ?_
  refine nt' ?_
  rcases dcn x0.Now x1.Now with ⟨h19, g20⟩ | ⟨h19, g20⟩
  ·
   refine Qn rfl g20 ?_
   refine Qo (Qe (sr (wa (nt' (Qj ?_)))))
   exact rtb (h := Qb g18 (Qc g20 (rfl)))
  refine Ql rfl g20 ?_
  refine sr (wa (nt' (Qj (Qg ?_))))
  exact rtb (h := Qb g18 (Qb g20 (rfl)))
 refine Ql rfl (nf g18) ?_
 refine sr (wa (nt' (Qj (Qg ?_))))
 exact rtb (h := Qc g18 (rfl))

def Qrv (x0 : Qcc) (x1 : Qcc) : Bool :=
 cond (x0.Field != x1.Field) false (cond (x0.Low != x1.Low) false (cond (x0.High != x1.High) false true))
theorem Qaou : Cb Tryz.prog 227 := ⟨f227, _, func227, rfl, by decide⟩
theorem Qasz (w : World) (z0 : List Value) (x0 : Qcc) (z1 : List Value) (x1 : Qcc) (r_0 : Qbk.rd w w.heap.size z0 x0) (r_1 : Qbk.rd w w.heap.size z1 x1) :
  Calls Tryz.prog 227 #[.agg z0.toArray, .agg z1.toArray] w (rB w (Qrv x0 x1)) := by
 obtain rfl := Qjh r_0
 obtain rfl := Qjh r_1
 refine ce2 (L := [(0, .agg #[iV x0.Field, iV x0.Low, iV x0.High]), (1, .agg #[iV x1.Field, iV x1.Low, iV x1.High])]) (N := 20) func227 ?_
 refine sr ?_
 refine Qbq rfl (Qk rfl) (by decide) (fun p1 => ?_)
 refine Qbq rfl (Qk rfl) (by decide) (fun p2 => ?_)
 refine wa (nt' (Qd (sr ?_)))
 refine wv (vf Qdu rfl Qf) ?_
 refine wv (vl 1 0 Qs) ?_
 refine wv (vf Qdu rfl Qf) ?_
 refine wv (vl 0 0 Qs) ?_
 refine wv Qcj ?_
 refine nt' ?_
 rcases dcn x0.Field x1.Field with ⟨h3, g4⟩ | ⟨h3, g4⟩
 ·
  refine Qn rfl g4 ?_
  refine Qo (Qe (Qd (sr ?_)))
  refine wv (vf Qdu rfl Qf) ?_
  refine wv (vl 1 1 Qs) ?_
  refine wv (vf Qdu rfl Qf) ?_
  refine wv (vl 0 1 Qs) ?_
  refine wv Qcj ?_
  refine nt' ?_
  rcases dcn x0.Low x1.Low with ⟨h5, g6⟩ | ⟨h5, g6⟩
  ·
   refine Qn rfl g6 ?_
   refine Qo (Qe (Qd (sr ?_)))
   refine wv (vf Qdu rfl Qf) ?_
   refine wv (vl 1 2 Qs) ?_
   refine wv (vf Qdu rfl Qf) ?_
   refine wv (vl 0 2 Qs) ?_
   refine wv Qcj ?_
   refine nt' ?_
   rcases dcn x0.High x1.High with ⟨h7, g8⟩ | ⟨h7, g8⟩
   ·
    refine Qn rfl g8 ?_
    refine Qo (Qe (sr (wa (nt' (Qj ?_)))))
    exact rtb (h := Qc g4 (Qc g6 (Qc g8 (rfl))))
   refine Ql rfl g8 ?_
   refine sr (wa (nt' (Qj (Qg ?_))))
   exact rtb (h := Qc g4 (Qc g6 (Qb g8 (rfl))))
  refine Ql rfl g6 ?_
  refine sr (wa (nt' (Qj (Qg ?_))))
  exact rtb (h := Qc g4 (Qb g6 (rfl)))
 refine Ql rfl g4 ?_
 refine sr (wa (nt' (Qj (Qg ?_))))
 exact rtb (h := Qb g4 (rfl))

def Qyp (x0 : (List Qcc)) (x1 : (List Qcc)) (k13 : Nat) : Bool ⊕ (Unit) :=
 cond (Qrv (gt x0 k13) (gt x1 k13)) (Sum.inr ()) (Sum.inl false)
def Qru (x0 : (List Qcc)) (x1 : (List Qcc)) : Bool :=
 cond (((x0.length : Nat) : Int) != ((x1.length : Nat) : Int)) false (Sum.elim id (fun (s : Unit) => true) (rng (R := Bool) (fun k (_ : Unit) => Qyp x0 x1 k) (x0.length - 0) 0 ()))
theorem Qaoq : Cb Tryz.prog 221 := ⟨f221, _, func221, rfl, by decide⟩
theorem Qasx (w : World) (z0 : Value) (x0 : (List Qcc)) (z1 : Value) (x1 : (List Qcc)) (r_0 : rdS Qbk w w.heap.size z0 x0) (r_1 : rdS Qbk w w.heap.size z1 x1) :
  Calls Tryz.prog 221 #[z0, z1] w (rB w (Qru x0 x1)) := by
 obtain ⟨m1, A2, c3, rfl, q4, r5⟩ := Qi r_0
 obtain ⟨m6, A7, c8, rfl, q9, r10⟩ := Qi r_1
 refine ce2 (L := [(0, .slice A2 x0.length c3), (1, .slice A7 x1.length c8)]) (N := 27) func221 ?_
 refine sr (wa (nt' (Qd (sr (wm ?_)))))
 refine wv (Qaf Qcs) ?_
 refine wm ?_
 refine wv (Qaf Qcs) ?_
 refine wv Qcj ?_
 refine nt' ?_
 rcases dcn ((x0.length : Nat) : Int) ((x1.length : Nat) : Int) with ⟨h11, g12⟩ | ⟨h11, g12⟩
 ·
  refine Qn rfl g12 ?_
  refine Qo (Qe (Qd (sr (wa (nt' (Qx ?_))))))
  refine Qbf (S := Unit) (R := Unit) (fun k (_ : Unit) => Qyp x0 x1 k) x0.length 0 () () (fun s => [(0, .slice A2 x0.length c3), (1, .slice A7 x1.length c8), (5, nI s.1)]) (fun s => []) (fun s => True) sl3 trivial ?_
  rintro ⟨k13, ⟨⟩, ⟨⟩⟩ H16 _ _ e e'
  dsimp only at H16 ⊢
  subst e e'
  obtain ⟨hk14, hF15, _⟩ := H16
  refine Qd (sr (wm (wm ?_)))
  refine wv (Qaf Qcs) ?_
  refine wv Qai ?_
  refine nt' ?_
  rcases dcl k13 x0.length with ⟨hl17, g18⟩ | ⟨hl17, g18⟩
  ·
   refine Ql rfl g18 ?_
   refine Qo (Qe (Qd (Qx (Qd ?_))))
   refine Qew (by kernel_rfl) (by kernel_rfl) ?_
   refine qm (qm ?_)
   obtain ⟨a19, rfl, hb20, he21⟩ := q4 (by omega)
   refine qv (vix 3 k13 Qcs Qds) ?_
   obtain ⟨_, e23, hc22⟩ := he21 k13 _ (Qbr (show k13 < x0.length from by omega))
   obtain rfl := Qjh e23
   refine qv (fun W hm => Qae (cs := [iV ((gt x0 k13).Field), iV ((gt x0 k13).Low), iV ((gt x0 k13).High)]) Qdu Qds rfl rfl (hm.elCells (show (a19.add (k13 * 3)).block < w.heap.size from by rw [Qab]; exact hb20.1) hc22)) ?_
   refine qm (qm ?_)
   obtain ⟨a24, rfl, hb25, he26⟩ := q9 (by omega)
   refine qv (vix 3 k13 Qcs Qds) ?_
   obtain ⟨_, e28, hc27⟩ := he26 k13 _ (Qbr (show k13 < x1.length from by omega))
   obtain rfl := Qjh e28
   refine qv (fun W hm => Qae (cs := [iV ((gt x1 k13).Field), iV ((gt x1 k13).Low), iV ((gt x1 k13).High)]) Qdu Qds rfl rfl (hm.elCells (show (a24.add (k13 * 3)).block < w.heap.size from by rw [Qab]; exact hb25.1) hc27)) ?_
   refine Qes (Qq Qaou rfl) (fun W hm => Qasz W _ (gt x0 k13) _ (gt x1 k13) (Qvu (x := (gt x0 k13))) (Qvu (x := (gt x1 k13)))) (Qk rfl) (by decide) ?_
   refine qv Qbp ?_
   refine nq' ?_
   rcases bd (Qrv (gt x0 k13) (gt x1 k13)) with g30 | g30
   ·
    refine Qn rfl (nt g30) ?_
    refine Qo (Qan (Qe (Qy (wm ?_))))
    refine wv (Qal k13 1 (by omega)) ?_
    refine wa (Qad ?_)
    exact Qao (k13 + 1, (), ()) sl3 idM ⟨(by omega), nx hF15 (Qb g30 (rfl)), trivial⟩ rl
   refine Ql rfl (nf g30) ?_
   refine sr (wa (nt' (Qj (Qz (Qg (Qg (Qz (Qg ?_))))))))
   exact rtb (h := Qc g12 (Qbe (nr hF15 (Qc g30 (rfl))) rfl))
  refine Qn rfl g18 ?_
  refine Qay (Qu (Qu ?_))
  have hE32 := Qbg hl17 hF15
  refine Qaz (Qe (sr (wa (nt' (Qj ?_)))))
  exact rtb (h := Qc g12 (Qaq hE32 (rfl)))
 refine Ql rfl g12 ?_
 refine sr (wa (nt' (Qj (Qg ?_))))
 exact rtb (h := Qb g12 (rfl))

def Qok (x0 : Qar) (x1 : Qar) : Bool :=
 cond (x0.Id != x1.Id) false (cond (x0.Tenant != x1.Tenant) false (cond (Qru x0.Conds x1.Conds) (cond (Qgz x0.Out x1.Out) true false) false))
theorem Qadt : Cb Tryz.prog 199 := ⟨f199, _, func199, rfl, by decide⟩
theorem Qafk (w : World) (z0 : List Value) (x0 : Qar) (z1 : List Value) (x1 : Qar) (r_0 : Qcm.rd w w.heap.size z0 x0) (r_1 : Qcm.rd w w.heap.size z1 x1) :
  Calls Tryz.prog 199 #[.agg z0.toArray, .agg z1.toArray] w (rB w (Qok x0 x1)) := by
 obtain ⟨v1, v3, rfl, r2, r4⟩ := Qis r_0
 obtain ⟨m5, A6, c7, rfl, q8, r9⟩ := Qi r2
 obtain ⟨m10, A11, c12, rfl, q13, r14⟩ := Qi r4
 obtain ⟨v15, v17, rfl, r16, r18⟩ := Qis r_1
 obtain ⟨m19, A20, c21, rfl, q22, r23⟩ := Qi r16
 obtain ⟨m24, A25, c26, rfl, q27, r28⟩ := Qi r18
 refine ce2 (L := [(0, .agg #[iV x0.Id, iV x0.Tenant, .slice A6 x0.Conds.length c7, .slice A11 x0.Out.length c12]), (1, .agg #[iV x1.Id, iV x1.Tenant, .slice A20 x1.Conds.length c21, .slice A25 x1.Out.length c26])]) (N := 27) func199 ?_
 refine sr ?_
 refine Qbq rfl (Qk rfl) (by decide) (fun p29 => ?_)
 refine Qbq rfl (Qk rfl) (by decide) (fun p30 => ?_)
 refine wa (nt' (Qd (sr ?_)))
 refine wv (vf Qbo rfl Qf) ?_
 refine wv (vl 1 0 Qs) ?_
 refine wv (vf Qbo rfl Qf) ?_
 refine wv (vl 0 0 Qs) ?_
 refine wv Qcj ?_
 refine nt' ?_
 rcases dcn x0.Id x1.Id with ⟨h31, g32⟩ | ⟨h31, g32⟩
 ·
  refine Qn rfl g32 ?_
  refine Qo (Qe (Qd (sr ?_)))
  refine wv (vf Qbo rfl Qf) ?_
  refine wv (vl 1 1 Qs) ?_
  refine wv (vf Qbo rfl Qf) ?_
  refine wv (vl 0 1 Qs) ?_
  refine wv Qcj ?_
  refine nt' ?_
  rcases dcn x0.Tenant x1.Tenant with ⟨h33, g34⟩ | ⟨h33, g34⟩
  ·
   refine Qn rfl g34 ?_
   refine Qo (Qe (Qd (sr ?_)))
   refine wv (vf Qbo rfl Qfp) ?_
   refine wv (vl 1 2 Qcs) ?_
   refine wv (vf Qbo rfl Qfp) ?_
   refine wv (vl 0 2 Qcs) ?_
   refine wcv (Qq Qaoq rfl) (fun W hm => Qasx W _ x0.Conds _ x1.Conds (hm.rdS0 r9) (hm.rdS0 r23)) ?_
   refine wv Qbp ?_
   refine nt' ?_
   rcases bd (Qru x0.Conds x1.Conds) with g36 | g36
   ·
    refine Qn rfl (nt g36) ?_
    refine Qo (Qe (Qd (sr ?_)))
    refine wv (vf Qbo rfl Qam) ?_
    refine wv (vl 1 3 Qp) ?_
    refine wv (vf Qbo rfl Qam) ?_
    refine wv (vl 0 3 Qp) ?_
    refine wcv (Qq Qni rfl) (fun W hm => Qno W _ x0.Out _ x1.Out (hm.rdS0 r14) (hm.rdS0 r28)) ?_
    refine wv Qbp ?_
    refine nt' ?_
    rcases bd (Qgz x0.Out x1.Out) with g38 | g38
    ·
     refine Qn rfl (nt g38) ?_
     refine Qo (Qe (sr (wa (nt' (Qj ?_)))))
     exact rtb (h := Qc g32 (Qc g34 (Qb g36 (Qb g38 (rfl)))))
    refine Ql rfl (nf g38) ?_
    refine sr (wa (nt' (Qj (Qg ?_))))
    exact rtb (h := Qc g32 (Qc g34 (Qb g36 (Qc g38 (rfl)))))
   refine Ql rfl (nf g36) ?_
   refine sr (wa (nt' (Qj (Qg ?_))))
   exact rtb (h := Qc g32 (Qc g34 (Qc g36 (rfl))))
  refine Ql rfl g34 ?_
  refine sr (wa (nt' (Qj (Qg ?_))))
  exact rtb (h := Qc g32 (Qb g34 (rfl)))
 refine Ql rfl g32 ?_
 refine sr (wa (nt' (Qj (Qg ?_))))
 exact rtb (h := Qb g32 (rfl))

def Qry (x0 : Qaa) (x1 : Qaa) : Bool :=
 cond (x0.Id != x1.Id) false (cond (Qgz x0.Values x1.Values) true false)
theorem Qaor : Cb Tryz.prog 222 := ⟨f222, _, func222, rfl, by decide⟩
theorem Qatf (w : World) (z0 : List Value) (x0 : Qaa) (z1 : List Value) (x1 : Qaa) (r_0 : Qap.rd w w.heap.size z0 x0) (r_1 : Qap.rd w w.heap.size z1 x1) :
  Calls Tryz.prog 222 #[.agg z0.toArray, .agg z1.toArray] w (rB w (Qry x0 x1)) := by
 obtain ⟨v1, rfl, r2⟩ := Qij r_0
 obtain ⟨m3, A4, c5, rfl, q6, r7⟩ := Qi r2
 obtain ⟨v8, rfl, r9⟩ := Qij r_1
 obtain ⟨m10, A11, c12, rfl, q13, r14⟩ := Qi r9
 refine ce2 (L := [(0, .agg #[iV x0.Id, .slice A4 x0.Values.length c5]), (1, .agg #[iV x1.Id, .slice A11 x1.Values.length c12])]) (N := 16) func222 ?_
 refine sr ?_
 refine Qbq rfl (Qk rfl) (by decide) (fun p15 => ?_)
 refine Qbq rfl (Qk rfl) (by decide) (fun p16 => ?_)
 refine wa (nt' (Qd (sr ?_)))
 refine wv (vf Qdv rfl Qf) ?_
 refine wv (vl 1 0 Qs) ?_
 refine wv (vf Qdv rfl Qf) ?_
 refine wv (vl 0 0 Qs) ?_
 refine wv Qcj ?_
 refine nt' ?_
 rcases dcn x0.Id x1.Id with ⟨h17, g18⟩ | ⟨h17, g18⟩
 ·
  refine Qn rfl g18 ?_
  refine Qo (Qe (Qd (sr ?_)))
  refine wv (vf Qdv rfl Qam) ?_
  refine wv (vl 1 1 Qp) ?_
  refine wv (vf Qdv rfl Qam) ?_
  refine wv (vl 0 1 Qp) ?_
  refine wcv (Qq Qni rfl) (fun W hm => Qno W _ x0.Values _ x1.Values (hm.rdS0 r7) (hm.rdS0 r14)) ?_
  refine wv Qbp ?_
  refine nt' ?_
  rcases bd (Qgz x0.Values x1.Values) with g20 | g20
  ·
   refine Qn rfl (nt g20) ?_
   refine Qo (Qe (sr (wa (nt' (Qj ?_)))))
   exact rtb (h := Qc g18 (Qb g20 (rfl)))
  refine Ql rfl (nf g20) ?_
  refine sr (wa (nt' (Qj (Qg ?_))))
  exact rtb (h := Qc g18 (Qc g20 (rfl)))
 refine Ql rfl g18 ?_
 refine sr (wa (nt' (Qj (Qg ?_))))
 exact rtb (h := Qb g18 (rfl))

def Qys (x0 : (List Qaa)) (x1 : (List Qaa)) (k13 : Nat) : Bool ⊕ (Unit) :=
 cond (Qry (gt x0 k13) (gt x1 k13)) (Sum.inr ()) (Sum.inl false)
def Qol (x0 : (List Qaa)) (x1 : (List Qaa)) : Bool :=
 cond (((x0.length : Nat) : Int) != ((x1.length : Nat) : Int)) false (Sum.elim id (fun (s : Unit) => true) (rng (R := Bool) (fun k (_ : Unit) => Qys x0 x1 k) (x0.length - 0) 0 ()))
theorem Qadu : Cb Tryz.prog 200 := ⟨f200, _, func200, rfl, by decide⟩
theorem Qafm (w : World) (z0 : Value) (x0 : (List Qaa)) (z1 : Value) (x1 : (List Qaa)) (r_0 : rdS Qap w w.heap.size z0 x0) (r_1 : rdS Qap w w.heap.size z1 x1) :
  Calls Tryz.prog 200 #[z0, z1] w (rB w (Qol x0 x1)) := by
 obtain ⟨m1, A2, c3, rfl, q4, r5⟩ := Qi r_0
 obtain ⟨m6, A7, c8, rfl, q9, r10⟩ := Qi r_1
 refine ce2 (L := [(0, .slice A2 x0.length c3), (1, .slice A7 x1.length c8)]) (N := 27) func200 ?_
 refine sr (wa (nt' (Qd (sr (wm ?_)))))
 refine wv (Qaf Qci) ?_
 refine wm ?_
 refine wv (Qaf Qci) ?_
 refine wv Qcj ?_
 refine nt' ?_
 rcases dcn ((x0.length : Nat) : Int) ((x1.length : Nat) : Int) with ⟨h11, g12⟩ | ⟨h11, g12⟩
 ·
  refine Qn rfl g12 ?_
  refine Qo (Qe (Qd (sr (wa (nt' (Qx ?_))))))
  refine Qbf (S := Unit) (R := Unit) (fun k (_ : Unit) => Qys x0 x1 k) x0.length 0 () () (fun s => [(0, .slice A2 x0.length c3), (1, .slice A7 x1.length c8), (5, nI s.1)]) (fun s => []) (fun s => True) sl3 trivial ?_
  rintro ⟨k13, ⟨⟩, ⟨⟩⟩ H16 _ _ e e'
  dsimp only at H16 ⊢
  subst e e'
  obtain ⟨hk14, hF15, _⟩ := H16
  refine Qd (sr (wm (wm ?_)))
  refine wv (Qaf Qci) ?_
  refine wv Qai ?_
  refine nt' ?_
  rcases dcl k13 x0.length with ⟨hl17, g18⟩ | ⟨hl17, g18⟩
  ·
   refine Ql rfl g18 ?_
   refine Qo (Qe (Qd (Qx (Qd ?_))))
   refine Qew (by kernel_rfl) (by kernel_rfl) ?_
   refine qm (qm ?_)
   obtain ⟨a19, rfl, hb20, he21⟩ := q4 (by omega)
   refine qv (vix 2 k13 Qci Qcg) ?_
   obtain ⟨_, e25, hc22⟩ := he21 k13 _ (Qbr (show k13 < x0.length from by omega))
   obtain ⟨v23, rfl, r24⟩ := Qij e25
   obtain ⟨m26, A27, c28, rfl, q29, r30⟩ := Qi r24
   refine qv (fun W hm => Qae (cs := [iV ((gt x0 k13).Id), .slice A27 ((gt x0 k13).Values).length c28]) Qdv Qcg rfl rfl (hm.elCells (show (a19.add (k13 * 2)).block < w.heap.size from by rw [Qab]; exact hb20.1) hc22)) ?_
   refine qm (qm ?_)
   obtain ⟨a31, rfl, hb32, he33⟩ := q9 (by omega)
   refine qv (vix 2 k13 Qci Qcg) ?_
   obtain ⟨_, e37, hc34⟩ := he33 k13 _ (Qbr (show k13 < x1.length from by omega))
   obtain ⟨v35, rfl, r36⟩ := Qij e37
   obtain ⟨m38, A39, c40, rfl, q41, r42⟩ := Qi r36
   refine qv (fun W hm => Qae (cs := [iV ((gt x1 k13).Id), .slice A39 ((gt x1 k13).Values).length c40]) Qdv Qcg rfl rfl (hm.elCells (show (a31.add (k13 * 2)).block < w.heap.size from by rw [Qab]; exact hb32.1) hc34)) ?_
   refine Qes (Qq Qaor rfl) (fun W hm => Qatf W _ (gt x0 k13) _ (gt x1 k13) (Qjk (x := (gt x0 k13)) (hm.rdS0 r30)) (Qjk (x := (gt x1 k13)) (hm.rdS0 r42))) (Qk rfl) (by decide) ?_
   refine qv Qbp ?_
   refine nq' ?_
   rcases bd (Qry (gt x0 k13) (gt x1 k13)) with g44 | g44
   ·
    refine Qn rfl (nt g44) ?_
    refine Qo (Qan (Qe (Qy (wm ?_))))
    refine wv (Qal k13 1 (by omega)) ?_
    refine wa (Qad ?_)
    exact Qao (k13 + 1, (), ()) sl3 idM ⟨(by omega), nx hF15 (Qb g44 (rfl)), trivial⟩ rl
   refine Ql rfl (nf g44) ?_
   refine sr (wa (nt' (Qj (Qz (Qg (Qg (Qz (Qg ?_))))))))
   exact rtb (h := Qc g12 (Qbe (nr hF15 (Qc g44 (rfl))) rfl))
  refine Qn rfl g18 ?_
  refine Qay (Qu (Qu ?_))
  have hE46 := Qbg hl17 hF15
  refine Qaz (Qe (sr (wa (nt' (Qj ?_)))))
  exact rtb (h := Qc g12 (Qaq hE46 (rfl)))
 refine Ql rfl g12 ?_
 refine sr (wa (nt' (Qj (Qg ?_))))
 exact rtb (h := Qb g12 (rfl))

def Qrr (x0 : Qw) (x1 : Qw) : Bool :=
 cond (Qok x0.Query x1.Query) (cond (x0.Time != x1.Time) false (cond (Qgz x0.Todo x1.Todo) (cond (x0.Age != x1.Age) false (cond (x0.Sent != x1.Sent) false (cond (x0.Cap != x1.Cap) false (cond (Qol x0.Rows x1.Rows) true false)))) false)) false
theorem Qand : Cb Tryz.prog 147 := ⟨f147, _, func147, rfl, by decide⟩
theorem Qasr (w : World) (z0 : List Value) (x0 : Qw) (z1 : List Value) (x1 : Qw) (r_0 : Qah.rd w w.heap.size z0 x0) (r_1 : Qah.rd w w.heap.size z1 x1) :
  Calls Tryz.prog 147 #[.agg z0.toArray, .agg z1.toArray] w (rB w (Qrr x0 x1)) := by
 obtain ⟨v1, v3, v5, v7, rfl, r2, r4, r6, r8⟩ := Qgj r_0
 obtain ⟨m9, A10, c11, rfl, q12, r13⟩ := Qi r2
 obtain ⟨m14, A15, c16, rfl, q17, r18⟩ := Qi r4
 obtain ⟨m19, A20, c21, rfl, q22, r23⟩ := Qi r6
 obtain ⟨m24, A25, c26, rfl, q27, r28⟩ := Qi r8
 obtain ⟨v29, v31, v33, v35, rfl, r30, r32, r34, r36⟩ := Qgj r_1
 obtain ⟨m37, A38, c39, rfl, q40, r41⟩ := Qi r30
 obtain ⟨m42, A43, c44, rfl, q45, r46⟩ := Qi r32
 obtain ⟨m47, A48, c49, rfl, q50, r51⟩ := Qi r34
 obtain ⟨m52, A53, c54, rfl, q55, r56⟩ := Qi r36
 refine ce2 (L := [(0, .agg #[iV x0.Query.Id, iV x0.Query.Tenant, .slice A10 x0.Query.Conds.length c11, .slice A15 x0.Query.Out.length c16, iV x0.Time, .slice A20 x0.Todo.length c21, iV x0.Age, iV x0.Sent, iV x0.Cap, .slice A25 x0.Rows.length c26]), (1, .agg #[iV x1.Query.Id, iV x1.Query.Tenant, .slice A38 x1.Query.Conds.length c39, .slice A43 x1.Query.Out.length c44, iV x1.Time, .slice A48 x1.Todo.length c49, iV x1.Age, iV x1.Sent, iV x1.Cap, .slice A53 x1.Rows.length c54])]) (N := 43) func147 ?_
 refine sr ?_
 refine Qbq rfl (Qk rfl) (by decide) (fun p57 => ?_)
 refine Qbq rfl (Qk rfl) (by decide) (fun p58 => ?_)
 refine wa (nt' (Qd (sr ?_)))
 refine wv (vf Qaj rfl Qbi) ?_
 refine wv (fun W hm => Qae (cs := [iV x0.Query.Id, iV x0.Query.Tenant, .slice A10 x0.Query.Conds.length c11, .slice A15 x0.Query.Out.length c16]) Qbo Qbi rfl rfl (hm.boxPart (n := 1) rfl rfl)) ?_
 refine wv (vf Qaj rfl Qbi) ?_
 refine wv (fun W hm => Qae (cs := [iV x1.Query.Id, iV x1.Query.Tenant, .slice A38 x1.Query.Conds.length c39, .slice A43 x1.Query.Out.length c44]) Qbo Qbi rfl rfl (hm.boxPart (n := 0) rfl rfl)) ?_
 refine wcv (Qq Qadt rfl) (fun W hm => Qafk W _ x0.Query _ x1.Query (Qhd (x := x0.Query) (hm.rdS0 r13) (hm.rdS0 r18)) (Qhd (x := x1.Query) (hm.rdS0 r41) (hm.rdS0 r46))) ?_
 refine wv Qbp ?_
 refine nt' ?_
 rcases bd (Qok x0.Query x1.Query) with g60 | g60
 ·
  refine Qn rfl (nt g60) ?_
  refine Qo (Qe (Qd (sr ?_)))
  refine wv (vf Qaj rfl Qf) ?_
  refine wv (vl 1 4 Qs) ?_
  refine wv (vf Qaj rfl Qf) ?_
  refine wv (vl 0 4 Qs) ?_
  refine wv Qcj ?_
  refine nt' ?_
  rcases dcn x0.Time x1.Time with ⟨h61, g62⟩ | ⟨h61, g62⟩
  ·
   refine Qn rfl g62 ?_
   refine Qo (Qe (Qd (sr ?_)))
   refine wv (vf Qaj rfl Qam) ?_
   refine wv (vl 1 5 Qp) ?_
   refine wv (vf Qaj rfl Qam) ?_
   refine wv (vl 0 5 Qp) ?_
   refine wcv (Qq Qni rfl) (fun W hm => Qno W _ x0.Todo _ x1.Todo (hm.rdS0 r23) (hm.rdS0 r51)) ?_
   refine wv Qbp ?_
   refine nt' ?_
   rcases bd (Qgz x0.Todo x1.Todo) with g64 | g64
   ·
    refine Qn rfl (nt g64) ?_
    refine Qo (Qe (Qd (sr ?_)))
    refine wv (vf Qaj rfl Qf) ?_
    refine wv (vl 1 6 Qs) ?_
    refine wv (vf Qaj rfl Qf) ?_
    refine wv (vl 0 6 Qs) ?_
    refine wv Qcj ?_
    refine nt' ?_
    rcases dcn x0.Age x1.Age with ⟨h65, g66⟩ | ⟨h65, g66⟩
    ·
     refine Qn rfl g66 ?_
     refine Qo (Qe (Qd (sr ?_)))
     refine wv (vf Qaj rfl Qf) ?_
     refine wv (vl 1 7 Qs) ?_
     refine wv (vf Qaj rfl Qf) ?_
     refine wv (vl 0 7 Qs) ?_
     refine wv Qcj ?_
     refine nt' ?_
     rcases dcn x0.Sent x1.Sent with ⟨h67, g68⟩ | ⟨h67, g68⟩
     ·
      refine Qn rfl g68 ?_
      refine Qo (Qe (Qd (sr ?_)))
      refine wv (vf Qaj rfl Qf) ?_
      refine wv (vl 1 8 Qs) ?_
      refine wv (vf Qaj rfl Qf) ?_
      refine wv (vl 0 8 Qs) ?_
      refine wv Qcj ?_
      refine nt' ?_
      rcases dcn x0.Cap x1.Cap with ⟨h69, g70⟩ | ⟨h69, g70⟩
      ·
       refine Qn rfl g70 ?_
       refine Qo (Qe (Qd (sr ?_)))
       refine wv (vf Qaj rfl Qdt) ?_
       refine wv (vl 1 9 Qci) ?_
       refine wv (vf Qaj rfl Qdt) ?_
       refine wv (vl 0 9 Qci) ?_
       refine wcv (Qq Qadu rfl) (fun W hm => Qafm W _ x0.Rows _ x1.Rows (hm.rdS0 r28) (hm.rdS0 r56)) ?_
       refine wv Qbp ?_
       refine nt' ?_
       rcases bd (Qol x0.Rows x1.Rows) with g72 | g72
       ·
        refine Qn rfl (nt g72) ?_
        refine Qo (Qe (sr (wa (nt' (Qj ?_)))))
        exact rtb (h := Qb g60 (Qc g62 (Qb g64 (Qc g66 (Qc g68 (Qc g70 (Qb g72 (rfl))))))))
       refine Ql rfl (nf g72) ?_
       refine sr (wa (nt' (Qj (Qg ?_))))
       exact rtb (h := Qb g60 (Qc g62 (Qb g64 (Qc g66 (Qc g68 (Qc g70 (Qc g72 (rfl))))))))
      refine Ql rfl g70 ?_
      refine sr (wa (nt' (Qj (Qg ?_))))
      exact rtb (h := Qb g60 (Qc g62 (Qb g64 (Qc g66 (Qc g68 (Qb g70 (rfl)))))))
     refine Ql rfl g68 ?_
     refine sr (wa (nt' (Qj (Qg ?_))))
     exact rtb (h := Qb g60 (Qc g62 (Qb g64 (Qc g66 (Qb g68 (rfl))))))
    refine Ql rfl g66 ?_
    refine sr (wa (nt' (Qj (Qg ?_))))
    exact rtb (h := Qb g60 (Qc g62 (Qb g64 (Qb g66 (rfl)))))
   refine Ql rfl (nf g64) ?_
   refine sr (wa (nt' (Qj (Qg ?_))))
   exact rtb (h := Qb g60 (Qc g62 (Qc g64 (rfl))))
  refine Ql rfl g62 ?_
  refine sr (wa (nt' (Qj (Qg ?_))))
  exact rtb (h := Qb g60 (Qb g62 (rfl)))
 refine Ql rfl (nf g60) ?_
 refine sr (wa (nt' (Qj (Qg ?_))))
 exact rtb (h := Qc g60 (rfl))

def Qyn (x0 : (List Qw)) (x1 : (List Qw)) (k13 : Nat) : Bool ⊕ (Unit) :=
 cond (Qrr (gt x0 k13) (gt x1 k13)) (Sum.inr ()) (Sum.inl false)
def Qrq (x0 : (List Qw)) (x1 : (List Qw)) : Bool :=
 cond (((x0.length : Nat) : Int) != ((x1.length : Nat) : Int)) false (Sum.elim id (fun (s : Unit) => true) (rng (R := Bool) (fun k (_ : Unit) => Qyn x0 x1 k) (x0.length - 0) 0 ()))
theorem cb75 : Cb Tryz.prog 75 := ⟨f75, _, func75, rfl, by decide⟩
theorem Qasp (w : World) (z0 : Value) (x0 : (List Qw)) (z1 : Value) (x1 : (List Qw)) (r_0 : rdS Qah w w.heap.size z0 x0) (r_1 : rdS Qah w w.heap.size z1 x1) :
  Calls Tryz.prog 75 #[z0, z1] w (rB w (Qrq x0 x1)) := by
 obtain ⟨m1, A2, c3, rfl, q4, r5⟩ := Qi r_0
 obtain ⟨m6, A7, c8, rfl, q9, r10⟩ := Qi r_1
 refine ce2 (L := [(0, .slice A2 x0.length c3), (1, .slice A7 x1.length c8)]) (N := 27) func75 ?_
 refine sr (wa (nt' (Qd (sr (wm ?_)))))
 refine wv (Qaf Qaw) ?_
 refine wm ?_
 refine wv (Qaf Qaw) ?_
 refine wv Qcj ?_
 refine nt' ?_
 rcases dcn ((x0.length : Nat) : Int) ((x1.length : Nat) : Int) with ⟨h11, g12⟩ | ⟨h11, g12⟩
 ·
  refine Qn rfl g12 ?_
  refine Qo (Qe (Qd (sr (wa (nt' (Qx ?_))))))
  refine Qbf (S := Unit) (R := Unit) (fun k (_ : Unit) => Qyn x0 x1 k) x0.length 0 () () (fun s => [(0, .slice A2 x0.length c3), (1, .slice A7 x1.length c8), (5, nI s.1)]) (fun s => []) (fun s => True) sl3 trivial ?_
  rintro ⟨k13, ⟨⟩, ⟨⟩⟩ H16 _ _ e e'
  dsimp only at H16 ⊢
  subst e e'
  obtain ⟨hk14, hF15, _⟩ := H16
  refine Qd (sr (wm (wm ?_)))
  refine wv (Qaf Qaw) ?_
  refine wv Qai ?_
  refine nt' ?_
  rcases dcl k13 x0.length with ⟨hl17, g18⟩ | ⟨hl17, g18⟩
  ·
   refine Ql rfl g18 ?_
   refine Qo (Qe (Qd (Qx (Qd ?_))))
   refine Qew (by kernel_rfl) (by kernel_rfl) ?_
   refine qm (qm ?_)
   obtain ⟨a19, rfl, hb20, he21⟩ := q4 (by omega)
   refine qv (vix 10 k13 Qaw Qbd) ?_
   obtain ⟨_, e31, hc22⟩ := he21 k13 _ (Qbr (show k13 < x0.length from by omega))
   obtain ⟨v23, v25, v27, v29, rfl, r24, r26, r28, r30⟩ := Qgj e31
   obtain ⟨m32, A33, c34, rfl, q35, r36⟩ := Qi r24
   obtain ⟨m37, A38, c39, rfl, q40, r41⟩ := Qi r26
   obtain ⟨m42, A43, c44, rfl, q45, r46⟩ := Qi r28
   obtain ⟨m47, A48, c49, rfl, q50, r51⟩ := Qi r30
   refine qv (fun W hm => Qae (cs := [iV ((gt x0 k13).Query.Id), iV ((gt x0 k13).Query.Tenant), .slice A33 ((gt x0 k13).Query.Conds).length c34, .slice A38 ((gt x0 k13).Query.Out).length c39, iV ((gt x0 k13).Time), .slice A43 ((gt x0 k13).Todo).length c44, iV ((gt x0 k13).Age), iV ((gt x0 k13).Sent), iV ((gt x0 k13).Cap), .slice A48 ((gt x0 k13).Rows).length c49]) Qaj Qbd rfl rfl (hm.elCells (show (a19.add (k13 * 10)).block < w.heap.size from by rw [Qab]; exact hb20.1) hc22)) ?_
   refine qm (qm ?_)
   obtain ⟨a52, rfl, hb53, he54⟩ := q9 (by omega)
   refine qv (vix 10 k13 Qaw Qbd) ?_
   obtain ⟨_, e64, hc55⟩ := he54 k13 _ (Qbr (show k13 < x1.length from by omega))
   obtain ⟨v56, v58, v60, v62, rfl, r57, r59, r61, r63⟩ := Qgj e64
   obtain ⟨m65, A66, c67, rfl, q68, r69⟩ := Qi r57
   obtain ⟨m70, A71, c72, rfl, q73, r74⟩ := Qi r59
   obtain ⟨m75, A76, c77, rfl, q78, r79⟩ := Qi r61
   obtain ⟨m80, A81, c82, rfl, q83, r84⟩ := Qi r63
   refine qv (fun W hm => Qae (cs := [iV ((gt x1 k13).Query.Id), iV ((gt x1 k13).Query.Tenant), .slice A66 ((gt x1 k13).Query.Conds).length c67, .slice A71 ((gt x1 k13).Query.Out).length c72, iV ((gt x1 k13).Time), .slice A76 ((gt x1 k13).Todo).length c77, iV ((gt x1 k13).Age), iV ((gt x1 k13).Sent), iV ((gt x1 k13).Cap), .slice A81 ((gt x1 k13).Rows).length c82]) Qaj Qbd rfl rfl (hm.elCells (show (a52.add (k13 * 10)).block < w.heap.size from by rw [Qab]; exact hb53.1) hc55)) ?_
   refine Qes (Qq Qand rfl) (fun W hm => Qasr W _ (gt x0 k13) _ (gt x1 k13) (Qqv (x := (gt x0 k13)) (hm.rdS0 r36) (hm.rdS0 r41) (hm.rdS0 r46) (hm.rdS0 r51)) (Qqv (x := (gt x1 k13)) (hm.rdS0 r69) (hm.rdS0 r74) (hm.rdS0 r79) (hm.rdS0 r84))) (Qk rfl) (by decide) ?_
   refine qv Qbp ?_
   refine nq' ?_
   rcases bd (Qrr (gt x0 k13) (gt x1 k13)) with g86 | g86
   ·
    refine Qn rfl (nt g86) ?_
    refine Qo (Qan (Qe (Qy (wm ?_))))
    refine wv (Qal k13 1 (by omega)) ?_
    refine wa (Qad ?_)
    exact Qao (k13 + 1, (), ()) sl3 idM ⟨(by omega), nx hF15 (Qb g86 (rfl)), trivial⟩ rl
   refine Ql rfl (nf g86) ?_
   refine sr (wa (nt' (Qj (Qz (Qg (Qg (Qz (Qg ?_))))))))
   exact rtb (h := Qc g12 (Qbe (nr hF15 (Qc g86 (rfl))) rfl))
  refine Qn rfl g18 ?_
  refine Qay (Qu (Qu ?_))
  have hE88 := Qbg hl17 hF15
  refine Qaz (Qe (sr (wa (nt' (Qj ?_)))))
  exact rtb (h := Qc g12 (Qaq hE88 (rfl)))
 refine Ql rfl g12 ?_
 refine sr (wa (nt' (Qj (Qg ?_))))
 exact rtb (h := Qb g12 (rfl))

def Qrx (x0 : Qat) (x1 : Qat) : Bool :=
 cond (Qok x0.Query x1.Query) (cond (x0.Time != x1.Time) false (cond (x0.Steps != x1.Steps) false (cond (Qol x0.Rows x1.Rows) true false))) false
theorem Qane : Cb Tryz.prog 148 := ⟨f148, _, func148, rfl, by decide⟩
theorem Qatd (w : World) (z0 : List Value) (x0 : Qat) (z1 : List Value) (x1 : Qat) (r_0 : Qax.rd w w.heap.size z0 x0) (r_1 : Qax.rd w w.heap.size z1 x1) :
  Calls Tryz.prog 148 #[.agg z0.toArray, .agg z1.toArray] w (rB w (Qrx x0 x1)) := by
 obtain ⟨v1, v3, v5, rfl, r2, r4, r6⟩ := Qlu r_0
 obtain ⟨m7, A8, c9, rfl, q10, r11⟩ := Qi r2
 obtain ⟨m12, A13, c14, rfl, q15, r16⟩ := Qi r4
 obtain ⟨m17, A18, c19, rfl, q20, r21⟩ := Qi r6
 obtain ⟨v22, v24, v26, rfl, r23, r25, r27⟩ := Qlu r_1
 obtain ⟨m28, A29, c30, rfl, q31, r32⟩ := Qi r23
 obtain ⟨m33, A34, c35, rfl, q36, r37⟩ := Qi r25
 obtain ⟨m38, A39, c40, rfl, q41, r42⟩ := Qi r27
 refine ce2 (L := [(0, .agg #[iV x0.Query.Id, iV x0.Query.Tenant, .slice A8 x0.Query.Conds.length c9, .slice A13 x0.Query.Out.length c14, iV x0.Time, iV x0.Steps, .slice A18 x0.Rows.length c19]), (1, .agg #[iV x1.Query.Id, iV x1.Query.Tenant, .slice A29 x1.Query.Conds.length c30, .slice A34 x1.Query.Out.length c35, iV x1.Time, iV x1.Steps, .slice A39 x1.Rows.length c40])]) (N := 27) func148 ?_
 refine sr ?_
 refine Qbq rfl (Qk rfl) (by decide) (fun p43 => ?_)
 refine Qbq rfl (Qk rfl) (by decide) (fun p44 => ?_)
 refine wa (nt' (Qd (sr ?_)))
 refine wv (vf Qda rfl Qbi) ?_
 refine wv (fun W hm => Qae (cs := [iV x0.Query.Id, iV x0.Query.Tenant, .slice A8 x0.Query.Conds.length c9, .slice A13 x0.Query.Out.length c14]) Qbo Qbi rfl rfl (hm.boxPart (n := 1) rfl rfl)) ?_
 refine wv (vf Qda rfl Qbi) ?_
 refine wv (fun W hm => Qae (cs := [iV x1.Query.Id, iV x1.Query.Tenant, .slice A29 x1.Query.Conds.length c30, .slice A34 x1.Query.Out.length c35]) Qbo Qbi rfl rfl (hm.boxPart (n := 0) rfl rfl)) ?_
 refine wcv (Qq Qadt rfl) (fun W hm => Qafk W _ x0.Query _ x1.Query (Qhd (x := x0.Query) (hm.rdS0 r11) (hm.rdS0 r16)) (Qhd (x := x1.Query) (hm.rdS0 r32) (hm.rdS0 r37))) ?_
 refine wv Qbp ?_
 refine nt' ?_
 rcases bd (Qok x0.Query x1.Query) with g46 | g46
 ·
  refine Qn rfl (nt g46) ?_
  refine Qo (Qe (Qd (sr ?_)))
  refine wv (vf Qda rfl Qf) ?_
  refine wv (vl 1 4 Qs) ?_
  refine wv (vf Qda rfl Qf) ?_
  refine wv (vl 0 4 Qs) ?_
  refine wv Qcj ?_
  refine nt' ?_
  rcases dcn x0.Time x1.Time with ⟨h47, g48⟩ | ⟨h47, g48⟩
  ·
   refine Qn rfl g48 ?_
   refine Qo (Qe (Qd (sr ?_)))
   refine wv (vf Qda rfl Qf) ?_
   refine wv (vl 1 5 Qs) ?_
   refine wv (vf Qda rfl Qf) ?_
   refine wv (vl 0 5 Qs) ?_
   refine wv Qcj ?_
   refine nt' ?_
   rcases dcn x0.Steps x1.Steps with ⟨h49, g50⟩ | ⟨h49, g50⟩
   ·
    refine Qn rfl g50 ?_
    refine Qo (Qe (Qd (sr ?_)))
    refine wv (vf Qda rfl Qdt) ?_
    refine wv (vl 1 6 Qci) ?_
    refine wv (vf Qda rfl Qdt) ?_
    refine wv (vl 0 6 Qci) ?_
    refine wcv (Qq Qadu rfl) (fun W hm => Qafm W _ x0.Rows _ x1.Rows (hm.rdS0 r21) (hm.rdS0 r42)) ?_
    refine wv Qbp ?_
    refine nt' ?_
    rcases bd (Qol x0.Rows x1.Rows) with g52 | g52
    ·
     refine Qn rfl (nt g52) ?_
     refine Qo (Qe (sr (wa (nt' (Qj ?_)))))
     exact rtb (h := Qb g46 (Qc g48 (Qc g50 (Qb g52 (rfl)))))
    refine Ql rfl (nf g52) ?_
    refine sr (wa (nt' (Qj (Qg ?_))))
    exact rtb (h := Qb g46 (Qc g48 (Qc g50 (Qc g52 (rfl)))))
   refine Ql rfl g50 ?_
   refine sr (wa (nt' (Qj (Qg ?_))))
   exact rtb (h := Qb g46 (Qc g48 (Qb g50 (rfl))))
  refine Ql rfl g48 ?_
  refine sr (wa (nt' (Qj (Qg ?_))))
  exact rtb (h := Qb g46 (Qb g48 (rfl)))
 refine Ql rfl (nf g46) ?_
 refine sr (wa (nt' (Qj (Qg ?_))))
 exact rtb (h := Qc g46 (rfl))

def Qyq (x0 : (List Qat)) (x1 : (List Qat)) (k13 : Nat) : Bool ⊕ (Unit) :=
 cond (Qrx (gt x0 k13) (gt x1 k13)) (Sum.inr ()) (Sum.inl false)
def Qrw (x0 : (List Qat)) (x1 : (List Qat)) : Bool :=
 cond (((x0.length : Nat) : Int) != ((x1.length : Nat) : Int)) false (Sum.elim id (fun (s : Unit) => true) (rng (R := Bool) (fun k (_ : Unit) => Qyq x0 x1 k) (x0.length - 0) 0 ()))
theorem cb76 : Cb Tryz.prog 76 := ⟨f76, _, func76, rfl, by decide⟩
theorem Qatb (w : World) (z0 : Value) (x0 : (List Qat)) (z1 : Value) (x1 : (List Qat)) (r_0 : rdS Qax w w.heap.size z0 x0) (r_1 : rdS Qax w w.heap.size z1 x1) :
  Calls Tryz.prog 76 #[z0, z1] w (rB w (Qrw x0 x1)) := by
 obtain ⟨m1, A2, c3, rfl, q4, r5⟩ := Qi r_0
 obtain ⟨m6, A7, c8, rfl, q9, r10⟩ := Qi r_1
 refine ce2 (L := [(0, .slice A2 x0.length c3), (1, .slice A7 x1.length c8)]) (N := 27) func76 ?_
 refine sr (wa (nt' (Qd (sr (wm ?_)))))
 refine wv (Qaf Qch) ?_
 refine wm ?_
 refine wv (Qaf Qch) ?_
 refine wv Qcj ?_
 refine nt' ?_
 rcases dcn ((x0.length : Nat) : Int) ((x1.length : Nat) : Int) with ⟨h11, g12⟩ | ⟨h11, g12⟩
 ·
  refine Qn rfl g12 ?_
  refine Qo (Qe (Qd (sr (wa (nt' (Qx ?_))))))
  refine Qbf (S := Unit) (R := Unit) (fun k (_ : Unit) => Qyq x0 x1 k) x0.length 0 () () (fun s => [(0, .slice A2 x0.length c3), (1, .slice A7 x1.length c8), (5, nI s.1)]) (fun s => []) (fun s => True) sl3 trivial ?_
  rintro ⟨k13, ⟨⟩, ⟨⟩⟩ H16 _ _ e e'
  dsimp only at H16 ⊢
  subst e e'
  obtain ⟨hk14, hF15, _⟩ := H16
  refine Qd (sr (wm (wm ?_)))
  refine wv (Qaf Qch) ?_
  refine wv Qai ?_
  refine nt' ?_
  rcases dcl k13 x0.length with ⟨hl17, g18⟩ | ⟨hl17, g18⟩
  ·
   refine Ql rfl g18 ?_
   refine Qo (Qe (Qd (Qx (Qd ?_))))
   refine Qew (by kernel_rfl) (by kernel_rfl) ?_
   refine qm (qm ?_)
   obtain ⟨a19, rfl, hb20, he21⟩ := q4 (by omega)
   refine qv (vix 7 k13 Qch Qcq) ?_
   obtain ⟨_, e29, hc22⟩ := he21 k13 _ (Qbr (show k13 < x0.length from by omega))
   obtain ⟨v23, v25, v27, rfl, r24, r26, r28⟩ := Qlu e29
   obtain ⟨m30, A31, c32, rfl, q33, r34⟩ := Qi r24
   obtain ⟨m35, A36, c37, rfl, q38, r39⟩ := Qi r26
   obtain ⟨m40, A41, c42, rfl, q43, r44⟩ := Qi r28
   refine qv (fun W hm => Qae (cs := [iV ((gt x0 k13).Query.Id), iV ((gt x0 k13).Query.Tenant), .slice A31 ((gt x0 k13).Query.Conds).length c32, .slice A36 ((gt x0 k13).Query.Out).length c37, iV ((gt x0 k13).Time), iV ((gt x0 k13).Steps), .slice A41 ((gt x0 k13).Rows).length c42]) Qda Qcq rfl rfl (hm.elCells (show (a19.add (k13 * 7)).block < w.heap.size from by rw [Qab]; exact hb20.1) hc22)) ?_
   refine qm (qm ?_)
   obtain ⟨a45, rfl, hb46, he47⟩ := q9 (by omega)
   refine qv (vix 7 k13 Qch Qcq) ?_
   obtain ⟨_, e55, hc48⟩ := he47 k13 _ (Qbr (show k13 < x1.length from by omega))
   obtain ⟨v49, v51, v53, rfl, r50, r52, r54⟩ := Qlu e55
   obtain ⟨m56, A57, c58, rfl, q59, r60⟩ := Qi r50
   obtain ⟨m61, A62, c63, rfl, q64, r65⟩ := Qi r52
   obtain ⟨m66, A67, c68, rfl, q69, r70⟩ := Qi r54
   refine qv (fun W hm => Qae (cs := [iV ((gt x1 k13).Query.Id), iV ((gt x1 k13).Query.Tenant), .slice A57 ((gt x1 k13).Query.Conds).length c58, .slice A62 ((gt x1 k13).Query.Out).length c63, iV ((gt x1 k13).Time), iV ((gt x1 k13).Steps), .slice A67 ((gt x1 k13).Rows).length c68]) Qda Qcq rfl rfl (hm.elCells (show (a45.add (k13 * 7)).block < w.heap.size from by rw [Qab]; exact hb46.1) hc48)) ?_
   refine Qes (Qq Qane rfl) (fun W hm => Qatd W _ (gt x0 k13) _ (gt x1 k13) (Qabi (x := (gt x0 k13)) (hm.rdS0 r34) (hm.rdS0 r39) (hm.rdS0 r44)) (Qabi (x := (gt x1 k13)) (hm.rdS0 r60) (hm.rdS0 r65) (hm.rdS0 r70))) (Qk rfl) (by decide) ?_
   refine qv Qbp ?_
   refine nq' ?_
   rcases bd (Qrx (gt x0 k13) (gt x1 k13)) with g72 | g72
   ·
    refine Qn rfl (nt g72) ?_
    refine Qo (Qan (Qe (Qy (wm ?_))))
    refine wv (Qal k13 1 (by omega)) ?_
    refine wa (Qad ?_)
    exact Qao (k13 + 1, (), ()) sl3 idM ⟨(by omega), nx hF15 (Qb g72 (rfl)), trivial⟩ rl
   refine Ql rfl (nf g72) ?_
   refine sr (wa (nt' (Qj (Qz (Qg (Qg (Qz (Qg ?_))))))))
   exact rtb (h := Qc g12 (Qbe (nr hF15 (Qc g72 (rfl))) rfl))
  refine Qn rfl g18 ?_
  refine Qay (Qu (Qu ?_))
  have hE74 := Qbg hl17 hF15
  refine Qaz (Qe (sr (wa (nt' (Qj ?_)))))
  exact rtb (h := Qc g12 (Qaq hE74 (rfl)))
 refine Ql rfl g12 ?_
 refine sr (wa (nt' (Qj (Qg ?_))))
 exact rtb (h := Qb g12 (rfl))

def Qrt (x0 : Qbb) (x1 : Qbb) : Bool :=
 cond (x0.Segment != x1.Segment) false (cond (x0.Base != x1.Base) false (cond (Qgz x0.Ids x1.Ids) (cond (Qgz x0.Tenants x1.Tenants) (cond (Qgz x0.Rows x1.Rows) true false) false) false))
theorem Qanf : Cb Tryz.prog 149 := ⟨f149, _, func149, rfl, by decide⟩
theorem Qasv (w : World) (z0 : List Value) (x0 : Qbb) (z1 : List Value) (x1 : Qbb) (r_0 : Qav.rd w w.heap.size z0 x0) (r_1 : Qav.rd w w.heap.size z1 x1) :
  Calls Tryz.prog 149 #[.agg z0.toArray, .agg z1.toArray] w (rB w (Qrt x0 x1)) := by
 obtain ⟨v1, v3, v5, rfl, r2, r4, r6⟩ := Qjg r_0
 obtain ⟨m7, A8, c9, rfl, q10, r11⟩ := Qi r2
 obtain ⟨m12, A13, c14, rfl, q15, r16⟩ := Qi r4
 obtain ⟨m17, A18, c19, rfl, q20, r21⟩ := Qi r6
 obtain ⟨v22, v24, v26, rfl, r23, r25, r27⟩ := Qjg r_1
 obtain ⟨m28, A29, c30, rfl, q31, r32⟩ := Qi r23
 obtain ⟨m33, A34, c35, rfl, q36, r37⟩ := Qi r25
 obtain ⟨m38, A39, c40, rfl, q41, r42⟩ := Qi r27
 refine ce2 (L := [(0, .agg #[iV x0.Segment, iV x0.Base, .slice A8 x0.Ids.length c9, .slice A13 x0.Tenants.length c14, .slice A18 x0.Rows.length c19]), (1, .agg #[iV x1.Segment, iV x1.Base, .slice A29 x1.Ids.length c30, .slice A34 x1.Tenants.length c35, .slice A39 x1.Rows.length c40])]) (N := 33) func149 ?_
 refine sr ?_
 refine Qbq rfl (Qk rfl) (by decide) (fun p43 => ?_)
 refine Qbq rfl (Qk rfl) (by decide) (fun p44 => ?_)
 refine wa (nt' (Qd (sr ?_)))
 refine wv (vf Qbz rfl Qf) ?_
 refine wv (vl 1 0 Qs) ?_
 refine wv (vf Qbz rfl Qf) ?_
 refine wv (vl 0 0 Qs) ?_
 refine wv Qcj ?_
 refine nt' ?_
 rcases dcn x0.Segment x1.Segment with ⟨h45, g46⟩ | ⟨h45, g46⟩
 ·
  refine Qn rfl g46 ?_
  refine Qo (Qe (Qd (sr ?_)))
  refine wv (vf Qbz rfl Qf) ?_
  refine wv (vl 1 1 Qs) ?_
  refine wv (vf Qbz rfl Qf) ?_
  refine wv (vl 0 1 Qs) ?_
  refine wv Qcj ?_
  refine nt' ?_
  rcases dcn x0.Base x1.Base with ⟨h47, g48⟩ | ⟨h47, g48⟩
  ·
   refine Qn rfl g48 ?_
   refine Qo (Qe (Qd (sr ?_)))
   refine wv (vf Qbz rfl Qam) ?_
   refine wv (vl 1 2 Qp) ?_
   refine wv (vf Qbz rfl Qam) ?_
   refine wv (vl 0 2 Qp) ?_
   refine wcv (Qq Qni rfl) (fun W hm => Qno W _ x0.Ids _ x1.Ids (hm.rdS0 r11) (hm.rdS0 r32)) ?_
   refine wv Qbp ?_
   refine nt' ?_
   rcases bd (Qgz x0.Ids x1.Ids) with g50 | g50
   ·
    refine Qn rfl (nt g50) ?_
    refine Qo (Qe (Qd (sr ?_)))
    refine wv (vf Qbz rfl Qam) ?_
    refine wv (vl 1 3 Qp) ?_
    refine wv (vf Qbz rfl Qam) ?_
    refine wv (vl 0 3 Qp) ?_
    refine wcv (Qq Qni rfl) (fun W hm => Qno W _ x0.Tenants _ x1.Tenants (hm.rdS0 r16) (hm.rdS0 r37)) ?_
    refine wv Qbp ?_
    refine nt' ?_
    rcases bd (Qgz x0.Tenants x1.Tenants) with g52 | g52
    ·
     refine Qn rfl (nt g52) ?_
     refine Qo (Qe (Qd (sr ?_)))
     refine wv (vf Qbz rfl Qam) ?_
     refine wv (vl 1 4 Qp) ?_
     refine wv (vf Qbz rfl Qam) ?_
     refine wv (vl 0 4 Qp) ?_
     refine wcv (Qq Qni rfl) (fun W hm => Qno W _ x0.Rows _ x1.Rows (hm.rdS0 r21) (hm.rdS0 r42)) ?_
     refine wv Qbp ?_
     refine nt' ?_
     rcases bd (Qgz x0.Rows x1.Rows) with g54 | g54
     ·
      refine Qn rfl (nt g54) ?_
      refine Qo (Qe (sr (wa (nt' (Qj ?_)))))
      exact rtb (h := Qc g46 (Qc g48 (Qb g50 (Qb g52 (Qb g54 (rfl))))))
     refine Ql rfl (nf g54) ?_
     refine sr (wa (nt' (Qj (Qg ?_))))
     exact rtb (h := Qc g46 (Qc g48 (Qb g50 (Qb g52 (Qc g54 (rfl))))))
    refine Ql rfl (nf g52) ?_
    refine sr (wa (nt' (Qj (Qg ?_))))
    exact rtb (h := Qc g46 (Qc g48 (Qb g50 (Qc g52 (rfl)))))
   refine Ql rfl (nf g50) ?_
   refine sr (wa (nt' (Qj (Qg ?_))))
   exact rtb (h := Qc g46 (Qc g48 (Qc g50 (rfl))))
  refine Ql rfl g48 ?_
  refine sr (wa (nt' (Qj (Qg ?_))))
  exact rtb (h := Qc g46 (Qb g48 (rfl)))
 refine Ql rfl g46 ?_
 refine sr (wa (nt' (Qj (Qg ?_))))
 exact rtb (h := Qb g46 (rfl))

def Qyo (x0 : (List Qbb)) (x1 : (List Qbb)) (k13 : Nat) : Bool ⊕ (Unit) :=
 cond (Qrt (gt x0 k13) (gt x1 k13)) (Sum.inr ()) (Sum.inl false)
def Qrs (x0 : (List Qbb)) (x1 : (List Qbb)) : Bool :=
 cond (((x0.length : Nat) : Int) != ((x1.length : Nat) : Int)) false (Sum.elim id (fun (s : Unit) => true) (rng (R := Bool) (fun k (_ : Unit) => Qyo x0 x1 k) (x0.length - 0) 0 ()))
theorem cb77 : Cb Tryz.prog 77 := ⟨f77, _, func77, rfl, by decide⟩
theorem Qast (w : World) (z0 : Value) (x0 : (List Qbb)) (z1 : Value) (x1 : (List Qbb)) (r_0 : rdS Qav w w.heap.size z0 x0) (r_1 : rdS Qav w w.heap.size z1 x1) :
  Calls Tryz.prog 77 #[z0, z1] w (rB w (Qrs x0 x1)) := by
 obtain ⟨m1, A2, c3, rfl, q4, r5⟩ := Qi r_0
 obtain ⟨m6, A7, c8, rfl, q9, r10⟩ := Qi r_1
 refine ce2 (L := [(0, .slice A2 x0.length c3), (1, .slice A7 x1.length c8)]) (N := 27) func77 ?_
 refine sr (wa (nt' (Qd (sr (wm ?_)))))
 refine wv (Qaf Qcv) ?_
 refine wm ?_
 refine wv (Qaf Qcv) ?_
 refine wv Qcj ?_
 refine nt' ?_
 rcases dcn ((x0.length : Nat) : Int) ((x1.length : Nat) : Int) with ⟨h11, g12⟩ | ⟨h11, g12⟩
 ·
  refine Qn rfl g12 ?_
  refine Qo (Qe (Qd (sr (wa (nt' (Qx ?_))))))
  refine Qbf (S := Unit) (R := Unit) (fun k (_ : Unit) => Qyo x0 x1 k) x0.length 0 () () (fun s => [(0, .slice A2 x0.length c3), (1, .slice A7 x1.length c8), (5, nI s.1)]) (fun s => []) (fun s => True) sl3 trivial ?_
  rintro ⟨k13, ⟨⟩, ⟨⟩⟩ H16 _ _ e e'
  dsimp only at H16 ⊢
  subst e e'
  obtain ⟨hk14, hF15, _⟩ := H16
  refine Qd (sr (wm (wm ?_)))
  refine wv (Qaf Qcv) ?_
  refine wv Qai ?_
  refine nt' ?_
  rcases dcl k13 x0.length with ⟨hl17, g18⟩ | ⟨hl17, g18⟩
  ·
   refine Ql rfl g18 ?_
   refine Qo (Qe (Qd (Qx (Qd ?_))))
   refine Qew (by kernel_rfl) (by kernel_rfl) ?_
   refine qm (qm ?_)
   obtain ⟨a19, rfl, hb20, he21⟩ := q4 (by omega)
   refine qv (vix 5 k13 Qcv Qcr) ?_
   obtain ⟨_, e29, hc22⟩ := he21 k13 _ (Qbr (show k13 < x0.length from by omega))
   obtain ⟨v23, v25, v27, rfl, r24, r26, r28⟩ := Qjg e29
   obtain ⟨m30, A31, c32, rfl, q33, r34⟩ := Qi r24
   obtain ⟨m35, A36, c37, rfl, q38, r39⟩ := Qi r26
   obtain ⟨m40, A41, c42, rfl, q43, r44⟩ := Qi r28
   refine qv (fun W hm => Qae (cs := [iV ((gt x0 k13).Segment), iV ((gt x0 k13).Base), .slice A31 ((gt x0 k13).Ids).length c32, .slice A36 ((gt x0 k13).Tenants).length c37, .slice A41 ((gt x0 k13).Rows).length c42]) Qbz Qcr rfl rfl (hm.elCells (show (a19.add (k13 * 5)).block < w.heap.size from by rw [Qab]; exact hb20.1) hc22)) ?_
   refine qm (qm ?_)
   obtain ⟨a45, rfl, hb46, he47⟩ := q9 (by omega)
   refine qv (vix 5 k13 Qcv Qcr) ?_
   obtain ⟨_, e55, hc48⟩ := he47 k13 _ (Qbr (show k13 < x1.length from by omega))
   obtain ⟨v49, v51, v53, rfl, r50, r52, r54⟩ := Qjg e55
   obtain ⟨m56, A57, c58, rfl, q59, r60⟩ := Qi r50
   obtain ⟨m61, A62, c63, rfl, q64, r65⟩ := Qi r52
   obtain ⟨m66, A67, c68, rfl, q69, r70⟩ := Qi r54
   refine qv (fun W hm => Qae (cs := [iV ((gt x1 k13).Segment), iV ((gt x1 k13).Base), .slice A57 ((gt x1 k13).Ids).length c58, .slice A62 ((gt x1 k13).Tenants).length c63, .slice A67 ((gt x1 k13).Rows).length c68]) Qbz Qcr rfl rfl (hm.elCells (show (a45.add (k13 * 5)).block < w.heap.size from by rw [Qab]; exact hb46.1) hc48)) ?_
   refine Qes (Qq Qanf rfl) (fun W hm => Qasv W _ (gt x0 k13) _ (gt x1 k13) (Qqw (x := (gt x0 k13)) (hm.rdS0 r34) (hm.rdS0 r39) (hm.rdS0 r44)) (Qqw (x := (gt x1 k13)) (hm.rdS0 r60) (hm.rdS0 r65) (hm.rdS0 r70))) (Qk rfl) (by decide) ?_
   refine qv Qbp ?_
   refine nq' ?_
   rcases bd (Qrt (gt x0 k13) (gt x1 k13)) with g72 | g72
   ·
    refine Qn rfl (nt g72) ?_
    refine Qo (Qan (Qe (Qy (wm ?_))))
    refine wv (Qal k13 1 (by omega)) ?_
    refine wa (Qad ?_)
    exact Qao (k13 + 1, (), ()) sl3 idM ⟨(by omega), nx hF15 (Qb g72 (rfl)), trivial⟩ rl
   refine Ql rfl (nf g72) ?_
   refine sr (wa (nt' (Qj (Qz (Qg (Qg (Qz (Qg ?_))))))))
   exact rtb (h := Qc g12 (Qbe (nr hF15 (Qc g72 (rfl))) rfl))
  refine Qn rfl g18 ?_
  refine Qay (Qu (Qu ?_))
  have hE74 := Qbg hl17 hF15
  refine Qaz (Qe (sr (wa (nt' (Qj ?_)))))
  exact rtb (h := Qc g12 (Qaq hE74 (rfl)))
 refine Ql rfl g12 ?_
 refine sr (wa (nt' (Qj (Qg ?_))))
 exact rtb (h := Qb g12 (rfl))

def Qmg (x0 : Qr) (x1 : Qr) : Bool :=
 cond (Qrz x0.Store x1.Store) (cond (x0.Cursor != x1.Cursor) false (cond (Qgz x0.Order x1.Order) (cond (Qrq x0.Active x1.Active) (cond (Qrw x0.Done x1.Done) (cond (Qrs x0.Ledger x1.Ledger) (cond (x0.Steps != x1.Steps) false true) false) false) false) false)) false
theorem Qto : Cb Tryz.prog 13 := ⟨f13, _, func13, rfl, by decide⟩
theorem Qup (w : World) (z0 : List Value) (x0 : Qr) (z1 : List Value) (x1 : Qr) (r_0 : Qcf.rd w w.heap.size z0 x0) (r_1 : Qcf.rd w w.heap.size z1 x1) :
  Calls Tryz.prog 13 #[.agg z0.toArray, .agg z1.toArray] w (rB w (Qmg x0 x1)) := by
 obtain ⟨v1, v3, v5, v7, v9, rfl, r2, r4, r6, r8, r10⟩ := Qiq r_0
 obtain ⟨m11, A12, c13, rfl, q14, r15⟩ := Qi r2
 obtain ⟨m16, A17, c18, rfl, q19, r20⟩ := Qi r4
 obtain ⟨m21, A22, c23, rfl, q24, r25⟩ := Qi r6
 obtain ⟨m26, A27, c28, rfl, q29, r30⟩ := Qi r8
 obtain ⟨m31, A32, c33, rfl, q34, r35⟩ := Qi r10
 obtain ⟨v36, v38, v40, v42, v44, rfl, r37, r39, r41, r43, r45⟩ := Qiq r_1
 obtain ⟨m46, A47, c48, rfl, q49, r50⟩ := Qi r37
 obtain ⟨m51, A52, c53, rfl, q54, r55⟩ := Qi r39
 obtain ⟨m56, A57, c58, rfl, q59, r60⟩ := Qi r41
 obtain ⟨m61, A62, c63, rfl, q64, r65⟩ := Qi r43
 obtain ⟨m66, A67, c68, rfl, q69, r70⟩ := Qi r45
 refine ce2 (L := [(0, .agg #[.slice A12 x0.Store.Segments.length c13, iV x0.Store.Now, iV x0.Cursor, .slice A17 x0.Order.length c18, .slice A22 x0.Active.length c23, .slice A27 x0.Done.length c28, .slice A32 x0.Ledger.length c33, iV x0.Steps]), (1, .agg #[.slice A47 x1.Store.Segments.length c48, iV x1.Store.Now, iV x1.Cursor, .slice A52 x1.Order.length c53, .slice A57 x1.Active.length c58, .slice A62 x1.Done.length c63, .slice A67 x1.Ledger.length c68, iV x1.Steps])]) (N := 45) func13 ?_
 refine sr ?_
 refine Qbq rfl (Qk rfl) (by decide) (fun p71 => ?_)
 refine Qbq rfl (Qk rfl) (by decide) (fun p72 => ?_)
 refine wa (nt' (Qd (sr ?_)))
 refine wv (vf Qac rfl Qbt) ?_
 refine wv (fun W hm => Qae (cs := [.slice A12 x0.Store.Segments.length c13, iV x0.Store.Now]) Qbx Qbt rfl rfl (hm.boxPart (n := 1) rfl rfl)) ?_
 refine wv (vf Qac rfl Qbt) ?_
 refine wv (fun W hm => Qae (cs := [.slice A47 x1.Store.Segments.length c48, iV x1.Store.Now]) Qbx Qbt rfl rfl (hm.boxPart (n := 0) rfl rfl)) ?_
 refine wcv (Qq cb73 rfl) (fun W hm => Qath W _ x0.Store _ x1.Store (Qfw (x := x0.Store) (hm.rdS0 r15)) (Qfw (x := x1.Store) (hm.rdS0 r50))) ?_
 refine wv Qbp ?_
 refine nt' ?_
 rcases bd (Qrz x0.Store x1.Store) with g74 | g74
 ·
  refine Qn rfl (nt g74) ?_
  refine Qo (Qe (Qd (sr ?_)))
  refine wv (vf Qac rfl Qf) ?_
  refine wv (vl 1 2 Qs) ?_
  refine wv (vf Qac rfl Qf) ?_
  refine wv (vl 0 2 Qs) ?_
  refine wv Qcj ?_
  refine nt' ?_
  rcases dcn x0.Cursor x1.Cursor with ⟨h75, g76⟩ | ⟨h75, g76⟩
  ·
   refine Qn rfl g76 ?_
   refine Qo (Qe (Qd (sr ?_)))
   refine wv (vf Qac rfl Qam) ?_
   refine wv (vl 1 3 Qp) ?_
   refine wv (vf Qac rfl Qam) ?_
   refine wv (vl 0 3 Qp) ?_
   refine wcv (Qq Qni rfl) (fun W hm => Qno W _ x0.Order _ x1.Order (hm.rdS0 r20) (hm.rdS0 r55)) ?_
   refine wv Qbp ?_
   refine nt' ?_
   rcases bd (Qgz x0.Order x1.Order) with g78 | g78
   ·
    refine Qn rfl (nt g78) ?_
    refine Qo (Qe (Qd (sr ?_)))
    refine wv (vf Qac rfl Qcz) ?_
    refine wv (vl 1 4 Qaw) ?_
    refine wv (vf Qac rfl Qcz) ?_
    refine wv (vl 0 4 Qaw) ?_
    refine wcv (Qq cb75 rfl) (fun W hm => Qasp W _ x0.Active _ x1.Active (hm.rdS0 r25) (hm.rdS0 r60)) ?_
    refine wv Qbp ?_
    refine nt' ?_
    rcases bd (Qrq x0.Active x1.Active) with g80 | g80
    ·
     refine Qn rfl (nt g80) ?_
     refine Qo (Qe (Qd (sr ?_)))
     refine wv (vf Qac rfl Qek) ?_
     refine wv (vl 1 5 Qch) ?_
     refine wv (vf Qac rfl Qek) ?_
     refine wv (vl 0 5 Qch) ?_
     refine wcv (Qq cb76 rfl) (fun W hm => Qatb W _ x0.Done _ x1.Done (hm.rdS0 r30) (hm.rdS0 r65)) ?_
     refine wv Qbp ?_
     refine nt' ?_
     rcases bd (Qrw x0.Done x1.Done) with g82 | g82
     ·
      refine Qn rfl (nt g82) ?_
      refine Qo (Qe (Qd (sr ?_)))
      refine wv (vf Qac rfl Qfc) ?_
      refine wv (vl 1 6 Qcv) ?_
      refine wv (vf Qac rfl Qfc) ?_
      refine wv (vl 0 6 Qcv) ?_
      refine wcv (Qq cb77 rfl) (fun W hm => Qast W _ x0.Ledger _ x1.Ledger (hm.rdS0 r35) (hm.rdS0 r70)) ?_
      refine wv Qbp ?_
      refine nt' ?_
      rcases bd (Qrs x0.Ledger x1.Ledger) with g84 | g84
      ·
       refine Qn rfl (nt g84) ?_
       refine Qo (Qe (Qd (sr ?_)))
       refine wv (vf Qac rfl Qf) ?_
       refine wv (vl 1 7 Qs) ?_
       refine wv (vf Qac rfl Qf) ?_
       refine wv (vl 0 7 Qs) ?_
       refine wv Qcj ?_
       refine nt' ?_
       rcases dcn x0.Steps x1.Steps with ⟨h85, g86⟩ | ⟨h85, g86⟩
       ·
        refine Qn rfl g86 ?_
        refine Qo (Qe (sr (wa (nt' (Qj ?_)))))
        exact rtb (h := Qb g74 (Qc g76 (Qb g78 (Qb g80 (Qb g82 (Qb g84 (Qc g86 (rfl))))))))
       refine Ql rfl g86 ?_
       refine sr (wa (nt' (Qj (Qg ?_))))
       exact rtb (h := Qb g74 (Qc g76 (Qb g78 (Qb g80 (Qb g82 (Qb g84 (Qb g86 (rfl))))))))
      refine Ql rfl (nf g84) ?_
      refine sr (wa (nt' (Qj (Qg ?_))))
      exact rtb (h := Qb g74 (Qc g76 (Qb g78 (Qb g80 (Qb g82 (Qc g84 (rfl)))))))
     refine Ql rfl (nf g82) ?_
     refine sr (wa (nt' (Qj (Qg ?_))))
     exact rtb (h := Qb g74 (Qc g76 (Qb g78 (Qb g80 (Qc g82 (rfl))))))
    refine Ql rfl (nf g80) ?_
    refine sr (wa (nt' (Qj (Qg ?_))))
    exact rtb (h := Qb g74 (Qc g76 (Qb g78 (Qc g80 (rfl)))))
   refine Ql rfl (nf g78) ?_
   refine sr (wa (nt' (Qj (Qg ?_))))
   exact rtb (h := Qb g74 (Qc g76 (Qc g78 (rfl))))
  refine Ql rfl g76 ?_
  refine sr (wa (nt' (Qj (Qg ?_))))
  exact rtb (h := Qb g74 (Qb g76 (rfl)))
 refine Ql rfl (nf g74) ?_
 refine sr (wa (nt' (Qj (Qg ?_))))
 exact rtb (h := Qc g74 (rfl))

def Qzh (k5 : Nat) (s6 : Int) (d7 : (List Int)) : (Int × (List Int)) ⊕ (Int × (List Int)) :=
 Sum.inr ((IntKind.i64.wrap (s6 + 1)), (d7.set k5 s6))
def Qv (x0 : (List Int)) (x1 : Int) : (Int × (List Int)) :=
 Sum.elim id (fun (s : Int × (List Int)) => (s.1, s.2)) (rng (R := (Int × (List Int))) (fun k (s : Int × (List Int)) => Qzh k s.1 s.2) (x0.length - 0) 0 (x1, x0))
theorem Qma : Cb Tryz.prog 79 := ⟨f79, _, func79, rfl, by decide⟩
theorem Qmi (B : Nat) (w0 : World) (is : List It) (w : World) (z0 : Value) (x0 : (List Int)) (x1 : Int) (hm : Mem B w0 (Qm (tSl Qa 3) [z0] x0 :: is) w) :
  Calls Tryz.prog 79 #[z0, iV x1] w fun e w' => e = .returned (iV (Qv x0 x1).1) ∧ Mem B w0 (Qm (tSl Qa 3) [z0] (Qv x0 x1).2 :: is) w' := by
 refine Qhz (L := [(0, z0), (1, iV x1)]) (N := 19) func79 rfl rfl (Nat.le_of_ble_eq_true rfl) (Qeb rfl (Qeb rfl Qgw)) hm ?_
 refine Qdc (n := 0) rfl ?_
 rintro A1 c2 rfl m3
 refine sr (wa (nt' (Qd (sr (wa (nt' (Qx ?_)))))))
 refine Qbf (S := Int × (List Int)) (R := Unit) (fun k (s : Int × (List Int)) => Qzh k s.1 s.2) x0.length 0 (x1, x0) () (fun s => [(0, .slice A1 x0.length c2), (1, iV s.2.1.1), (5, nI s.1)]) (fun s => (Qm (tSl Qa 3) [.slice A1 x0.length c2] s.2.1.2 :: is)) (fun s => True) sl3 trivial ?_
 rintro ⟨k5, ⟨s6, d7⟩, ⟨⟩⟩ H10 _ _ e e'
 dsimp only at H10 ⊢
 subst e e'
 obtain ⟨hk8, hF9, _⟩ := H10
 refine Qd (sr (wm (wm ?_)))
 refine wv (Qaf Qp) ?_
 refine wv Qai ?_
 refine nt' ?_
 rcases dcl k5 x0.length with ⟨hl11, g12⟩ | ⟨hl11, g12⟩
 ·
  refine Ql rfl g12 ?_
  refine Qo (Qe (Qd (Qx (sr ?_))))
  iterate 3 refine wm ?_
  refine Qht (n := 0) rfl (by omega) ?_
  rintro g13 rfl
  refine wv (vix 1 k5 Qp Qf) ?_
  refine Qlz (E := Qa) (e := 3) (u := iV s6) (k := k5) (p := g13) (n := x0.length) (xs := d7) (eis := []) (js := (is)) (yv := s6) (fun W hm => (hm.front (n := 0) rfl)) (fun _ _ hs => (Sep.nil hs ▸ Qck)) rfl Qf rfl (by omega) rfl rfl (Qk rfl) ?_
  refine nt' (Qy (wm ?_))
  refine wv Qcw ?_
  refine wa (Qad (Qan (Qe (Qy (wm ?_)))))
  refine wv (Qal k5 1 (by omega)) ?_
  refine wa (Qad ?_)
  exact Qao (k5 + 1, ((IntKind.i64.wrap (s6 + 1)), (d7.set k5 s6)), ()) sl3 idM ⟨(by omega), nx hF9 (rfl), trivial⟩ rl
 refine Qn rfl g12 ?_
 refine Qay (Qu (Qu ?_))
 have hE15 := Qbg hl11 hF9
 refine Qaz (Qe (sr (wm (wa (nt' (Qj ?_))))))
 have he16 := (show Qv x0 x1 = (s6, d7) from Qaq hE15 (rfl))
 refine Qlj rfl rfl (fun W hm => ⟨?_, ?_⟩)
 ·rw [he16]
 rw [he16]; exact hm

def Qzk (k5 : Nat) (s6 : Int) (d7 : (List Qt)) : (Int × (List Qt)) ⊕ (Int × (List Qt)) :=
 Sum.inr ((IntKind.i64.wrap ((IntKind.i64.wrap (((Qv ((gt d7 k5).Values) (IntKind.i64.wrap (s6 + 1))).1) + 1)) + 1)), (d7.set k5 (⟨s6, (Qv ((gt d7 k5).Values) (IntKind.i64.wrap (s6 + 1))).2, (Qv ((gt d7 k5).Values) (IntKind.i64.wrap (s6 + 1))).1, (IntKind.i64.wrap (((Qv ((gt d7 k5).Values) (IntKind.i64.wrap (s6 + 1))).1) + 1))⟩ : Qt)))
def Qjs (x0 : (List Qt)) (x1 : Int) : (Int × (List Qt)) :=
 Sum.elim id (fun (s : Int × (List Qt)) => (s.1, s.2)) (rng (R := (Int × (List Qt))) (fun k (s : Int × (List Qt)) => Qzk k s.1 s.2) (x0.length - 0) 0 (x1, x0))
theorem Qaoa : Cb Tryz.prog 201 := ⟨f201, _, func201, rfl, by decide⟩
theorem Qaum (B : Nat) (w0 : World) (is : List It) (w : World) (z0 : Value) (x0 : (List Qt)) (x1 : Int) (hm : Mem B w0 (Qm (tSl Qag 163) [z0] x0 :: is) w) :
  Calls Tryz.prog 201 #[z0, iV x1] w fun e w' => e = .returned (iV (Qjs x0 x1).1) ∧ Mem B w0 (Qm (tSl Qag 163) [z0] (Qjs x0 x1).2 :: is) w' := by
 refine Qhz (L := [(0, z0), (1, iV x1)]) (N := 41) func201 rfl rfl (Nat.le_of_ble_eq_true rfl) (Qeb rfl (Qeb rfl Qgw)) hm ?_
 refine Qdc (n := 0) rfl ?_
 rintro A1 c2 rfl m3
 refine sr (wa (nt' (Qd (sr (wa (nt' (Qx ?_)))))))
 refine Qbf (S := Int × (List Qt)) (R := Unit) (fun k (s : Int × (List Qt)) => Qzk k s.1 s.2) x0.length 0 (x1, x0) () (fun s => [(0, .slice A1 x0.length c2), (1, iV s.2.1.1), (5, nI s.1)]) (fun s => (Qm (tSl Qag 163) [.slice A1 x0.length c2] s.2.1.2 :: is)) (fun s => True) sl3 trivial ?_
 rintro ⟨k5, ⟨s6, d7⟩, ⟨⟩⟩ H10 _ _ e e'
 dsimp only at H10 ⊢
 subst e e'
 obtain ⟨hk8, hF9, _⟩ := H10
 refine Qd (sr (wm (wm ?_)))
 refine wv (Qaf Qbw) ?_
 refine wv Qai ?_
 refine nt' ?_
 rcases dcl k5 x0.length with ⟨hl11, g12⟩ | ⟨hl11, g12⟩
 ·
  refine Ql rfl g12 ?_
  refine Qo (Qe (Qd (Qx (sr ?_))))
  iterate 3 refine wm ?_
  refine Qht (n := 0) rfl (by omega) ?_
  rintro g13 rfl
  refine wv (vix 4 k5 Qbw Qbl) ?_
  refine wv (vf Qbn rfl Qf) ?_
  refine Qjr (E := Qag) (e := 163) (A := (sA g13)) (n := x0.length) (c := c2) (xs := d7) (k := k5) (js := (is)) (by omega) (fun W hm => (hm.front (n := 0) rfl)) (fun ck14 => ?_)
  refine Qta ?_
  rintro v15 rfl
  refine fm 0 ?_
  rintro A16 c17 rfl m18
  let K1 : List Value := [iV s6, .slice A16 ((gt d7 k5).Values).length c17, iV ((gt d7 k5).Born), iV ((gt d7 k5).Died)]
  refine sf 0 4 K1 (iS Qa 3 A16 c17 ((gt d7 k5).Values) :: is) (fun W hm => (hm.front (n := 1) rfl)) Qf ?_
  refine nt' (sr (wm ?_))
  refine wv Qcw ?_
  refine wa (nt' (sr (wm (wm ?_))))
  refine wv (vix 4 k5 Qbw Qbl) ?_
  refine wv (vf Qbn rfl Qam) ?_
  refine wv (fun W hm => Qau Qp rfl rfl (hm.focCells (i := 0) rfl rfl 1 _ rfl)) ?_
  refine wm ?_
  refine cw (Qq Qma rfl) (fun W hm => Qmi B w0 (Qdf Qag 163 (sA g13) x0.length c2 d7 k5 K1 :: is) W (.slice A16 ((gt d7 k5).Values).length c17) ((gt d7 k5).Values) (IntKind.i64.wrap (s6 + 1)) (hm.front (n := 1) rfl)) ?_
  refine wa (nt' (sr ?_))
  iterate 3 refine wm ?_
  refine wv (vix 4 k5 Qbw Qbl) ?_
  refine wv (vf Qbn rfl Qf) ?_
  let I3 : It := Qm (tSl Qa 3) [.slice A16 ((gt d7 k5).Values).length c17] ((Qv ((gt d7 k5).Values) (IntKind.i64.wrap (s6 + 1))).2)
  refine sf 2 4 [iV s6, .slice A16 ((gt d7 k5).Values).length c17, iV ((Qv ((gt d7 k5).Values) (IntKind.i64.wrap (s6 + 1))).1), iV ((gt d7 k5).Died)] (I3 :: is) (fun W hm => (hm.front (n := 1) rfl)) Qf ?_
  refine nt' (sr (wm ?_))
  refine wv Qcw ?_
  refine wa (nt' (sr ?_))
  iterate 3 refine wm ?_
  refine wv (vix 4 k5 Qbw Qbl) ?_
  refine wv (vf Qbn rfl Qf) ?_
  let K2 : List Value := [iV s6, .slice A16 ((gt d7 k5).Values).length c17, iV ((Qv ((gt d7 k5).Values) (IntKind.i64.wrap (s6 + 1))).1), iV (IntKind.i64.wrap (((Qv ((gt d7 k5).Values) (IntKind.i64.wrap (s6 + 1))).1) + 1))]
  refine sf 3 4 K2 (I3 :: is) (fun W hm => (hm.front (n := 0) rfl)) Qf ?_
  refine nt' (Qy (wm ?_))
  refine wv Qcw ?_
  refine wa (Qad (Qan (Qe (Qy (wm ?_)))))
  refine wv (Qal k5 1 (by omega)) ?_
  refine wa (Qad ?_)
  refine Qdd (fun W hm => Mem.unfocus (Mem.join (is := [I3]) (js := (Qdf Qag 163 (sA g13) x0.length c2 d7 k5 K2 :: (is))) (fun _ _ hs => Qlf (x := (⟨s6, (Qv ((gt d7 k5).Values) (IntKind.i64.wrap (s6 + 1))).2, (Qv ((gt d7 k5).Values) (IntKind.i64.wrap (s6 + 1))).1, (IntKind.i64.wrap (((Qv ((gt d7 k5).Values) (IntKind.i64.wrap (s6 + 1))).1) + 1))⟩ : Qt)) hs) ((hm.front (n := 0) rfl).front (n := 1) rfl))) ?_
  exact Qao (k5 + 1, ((IntKind.i64.wrap ((IntKind.i64.wrap (((Qv ((gt d7 k5).Values) (IntKind.i64.wrap (s6 + 1))).1) + 1)) + 1)), (d7.set k5 (⟨s6, (Qv ((gt d7 k5).Values) (IntKind.i64.wrap (s6 + 1))).2, (Qv ((gt d7 k5).Values) (IntKind.i64.wrap (s6 + 1))).1, (IntKind.i64.wrap (((Qv ((gt d7 k5).Values) (IntKind.i64.wrap (s6 + 1))).1) + 1))⟩ : Qt))), ()) sl3 idM ⟨(by omega), nx hF9 (rfl), trivial⟩ rl
 refine Qn rfl g12 ?_
 refine Qay (Qu (Qu ?_))
 have hE21 := Qbg hl11 hF9
 refine Qaz (Qe (sr (wm (wa (nt' (Qj ?_))))))
 have he22 := (show Qjs x0 x1 = (s6, d7) from Qaq hE21 (rfl))
 refine Qlj rfl rfl (fun W hm => ⟨?_, ?_⟩)
 ·rw [he22]
 rw [he22]; exact hm

def Qzj (k5 : Nat) (s6 : Int) (d7 : (List (List Qt))) : (Int × (List (List Qt))) ⊕ (Int × (List (List Qt))) :=
 Sum.inr ((Qjs (gt d7 k5) s6).1, (d7.set k5 ((Qjs (gt d7 k5) s6).2)))
def Qkq (x0 : (List (List Qt))) (x1 : Int) : (Int × (List (List Qt))) :=
 Sum.elim id (fun (s : Int × (List (List Qt))) => (s.1, s.2)) (rng (R := (Int × (List (List Qt)))) (fun k (s : Int × (List (List Qt))) => Qzj k s.1 s.2) (x0.length - 0) 0 (x1, x0))
theorem Qang : Cb Tryz.prog 150 := ⟨f150, _, func150, rfl, by decide⟩
theorem Qauj (B : Nat) (w0 : World) (is : List It) (w : World) (z0 : Value) (x0 : (List (List Qt))) (x1 : Int) (hm : Mem B w0 (Qm (tSl (tSl Qag 163) 100) [z0] x0 :: is) w) :
  Calls Tryz.prog 150 #[z0, iV x1] w fun e w' => e = .returned (iV (Qkq x0 x1).1) ∧ Mem B w0 (Qm (tSl (tSl Qag 163) 100) [z0] (Qkq x0 x1).2 :: is) w' := by
 refine Qhz (L := [(0, z0), (1, iV x1)]) (N := 19) func150 rfl rfl (Nat.le_of_ble_eq_true rfl) (Qeb rfl (Qeb rfl Qgw)) hm ?_
 refine Qdc (n := 0) rfl ?_
 rintro A1 c2 rfl m3
 refine sr (wa (nt' (Qd (sr (wa (nt' (Qx ?_)))))))
 refine Qbf (S := Int × (List (List Qt))) (R := Unit) (fun k (s : Int × (List (List Qt))) => Qzj k s.1 s.2) x0.length 0 (x1, x0) () (fun s => [(0, .slice A1 x0.length c2), (1, iV s.2.1.1), (5, nI s.1)]) (fun s => (Qm (tSl (tSl Qag 163) 100) [.slice A1 x0.length c2] s.2.1.2 :: is)) (fun s => True) sl3 trivial ?_
 rintro ⟨k5, ⟨s6, d7⟩, ⟨⟩⟩ H10 _ _ e e'
 dsimp only at H10 ⊢
 subst e e'
 obtain ⟨hk8, hF9, _⟩ := H10
 refine Qd (sr (wm (wm ?_)))
 refine wv (Qaf Qca) ?_
 refine wv Qai ?_
 refine nt' ?_
 rcases dcl k5 x0.length with ⟨hl11, g12⟩ | ⟨hl11, g12⟩
 ·
  refine Ql rfl g12 ?_
  refine Qo (Qe (Qd (Qx (Qy (wm (wm ?_))))))
  refine Qht (n := 0) rfl (by omega) ?_
  rintro g13 rfl
  refine wv (vix 1 k5 Qca Qfg) ?_
  refine Qjr (E := (tSl Qag 163)) (e := 100) (A := (sA g13)) (n := x0.length) (c := c2) (xs := d7) (k := k5) (js := (is)) (by omega) (fun W hm => (hm.front (n := 0) rfl)) (fun ck14 => ?_)
  refine Qit (γ := Value) (js := fun g => [Qm (tSl Qag 163) [g] (gt d7 k5)]) (C := fun g => ck14 = [g]) (fun _ _ h => Qvr h) ?_
  rintro v15 rfl
  refine fm 0 ?_
  rintro A16 c17 rfl m18
  refine wv (fun W hm => Qau Qbw rfl rfl (hm.focInt (i := 1) rfl rfl)) ?_
  refine wm ?_
  let I1 : It := Qdf (tSl Qag 163) 100 (sA g13) x0.length c2 d7 k5 [.slice A16 (gt d7 k5).length c17]
  refine cw (Qq Qaoa rfl) (fun W hm => Qaum B w0 (I1 :: is) W (.slice A16 (gt d7 k5).length c17) (gt d7 k5) s6 (hm.front (n := 0) rfl)) ?_
  refine wa (Qad (Qan (Qe (Qy (wm ?_)))))
  refine wv (Qal k5 1 (by omega)) ?_
  refine wa (Qad ?_)
  refine Qdd (fun W hm => Mem.unfocus (Mem.join (is := [Qm (tSl Qag 163) [.slice A16 (gt d7 k5).length c17] ((Qjs (gt d7 k5) s6).2)]) (js := (I1 :: (is))) (fun _ _ hs => Sep.one hs) ((hm.front (n := 1) rfl).front (n := 1) rfl))) ?_
  exact Qao (k5 + 1, ((Qjs (gt d7 k5) s6).1, (d7.set k5 ((Qjs (gt d7 k5) s6).2))), ()) sl3 idM ⟨(by omega), nx hF9 (rfl), trivial⟩ rl
 refine Qn rfl g12 ?_
 refine Qay (Qu (Qu ?_))
 have hE21 := Qbg hl11 hF9
 refine Qaz (Qe (sr (wm (wa (nt' (Qj ?_))))))
 have he22 := (show Qkq x0 x1 = (s6, d7) from Qaq hE21 (rfl))
 refine Qlj rfl rfl (fun W hm => ⟨?_, ?_⟩)
 ·rw [he22]
 rw [he22]; exact hm

def Qdq (x0 : Qas) (x1 : Int) : (Int × Qas) :=
 ((Qkq x0.Segments x1).1, (⟨(Qkq x0.Segments x1).2, x0.Now⟩ : Qas))
theorem cb78 : Cb Tryz.prog 78 := ⟨f78, _, func78, rfl, by decide⟩
theorem Qauh (B : Nat) (w0 : World) (is : List It) (w : World) (z0 : List Value) (x0 : Qas) (x1 : Int) (hm : Mem B w0 (Qm Qdn z0 x0 :: is) w) :
  Calls Tryz.prog 78 #[.agg z0.toArray, iV x1] w fun e w' => e = .returned (iV (Qdq x0 x1).1) ∧ Mem B w0 (Qm Qdn z0 (Qdq x0 x1).2 :: is) w' := by
 refine Qhz (L := [(0, .agg z0.toArray), (1, iV x1)]) (N := 10) func78 rfl rfl (Nat.le_of_ble_eq_true rfl) (Qeb rfl (Qeb rfl Qgw)) hm ?_
 refine Qjq (γ := Value) (js := fun g => [Qm (tSl (tSl Qag 163) 100) [g] x0.Segments]) (C := fun g => z0 = [g, iV x0.Now]) (fun _ _ h => Qaiq h) ?_
 rintro v1 rfl
 refine Qdc (n := 0) rfl ?_
 rintro A2 c3 rfl m4
 refine sr ?_
 refine Qbq rfl (Qk rfl) (by decide) (fun p6 => ?_)
 refine wa (nt' (sr ?_))
 refine wv (vf Qbx rfl Qdz) ?_
 refine wv (vl 0 0 Qca) ?_
 refine wm ?_
 refine cw (Qq Qang rfl) (fun W hm => Qauj B w0 (Qh p6 34 [.slice A2 x0.Segments.length c3, iV x0.Now] :: is) W (.slice A2 x0.Segments.length c3) x0.Segments x1 (hm.front (n := 1) rfl)) ?_
 refine wa (nt' (sr (wm (wa (nt' (Qj ?_))))))
 have he7 := (show Qdq x0 x1 = ((Qkq x0.Segments x1).1, (⟨(Qkq x0.Segments x1).2, x0.Now⟩ : Qas)) from rfl)
 refine Qlj rfl rfl (fun W hm => ⟨?_, ?_⟩)
 ·rw [he7]
 rw [he7]; exact Mem.join (is := [Qm (tSl (tSl Qag 163) 100) [.slice A2 x0.Segments.length c3] ((Qkq x0.Segments x1).2)]) (js := is) (fun _ _ hs => Qms (x := (⟨(Qkq x0.Segments x1).2, x0.Now⟩ : Qas)) hs) ((hm.front (n := 0) rfl).front (n := 1) rfl).tail

def Qzf (k5 : Nat) (s6 : Int) (d7 : (List Qcc)) : (Int × (List Qcc)) ⊕ (Int × (List Qcc)) :=
 Sum.inr ((IntKind.i64.wrap ((IntKind.i64.wrap ((IntKind.i64.wrap (s6 + 1)) + 1)) + 1)), (d7.set k5 (⟨s6, (IntKind.i64.wrap (s6 + 1)), (IntKind.i64.wrap ((IntKind.i64.wrap (s6 + 1)) + 1))⟩ : Qcc)))
def Qbh (x0 : (List Qcc)) (x1 : Int) : (Int × (List Qcc)) :=
 Sum.elim id (fun (s : Int × (List Qcc)) => (s.1, s.2)) (rng (R := (Int × (List Qcc))) (fun k (s : Int × (List Qcc)) => Qzf k s.1 s.2) (x0.length - 0) 0 (x1, x0))
theorem Qadf : Cb Tryz.prog 151 := ⟨f151, _, func151, rfl, by decide⟩
theorem Qafr (B : Nat) (w0 : World) (is : List It) (w : World) (z0 : Value) (x0 : (List Qcc)) (x1 : Int) (hm : Mem B w0 (Qm (tSl Qbk 180) [z0] x0 :: is) w) :
  Calls Tryz.prog 151 #[z0, iV x1] w fun e w' => e = .returned (iV (Qbh x0 x1).1) ∧ Mem B w0 (Qm (tSl Qbk 180) [z0] (Qbh x0 x1).2 :: is) w' := by
 refine Qhz (L := [(0, z0), (1, iV x1)]) (N := 34) func151 rfl rfl (Nat.le_of_ble_eq_true rfl) (Qeb rfl (Qeb rfl Qgw)) hm ?_
 refine Qdc (n := 0) rfl ?_
 rintro A1 c2 rfl m3
 refine sr (wa (nt' (Qd (sr (wa (nt' (Qx ?_)))))))
 refine Qbf (S := Int × (List Qcc)) (R := Unit) (fun k (s : Int × (List Qcc)) => Qzf k s.1 s.2) x0.length 0 (x1, x0) () (fun s => [(0, .slice A1 x0.length c2), (1, iV s.2.1.1), (5, nI s.1)]) (fun s => (Qm (tSl Qbk 180) [.slice A1 x0.length c2] s.2.1.2 :: is)) (fun s => True) sl3 trivial ?_
 rintro ⟨k5, ⟨s6, d7⟩, ⟨⟩⟩ H10 _ _ e e'
 dsimp only at H10 ⊢
 subst e e'
 obtain ⟨hk8, hF9, _⟩ := H10
 refine Qd (sr (wm (wm ?_)))
 refine wv (Qaf Qcs) ?_
 refine wv Qai ?_
 refine nt' ?_
 rcases dcl k5 x0.length with ⟨hl11, g12⟩ | ⟨hl11, g12⟩
 ·
  refine Ql rfl g12 ?_
  refine Qo (Qe (Qd (Qx (sr ?_))))
  iterate 3 refine wm ?_
  refine Qht (n := 0) rfl (by omega) ?_
  rintro g13 rfl
  refine wv (vix 3 k5 Qcs Qds) ?_
  refine wv (vf Qdu rfl Qf) ?_
  refine Qjr (E := Qbk) (e := 180) (A := (sA g13)) (n := x0.length) (c := c2) (xs := d7) (k := k5) (js := (is)) (by omega) (fun W hm => (hm.front (n := 0) rfl)) (fun ck14 => ?_)
  refine Qaia ?_
  rintro ⟨⟩ rfl
  refine sf 0 3 [iV s6, iV ((gt d7 k5).Low), iV ((gt d7 k5).High)] (is) (fun W hm => (hm.front (n := 0) rfl)) Qf ?_
  refine nt' (sr (wm ?_))
  refine wv Qcw ?_
  refine wa (nt' (sr ?_))
  iterate 3 refine wm ?_
  refine wv (vix 3 k5 Qcs Qds) ?_
  refine wv (vf Qdu rfl Qf) ?_
  refine sf 1 3 [iV s6, iV (IntKind.i64.wrap (s6 + 1)), iV ((gt d7 k5).High)] (is) (fun W hm => (hm.front (n := 0) rfl)) Qf ?_
  refine nt' (sr (wm ?_))
  refine wv Qcw ?_
  refine wa (nt' (sr ?_))
  iterate 3 refine wm ?_
  refine wv (vix 3 k5 Qcs Qds) ?_
  refine wv (vf Qdu rfl Qf) ?_
  let K1 : List Value := [iV s6, iV (IntKind.i64.wrap (s6 + 1)), iV (IntKind.i64.wrap ((IntKind.i64.wrap (s6 + 1)) + 1))]
  refine sf 2 3 K1 (is) (fun W hm => (hm.front (n := 0) rfl)) Qf ?_
  refine nt' (Qy (wm ?_))
  refine wv Qcw ?_
  refine wa (Qad (Qan (Qe (Qy (wm ?_)))))
  refine wv (Qal k5 1 (by omega)) ?_
  refine wa (Qad ?_)
  refine Qdd (fun W hm => Mem.unfocus (Mem.join (is := []) (js := (Qdf Qbk 180 (sA g13) x0.length c2 d7 k5 K1 :: (is))) (fun _ _ hs => Qabh (x := (⟨s6, (IntKind.i64.wrap (s6 + 1)), (IntKind.i64.wrap ((IntKind.i64.wrap (s6 + 1)) + 1))⟩ : Qcc)) hs) (hm.front (n := 0) rfl))) ?_
  exact Qao (k5 + 1, ((IntKind.i64.wrap ((IntKind.i64.wrap ((IntKind.i64.wrap (s6 + 1)) + 1)) + 1)), (d7.set k5 (⟨s6, (IntKind.i64.wrap (s6 + 1)), (IntKind.i64.wrap ((IntKind.i64.wrap (s6 + 1)) + 1))⟩ : Qcc))), ()) sl3 idM ⟨(by omega), nx hF9 (rfl), trivial⟩ rl
 refine Qn rfl g12 ?_
 refine Qay (Qu (Qu ?_))
 have hE16 := Qbg hl11 hF9
 refine Qaz (Qe (sr (wm (wa (nt' (Qj ?_))))))
 have he17 := (show Qbh x0 x1 = (s6, d7) from Qaq hE16 (rfl))
 refine Qlj rfl rfl (fun W hm => ⟨?_, ?_⟩)
 ·rw [he17]
 rw [he17]; exact hm

def Qzi (k5 : Nat) (s6 : Int) (d7 : (List Qaa)) : (Int × (List Qaa)) ⊕ (Int × (List Qaa)) :=
 Sum.inr ((Qv ((gt d7 k5).Values) (IntKind.i64.wrap (s6 + 1))).1, (d7.set k5 (⟨s6, (Qv ((gt d7 k5).Values) (IntKind.i64.wrap (s6 + 1))).2⟩ : Qaa)))
def Qga (x0 : (List Qaa)) (x1 : Int) : (Int × (List Qaa)) :=
 Sum.elim id (fun (s : Int × (List Qaa)) => (s.1, s.2)) (rng (R := (Int × (List Qaa))) (fun k (s : Int × (List Qaa)) => Qzi k s.1 s.2) (x0.length - 0) 0 (x1, x0))
theorem Qadg : Cb Tryz.prog 152 := ⟨f152, _, func152, rfl, by decide⟩
theorem Qafv (B : Nat) (w0 : World) (is : List It) (w : World) (z0 : Value) (x0 : (List Qaa)) (x1 : Int) (hm : Mem B w0 (Qm (tSl Qap 70) [z0] x0 :: is) w) :
  Calls Tryz.prog 152 #[z0, iV x1] w fun e w' => e = .returned (iV (Qga x0 x1).1) ∧ Mem B w0 (Qm (tSl Qap 70) [z0] (Qga x0 x1).2 :: is) w' := by
 refine Qhz (L := [(0, z0), (1, iV x1)]) (N := 27) func152 rfl rfl (Nat.le_of_ble_eq_true rfl) (Qeb rfl (Qeb rfl Qgw)) hm ?_
 refine Qdc (n := 0) rfl ?_
 rintro A1 c2 rfl m3
 refine sr (wa (nt' (Qd (sr (wa (nt' (Qx ?_)))))))
 refine Qbf (S := Int × (List Qaa)) (R := Unit) (fun k (s : Int × (List Qaa)) => Qzi k s.1 s.2) x0.length 0 (x1, x0) () (fun s => [(0, .slice A1 x0.length c2), (1, iV s.2.1.1), (5, nI s.1)]) (fun s => (Qm (tSl Qap 70) [.slice A1 x0.length c2] s.2.1.2 :: is)) (fun s => True) sl3 trivial ?_
 rintro ⟨k5, ⟨s6, d7⟩, ⟨⟩⟩ H10 _ _ e e'
 dsimp only at H10 ⊢
 subst e e'
 obtain ⟨hk8, hF9, _⟩ := H10
 refine Qd (sr (wm (wm ?_)))
 refine wv (Qaf Qci) ?_
 refine wv Qai ?_
 refine nt' ?_
 rcases dcl k5 x0.length with ⟨hl11, g12⟩ | ⟨hl11, g12⟩
 ·
  refine Ql rfl g12 ?_
  refine Qo (Qe (Qd (Qx (sr ?_))))
  iterate 3 refine wm ?_
  refine Qht (n := 0) rfl (by omega) ?_
  rintro g13 rfl
  refine wv (vix 2 k5 Qci Qcg) ?_
  refine wv (vf Qdv rfl Qf) ?_
  refine Qjr (E := Qap) (e := 70) (A := (sA g13)) (n := x0.length) (c := c2) (xs := d7) (k := k5) (js := (is)) (by omega) (fun W hm => (hm.front (n := 0) rfl)) (fun ck14 => ?_)
  refine Qmr ?_
  rintro v15 rfl
  refine fm 0 ?_
  rintro A16 c17 rfl m18
  refine sf 0 2 [iV s6, .slice A16 ((gt d7 k5).Values).length c17] (iS Qa 3 A16 c17 ((gt d7 k5).Values) :: is) (fun W hm => (hm.front (n := 1) rfl)) Qf ?_
  refine nt' (sr (wm ?_))
  refine wv Qcw ?_
  refine wa (nt' (Qy (wm (wm ?_))))
  refine wv (vix 2 k5 Qci Qcg) ?_
  refine wv (vf Qdv rfl Qam) ?_
  refine wv (fun W hm => Qau Qp rfl rfl (hm.focCells (i := 0) rfl rfl 1 _ rfl)) ?_
  refine wm ?_
  let I1 : It := Qdf Qap 70 (sA g13) x0.length c2 d7 k5 [iV s6, .slice A16 ((gt d7 k5).Values).length c17]
  refine cw (Qq Qma rfl) (fun W hm => Qmi B w0 (I1 :: is) W (.slice A16 ((gt d7 k5).Values).length c17) ((gt d7 k5).Values) (IntKind.i64.wrap (s6 + 1)) (hm.front (n := 1) rfl)) ?_
  refine wa (Qad (Qan (Qe (Qy (wm ?_)))))
  refine wv (Qal k5 1 (by omega)) ?_
  refine wa (Qad ?_)
  refine Qdd (fun W hm => Mem.unfocus (Mem.join (is := [Qm (tSl Qa 3) [.slice A16 ((gt d7 k5).Values).length c17] ((Qv ((gt d7 k5).Values) (IntKind.i64.wrap (s6 + 1))).2)]) (js := (I1 :: (is))) (fun _ _ hs => Qjj (x := (⟨s6, (Qv ((gt d7 k5).Values) (IntKind.i64.wrap (s6 + 1))).2⟩ : Qaa)) hs) ((hm.front (n := 1) rfl).front (n := 1) rfl))) ?_
  exact Qao (k5 + 1, ((Qv ((gt d7 k5).Values) (IntKind.i64.wrap (s6 + 1))).1, (d7.set k5 (⟨s6, (Qv ((gt d7 k5).Values) (IntKind.i64.wrap (s6 + 1))).2⟩ : Qaa))), ()) sl3 idM ⟨(by omega), nx hF9 (rfl), trivial⟩ rl
 refine Qn rfl g12 ?_
 refine Qay (Qu (Qu ?_))
 have hE21 := Qbg hl11 hF9
 refine Qaz (Qe (sr (wm (wa (nt' (Qj ?_))))))
 have he22 := (show Qga x0 x1 = (s6, d7) from Qaq hE21 (rfl))
 refine Qlj rfl rfl (fun W hm => ⟨?_, ?_⟩)
 ·rw [he22]
 rw [he22]; exact hm

def Qzd (k5 : Nat) (s6 : Int) (d7 : (List Qw)) : (Int × (List Qw)) ⊕ (Int × (List Qw)) :=
 Sum.inr ((Qga ((gt d7 k5).Rows) (IntKind.i64.wrap ((IntKind.i64.wrap ((IntKind.i64.wrap (((Qv ((gt d7 k5).Todo) (IntKind.i64.wrap (((Qv ((gt d7 k5).Query.Out) ((Qbh ((gt d7 k5).Query.Conds) (IntKind.i64.wrap ((IntKind.i64.wrap (s6 + 1)) + 1))).1)).1) + 1))).1) + 1)) + 1)) + 1))).1, (d7.set k5 (⟨(⟨s6, (IntKind.i64.wrap (s6 + 1)), (Qbh ((gt d7 k5).Query.Conds) (IntKind.i64.wrap ((IntKind.i64.wrap (s6 + 1)) + 1))).2, (Qv ((gt d7 k5).Query.Out) ((Qbh ((gt d7 k5).Query.Conds) (IntKind.i64.wrap ((IntKind.i64.wrap (s6 + 1)) + 1))).1)).2⟩ : Qar), (Qv ((gt d7 k5).Query.Out) ((Qbh ((gt d7 k5).Query.Conds) (IntKind.i64.wrap ((IntKind.i64.wrap (s6 + 1)) + 1))).1)).1, (Qv ((gt d7 k5).Todo) (IntKind.i64.wrap (((Qv ((gt d7 k5).Query.Out) ((Qbh ((gt d7 k5).Query.Conds) (IntKind.i64.wrap ((IntKind.i64.wrap (s6 + 1)) + 1))).1)).1) + 1))).2, (Qv ((gt d7 k5).Todo) (IntKind.i64.wrap (((Qv ((gt d7 k5).Query.Out) ((Qbh ((gt d7 k5).Query.Conds) (IntKind.i64.wrap ((IntKind.i64.wrap (s6 + 1)) + 1))).1)).1) + 1))).1, (IntKind.i64.wrap (((Qv ((gt d7 k5).Todo) (IntKind.i64.wrap (((Qv ((gt d7 k5).Query.Out) ((Qbh ((gt d7 k5).Query.Conds) (IntKind.i64.wrap ((IntKind.i64.wrap (s6 + 1)) + 1))).1)).1) + 1))).1) + 1)), (IntKind.i64.wrap ((IntKind.i64.wrap (((Qv ((gt d7 k5).Todo) (IntKind.i64.wrap (((Qv ((gt d7 k5).Query.Out) ((Qbh ((gt d7 k5).Query.Conds) (IntKind.i64.wrap ((IntKind.i64.wrap (s6 + 1)) + 1))).1)).1) + 1))).1) + 1)) + 1)), (Qga ((gt d7 k5).Rows) (IntKind.i64.wrap ((IntKind.i64.wrap ((IntKind.i64.wrap (((Qv ((gt d7 k5).Todo) (IntKind.i64.wrap (((Qv ((gt d7 k5).Query.Out) ((Qbh ((gt d7 k5).Query.Conds) (IntKind.i64.wrap ((IntKind.i64.wrap (s6 + 1)) + 1))).1)).1) + 1))).1) + 1)) + 1)) + 1))).2⟩ : Qw)))
def Qfk (x0 : (List Qw)) (x1 : Int) : (Int × (List Qw)) :=
 Sum.elim id (fun (s : Int × (List Qw)) => (s.1, s.2)) (rng (R := (Int × (List Qw))) (fun k (s : Int × (List Qw)) => Qzd k s.1 s.2) (x0.length - 0) 0 (x1, x0))
theorem cb80 : Cb Tryz.prog 80 := ⟨f80, _, func80, rfl, by decide⟩
theorem Qatv (B : Nat) (w0 : World) (is : List It) (w : World) (z0 : Value) (x0 : (List Qw)) (x1 : Int) (hm : Mem B w0 (Qm (tSl Qah 61) [z0] x0 :: is) w) :
  Calls Tryz.prog 80 #[z0, iV x1] w fun e w' => e = .returned (iV (Qfk x0 x1).1) ∧ Mem B w0 (Qm (tSl Qah 61) [z0] (Qfk x0 x1).2 :: is) w' := by
 refine Qhz (L := [(0, z0), (1, iV x1)]) (N := 87) func80 rfl rfl (Nat.le_of_ble_eq_true rfl) (Qeb rfl (Qeb rfl Qgw)) hm ?_
 refine Qdc (n := 0) rfl ?_
 rintro A1 c2 rfl m3
 refine sr (wa (nt' (Qd (sr (wa (nt' (Qx ?_)))))))
 refine Qbf (S := Int × (List Qw)) (R := Unit) (fun k (s : Int × (List Qw)) => Qzd k s.1 s.2) x0.length 0 (x1, x0) () (fun s => [(0, .slice A1 x0.length c2), (1, iV s.2.1.1), (5, nI s.1)]) (fun s => (Qm (tSl Qah 61) [.slice A1 x0.length c2] s.2.1.2 :: is)) (fun s => True) sl3 trivial ?_
 rintro ⟨k5, ⟨s6, d7⟩, ⟨⟩⟩ H10 _ _ e e'
 dsimp only at H10 ⊢
 subst e e'
 obtain ⟨hk8, hF9, _⟩ := H10
 refine Qd (sr (wm (wm ?_)))
 refine wv (Qaf Qaw) ?_
 refine wv Qai ?_
 refine nt' ?_
 rcases dcl k5 x0.length with ⟨hl11, g12⟩ | ⟨hl11, g12⟩
 ·
  refine Ql rfl g12 ?_
  refine Qo (Qe (Qd (Qx (sr ?_))))
  iterate 3 refine wm ?_
  refine Qht (n := 0) rfl (by omega) ?_
  rintro g13 rfl
  refine wv (vix 10 k5 Qaw Qbd) ?_
  refine wv (vf Qaj rfl Qbi) ?_
  refine wv (fun W hm => Qea (o := 0) Qbo rfl Qf (by decide) rfl rfl) ?_
  refine Qjr (E := Qah) (e := 61) (A := (sA g13)) (n := x0.length) (c := c2) (xs := d7) (k := k5) (js := (is)) (by omega) (fun W hm => (hm.front (n := 0) rfl)) (fun ck14 => ?_)
  refine Qod ?_
  rintro ⟨v15, v16, v17, v18⟩ rfl
  refine fm 0 ?_
  rintro A19 c20 rfl m21
  refine fm 1 ?_
  rintro A23 c24 rfl m25
  refine fm 2 ?_
  rintro A27 c28 rfl m29
  refine fm 3 ?_
  rintro A31 c32 rfl m33
  let J9 : List It := iS Qap 70 A31 c32 ((gt d7 k5).Rows) :: is
  let J10 : List It := iS Qa 3 A23 c24 ((gt d7 k5).Query.Out) :: iS Qa 3 A27 c28 ((gt d7 k5).Todo) :: J9
  refine sf 0 10 [iV s6, iV ((gt d7 k5).Query.Tenant), .slice A19 ((gt d7 k5).Query.Conds).length c20, .slice A23 ((gt d7 k5).Query.Out).length c24, iV ((gt d7 k5).Time), .slice A27 ((gt d7 k5).Todo).length c28, iV ((gt d7 k5).Age), iV ((gt d7 k5).Sent), iV ((gt d7 k5).Cap), .slice A31 ((gt d7 k5).Rows).length c32] (iS Qbk 180 A19 c20 ((gt d7 k5).Query.Conds) :: J10) (fun W hm => (hm.front (n := 4) rfl)) Qf ?_
  refine nt' (sr (wm ?_))
  refine wv Qcw ?_
  refine wa (nt' (sr ?_))
  iterate 3 refine wm ?_
  refine wv (vix 10 k5 Qaw Qbd) ?_
  refine wv (vf Qaj rfl Qbi) ?_
  refine wv (fun W hm => Qea (o := 1) Qbo rfl Qf (by decide) rfl rfl) ?_
  let K1 : List Value := [iV s6, iV (IntKind.i64.wrap (s6 + 1)), .slice A19 ((gt d7 k5).Query.Conds).length c20, .slice A23 ((gt d7 k5).Query.Out).length c24, iV ((gt d7 k5).Time), .slice A27 ((gt d7 k5).Todo).length c28, iV ((gt d7 k5).Age), iV ((gt d7 k5).Sent), iV ((gt d7 k5).Cap), .slice A31 ((gt d7 k5).Rows).length c32]
  refine sf 1 10 K1 (iS Qbk 180 A19 c20 ((gt d7 k5).Query.Conds) :: J10) (fun W hm => (hm.front (n := 0) rfl)) Qf ?_
  refine nt' (sr (wm ?_))
  refine wv Qcw ?_
  refine wa (nt' (sr (wm (wm ?_))))
  refine wv (vix 10 k5 Qaw Qbd) ?_
  refine wv (vf Qaj rfl Qbi) ?_
  refine wv (fun W hm => Qea (o := 2) Qbo rfl Qfp (by decide) rfl rfl) ?_
  refine wv (fun W hm => Qau Qcs rfl rfl (hm.focCells (i := 0) rfl rfl 2 _ rfl)) ?_
  refine wm ?_
  let I4 : It := Qdf Qah 61 (sA g13) x0.length c2 d7 k5 K1
  refine cw (Qq Qadf rfl) (fun W hm => Qafr B w0 (I4 :: J10) W (.slice A19 ((gt d7 k5).Query.Conds).length c20) ((gt d7 k5).Query.Conds) (IntKind.i64.wrap ((IntKind.i64.wrap (s6 + 1)) + 1)) (hm.front (n := 1) rfl)) ?_
  refine wa (nt' (sr (wm (wm ?_))))
  refine wv (vix 10 k5 Qaw Qbd) ?_
  refine wv (vf Qaj rfl Qbi) ?_
  refine wv (fun W hm => Qea (o := 3) Qbo rfl Qam (by decide) rfl rfl) ?_
  refine wv (fun W hm => Qau Qp rfl rfl (hm.focCells (i := 1) rfl rfl 3 _ rfl)) ?_
  refine wm ?_
  let I5 : It := Qm (tSl Qbk 180) [.slice A19 ((gt d7 k5).Query.Conds).length c20] ((Qbh ((gt d7 k5).Query.Conds) (IntKind.i64.wrap ((IntKind.i64.wrap (s6 + 1)) + 1))).2)
  refine cw (Qq Qma rfl) (fun W hm => Qmi B w0 (I5 :: I4 :: iS Qa 3 A27 c28 ((gt d7 k5).Todo) :: J9) W (.slice A23 ((gt d7 k5).Query.Out).length c24) ((gt d7 k5).Query.Out) ((Qbh ((gt d7 k5).Query.Conds) (IntKind.i64.wrap ((IntKind.i64.wrap (s6 + 1)) + 1))).1) (hm.front (n := 2) rfl)) ?_
  refine wa (nt' (sr ?_))
  iterate 3 refine wm ?_
  refine wv (vix 10 k5 Qaw Qbd) ?_
  refine wv (vf Qaj rfl Qf) ?_
  let K2 : List Value := [iV s6, iV (IntKind.i64.wrap (s6 + 1)), .slice A19 ((gt d7 k5).Query.Conds).length c20, .slice A23 ((gt d7 k5).Query.Out).length c24, iV ((Qv ((gt d7 k5).Query.Out) ((Qbh ((gt d7 k5).Query.Conds) (IntKind.i64.wrap ((IntKind.i64.wrap (s6 + 1)) + 1))).1)).1), .slice A27 ((gt d7 k5).Todo).length c28, iV ((gt d7 k5).Age), iV ((gt d7 k5).Sent), iV ((gt d7 k5).Cap), .slice A31 ((gt d7 k5).Rows).length c32]
  let I6 : It := Qm (tSl Qa 3) [.slice A23 ((gt d7 k5).Query.Out).length c24] ((Qv ((gt d7 k5).Query.Out) ((Qbh ((gt d7 k5).Query.Conds) (IntKind.i64.wrap ((IntKind.i64.wrap (s6 + 1)) + 1))).1)).2)
  refine sf 4 10 K2 (I6 :: I5 :: iS Qa 3 A27 c28 ((gt d7 k5).Todo) :: J9) (fun W hm => (hm.front (n := 2) rfl)) Qf ?_
  refine nt' (sr (wm ?_))
  refine wv Qcw ?_
  refine wa (nt' (sr (wm (wm ?_))))
  refine wv (vix 10 k5 Qaw Qbd) ?_
  refine wv (vf Qaj rfl Qam) ?_
  refine wv (fun W hm => Qau Qp rfl rfl (hm.focCells (i := 0) rfl rfl 5 _ rfl)) ?_
  refine wm ?_
  refine cw (Qq Qma rfl) (fun W hm => Qmi B w0 (Qdf Qah 61 (sA g13) x0.length c2 d7 k5 K2 :: I6 :: I5 :: J9) W (.slice A27 ((gt d7 k5).Todo).length c28) ((gt d7 k5).Todo) (IntKind.i64.wrap (((Qv ((gt d7 k5).Query.Out) ((Qbh ((gt d7 k5).Query.Conds) (IntKind.i64.wrap ((IntKind.i64.wrap (s6 + 1)) + 1))).1)).1) + 1)) (hm.front (n := 3) rfl)) ?_
  refine wa (nt' (sr ?_))
  iterate 3 refine wm ?_
  refine wv (vix 10 k5 Qaw Qbd) ?_
  refine wv (vf Qaj rfl Qf) ?_
  let I7 : It := Qm (tSl Qa 3) [.slice A27 ((gt d7 k5).Todo).length c28] ((Qv ((gt d7 k5).Todo) (IntKind.i64.wrap (((Qv ((gt d7 k5).Query.Out) ((Qbh ((gt d7 k5).Query.Conds) (IntKind.i64.wrap ((IntKind.i64.wrap (s6 + 1)) + 1))).1)).1) + 1))).2)
  refine sf 6 10 [iV s6, iV (IntKind.i64.wrap (s6 + 1)), .slice A19 ((gt d7 k5).Query.Conds).length c20, .slice A23 ((gt d7 k5).Query.Out).length c24, iV ((Qv ((gt d7 k5).Query.Out) ((Qbh ((gt d7 k5).Query.Conds) (IntKind.i64.wrap ((IntKind.i64.wrap (s6 + 1)) + 1))).1)).1), .slice A27 ((gt d7 k5).Todo).length c28, iV ((Qv ((gt d7 k5).Todo) (IntKind.i64.wrap (((Qv ((gt d7 k5).Query.Out) ((Qbh ((gt d7 k5).Query.Conds) (IntKind.i64.wrap ((IntKind.i64.wrap (s6 + 1)) + 1))).1)).1) + 1))).1), iV ((gt d7 k5).Sent), iV ((gt d7 k5).Cap), .slice A31 ((gt d7 k5).Rows).length c32] (I7 :: I6 :: I5 :: J9) (fun W hm => (hm.front (n := 1) rfl)) Qf ?_
  refine nt' (sr (wm ?_))
  refine wv Qcw ?_
  refine wa (nt' (sr ?_))
  iterate 3 refine wm ?_
  refine wv (vix 10 k5 Qaw Qbd) ?_
  refine wv (vf Qaj rfl Qf) ?_
  refine sf 7 10 [iV s6, iV (IntKind.i64.wrap (s6 + 1)), .slice A19 ((gt d7 k5).Query.Conds).length c20, .slice A23 ((gt d7 k5).Query.Out).length c24, iV ((Qv ((gt d7 k5).Query.Out) ((Qbh ((gt d7 k5).Query.Conds) (IntKind.i64.wrap ((IntKind.i64.wrap (s6 + 1)) + 1))).1)).1), .slice A27 ((gt d7 k5).Todo).length c28, iV ((Qv ((gt d7 k5).Todo) (IntKind.i64.wrap (((Qv ((gt d7 k5).Query.Out) ((Qbh ((gt d7 k5).Query.Conds) (IntKind.i64.wrap ((IntKind.i64.wrap (s6 + 1)) + 1))).1)).1) + 1))).1), iV (IntKind.i64.wrap (((Qv ((gt d7 k5).Todo) (IntKind.i64.wrap (((Qv ((gt d7 k5).Query.Out) ((Qbh ((gt d7 k5).Query.Conds) (IntKind.i64.wrap ((IntKind.i64.wrap (s6 + 1)) + 1))).1)).1) + 1))).1) + 1)), iV ((gt d7 k5).Cap), .slice A31 ((gt d7 k5).Rows).length c32] (I7 :: I6 :: I5 :: J9) (fun W hm => (hm.front (n := 0) rfl)) Qf ?_
  refine nt' (sr (wm ?_))
  refine wv Qcw ?_
  refine wa (nt' (sr ?_))
  iterate 3 refine wm ?_
  refine wv (vix 10 k5 Qaw Qbd) ?_
  refine wv (vf Qaj rfl Qf) ?_
  let K3 : List Value := [iV s6, iV (IntKind.i64.wrap (s6 + 1)), .slice A19 ((gt d7 k5).Query.Conds).length c20, .slice A23 ((gt d7 k5).Query.Out).length c24, iV ((Qv ((gt d7 k5).Query.Out) ((Qbh ((gt d7 k5).Query.Conds) (IntKind.i64.wrap ((IntKind.i64.wrap (s6 + 1)) + 1))).1)).1), .slice A27 ((gt d7 k5).Todo).length c28, iV ((Qv ((gt d7 k5).Todo) (IntKind.i64.wrap (((Qv ((gt d7 k5).Query.Out) ((Qbh ((gt d7 k5).Query.Conds) (IntKind.i64.wrap ((IntKind.i64.wrap (s6 + 1)) + 1))).1)).1) + 1))).1), iV (IntKind.i64.wrap (((Qv ((gt d7 k5).Todo) (IntKind.i64.wrap (((Qv ((gt d7 k5).Query.Out) ((Qbh ((gt d7 k5).Query.Conds) (IntKind.i64.wrap ((IntKind.i64.wrap (s6 + 1)) + 1))).1)).1) + 1))).1) + 1)), iV (IntKind.i64.wrap ((IntKind.i64.wrap (((Qv ((gt d7 k5).Todo) (IntKind.i64.wrap (((Qv ((gt d7 k5).Query.Out) ((Qbh ((gt d7 k5).Query.Conds) (IntKind.i64.wrap ((IntKind.i64.wrap (s6 + 1)) + 1))).1)).1) + 1))).1) + 1)) + 1)), .slice A31 ((gt d7 k5).Rows).length c32]
  refine sf 8 10 K3 (I7 :: I6 :: I5 :: J9) (fun W hm => (hm.front (n := 0) rfl)) Qf ?_
  refine nt' (sr (wm ?_))
  refine wv Qcw ?_
  refine wa (nt' (Qy (wm (wm ?_))))
  refine wv (vix 10 k5 Qaw Qbd) ?_
  refine wv (vf Qaj rfl Qdt) ?_
  refine wv (fun W hm => Qau Qci rfl rfl (hm.focCells (i := 0) rfl rfl 9 _ rfl)) ?_
  refine wm ?_
  let I8 : It := Qdf Qah 61 (sA g13) x0.length c2 d7 k5 K3
  refine cw (Qq Qadg rfl) (fun W hm => Qafv B w0 (I8 :: I7 :: I6 :: I5 :: is) W (.slice A31 ((gt d7 k5).Rows).length c32) ((gt d7 k5).Rows) (IntKind.i64.wrap ((IntKind.i64.wrap ((IntKind.i64.wrap (((Qv ((gt d7 k5).Todo) (IntKind.i64.wrap (((Qv ((gt d7 k5).Query.Out) ((Qbh ((gt d7 k5).Query.Conds) (IntKind.i64.wrap ((IntKind.i64.wrap (s6 + 1)) + 1))).1)).1) + 1))).1) + 1)) + 1)) + 1)) (hm.front (n := 4) rfl)) ?_
  refine wa (Qad (Qan (Qe (Qy (wm ?_)))))
  refine wv (Qal k5 1 (by omega)) ?_
  refine wa (Qad ?_)
  refine Qdd (fun W hm => Mem.unfocus (Mem.join (is := [I5, I6, I7, Qm (tSl Qap 70) [.slice A31 ((gt d7 k5).Rows).length c32] ((Qga ((gt d7 k5).Rows) (IntKind.i64.wrap ((IntKind.i64.wrap ((IntKind.i64.wrap (((Qv ((gt d7 k5).Todo) (IntKind.i64.wrap (((Qv ((gt d7 k5).Query.Out) ((Qbh ((gt d7 k5).Query.Conds) (IntKind.i64.wrap ((IntKind.i64.wrap (s6 + 1)) + 1))).1)).1) + 1))).1) + 1)) + 1)) + 1))).2)]) (js := (I8 :: (is))) (fun _ _ hs => Qhl (x := (⟨(⟨s6, (IntKind.i64.wrap (s6 + 1)), (Qbh ((gt d7 k5).Query.Conds) (IntKind.i64.wrap ((IntKind.i64.wrap (s6 + 1)) + 1))).2, (Qv ((gt d7 k5).Query.Out) ((Qbh ((gt d7 k5).Query.Conds) (IntKind.i64.wrap ((IntKind.i64.wrap (s6 + 1)) + 1))).1)).2⟩ : Qar), (Qv ((gt d7 k5).Query.Out) ((Qbh ((gt d7 k5).Query.Conds) (IntKind.i64.wrap ((IntKind.i64.wrap (s6 + 1)) + 1))).1)).1, (Qv ((gt d7 k5).Todo) (IntKind.i64.wrap (((Qv ((gt d7 k5).Query.Out) ((Qbh ((gt d7 k5).Query.Conds) (IntKind.i64.wrap ((IntKind.i64.wrap (s6 + 1)) + 1))).1)).1) + 1))).2, (Qv ((gt d7 k5).Todo) (IntKind.i64.wrap (((Qv ((gt d7 k5).Query.Out) ((Qbh ((gt d7 k5).Query.Conds) (IntKind.i64.wrap ((IntKind.i64.wrap (s6 + 1)) + 1))).1)).1) + 1))).1, (IntKind.i64.wrap (((Qv ((gt d7 k5).Todo) (IntKind.i64.wrap (((Qv ((gt d7 k5).Query.Out) ((Qbh ((gt d7 k5).Query.Conds) (IntKind.i64.wrap ((IntKind.i64.wrap (s6 + 1)) + 1))).1)).1) + 1))).1) + 1)), (IntKind.i64.wrap ((IntKind.i64.wrap (((Qv ((gt d7 k5).Todo) (IntKind.i64.wrap (((Qv ((gt d7 k5).Query.Out) ((Qbh ((gt d7 k5).Query.Conds) (IntKind.i64.wrap ((IntKind.i64.wrap (s6 + 1)) + 1))).1)).1) + 1))).1) + 1)) + 1)), (Qga ((gt d7 k5).Rows) (IntKind.i64.wrap ((IntKind.i64.wrap ((IntKind.i64.wrap (((Qv ((gt d7 k5).Todo) (IntKind.i64.wrap (((Qv ((gt d7 k5).Query.Out) ((Qbh ((gt d7 k5).Query.Conds) (IntKind.i64.wrap ((IntKind.i64.wrap (s6 + 1)) + 1))).1)).1) + 1))).1) + 1)) + 1)) + 1))).2⟩ : Qw)) hs) (((((hm.front (n := 1) rfl).front (n := 1) rfl).front (n := 2) rfl).front (n := 3) rfl).front (n := 4) rfl))) ?_
  exact Qao (k5 + 1, ((Qga ((gt d7 k5).Rows) (IntKind.i64.wrap ((IntKind.i64.wrap ((IntKind.i64.wrap (((Qv ((gt d7 k5).Todo) (IntKind.i64.wrap (((Qv ((gt d7 k5).Query.Out) ((Qbh ((gt d7 k5).Query.Conds) (IntKind.i64.wrap ((IntKind.i64.wrap (s6 + 1)) + 1))).1)).1) + 1))).1) + 1)) + 1)) + 1))).1, (d7.set k5 (⟨(⟨s6, (IntKind.i64.wrap (s6 + 1)), (Qbh ((gt d7 k5).Query.Conds) (IntKind.i64.wrap ((IntKind.i64.wrap (s6 + 1)) + 1))).2, (Qv ((gt d7 k5).Query.Out) ((Qbh ((gt d7 k5).Query.Conds) (IntKind.i64.wrap ((IntKind.i64.wrap (s6 + 1)) + 1))).1)).2⟩ : Qar), (Qv ((gt d7 k5).Query.Out) ((Qbh ((gt d7 k5).Query.Conds) (IntKind.i64.wrap ((IntKind.i64.wrap (s6 + 1)) + 1))).1)).1, (Qv ((gt d7 k5).Todo) (IntKind.i64.wrap (((Qv ((gt d7 k5).Query.Out) ((Qbh ((gt d7 k5).Query.Conds) (IntKind.i64.wrap ((IntKind.i64.wrap (s6 + 1)) + 1))).1)).1) + 1))).2, (Qv ((gt d7 k5).Todo) (IntKind.i64.wrap (((Qv ((gt d7 k5).Query.Out) ((Qbh ((gt d7 k5).Query.Conds) (IntKind.i64.wrap ((IntKind.i64.wrap (s6 + 1)) + 1))).1)).1) + 1))).1, (IntKind.i64.wrap (((Qv ((gt d7 k5).Todo) (IntKind.i64.wrap (((Qv ((gt d7 k5).Query.Out) ((Qbh ((gt d7 k5).Query.Conds) (IntKind.i64.wrap ((IntKind.i64.wrap (s6 + 1)) + 1))).1)).1) + 1))).1) + 1)), (IntKind.i64.wrap ((IntKind.i64.wrap (((Qv ((gt d7 k5).Todo) (IntKind.i64.wrap (((Qv ((gt d7 k5).Query.Out) ((Qbh ((gt d7 k5).Query.Conds) (IntKind.i64.wrap ((IntKind.i64.wrap (s6 + 1)) + 1))).1)).1) + 1))).1) + 1)) + 1)), (Qga ((gt d7 k5).Rows) (IntKind.i64.wrap ((IntKind.i64.wrap ((IntKind.i64.wrap (((Qv ((gt d7 k5).Todo) (IntKind.i64.wrap (((Qv ((gt d7 k5).Query.Out) ((Qbh ((gt d7 k5).Query.Conds) (IntKind.i64.wrap ((IntKind.i64.wrap (s6 + 1)) + 1))).1)).1) + 1))).1) + 1)) + 1)) + 1))).2⟩ : Qw))), ()) sl3 idM ⟨(by omega), nx hF9 (rfl), trivial⟩ rl
 refine Qn rfl g12 ?_
 refine Qay (Qu (Qu ?_))
 have hE36 := Qbg hl11 hF9
 refine Qaz (Qe (sr (wm (wa (nt' (Qj ?_))))))
 have he37 := (show Qfk x0 x1 = (s6, d7) from Qaq hE36 (rfl))
 refine Qlj rfl rfl (fun W hm => ⟨?_, ?_⟩)
 ·rw [he37]
 rw [he37]; exact hm

def Qzg (k5 : Nat) (s6 : Int) (d7 : (List Qat)) : (Int × (List Qat)) ⊕ (Int × (List Qat)) :=
 Sum.inr ((Qga ((gt d7 k5).Rows) (IntKind.i64.wrap ((IntKind.i64.wrap (((Qv ((gt d7 k5).Query.Out) ((Qbh ((gt d7 k5).Query.Conds) (IntKind.i64.wrap ((IntKind.i64.wrap (s6 + 1)) + 1))).1)).1) + 1)) + 1))).1, (d7.set k5 (⟨(⟨s6, (IntKind.i64.wrap (s6 + 1)), (Qbh ((gt d7 k5).Query.Conds) (IntKind.i64.wrap ((IntKind.i64.wrap (s6 + 1)) + 1))).2, (Qv ((gt d7 k5).Query.Out) ((Qbh ((gt d7 k5).Query.Conds) (IntKind.i64.wrap ((IntKind.i64.wrap (s6 + 1)) + 1))).1)).2⟩ : Qar), (Qv ((gt d7 k5).Query.Out) ((Qbh ((gt d7 k5).Query.Conds) (IntKind.i64.wrap ((IntKind.i64.wrap (s6 + 1)) + 1))).1)).1, (IntKind.i64.wrap (((Qv ((gt d7 k5).Query.Out) ((Qbh ((gt d7 k5).Query.Conds) (IntKind.i64.wrap ((IntKind.i64.wrap (s6 + 1)) + 1))).1)).1) + 1)), (Qga ((gt d7 k5).Rows) (IntKind.i64.wrap ((IntKind.i64.wrap (((Qv ((gt d7 k5).Query.Out) ((Qbh ((gt d7 k5).Query.Conds) (IntKind.i64.wrap ((IntKind.i64.wrap (s6 + 1)) + 1))).1)).1) + 1)) + 1))).2⟩ : Qat)))
def Qhf (x0 : (List Qat)) (x1 : Int) : (Int × (List Qat)) :=
 Sum.elim id (fun (s : Int × (List Qat)) => (s.1, s.2)) (rng (R := (Int × (List Qat))) (fun k (s : Int × (List Qat)) => Qzg k s.1 s.2) (x0.length - 0) 0 (x1, x0))
theorem cb81 : Cb Tryz.prog 81 := ⟨f81, _, func81, rfl, by decide⟩
theorem Qauc (B : Nat) (w0 : World) (is : List It) (w : World) (z0 : Value) (x0 : (List Qat)) (x1 : Int) (hm : Mem B w0 (Qm (tSl Qax 80) [z0] x0 :: is) w) :
  Calls Tryz.prog 81 #[z0, iV x1] w fun e w' => e = .returned (iV (Qhf x0 x1).1) ∧ Mem B w0 (Qm (tSl Qax 80) [z0] (Qhf x0 x1).2 :: is) w' := by
 refine Qhz (L := [(0, z0), (1, iV x1)]) (N := 66) func81 rfl rfl (Nat.le_of_ble_eq_true rfl) (Qeb rfl (Qeb rfl Qgw)) hm ?_
 refine Qdc (n := 0) rfl ?_
 rintro A1 c2 rfl m3
 refine sr (wa (nt' (Qd (sr (wa (nt' (Qx ?_)))))))
 refine Qbf (S := Int × (List Qat)) (R := Unit) (fun k (s : Int × (List Qat)) => Qzg k s.1 s.2) x0.length 0 (x1, x0) () (fun s => [(0, .slice A1 x0.length c2), (1, iV s.2.1.1), (5, nI s.1)]) (fun s => (Qm (tSl Qax 80) [.slice A1 x0.length c2] s.2.1.2 :: is)) (fun s => True) sl3 trivial ?_
 rintro ⟨k5, ⟨s6, d7⟩, ⟨⟩⟩ H10 _ _ e e'
 dsimp only at H10 ⊢
 subst e e'
 obtain ⟨hk8, hF9, _⟩ := H10
 refine Qd (sr (wm (wm ?_)))
 refine wv (Qaf Qch) ?_
 refine wv Qai ?_
 refine nt' ?_
 rcases dcl k5 x0.length with ⟨hl11, g12⟩ | ⟨hl11, g12⟩
 ·
  refine Ql rfl g12 ?_
  refine Qo (Qe (Qd (Qx (sr ?_))))
  iterate 3 refine wm ?_
  refine Qht (n := 0) rfl (by omega) ?_
  rintro g13 rfl
  refine wv (vix 7 k5 Qch Qcq) ?_
  refine wv (vf Qda rfl Qbi) ?_
  refine wv (fun W hm => Qea (o := 0) Qbo rfl Qf (by decide) rfl rfl) ?_
  refine Qjr (E := Qax) (e := 80) (A := (sA g13)) (n := x0.length) (c := c2) (xs := d7) (k := k5) (js := (is)) (by omega) (fun W hm => (hm.front (n := 0) rfl)) (fun ck14 => ?_)
  refine Qabj ?_
  rintro ⟨v15, v16, v17⟩ rfl
  refine fm 0 ?_
  rintro A18 c19 rfl m20
  refine fm 1 ?_
  rintro A22 c23 rfl m24
  refine fm 2 ?_
  rintro A26 c27 rfl m28
  let J7 : List It := iS Qap 70 A26 c27 ((gt d7 k5).Rows) :: is
  let J8 : List It := iS Qbk 180 A18 c19 ((gt d7 k5).Query.Conds) :: iS Qa 3 A22 c23 ((gt d7 k5).Query.Out) :: J7
  refine sf 0 7 [iV s6, iV ((gt d7 k5).Query.Tenant), .slice A18 ((gt d7 k5).Query.Conds).length c19, .slice A22 ((gt d7 k5).Query.Out).length c23, iV ((gt d7 k5).Time), iV ((gt d7 k5).Steps), .slice A26 ((gt d7 k5).Rows).length c27] J8 (fun W hm => (hm.front (n := 3) rfl)) Qf ?_
  refine nt' (sr (wm ?_))
  refine wv Qcw ?_
  refine wa (nt' (sr ?_))
  iterate 3 refine wm ?_
  refine wv (vix 7 k5 Qch Qcq) ?_
  refine wv (vf Qda rfl Qbi) ?_
  refine wv (fun W hm => Qea (o := 1) Qbo rfl Qf (by decide) rfl rfl) ?_
  let K1 : List Value := [iV s6, iV (IntKind.i64.wrap (s6 + 1)), .slice A18 ((gt d7 k5).Query.Conds).length c19, .slice A22 ((gt d7 k5).Query.Out).length c23, iV ((gt d7 k5).Time), iV ((gt d7 k5).Steps), .slice A26 ((gt d7 k5).Rows).length c27]
  refine sf 1 7 K1 J8 (fun W hm => (hm.front (n := 0) rfl)) Qf ?_
  refine nt' (sr (wm ?_))
  refine wv Qcw ?_
  refine wa (nt' (sr (wm (wm ?_))))
  refine wv (vix 7 k5 Qch Qcq) ?_
  refine wv (vf Qda rfl Qbi) ?_
  refine wv (fun W hm => Qea (o := 2) Qbo rfl Qfp (by decide) rfl rfl) ?_
  refine wv (fun W hm => Qau Qcs rfl rfl (hm.focCells (i := 0) rfl rfl 2 _ rfl)) ?_
  refine wm ?_
  let I3 : It := Qdf Qax 80 (sA g13) x0.length c2 d7 k5 K1
  refine cw (Qq Qadf rfl) (fun W hm => Qafr B w0 (I3 :: iS Qa 3 A22 c23 ((gt d7 k5).Query.Out) :: J7) W (.slice A18 ((gt d7 k5).Query.Conds).length c19) ((gt d7 k5).Query.Conds) (IntKind.i64.wrap ((IntKind.i64.wrap (s6 + 1)) + 1)) (hm.front (n := 1) rfl)) ?_
  refine wa (nt' (sr (wm (wm ?_))))
  refine wv (vix 7 k5 Qch Qcq) ?_
  refine wv (vf Qda rfl Qbi) ?_
  refine wv (fun W hm => Qea (o := 3) Qbo rfl Qam (by decide) rfl rfl) ?_
  refine wv (fun W hm => Qau Qp rfl rfl (hm.focCells (i := 1) rfl rfl 3 _ rfl)) ?_
  refine wm ?_
  let I4 : It := Qm (tSl Qbk 180) [.slice A18 ((gt d7 k5).Query.Conds).length c19] ((Qbh ((gt d7 k5).Query.Conds) (IntKind.i64.wrap ((IntKind.i64.wrap (s6 + 1)) + 1))).2)
  refine cw (Qq Qma rfl) (fun W hm => Qmi B w0 (I4 :: I3 :: J7) W (.slice A22 ((gt d7 k5).Query.Out).length c23) ((gt d7 k5).Query.Out) ((Qbh ((gt d7 k5).Query.Conds) (IntKind.i64.wrap ((IntKind.i64.wrap (s6 + 1)) + 1))).1) (hm.front (n := 2) rfl)) ?_
  refine wa (nt' (sr ?_))
  iterate 3 refine wm ?_
  refine wv (vix 7 k5 Qch Qcq) ?_
  refine wv (vf Qda rfl Qf) ?_
  let I5 : It := Qm (tSl Qa 3) [.slice A22 ((gt d7 k5).Query.Out).length c23] ((Qv ((gt d7 k5).Query.Out) ((Qbh ((gt d7 k5).Query.Conds) (IntKind.i64.wrap ((IntKind.i64.wrap (s6 + 1)) + 1))).1)).2)
  refine sf 4 7 [iV s6, iV (IntKind.i64.wrap (s6 + 1)), .slice A18 ((gt d7 k5).Query.Conds).length c19, .slice A22 ((gt d7 k5).Query.Out).length c23, iV ((Qv ((gt d7 k5).Query.Out) ((Qbh ((gt d7 k5).Query.Conds) (IntKind.i64.wrap ((IntKind.i64.wrap (s6 + 1)) + 1))).1)).1), iV ((gt d7 k5).Steps), .slice A26 ((gt d7 k5).Rows).length c27] (I5 :: I4 :: J7) (fun W hm => (hm.front (n := 2) rfl)) Qf ?_
  refine nt' (sr (wm ?_))
  refine wv Qcw ?_
  refine wa (nt' (sr ?_))
  iterate 3 refine wm ?_
  refine wv (vix 7 k5 Qch Qcq) ?_
  refine wv (vf Qda rfl Qf) ?_
  let K2 : List Value := [iV s6, iV (IntKind.i64.wrap (s6 + 1)), .slice A18 ((gt d7 k5).Query.Conds).length c19, .slice A22 ((gt d7 k5).Query.Out).length c23, iV ((Qv ((gt d7 k5).Query.Out) ((Qbh ((gt d7 k5).Query.Conds) (IntKind.i64.wrap ((IntKind.i64.wrap (s6 + 1)) + 1))).1)).1), iV (IntKind.i64.wrap (((Qv ((gt d7 k5).Query.Out) ((Qbh ((gt d7 k5).Query.Conds) (IntKind.i64.wrap ((IntKind.i64.wrap (s6 + 1)) + 1))).1)).1) + 1)), .slice A26 ((gt d7 k5).Rows).length c27]
  refine sf 5 7 K2 (I5 :: I4 :: J7) (fun W hm => (hm.front (n := 0) rfl)) Qf ?_
  refine nt' (sr (wm ?_))
  refine wv Qcw ?_
  refine wa (nt' (Qy (wm (wm ?_))))
  refine wv (vix 7 k5 Qch Qcq) ?_
  refine wv (vf Qda rfl Qdt) ?_
  refine wv (fun W hm => Qau Qci rfl rfl (hm.focCells (i := 0) rfl rfl 6 _ rfl)) ?_
  refine wm ?_
  let I6 : It := Qdf Qax 80 (sA g13) x0.length c2 d7 k5 K2
  refine cw (Qq Qadg rfl) (fun W hm => Qafv B w0 (I6 :: I5 :: I4 :: is) W (.slice A26 ((gt d7 k5).Rows).length c27) ((gt d7 k5).Rows) (IntKind.i64.wrap ((IntKind.i64.wrap (((Qv ((gt d7 k5).Query.Out) ((Qbh ((gt d7 k5).Query.Conds) (IntKind.i64.wrap ((IntKind.i64.wrap (s6 + 1)) + 1))).1)).1) + 1)) + 1)) (hm.front (n := 3) rfl)) ?_
  refine wa (Qad (Qan (Qe (Qy (wm ?_)))))
  refine wv (Qal k5 1 (by omega)) ?_
  refine wa (Qad ?_)
  refine Qdd (fun W hm => Mem.unfocus (Mem.join (is := [I4, I5, Qm (tSl Qap 70) [.slice A26 ((gt d7 k5).Rows).length c27] ((Qga ((gt d7 k5).Rows) (IntKind.i64.wrap ((IntKind.i64.wrap (((Qv ((gt d7 k5).Query.Out) ((Qbh ((gt d7 k5).Query.Conds) (IntKind.i64.wrap ((IntKind.i64.wrap (s6 + 1)) + 1))).1)).1) + 1)) + 1))).2)]) (js := (I6 :: (is))) (fun _ _ hs => Qlt (x := (⟨(⟨s6, (IntKind.i64.wrap (s6 + 1)), (Qbh ((gt d7 k5).Query.Conds) (IntKind.i64.wrap ((IntKind.i64.wrap (s6 + 1)) + 1))).2, (Qv ((gt d7 k5).Query.Out) ((Qbh ((gt d7 k5).Query.Conds) (IntKind.i64.wrap ((IntKind.i64.wrap (s6 + 1)) + 1))).1)).2⟩ : Qar), (Qv ((gt d7 k5).Query.Out) ((Qbh ((gt d7 k5).Query.Conds) (IntKind.i64.wrap ((IntKind.i64.wrap (s6 + 1)) + 1))).1)).1, (IntKind.i64.wrap (((Qv ((gt d7 k5).Query.Out) ((Qbh ((gt d7 k5).Query.Conds) (IntKind.i64.wrap ((IntKind.i64.wrap (s6 + 1)) + 1))).1)).1) + 1)), (Qga ((gt d7 k5).Rows) (IntKind.i64.wrap ((IntKind.i64.wrap (((Qv ((gt d7 k5).Query.Out) ((Qbh ((gt d7 k5).Query.Conds) (IntKind.i64.wrap ((IntKind.i64.wrap (s6 + 1)) + 1))).1)).1) + 1)) + 1))).2⟩ : Qat)) hs) ((((hm.front (n := 1) rfl).front (n := 1) rfl).front (n := 2) rfl).front (n := 3) rfl))) ?_
  exact Qao (k5 + 1, ((Qga ((gt d7 k5).Rows) (IntKind.i64.wrap ((IntKind.i64.wrap (((Qv ((gt d7 k5).Query.Out) ((Qbh ((gt d7 k5).Query.Conds) (IntKind.i64.wrap ((IntKind.i64.wrap (s6 + 1)) + 1))).1)).1) + 1)) + 1))).1, (d7.set k5 (⟨(⟨s6, (IntKind.i64.wrap (s6 + 1)), (Qbh ((gt d7 k5).Query.Conds) (IntKind.i64.wrap ((IntKind.i64.wrap (s6 + 1)) + 1))).2, (Qv ((gt d7 k5).Query.Out) ((Qbh ((gt d7 k5).Query.Conds) (IntKind.i64.wrap ((IntKind.i64.wrap (s6 + 1)) + 1))).1)).2⟩ : Qar), (Qv ((gt d7 k5).Query.Out) ((Qbh ((gt d7 k5).Query.Conds) (IntKind.i64.wrap ((IntKind.i64.wrap (s6 + 1)) + 1))).1)).1, (IntKind.i64.wrap (((Qv ((gt d7 k5).Query.Out) ((Qbh ((gt d7 k5).Query.Conds) (IntKind.i64.wrap ((IntKind.i64.wrap (s6 + 1)) + 1))).1)).1) + 1)), (Qga ((gt d7 k5).Rows) (IntKind.i64.wrap ((IntKind.i64.wrap (((Qv ((gt d7 k5).Query.Out) ((Qbh ((gt d7 k5).Query.Conds) (IntKind.i64.wrap ((IntKind.i64.wrap (s6 + 1)) + 1))).1)).1) + 1)) + 1))).2⟩ : Qat))), ()) sl3 idM ⟨(by omega), nx hF9 (rfl), trivial⟩ rl
 refine Qn rfl g12 ?_
 refine Qay (Qu (Qu ?_))
 have hE31 := Qbg hl11 hF9
 refine Qaz (Qe (sr (wm (wa (nt' (Qj ?_))))))
 have he32 := (show Qhf x0 x1 = (s6, d7) from Qaq hE31 (rfl))
 refine Qlj rfl rfl (fun W hm => ⟨?_, ?_⟩)
 ·rw [he32]
 rw [he32]; exact hm

def Qze (k5 : Nat) (s6 : Int) (d7 : (List Qbb)) : (Int × (List Qbb)) ⊕ (Int × (List Qbb)) :=
 Sum.inr ((Qv ((gt d7 k5).Rows) ((Qv ((gt d7 k5).Tenants) ((Qv ((gt d7 k5).Ids) (IntKind.i64.wrap ((IntKind.i64.wrap (s6 + 1)) + 1))).1)).1)).1, (d7.set k5 (⟨s6, (IntKind.i64.wrap (s6 + 1)), (Qv ((gt d7 k5).Ids) (IntKind.i64.wrap ((IntKind.i64.wrap (s6 + 1)) + 1))).2, (Qv ((gt d7 k5).Tenants) ((Qv ((gt d7 k5).Ids) (IntKind.i64.wrap ((IntKind.i64.wrap (s6 + 1)) + 1))).1)).2, (Qv ((gt d7 k5).Rows) ((Qv ((gt d7 k5).Tenants) ((Qv ((gt d7 k5).Ids) (IntKind.i64.wrap ((IntKind.i64.wrap (s6 + 1)) + 1))).1)).1)).2⟩ : Qbb)))
def Qkp (x0 : (List Qbb)) (x1 : Int) : (Int × (List Qbb)) :=
 Sum.elim id (fun (s : Int × (List Qbb)) => (s.1, s.2)) (rng (R := (Int × (List Qbb))) (fun k (s : Int × (List Qbb)) => Qze k s.1 s.2) (x0.length - 0) 0 (x1, x0))
theorem cb82 : Cb Tryz.prog 82 := ⟨f82, _, func82, rfl, by decide⟩
theorem Qaty (B : Nat) (w0 : World) (is : List It) (w : World) (z0 : Value) (x0 : (List Qbb)) (x1 : Int) (hm : Mem B w0 (Qm (tSl Qav 102) [z0] x0 :: is) w) :
  Calls Tryz.prog 82 #[z0, iV x1] w fun e w' => e = .returned (iV (Qkp x0 x1).1) ∧ Mem B w0 (Qm (tSl Qav 102) [z0] (Qkp x0 x1).2 :: is) w' := by
 refine Qhz (L := [(0, z0), (1, iV x1)]) (N := 48) func82 rfl rfl (Nat.le_of_ble_eq_true rfl) (Qeb rfl (Qeb rfl Qgw)) hm ?_
 refine Qdc (n := 0) rfl ?_
 rintro A1 c2 rfl m3
 refine sr (wa (nt' (Qd (sr (wa (nt' (Qx ?_)))))))
 refine Qbf (S := Int × (List Qbb)) (R := Unit) (fun k (s : Int × (List Qbb)) => Qze k s.1 s.2) x0.length 0 (x1, x0) () (fun s => [(0, .slice A1 x0.length c2), (1, iV s.2.1.1), (5, nI s.1)]) (fun s => (Qm (tSl Qav 102) [.slice A1 x0.length c2] s.2.1.2 :: is)) (fun s => True) sl3 trivial ?_
 rintro ⟨k5, ⟨s6, d7⟩, ⟨⟩⟩ H10 _ _ e e'
 dsimp only at H10 ⊢
 subst e e'
 obtain ⟨hk8, hF9, _⟩ := H10
 refine Qd (sr (wm (wm ?_)))
 refine wv (Qaf Qcv) ?_
 refine wv Qai ?_
 refine nt' ?_
 rcases dcl k5 x0.length with ⟨hl11, g12⟩ | ⟨hl11, g12⟩
 ·
  refine Ql rfl g12 ?_
  refine Qo (Qe (Qd (Qx (sr ?_))))
  iterate 3 refine wm ?_
  refine Qht (n := 0) rfl (by omega) ?_
  rintro g13 rfl
  refine wv (vix 5 k5 Qcv Qcr) ?_
  refine wv (vf Qbz rfl Qf) ?_
  refine Qjr (E := Qav) (e := 102) (A := (sA g13)) (n := x0.length) (c := c2) (xs := d7) (k := k5) (js := (is)) (by omega) (fun W hm => (hm.front (n := 0) rfl)) (fun ck14 => ?_)
  refine Qvt ?_
  rintro ⟨v15, v16, v17⟩ rfl
  refine fm 0 ?_
  rintro A18 c19 rfl m20
  refine fm 1 ?_
  rintro A22 c23 rfl m24
  refine fm 2 ?_
  rintro A26 c27 rfl m28
  let J5 : List It := iS Qa 3 A22 c23 ((gt d7 k5).Tenants) :: iS Qa 3 A26 c27 ((gt d7 k5).Rows) :: is
  refine sf 0 5 [iV s6, iV ((gt d7 k5).Base), .slice A18 ((gt d7 k5).Ids).length c19, .slice A22 ((gt d7 k5).Tenants).length c23, .slice A26 ((gt d7 k5).Rows).length c27] (iS Qa 3 A18 c19 ((gt d7 k5).Ids) :: J5) (fun W hm => (hm.front (n := 3) rfl)) Qf ?_
  refine nt' (sr (wm ?_))
  refine wv Qcw ?_
  refine wa (nt' (sr ?_))
  iterate 3 refine wm ?_
  refine wv (vix 5 k5 Qcv Qcr) ?_
  refine wv (vf Qbz rfl Qf) ?_
  let K1 : List Value := [iV s6, iV (IntKind.i64.wrap (s6 + 1)), .slice A18 ((gt d7 k5).Ids).length c19, .slice A22 ((gt d7 k5).Tenants).length c23, .slice A26 ((gt d7 k5).Rows).length c27]
  refine sf 1 5 K1 (iS Qa 3 A18 c19 ((gt d7 k5).Ids) :: J5) (fun W hm => (hm.front (n := 0) rfl)) Qf ?_
  refine nt' (sr (wm ?_))
  refine wv Qcw ?_
  refine wa (nt' (sr (wm (wm ?_))))
  refine wv (vix 5 k5 Qcv Qcr) ?_
  refine wv (vf Qbz rfl Qam) ?_
  refine wv (fun W hm => Qau Qp rfl rfl (hm.focCells (i := 0) rfl rfl 2 _ rfl)) ?_
  refine wm ?_
  let I2 : It := Qdf Qav 102 (sA g13) x0.length c2 d7 k5 K1
  refine cw (Qq Qma rfl) (fun W hm => Qmi B w0 (I2 :: J5) W (.slice A18 ((gt d7 k5).Ids).length c19) ((gt d7 k5).Ids) (IntKind.i64.wrap ((IntKind.i64.wrap (s6 + 1)) + 1)) (hm.front (n := 1) rfl)) ?_
  refine wa (nt' (sr (wm (wm ?_))))
  refine wv (vix 5 k5 Qcv Qcr) ?_
  refine wv (vf Qbz rfl Qam) ?_
  refine wv (fun W hm => Qau Qp rfl rfl (hm.focCells (i := 1) rfl rfl 3 _ rfl)) ?_
  refine wm ?_
  let I3 : It := Qm (tSl Qa 3) [.slice A18 ((gt d7 k5).Ids).length c19] ((Qv ((gt d7 k5).Ids) (IntKind.i64.wrap ((IntKind.i64.wrap (s6 + 1)) + 1))).2)
  refine cw (Qq Qma rfl) (fun W hm => Qmi B w0 (I3 :: I2 :: iS Qa 3 A26 c27 ((gt d7 k5).Rows) :: is) W (.slice A22 ((gt d7 k5).Tenants).length c23) ((gt d7 k5).Tenants) ((Qv ((gt d7 k5).Ids) (IntKind.i64.wrap ((IntKind.i64.wrap (s6 + 1)) + 1))).1) (hm.front (n := 2) rfl)) ?_
  refine wa (nt' (Qy (wm (wm ?_))))
  refine wv (vix 5 k5 Qcv Qcr) ?_
  refine wv (vf Qbz rfl Qam) ?_
  refine wv (fun W hm => Qau Qp rfl rfl (hm.focCells (i := 2) rfl rfl 4 _ rfl)) ?_
  refine wm ?_
  let I4 : It := Qm (tSl Qa 3) [.slice A22 ((gt d7 k5).Tenants).length c23] ((Qv ((gt d7 k5).Tenants) ((Qv ((gt d7 k5).Ids) (IntKind.i64.wrap ((IntKind.i64.wrap (s6 + 1)) + 1))).1)).2)
  refine cw (Qq Qma rfl) (fun W hm => Qmi B w0 (I4 :: I3 :: I2 :: is) W (.slice A26 ((gt d7 k5).Rows).length c27) ((gt d7 k5).Rows) ((Qv ((gt d7 k5).Tenants) ((Qv ((gt d7 k5).Ids) (IntKind.i64.wrap ((IntKind.i64.wrap (s6 + 1)) + 1))).1)).1) (hm.front (n := 3) rfl)) ?_
  refine wa (Qad (Qan (Qe (Qy (wm ?_)))))
  refine wv (Qal k5 1 (by omega)) ?_
  refine wa (Qad ?_)
  refine Qdd (fun W hm => Mem.unfocus (Mem.join (is := [I3, I4, Qm (tSl Qa 3) [.slice A26 ((gt d7 k5).Rows).length c27] ((Qv ((gt d7 k5).Rows) ((Qv ((gt d7 k5).Tenants) ((Qv ((gt d7 k5).Ids) (IntKind.i64.wrap ((IntKind.i64.wrap (s6 + 1)) + 1))).1)).1)).2)]) (js := (I2 :: (is))) (fun _ _ hs => Qmp (x := (⟨s6, (IntKind.i64.wrap (s6 + 1)), (Qv ((gt d7 k5).Ids) (IntKind.i64.wrap ((IntKind.i64.wrap (s6 + 1)) + 1))).2, (Qv ((gt d7 k5).Tenants) ((Qv ((gt d7 k5).Ids) (IntKind.i64.wrap ((IntKind.i64.wrap (s6 + 1)) + 1))).1)).2, (Qv ((gt d7 k5).Rows) ((Qv ((gt d7 k5).Tenants) ((Qv ((gt d7 k5).Ids) (IntKind.i64.wrap ((IntKind.i64.wrap (s6 + 1)) + 1))).1)).1)).2⟩ : Qbb)) hs) ((((hm.front (n := 3) rfl).front (n := 1) rfl).front (n := 2) rfl).front (n := 3) rfl))) ?_
  exact Qao (k5 + 1, ((Qv ((gt d7 k5).Rows) ((Qv ((gt d7 k5).Tenants) ((Qv ((gt d7 k5).Ids) (IntKind.i64.wrap ((IntKind.i64.wrap (s6 + 1)) + 1))).1)).1)).1, (d7.set k5 (⟨s6, (IntKind.i64.wrap (s6 + 1)), (Qv ((gt d7 k5).Ids) (IntKind.i64.wrap ((IntKind.i64.wrap (s6 + 1)) + 1))).2, (Qv ((gt d7 k5).Tenants) ((Qv ((gt d7 k5).Ids) (IntKind.i64.wrap ((IntKind.i64.wrap (s6 + 1)) + 1))).1)).2, (Qv ((gt d7 k5).Rows) ((Qv ((gt d7 k5).Tenants) ((Qv ((gt d7 k5).Ids) (IntKind.i64.wrap ((IntKind.i64.wrap (s6 + 1)) + 1))).1)).1)).2⟩ : Qbb))), ()) sl3 idM ⟨(by omega), nx hF9 (rfl), trivial⟩ rl
 refine Qn rfl g12 ?_
 refine Qay (Qu (Qu ?_))
 have hE31 := Qbg hl11 hF9
 refine Qaz (Qe (sr (wm (wa (nt' (Qj ?_))))))
 have he32 := (show Qkp x0 x1 = (s6, d7) from Qaq hE31 (rfl))
 refine Qlj rfl rfl (fun W hm => ⟨?_, ?_⟩)
 ·rw [he32]
 rw [he32]; exact hm

def Qcn (x0 : Qr) (x1 : Int) : (Int × Qr) :=
 ((Qkp x0.Ledger ((Qhf x0.Done ((Qfk x0.Active ((Qv x0.Order ((Qdq x0.Store x1).1)).1)).1)).1)).1, (⟨(⟨(Qdq x0.Store x1).2.Segments, x0.Store.Now⟩ : Qas), x0.Cursor, (Qv x0.Order ((Qdq x0.Store x1).1)).2, (Qfk x0.Active ((Qv x0.Order ((Qdq x0.Store x1).1)).1)).2, (Qhf x0.Done ((Qfk x0.Active ((Qv x0.Order ((Qdq x0.Store x1).1)).1)).1)).2, (Qkp x0.Ledger ((Qhf x0.Done ((Qfk x0.Active ((Qv x0.Order ((Qdq x0.Store x1).1)).1)).1)).1)).2, x0.Steps⟩ : Qr))
theorem cb14 : Cb Tryz.prog 14 := ⟨f14, _, func14, rfl, by decide⟩
theorem Qaft (B : Nat) (w0 : World) (is : List It) (w : World) (z0 : List Value) (x0 : Qr) (x1 : Int) (hm : Mem B w0 (Qm Qcf z0 x0 :: is) w) :
  Calls Tryz.prog 14 #[.agg z0.toArray, iV x1] w fun e w' => e = .returned (iV (Qcn x0 x1).1) ∧ Mem B w0 (Qm Qcf z0 (Qcn x0 x1).2 :: is) w' := by
 refine Qhz (L := [(0, .agg z0.toArray), (1, iV x1)]) (N := 26) func14 rfl rfl (Nat.le_of_ble_eq_true rfl) (Qeb rfl (Qeb rfl Qgw)) hm ?_
 refine Qjq (γ := Value × Value × Value × Value × Value) (js := fun g => [Qm (tSl (tSl Qag 163) 100) [g.1] x0.Store.Segments, Qm (tSl Qa 3) [g.2.1] x0.Order, Qm (tSl Qah 61) [g.2.2.1] x0.Active, Qm (tSl Qax 80) [g.2.2.2.1] x0.Done, Qm (tSl Qav 102) [g.2.2.2.2] x0.Ledger]) (C := fun g => z0 = [g.1, iV x0.Store.Now, iV x0.Cursor, g.2.1, g.2.2.1, g.2.2.2.1, g.2.2.2.2, iV x0.Steps]) (fun _ _ h => Qqx h) ?_
 rintro ⟨v1, v2, v3, v4, v5⟩ rfl
 refine Qdc (n := 0) rfl ?_
 rintro A6 c7 rfl m8
 refine Qdc (n := 1) rfl ?_
 rintro A10 c11 rfl m12
 refine Qdc (n := 2) rfl ?_
 rintro A14 c15 rfl m16
 refine Qdc (n := 3) rfl ?_
 rintro A18 c19 rfl m20
 refine Qdc (n := 4) rfl ?_
 rintro A22 c23 rfl m24
 refine sr ?_
 refine Qbq rfl (Qk rfl) (by decide) (fun p26 => ?_)
 refine wa (nt' (sr ?_))
 refine wv (vf Qac rfl Qbt) ?_
 let K1 : List Value := [.slice A6 x0.Store.Segments.length c7, iV x0.Store.Now]
 refine wv (fun W hm => Qae (cs := K1) Qbx Qbt rfl rfl (hm.boxPart (n := 0) rfl rfl)) ?_
 refine wm ?_
 let K2 : List Value := [.slice A6 x0.Store.Segments.length c7, iV x0.Store.Now, iV x0.Cursor, .slice A10 x0.Order.length c11, .slice A14 x0.Active.length c15, .slice A18 x0.Done.length c19, .slice A22 x0.Ledger.length c23, iV x0.Steps]
 let J7 : List It := iS Qah 61 A14 c15 x0.Active :: iS Qax 80 A18 c19 x0.Done :: iS Qav 102 A22 c23 x0.Ledger :: is
 let J8 : List It := Qh p26 39 K2 :: iS Qa 3 A10 c11 x0.Order :: J7
 refine Qkh (js := (Qm Qdn K1 x0.Store :: J8)) (fun W hm => Mem.join (is := [iS (tSl Qag 163) 100 A6 c7 x0.Store.Segments]) (js := J8) (fun _ _ hs => Qms (x := x0.Store) hs) (hm.front (n := 1) rfl)) ?_
 refine cw (Qq cb78 rfl) (fun W hm => Qauh B w0 J8 W K1 x0.Store x1 hm) ?_
 refine Qjm ?_
 rintro v28 h27
 simp +zetaDelta only [List.cons.injEq] at h27
 obtain ⟨rfl, -, -⟩ := h27
 refine wa (nt' (sr ?_))
 refine wv (vf Qac rfl Qam) ?_
 refine wv (vl 1 3 Qp) ?_
 refine wm ?_
 let I3 : It := Qm (tSl (tSl Qag 163) 100) [.slice A6 x0.Store.Segments.length c7] ((Qdq x0.Store x1).2.Segments)
 refine cw (Qq Qma rfl) (fun W hm => Qmi B w0 (I3 :: Qh p26 39 K2 :: J7) W (.slice A10 x0.Order.length c11) x0.Order ((Qdq x0.Store x1).1) (hm.front (n := 2) rfl)) ?_
 refine wa (nt' (sr ?_))
 refine wv (vf Qac rfl Qcz) ?_
 refine wv (vl 2 4 Qaw) ?_
 refine wm ?_
 let I4 : It := Qm (tSl Qa 3) [.slice A10 x0.Order.length c11] ((Qv x0.Order ((Qdq x0.Store x1).1)).2)
 refine cw (Qq cb80 rfl) (fun W hm => Qatv B w0 (I4 :: I3 :: Qh p26 39 K2 :: iS Qax 80 A18 c19 x0.Done :: iS Qav 102 A22 c23 x0.Ledger :: is) W (.slice A14 x0.Active.length c15) x0.Active ((Qv x0.Order ((Qdq x0.Store x1).1)).1) (hm.front (n := 3) rfl)) ?_
 refine wa (nt' (sr ?_))
 refine wv (vf Qac rfl Qek) ?_
 refine wv (vl 3 5 Qch) ?_
 refine wm ?_
 let I5 : It := Qm (tSl Qah 61) [.slice A14 x0.Active.length c15] ((Qfk x0.Active ((Qv x0.Order ((Qdq x0.Store x1).1)).1)).2)
 refine cw (Qq cb81 rfl) (fun W hm => Qauc B w0 (I5 :: I4 :: I3 :: Qh p26 39 K2 :: iS Qav 102 A22 c23 x0.Ledger :: is) W (.slice A18 x0.Done.length c19) x0.Done ((Qfk x0.Active ((Qv x0.Order ((Qdq x0.Store x1).1)).1)).1) (hm.front (n := 4) rfl)) ?_
 refine wa (nt' (sr ?_))
 refine wv (vf Qac rfl Qfc) ?_
 refine wv (vl 4 6 Qcv) ?_
 refine wm ?_
 let I6 : It := Qm (tSl Qax 80) [.slice A18 x0.Done.length c19] ((Qhf x0.Done ((Qfk x0.Active ((Qv x0.Order ((Qdq x0.Store x1).1)).1)).1)).2)
 refine cw (Qq cb82 rfl) (fun W hm => Qaty B w0 (I6 :: I5 :: I4 :: I3 :: Qh p26 39 K2 :: is) W (.slice A22 x0.Ledger.length c23) x0.Ledger ((Qhf x0.Done ((Qfk x0.Active ((Qv x0.Order ((Qdq x0.Store x1).1)).1)).1)).1) (hm.front (n := 5) rfl)) ?_
 refine wa (nt' (sr (wm (wa (nt' (Qj ?_))))))
 have he29 := (show Qcn x0 x1 = ((Qkp x0.Ledger ((Qhf x0.Done ((Qfk x0.Active ((Qv x0.Order ((Qdq x0.Store x1).1)).1)).1)).1)).1, (⟨(⟨(Qdq x0.Store x1).2.Segments, x0.Store.Now⟩ : Qas), x0.Cursor, (Qv x0.Order ((Qdq x0.Store x1).1)).2, (Qfk x0.Active ((Qv x0.Order ((Qdq x0.Store x1).1)).1)).2, (Qhf x0.Done ((Qfk x0.Active ((Qv x0.Order ((Qdq x0.Store x1).1)).1)).1)).2, (Qkp x0.Ledger ((Qhf x0.Done ((Qfk x0.Active ((Qv x0.Order ((Qdq x0.Store x1).1)).1)).1)).1)).2, x0.Steps⟩ : Qr)) from rfl)
 refine Qlj rfl rfl (fun W hm => ⟨?_, ?_⟩)
 ·rw [he29]
 rw [he29]; exact Mem.join (is := [I3, I4, I5, I6, Qm (tSl Qav 102) [.slice A22 x0.Ledger.length c23] ((Qkp x0.Ledger ((Qhf x0.Done ((Qfk x0.Active ((Qv x0.Order ((Qdq x0.Store x1).1)).1)).1)).1)).2)]) (js := is) (fun _ _ hs => Qfo (x := (⟨(⟨(Qdq x0.Store x1).2.Segments, x0.Store.Now⟩ : Qas), x0.Cursor, (Qv x0.Order ((Qdq x0.Store x1).1)).2, (Qfk x0.Active ((Qv x0.Order ((Qdq x0.Store x1).1)).1)).2, (Qhf x0.Done ((Qfk x0.Active ((Qv x0.Order ((Qdq x0.Store x1).1)).1)).1)).2, (Qkp x0.Ledger ((Qhf x0.Done ((Qfk x0.Active ((Qv x0.Order ((Qdq x0.Store x1).1)).1)).1)).1)).2, x0.Steps⟩ : Qr)) hs) ((((((hm.front (n := 0) rfl).front (n := 1) rfl).front (n := 2) rfl).front (n := 3) rfl).front (n := 4) rfl).front (n := 5) rfl).tail

def Qyz (x0 : (List Int)) (k6 : Nat) (s7 : Int) : Int ⊕ (Int) :=
 cond ((gt x0 k6) != s7) (Sum.inl (-1)) (Sum.inr (IntKind.i64.wrap (s7 + 1)))
def Qba (x0 : (List Int)) (x1 : Int) : Int :=
 Sum.elim id (fun (s : Int) => s) (rng (R := Int) (fun k (s : Int) => Qyz x0 k s) (x0.length - 0) 0 x1)
theorem Qmb : Cb Tryz.prog 84 := ⟨f84, _, func84, rfl, by decide⟩
theorem Qmh (w : World) (z0 : Value) (x0 : (List Int)) (x1 : Int) (r_0 : rdS Qa w w.heap.size z0 x0) :
  Calls Tryz.prog 84 #[z0, iV x1] w (rI w (Qba x0 x1)) := by
 obtain ⟨m1, A2, c3, rfl, q4, r5⟩ := Qi r_0
 refine ce2 (L := [(0, .slice A2 x0.length c3), (1, iV x1)]) (N := 21) func84 ?_
 refine sr (wa (nt' (Qd (sr (wa (nt' (Qx ?_)))))))
 refine Qbf (S := Int) (R := Unit) (fun k (s : Int) => Qyz x0 k s) x0.length 0 x1 () (fun s => [(0, .slice A2 x0.length c3), (1, iV s.2.1), (5, nI s.1)]) (fun s => []) (fun s => True) sl3 trivial ?_
 rintro ⟨k6, s7, ⟨⟩⟩ H10 _ _ e e'
 dsimp only at H10 ⊢
 subst e e'
 obtain ⟨hk8, hF9, _⟩ := H10
 refine Qd (sr (wm (wm ?_)))
 refine wv (Qaf Qp) ?_
 refine wv Qai ?_
 refine nt' ?_
 rcases dcl k6 x0.length with ⟨hl11, g12⟩ | ⟨hl11, g12⟩
 ·
  refine Ql rfl g12 ?_
  refine Qo (Qe (Qd (Qx (Qd (sr (wm (wm ?_)))))))
  obtain ⟨a13, rfl, hb14, he15⟩ := q4 (by omega)
  refine wv (vix 1 k6 Qp Qf) ?_
  refine wv (fun W hm => Qau Qs rfl rfl ((hm.cell0 (show (a13.add (k6 * 1)).block < w.heap.size from by rw [Qab]; exact hb14.1)).trans (Qdr he15 k6 (by omega)))) ?_
  refine wm ?_
  refine wv Qcj ?_
  refine nt' ?_
  rcases dcn (gt x0 k6) s7 with ⟨h16, g17⟩ | ⟨h16, g17⟩
  ·
   refine Qn rfl g17 ?_
   refine Qo (Qe (Qy (wm ?_)))
   refine wv Qcw ?_
   refine wa (Qad (Qan (Qe (Qy (wm ?_)))))
   refine wv (Qal k6 1 (by omega)) ?_
   refine wa (Qad ?_)
   exact Qao (k6 + 1, (IntKind.i64.wrap (s7 + 1)), ()) sl3 idM ⟨(by omega), nx hF9 (Qc g17 (rfl)), trivial⟩ rl
  refine Ql rfl g17 ?_
  refine sr (wa (nt' (Qj (Qg (Qz (Qg (Qg (Qz (Qg ?_)))))))))
  exact rti (h := Qbe (nr hF9 (Qb g17 (rfl))) rfl)
 refine Qn rfl g12 ?_
 refine Qay (Qu (Qu ?_))
 have hE19 := Qbg hl11 hF9
 refine Qaz (Qe (sr (wm (wa (nt' (Qj ?_))))))
 exact rti (h := Qaq hE19 (rfl))

def Qzc (x0 : (List Qt)) (k6 : Nat) (s7 : Int) : Int ⊕ (Int) :=
 cond (((gt x0 k6).Id) != s7) (Sum.inl (-1)) (cond (decide ((Qba ((gt x0 k6).Values) (IntKind.i64.wrap (s7 + 1))) < 0)) (Sum.inl (-1)) (cond (((gt x0 k6).Born) != (Qba ((gt x0 k6).Values) (IntKind.i64.wrap (s7 + 1)))) (Sum.inl (-1)) (cond (((gt x0 k6).Died) != (IntKind.i64.wrap ((Qba ((gt x0 k6).Values) (IntKind.i64.wrap (s7 + 1))) + 1))) (Sum.inl (-1)) (Sum.inr (IntKind.i64.wrap ((IntKind.i64.wrap ((Qba ((gt x0 k6).Values) (IntKind.i64.wrap (s7 + 1))) + 1)) + 1))))))
def Qnr (x0 : (List Qt)) (x1 : Int) : Int :=
 Sum.elim id (fun (s : Int) => s) (rng (R := Int) (fun k (s : Int) => Qzc x0 k s) (x0.length - 0) 0 x1)
theorem Qaob : Cb Tryz.prog 202 := ⟨f202, _, func202, rfl, by decide⟩
theorem Qatu (w : World) (z0 : Value) (x0 : (List Qt)) (x1 : Int) (r_0 : rdS Qag w w.heap.size z0 x0) :
  Calls Tryz.prog 202 #[z0, iV x1] w (rI w (Qnr x0 x1)) := by
 obtain ⟨m1, A2, c3, rfl, q4, r5⟩ := Qi r_0
 refine ce2 (L := [(0, .slice A2 x0.length c3), (1, iV x1)]) (N := 49) func202 ?_
 refine sr (wa (nt' (Qd (sr (wa (nt' (Qx ?_)))))))
 refine Qbf (S := Int) (R := Unit) (fun k (s : Int) => Qzc x0 k s) x0.length 0 x1 () (fun s => [(0, .slice A2 x0.length c3), (1, iV s.2.1), (5, nI s.1)]) (fun s => []) (fun s => True) sl3 trivial ?_
 rintro ⟨k6, s7, ⟨⟩⟩ H10 _ _ e e'
 dsimp only at H10 ⊢
 subst e e'
 obtain ⟨hk8, hF9, _⟩ := H10
 refine Qd (sr (wm (wm ?_)))
 refine wv (Qaf Qbw) ?_
 refine wv Qai ?_
 refine nt' ?_
 rcases dcl k6 x0.length with ⟨hl11, g12⟩ | ⟨hl11, g12⟩
 ·
  refine Ql rfl g12 ?_
  refine Qo (Qe (Qd (Qx (Qd (sr (wm (wm ?_)))))))
  obtain ⟨a13, rfl, hb14, he15⟩ := q4 (by omega)
  refine wv (vix 4 k6 Qbw Qbl) ?_
  refine wv (vf Qbn rfl Qf) ?_
  obtain ⟨_, e19, hc16⟩ := he15 k6 _ (Qbr (show k6 < x0.length from by omega))
  obtain ⟨v17, rfl, r18⟩ := Qfx e19
  obtain ⟨m20, A21, c22, rfl, q23, r24⟩ := Qi r18
  refine wv (fun W hm => Qau Qs rfl rfl ((hm.cell0 (show ((a13.add (k6 * 4)).add 0).block < w.heap.size from by rw [Qab, Qab]; exact hb14.1)).trans (hc16 0 _ rfl))) ?_
  refine wm ?_
  refine wv Qcj ?_
  refine nt' ?_
  rcases dcn ((gt x0 k6).Id) s7 with ⟨h25, g26⟩ | ⟨h25, g26⟩
  ·
   refine Qn rfl g26 ?_
   refine Qo (Qe (sr (wm ?_)))
   refine wv Qcw ?_
   refine wa (nt' (sr (wm (wm ?_))))
   refine wv (vix 4 k6 Qbw Qbl) ?_
   refine wv (vf Qbn rfl Qam) ?_
   refine wv (fun W hm => Qau Qp rfl rfl ((hm.cell0 (show ((a13.add (k6 * 4)).add 1).block < w.heap.size from by rw [Qab, Qab]; exact hb14.1)).trans (hc16 1 _ rfl))) ?_
   refine wm ?_
   refine wcv (Qq Qmb rfl) (fun W hm => Qmh W _ ((gt x0 k6).Values) (IntKind.i64.wrap (s7 + 1)) (hm.rdS0 r24)) ?_
   refine wa (nt' (Qd (sr (wm ?_))))
   refine wv Qai ?_
   refine nt' ?_
   rcases dcd ((Qba ((gt x0 k6).Values) (IntKind.i64.wrap (s7 + 1))) < 0) with ⟨h27, g28⟩ | ⟨h27, g28⟩
   ·
    refine Ql rfl g28 ?_
    refine sr (wa (nt' (Qj (Qg (Qz (Qg (Qg (Qz (Qg ?_)))))))))
    exact rti (h := Qbe (nr hF9 (Qc g26 (Qb g28 (rfl)))) rfl)
   refine Qn rfl g28 ?_
   refine Qo (Qe (Qd (sr (wm (wm ?_)))))
   refine wv (vix 4 k6 Qbw Qbl) ?_
   refine wv (vf Qbn rfl Qf) ?_
   refine wv (fun W hm => Qau Qs rfl rfl ((hm.cell0 (show ((a13.add (k6 * 4)).add 2).block < w.heap.size from by rw [Qab, Qab]; exact hb14.1)).trans (hc16 2 _ rfl))) ?_
   refine wm ?_
   refine wv Qcj ?_
   refine nt' ?_
   rcases dcn ((gt x0 k6).Born) (Qba ((gt x0 k6).Values) (IntKind.i64.wrap (s7 + 1))) with ⟨h29, g30⟩ | ⟨h29, g30⟩
   ·
    refine Qn rfl g30 ?_
    refine Qo (Qe (sr (wm ?_)))
    refine wv Qcw ?_
    refine wa (nt' (Qd (sr (wm (wm ?_)))))
    refine wv (vix 4 k6 Qbw Qbl) ?_
    refine wv (vf Qbn rfl Qf) ?_
    refine wv (fun W hm => Qau Qs rfl rfl ((hm.cell0 (show ((a13.add (k6 * 4)).add 3).block < w.heap.size from by rw [Qab, Qab]; exact hb14.1)).trans (hc16 3 _ rfl))) ?_
    refine wm ?_
    refine wv Qcj ?_
    refine nt' ?_
    rcases dcn ((gt x0 k6).Died) (IntKind.i64.wrap ((Qba ((gt x0 k6).Values) (IntKind.i64.wrap (s7 + 1))) + 1)) with ⟨h31, g32⟩ | ⟨h31, g32⟩
    ·
     refine Qn rfl g32 ?_
     refine Qo (Qe (Qy (wm ?_)))
     refine wv Qcw ?_
     refine wa (Qad (Qan (Qe (Qy (wm ?_)))))
     refine wv (Qal k6 1 (by omega)) ?_
     refine wa (Qad ?_)
     exact Qao (k6 + 1, (IntKind.i64.wrap ((IntKind.i64.wrap ((Qba ((gt x0 k6).Values) (IntKind.i64.wrap (s7 + 1))) + 1)) + 1)), ()) sl3 idM ⟨(by omega), nx hF9 (Qc g26 (Qc g28 (Qc g30 (Qc g32 (rfl))))), trivial⟩ rl
    refine Ql rfl g32 ?_
    refine sr (wa (nt' (Qj (Qg (Qz (Qg (Qg (Qz (Qg ?_)))))))))
    exact rti (h := Qbe (nr hF9 (Qc g26 (Qc g28 (Qc g30 (Qb g32 (rfl)))))) rfl)
   refine Ql rfl g30 ?_
   refine sr (wa (nt' (Qj (Qg (Qz (Qg (Qg (Qz (Qg ?_)))))))))
   exact rti (h := Qbe (nr hF9 (Qc g26 (Qc g28 (Qb g30 (rfl))))) rfl)
  refine Ql rfl g26 ?_
  refine sr (wa (nt' (Qj (Qg (Qz (Qg (Qg (Qz (Qg ?_)))))))))
  exact rti (h := Qbe (nr hF9 (Qb g26 (rfl))) rfl)
 refine Qn rfl g12 ?_
 refine Qay (Qu (Qu ?_))
 have hE34 := Qbg hl11 hF9
 refine Qaz (Qe (sr (wm (wa (nt' (Qj ?_))))))
 exact rti (h := Qaq hE34 (rfl))

def Qzb (x0 : (List (List Qt))) (k6 : Nat) (s7 : Int) : Int ⊕ (Int) :=
 cond (decide ((Qnr (gt x0 k6) s7) < 0)) (Sum.inl (-1)) (Sum.inr (Qnr (gt x0 k6) s7))
def Qse (x0 : (List (List Qt))) (x1 : Int) : Int :=
 Sum.elim id (fun (s : Int) => s) (rng (R := Int) (fun k (s : Int) => Qzb x0 k s) (x0.length - 0) 0 x1)
theorem Qanh : Cb Tryz.prog 153 := ⟨f153, _, func153, rfl, by decide⟩
theorem Qatt (w : World) (z0 : Value) (x0 : (List (List Qt))) (x1 : Int) (r_0 : rdS (tSl Qag 163) w w.heap.size z0 x0) :
  Calls Tryz.prog 153 #[z0, iV x1] w (rI w (Qse x0 x1)) := by
 obtain ⟨m1, A2, c3, rfl, q4, r5⟩ := Qi r_0
 refine ce2 (L := [(0, .slice A2 x0.length c3), (1, iV x1)]) (N := 21) func153 ?_
 refine sr (wa (nt' (Qd (sr (wa (nt' (Qx ?_)))))))
 refine Qbf (S := Int) (R := Unit) (fun k (s : Int) => Qzb x0 k s) x0.length 0 x1 () (fun s => [(0, .slice A2 x0.length c3), (1, iV s.2.1), (5, nI s.1)]) (fun s => []) (fun s => True) sl3 trivial ?_
 rintro ⟨k6, s7, ⟨⟩⟩ H10 _ _ e e'
 dsimp only at H10 ⊢
 subst e e'
 obtain ⟨hk8, hF9, _⟩ := H10
 refine Qd (sr (wm (wm ?_)))
 refine wv (Qaf Qca) ?_
 refine wv Qai ?_
 refine nt' ?_
 rcases dcl k6 x0.length with ⟨hl11, g12⟩ | ⟨hl11, g12⟩
 ·
  refine Ql rfl g12 ?_
  refine Qo (Qe (Qd (Qx (sr (wm (wm ?_))))))
  obtain ⟨a13, rfl, hb14, he15⟩ := q4 (by omega)
  refine wv (vix 1 k6 Qca Qfg) ?_
  obtain ⟨_, e17, hc16⟩ := he15 k6 _ (Qbr (show k6 < x0.length from by omega))
  obtain ⟨v18, rfl, r19⟩ := e17
  obtain ⟨m20, A21, c22, rfl, q23, r24⟩ := Qi r19
  refine wv (fun W hm => Qau Qbw rfl rfl ((hm.cell0 (show (a13.add (k6 * 1)).block < w.heap.size from by rw [Qab]; exact hb14.1)).trans (hc16 0 _ rfl))) ?_
  refine wm ?_
  refine wcv (Qq Qaob rfl) (fun W hm => Qatu W _ (gt x0 k6) s7 (hm.rdS0 r24)) ?_
  refine wa (nt' (sr (wm ?_)))
  refine wv Qai ?_
  refine nt' ?_
  rcases dcd ((Qnr (gt x0 k6) s7) < 0) with ⟨h25, g26⟩ | ⟨h25, g26⟩
  ·
   refine Ql rfl g26 ?_
   refine sr (wa (nt' (Qj (Qz (Qg (Qg (Qz (Qg ?_))))))))
   exact rti (h := Qbe (nr hF9 (Qb g26 (rfl))) rfl)
  refine Qn rfl g26 ?_
  refine Qo (Qan (Qe (Qy (wm ?_))))
  refine wv (Qal k6 1 (by omega)) ?_
  refine wa (Qad ?_)
  exact Qao (k6 + 1, (Qnr (gt x0 k6) s7), ()) sl3 idM ⟨(by omega), nx hF9 (Qc g26 (rfl)), trivial⟩ rl
 refine Qn rfl g12 ?_
 refine Qay (Qu (Qu ?_))
 have hE28 := Qbg hl11 hF9
 refine Qaz (Qe (sr (wm (wa (nt' (Qj ?_))))))
 exact rti (h := Qaq hE28 (rfl))

def Qha (x0 : Qas) (x1 : Int) : Int :=
 cond (decide ((Qse x0.Segments x1) < 0)) (-1) (Qse x0.Segments x1)
theorem cb83 : Cb Tryz.prog 83 := ⟨f83, _, func83, rfl, by decide⟩
theorem Qats (w : World) (z0 : List Value) (x0 : Qas) (x1 : Int) (r_0 : Qdn.rd w w.heap.size z0 x0) :
  Calls Tryz.prog 83 #[.agg z0.toArray, iV x1] w (rI w (Qha x0 x1)) := by
 obtain ⟨v1, rfl, r2⟩ := Qjl r_0
 obtain ⟨m3, A4, c5, rfl, q6, r7⟩ := Qi r2
 refine ce2 (L := [(0, .agg #[.slice A4 x0.Segments.length c5, iV x0.Now]), (1, iV x1)]) (N := 12) func83 ?_
 refine sr ?_
 refine Qbq rfl (Qk rfl) (by decide) (fun p8 => ?_)
 refine wa (nt' (sr ?_))
 refine wv (vf Qbx rfl Qdz) ?_
 refine wv (vl 0 0 Qca) ?_
 refine wm ?_
 refine wcv (Qq Qanh rfl) (fun W hm => Qatt W _ x0.Segments x1 (hm.rdS0 r7)) ?_
 refine wa (nt' (Qd (sr (wm ?_))))
 refine wv Qai ?_
 refine nt' ?_
 rcases dcd ((Qse x0.Segments x1) < 0) with ⟨h9, g10⟩ | ⟨h9, g10⟩
 ·
  refine Ql rfl g10 ?_
  refine sr (wa (nt' (Qj (Qg ?_))))
  exact rti (h := Qb g10 (rfl))
 refine Qn rfl g10 ?_
 refine Qo (Qe (sr (wm (wa (nt' (Qj ?_))))))
 exact rti (h := Qc g10 (rfl))

end Go.Proofs.YtdlminfjdodjoaaGreat
