/-
  Contracts of functions, printed by a program of ours.
-/
import Derived.Test.YtpijbmiahfnliaaL3F1
namespace Go.Proofs.Ytpijbmiahfnliaa
open Go.RowKit
set_option maxRecDepth 100000
set_option maxHeartbeats 4000000
open _root_.Go.Proofs.Try
def spec_l3Rows_b1 (x0b : List Int) (k12 : Nat) (d13 : (List DRow)) (s16 : Int) (s17 : Int) (s18 : Nat) (s19 : Int) : ((List DRow) × Dl1Cur) ⊕ (((List DRow) × Int × Int × Nat × Int) ⊕ ((List DRow) × Int × Int × Nat × Int)) :=
 cond (decide (0 < s17)) (Sum.inr (Sum.inr ((d13 ++ [(spec_l3Row_m x0b (⟨s18, s19⟩ : Dl1Cur) s16).1]), (IntKind.i64.wrap ((IntKind.i64.wrap (s16 + 1)) + ((spec_l1Below_m x0b (spec_l3Row_m x0b (⟨s18, s19⟩ : Dl1Cur) s16).2 3).1))), (IntKind.i64.wrap (s17 - 1)), ((spec_l1Below_m x0b (spec_l3Row_m x0b (⟨s18, s19⟩ : Dl1Cur) s16).2 3).2).i, ((spec_l1Below_m x0b (spec_l3Row_m x0b (⟨s18, s19⟩ : Dl1Cur) s16).2 3).2).h))) (Sum.inr (Sum.inl (d13, s16, s17, s18, s19)))
def spec_l3Rows_m (x0b : List Int) (x0 : Dl1Cur) (x1 : Int) : ((List DRow) × Dl1Cur) :=
 Sum.elim id (fun (s : (List DRow) × Int × Int × Nat × Int) => (s.1, (⟨s.2.2.2.1, s.2.2.2.2⟩ : Dl1Cur))) (rngb (R := ((List DRow) × Dl1Cur)) (fun k (s : (List DRow) × Int × Int × Nat × Int) => spec_l3Rows_b1 x0b k s.1 s.2.1 s.2.2.1 s.2.2.2.1 s.2.2.2.2) (((spec_l1Below_m x0b ((spec_l1Below_m x0b x0 3).2) (IntKind.i64.wrap (x1 + 1))).1).toNat + 1 - 0) 0 ([], (spec_l1Below_m x0b x0 3).1, (spec_l1Below_m x0b ((spec_l1Below_m x0b x0 3).2) (IntKind.i64.wrap (x1 + 1))).1, (spec_l1Below_m x0b ((spec_l1Below_m x0b x0 3).2) (IntKind.i64.wrap (x1 + 1))).2.i, (spec_l1Below_m x0b ((spec_l1Below_m x0b x0 3).2) (IntKind.i64.wrap (x1 + 1))).2.h))
theorem cb50 : Cb Try.prog 50 := ⟨f50, _, func50, rfl, by decide⟩
theorem spec_l3Rows_c (B : Nat) (w0 : World) (is : List It) (w : World) (p : Nat) (z0 : Value) (x0b : List Int) (x0 : Dl1Cur) (r_0 : rdS tU8 w0 B z0 x0b) (x1 : Int) (s_0 : x0b.length ≤ 68719476736) (hx1 : 0 ≤ x1 ∧ x1 ≤ 100) (hm : Mem B w0 (iBox p 74 [z0, .int .i64 ((x0.i : Nat) : Int), .int .i64 x0.h] :: is) w) :
  Calls Try.prog 50 #[.pointer (some ⟨p, 0, none⟩), .int .i64 x1] w fun e w' => ∃ x : Value, e = .returned (x) ∧ Mem B w0 (iOwn (tSl tyRow 50) [x] ((spec_l3Rows_m x0b x0 x1).1) :: iBox p 74 [z0, .int .i64 ((((spec_l3Rows_m x0b x0 x1).2).i : Nat) : Int), .int .i64 ((spec_l3Rows_m x0b x0 x1).2).h] :: is) w' := by
 obtain ⟨m1, A2, c3, rfl, q4, r5⟩ := rdS_op r_0
 refine call_enterW (L := [(0, .pointer (some ⟨p, 0, none⟩)), (1, .int .i64 x1)]) (N := 31) func50 rfl rfl (Nat.le_of_ble_eq_true rfl) (argsL_cons rfl (argsL_cons rfl argsL_nil)) hm ?_
 have l6 : x0b.length ≤ 68719476736 := s_0
 refine sr (wa (nt' (sr ?_)))
 refine WM_build0 (E := tyRow) underlying28 type50 (Wd_none rfl) (by decide) (fun p7 => ?_)
 refine wa (nt' (sr (wm ?_)))
 let I3 : It := iOwn (tSl tyRow 50) [.slice (some ⟨p7, 0, none⟩) 0 0] []
 refine WM_callW (χ := Unit) (val := fun x => .int .i64 ((spec_l1Below_m x0b x0 3).1)) (js := fun x => (iBox p 74 [.slice A2 x0b.length c3, .int .i64 ((((spec_l1Below_m x0b x0 3).2).i : Nat) : Int), .int .i64 ((spec_l1Below_m x0b x0 3).2).h] :: (I3 :: is))) (cl_fn cb41 rfl) (fun W hm => spec_l1Below_c B w0 (I3 :: is) W p _ x0b x0 r5 3 s_0 (hm.front (n := 1) rfl)) (Wd_none rfl) (by decide) (fun z9 => ?_)
 have hb := spec_l1Below_rng x0b x0 3
 refine wa (nt' (CM_seq (sr (wm (wm ?_)))))
 refine wv vadd ?_
 refine WM_callW (χ := Unit) (val := fun x => .int .i64 ((spec_l1Below_m x0b ((spec_l1Below_m x0b x0 3).2) (IntKind.i64.wrap (x1 + 1))).1)) (js := fun x => (iBox p 74 [.slice A2 x0b.length c3, .int .i64 ((((spec_l1Below_m x0b ((spec_l1Below_m x0b x0 3).2) (IntKind.i64.wrap (x1 + 1))).2).i : Nat) : Int), .int .i64 ((spec_l1Below_m x0b ((spec_l1Below_m x0b x0 3).2) (IntKind.i64.wrap (x1 + 1))).2).h] :: (I3 :: is))) (cl_fn cb41 rfl) (fun W hm => spec_l1Below_c B w0 (I3 :: is) W p _ x0b ((spec_l1Below_m x0b x0 3).2) r5 (IntKind.i64.wrap (x1 + 1)) s_0 (hm.front (n := 0) rfl)) (Wd_none rfl) (by decide) (fun z10 => ?_)
 have hb := spec_l1Below_rng x0b ((spec_l1Below_m x0b x0 3).2) (IntKind.i64.wrap (x1 + 1))
 obtain ⟨G11, hG11⟩ : ∃ G, G = (spec_l1Below_m x0b ((spec_l1Below_m x0b x0 3).2) (IntKind.i64.wrap (x1 + 1))) := ⟨_, rfl⟩
 rw [← hG11]
 rw [← hG11] at hb
 refine wa (nt' ?_)
 have hw2 := wrap_id (n := x1 + 1) (by omega) (by omega)
 let F1 := fun k (s : (List DRow) × Int × Int × Nat × Int) => spec_l3Rows_b1 x0b k s.1 s.2.1 s.2.2.1 s.2.2.2.1 s.2.2.2.2
 let R2 := rngb (R := ((List DRow) × Dl1Cur)) F1
 refine CM_cut (σ := ((List DRow) × Int × Int × Nat × Int) × (Option Addr × Nat)) (fun s => [(5, .slice s.2.1 s.1.1.length s.2.2)]) (fun s => (iBox p 74 [.slice A2 x0b.length c3, .int .i64 ((s.1.2.2.2.1 : Nat) : Int), .int .i64 s.1.2.2.2.2] :: iOwn (tSl tyRow 50) [.slice s.2.1 s.1.1.length s.2.2] s.1.1 :: is)) (fun s => R2 ((G11.1).toNat + 1 - 0) 0 ([], (spec_l1Below_m x0b x0 3).1, G11.1, G11.2.i, G11.2.h) = Sum.inr s.1) ?_ ?_
 ·
  refine CM_block ?_
  refine CM_loop (σ := Nat × ((List DRow) × Int × Int × Nat × Int) × (Option Addr × Nat)) (fun s => [(0, .pointer (some (⟨p, 0, none⟩ : Addr))), (5, .slice s.2.2.1 s.2.1.1.length s.2.2.2), (6, .int .i64 s.2.1.2.1), (7, .int .i64 s.2.1.2.2.1)]) (fun s => (iBox p 74 [.slice A2 x0b.length c3, .int .i64 ((s.2.1.2.2.2.1 : Nat) : Int), .int .i64 s.2.1.2.2.2.2] :: iOwn (tSl tyRow 50) [.slice s.2.2.1 s.2.1.1.length s.2.2.2] s.2.1.1 :: is)) (fun s => s.1 + ((s.2.1.2.2.1).toNat) + 1 ≤ (G11.1).toNat + 1 ∧ R2 ((G11.1).toNat + 1 - s.1) s.1 s.2.1 = R2 ((G11.1).toNat + 1 - 0) 0 ([], (spec_l1Below_m x0b x0 3).1, G11.1, G11.2.i, G11.2.h) ∧ s.2.1.1.length ≤ 0 + s.1 ∧ 0 ≤ s.2.1.2.2.1 ∧ s.2.1.2.2.1 ≤ 101) (fun s => (G11.1).toNat + 1 - s.1) (0, ([], (spec_l1Below_m x0b x0 3).1, G11.1, G11.2.i, G11.2.h), ((some ⟨p7, 0, none⟩), 0)) sl4 (fun W hm => hm) ⟨(show 0 + ((G11.1).toNat) + 1 ≤ (G11.1).toNat + 1 from by omega), rfl, Nat.le_refl _, (show 0 ≤ G11.1 from by omega), (show G11.1 ≤ 101 from by omega)⟩ ?_
  rintro ⟨k12, ⟨d13, s16, s17, s18, s19⟩, ⟨A14, c15⟩⟩ H22
  obtain ⟨hk20, hF21, hi23, hi24, hi25⟩ : k12 + ((s17).toNat) + 1 ≤ (G11.1).toNat + 1 ∧ R2 ((G11.1).toNat + 1 - k12) k12 (d13, s16, s17, s18, s19) = R2 ((G11.1).toNat + 1 - 0) 0 ([], (spec_l1Below_m x0b x0 3).1, G11.1, G11.2.i, G11.2.h) ∧ d13.length ≤ 0 + k12 ∧ 0 ≤ s17 ∧ s17 ≤ 101 := H22
  let I4 : It := iOwn (tSl tyRow 50) [.slice A14 d13.length c15] d13
  show CM Try.prog 31 _ _ _ _ [(0, .pointer (some (⟨p, 0, none⟩ : Addr))), (5, .slice A14 d13.length c15), (6, .int .i64 s16), (7, .int .i64 s17)] (iBox p 74 [.slice A2 x0b.length c3, .int .i64 ((s18 : Nat) : Int), .int .i64 s19] :: I4 :: is)
  have hw1 := wrap_id (n := s17 - 1) (by omega) (by omega)
  have hw2 := wrap_id (n := x1 + 1) (by omega) (by omega)
  refine CM_seq (sr (wm ?_))
  refine wv (fun W hm => rv_gtr rfl rfl) ?_
  refine nt' ?_
  by_cases h26 : 0 < s17
  ·have g27 := decide_eq_true h26
   refine CM_condT rfl g27 ?_
   refine CM_skip (QM_then (CM_seq (CM_block (sr (wm (wm (wm ?_)))))))
   refine WM_callW (χ := List Value) (val := fun x => .agg x.toArray) (js := fun x => (iOwn tyRow x ((spec_l3Row_m x0b (⟨s18, s19⟩ : Dl1Cur) s16).1) :: iBox p 74 [.slice A2 x0b.length c3, .int .i64 ((((spec_l3Row_m x0b (⟨s18, s19⟩ : Dl1Cur) s16).2).i : Nat) : Int), .int .i64 ((spec_l3Row_m x0b (⟨s18, s19⟩ : Dl1Cur) s16).2).h] :: (I4 :: is))) (cl_fn cb73 rfl) (fun W hm => spec_l3Row_c B w0 (I4 :: is) W p _ x0b (⟨s18, s19⟩ : Dl1Cur) r5 s16 s_0 (hm.front (n := 0) rfl)) (Wd_none rfl) (by decide) (fun z28 => ?_)
   obtain ⟨G29, hG29⟩ : ∃ G, G = (spec_l3Row_m x0b (⟨s18, s19⟩ : Dl1Cur) s16) := ⟨_, rfl⟩
   rw [← hG29]
   refine tyRow_sp ?_
   rintro v30 rfl
   refine WM_form (n := 0) rfl ?_
   rintro A31 c32 rfl m33
   refine WM_build (cs := [.int .i64 G29.1.Id, .slice A31 G29.1.Values.length c32]) underlying28 type50 rfl (by decide) (by decide) rfl (by kernel_rfl) (Wd_none rfl) (by decide) (fun p35 => ?_)
   refine ap1 tyRow 50 (.slice A14 d13.length c15) d13 G29.1 [iOwn (tSl tInt 3) [.slice A31 G29.1.Values.length c32] G29.1.Values] (iBox p 74 [.slice A2 x0b.length c3, .int .i64 ((G29.2.i : Nat) : Int), .int .i64 G29.2.h] :: is) [.int .i64 G29.1.Id, .slice A31 G29.1.Values.length c32] (fun W hm => (((hm.front (n := 1) rfl).front (n := 3) rfl).front (n := 2) rfl)) (fun _ _ hs => Els.single (tyRow_join (x := G29.1) hs)) underlying28 type50 (show (d13.length + 1) * 32 ≤ 140737488355328 from by omega) (fun v36 => ?_)
   refine WM_form (n := 0) rfl ?_
   rintro A37 c38 rfl m39
   refine wa (nt' (CM_region (wm ?_)))
   refine wv vadd ?_
   refine wm ?_
   let I5 : It := iOwn (tSl tyRow 50) [.slice A37 (d13 ++ [G29.1]).length c38] (d13 ++ [G29.1])
   refine WM_callW (χ := Unit) (val := fun x => .int .i64 ((spec_l1Below_m x0b G29.2 3).1)) (js := fun x => (iBox p 74 [.slice A2 x0b.length c3, .int .i64 ((((spec_l1Below_m x0b G29.2 3).2).i : Nat) : Int), .int .i64 ((spec_l1Below_m x0b G29.2 3).2).h] :: (I5 :: is))) (cl_fn cb41 rfl) (fun W hm => spec_l1Below_c B w0 (I5 :: is) W p _ x0b G29.2 r5 3 s_0 (hm.front (n := 1) rfl)) (Wd_none rfl) (by decide) (fun z41 => ?_)
   have hb := spec_l1Below_rng x0b G29.2 3
   refine wv vadd ?_
   refine wa (WM_nil (QM_block_normal (QM_then (CM_region (wm ?_)))))
   refine wv (fun W hm => rv_sub rfl rfl) ?_
   refine wa (WM_nil ?_)
   have hn42 := rngb_next (R := ((List DRow) × Dl1Cur)) (body := F1) (k := k12) (s := (d13, s16, s17, s18, s19)) (s' := ((d13 ++ [G29.1]), (IntKind.i64.wrap ((IntKind.i64.wrap (s16 + 1)) + ((spec_l1Below_m x0b G29.2 3).1))), (IntKind.i64.wrap (s17 - 1)), ((spec_l1Below_m x0b G29.2 3).2).i, ((spec_l1Below_m x0b G29.2 3).2).h)) (show k12 < (G11.1).toNat + 1 from by omega) (by subst hG11 hG29; exact cond_t g27 (rfl)) hF21
   exact QM_round (k12 + 1, ((d13 ++ [G29.1]), (IntKind.i64.wrap ((IntKind.i64.wrap (s16 + 1)) + ((spec_l1Below_m x0b G29.2 3).1))), (IntKind.i64.wrap (s17 - 1)), ((spec_l1Below_m x0b G29.2 3).2).i, ((spec_l1Below_m x0b G29.2 3).2).h), (A37, c38)) sl4 (fun W hm => hm) ⟨(show (k12 + 1) + (((IntKind.i64.wrap (s17 - 1))).toNat) + 1 ≤ (G11.1).toNat + 1 from by omega), hn42, (show (d13 ++ [G29.1]).length ≤ 0 + (k12 + 1) from by first | omega | (simp only [List.length_append, List.length_cons, List.length_nil] at *; omega)), (show 0 ≤ (IntKind.i64.wrap (s17 - 1)) from by first | omega | (simp only [List.length_append, List.length_cons, List.length_nil] at *; omega)), (show (IntKind.i64.wrap (s17 - 1)) ≤ 101 from by first | omega | (simp only [List.length_append, List.length_cons, List.length_nil] at *; omega))⟩ (show (G11.1).toNat + 1 - (k12 + 1) < (G11.1).toNat + 1 - k12 from by omega)
  ·have g27 := decide_eq_false h26
   refine CM_condF rfl g27 ?_
   refine CM_exit (QM_then_exit (QM_then_exit (QM_block_hit ?_)))
   have hE43 := rngb_brk (R := ((List DRow) × Dl1Cur)) (body := F1) (k := k12) (s := (d13, s16, s17, s18, s19)) (s' := (d13, s16, s17, s18, s19)) (show k12 < (G11.1).toNat + 1 from by omega) (by subst hG11; exact cond_f g27 (rfl)) hF21
   exact QM_cut_normal ((d13, s16, s17, s18, s19), (A14, c15)) (subL_cons rfl subL_nil) (fun W hm => hm) hE43
 ·
  rintro ⟨⟨d13, s16, s17, s18, s19⟩, ⟨A14, c15⟩⟩ H45
  have hE44 : R2 ((G11.1).toNat + 1 - 0) 0 ([], (spec_l1Below_m x0b x0 3).1, G11.1, G11.2.i, G11.2.h) = Sum.inr (d13, s16, s17, s18, s19) := H45
  show QM 31 _ _ _ .normal [(5, .slice A14 d13.length c15)] (iBox p 74 [.slice A2 x0b.length c3, .int .i64 ((s18 : Nat) : Int), .int .i64 s19] :: iOwn (tSl tyRow 50) [.slice A14 d13.length c15] d13 :: is)
  refine QM_then (sr (wm (wa (nt' (CM_ret ?_)))))
  have he46 := (show spec_l3Rows_m x0b x0 x1 = (d13, (⟨s18, s19⟩ : Dl1Cur)) from by subst hG11; exact fin_inr hE44 (rfl))
  refine QM_r1 rfl (RR_tmp rfl) (fun W hm => ⟨.slice A14 d13.length c15, ?_, ?_⟩)
  ·first | rw [he46] | rfl
  ·rw [he46]; exact ((hm.front (n := 0) rfl).front (n := 1) rfl)

theorem rng_invP {R S : Type} {b : Nat → S → R ⊕ S} {P : Nat → S → Prop} (h : ∀ k s, P k s → ∃ s', b k s = .inr s' ∧ P (k + 1) s') : ∀ m k s, P k s → ∃ s', rng b m k s = .inr s' ∧ P (k + m) s'
  | 0, _, s, hp => ⟨s, rfl, hp⟩
  | m + 1, k, s, hp => by
    obtain ⟨s', h1, h2⟩ := h k s hp
    obtain ⟨s'', h3, h4⟩ := rng_invP (P := P) h m (k + 1) s' h2
    exact ⟨s'', by rw [rng, h1]; exact h3, by rw [show k + (m + 1) = k + 1 + m by omega]; exact h4⟩
theorem spec_l3Wide (b : List Int) (D : Dl1Cur) : 0 < (spec_l1PickInt_m b D [3, 6, 100]).1 ∧ (spec_l1PickInt_m b D [3, 6, 100]).1 ≤ 100 := by
  have h := spec_l1Below_rng b D (([3, 6, 100] : List Int).length : Nat)
  have h1 := h.2.1 (by decide)
  have h2 : (spec_l1Below_m b D ((([3, 6, 100] : List Int).length : Nat) : Int)).1.toNat < 3 := by
    have : ((([3, 6, 100] : List Int).length : Nat) : Int) = 3 := rfl
    omega
  show 0 < gt [3, 6, 100] (spec_l1Below_m b D ((([3, 6, 100] : List Int).length : Nat) : Int)).1.toNat ∧ gt [3, 6, 100] (spec_l1Below_m b D ((([3, 6, 100] : List Int).length : Nat) : Int)).1.toNat ≤ 100
  generalize (spec_l1Below_m b D ((([3, 6, 100] : List Int).length : Nat) : Int)).1.toNat = j at h2
  have h3 : j = 0 ∨ j = 1 ∨ j = 2 := by omega
  rcases h3 with rfl | rfl | rfl <;> decide
theorem spec_l3Row_fact (b : List Int) (D : Dl1Cur) (i : Int) : (spec_l3Row_m b D i).1.Id = i ∧ (spec_l3Row_m b D i).1.Values.length = 3 ∧ ∀ v ∈ (spec_l3Row_m b D i).1.Values, 0 ≤ v ∧ v ≤ 99 := by
  unfold spec_l3Row_m
  have hw := spec_l3Wide b D
  obtain ⟨s', h1, h2, h3⟩ := rng_invP (R := (DRow × Dl1Cur)) (b := fun k (s : Nat × Int × (List Int)) => spec_l3Row_b1 b D k s.1 s.2.1 s.2.2) (P := fun k s => s.2.2.length = k ∧ ∀ v ∈ s.2.2, 0 ≤ v ∧ v ≤ 99) (fun k s hp => by
    refine ⟨_, rfl, ?_, ?_⟩
    · show (s.2.2 ++ [_]).length = k + 1
      rw [List.length_append, hp.1]; rfl
    · intro v hv
      have hv' : v ∈ s.2.2 ++ [(spec_l1Below_m b (⟨s.1, s.2.1⟩ : Dl1Cur) (spec_l1PickInt_m b D [3, 6, 100]).1).1] := hv
      rcases List.mem_append.1 hv' with hv | hv
      · exact hp.2 v hv
      · rw [List.mem_singleton.1 hv]
        have h := spec_l1Below_rng b (⟨s.1, s.2.1⟩ : Dl1Cur) (spec_l1PickInt_m b D [3, 6, 100]).1
        have h4 := h.2.1 hw.1
        omega) (3 - 0) 0 (((spec_l1PickInt_m b D [3, 6, 100]).2).i, ((spec_l1PickInt_m b D [3, 6, 100]).2).h, []) ⟨rfl, fun v hv => by cases hv⟩
  rw [h1]
  exact ⟨rfl, h2, h3⟩
def spec_l3Any_m (x0b : List Int) (x0 : Dl1Cur) : (DRow × Dl1Cur) :=
 cond (((spec_l1Below_m x0b (spec_l3Row_m x0b ((spec_l1Below_m x0b x0 9).2) ((spec_l1Below_m x0b x0 9).1)).2 8).1) == 0) ((⟨(spec_l1PickInt_m x0b ((spec_l1Below_m x0b (spec_l3Row_m x0b ((spec_l1Below_m x0b x0 9).2) ((spec_l1Below_m x0b x0 9).1)).2 8).2) [(-1), 999, 1000]).1, (spec_l3Row_m x0b ((spec_l1Below_m x0b x0 9).2) ((spec_l1Below_m x0b x0 9).1)).1.Values⟩ : DRow), (spec_l1PickInt_m x0b ((spec_l1Below_m x0b (spec_l3Row_m x0b ((spec_l1Below_m x0b x0 9).2) ((spec_l1Below_m x0b x0 9).1)).2 8).2) [(-1), 999, 1000]).2) (cond (((spec_l1Below_m x0b (spec_l3Row_m x0b ((spec_l1Below_m x0b x0 9).2) ((spec_l1Below_m x0b x0 9).1)).2 8).1) == 1) ((⟨(spec_l3Row_m x0b ((spec_l1Below_m x0b x0 9).2) ((spec_l1Below_m x0b x0 9).1)).1.Id, ((spec_l3Row_m x0b ((spec_l1Below_m x0b x0 9).2) ((spec_l1Below_m x0b x0 9).1)).1.Values.set 0 (spec_l1PickInt_m x0b ((spec_l1Below_m x0b (spec_l3Row_m x0b ((spec_l1Below_m x0b x0 9).2) ((spec_l1Below_m x0b x0 9).1)).2 8).2) [(-1), 99, 100]).1)⟩ : DRow), (spec_l1PickInt_m x0b ((spec_l1Below_m x0b (spec_l3Row_m x0b ((spec_l1Below_m x0b x0 9).2) ((spec_l1Below_m x0b x0 9).1)).2 8).2) [(-1), 99, 100]).2) (cond (((spec_l1Below_m x0b (spec_l3Row_m x0b ((spec_l1Below_m x0b x0 9).2) ((spec_l1Below_m x0b x0 9).1)).2 8).1) == 2) ((⟨(spec_l3Row_m x0b ((spec_l1Below_m x0b x0 9).2) ((spec_l1Below_m x0b x0 9).1)).1.Id, ((spec_l3Row_m x0b ((spec_l1Below_m x0b x0 9).2) ((spec_l1Below_m x0b x0 9).1)).1.Values ++ [1])⟩ : DRow), ((spec_l1Below_m x0b (spec_l3Row_m x0b ((spec_l1Below_m x0b x0 9).2) ((spec_l1Below_m x0b x0 9).1)).2 8).2)) ((spec_l3Row_m x0b ((spec_l1Below_m x0b x0 9).2) ((spec_l1Below_m x0b x0 9).1)).1, ((spec_l1Below_m x0b (spec_l3Row_m x0b ((spec_l1Below_m x0b x0 9).2) ((spec_l1Below_m x0b x0 9).1)).2 8).2))))
theorem cb52 : Cb Try.prog 52 := ⟨f52, _, func52, rfl, by decide⟩
theorem spec_l3Any_c (B : Nat) (w0 : World) (is : List It) (w : World) (p : Nat) (z0 : Value) (x0b : List Int) (x0 : Dl1Cur) (r_0 : rdS tU8 w0 B z0 x0b) (s_0 : x0b.length ≤ 68719476736) (hm : Mem B w0 (iBox p 74 [z0, .int .i64 ((x0.i : Nat) : Int), .int .i64 x0.h] :: is) w) :
  Calls Try.prog 52 #[.pointer (some ⟨p, 0, none⟩)] w fun e w' => ∃ x : List Value, e = .returned (.agg x.toArray) ∧ Mem B w0 (iOwn tyRow x ((spec_l3Any_m x0b x0).1) :: iBox p 74 [z0, .int .i64 ((((spec_l3Any_m x0b x0).2).i : Nat) : Int), .int .i64 ((spec_l3Any_m x0b x0).2).h] :: is) w' := by
 obtain ⟨m1, A2, c3, rfl, q4, r5⟩ := rdS_op r_0
 refine call_enterW (L := [(0, .pointer (some ⟨p, 0, none⟩))]) (N := 32) func52 rfl rfl (Nat.le_of_ble_eq_true rfl) (argsL_cons rfl argsL_nil) hm ?_
 have l6 : x0b.length ≤ 68719476736 := s_0
 refine sr ?_
 refine WM_alloc type50 rfl (Wd_none rfl) (by decide) (fun p7 => ?_)
 refine nt' (sr (wm (wm ?_)))
 refine WM_callW (χ := Unit) (val := fun x => .int .i64 ((spec_l1Below_m x0b x0 9).1)) (js := fun x => (iBox p 74 [.slice A2 x0b.length c3, .int .i64 ((((spec_l1Below_m x0b x0 9).2).i : Nat) : Int), .int .i64 ((spec_l1Below_m x0b x0 9).2).h] :: (iBox p7 50 [.int .i64 0, .slice none 0 0] :: is))) (cl_fn cb41 rfl) (fun W hm => spec_l1Below_c B w0 (iBox p7 50 [.int .i64 0, .slice none 0 0] :: is) W p _ x0b x0 r5 9 s_0 (hm.front (n := 1) rfl)) (Wd_none rfl) (by decide) (fun z8 => ?_)
 refine WM_callW (χ := List Value) (val := fun x => .agg x.toArray) (js := fun x => (iOwn tyRow x ((spec_l3Row_m x0b ((spec_l1Below_m x0b x0 9).2) ((spec_l1Below_m x0b x0 9).1)).1) :: iBox p 74 [.slice A2 x0b.length c3, .int .i64 ((((spec_l3Row_m x0b ((spec_l1Below_m x0b x0 9).2) ((spec_l1Below_m x0b x0 9).1)).2).i : Nat) : Int), .int .i64 ((spec_l3Row_m x0b ((spec_l1Below_m x0b x0 9).2) ((spec_l1Below_m x0b x0 9).1)).2).h] :: (iBox p7 50 [.int .i64 0, .slice none 0 0] :: is))) (cl_fn cb73 rfl) (fun W hm => spec_l3Row_c B w0 (iBox p7 50 [.int .i64 0, .slice none 0 0] :: is) W p _ x0b ((spec_l1Below_m x0b x0 9).2) r5 ((spec_l1Below_m x0b x0 9).1) s_0 (hm.front (n := 0) rfl)) (Wd_none rfl) (by decide) (fun z9 => ?_)
 have hl3 := (spec_l3Row_fact x0b ((spec_l1Below_m x0b x0 9).2) ((spec_l1Below_m x0b x0 9).1)).2.1
 obtain ⟨G10, hG10⟩ : ∃ G, G = (spec_l3Row_m x0b ((spec_l1Below_m x0b x0 9).2) ((spec_l1Below_m x0b x0 9).1)) := ⟨_, rfl⟩
 rw [← hG10]
 rw [← hG10] at hl3
 refine tyRow_sp ?_
 rintro v11 rfl
 refine WM_form (n := 0) rfl ?_
 rintro A12 c13 rfl m14
 refine WM_alloc type50 rfl (Wd_none rfl) (by decide) (fun p16 => ?_)
 refine WM_storeBox (p := p16) (o := 0) (cs' := [.int .i64 G10.1.Id, .slice A12 G10.1.Values.length c13]) (fun w hm => hm.front (n := 0) rfl) type50 rfl (Nat.le_of_ble_eq_true rfl) rfl rfl rfl rfl (Wd_none rfl) ?_
 refine nt' (CM_seq (sr (wm ?_)))
 let I7 : It := iBox p16 50 [.int .i64 G10.1.Id, .slice A12 G10.1.Values.length c13]
 let I8 : It := iOwn (tSl tInt 3) [.slice A12 G10.1.Values.length c13] G10.1.Values
 refine WM_callW (χ := Unit) (val := fun x => .int .i64 ((spec_l1Below_m x0b G10.2 8).1)) (js := fun x => (iBox p 74 [.slice A2 x0b.length c3, .int .i64 ((((spec_l1Below_m x0b G10.2 8).2).i : Nat) : Int), .int .i64 ((spec_l1Below_m x0b G10.2 8).2).h] :: (I7 :: I8 :: iBox p7 50 [.int .i64 0, .slice none 0 0] :: is))) (cl_fn cb41 rfl) (fun W hm => spec_l1Below_c B w0 (I7 :: I8 :: iBox p7 50 [.int .i64 0, .slice none 0 0] :: is) W p _ x0b G10.2 r5 8 s_0 (hm.front (n := 2) rfl)) (Wd_none rfl) (by decide) (fun z17 => ?_)
 refine nt' (CM_block (sr ?_))
 refine wv (fun W hm => rv_eql rfl rfl) ?_
 refine wa (nt' ?_)
 by_cases h18 : ((spec_l1Below_m x0b G10.2 8).1) = 0
 ·have g19 := beq_iff_eq.2 h18
  refine CM_condT rfl g19 ?_
  refine CM_region (wm ?_)
  refine WM_build (cs := [.int .i64 (-1), .int .i64 999, .int .i64 1000]) underlying37 type3 rfl (by decide) (by decide) rfl (by kernel_rfl) (Wd_none rfl) (by decide) (fun p20 => ?_)
  refine WM_items (fun W hm => Mem.litOwn (E := tInt) (xs := [(-1), 999, 1000]) rfl (show 3 ≤ maxLen from by decide) (fun _ => (els_cons (E := tInt) (L1 := []) tInt_own (els_cons (E := tInt) (L1 := []) tInt_own (els_cons (E := tInt) (L1 := []) tInt_own els_nil)))) (hm.front (n := 0) rfl)) ?_
  let I9 : It := iOwn (tSl tInt 3) [.slice (some ⟨p20, 0, none⟩) 3 3] [(-1), 999, 1000]
  refine WM_callW (χ := Unit) (val := fun x => .int .i64 ((spec_l1PickInt_m x0b ((spec_l1Below_m x0b G10.2 8).2) [(-1), 999, 1000]).1)) (js := fun x => (iBox p 74 [.slice A2 x0b.length c3, .int .i64 ((((spec_l1PickInt_m x0b ((spec_l1Below_m x0b G10.2 8).2) [(-1), 999, 1000]).2).i : Nat) : Int), .int .i64 ((spec_l1PickInt_m x0b ((spec_l1Below_m x0b G10.2 8).2) [(-1), 999, 1000]).2).h] :: I9 :: (I7 :: I8 :: iBox p7 50 [.int .i64 0, .slice none 0 0] :: is))) (cl_fn cb66 rfl) (fun W hm => spec_l1PickInt_c B w0 (I7 :: I8 :: iBox p7 50 [.int .i64 0, .slice none 0 0] :: is) W p _ x0b ((spec_l1Below_m x0b G10.2 8).2) r5 _ [(-1), 999, 1000] s_0 (Nat.le_of_ble_eq_true rfl) (by first | decide | exact Nat.succ_pos _) ((hm.front (n := 0) rfl).front (n := 1) rfl)) (Wd_none rfl) (by decide) (fun z22 => ?_)
  obtain ⟨G23, hG23⟩ : ∃ G, G = (spec_l1PickInt_m x0b ((spec_l1Below_m x0b G10.2 8).2) [(-1), 999, 1000]) := ⟨_, rfl⟩
  rw [← hG23]
  refine wv (vf underlying50 rfl type3) ?_
  refine WM_storeBox (p := p16) (o := 0) (cs' := [.int .i64 G23.1, .slice A12 G10.1.Values.length c13]) (fun w hm => hm.front (n := 2) rfl) type3 rfl (Nat.le_of_ble_eq_true rfl) rfl rfl rfl rfl (Wd_none rfl) ?_
  refine WM_nil (QM_block_normal (QM_then (sr ?_)))
  refine wv (fun W hm => rv_loadN (cs := [.int .i64 G23.1, .slice A12 G10.1.Values.length c13]) underlying50 type50 rfl rfl (hm.boxCells (n := 0) rfl)) ?_
  refine WM_storeBox (p := p7) (o := 0) (cs' := [.int .i64 G23.1, .slice A12 G10.1.Values.length c13]) (fun w hm => hm.front (n := 4) rfl) type50 rfl (Nat.le_of_ble_eq_true rfl) rfl rfl rfl rfl (Wd_none rfl) ?_
  refine nt' (CM_ret ?_)
  let K1 : List Value := [.slice A2 x0b.length c3, .int .i64 ((G23.2.i : Nat) : Int), .int .i64 G23.2.h]
  let I10 : It := iBox p7 50 [.int .i64 G23.1, .slice A12 G10.1.Values.length c13]
  let I11 : It := iBox p16 50 [.int .i64 G23.1, .slice A12 G10.1.Values.length c13]
  refine QM_items (js := (iOwn tyRow [.int .i64 G23.1, .slice A12 G10.1.Values.length c13] (⟨G23.1, G10.1.Values⟩ : DRow) :: (I10 :: I11 :: iBox p 74 K1 :: I9 :: is))) (fun W hm => Mem.join (is := [I8]) (js := (I10 :: I11 :: iBox p 74 K1 :: I9 :: is)) (fun _ _ hs => tyRow_join (x := (⟨G23.1, G10.1.Values⟩ : DRow)) hs) (hm.front (n := 4) rfl)) ?_
  have he24 := (show spec_l3Any_m x0b x0 = ((⟨G23.1, G10.1.Values⟩ : DRow), G23.2) from by subst hG10 hG23; exact cond_t g19 (rfl))
  refine QM_r1 rfl (RR_cell (n := 1) rfl rfl underlying50 type50 rfl) (fun W hm => ⟨[.int .i64 G23.1, .slice A12 G10.1.Values.length c13], ?_, ?_⟩)
  ·first | rw [he24] | rfl
  ·rw [he24]; exact (((((hm.front (n := 3) rfl).front (n := 1) rfl).front (n := 2) rfl).tail.front (n := 2) rfl).tail.front (n := 2) rfl).tail
 ·have g19 := beq_eq_false_iff_ne.2 h18
  refine CM_condF rfl g19 ?_
  refine sr ?_
  refine wv (fun W hm => rv_eql rfl rfl) ?_
  refine wa (nt' ?_)
  by_cases h25 : ((spec_l1Below_m x0b G10.2 8).1) = 1
  ·have g26 := beq_iff_eq.2 h25
   refine CM_condT rfl g26 ?_
   refine CM_formO (n := 2) rfl (by omega) ?_
   rintro g27 rfl
   let K2 : List Value := [.int .i64 G10.1.Id, .slice (some ⟨g27, 0, none⟩) G10.1.Values.length c13]
   let I12 : It := iOwn (tSl tInt 3) [.slice (some ⟨g27, 0, none⟩) G10.1.Values.length c13] G10.1.Values
   refine rd2 7 [6] (s := (iBox p16 50 K2 :: iBox p7 50 [.int .i64 0, .slice none 0 0] :: is)) (s2 := (iBox p16 50 K2 :: I12 :: iBox p7 50 [.int .i64 0, .slice none 0 0] :: is)) (fun W hm => ((((hm.front (n := 3) rfl).front (n := 2) rfl).front (n := 2) rfl).tail.front (n := 2) rfl).tail) (fun W hm => ((((hm.front (n := 3) rfl).front (n := 3) rfl).front (n := 3) rfl).front (n := 3) rfl).tail) ?_
   refine qtD 7 0 1 rfl (vf underlying50 rfl type37) ?_
   refine qtD 7 1 3 rfl (vl 0 1 underlying37) ?_
   refine qtD 7 2 7 rfl vmv ?_
   refine qoD 7 3 15 rfl ?_
   refine WM_build (cs := [.int .i64 (-1), .int .i64 99, .int .i64 100]) underlying37 type3 rfl (by decide) (by decide) rfl (by kernel_rfl) (Wd_none rfl) (by decide) (fun p28 => ?_)
   refine qnD (fun W hm => (((((hm.front (n := 4) rfl).front (n := 3) rfl).front (n := 2) rfl).tail.front (n := 2) rfl).tail.front (n := 2) rfl).tail) (fun W hm => (((((hm.front (n := 4) rfl).front (n := 4) rfl).front (n := 4) rfl).front (n := 3) rfl).tail.front (n := 3) rfl).tail) ?_
   refine qoD 7 4 31 rfl ?_
   refine WM_items (fun W hm => Mem.litOwn (E := tInt) (xs := [(-1), 99, 100]) rfl (show 3 ≤ maxLen from by decide) (fun _ => (els_cons (E := tInt) (L1 := []) tInt_own (els_cons (E := tInt) (L1 := []) tInt_own (els_cons (E := tInt) (L1 := []) tInt_own els_nil)))) (hm.front (n := 0) rfl)) ?_
   let I13 : It := iOwn (tSl tInt 3) [.slice (some ⟨p28, 0, none⟩) 3 3] [(-1), 99, 100]
   refine WM_callW (χ := Unit) (val := fun x => .int .i64 ((spec_l1PickInt_m x0b ((spec_l1Below_m x0b G10.2 8).2) [(-1), 99, 100]).1)) (js := fun x => (iBox p 74 [.slice A2 x0b.length c3, .int .i64 ((((spec_l1PickInt_m x0b ((spec_l1Below_m x0b G10.2 8).2) [(-1), 99, 100]).2).i : Nat) : Int), .int .i64 ((spec_l1PickInt_m x0b ((spec_l1Below_m x0b G10.2 8).2) [(-1), 99, 100]).2).h] :: I13 :: (iBox p16 50 K2 :: I12 :: iBox p7 50 [.int .i64 0, .slice none 0 0] :: is))) (cl_fn cb66 rfl) (fun W hm => spec_l1PickInt_c B w0 (iBox p16 50 K2 :: I12 :: iBox p7 50 [.int .i64 0, .slice none 0 0] :: is) W p _ x0b ((spec_l1Below_m x0b G10.2 8).2) r5 _ [(-1), 99, 100] s_0 (Nat.le_of_ble_eq_true rfl) (by first | decide | exact Nat.succ_pos _) ((hm.front (n := 0) rfl).front (n := 1) rfl)) (Wd_none rfl) (by decide) (fun z30 => ?_)
   obtain ⟨G31, hG31⟩ : ∃ G, G = (spec_l1PickInt_m x0b ((spec_l1Below_m x0b G10.2 8).2) [(-1), 99, 100]) := ⟨_, rfl⟩
   rw [← hG31]
   refine qnD (fun W hm => (((((hm.front (n := 4) rfl).front (n := 3) rfl).front (n := 2) rfl).tail.front (n := 2) rfl).tail.front (n := 2) rfl).tail) (fun W hm => (((((hm.front (n := 4) rfl).front (n := 4) rfl).front (n := 4) rfl).front (n := 3) rfl).tail.front (n := 3) rfl).tail) ?_
   refine qtD 7 5 63 rfl (vix 1 0 underlying37 type3) ?_
   refine qoD 7 6 127 rfl ?_
   let K3 : List Value := [.slice A2 x0b.length c3, .int .i64 ((G31.2.i : Nat) : Int), .int .i64 G31.2.h]
   refine WM_setEl (E := tInt) (e := 3) (u := .int .i64 G31.1) (k := 0) (p := g27) (n := G10.1.Values.length) (xs := G10.1.Values) (eis := []) (js := (iBox p 74 K3 :: I13 :: iBox p16 50 K2 :: iBox p7 50 [.int .i64 0, .slice none 0 0] :: is)) (yv := G31.1) (fun W hm => (hm.front (n := 3) rfl)) (fun _ _ hs => (Sep.nil hs ▸ tInt_own)) rfl type3 rfl (by omega) rfl rfl (Wd_none rfl) ?_
   refine qxD (fun W hm => (((((hm.front (n := 4) rfl).front (n := 4) rfl).front (n := 2) rfl).tail.front (n := 2) rfl).tail.front (n := 2) rfl).tail) ?_
   refine QB_done (by kernel_rfl) ?_
   refine QM_block_normal (QM_then (sr ?_))
   refine wv (fun W hm => rv_loadN (cs := K2) underlying50 type50 rfl rfl (hm.boxCells (n := 3) rfl)) ?_
   refine WM_storeBox (p := p7) (o := 0) (cs' := K2) (fun w hm => hm.front (n := 4) rfl) type50 rfl (Nat.le_of_ble_eq_true rfl) rfl rfl rfl rfl (Wd_none rfl) ?_
   refine nt' (CM_ret ?_)
   refine QM_items (js := (iOwn tyRow K2 (⟨G10.1.Id, (G10.1.Values.set 0 G31.1)⟩ : DRow) :: (iBox p7 50 K2 :: iBox p 74 K3 :: I13 :: iBox p16 50 K2 :: is))) (fun W hm => Mem.join (is := [iOwn (tSl tInt 3) [.slice (some ⟨g27, 0, none⟩) G10.1.Values.length c13] (G10.1.Values.set 0 G31.1)]) (js := (iBox p7 50 K2 :: iBox p 74 K3 :: I13 :: iBox p16 50 K2 :: is)) (fun _ _ hs => tyRow_join (x := (⟨G10.1.Id, (G10.1.Values.set 0 G31.1)⟩ : DRow)) hs) (hm.front (n := 1) rfl)) ?_
   have he32 := (show spec_l3Any_m x0b x0 = ((⟨G10.1.Id, (G10.1.Values.set 0 G31.1)⟩ : DRow), G31.2) from by subst hG10 hG31; exact cond_f g19 (cond_t g26 (rfl)))
   refine QM_r1 rfl (RR_cell (n := 1) rfl rfl underlying50 type50 rfl) (fun W hm => ⟨K2, ?_, ?_⟩)
   ·first | rw [he32] | rfl
   ·rw [he32]; exact (((((hm.front (n := 2) rfl).front (n := 1) rfl).front (n := 2) rfl).tail.front (n := 2) rfl).tail.front (n := 2) rfl).tail
  ·have g26 := beq_eq_false_iff_ne.2 h25
   refine CM_condF rfl g26 ?_
   refine sr ?_
   refine wv (fun W hm => rv_eql rfl rfl) ?_
   refine wa (nt' ?_)
   by_cases h33 : ((spec_l1Below_m x0b G10.2 8).1) = 2
   ·have g34 := beq_iff_eq.2 h33
    refine CM_condT rfl g34 ?_
    refine CM_region ?_
    refine wv (vf underlying50 rfl type37) ?_
    refine wv (vl 1 1 underlying37) ?_
    refine WM_build (cs := [.int .i64 1]) underlying37 type3 rfl (by decide) (by decide) rfl (by kernel_rfl) (Wd_none rfl) (by decide) (fun p35 => ?_)
    let K4 : List Value := [.slice A2 x0b.length c3, .int .i64 ((((spec_l1Below_m x0b G10.2 8).2).i : Nat) : Int), .int .i64 (((spec_l1Below_m x0b G10.2 8).2).h)]
    refine ap1 tInt 3 (.slice A12 G10.1.Values.length c13) G10.1.Values 1 [] (iBox p 74 K4 :: I7 :: iBox p7 50 [.int .i64 0, .slice none 0 0] :: is) [.int .i64 1] (fun W hm => ((hm.front (n := 3) rfl).front (n := 1) rfl)) (fun _ _ hs => by cases (Sep.nil hs); exact (els_cons tInt_own els_nil)) underlying37 type3 (show (G10.1.Values.length + 1) * 8 ≤ 140737488355328 from by omega) (fun v36 => ?_)
    refine WM_form (n := 0) rfl ?_
    rintro A37 c38 rfl m39
    refine wv (vf underlying50 rfl type37) ?_
    let K5 : List Value := [.int .i64 G10.1.Id, .slice A37 (G10.1.Values ++ [1]).length c38]
    refine WM_storeBox (p := p16) (o := 1) (cs' := K5) (fun w hm => hm.front (n := 2) rfl) type37 rfl (Nat.le_of_ble_eq_true rfl) rfl rfl rfl rfl (Wd_none rfl) ?_
    refine WM_nil (QM_block_normal (QM_then (sr ?_)))
    refine wv (fun W hm => rv_loadN (cs := K5) underlying50 type50 rfl rfl (hm.boxCells (n := 0) rfl)) ?_
    refine WM_storeBox (p := p7) (o := 0) (cs' := K5) (fun w hm => hm.front (n := 3) rfl) type50 rfl (Nat.le_of_ble_eq_true rfl) rfl rfl rfl rfl (Wd_none rfl) ?_
    refine nt' (CM_ret ?_)
    refine QM_items (js := (iOwn tyRow K5 (⟨G10.1.Id, (G10.1.Values ++ [1])⟩ : DRow) :: (iBox p7 50 K5 :: iBox p16 50 K5 :: iBox p 74 K4 :: is))) (fun W hm => Mem.join (is := [iOwn (tSl tInt 3) [.slice A37 (G10.1.Values ++ [1]).length c38] (G10.1.Values ++ [1])]) (js := (iBox p7 50 K5 :: iBox p16 50 K5 :: iBox p 74 K4 :: is)) (fun _ _ hs => tyRow_join (x := (⟨G10.1.Id, (G10.1.Values ++ [1])⟩ : DRow)) hs) (hm.front (n := 2) rfl)) ?_
    have he41 := (show spec_l3Any_m x0b x0 = ((⟨G10.1.Id, (G10.1.Values ++ [1])⟩ : DRow), ((spec_l1Below_m x0b G10.2 8).2)) from by subst hG10; exact cond_f g19 (cond_f g26 (cond_t g34 (rfl))))
    refine QM_r1 rfl (RR_cell (n := 1) rfl rfl underlying50 type50 rfl) (fun W hm => ⟨K5, ?_, ?_⟩)
    ·first | rw [he41] | rfl
    ·rw [he41]; exact ((((hm.front (n := 3) rfl).front (n := 1) rfl).front (n := 2) rfl).tail.front (n := 2) rfl).tail
   ·have g34 := beq_eq_false_iff_ne.2 h33
    refine CM_condF rfl g34 ?_
    refine CM_skip (QM_block_normal (QM_then (sr ?_)))
    refine wv (fun W hm => rv_loadN (cs := [.int .i64 G10.1.Id, .slice A12 G10.1.Values.length c13]) underlying50 type50 rfl rfl (hm.boxCells (n := 1) rfl)) ?_
    refine WM_storeBox (p := p7) (o := 0) (cs' := [.int .i64 G10.1.Id, .slice A12 G10.1.Values.length c13]) (fun w hm => hm.front (n := 3) rfl) type50 rfl (Nat.le_of_ble_eq_true rfl) rfl rfl rfl rfl (Wd_none rfl) ?_
    refine nt' (CM_ret ?_)
    let K6 : List Value := [.slice A2 x0b.length c3, .int .i64 ((((spec_l1Below_m x0b G10.2 8).2).i : Nat) : Int), .int .i64 (((spec_l1Below_m x0b G10.2 8).2).h)]
    let I14 : It := iBox p7 50 [.int .i64 G10.1.Id, .slice A12 G10.1.Values.length c13]
    refine QM_items (js := (iOwn tyRow [.int .i64 G10.1.Id, .slice A12 G10.1.Values.length c13] G10.1 :: (I14 :: iBox p 74 K6 :: I7 :: is))) (fun W hm => Mem.join (is := [I8]) (js := (I14 :: iBox p 74 K6 :: I7 :: is)) (fun _ _ hs => tyRow_join (x := G10.1) hs) (hm.front (n := 3) rfl)) ?_
    have he42 := (show spec_l3Any_m x0b x0 = (G10.1, ((spec_l1Below_m x0b G10.2 8).2)) from by subst hG10; exact cond_f g19 (cond_f g26 (cond_f g34 (rfl))))
    refine QM_r1 rfl (RR_cell (n := 1) rfl rfl underlying50 type50 rfl) (fun W hm => ⟨[.int .i64 G10.1.Id, .slice A12 G10.1.Values.length c13], ?_, ?_⟩)
    ·first | rw [he42] | rfl
    ·rw [he42]; exact ((((hm.front (n := 2) rfl).front (n := 1) rfl).front (n := 2) rfl).tail.front (n := 2) rfl).tail

def rowsP (l : List DRow) : Prop := (∀ r ∈ l, 0 ≤ r.Id ∧ r.Id ≤ 999 ∧ r.Values.length = 3 ∧ ∀ v ∈ r.Values, 0 ≤ v ∧ v ≤ 99) ∧ ∀ j, j + 1 < l.length → (gt l j).Id < (gt l (j + 1)).Id
theorem gt_app_lt {α : Type} [Inhabited α] {l : List α} {x : α} {j : Nat} (h : j < l.length) : gt (l ++ [x]) j = gt l j := by
  unfold gt
  rw [List.getD_eq_getElem?_getD, List.getD_eq_getElem?_getD, List.getElem?_append_left h]
theorem gt_app_eq {α : Type} [Inhabited α] {l : List α} {x : α} {j : Nat} (h : j = l.length) : gt (l ++ [x]) j = x := by
  subst h
  unfold gt
  rw [List.getD_eq_getElem?_getD, List.getElem?_append_right (Nat.le_refl _), Nat.sub_self]
  rfl
theorem spec_l3Rows_fact (b : List Int) (D : Dl1Cur) (x1 : Int) (h0 : 0 ≤ x1) (h1 : x1 ≤ 100) : rowsP (spec_l3Rows_m b D x1).1 ∧ (((spec_l3Rows_m b D x1).1.length : Nat) : Int) ≤ x1 := by
  have hw2 := wrap_id (n := x1 + 1) (by omega) (by omega)
  unfold spec_l3Rows_m
  rw [hw2]
  have hb1 := spec_l1Below_rng b D 3
  have hb2 := spec_l1Below_rng b (spec_l1Below_m b D 3).2 (x1 + 1)
  have hn1 := hb1.2.1 (by omega)
  have hn2 := hb2.2.1 (by omega)
  generalize (spec_l1Below_m b D 3).1 = id0 at hb1 hn1
  generalize hG : spec_l1Below_m b (spec_l1Below_m b D 3).2 (x1 + 1) = G at hb2 hn2
  obtain ⟨s', h2, h3⟩ := rngb_invP (R := ((List DRow) × Dl1Cur)) (b := fun k (s : (List DRow) × Int × Int × Nat × Int) => spec_l3Rows_b1 b k s.1 s.2.1 s.2.2.1 s.2.2.2.1 s.2.2.2.2)
    (P := fun k s => rowsP s.1 ∧ s.1.length = k ∧ 0 ≤ s.2.2.1 ∧ s.2.2.1 + (k : Int) = G.1 ∧ 0 ≤ s.2.1 ∧ s.2.1 ≤ 2 + 3 * (k : Int) ∧ ∀ r ∈ s.1, r.Id < s.2.1)
    (Q := fun s => rowsP s.1 ∧ ((s.1.length : Nat) : Int) ≤ x1) (fun k s ⟨p1, p2, p3, p4, p5, p6, p7⟩ => by
      show (∃ s', spec_l3Rows_b1 b k s.1 s.2.1 s.2.2.1 s.2.2.2.1 s.2.2.2.2 = _ ∧ _) ∨ ∃ s', spec_l3Rows_b1 b k s.1 s.2.1 s.2.2.1 s.2.2.2.1 s.2.2.2.2 = _ ∧ _
      unfold spec_l3Rows_b1
      by_cases h : 0 < s.2.2.1
      · rw [decide_eq_true h, cond_true]
        have hr := spec_l3Row_fact b (⟨s.2.2.2.1, s.2.2.2.2⟩ : Dl1Cur) s.2.1
        have hb := spec_l1Below_rng b (spec_l3Row_m b (⟨s.2.2.2.1, s.2.2.2.2⟩ : Dl1Cur) s.2.1).2 3
        have hb' := hb.2.1 (by omega)
        have w1 := wrap_id (n := s.2.1 + 1) (by omega) (by omega)
        have w2 := wrap_id (n := s.2.1 + 1 + (spec_l1Below_m b (spec_l3Row_m b (⟨s.2.2.2.1, s.2.2.2.2⟩ : Dl1Cur) s.2.1).2 3).1) (by omega) (by omega)
        have w3 := wrap_id (n := s.2.2.1 - 1) (by omega) (by omega)
        refine .inl ⟨_, rfl, ⟨fun r hr2 => ?_, fun j hj => ?_⟩, ?_, ?_, ?_, ?_, ?_, fun r hr2 => ?_⟩
        · rcases List.mem_append.1 hr2 with hr2 | hr2
          · exact p1.1 r hr2
          · rw [List.mem_singleton.1 hr2]
            exact ⟨by rw [hr.1]; exact p5, by rw [hr.1]; omega, hr.2.1, hr.2.2⟩
        · have hj' : j + 1 < (s.1 ++ [(spec_l3Row_m b (⟨s.2.2.2.1, s.2.2.2.2⟩ : Dl1Cur) s.2.1).1]).length := hj
          rw [List.length_append] at hj'
          show (gt (s.1 ++ [(spec_l3Row_m b (⟨s.2.2.2.1, s.2.2.2.2⟩ : Dl1Cur) s.2.1).1]) j).Id < (gt (s.1 ++ [(spec_l3Row_m b (⟨s.2.2.2.1, s.2.2.2.2⟩ : Dl1Cur) s.2.1).1]) (j + 1)).Id
          have hlen : ([(spec_l3Row_m b (⟨s.2.2.2.1, s.2.2.2.2⟩ : Dl1Cur) s.2.1).1]).length = 1 := rfl
          by_cases hj2 : j + 1 < s.1.length
          · rw [gt_app_lt (by omega), gt_app_lt hj2]
            exact p1.2 j hj2
          · rw [gt_app_lt (by omega), gt_app_eq (by omega), hr.1]
            exact p7 _ (gt_mem (by omega))
        · show (s.1 ++ [_]).length = k + 1
          rw [List.length_append, p2]; rfl
        · show 0 ≤ IntKind.i64.wrap (s.2.2.1 - 1); omega
        · show IntKind.i64.wrap (s.2.2.1 - 1) + ((k + 1 : Nat) : Int) = G.1; omega
        · show 0 ≤ IntKind.i64.wrap (IntKind.i64.wrap (s.2.1 + 1) + _); rw [w1, w2]; omega
        · show IntKind.i64.wrap (IntKind.i64.wrap (s.2.1 + 1) + _) ≤ 2 + 3 * ((k + 1 : Nat) : Int); rw [w1, w2]; omega
        · show r.Id < IntKind.i64.wrap (IntKind.i64.wrap (s.2.1 + 1) + _)
          rw [w1, w2]
          rcases List.mem_append.1 hr2 with hr2 | hr2
          · have := p7 r hr2; omega
          · rw [List.mem_singleton.1 hr2, hr.1]; omega
      · rw [decide_eq_false h, cond_false]
        exact .inr ⟨s, rfl, p1, by omega⟩) (G.1.toNat + 1 - 0) 0 ([], id0, G.1, G.2.i, G.2.h) ⟨⟨fun r hr => (by cases hr), fun j hj => (by simp at hj)⟩, rfl, hb2.1, (by simp), hb1.1, (by simp; omega), fun r hr => (by cases hr)⟩
  rw [h2]
  rcases h3 with h3 | h3
  · exact h3
  · exfalso
    have h4 := h3.2.2.1
    have h5 := h3.2.2.2.1
    omega
def spec_l3AnyRows_m (x0b : List Int) (x0 : Dl1Cur) : ((List DRow) × Dl1Cur) :=
 cond ((spec_l1Once_m x0b ((spec_l3Rows_m x0b x0 8).2) 6).1) (((spec_l3Rows_m x0b x0 8).1 ++ [(spec_l3Any_m x0b (spec_l1Once_m x0b ((spec_l3Rows_m x0b x0 8).2) 6).2).1]), ((spec_l3Any_m x0b (spec_l1Once_m x0b ((spec_l3Rows_m x0b x0 8).2) 6).2).2)) ((spec_l3Rows_m x0b x0 8).1, (spec_l1Once_m x0b ((spec_l3Rows_m x0b x0 8).2) 6).2)
theorem cb24 : Cb Try.prog 24 := ⟨f24, _, func24, rfl, by decide⟩
theorem spec_l3AnyRows_c (B : Nat) (w0 : World) (is : List It) (w : World) (p : Nat) (z0 : Value) (x0b : List Int) (x0 : Dl1Cur) (r_0 : rdS tU8 w0 B z0 x0b) (s_0 : x0b.length ≤ 68719476736) (hm : Mem B w0 (iBox p 74 [z0, .int .i64 ((x0.i : Nat) : Int), .int .i64 x0.h] :: is) w) :
  Calls Try.prog 24 #[.pointer (some ⟨p, 0, none⟩)] w fun e w' => ∃ x : Value, e = .returned (x) ∧ Mem B w0 (iOwn (tSl tyRow 50) [x] ((spec_l3AnyRows_m x0b x0).1) :: iBox p 74 [z0, .int .i64 ((((spec_l3AnyRows_m x0b x0).2).i : Nat) : Int), .int .i64 ((spec_l3AnyRows_m x0b x0).2).h] :: is) w' := by
 obtain ⟨m1, A2, c3, rfl, q4, r5⟩ := rdS_op r_0
 refine call_enterW (L := [(0, .pointer (some ⟨p, 0, none⟩))]) (N := 14) func24 rfl rfl (Nat.le_of_ble_eq_true rfl) (argsL_cons rfl argsL_nil) hm ?_
 have l6 : x0b.length ≤ 68719476736 := s_0
 refine sr (wa (nt' (sr (wm ?_))))
 refine WM_callW (χ := Value) (val := fun x => x) (js := fun x => (iOwn (tSl tyRow 50) [x] ((spec_l3Rows_m x0b x0 8).1) :: iBox p 74 [.slice A2 x0b.length c3, .int .i64 ((((spec_l3Rows_m x0b x0 8).2).i : Nat) : Int), .int .i64 ((spec_l3Rows_m x0b x0 8).2).h] :: (is))) (cl_fn cb50 rfl) (fun W hm => spec_l3Rows_c B w0 (is) W p _ x0b x0 r5 8 s_0 (⟨by omega, by omega⟩) (hm.front (n := 0) rfl)) (Wd_none rfl) (by decide) (fun z7 => ?_)
 have hl8 := (spec_l3Rows_fact x0b x0 8 (by omega) (by omega)).2
 refine WM_form (n := 0) rfl ?_
 rintro A8 c9 rfl m10
 refine wa (nt' (CM_seq (sr (wm ?_))))
 let I2 : It := iOwn (tSl tyRow 50) [.slice A8 ((spec_l3Rows_m x0b x0 8).1).length c9] ((spec_l3Rows_m x0b x0 8).1)
 refine WM_callW (χ := Unit) (val := fun x => .bool ((spec_l1Once_m x0b ((spec_l3Rows_m x0b x0 8).2) 6).1)) (js := fun x => (iBox p 74 [.slice A2 x0b.length c3, .int .i64 ((((spec_l1Once_m x0b ((spec_l3Rows_m x0b x0 8).2) 6).2).i : Nat) : Int), .int .i64 ((spec_l1Once_m x0b ((spec_l3Rows_m x0b x0 8).2) 6).2).h] :: (I2 :: is))) (cl_fn cb51 rfl) (fun W hm => spec_l1Once_c B w0 (I2 :: is) W p _ x0b ((spec_l3Rows_m x0b x0 8).2) r5 6 s_0 (hm.front (n := 1) rfl)) (Wd_none rfl) (by decide) (fun z12 => ?_)
 obtain ⟨G13, hG13⟩ : ∃ G, G = (spec_l1Once_m x0b ((spec_l3Rows_m x0b x0 8).2) 6) := ⟨_, rfl⟩
 rw [← hG13]
 refine nt' ?_
 rcases Bool.eq_false_or_eq_true G13.1 with g15 | g15
 ·
  refine CM_condT rfl g15 ?_
  refine CM_region (wm (wm ?_))
  refine WM_callW (χ := List Value) (val := fun x => .agg x.toArray) (js := fun x => (iOwn tyRow x ((spec_l3Any_m x0b G13.2).1) :: iBox p 74 [.slice A2 x0b.length c3, .int .i64 ((((spec_l3Any_m x0b G13.2).2).i : Nat) : Int), .int .i64 ((spec_l3Any_m x0b G13.2).2).h] :: (I2 :: is))) (cl_fn cb52 rfl) (fun W hm => spec_l3Any_c B w0 (I2 :: is) W p _ x0b G13.2 r5 s_0 (hm.front (n := 0) rfl)) (Wd_none rfl) (by decide) (fun z16 => ?_)
  refine tyRow_sp ?_
  rintro v17 rfl
  refine WM_form (n := 0) rfl ?_
  rintro A18 c19 rfl m20
  let K1 : List Value := [.int .i64 (((spec_l3Any_m x0b G13.2).1).Id), .slice A18 (((spec_l3Any_m x0b G13.2).1).Values).length c19]
  refine WM_build (cs := K1) underlying28 type50 rfl (by decide) (by decide) rfl (by kernel_rfl) (Wd_none rfl) (by decide) (fun p22 => ?_)
  refine ap1 tyRow 50 (.slice A8 ((spec_l3Rows_m x0b x0 8).1).length c9) ((spec_l3Rows_m x0b x0 8).1) ((spec_l3Any_m x0b G13.2).1) [iOwn (tSl tInt 3) [.slice A18 (((spec_l3Any_m x0b G13.2).1).Values).length c19] (((spec_l3Any_m x0b G13.2).1).Values)] (iBox p 74 [.slice A2 x0b.length c3, .int .i64 ((((spec_l3Any_m x0b G13.2).2).i : Nat) : Int), .int .i64 (((spec_l3Any_m x0b G13.2).2).h)] :: is) K1 (fun W hm => (((hm.front (n := 1) rfl).front (n := 3) rfl).front (n := 2) rfl)) (fun _ _ hs => Els.single (tyRow_join (x := ((spec_l3Any_m x0b G13.2).1)) hs)) underlying28 type50 (show (((spec_l3Rows_m x0b x0 8).1).length + 1) * 32 ≤ 140737488355328 from by omega) (fun v23 => ?_)
  refine WM_form (n := 0) rfl ?_
  rintro A24 c25 rfl m26
  refine wa (nt' (sr (wm (wa (nt' (CM_ret ?_))))))
  have he28 := (show spec_l3AnyRows_m x0b x0 = (((spec_l3Rows_m x0b x0 8).1 ++ [(spec_l3Any_m x0b G13.2).1]), ((spec_l3Any_m x0b G13.2).2)) from by subst hG13; exact cond_t g15 (rfl))
  refine QM_r1 rfl (RR_tmp rfl) (fun W hm => ⟨.slice A24 ((spec_l3Rows_m x0b x0 8).1 ++ [(spec_l3Any_m x0b G13.2).1]).length c25, ?_, ?_⟩)
  ·first | rw [he28] | rfl
  ·rw [he28]; exact hm
 ·
  refine CM_condF rfl g15 ?_
  refine CM_skip (QM_then (sr (wm (wa (nt' (CM_ret ?_))))))
  have he29 := (show spec_l3AnyRows_m x0b x0 = ((spec_l3Rows_m x0b x0 8).1, G13.2) from by subst hG13; exact cond_f g15 (rfl))
  refine QM_r1 rfl (RR_tmp rfl) (fun W hm => ⟨.slice A8 ((spec_l3Rows_m x0b x0 8).1).length c9, ?_, ?_⟩)
  ·first | rw [he29] | rfl
  ·rw [he29]; exact ((hm.front (n := 0) rfl).front (n := 1) rfl)

def spec_DrawAnnotateRows_m (x0 : (List Int)) : (DIndex × (List DRow)) :=
 ((spec_l6Index_m x0 (spec_l1New_m x0)).1, (spec_l3AnyRows_m x0 (spec_l6Index_m x0 (spec_l1New_m x0)).2).1)
theorem cb5 : Cb Try.prog 5 := ⟨f5, _, func5, rfl, by decide⟩
theorem spec_DrawAnnotateRows_c (w : World) (z0 : Value) (x0 : (List Int)) (r_0 : rdS tU8 w w.heap.size z0 x0) (s_0 : x0.length ≤ 68719476736) :
  Calls Try.prog 5 #[z0] w fun e w' => ∃ v : List Value × Value, e = .returned (.tuple #[.agg v.1.toArray, v.2]) ∧ Mem w.heap.size w [iOwn tyIndex v.1 (spec_DrawAnnotateRows_m x0).1, iOwn (tSl tyRow 50) [v.2] (spec_DrawAnnotateRows_m x0).2] w' := by
 obtain ⟨m1, A2, c3, rfl, q4, r5⟩ := rdS_op r_0
 have l6 : x0.length ≤ 68719476736 := s_0
 refine ce1 (L := [(0, .slice A2 x0.length c3)]) (N := 13) func5 ?_
 refine sr ?_
 refine WM_alloc type27 rfl (Wd_none rfl) (by decide) (fun p7 => ?_)
 refine wa (nt' (sr (wm ?_)))
 refine WM_call (χ := Nat) (val := fun p => .pointer (some ⟨p, 0, none⟩)) (js := fun p => [iBox p 74 [.slice A2 x0.length c3, .int .i64 (((spec_l1New_m x0).i : Nat) : Int), .int .i64 ((spec_l1New_m x0).h)]]) (cl_fn cb22 rfl) (fun W hm => spec_l1New_c W _ x0 (hm.rdS0 r5) s_0) (Wd_none rfl) (by decide) (fun p8 => ?_)
 refine wa (nt' (sr (wm ?_)))
 let I3 : It := iBox p7 27 [.slice none 0 0, .slice none 0 0]
 refine WM_callW (χ := List Value) (val := fun x => .agg x.toArray) (js := fun x => (iOwn tyIndex x ((spec_l6Index_m x0 (spec_l1New_m x0)).1) :: iBox p8 74 [.slice A2 x0.length c3, .int .i64 ((((spec_l6Index_m x0 (spec_l1New_m x0)).2).i : Nat) : Int), .int .i64 ((spec_l6Index_m x0 (spec_l1New_m x0)).2).h] :: [I3])) (cl_fn cb23 rfl) (fun W hm => spec_l6Index_c w.heap.size w [I3] W p8 _ x0 (spec_l1New_m x0) r5 s_0 hm) (Wd_none rfl) (by decide) (fun z9 => ?_)
 obtain ⟨G10, hG10⟩ : ∃ G, G = (spec_l6Index_m x0 (spec_l1New_m x0)) := ⟨_, rfl⟩
 rw [← hG10]
 refine tyIndex_sp ?_
 rintro ⟨v11, v12⟩ rfl
 refine WM_form (n := 0) rfl ?_
 rintro A13 c14 rfl m15
 refine WM_formP (n := 1) rfl ?_
 rintro A17 c18 rfl m19
 refine WM_alloc type27 rfl (Wd_none rfl) (by decide) (fun p21 => ?_)
 let K1 : List Value := [.slice A13 G10.1.Queries.length c14, .slice A17 G10.1.Fields.length c18]
 let I4 : It := iOwn (tSl tyQuery 39) [.slice A13 G10.1.Queries.length c14] G10.1.Queries
 let I5 : It := iOwn (tPa (tSl tySpan 86) 64) [.slice A17 G10.1.Fields.length c18] G10.1.Fields
 refine sb 0 K1 [I4, I5, iBox p8 74 [.slice A2 x0.length c3, .int .i64 ((G10.2.i : Nat) : Int), .int .i64 G10.2.h], I3] (fun W hm => hm) type27 ?_
 refine nt' (CM_seq ?_)
 refine rb 5 (s := [iBox p21 27 K1, I4, I5]) (pk [0, 1, 2]) ?_
 refine qt 5 0 1 rfl (fun W hm => rv_loadN (cs := K1) underlying27 type27 rfl rfl (hm.boxCells (n := 0) rfl)) ?_
 refine qt 5 1 3 rfl vmv ?_
 refine qo 5 2 7 rfl ?_
 refine WM_callW (χ := Value) (val := fun x => x) (js := fun x => (iOwn (tSl tyRow 50) [x] ((spec_l3AnyRows_m x0 G10.2).1) :: iBox p8 74 [.slice A2 x0.length c3, .int .i64 ((((spec_l3AnyRows_m x0 G10.2).2).i : Nat) : Int), .int .i64 ((spec_l3AnyRows_m x0 G10.2).2).h] :: [iBox p21 27 K1, I4, I5, I3])) (cl_fn cb24 rfl) (fun W hm => spec_l3AnyRows_c w.heap.size w [iBox p21 27 K1, I4, I5, I3] W p8 _ x0 G10.2 r5 s_0 (hm.pick [3, 0, 1, 2, 4] (by decide))) (Wd_none rfl) (by decide) (fun z22 => ?_)
 refine WM_form (n := 0) rfl ?_
 rintro A23 c24 rfl m25
 refine qn (pk [2, 3, 4]) ?_
 refine qo 5 3 15 rfl ?_
 let K2 : List Value := [.slice A2 x0.length c3, .int .i64 ((((spec_l3AnyRows_m x0 G10.2).2).i : Nat) : Int), .int .i64 (((spec_l3AnyRows_m x0 G10.2).2).h)]
 let I6 : It := iOwn (tSl tyRow 50) [.slice A23 ((spec_l3AnyRows_m x0 G10.2).1).length c24] ((spec_l3AnyRows_m x0 G10.2).1)
 refine sb 0 K1 [I6, iBox p8 74 K2, iBox p21 27 K1, I4, I5] (pk [5, 0, 1, 2, 3, 4]) type27 ?_
 refine qn (pk [3, 4, 5]) ?_
 refine qt 5 4 31 rfl (fun W hm => rv_assign rfl) ?_
 refine QB_done (by kernel_rfl) ?_
 refine QM_then (CM_ret ?_)
 have he27 := (show spec_DrawAnnotateRows_m x0 = (G10.1, (spec_l3AnyRows_m x0 G10.2).1) from by subst hG10; exact rfl)
 refine QM_items (js := (iOwn tyIndex K1 G10.1 :: [iBox p7 27 K1, I6, iBox p8 74 K2, iBox p21 27 K1])) (fun W hm => Mem.join (is := [I4, I5]) (js := [iBox p7 27 K1, I6, iBox p8 74 K2, iBox p21 27 K1]) (fun _ _ hs => tyIndex_join (x := G10.1) hs) (hm.pick [4, 5, 0, 1, 2, 3] (by decide))) ?_
 refine QM_r2 rfl (RR_cell (n := 1) rfl rfl underlying27 type27 rfl) (RR_tmp rfl) (fun W hm => ⟨(K1, .slice A23 ((spec_l3AnyRows_m x0 G10.2).1).length c24), ?_, ?_⟩)
 ·first | rw [he27] | rfl
  try rfl
 ·rw [he27]; exact (hm.pick [0, 2] (by decide))

def impl_within_m (x0 : Int) (x1 : Int) (x2 : Int) : Bool :=
 cond (decide (x1 ≤ x0)) (decide (x0 ≤ x2)) false
theorem cb86 : Cb Try.prog 86 := ⟨f86, _, func86, rfl, by decide⟩
theorem impl_within_c (w : World) (x0 : Int) (x1 : Int) (x2 : Int) :
  Calls Try.prog 86 #[.int .i64 x0, .int .i64 x1, .int .i64 x2] w fun e w' => e = .returned (.bool (impl_within_m x0 x1 x2)) ∧ Below w.heap.size w w' := by
 refine ce3 (L := [(0, .int .i64 x0), (1, .int .i64 x1), (2, .int .i64 x2)]) (N := 15) func86 ?_
 refine sr (wa (nt' (sr (wm (wm ?_)))))
 refine wv (fun W hm => rv_geq rfl rfl) ?_
 refine wm ?_
 by_cases h1 : x1 ≤ x0
 ·have g2 := decide_eq_true h1
  refine wg vmv g2 ?_
  refine wg vmv g2 ?_
  refine wg (fun W hm => rv_leq rfl rfl) g2 ?_
  refine wv (vpT g2) ?_
  refine wa (nt' (CM_ret ?_))
  exact rtb (h := cond_t g2 (rfl))
 ·have g2 := decide_eq_false h1
  refine ws g2 ?_
  refine ws g2 ?_
  refine ws g2 ?_
  refine wv (vpF g2) ?_
  refine wa (nt' (CM_ret ?_))
  exact rtb (h := cond_f g2 (rfl))

theorem impl_within_fact {x a b : Int} (h : impl_within_m x a b = true) : a ≤ x ∧ x ≤ b := by
  unfold impl_within_m at h
  by_cases h1 : a ≤ x
  · rw [decide_eq_true h1] at h
    exact ⟨h1, of_decide_eq_true h⟩
  · rw [decide_eq_false h1] at h
    cases h
theorem impl_within_iff (x a b : Int) : impl_within_m x a b = decide (a ≤ x ∧ x ≤ b) := by
  unfold impl_within_m
  by_cases h1 : a ≤ x
  · by_cases h2 : x ≤ b
    · simp [h1, h2]
    · simp [h1, h2]
  · simp [h1]

def impl_isField_m (x0 : Int) : Bool :=
 (impl_within_m x0 0 2)
theorem cb75 : Cb Try.prog 75 := ⟨f75, _, func75, rfl, by decide⟩
theorem impl_isField_c (w : World) (x0 : Int) :
  Calls Try.prog 75 #[.int .i64 x0] w fun e w' => e = .returned (.bool (impl_isField_m x0)) ∧ Below w.heap.size w w' := by
 refine ce1 (L := [(0, .int .i64 x0)]) (N := 5) func75 ?_
 refine sr (wa (nt' (sr (wm ?_))))
 refine wcv (cl_fn cb86 rfl) (fun W hm => impl_within_c W x0 0 2) ?_
 refine wa (nt' (CM_ret ?_))
 exact rtb (h := rfl)

def impl_IsCond_m (x0 : DCond) : Bool :=
 cond (impl_isField_m x0.Field) (cond (decide (0 ≤ x0.Low)) (cond (decide (x0.Low ≤ x0.High)) (decide (x0.High ≤ 99)) false) false) false
theorem cb87 : Cb Try.prog 87 := ⟨f87, _, func87, rfl, by decide⟩
theorem impl_IsCond_c (w : World) (z0 : List Value) (x0 : DCond) (r_0 : tyCond.rd w w.heap.size z0 x0) :
  Calls Try.prog 87 #[.agg z0.toArray] w fun e w' => e = .returned (.bool (impl_IsCond_m x0)) ∧ Below w.heap.size w w' := by
 obtain rfl := tyCond_rd r_0
 refine ce1 (L := [(0, .agg #[.int .i64 x0.Field, .int .i64 x0.Low, .int .i64 x0.High])]) (N := 23) func87 ?_
 refine sr ?_
 refine WM_box rfl (Wd_none rfl) (by decide) (fun p1 => ?_)
 refine wa (nt' (sr ?_))
 refine wv (vf underlying90 rfl type3) ?_
 refine wv (vl 0 0 underlying3) ?_
 refine wcv (cl_fn cb75 rfl) (fun W hm => impl_isField_c W x0.Field) ?_
 refine wm ?_
 rcases Bool.eq_false_or_eq_true (impl_isField_m x0.Field) with g3 | g3
 ·
  refine wg (vf underlying90 rfl type3) g3 ?_
  refine wg (vl 0 1 underlying3) g3 ?_
  refine wg (fun W hm => rv_geq rfl rfl) g3 ?_
  refine wv (vpT g3) ?_
  refine wm ?_
  by_cases h4 : 0 ≤ x0.Low
  ·have g5 := decide_eq_true h4
   refine wg (vf underlying90 rfl type3) g5 ?_
   refine wg (vl 0 1 underlying3) g5 ?_
   refine wg (vf underlying90 rfl type3) g5 ?_
   refine wg (vl 0 2 underlying3) g5 ?_
   refine wg (fun W hm => rv_leq rfl rfl) g5 ?_
   refine wv (vpT g5) ?_
   refine wm ?_
   by_cases h6 : x0.Low ≤ x0.High
   ·have g7 := decide_eq_true h6
    refine wg (vf underlying90 rfl type3) g7 ?_
    refine wg (vl 0 2 underlying3) g7 ?_
    refine wg (fun W hm => rv_leq rfl rfl) g7 ?_
    refine wv (vpT g7) ?_
    refine wa (nt' (CM_ret ?_))
    exact rtb (h := cond_t g3 (cond_t g5 (cond_t g7 (rfl))))
   ·have g7 := decide_eq_false h6
    refine ws g7 ?_
    refine ws g7 ?_
    refine ws g7 ?_
    refine wv (vpF g7) ?_
    refine wa (nt' (CM_ret ?_))
    exact rtb (h := cond_t g3 (cond_t g5 (cond_f g7 (rfl))))
  ·have g5 := decide_eq_false h4
   refine ws g5 ?_
   refine ws g5 ?_
   refine ws g5 ?_
   refine ws g5 ?_
   refine ws g5 ?_
   refine wv (vpF g5) ?_
   refine wm ?_
   refine wk ?_
   refine wk ?_
   refine wk ?_
   refine wv (vpF rfl) ?_
   refine wa (nt' (CM_ret ?_))
   exact rtb (h := cond_t g3 (cond_f g5 (rfl)))
 ·
  refine ws g3 ?_
  refine ws g3 ?_
  refine ws g3 ?_
  refine wv (vpF g3) ?_
  refine wm ?_
  refine wk ?_
  refine wk ?_
  refine wk ?_
  refine wk ?_
  refine wk ?_
  refine wv (vpF rfl) ?_
  refine wm ?_
  refine wk ?_
  refine wk ?_
  refine wk ?_
  refine wv (vpF rfl) ?_
  refine wa (nt' (CM_ret ?_))
  exact rtb (h := cond_f g3 (rfl))

def impl_IsQuery_b2 (x0 : DQuery) (k45 : Nat) : Bool ⊕ (Unit) :=
 cond (impl_isField_m (gt x0.Out k45)) (Sum.inr ()) (Sum.inl false)
def impl_IsQuery_b1 (x0 : DQuery) (k22 : Nat) : Bool ⊕ (Unit) :=
 cond (impl_IsCond_m (gt x0.Conds k22)) (cond (decide (0 < ((k22 : Nat) : Int))) (cond (decide (((gt x0.Conds k22).Field) ≤ ((gt x0.Conds (k22 - 1)).Field))) (Sum.inl false) (Sum.inr ())) (Sum.inr ())) (Sum.inl false)
def impl_IsQuery_m (x0 : DQuery) : Bool :=
 cond (impl_within_m x0.Id 0 23) (cond (impl_within_m x0.Tenant 0 3) (cond (decide (3 < ((x0.Conds.length : Nat) : Int))) false (Sum.elim id (fun (s1_ : Unit) => Sum.elim id (fun (s : Unit) => (impl_within_m ((x0.Out.length : Nat) : Int) 1 3)) (rng (R := Bool) (fun k (_ : Unit) => impl_IsQuery_b2 x0 k) (x0.Out.length - 0) 0 ())) (rng (R := Bool) (fun k (_ : Unit) => impl_IsQuery_b1 x0 k) (x0.Conds.length - 0) 0 ()))) false) false
theorem cb74 : Cb Try.prog 74 := ⟨f74, _, func74, rfl, by decide⟩
theorem impl_IsQuery_c (w : World) (z0 : List Value) (x0 : DQuery) (r_0 : tyQuery.rd w w.heap.size z0 x0) :
  Calls Try.prog 74 #[.agg z0.toArray] w fun e w' => e = .returned (.bool (impl_IsQuery_m x0)) ∧ Below w.heap.size w w' := by
 obtain ⟨v1, v3, rfl, r2, r4⟩ := tyQuery_rd r_0
 obtain ⟨m5, A6, c7, rfl, q8, r9⟩ := rdS_op r2
 obtain ⟨m10, A11, c12, rfl, q13, r14⟩ := rdS_op r4
 refine ce1 (L := [(0, .agg #[.int .i64 x0.Id, .int .i64 x0.Tenant, .slice A6 x0.Conds.length c7, .slice A11 x0.Out.length c12])]) (N := 66) func74 ?_
 refine sr ?_
 refine WM_box rfl (Wd_none rfl) (by decide) (fun p15 => ?_)
 refine wa (nt' (CM_seq (sr ?_)))
 refine wv (vf underlying39 rfl type3) ?_
 refine wv (vl 0 0 underlying3) ?_
 refine wcv (cl_fn cb86 rfl) (fun W hm => impl_within_c W x0.Id 0 23) ?_
 refine wv vnot ?_
 refine wm ?_
 rcases Bool.eq_false_or_eq_true (impl_within_m x0.Id 0 23) with g17 | g17
 ·
  have hw := impl_within_fact g17
  refine wg (vf underlying39 rfl type3) (nt g17) ?_
  refine wg (vl 0 1 underlying3) (nt g17) ?_
  refine WM_callV (cl_fn cb86 rfl) (fun W hm => impl_within_c W x0.Tenant 0 3) (Wd_some rfl rfl rfl (bw (nt g17) rfl)) (by decide) ?_
  refine wg vnot (nt g17) ?_
  refine wv (vpF (nt g17)) ?_
  refine wm ?_
  rcases Bool.eq_false_or_eq_true (impl_within_m x0.Tenant 0 3) with g19 | g19
  ·
   have hw := impl_within_fact g19
   refine wg (vf underlying39 rfl type36) (nt g19) ?_
   refine wg (vl 0 2 underlying36) (nt g19) ?_
   refine wg (vlen underlying36) (nt g19) ?_
   refine wg (fun W hm => rv_gtr rfl rfl) (nt g19) ?_
   refine wv (vpF (nt g19)) ?_
   refine nt' ?_
   by_cases h20 : 3 < ((x0.Conds.length : Nat) : Int)
   ·have g21 := decide_eq_true h20
    refine CM_condT rfl g21 ?_
    refine sr (wa (nt' (CM_ret (QM_then_ret ?_))))
    exact rtb (h := cond_t g17 (cond_t g19 (cond_t g21 (rfl))))
   ·have g21 := decide_eq_false h20
    refine CM_condF rfl g21 ?_
    refine CM_skip (QM_then (CM_seq (sr ?_)))
    refine wv (vf underlying39 rfl type36) ?_
    refine wv (vl 0 2 underlying36) ?_
    refine wv (vlen underlying36) ?_
    refine wm (nt' (CM_block ?_))
    let F1 := fun k (_ : Unit) => impl_IsQuery_b1 x0 k
    let R3 := rng (R := Bool) F1
    let K5 : List Value := [.int .i64 x0.Id, .int .i64 x0.Tenant, .slice A6 x0.Conds.length c7, .slice A11 x0.Out.length c12]
    refine CM_loop (σ := Nat × (Unit) × (Unit)) (fun s => [(1, .pointer (some (⟨p15, 0, none⟩ : Addr))), (24, .slice A6 x0.Conds.length c7), (25, .int .i64 ((x0.Conds.length : Nat) : Int)), (26, .int .i64 ((s.1 : Nat) : Int))]) (fun s => [iBox p15 39 K5]) (fun s => s.1 ≤ x0.Conds.length ∧ R3 (x0.Conds.length - s.1) s.1 s.2.1 = R3 (x0.Conds.length - 0) 0 ()) (fun s => x0.Conds.length - s.1) (0, (), ()) sl4 (fun W hm => hm) ⟨(by omega), rfl⟩ ?_
    rintro ⟨k22, ⟨⟩, ⟨⟩⟩ H25
    obtain ⟨hk23, hF24⟩ : k22 ≤ x0.Conds.length ∧ R3 (x0.Conds.length - k22) k22 () = R3 (x0.Conds.length - 0) 0 () := H25
    show CM Try.prog 66 _ _ _ _ [(1, .pointer (some (⟨p15, 0, none⟩ : Addr))), (24, .slice A6 x0.Conds.length c7), (25, .int .i64 ((x0.Conds.length : Nat) : Int)), (26, .int .i64 ((k22 : Nat) : Int))] [iBox p15 39 K5]
    refine sr ?_
    refine wv vlss ?_
    refine nt' (CM_seq ?_)
    by_cases hl26 : k22 < x0.Conds.length
    ·have g27 := dlT hl26
     refine CM_condT rfl g27 ?_
     refine CM_skip (QM_then (CM_seq (CM_block (sr (wm ?_)))))
     obtain ⟨a28, rfl, hb29, he30⟩ := q8 (by omega)
     refine wv (vix 3 k22 underlying36 type90) ?_
     obtain ⟨_, e32, hc31⟩ := he30 k22 _ (gt_some (show k22 < x0.Conds.length from by omega))
     obtain rfl := tyCond_rd e32
     let K6 : List Value := [.int .i64 ((gt x0.Conds k22).Field), .int .i64 ((gt x0.Conds k22).Low), .int .i64 ((gt x0.Conds k22).High)]
     refine wv (fun W hm => rv_loadN (cs := K6) underlying90 type90 rfl rfl (hm.elCells (show (a28.add (k22 * 3)).block < w.heap.size from by rw [add_block]; exact hb29.1) hc31)) ?_
     refine WM_alloc type90 rfl (Wd_none rfl) (by decide) (fun p33 => ?_)
     refine wa ?_
     refine sb 0 K6 [iBox p15 39 [.int .i64 x0.Id, .int .i64 x0.Tenant, .slice (some a28) x0.Conds.length c7, .slice A11 x0.Out.length c12]] (fun W hm => hm) type90 ?_
     refine nt' (CM_seq ?_)
     refine CM_regionD (by kernel_rfl) (by kernel_rfl) ?_
     refine qv (fun W hm => rv_loadN (cs := K6) underlying90 type90 rfl rfl (hm.boxCells (n := 0) rfl)) ?_
     refine QR_callV (cl_fn cb87 rfl) (fun W hm => impl_IsCond_c W _ (gt x0.Conds k22) (tyCond_mk (x := (gt x0.Conds k22)))) (Wd_none rfl) (by decide) ?_
     refine qv vnot ?_
     refine qm ?_
     rcases Bool.eq_false_or_eq_true (impl_IsCond_m (gt x0.Conds k22)) with g35 | g35
     ·
      refine qg vmv (nt g35) ?_
      refine qg (fun W hm => rv_gtr rfl rfl) (nt g35) ?_
      refine qg vmv (nt g35) ?_
      by_cases h36 : 0 < ((k22 : Nat) : Int)
      ·have g37 := decide_eq_true h36
       refine qg (vf underlying39 rfl type36) g37 ?_
       refine qg (vl 1 2 underlying36) g37 ?_
       refine qg vmv g37 ?_
       refine qg (fun W hm => rv_subN (p := k22) (q := 1) rfl rfl (by omega) (by omega)) g37 ?_
       refine qg (fun W hm => rv_index (sz := 3) (k := k22 - 1) underlying36 type90 rfl rfl rfl (by omega)) g37 ?_
       refine qg (vf underlying90 rfl type3) g37 ?_
       obtain ⟨_, e39, hc38⟩ := he30 (k22 - 1) _ (gt_some (show (k22 - 1) < x0.Conds.length from by omega))
       obtain rfl := tyCond_rd e39
       refine qg (fun W hm => rv_load underlying3 rfl rfl ((hm.cell0 (show ((a28.add ((k22 - 1) * 3)).add 0).block < w.heap.size from by rw [add_block, add_block]; exact hb29.1)).trans (hc38 0 _ rfl))) g37 ?_
       refine qg (vf underlying90 rfl type3) g37 ?_
       refine qg (vl 0 0 underlying3) g37 ?_
       refine qg (fun W hm => rv_geq rfl rfl) g37 ?_
       refine qg (vpT g37) (nt g35) ?_
       refine qv (vpF (nt g35)) ?_
       refine nq' ?_
       by_cases h40 : ((gt x0.Conds k22).Field) ≤ ((gt x0.Conds (k22 - 1)).Field)
       ·have g41 := decide_eq_true h40
        refine CM_condT rfl g41 ?_
        refine sr (wa (nt' (CM_ret (QM_block_ret (QM_then_ret (QM_then_ret (QM_block_ret (QM_then_ret ?_))))))))
        exact rtb (h := cond_t g17 (cond_t g19 (cond_f g21 (fin_inl (rng_ret (body := F1) (k := k22) (s := ()) (show k22 < x0.Conds.length from by omega) (cond_t g35 (cond_t g37 (cond_t g41 (rfl)))) hF24) rfl))))
       ·have g41 := decide_eq_false h40
        refine CM_condF rfl g41 ?_
        refine CM_skip (QM_block_normal (QM_then (CM_region ?_)))
        refine wv (vadN k22 1 (by omega)) ?_
        refine wm (WM_nil ?_)
        have hn42 := rng_next (R := Bool) (body := F1) (k := k22) (s := ()) (s' := ()) (show k22 < x0.Conds.length from by omega) (cond_t g35 (cond_t g37 (cond_f g41 (rfl)))) hF24
        exact QM_round (k22 + 1, (), ()) sl4 (pk [1]) ⟨(by omega), hn42⟩ (rl (by omega))
      ·have g37 := decide_eq_false h36
       refine qs g37 ?_
       refine qs g37 ?_
       refine qs g37 ?_
       refine qs g37 ?_
       refine qs g37 ?_
       refine qs g37 ?_
       refine qs g37 ?_
       refine qs g37 ?_
       refine qs g37 ?_
       refine qs g37 ?_
       refine qg (vpF g37) (nt g35) ?_
       refine qv (vpF (nt g35)) ?_
       refine nq' ?_
       refine CM_condF rfl rfl ?_
       refine CM_skip (QM_block_normal (QM_then (CM_region ?_)))
       refine wv (vadN k22 1 (by omega)) ?_
       refine wm (WM_nil ?_)
       have hn43 := rng_next (R := Bool) (body := F1) (k := k22) (s := ()) (s' := ()) (show k22 < x0.Conds.length from by omega) (cond_t g35 (cond_f g37 (rfl))) hF24
       exact QM_round (k22 + 1, (), ()) sl4 (pk [1]) ⟨(by omega), hn43⟩ (rl (by omega))
     ·
      refine qs (nf g35) ?_
      refine qs (nf g35) ?_
      refine qs (nf g35) ?_
      refine qu ?_
      refine qu ?_
      refine qu ?_
      refine qu ?_
      refine qu ?_
      refine qu ?_
      refine qu ?_
      refine qu ?_
      refine qu ?_
      refine qu ?_
      refine qs (nf g35) ?_
      refine qv (vpT (nf g35)) ?_
      refine nq' ?_
      refine CM_condT rfl rfl ?_
      refine sr (wa (nt' (CM_ret (QM_block_ret (QM_then_ret (QM_then_ret (QM_block_ret (QM_then_ret ?_))))))))
      exact rtb (h := cond_t g17 (cond_t g19 (cond_f g21 (fin_inl (rng_ret (body := F1) (k := k22) (s := ()) (show k22 < x0.Conds.length from by omega) (cond_f g35 (rfl)) hF24) rfl))))
    ·have g27 := dlF hl26
     refine CM_condF rfl g27 ?_
     refine CM_exit (QM_then_exit (QM_then_exit ?_))
     have hE44 : R3 (x0.Conds.length - 0) 0 () = Sum.inr () := rng_end hl26 hF24
     refine QM_block_hit (QM_then (CM_seq (sr ?_)))
     refine wv (vf underlying39 rfl type37) ?_
     refine wv (vl 0 3 underlying37) ?_
     refine wv (vlen underlying37) ?_
     refine wm (nt' (CM_block ?_))
     let F2 := fun k (_ : Unit) => impl_IsQuery_b2 x0 k
     let R4 := rng (R := Bool) F2
     refine CM_loop (σ := Nat × (Unit) × (Unit)) (fun s => [(1, .pointer (some (⟨p15, 0, none⟩ : Addr))), (52, .slice A11 x0.Out.length c12), (53, .int .i64 ((x0.Out.length : Nat) : Int)), (54, .int .i64 ((s.1 : Nat) : Int))]) (fun s => [iBox p15 39 K5]) (fun s => s.1 ≤ x0.Out.length ∧ R4 (x0.Out.length - s.1) s.1 s.2.1 = R4 (x0.Out.length - 0) 0 ()) (fun s => x0.Out.length - s.1) (0, (), ()) sl4 (fun W hm => hm) ⟨(by omega), rfl⟩ ?_
     rintro ⟨k45, ⟨⟩, ⟨⟩⟩ H48
     obtain ⟨hk46, hF47⟩ : k45 ≤ x0.Out.length ∧ R4 (x0.Out.length - k45) k45 () = R4 (x0.Out.length - 0) 0 () := H48
     show CM Try.prog 66 _ _ _ _ [(1, .pointer (some (⟨p15, 0, none⟩ : Addr))), (52, .slice A11 x0.Out.length c12), (53, .int .i64 ((x0.Out.length : Nat) : Int)), (54, .int .i64 ((k45 : Nat) : Int))] [iBox p15 39 K5]
     refine sr ?_
     refine wv vlss ?_
     refine nt' (CM_seq ?_)
     by_cases hl49 : k45 < x0.Out.length
     ·have g50 := dlT hl49
      refine CM_condT rfl g50 ?_
      refine CM_skip (QM_then (CM_seq (CM_block (sr ?_))))
      obtain ⟨a51, rfl, hb52, he53⟩ := q13 (by omega)
      refine wv (vix 1 k45 underlying37 type3) ?_
      refine wv (fun W hm => rv_load underlying3 rfl rfl ((hm.cell0 (show (a51.add (k45 * 1)).block < w.heap.size from by rw [add_block]; exact hb52.1)).trans (rdS_int he53 k45 (by omega)))) ?_
      refine wa (nt' (sr (wm ?_)))
      refine wcv (cl_fn cb75 rfl) (fun W hm => impl_isField_c W (gt x0.Out k45)) ?_
      refine wv vnot ?_
      refine nt' ?_
      rcases Bool.eq_false_or_eq_true (impl_isField_m (gt x0.Out k45)) with g55 | g55
      ·
       refine CM_condF rfl (nt g55) ?_
       refine CM_skip (QM_block_normal (QM_then (CM_region ?_)))
       refine wv (vadN k45 1 (by omega)) ?_
       refine wm (WM_nil ?_)
       have hn56 := rng_next (R := Bool) (body := F2) (k := k45) (s := ()) (s' := ()) (show k45 < x0.Out.length from by omega) (cond_t g55 (rfl)) hF47
       exact QM_round (k45 + 1, (), ()) sl4 (fun W hm => hm) ⟨(by omega), hn56⟩ (rl (by omega))
      ·
       refine CM_condT rfl (nf g55) ?_
       refine sr (wa (nt' (CM_ret (QM_block_ret (QM_then_ret (QM_then_ret (QM_block_ret (QM_then_ret ?_))))))))
       exact rtb (h := cond_t g17 (cond_t g19 (cond_f g21 (fin_inr hE44 (fin_inl (rng_ret (body := F2) (k := k45) (s := ()) (show k45 < x0.Out.length from by omega) (cond_f g55 (rfl)) hF47) rfl)))))
     ·have g50 := dlF hl49
      refine CM_condF rfl g50 ?_
      refine CM_exit (QM_then_exit (QM_then_exit ?_))
      have hE57 : R4 (x0.Out.length - 0) 0 () = Sum.inr () := rng_end hl49 hF47
      refine QM_block_hit (QM_then (sr ?_))
      refine wv (vf underlying39 rfl type37) ?_
      refine wv (vl 0 3 underlying37) ?_
      refine wv (vlen underlying37) ?_
      refine wcv (cl_fn cb86 rfl) (fun W hm => impl_within_c W ((x0.Out.length : Nat) : Int) 1 3) ?_
      refine wa (nt' (CM_ret ?_))
      exact rtb (h := cond_t g17 (cond_t g19 (cond_f g21 (fin_inr hE44 (fin_inr hE57 (rfl))))))
  ·
   refine ws (nf g19) ?_
   refine ws (nf g19) ?_
   refine ws (nf g19) ?_
   refine ws (nf g19) ?_
   refine wv (vpT (nf g19)) ?_
   refine nt' ?_
   refine CM_condT rfl rfl ?_
   refine sr (wa (nt' (CM_ret (QM_then_ret ?_))))
   exact rtb (h := cond_t g17 (cond_f g19 (rfl)))
 ·
  refine ws (nf g17) ?_
  refine ws (nf g17) ?_
  refine ws (nf g17) ?_
  refine ws (nf g17) ?_
  refine wv (vpT (nf g17)) ?_
  refine wm ?_
  refine wk ?_
  refine wk ?_
  refine wk ?_
  refine wk ?_
  refine wv (vpT rfl) ?_
  refine nt' ?_
  refine CM_condT rfl rfl ?_
  refine sr (wa (nt' (CM_ret (QM_then_ret ?_))))
  exact rtb (h := cond_f g17 (rfl))

def impl_AreQueries_b1 (x0 : (List DQuery)) (k6 : Nat) : Bool ⊕ (Unit) :=
 cond (impl_IsQuery_m (gt x0 k6)) (cond (decide (0 < ((k6 : Nat) : Int))) (cond (decide (((gt x0 k6).Id) ≤ ((gt x0 (k6 - 1)).Id))) (Sum.inl false) (Sum.inr ())) (Sum.inr ())) (Sum.inl false)
def impl_AreQueries_m (x0 : (List DQuery)) : Bool :=
 Sum.elim id (fun (s : Unit) => (decide (((x0.length : Nat) : Int) ≤ 24))) (rng (R := Bool) (fun k (_ : Unit) => impl_AreQueries_b1 x0 k) (x0.length - 0) 0 ())
theorem cb53 : Cb Try.prog 53 := ⟨f53, _, func53, rfl, by decide⟩
theorem impl_AreQueries_c (w : World) (z0 : Value) (x0 : (List DQuery)) (r_0 : rdS tyQuery w w.heap.size z0 x0) :
  Calls Try.prog 53 #[z0] w fun e w' => e = .returned (.bool (impl_AreQueries_m x0)) ∧ Below w.heap.size w w' := by
 obtain ⟨m1, A2, c3, rfl, q4, r5⟩ := rdS_op r_0
 refine ce1 (L := [(0, .slice A2 x0.length c3)]) (N := 34) func53 ?_
 refine sr (wa (nt' (CM_seq (sr (wm ?_)))))
 refine wv (vlen underlying24) ?_
 refine wm (nt' (CM_block ?_))
 let F1 := fun k (_ : Unit) => impl_AreQueries_b1 x0 k
 let R2 := rng (R := Bool) F1
 refine CM_loop (σ := Nat × (Unit) × (Unit)) (fun s => [(0, .slice A2 x0.length c3), (5, .slice A2 x0.length c3), (6, .int .i64 ((x0.length : Nat) : Int)), (7, .int .i64 ((s.1 : Nat) : Int))]) (fun s => []) (fun s => s.1 ≤ x0.length ∧ R2 (x0.length - s.1) s.1 s.2.1 = R2 (x0.length - 0) 0 ()) (fun s => x0.length - s.1) (0, (), ()) sl4 (fun W hm => hm) ⟨(by omega), rfl⟩ ?_
 rintro ⟨k6, ⟨⟩, ⟨⟩⟩ H9
 obtain ⟨hk7, hF8⟩ : k6 ≤ x0.length ∧ R2 (x0.length - k6) k6 () = R2 (x0.length - 0) 0 () := H9
 show CM Try.prog 34 _ _ _ _ [(0, .slice A2 x0.length c3), (5, .slice A2 x0.length c3), (6, .int .i64 ((x0.length : Nat) : Int)), (7, .int .i64 ((k6 : Nat) : Int))] []
 refine sr ?_
 refine wv vlss ?_
 refine nt' (CM_seq ?_)
 by_cases hl10 : k6 < x0.length
 ·have g11 := dlT hl10
  refine CM_condT rfl g11 ?_
  refine CM_skip (QM_then (CM_seq (CM_block (sr (wm ?_)))))
  obtain ⟨a12, rfl, hb13, he14⟩ := q4 (by omega)
  refine wv (vix 4 k6 underlying24 type39) ?_
  obtain ⟨_, e20, hc15⟩ := he14 k6 _ (gt_some (show k6 < x0.length from by omega))
  obtain ⟨v16, v18, rfl, r17, r19⟩ := tyQuery_rd e20
  obtain ⟨m21, A22, c23, rfl, q24, r25⟩ := rdS_op r17
  obtain ⟨m26, A27, c28, rfl, q29, r30⟩ := rdS_op r19
  let K3 : List Value := [.int .i64 ((gt x0 k6).Id), .int .i64 ((gt x0 k6).Tenant), .slice A22 ((gt x0 k6).Conds).length c23, .slice A27 ((gt x0 k6).Out).length c28]
  refine wv (fun W hm => rv_loadN (cs := K3) underlying39 type39 rfl rfl (hm.elCells (show (a12.add (k6 * 4)).block < w.heap.size from by rw [add_block]; exact hb13.1) hc15)) ?_
  refine WM_alloc type39 rfl (Wd_none rfl) (by decide) (fun p31 => ?_)
  refine wa ?_
  refine sb 0 K3 [] (fun W hm => hm) type39 ?_
  refine nt' (CM_seq ?_)
  refine CM_regionD (by kernel_rfl) (by kernel_rfl) ?_
  refine qv (fun W hm => rv_loadN (cs := K3) underlying39 type39 rfl rfl (hm.boxCells (n := 0) rfl)) ?_
  refine QR_callV (cl_fn cb74 rfl) (fun W hm => impl_IsQuery_c W _ (gt x0 k6) (tyQuery_mk (x := (gt x0 k6)) (hm.rdS0 r25) (hm.rdS0 r30))) (Wd_none rfl) (by decide) ?_
  refine qv vnot ?_
  refine qm ?_
  rcases Bool.eq_false_or_eq_true (impl_IsQuery_m (gt x0 k6)) with g33 | g33
  ·
   refine qg vmv (nt g33) ?_
   refine qg (fun W hm => rv_gtr rfl rfl) (nt g33) ?_
   refine qg vmv (nt g33) ?_
   by_cases h34 : 0 < ((k6 : Nat) : Int)
   ·have g35 := decide_eq_true h34
    refine qg vmv g35 ?_
    refine qg vmv g35 ?_
    refine qg (fun W hm => rv_subN (p := k6) (q := 1) rfl rfl (by omega) (by omega)) g35 ?_
    refine qg (fun W hm => rv_index (sz := 4) (k := k6 - 1) underlying24 type39 rfl rfl rfl (by omega)) g35 ?_
    refine qg (vf underlying39 rfl type3) g35 ?_
    obtain ⟨_, e41, hc36⟩ := he14 (k6 - 1) _ (gt_some (show (k6 - 1) < x0.length from by omega))
    obtain ⟨v37, v39, rfl, r38, r40⟩ := tyQuery_rd e41
    obtain ⟨m42, A43, c44, rfl, q45, r46⟩ := rdS_op r38
    obtain ⟨m47, A48, c49, rfl, q50, r51⟩ := rdS_op r40
    refine qg (fun W hm => rv_load underlying3 rfl rfl ((hm.cell0 (show ((a12.add ((k6 - 1) * 4)).add 0).block < w.heap.size from by rw [add_block, add_block]; exact hb13.1)).trans (hc36 0 _ rfl))) g35 ?_
    refine qg (vf underlying39 rfl type3) g35 ?_
    refine qg (vl 0 0 underlying3) g35 ?_
    refine qg (fun W hm => rv_geq rfl rfl) g35 ?_
    refine qg (vpT g35) (nt g33) ?_
    refine qv (vpF (nt g33)) ?_
    refine nq' ?_
    by_cases h52 : ((gt x0 k6).Id) ≤ ((gt x0 (k6 - 1)).Id)
    ·have g53 := decide_eq_true h52
     refine CM_condT rfl g53 ?_
     refine sr (wa (nt' (CM_ret (QM_block_ret (QM_then_ret (QM_then_ret (QM_block_ret (QM_then_ret ?_))))))))
     exact rtb (h := fin_inl (rng_ret (body := F1) (k := k6) (s := ()) (show k6 < x0.length from by omega) (cond_t g33 (cond_t g35 (cond_t g53 (rfl)))) hF8) rfl)
    ·have g53 := decide_eq_false h52
     refine CM_condF rfl g53 ?_
     refine CM_skip (QM_block_normal (QM_then (CM_region ?_)))
     refine wv (vadN k6 1 (by omega)) ?_
     refine wm (WM_nil ?_)
     have hn54 := rng_next (R := Bool) (body := F1) (k := k6) (s := ()) (s' := ()) (show k6 < x0.length from by omega) (cond_t g33 (cond_t g35 (cond_f g53 (rfl)))) hF8
     exact QM_round (k6 + 1, (), ()) sl4 (pk []) ⟨(by omega), hn54⟩ (rl (by omega))
   ·have g35 := decide_eq_false h34
    refine qs g35 ?_
    refine qs g35 ?_
    refine qs g35 ?_
    refine qs g35 ?_
    refine qs g35 ?_
    refine qs g35 ?_
    refine qs g35 ?_
    refine qs g35 ?_
    refine qs g35 ?_
    refine qg (vpF g35) (nt g33) ?_
    refine qv (vpF (nt g33)) ?_
    refine nq' ?_
    refine CM_condF rfl rfl ?_
    refine CM_skip (QM_block_normal (QM_then (CM_region ?_)))
    refine wv (vadN k6 1 (by omega)) ?_
    refine wm (WM_nil ?_)
    have hn55 := rng_next (R := Bool) (body := F1) (k := k6) (s := ()) (s' := ()) (show k6 < x0.length from by omega) (cond_t g33 (cond_f g35 (rfl))) hF8
    exact QM_round (k6 + 1, (), ()) sl4 (pk []) ⟨(by omega), hn55⟩ (rl (by omega))
  ·
   refine qs (nf g33) ?_
   refine qs (nf g33) ?_
   refine qs (nf g33) ?_
   refine qu ?_
   refine qu ?_
   refine qu ?_
   refine qu ?_
   refine qu ?_
   refine qu ?_
   refine qu ?_
   refine qu ?_
   refine qu ?_
   refine qs (nf g33) ?_
   refine qv (vpT (nf g33)) ?_
   refine nq' ?_
   refine CM_condT rfl rfl ?_
   refine sr (wa (nt' (CM_ret (QM_block_ret (QM_then_ret (QM_then_ret (QM_block_ret (QM_then_ret ?_))))))))
   exact rtb (h := fin_inl (rng_ret (body := F1) (k := k6) (s := ()) (show k6 < x0.length from by omega) (cond_f g33 (rfl)) hF8) rfl)
 ·have g11 := dlF hl10
  refine CM_condF rfl g11 ?_
  refine CM_exit (QM_then_exit (QM_then_exit ?_))
  have hE56 : R2 (x0.length - 0) 0 () = Sum.inr () := rng_end hl10 hF8
  refine QM_block_hit (QM_then (sr (wm ?_)))
  refine wv (vlen underlying24) ?_
  refine wv (fun W hm => rv_leq rfl rfl) ?_
  refine wa (nt' (CM_ret ?_))
  exact rtb (h := fin_inr hE56 (rfl))

def impl_admits_b1 (x0 : DQuery) (x1 : Int) (x2 : Int) (k16 : Nat) : Bool ⊕ (Unit) :=
 cond (((gt x0.Conds k16).Field) == x1) (cond (impl_within_m x2 ((gt x0.Conds k16).Low) ((gt x0.Conds k16).High)) (Sum.inr ()) (Sum.inl false)) (Sum.inr ())
def impl_admits_m (x0 : DQuery) (x1 : Int) (x2 : Int) : Bool :=
 Sum.elim id (fun (s : Unit) => true) (rng (R := Bool) (fun k (_ : Unit) => impl_admits_b1 x0 x1 x2 k) (x0.Conds.length - 0) 0 ())
theorem cb88 : Cb Try.prog 88 := ⟨f88, _, func88, rfl, by decide⟩
theorem impl_admits_c (w : World) (z0 : List Value) (x0 : DQuery) (x1 : Int) (x2 : Int) (r_0 : tyQuery.rd w w.heap.size z0 x0) :
  Calls Try.prog 88 #[.agg z0.toArray, .int .i64 x1, .int .i64 x2] w fun e w' => e = .returned (.bool (impl_admits_m x0 x1 x2)) ∧ Below w.heap.size w w' := by
 obtain ⟨v1, v3, rfl, r2, r4⟩ := tyQuery_rd r_0
 obtain ⟨m5, A6, c7, rfl, q8, r9⟩ := rdS_op r2
 obtain ⟨m10, A11, c12, rfl, q13, r14⟩ := rdS_op r4
 refine ce3 (L := [(0, .agg #[.int .i64 x0.Id, .int .i64 x0.Tenant, .slice A6 x0.Conds.length c7, .slice A11 x0.Out.length c12]), (1, .int .i64 x1), (2, .int .i64 x2)]) (N := 30) func88 ?_
 refine sr ?_
 refine WM_box rfl (Wd_none rfl) (by decide) (fun p15 => ?_)
 refine wa (nt' (CM_seq (sr ?_)))
 refine wv (vf underlying39 rfl type36) ?_
 refine wv (vl 0 2 underlying36) ?_
 refine wv (vlen underlying36) ?_
 refine wm (nt' (CM_block ?_))
 let F1 := fun k (_ : Unit) => impl_admits_b1 x0 x1 x2 k
 let R2 := rng (R := Bool) F1
 let K3 : List Value := [.int .i64 x0.Id, .int .i64 x0.Tenant, .slice A6 x0.Conds.length c7, .slice A11 x0.Out.length c12]
 refine CM_loop (σ := Nat × (Unit) × (Unit)) (fun s => [(1, .int .i64 x1), (2, .int .i64 x2), (10, .slice A6 x0.Conds.length c7), (11, .int .i64 ((x0.Conds.length : Nat) : Int)), (12, .int .i64 ((s.1 : Nat) : Int))]) (fun s => [iBox p15 39 K3]) (fun s => s.1 ≤ x0.Conds.length ∧ R2 (x0.Conds.length - s.1) s.1 s.2.1 = R2 (x0.Conds.length - 0) 0 ()) (fun s => x0.Conds.length - s.1) (0, (), ()) sl5 (fun W hm => hm) ⟨(by omega), rfl⟩ ?_
 rintro ⟨k16, ⟨⟩, ⟨⟩⟩ H19
 obtain ⟨hk17, hF18⟩ : k16 ≤ x0.Conds.length ∧ R2 (x0.Conds.length - k16) k16 () = R2 (x0.Conds.length - 0) 0 () := H19
 show CM Try.prog 30 _ _ _ _ [(1, .int .i64 x1), (2, .int .i64 x2), (10, .slice A6 x0.Conds.length c7), (11, .int .i64 ((x0.Conds.length : Nat) : Int)), (12, .int .i64 ((k16 : Nat) : Int))] [iBox p15 39 K3]
 refine sr ?_
 refine wv vlss ?_
 refine nt' (CM_seq ?_)
 by_cases hl20 : k16 < x0.Conds.length
 ·have g21 := dlT hl20
  refine CM_condT rfl g21 ?_
  refine CM_skip (QM_then (CM_seq (CM_block (sr ?_))))
  obtain ⟨a22, rfl, hb23, he24⟩ := q8 (by omega)
  refine wv (vix 3 k16 underlying36 type90) ?_
  obtain ⟨_, e26, hc25⟩ := he24 k16 _ (gt_some (show k16 < x0.Conds.length from by omega))
  obtain rfl := tyCond_rd e26
  let K4 : List Value := [.int .i64 ((gt x0.Conds k16).Field), .int .i64 ((gt x0.Conds k16).Low), .int .i64 ((gt x0.Conds k16).High)]
  refine wv (fun W hm => rv_loadN (cs := K4) underlying90 type90 rfl rfl (hm.elCells (show (a22.add (k16 * 3)).block < w.heap.size from by rw [add_block]; exact hb23.1) hc25)) ?_
  refine WM_alloc type90 rfl (Wd_none rfl) (by decide) (fun p27 => ?_)
  refine sb 0 K4 [iBox p15 39 [.int .i64 x0.Id, .int .i64 x0.Tenant, .slice (some a22) x0.Conds.length c7, .slice A11 x0.Out.length c12]] (fun W hm => hm) type90 ?_
  refine nt' (sr ?_)
  refine wv (vf underlying90 rfl type3) ?_
  refine wv (vl 0 0 underlying3) ?_
  refine wm ?_
  refine wv (fun W hm => rv_eql rfl rfl) ?_
  refine wm ?_
  by_cases h28 : ((gt x0.Conds k16).Field) = x1
  ·have g29 := beq_iff_eq.2 h28
   refine wg vmv g29 ?_
   refine wg (vf underlying90 rfl type3) g29 ?_
   refine wg (vl 0 1 underlying3) g29 ?_
   refine wg (vf underlying90 rfl type3) g29 ?_
   refine wg (vl 0 2 underlying3) g29 ?_
   refine WM_callV (cl_fn cb86 rfl) (fun W hm => impl_within_c W x2 ((gt x0.Conds k16).Low) ((gt x0.Conds k16).High)) (Wd_some rfl rfl rfl (bw g29 rfl)) (by decide) ?_
   refine wg vnot g29 ?_
   refine wv (vpT g29) ?_
   refine nt' ?_
   rcases Bool.eq_false_or_eq_true (impl_within_m x2 ((gt x0.Conds k16).Low) ((gt x0.Conds k16).High)) with g31 | g31
   ·
    have hw := impl_within_fact g31
    refine CM_condF rfl (nt g31) ?_
    refine CM_skip (QM_block_normal (QM_then (CM_region ?_)))
    refine wv (vadN k16 1 (by omega)) ?_
    refine wm (WM_nil ?_)
    have hn32 := rng_next (R := Bool) (body := F1) (k := k16) (s := ()) (s' := ()) (show k16 < x0.Conds.length from by omega) (cond_t g29 (cond_t g31 (rfl))) hF18
    exact QM_round (k16 + 1, (), ()) sl5 (pk [1]) ⟨(by omega), hn32⟩ (rl (by omega))
   ·
    refine CM_condT rfl (nf g31) ?_
    refine sr (wa (nt' (CM_ret (QM_block_ret (QM_then_ret (QM_then_ret (QM_block_ret (QM_then_ret ?_))))))))
    exact rtb (h := fin_inl (rng_ret (body := F1) (k := k16) (s := ()) (show k16 < x0.Conds.length from by omega) (cond_t g29 (cond_f g31 (rfl))) hF18) rfl)
  ·have g29 := beq_eq_false_iff_ne.2 h28
   refine ws g29 ?_
   refine ws g29 ?_
   refine ws g29 ?_
   refine ws g29 ?_
   refine ws g29 ?_
   refine ws g29 ?_
   refine ws g29 ?_
   refine wv (vpF g29) ?_
   refine nt' ?_
   refine CM_condF rfl rfl ?_
   refine CM_skip (QM_block_normal (QM_then (CM_region ?_)))
   refine wv (vadN k16 1 (by omega)) ?_
   refine wm (WM_nil ?_)
   have hn33 := rng_next (R := Bool) (body := F1) (k := k16) (s := ()) (s' := ()) (show k16 < x0.Conds.length from by omega) (cond_f g29 (rfl)) hF18
   exact QM_round (k16 + 1, (), ()) sl5 (pk [1]) ⟨(by omega), hn33⟩ (rl (by omega))
 ·have g21 := dlF hl20
  refine CM_condF rfl g21 ?_
  refine CM_exit (QM_then_exit (QM_then_exit ?_))
  have hE34 : R2 (x0.Conds.length - 0) 0 () = Sum.inr () := rng_end hl20 hF18
  refine QM_block_hit (QM_then (sr (wa (nt' (CM_ret ?_)))))
  exact rtb (h := fin_inr hE34 (rfl))

def impl_stab_b1 (x0 : (List DQuery)) (x1 : Int) (x2 : Int) (k9 : Nat) (d10 : (List Int)) : (List Int) ⊕ ((List Int)) :=
 cond (impl_admits_m (gt x0 k9) x1 x2) (Sum.inr (d10 ++ [(gt x0 k9).Id])) (Sum.inr d10)
def impl_stab_m (x0 : (List DQuery)) (x1 : Int) (x2 : Int) : (List Int) :=
 Sum.elim id (fun (s : (List Int)) => s) (rng (R := (List Int)) (fun k (s : (List Int)) => impl_stab_b1 x0 x1 x2 k s) (x0.length - 0) 0 [])
theorem cb76 : Cb Try.prog 76 := ⟨f76, _, func76, rfl, by decide⟩
theorem impl_stab_c (w : World) (z0 : Value) (x0 : (List DQuery)) (x1 : Int) (x2 : Int) (r_0 : rdS tyQuery w w.heap.size z0 x0) (s_0 : (x0.length ≤ 68719476736 ∧ ∀ y ∈ x0, smQuery 68719476736 y)) :
  Calls Try.prog 76 #[z0, .int .i64 x1, .int .i64 x2] w fun e w' => ∃ v : Value, e = .returned (v) ∧ Mem w.heap.size w [iOwn (tSl tInt 3) [v] (impl_stab_m x0 x1 x2)] w' := by
 obtain ⟨m1, A2, c3, rfl, q4, r5⟩ := rdS_op r_0
 have l6 : x0.length ≤ 68719476736 := s_0.1
 refine ce3 (L := [(0, .slice A2 x0.length c3), (1, .int .i64 x1), (2, .int .i64 x2)]) (N := 28) func76 ?_
 refine sr (wa (nt' (sr ?_)))
 refine WM_build0 (E := tInt) underlying37 type3 (Wd_none rfl) (by decide) (fun p7 => ?_)
 refine wa (nt' (CM_seq (sr (wm ?_))))
 refine wv (vlen underlying24) ?_
 refine wm (nt' (CM_block ?_))
 let F1 := fun k (s : (List Int)) => impl_stab_b1 x0 x1 x2 k s
 let R2 := rng (R := (List Int)) F1
 refine CM_loop (σ := Nat × ((List Int)) × (Option Addr × Nat)) (fun s => [(1, .int .i64 x1), (2, .int .i64 x2), (7, .slice s.2.2.1 s.2.1.length s.2.2.2), (11, .slice A2 x0.length c3), (12, .int .i64 ((x0.length : Nat) : Int)), (13, .int .i64 ((s.1 : Nat) : Int))]) (fun s => [iOwn (tSl tInt 3) [.slice s.2.2.1 s.2.1.length s.2.2.2] s.2.1]) (fun s => s.1 ≤ x0.length ∧ R2 (x0.length - s.1) s.1 s.2.1 = R2 (x0.length - 0) 0 [] ∧ s.2.1.length ≤ 0 + s.1) (fun s => x0.length - s.1) (0, [], ((some ⟨p7, 0, none⟩), 0)) sl6 (fun W hm => hm) ⟨(by omega), rfl, Nat.le_refl _⟩ ?_
 rintro ⟨k9, d10, ⟨A11, c12⟩⟩ H15
 obtain ⟨hk13, hF14, hi16⟩ : k9 ≤ x0.length ∧ R2 (x0.length - k9) k9 d10 = R2 (x0.length - 0) 0 [] ∧ d10.length ≤ 0 + k9 := H15
 let I4 : It := iOwn (tSl tInt 3) [.slice A11 d10.length c12] d10
 show CM Try.prog 28 _ _ _ _ [(1, .int .i64 x1), (2, .int .i64 x2), (7, .slice A11 d10.length c12), (11, .slice A2 x0.length c3), (12, .int .i64 ((x0.length : Nat) : Int)), (13, .int .i64 ((k9 : Nat) : Int))] [I4]
 refine sr ?_
 refine wv vlss ?_
 refine nt' (CM_seq ?_)
 by_cases hl17 : k9 < x0.length
 ·have g18 := dlT hl17
  refine CM_condT rfl g18 ?_
  refine CM_skip (QM_then (CM_seq (CM_block (sr ?_))))
  obtain ⟨a19, rfl, hb20, he21⟩ := q4 (by omega)
  refine wv (vix 4 k9 underlying24 type39) ?_
  obtain ⟨_, e27, hc22⟩ := he21 k9 _ (gt_some (show k9 < x0.length from by omega))
  obtain ⟨v23, v25, rfl, r24, r26⟩ := tyQuery_rd e27
  have l28 : ((gt x0 k9).Conds).length ≤ 68719476736 := (s_0.2 _ (gt_mem (show k9 < x0.length from by omega))).1
  have l29 : ((gt x0 k9).Out).length ≤ 68719476736 := (s_0.2 _ (gt_mem (show k9 < x0.length from by omega))).2
  obtain ⟨m30, A31, c32, rfl, q33, r34⟩ := rdS_op r24
  obtain ⟨m35, A36, c37, rfl, q38, r39⟩ := rdS_op r26
  let K3 : List Value := [.int .i64 ((gt x0 k9).Id), .int .i64 ((gt x0 k9).Tenant), .slice A31 ((gt x0 k9).Conds).length c32, .slice A36 ((gt x0 k9).Out).length c37]
  refine wv (fun W hm => rv_loadN (cs := K3) underlying39 type39 rfl rfl (hm.elCells (show (a19.add (k9 * 4)).block < w.heap.size from by rw [add_block]; exact hb20.1) hc22)) ?_
  refine WM_alloc type39 rfl (Wd_none rfl) (by decide) (fun p40 => ?_)
  refine sb 0 K3 [I4] (fun W hm => hm) type39 ?_
  refine nt' (sr ?_)
  refine wv (fun W hm => rv_loadN (cs := K3) underlying39 type39 rfl rfl (hm.boxCells (n := 0) rfl)) ?_
  refine wm (wm ?_)
  refine wcv (cl_fn cb88 rfl) (fun W hm => impl_admits_c W _ (gt x0 k9) x1 x2 (tyQuery_mk (x := (gt x0 k9)) (hm.rdS0 r34) (hm.rdS0 r39))) ?_
  refine nt' ?_
  rcases Bool.eq_false_or_eq_true (impl_admits_m (gt x0 k9) x1 x2) with g42 | g42
  ·
   refine CM_condT rfl g42 ?_
   refine CM_region (wm ?_)
   refine wv (vf underlying39 rfl type3) ?_
   refine wv (vl 0 0 underlying3) ?_
   refine WM_build (cs := [.int .i64 ((gt x0 k9).Id)]) underlying37 type3 rfl (by decide) (by decide) rfl (by kernel_rfl) (Wd_none rfl) (by decide) (fun p43 => ?_)
   refine ap1 tInt 3 (.slice A11 d10.length c12) d10 ((gt x0 k9).Id) [] [iBox p40 39 K3] [.int .i64 ((gt x0 k9).Id)] (pk [0, 2, 1]) (fun _ _ hs => by cases (Sep.nil hs); exact (els_cons tInt_own els_nil)) underlying37 type3 (show (d10.length + 1) * 8 ≤ 140737488355328 from by omega) (fun v44 => ?_)
   refine WM_form (n := 0) rfl ?_
   rintro A45 c46 rfl m47
   refine wa (WM_nil (QM_block_normal (QM_then (CM_region ?_))))
   refine wv (vadN k9 1 (by omega)) ?_
   refine wm (WM_nil ?_)
   have hn49 := rng_next (R := (List Int)) (body := F1) (k := k9) (s := d10) (s' := (d10 ++ [(gt x0 k9).Id])) (show k9 < x0.length from by omega) (cond_t g42 (rfl)) hF14
   exact QM_round (k9 + 1, (d10 ++ [(gt x0 k9).Id]), (A45, c46)) sl6 (pk [0]) ⟨(by omega), hn49, (show (d10 ++ [(gt x0 k9).Id]).length ≤ 0 + (k9 + 1) from by first | omega | (simp only [List.length_append, List.length_cons, List.length_nil] at *; omega))⟩ (rl (by omega))
  ·
   refine CM_condF rfl g42 ?_
   refine CM_skip (QM_block_normal (QM_then (CM_region ?_)))
   refine wv (vadN k9 1 (by omega)) ?_
   refine wm (WM_nil ?_)
   have hn50 := rng_next (R := (List Int)) (body := F1) (k := k9) (s := d10) (s' := d10) (show k9 < x0.length from by omega) (cond_f g42 (rfl)) hF14
   exact QM_round (k9 + 1, d10, (A11, c12)) sl6 (pk [1]) ⟨(by omega), hn50, (show d10.length ≤ 0 + (k9 + 1) from by first | omega | (simp only [List.length_append, List.length_cons, List.length_nil] at *; omega))⟩ (rl (by omega))
 ·have g18 := dlF hl17
  refine CM_condF rfl g18 ?_
  refine CM_exit (QM_then_exit (QM_then_exit ?_))
  have hE51 : R2 (x0.length - 0) 0 [] = Sum.inr d10 := rng_end hl17 hF14
  refine QM_block_hit (QM_then (sr (wm (wa (nt' (CM_ret ?_))))))
  have he52 := (show impl_stab_m x0 x1 x2 = d10 from fin_inr hE51 (rfl))
  refine QM_r1 rfl (RR_tmp rfl) (fun W hm => ⟨.slice A11 d10.length c12, ?_, ?_⟩)
  ·first | rw [he52] | rfl
  ·rw [he52]; exact hm

def impl_sameInts_b1 (x0 : (List Int)) (x1 : (List Int)) (k13 : Nat) : Bool ⊕ (Unit) :=
 cond ((gt x0 k13) != (gt x1 k13)) (Sum.inl false) (Sum.inr ())
def impl_sameInts_m (x0 : (List Int)) (x1 : (List Int)) : Bool :=
 cond (((x0.length : Nat) : Int) != ((x1.length : Nat) : Int)) false (Sum.elim id (fun (s : Unit) => true) (rng (R := Bool) (fun k (_ : Unit) => impl_sameInts_b1 x0 x1 k) (x0.length - 0) 0 ()))
theorem cb46 : Cb Try.prog 46 := ⟨f46, _, func46, rfl, by decide⟩
theorem impl_sameInts_c (w : World) (z0 : Value) (x0 : (List Int)) (z1 : Value) (x1 : (List Int)) (r_0 : rdS tInt w w.heap.size z0 x0) (r_1 : rdS tInt w w.heap.size z1 x1) :
  Calls Try.prog 46 #[z0, z1] w fun e w' => e = .returned (.bool (impl_sameInts_m x0 x1)) ∧ Below w.heap.size w w' := by
 obtain ⟨m1, A2, c3, rfl, q4, r5⟩ := rdS_op r_0
 obtain ⟨m6, A7, c8, rfl, q9, r10⟩ := rdS_op r_1
 refine ce2 (L := [(0, .slice A2 x0.length c3), (1, .slice A7 x1.length c8)]) (N := 26) func46 ?_
 refine sr (wa (nt' (CM_seq (sr (wm ?_)))))
 refine wv (vlen underlying37) ?_
 refine wm ?_
 refine wv (vlen underlying37) ?_
 refine wv vneq ?_
 refine nt' ?_
 by_cases h11 : ((x0.length : Nat) : Int) = ((x1.length : Nat) : Int)
 ·have g12 : (((x0.length : Nat) : Int) != ((x1.length : Nat) : Int)) = false := by rw [h11]; exact bne_self_eq_false _
  refine CM_condF rfl g12 ?_
  refine CM_skip (QM_then (CM_seq (sr (wm ?_))))
  refine wv (vlen underlying37) ?_
  refine wm (nt' (CM_block ?_))
  let F1 := fun k (_ : Unit) => impl_sameInts_b1 x0 x1 k
  let R2 := rng (R := Bool) F1
  refine CM_loop (σ := Nat × (Unit) × (Unit)) (fun s => [(0, .slice A2 x0.length c3), (1, .slice A7 x1.length c8), (12, .int .i64 ((x0.length : Nat) : Int)), (13, .int .i64 ((s.1 : Nat) : Int))]) (fun s => []) (fun s => s.1 ≤ x0.length ∧ R2 (x0.length - s.1) s.1 s.2.1 = R2 (x0.length - 0) 0 ()) (fun s => x0.length - s.1) (0, (), ()) sl4 (fun W hm => hm) ⟨(by omega), rfl⟩ ?_
  rintro ⟨k13, ⟨⟩, ⟨⟩⟩ H16
  obtain ⟨hk14, hF15⟩ : k13 ≤ x0.length ∧ R2 (x0.length - k13) k13 () = R2 (x0.length - 0) 0 () := H16
  show CM Try.prog 26 _ _ _ _ [(0, .slice A2 x0.length c3), (1, .slice A7 x1.length c8), (12, .int .i64 ((x0.length : Nat) : Int)), (13, .int .i64 ((k13 : Nat) : Int))] []
  refine sr ?_
  refine wv vlss ?_
  refine nt' (CM_seq ?_)
  by_cases hl17 : k13 < x0.length
  ·have g18 := dlT hl17
   refine CM_condT rfl g18 ?_
   refine CM_skip (QM_then (CM_seq (CM_block (sr (wm (wa (nt' (CM_seq ?_))))))))
   refine CM_regionD (by kernel_rfl) (by kernel_rfl) ?_
   refine qm (qm ?_)
   obtain ⟨a19, rfl, hb20, he21⟩ := q4 (by omega)
   refine qv (vix 1 k13 underlying37 type3) ?_
   refine qv (fun W hm => rv_load underlying3 rfl rfl ((hm.cell0 (show (a19.add (k13 * 1)).block < w.heap.size from by rw [add_block]; exact hb20.1)).trans (rdS_int he21 k13 (by omega)))) ?_
   refine qm (qm ?_)
   obtain ⟨a22, rfl, hb23, he24⟩ := q9 (by omega)
   refine qv (vix 1 k13 underlying37 type3) ?_
   refine qv (fun W hm => rv_load underlying3 rfl rfl ((hm.cell0 (show (a22.add (k13 * 1)).block < w.heap.size from by rw [add_block]; exact hb23.1)).trans (rdS_int he24 k13 (by omega)))) ?_
   refine qv vneq ?_
   refine nq' ?_
   by_cases h25 : (gt x0 k13) = (gt x1 k13)
   ·have g26 : ((gt x0 k13) != (gt x1 k13)) = false := by rw [h25]; exact bne_self_eq_false _
    refine CM_condF rfl g26 ?_
    refine CM_skip (QM_block_normal (QM_then (CM_region ?_)))
    refine wv (vadN k13 1 (by omega)) ?_
    refine wm (WM_nil ?_)
    have hn27 := rng_next (R := Bool) (body := F1) (k := k13) (s := ()) (s' := ()) (show k13 < x0.length from by omega) (cond_f g26 (rfl)) hF15
    exact QM_round (k13 + 1, (), ()) sl4 (fun W hm => hm) ⟨(by omega), hn27⟩ (rl (by omega))
   ·have g26 : ((gt x0 k13) != (gt x1 k13)) = true := bne_iff_ne.2 h25
    refine CM_condT rfl g26 ?_
    refine sr (wa (nt' (CM_ret (QM_block_ret (QM_then_ret (QM_then_ret (QM_block_ret (QM_then_ret ?_))))))))
    exact rtb (h := cond_f g12 (fin_inl (rng_ret (body := F1) (k := k13) (s := ()) (show k13 < x0.length from by omega) (cond_t g26 (rfl)) hF15) rfl))
  ·have g18 := dlF hl17
   refine CM_condF rfl g18 ?_
   refine CM_exit (QM_then_exit (QM_then_exit ?_))
   have hE28 : R2 (x0.length - 0) 0 () = Sum.inr () := rng_end hl17 hF15
   refine QM_block_hit (QM_then (sr (wa (nt' (CM_ret ?_)))))
   exact rtb (h := cond_f g12 (fin_inr hE28 (rfl)))
 ·have g12 : (((x0.length : Nat) : Int) != ((x1.length : Nat) : Int)) = true := bne_iff_ne.2 h11
  refine CM_condT rfl g12 ?_
  refine sr (wa (nt' (CM_ret (QM_then_ret ?_))))
  exact rtb (h := cond_t g12 (rfl))

def impl_StabIndex_b1 (x0 : (List DQuery)) (x1 : Int) (k13 : Nat) (d14 : (List DSpan)) : (List DSpan) ⊕ ((List DSpan)) :=
 cond (decide (0 < ((d14.length : Nat) : Int))) (cond (impl_sameInts_m ((gt d14 (d14.length - 1)).Set) (impl_stab_m x0 x1 ((k13 : Nat) : Int))) (Sum.inr (d14.set (d14.length - 1) (⟨(gt d14 (d14.length - 1)).From, ((k13 : Nat) : Int), (gt d14 (d14.length - 1)).Set⟩ : DSpan))) (Sum.inr (d14 ++ [(⟨((k13 : Nat) : Int), ((k13 : Nat) : Int), (impl_stab_m x0 x1 ((k13 : Nat) : Int))⟩ : DSpan)]))) (Sum.inr (d14 ++ [(⟨((k13 : Nat) : Int), ((k13 : Nat) : Int), (impl_stab_m x0 x1 ((k13 : Nat) : Int))⟩ : DSpan)]))
def impl_StabIndex_m (x0 : (List DQuery)) (x1 : Int) : (List DSpan) :=
 cond (impl_AreQueries_m x0) (cond (impl_isField_m x1) (Sum.elim id (fun (s : (List DSpan)) => s) (rng (R := (List DSpan)) (fun k (s : (List DSpan)) => impl_StabIndex_b1 x0 x1 k s) (100 - 0) 0 [])) []) []
theorem cb55 : Cb Try.prog 55 := ⟨f55, _, func55, rfl, by decide⟩
theorem impl_StabIndex_c (w : World) (z0 : Value) (x0 : (List DQuery)) (x1 : Int) (r_0 : rdS tyQuery w w.heap.size z0 x0) (s_0 : (x0.length ≤ 68719476736 ∧ ∀ y ∈ x0, smQuery 68719476736 y)) :
  Calls Try.prog 55 #[z0, .int .i64 x1] w fun e w' => ∃ v : Value, e = .returned (v) ∧ Mem w.heap.size w [iOwn (tSl tySpan 86) [v] (impl_StabIndex_m x0 x1)] w' := by
 obtain ⟨m1, A2, c3, rfl, q4, r5⟩ := rdS_op r_0
 have l6 : x0.length ≤ 68719476736 := s_0.1
 refine ce2 (L := [(0, .slice A2 x0.length c3), (1, .int .i64 x1)]) (N := 55) func55 ?_
 refine sr (wa (nt' (sr ?_)))
 refine WM_build0 (E := tySpan) underlying64 type86 (Wd_none rfl) (by decide) (fun p7 => ?_)
 refine wa (nt' (CM_seq (sr (wm ?_))))
 refine wcv (cl_fn cb53 rfl) (fun W hm => impl_AreQueries_c W _ x0 (hm.rdS0 r5)) ?_
 refine wv vnot ?_
 refine wm ?_
 rcases Bool.eq_false_or_eq_true (impl_AreQueries_m x0) with g10 | g10
 ·
  refine wg vmv (nt g10) ?_
  refine WM_callV (cl_fn cb75 rfl) (fun W hm => impl_isField_c W x1) (Wd_some rfl rfl rfl (bw (nt g10) rfl)) (by decide) ?_
  refine wg vnot (nt g10) ?_
  refine wv (vpF (nt g10)) ?_
  refine nt' ?_
  rcases Bool.eq_false_or_eq_true (impl_isField_m x1) with g12 | g12
  ·
   refine CM_condF rfl (nt g12) ?_
   refine CM_skip (QM_then (CM_seq (sr (wa (nt' (CM_block ?_))))))
   let F1 := fun k (s : (List DSpan)) => impl_StabIndex_b1 x0 x1 k s
   let R2 := rng (R := (List DSpan)) F1
   refine CM_loop (σ := Nat × ((List DSpan)) × (Option Addr × Nat)) (fun s => [(0, .slice A2 x0.length c3), (1, .int .i64 x1), (5, .slice s.2.2.1 s.2.1.length s.2.2.2), (6, .int .i64 ((s.1 : Nat) : Int))]) (fun s => [iOwn (tSl tySpan 86) [.slice s.2.2.1 s.2.1.length s.2.2.2] s.2.1]) (fun s => s.1 ≤ 100 ∧ R2 (100 - s.1) s.1 s.2.1 = R2 (100 - 0) 0 [] ∧ s.2.1.length ≤ 0 + s.1) (fun s => 100 - s.1) (0, [], ((some ⟨p7, 0, none⟩), 0)) sl4 (fun W hm => hm) ⟨(by omega), rfl, Nat.le_refl _⟩ ?_
   rintro ⟨k13, d14, ⟨A15, c16⟩⟩ H19
   obtain ⟨hk17, hF18, hi20⟩ : k13 ≤ 100 ∧ R2 (100 - k13) k13 d14 = R2 (100 - 0) 0 [] ∧ d14.length ≤ 0 + k13 := H19
   show CM Try.prog 55 _ _ _ _ [(0, .slice A2 x0.length c3), (1, .int .i64 x1), (5, .slice A15 d14.length c16), (6, .int .i64 ((k13 : Nat) : Int))] [iOwn (tSl tySpan 86) [.slice A15 d14.length c16] d14]
   refine CM_seq (sr (wm ?_))
   refine wv (fun W hm => rv_leq rfl rfl) ?_
   refine nt' ?_
   by_cases hl21 : k13 < 100
   ·have g22 : (decide (((k13 : Nat) : Int) ≤ 99)) = true := decide_eq_true (by omega)
    refine CM_condT rfl g22 ?_
    refine CM_skip (QM_then (CM_seq (CM_block (sr (wm (wm (wm ?_)))))))
    refine wcl (tSl tInt 3) (impl_stab_m x0 x1 ((k13 : Nat) : Int)) (cl_fn cb76 rfl) (fun W hm => impl_stab_c W _ x0 x1 ((k13 : Nat) : Int) (hm.rdS0 r5) s_0) (fun z23 => ?_)
    refine WM_form (n := 0) rfl ?_
    rintro A24 c25 rfl m26
    refine wa (nt' (sr (wm ?_)))
    refine wv (vlen underlying64) ?_
    refine wa (nt' (sr (wm ?_)))
    refine wv (fun W hm => rv_gtr rfl rfl) ?_
    refine wm ?_
    by_cases h28 : 0 < ((d14.length : Nat) : Int)
    ·have g29 := decide_eq_true h28
     refine wg vmv g29 ?_
     refine wg vmv g29 ?_
     refine wg (fun W hm => rv_subN (p := d14.length) (q := 1) rfl rfl (by omega) (by omega)) g29 ?_
     refine WM_formO (n := 1) rfl (by omega) ?_
     rintro g30 rfl
     refine wg (fun W hm => rv_index (sz := 3) (k := d14.length - 1) underlying64 type86 rfl rfl rfl (by omega)) g29 ?_
     refine wg (vf underlying86 rfl type37) g29 ?_
     let K3 : List Value := [.slice A24 (impl_stab_m x0 x1 ((k13 : Nat) : Int)).length c25]
     let I7 : It := iOwn (tSl tInt 3) K3 (impl_stab_m x0 x1 ((k13 : Nat) : Int))
     refine WM_focus (E := tySpan) (e := 86) (A := (some ⟨g30, 0, none⟩)) (n := d14.length) (c := c16) (xs := d14) (k := (d14.length - 1)) (js := [I7]) (by omega) (pk [1, 0]) (fun ck31 => ?_)
     refine tySpan_sp ?_
     rintro v32 rfl
     refine WM_form (n := 0) rfl ?_
     rintro A33 c34 rfl m35
     refine wg (fun W hm => rv_load underlying37 rfl rfl (hm.focCells (i := 1) rfl rfl 2 _ rfl)) g29 ?_
     refine wg vmv g29 ?_
     refine WM_callV (cl_fn cb46 rfl) (fun W hm => impl_sameInts_c W _ ((gt d14 (d14.length - 1)).Set) _ (impl_stab_m x0 x1 ((k13 : Nat) : Int)) (hm.rdSI (n := 0) rfl) (hm.rdSI (n := 2) rfl)) (Wd_some rfl rfl rfl (bw g29 rfl)) (by decide) ?_
     refine wv (vpT g29) ?_
     refine nt' ?_
     rcases Bool.eq_false_or_eq_true (impl_sameInts_m ((gt d14 (d14.length - 1)).Set) (impl_stab_m x0 x1 ((k13 : Nat) : Int))) with g38 | g38
     ·
      refine CM_condT rfl g38 ?_
      refine CM_region (wm (wm ?_))
      refine wv (fun W hm => rv_subN (p := d14.length) (q := 1) rfl rfl (by omega) (by omega)) ?_
      refine wm ?_
      refine wv (fun W hm => rv_index (sz := 3) (k := d14.length - 1) underlying64 type86 rfl rfl rfl (by omega)) ?_
      refine wv (vf underlying86 rfl type3) ?_
      let K4 : List Value := [.int .i64 ((gt d14 (d14.length - 1)).From), .int .i64 ((k13 : Nat) : Int), .slice A33 ((gt d14 (d14.length - 1)).Set).length c34]
      let I8 : It := iOwn (tSl tInt 3) [.slice A33 ((gt d14 (d14.length - 1)).Set).length c34] ((gt d14 (d14.length - 1)).Set)
      refine sf 1 3 K4 [I8, I7] (pk [1, 0, 2]) type3 ?_
      refine WM_nil (QM_block_normal (QM_then (CM_region (wm ?_))))
      refine wv (vadN k13 1 (by omega)) ?_
      refine wa (WM_nil ?_)
      refine QM_items (fun W hm => Mem.unfocus (Mem.join (is := [I8]) (js := (iFoc tySpan 86 (some ⟨g30, 0, none⟩) d14.length c16 d14 (d14.length - 1) K4 :: [I7])) (fun _ _ hs => tySpan_join (x := (⟨(gt d14 (d14.length - 1)).From, ((k13 : Nat) : Int), (gt d14 (d14.length - 1)).Set⟩ : DSpan)) hs) (hm.pick [1, 0, 2] (by decide)))) ?_
      have hl39 : d14.length = (d14.set (d14.length - 1) (⟨(gt d14 (d14.length - 1)).From, ((k13 : Nat) : Int), (gt d14 (d14.length - 1)).Set⟩ : DSpan)).length := by first | rfl | exact List.length_set.symm
      generalize ix40h : d14.length - 1 = ix40
      rw [show d14.length = (d14.set ix40 (⟨(gt d14 ix40).From, ((k13 : Nat) : Int), (gt d14 ix40).Set⟩ : DSpan)).length from List.length_set.symm]
      subst ix40h
      have hn41 := rng_next (R := (List DSpan)) (body := F1) (k := k13) (s := d14) (s' := (d14.set (d14.length - 1) (⟨(gt d14 (d14.length - 1)).From, ((k13 : Nat) : Int), (gt d14 (d14.length - 1)).Set⟩ : DSpan))) (show k13 < 100 from by omega) (cond_t g29 (cond_t g38 (rfl))) hF18
      exact QM_round (k13 + 1, (d14.set (d14.length - 1) (⟨(gt d14 (d14.length - 1)).From, ((k13 : Nat) : Int), (gt d14 (d14.length - 1)).Set⟩ : DSpan)), ((some ⟨g30, 0, none⟩), c16)) sl4 (pk [0]) ⟨(by omega), hn41, (show (d14.set (d14.length - 1) (⟨(gt d14 (d14.length - 1)).From, ((k13 : Nat) : Int), (gt d14 (d14.length - 1)).Set⟩ : DSpan)).length ≤ 0 + (k13 + 1) from by first | omega | (simp only [List.length_append, List.length_cons, List.length_nil] at *; omega))⟩ (rl (by omega))
     ·
      refine CM_condF rfl g38 ?_
      refine CM_region (wm (wm (wm (wm ?_))))
      let K5 : List Value := [.int .i64 ((k13 : Nat) : Int), .int .i64 ((k13 : Nat) : Int), .slice A24 (impl_stab_m x0 x1 ((k13 : Nat) : Int)).length c25]
      refine wv (fun W hm => rv_build (cs := K5) rfl (by kernel_rfl)) ?_
      refine WM_build (cs := K5) underlying64 type86 rfl (by decide) (by decide) rfl (by kernel_rfl) (Wd_none rfl) (by decide) (fun p42 => ?_)
      refine WM_items (fun W hm => Mem.unfocus0 (Mem.join (is := [iOwn (tSl tInt 3) [.slice A33 ((gt d14 (d14.length - 1)).Set).length c34] ((gt d14 (d14.length - 1)).Set)]) (js := (iFoc tySpan 86 (some ⟨g30, 0, none⟩) d14.length c16 d14 (d14.length - 1) [.int .i64 ((gt d14 (d14.length - 1)).From), .int .i64 ((gt d14 (d14.length - 1)).To), .slice A33 ((gt d14 (d14.length - 1)).Set).length c34] :: [iBox p42 86 K5, I7])) (fun _ _ hs => tySpan_join (x := (gt d14 (d14.length - 1))) hs) (hm.pick [1, 2, 0, 3] (by decide)))) ?_
      refine ap1 tySpan 86 (.slice (some ⟨g30, 0, none⟩) d14.length c16) d14 (⟨((k13 : Nat) : Int), ((k13 : Nat) : Int), (impl_stab_m x0 x1 ((k13 : Nat) : Int))⟩ : DSpan) [I7] [] K5 (pk [1, 0, 2]) (fun _ _ hs => Els.single (tySpan_join (x := (⟨((k13 : Nat) : Int), ((k13 : Nat) : Int), (impl_stab_m x0 x1 ((k13 : Nat) : Int))⟩ : DSpan)) hs)) underlying64 type86 (show (d14.length + 1) * 40 ≤ 140737488355328 from by omega) (fun v43 => ?_)
      refine WM_form (n := 0) rfl ?_
      rintro A44 c45 rfl m46
      refine wa (WM_nil (QM_block_normal (QM_then (CM_region (wm ?_)))))
      refine wv (vadN k13 1 (by omega)) ?_
      refine wa (WM_nil ?_)
      have hn48 := rng_next (R := (List DSpan)) (body := F1) (k := k13) (s := d14) (s' := (d14 ++ [(⟨((k13 : Nat) : Int), ((k13 : Nat) : Int), (impl_stab_m x0 x1 ((k13 : Nat) : Int))⟩ : DSpan)])) (show k13 < 100 from by omega) (cond_t g29 (cond_f g38 (rfl))) hF18
      exact QM_round (k13 + 1, (d14 ++ [(⟨((k13 : Nat) : Int), ((k13 : Nat) : Int), (impl_stab_m x0 x1 ((k13 : Nat) : Int))⟩ : DSpan)]), (A44, c45)) sl4 (fun W hm => hm) ⟨(by omega), hn48, (show (d14 ++ [(⟨((k13 : Nat) : Int), ((k13 : Nat) : Int), (impl_stab_m x0 x1 ((k13 : Nat) : Int))⟩ : DSpan)]).length ≤ 0 + (k13 + 1) from by first | omega | (simp only [List.length_append, List.length_cons, List.length_nil] at *; omega))⟩ (rl (by omega))
    ·have g29 := decide_eq_false h28
     refine ws g29 ?_
     refine ws g29 ?_
     refine ws g29 ?_
     refine ws g29 ?_
     refine ws g29 ?_
     refine ws g29 ?_
     refine ws g29 ?_
     refine ws g29 ?_
     refine wv (vpF g29) ?_
     refine nt' ?_
     refine CM_condF rfl rfl ?_
     refine CM_region (wm (wm (wm (wm ?_))))
     let K6 : List Value := [.int .i64 ((k13 : Nat) : Int), .int .i64 ((k13 : Nat) : Int), .slice A24 (impl_stab_m x0 x1 ((k13 : Nat) : Int)).length c25]
     refine wv (fun W hm => rv_build (cs := K6) rfl (by kernel_rfl)) ?_
     refine WM_build (cs := K6) underlying64 type86 rfl (by decide) (by decide) rfl (by kernel_rfl) (Wd_none rfl) (by decide) (fun p49 => ?_)
     refine ap1 tySpan 86 (.slice A15 d14.length c16) d14 (⟨((k13 : Nat) : Int), ((k13 : Nat) : Int), (impl_stab_m x0 x1 ((k13 : Nat) : Int))⟩ : DSpan) [iOwn (tSl tInt 3) [.slice A24 (impl_stab_m x0 x1 ((k13 : Nat) : Int)).length c25] (impl_stab_m x0 x1 ((k13 : Nat) : Int))] [] K6 (pk [0, 2, 1]) (fun _ _ hs => Els.single (tySpan_join (x := (⟨((k13 : Nat) : Int), ((k13 : Nat) : Int), (impl_stab_m x0 x1 ((k13 : Nat) : Int))⟩ : DSpan)) hs)) underlying64 type86 (show (d14.length + 1) * 40 ≤ 140737488355328 from by omega) (fun v50 => ?_)
     refine WM_form (n := 0) rfl ?_
     rintro A51 c52 rfl m53
     refine wa (WM_nil (QM_block_normal (QM_then (CM_region (wm ?_)))))
     refine wv (vadN k13 1 (by omega)) ?_
     refine wa (WM_nil ?_)
     have hn55 := rng_next (R := (List DSpan)) (body := F1) (k := k13) (s := d14) (s' := (d14 ++ [(⟨((k13 : Nat) : Int), ((k13 : Nat) : Int), (impl_stab_m x0 x1 ((k13 : Nat) : Int))⟩ : DSpan)])) (show k13 < 100 from by omega) (cond_f g29 (rfl)) hF18
     exact QM_round (k13 + 1, (d14 ++ [(⟨((k13 : Nat) : Int), ((k13 : Nat) : Int), (impl_stab_m x0 x1 ((k13 : Nat) : Int))⟩ : DSpan)]), (A51, c52)) sl4 (fun W hm => hm) ⟨(by omega), hn55, (show (d14 ++ [(⟨((k13 : Nat) : Int), ((k13 : Nat) : Int), (impl_stab_m x0 x1 ((k13 : Nat) : Int))⟩ : DSpan)]).length ≤ 0 + (k13 + 1) from by first | omega | (simp only [List.length_append, List.length_cons, List.length_nil] at *; omega))⟩ (rl (by omega))
   ·have g22 : (decide (((k13 : Nat) : Int) ≤ 99)) = false := decide_eq_false (by omega)
    refine CM_condF rfl g22 ?_
    refine CM_exit (QM_then_exit (QM_then_exit ?_))
    have hE56 : R2 (100 - 0) 0 [] = Sum.inr d14 := rng_end hl21 hF18
    refine QM_block_hit (QM_then (sr (wm (wa (nt' (CM_ret ?_))))))
    have he57 := (show impl_StabIndex_m x0 x1 = d14 from cond_t g10 (cond_t g12 (fin_inr hE56 (rfl))))
    refine QM_r1 rfl (RR_tmp rfl) (fun W hm => ⟨.slice A15 d14.length c16, ?_, ?_⟩)
    ·first | rw [he57] | rfl
    ·rw [he57]; exact hm
  ·
   refine CM_condT rfl (nf g12) ?_
   refine sr (wm (wa (nt' (CM_ret (QM_then_ret ?_)))))
   have he58 := (show impl_StabIndex_m x0 x1 = [] from cond_t g10 (cond_f g12 (rfl)))
   refine QM_r1 rfl (RR_tmp rfl) (fun W hm => ⟨.slice (some ⟨p7, 0, none⟩) 0 0, ?_, ?_⟩)
   ·first | rw [he58] | rfl
   ·rw [he58]; exact hm
 ·
  refine ws (nf g10) ?_
  refine ws (nf g10) ?_
  refine ws (nf g10) ?_
  refine wv (vpT (nf g10)) ?_
  refine nt' ?_
  refine CM_condT rfl rfl ?_
  refine sr (wm (wa (nt' (CM_ret (QM_then_ret ?_)))))
  have he59 := (show impl_StabIndex_m x0 x1 = [] from cond_f g10 (rfl))
  refine QM_r1 rfl (RR_tmp rfl) (fun W hm => ⟨.slice (some ⟨p7, 0, none⟩) 0 0, ?_, ?_⟩)
  ·first | rw [he59] | rfl
  ·rw [he59]; exact hm

def impl_EqualSpans_b1 (x0 : (List DSpan)) (x1 : (List DSpan)) (k13 : Nat) : Bool ⊕ (Unit) :=
 cond (((gt x0 k13).From) != ((gt x1 k13).From)) (Sum.inl false) (cond (((gt x0 k13).To) != ((gt x1 k13).To)) (Sum.inl false) (cond (impl_sameInts_m ((gt x0 k13).Set) ((gt x1 k13).Set)) (Sum.inr ()) (Sum.inl false)))
def impl_EqualSpans_m (x0 : (List DSpan)) (x1 : (List DSpan)) : Bool :=
 cond (((x0.length : Nat) : Int) != ((x1.length : Nat) : Int)) false (Sum.elim id (fun (s : Unit) => true) (rng (R := Bool) (fun k (_ : Unit) => impl_EqualSpans_b1 x0 x1 k) (x0.length - 0) 0 ()))
theorem cb54 : Cb Try.prog 54 := ⟨f54, _, func54, rfl, by decide⟩
theorem impl_EqualSpans_c (w : World) (z0 : Value) (x0 : (List DSpan)) (z1 : Value) (x1 : (List DSpan)) (r_0 : rdS tySpan w w.heap.size z0 x0) (r_1 : rdS tySpan w w.heap.size z1 x1) :
  Calls Try.prog 54 #[z0, z1] w fun e w' => e = .returned (.bool (impl_EqualSpans_m x0 x1)) ∧ Below w.heap.size w w' := by
 obtain ⟨m1, A2, c3, rfl, q4, r5⟩ := rdS_op r_0
 obtain ⟨m6, A7, c8, rfl, q9, r10⟩ := rdS_op r_1
 refine ce2 (L := [(0, .slice A2 x0.length c3), (1, .slice A7 x1.length c8)]) (N := 49) func54 ?_
 refine sr (wa (nt' (CM_seq (sr (wm ?_)))))
 refine wv (vlen underlying64) ?_
 refine wm ?_
 refine wv (vlen underlying64) ?_
 refine wv vneq ?_
 refine nt' ?_
 by_cases h11 : ((x0.length : Nat) : Int) = ((x1.length : Nat) : Int)
 ·have g12 : (((x0.length : Nat) : Int) != ((x1.length : Nat) : Int)) = false := by rw [h11]; exact bne_self_eq_false _
  refine CM_condF rfl g12 ?_
  refine CM_skip (QM_then (CM_seq (sr (wm ?_))))
  refine wv (vlen underlying64) ?_
  refine wm (nt' (CM_block ?_))
  let F1 := fun k (_ : Unit) => impl_EqualSpans_b1 x0 x1 k
  let R2 := rng (R := Bool) F1
  refine CM_loop (σ := Nat × (Unit) × (Unit)) (fun s => [(1, .slice A7 x1.length c8), (12, .slice A2 x0.length c3), (13, .int .i64 ((x0.length : Nat) : Int)), (14, .int .i64 ((s.1 : Nat) : Int))]) (fun s => []) (fun s => s.1 ≤ x0.length ∧ R2 (x0.length - s.1) s.1 s.2.1 = R2 (x0.length - 0) 0 ()) (fun s => x0.length - s.1) (0, (), ()) sl4 (fun W hm => hm) ⟨(by omega), rfl⟩ ?_
  rintro ⟨k13, ⟨⟩, ⟨⟩⟩ H16
  obtain ⟨hk14, hF15⟩ : k13 ≤ x0.length ∧ R2 (x0.length - k13) k13 () = R2 (x0.length - 0) 0 () := H16
  show CM Try.prog 49 _ _ _ _ [(1, .slice A7 x1.length c8), (12, .slice A2 x0.length c3), (13, .int .i64 ((x0.length : Nat) : Int)), (14, .int .i64 ((k13 : Nat) : Int))] []
  refine sr ?_
  refine wv vlss ?_
  refine nt' (CM_seq ?_)
  by_cases hl17 : k13 < x0.length
  ·have g18 := dlT hl17
   refine CM_condT rfl g18 ?_
   refine CM_skip (QM_then (CM_seq (CM_block (sr (wm ?_)))))
   obtain ⟨a19, rfl, hb20, he21⟩ := q4 (by omega)
   refine wv (vix 3 k13 underlying64 type86) ?_
   obtain ⟨_, e25, hc22⟩ := he21 k13 _ (gt_some (show k13 < x0.length from by omega))
   obtain ⟨v23, rfl, r24⟩ := tySpan_rd e25
   obtain ⟨m26, A27, c28, rfl, q29, r30⟩ := rdS_op r24
   let K3 : List Value := [.int .i64 ((gt x0 k13).From), .int .i64 ((gt x0 k13).To), .slice A27 ((gt x0 k13).Set).length c28]
   refine wv (fun W hm => rv_loadN (cs := K3) underlying86 type86 rfl rfl (hm.elCells (show (a19.add (k13 * 3)).block < w.heap.size from by rw [add_block]; exact hb20.1) hc22)) ?_
   refine WM_alloc type86 rfl (Wd_none rfl) (by decide) (fun p31 => ?_)
   refine wa ?_
   refine sb 0 K3 [] (fun W hm => hm) type86 ?_
   refine nt' (CM_seq ?_)
   refine CM_regionD (by kernel_rfl) (by kernel_rfl) ?_
   refine qv (vf underlying86 rfl type3) ?_
   refine qv (vl 0 0 underlying3) ?_
   refine qm (qm ?_)
   obtain ⟨a32, rfl, hb33, he34⟩ := q9 (by omega)
   refine qv (vix 3 k13 underlying64 type86) ?_
   refine qv (vf underlying86 rfl type3) ?_
   obtain ⟨_, e38, hc35⟩ := he34 k13 _ (gt_some (show k13 < x1.length from by omega))
   obtain ⟨v36, rfl, r37⟩ := tySpan_rd e38
   obtain ⟨m39, A40, c41, rfl, q42, r43⟩ := rdS_op r37
   refine qv (fun W hm => rv_load underlying3 rfl rfl ((hm.cell0 (show ((a32.add (k13 * 3)).add 0).block < w.heap.size from by rw [add_block, add_block]; exact hb33.1)).trans (hc35 0 _ rfl))) ?_
   refine qv vneq ?_
   refine qm ?_
   by_cases h44 : ((gt x0 k13).From) = ((gt x1 k13).From)
   ·have g45 : (((gt x0 k13).From) != ((gt x1 k13).From)) = false := by rw [h44]; exact bne_self_eq_false _
    refine qg (vf underlying86 rfl type3) g45 ?_
    refine qg (vl 0 1 underlying3) g45 ?_
    refine qg vmv g45 ?_
    refine qg vmv g45 ?_
    refine qg (vix 3 k13 underlying64 type86) g45 ?_
    refine qg (vf underlying86 rfl type3) g45 ?_
    refine qg (fun W hm => rv_load underlying3 rfl rfl ((hm.cell0 (show ((a32.add (k13 * 3)).add 1).block < w.heap.size from by rw [add_block, add_block]; exact hb33.1)).trans (hc35 1 _ rfl))) g45 ?_
    refine qg vneq g45 ?_
    refine qv (vpF g45) ?_
    refine qm ?_
    by_cases h46 : ((gt x0 k13).To) = ((gt x1 k13).To)
    ·have g47 : (((gt x0 k13).To) != ((gt x1 k13).To)) = false := by rw [h46]; exact bne_self_eq_false _
     refine qg (vf underlying86 rfl type37) g47 ?_
     refine qg (vl 0 2 underlying37) g47 ?_
     refine qg vmv g47 ?_
     refine qg vmv g47 ?_
     refine qg (vix 3 k13 underlying64 type86) g47 ?_
     refine qg (vf underlying86 rfl type37) g47 ?_
     refine qg (fun W hm => rv_load underlying37 rfl rfl ((hm.cell0 (show ((a32.add (k13 * 3)).add 2).block < w.heap.size from by rw [add_block, add_block]; exact hb33.1)).trans (hc35 2 _ rfl))) g47 ?_
     refine QR_callV (cl_fn cb46 rfl) (fun W hm => impl_sameInts_c W _ ((gt x0 k13).Set) _ ((gt x1 k13).Set) (hm.rdS0 r30) (hm.rdS0 r43)) (Wd_some rfl rfl rfl (bw g47 rfl)) (by decide) ?_
     refine qg vnot g47 ?_
     refine qv (vpF g47) ?_
     refine nq' ?_
     rcases Bool.eq_false_or_eq_true (impl_sameInts_m ((gt x0 k13).Set) ((gt x1 k13).Set)) with g49 | g49
     ·
      refine CM_condF rfl (nt g49) ?_
      refine CM_skip (QM_block_normal (QM_then (CM_region ?_)))
      refine wv (vadN k13 1 (by omega)) ?_
      refine wm (WM_nil ?_)
      have hn50 := rng_next (R := Bool) (body := F1) (k := k13) (s := ()) (s' := ()) (show k13 < x0.length from by omega) (cond_f g45 (cond_f g47 (cond_t g49 (rfl)))) hF15
      exact QM_round (k13 + 1, (), ()) sl4 (pk []) ⟨(by omega), hn50⟩ (rl (by omega))
     ·
      refine CM_condT rfl (nf g49) ?_
      refine sr (wa (nt' (CM_ret (QM_block_ret (QM_then_ret (QM_then_ret (QM_block_ret (QM_then_ret ?_))))))))
      exact rtb (h := cond_f g12 (fin_inl (rng_ret (body := F1) (k := k13) (s := ()) (show k13 < x0.length from by omega) (cond_f g45 (cond_f g47 (cond_f g49 (rfl)))) hF15) rfl))
    ·have g47 : (((gt x0 k13).To) != ((gt x1 k13).To)) = true := bne_iff_ne.2 h46
     refine qs g47 ?_
     refine qs g47 ?_
     refine qs g47 ?_
     refine qs g47 ?_
     refine qs g47 ?_
     refine qs g47 ?_
     refine qs g47 ?_
     refine qs g47 ?_
     refine qs g47 ?_
     refine qv (vpT g47) ?_
     refine nq' ?_
     refine CM_condT rfl rfl ?_
     refine sr (wa (nt' (CM_ret (QM_block_ret (QM_then_ret (QM_then_ret (QM_block_ret (QM_then_ret ?_))))))))
     exact rtb (h := cond_f g12 (fin_inl (rng_ret (body := F1) (k := k13) (s := ()) (show k13 < x0.length from by omega) (cond_f g45 (cond_t g47 (rfl))) hF15) rfl))
   ·have g45 : (((gt x0 k13).From) != ((gt x1 k13).From)) = true := bne_iff_ne.2 h44
    refine qs g45 ?_
    refine qs g45 ?_
    refine qs g45 ?_
    refine qs g45 ?_
    refine qs g45 ?_
    refine qs g45 ?_
    refine qs g45 ?_
    refine qs g45 ?_
    refine qv (vpT g45) ?_
    refine qm ?_
    refine QR_skip (Wd_some rfl rfl rfl rfl) rfl (by decide) ?_
    refine QR_skip (Wd_some rfl rfl rfl rfl) rfl (by decide) ?_
    refine QR_skip (Wd_some rfl rfl rfl rfl) rfl (by decide) ?_
    refine QR_skip (Wd_some rfl rfl rfl rfl) rfl (by decide) ?_
    refine QR_skip (Wd_some rfl rfl rfl rfl) rfl (by decide) ?_
    refine QR_skip (Wd_some rfl rfl rfl rfl) rfl (by decide) ?_
    refine QR_skip (Wd_some rfl rfl rfl rfl) rfl (by decide) ?_
    refine QR_skip (Wd_some rfl rfl rfl rfl) rfl (by decide) ?_
    refine QR_skip (Wd_some rfl rfl rfl rfl) rfl (by decide) ?_
    refine qv (vpT rfl) ?_
    refine nq' ?_
    refine CM_condT rfl rfl ?_
    refine sr (wa (nt' (CM_ret (QM_block_ret (QM_then_ret (QM_then_ret (QM_block_ret (QM_then_ret ?_))))))))
    exact rtb (h := cond_f g12 (fin_inl (rng_ret (body := F1) (k := k13) (s := ()) (show k13 < x0.length from by omega) (cond_t g45 (rfl)) hF15) rfl))
  ·have g18 := dlF hl17
   refine CM_condF rfl g18 ?_
   refine CM_exit (QM_then_exit (QM_then_exit ?_))
   have hE51 : R2 (x0.length - 0) 0 () = Sum.inr () := rng_end hl17 hF15
   refine QM_block_hit (QM_then (sr (wa (nt' (CM_ret ?_)))))
   exact rtb (h := cond_f g12 (fin_inr hE51 (rfl)))
 ·have g12 : (((x0.length : Nat) : Int) != ((x1.length : Nat) : Int)) = true := bne_iff_ne.2 h11
  refine CM_condT rfl g12 ?_
  refine sr (wa (nt' (CM_ret (QM_then_ret ?_))))
  exact rtb (h := cond_t g12 (rfl))

def impl_IsIndex_b1 (x0 : DIndex) (k22 : Nat) : Bool ⊕ (Unit) :=
 cond (impl_EqualSpans_m (gt x0.Fields k22) (impl_StabIndex_m x0.Queries ((k22 : Nat) : Int))) (Sum.inr ()) (Sum.inl false)
def impl_IsIndex_m (x0 : DIndex) : Bool :=
 cond (impl_AreQueries_m x0.Queries) (cond (((x0.Fields.length : Nat) : Int) != 3) false (Sum.elim id (fun (s : Unit) => true) (rng (R := Bool) (fun k (_ : Unit) => impl_IsIndex_b1 x0 k) (x0.Fields.length - 0) 0 ()))) false
theorem cb25 : Cb Try.prog 25 := ⟨f25, _, func25, rfl, by decide⟩
theorem impl_IsIndex_c (w : World) (z0 : List Value) (x0 : DIndex) (r_0 : tyIndex.rd w w.heap.size z0 x0) (s_0 : smIndex 68719476736 x0) :
  Calls Try.prog 25 #[.agg z0.toArray] w fun e w' => e = .returned (.bool (impl_IsIndex_m x0)) ∧ Below w.heap.size w w' := by
 obtain ⟨v1, v3, rfl, r2, r4⟩ := tyIndex_rd r_0
 obtain ⟨m5, A6, c7, rfl, q8, r9⟩ := rdS_op r2
 obtain ⟨m10, A11, c12, rfl, q13, r14⟩ := rdS_op r4
 have l15 : x0.Queries.length ≤ 68719476736 := s_0.1.1
 have l16 : x0.Fields.length ≤ 68719476736 := s_0.2.1
 refine ce1 (L := [(0, .agg #[.slice A6 x0.Queries.length c7, .slice A11 x0.Fields.length c12])]) (N := 31) func25 ?_
 refine sr ?_
 refine WM_box rfl (Wd_none rfl) (by decide) (fun p17 => ?_)
 refine wa (nt' (CM_seq (sr ?_)))
 refine wv (vf underlying27 rfl type24) ?_
 refine wv (vl 0 0 underlying24) ?_
 refine wcv (cl_fn cb53 rfl) (fun W hm => impl_AreQueries_c W _ x0.Queries (hm.rdS0 r9)) ?_
 refine wv vnot ?_
 refine wm ?_
 rcases Bool.eq_false_or_eq_true (impl_AreQueries_m x0.Queries) with g19 | g19
 ·
  refine wg (vf underlying27 rfl type25) (nt g19) ?_
  refine wg (vl 0 1 underlying25) (nt g19) ?_
  refine wg (vlen underlying25) (nt g19) ?_
  refine wg vneq (nt g19) ?_
  refine wv (vpF (nt g19)) ?_
  refine nt' ?_
  by_cases h20 : ((x0.Fields.length : Nat) : Int) = 3
  ·have g21 : (((x0.Fields.length : Nat) : Int) != 3) = false := by rw [h20]; exact bne_self_eq_false _
   refine CM_condF rfl g21 ?_
   refine CM_skip (QM_then (CM_seq (sr ?_)))
   refine wv (vf underlying27 rfl type25) ?_
   refine wv (vl 0 1 underlying25) ?_
   refine wv (vlen underlying25) ?_
   refine wm (nt' (CM_block ?_))
   let F1 := fun k (_ : Unit) => impl_IsIndex_b1 x0 k
   let R2 := rng (R := Bool) F1
   let K3 : List Value := [.slice A6 x0.Queries.length c7, .slice A11 x0.Fields.length c12]
   refine CM_loop (σ := Nat × (Unit) × (Unit)) (fun s => [(1, .pointer (some (⟨p17, 0, none⟩ : Addr))), (16, .slice A11 x0.Fields.length c12), (17, .int .i64 ((x0.Fields.length : Nat) : Int)), (18, .int .i64 ((s.1 : Nat) : Int))]) (fun s => [iBox p17 27 K3]) (fun s => s.1 ≤ x0.Fields.length ∧ R2 (x0.Fields.length - s.1) s.1 s.2.1 = R2 (x0.Fields.length - 0) 0 ()) (fun s => x0.Fields.length - s.1) (0, (), ()) sl4 (fun W hm => hm) ⟨(by omega), rfl⟩ ?_
   rintro ⟨k22, ⟨⟩, ⟨⟩⟩ H25
   obtain ⟨hk23, hF24⟩ : k22 ≤ x0.Fields.length ∧ R2 (x0.Fields.length - k22) k22 () = R2 (x0.Fields.length - 0) 0 () := H25
   show CM Try.prog 31 _ _ _ _ [(1, .pointer (some (⟨p17, 0, none⟩ : Addr))), (16, .slice A11 x0.Fields.length c12), (17, .int .i64 ((x0.Fields.length : Nat) : Int)), (18, .int .i64 ((k22 : Nat) : Int))] [iBox p17 27 K3]
   refine sr ?_
   refine wv vlss ?_
   refine nt' (CM_seq ?_)
   by_cases hl26 : k22 < x0.Fields.length
   ·have g27 := dlT hl26
    refine CM_condT rfl g27 ?_
    refine CM_skip (QM_then (CM_seq (CM_block (sr (wm ?_)))))
    obtain ⟨a28, rfl, hb29, he30⟩ := q13 (by omega)
    refine wv (vix 1 k22 underlying25 type64) ?_
    obtain ⟨_, e32, hc31⟩ := he30 k22 _ (gt_some (show k22 < x0.Fields.length from by omega))
    have l33 : (gt x0.Fields k22).length ≤ 68719476736 := (s_0.2.2 _ (gt_mem (show k22 < x0.Fields.length from by omega))).1
    obtain ⟨v34, rfl, r35⟩ := e32
    obtain ⟨m36, A37, c38, rfl, q39, r40⟩ := rdS_op r35
    refine wv (fun W hm => rv_load underlying64 rfl rfl ((hm.cell0 (show (a28.add (k22 * 1)).block < w.heap.size from by rw [add_block]; exact hb29.1)).trans (hc31 0 _ rfl))) ?_
    refine wa (wa (nt' (sr (wm ?_))))
    refine wv (vf underlying27 rfl type24) ?_
    refine wv (vl 0 0 underlying24) ?_
    refine wm ?_
    refine wcl (tSl tySpan 86) (impl_StabIndex_m x0.Queries ((k22 : Nat) : Int)) (cl_fn cb55 rfl) (fun W hm => impl_StabIndex_c W _ x0.Queries ((k22 : Nat) : Int) (hm.rdS0 r9) s_0.1) (fun z41 => ?_)
    refine WM_form (n := 0) rfl ?_
    rintro A42 c43 rfl m44
    refine wcv (cl_fn cb54 rfl) (fun W hm => impl_EqualSpans_c W _ (gt x0.Fields k22) _ (impl_StabIndex_m x0.Queries ((k22 : Nat) : Int)) (hm.rdS0 r40) (hm.rdSI (n := 0) rfl)) ?_
    refine wv vnot ?_
    refine nt' ?_
    rcases Bool.eq_false_or_eq_true (impl_EqualSpans_m (gt x0.Fields k22) (impl_StabIndex_m x0.Queries ((k22 : Nat) : Int))) with g47 | g47
    ·
     refine CM_condF rfl (nt g47) ?_
     refine CM_skip (QM_block_normal (QM_then (CM_region ?_)))
     refine wv (vadN k22 1 (by omega)) ?_
     refine wm (WM_nil ?_)
     have hn48 := rng_next (R := Bool) (body := F1) (k := k22) (s := ()) (s' := ()) (show k22 < x0.Fields.length from by omega) (cond_t g47 (rfl)) hF24
     exact QM_round (k22 + 1, (), ()) sl4 (pk [1]) ⟨(by omega), hn48⟩ (rl (by omega))
    ·
     refine CM_condT rfl (nf g47) ?_
     refine sr (wa (nt' (CM_ret (QM_block_ret (QM_then_ret (QM_then_ret (QM_block_ret (QM_then_ret ?_))))))))
     exact rtb (h := cond_t g19 (cond_f g21 (fin_inl (rng_ret (body := F1) (k := k22) (s := ()) (show k22 < x0.Fields.length from by omega) (cond_f g47 (rfl)) hF24) rfl)))
   ·have g27 := dlF hl26
    refine CM_condF rfl g27 ?_
    refine CM_exit (QM_then_exit (QM_then_exit ?_))
    have hE49 : R2 (x0.Fields.length - 0) 0 () = Sum.inr () := rng_end hl26 hF24
    refine QM_block_hit (QM_then (sr (wa (nt' (CM_ret ?_)))))
    exact rtb (h := cond_t g19 (cond_f g21 (fin_inr hE49 (rfl))))
  ·have g21 : (((x0.Fields.length : Nat) : Int) != 3) = true := bne_iff_ne.2 h20
   refine CM_condT rfl g21 ?_
   refine sr (wa (nt' (CM_ret (QM_then_ret ?_))))
   exact rtb (h := cond_t g19 (cond_t g21 (rfl)))
 ·
  refine ws (nf g19) ?_
  refine ws (nf g19) ?_
  refine ws (nf g19) ?_
  refine ws (nf g19) ?_
  refine wv (vpT (nf g19)) ?_
  refine nt' ?_
  refine CM_condT rfl rfl ?_
  refine sr (wa (nt' (CM_ret (QM_then_ret ?_))))
  exact rtb (h := cond_f g19 (rfl))

def impl_IsRow_b1 (x0 : DRow) (k9 : Nat) : Bool ⊕ (Unit) :=
 cond (impl_within_m (gt x0.Values k9) 0 99) (Sum.inr ()) (Sum.inl false)
def impl_IsRow_m (x0 : DRow) : Bool :=
 Sum.elim id (fun (s : Unit) => cond (impl_within_m x0.Id 0 999) (((x0.Values.length : Nat) : Int) == 3) false) (rng (R := Bool) (fun k (_ : Unit) => impl_IsRow_b1 x0 k) (x0.Values.length - 0) 0 ())
theorem cb77 : Cb Try.prog 77 := ⟨f77, _, func77, rfl, by decide⟩
theorem impl_IsRow_c (w : World) (z0 : List Value) (x0 : DRow) (r_0 : tyRow.rd w w.heap.size z0 x0) :
  Calls Try.prog 77 #[.agg z0.toArray] w fun e w' => e = .returned (.bool (impl_IsRow_m x0)) ∧ Below w.heap.size w w' := by
 obtain ⟨v1, rfl, r2⟩ := tyRow_rd r_0
 obtain ⟨m3, A4, c5, rfl, q6, r7⟩ := rdS_op r2
 refine ce1 (L := [(0, .agg #[.int .i64 x0.Id, .slice A4 x0.Values.length c5])]) (N := 25) func77 ?_
 refine sr ?_
 refine WM_box rfl (Wd_none rfl) (by decide) (fun p8 => ?_)
 refine wa (nt' (CM_seq (sr ?_)))
 refine wv (vf underlying50 rfl type37) ?_
 refine wv (vl 0 1 underlying37) ?_
 refine wv (vlen underlying37) ?_
 refine wm (nt' (CM_block ?_))
 let F1 := fun k (_ : Unit) => impl_IsRow_b1 x0 k
 let R2 := rng (R := Bool) F1
 let I3 : It := iBox p8 50 [.int .i64 x0.Id, .slice A4 x0.Values.length c5]
 refine CM_loop (σ := Nat × (Unit) × (Unit)) (fun s => [(1, .pointer (some (⟨p8, 0, none⟩ : Addr))), (6, .slice A4 x0.Values.length c5), (7, .int .i64 ((x0.Values.length : Nat) : Int)), (8, .int .i64 ((s.1 : Nat) : Int))]) (fun s => [I3]) (fun s => s.1 ≤ x0.Values.length ∧ R2 (x0.Values.length - s.1) s.1 s.2.1 = R2 (x0.Values.length - 0) 0 ()) (fun s => x0.Values.length - s.1) (0, (), ()) sl4 (fun W hm => hm) ⟨(by omega), rfl⟩ ?_
 rintro ⟨k9, ⟨⟩, ⟨⟩⟩ H12
 obtain ⟨hk10, hF11⟩ : k9 ≤ x0.Values.length ∧ R2 (x0.Values.length - k9) k9 () = R2 (x0.Values.length - 0) 0 () := H12
 show CM Try.prog 25 _ _ _ _ [(1, .pointer (some (⟨p8, 0, none⟩ : Addr))), (6, .slice A4 x0.Values.length c5), (7, .int .i64 ((x0.Values.length : Nat) : Int)), (8, .int .i64 ((k9 : Nat) : Int))] [I3]
 refine sr ?_
 refine wv vlss ?_
 refine nt' (CM_seq ?_)
 by_cases hl13 : k9 < x0.Values.length
 ·have g14 := dlT hl13
  refine CM_condT rfl g14 ?_
  refine CM_skip (QM_then (CM_seq (CM_block (sr ?_))))
  obtain ⟨a15, rfl, hb16, he17⟩ := q6 (by omega)
  refine wv (vix 1 k9 underlying37 type3) ?_
  refine wv (fun W hm => rv_load underlying3 rfl rfl ((hm.cell0 (show (a15.add (k9 * 1)).block < w.heap.size from by rw [add_block]; exact hb16.1)).trans (rdS_int he17 k9 (by omega)))) ?_
  refine wa (nt' (sr (wm ?_)))
  refine wcv (cl_fn cb86 rfl) (fun W hm => impl_within_c W (gt x0.Values k9) 0 99) ?_
  refine wv vnot ?_
  refine nt' ?_
  rcases Bool.eq_false_or_eq_true (impl_within_m (gt x0.Values k9) 0 99) with g19 | g19
  ·
   have hw := impl_within_fact g19
   refine CM_condF rfl (nt g19) ?_
   refine CM_skip (QM_block_normal (QM_then (CM_region ?_)))
   refine wv (vadN k9 1 (by omega)) ?_
   refine wm (WM_nil ?_)
   have hn20 := rng_next (R := Bool) (body := F1) (k := k9) (s := ()) (s' := ()) (show k9 < x0.Values.length from by omega) (cond_t g19 (rfl)) hF11
   exact QM_round (k9 + 1, (), ()) sl4 (fun W hm => hm) ⟨(by omega), hn20⟩ (rl (by omega))
  ·
   refine CM_condT rfl (nf g19) ?_
   refine sr (wa (nt' (CM_ret (QM_block_ret (QM_then_ret (QM_then_ret (QM_block_ret (QM_then_ret ?_))))))))
   exact rtb (h := fin_inl (rng_ret (body := F1) (k := k9) (s := ()) (show k9 < x0.Values.length from by omega) (cond_f g19 (rfl)) hF11) rfl)
 ·have g14 := dlF hl13
  refine CM_condF rfl g14 ?_
  refine CM_exit (QM_then_exit (QM_then_exit ?_))
  have hE21 : R2 (x0.Values.length - 0) 0 () = Sum.inr () := rng_end hl13 hF11
  refine QM_block_hit (QM_then (sr ?_))
  refine wv (vf underlying50 rfl type3) ?_
  refine wv (vl 0 0 underlying3) ?_
  refine wcv (cl_fn cb86 rfl) (fun W hm => impl_within_c W x0.Id 0 999) ?_
  refine wm ?_
  rcases Bool.eq_false_or_eq_true (impl_within_m x0.Id 0 999) with g23 | g23
  ·
   have hw := impl_within_fact g23
   refine wg (vf underlying50 rfl type37) g23 ?_
   refine wg (vl 0 1 underlying37) g23 ?_
   refine wg (vlen underlying37) g23 ?_
   refine wg (fun W hm => rv_eql rfl rfl) g23 ?_
   refine wv (vpT g23) ?_
   refine wa (nt' (CM_ret ?_))
   exact rtb (h := fin_inr hE21 (cond_t g23 (rfl)))
  ·
   refine ws g23 ?_
   refine ws g23 ?_
   refine ws g23 ?_
   refine ws g23 ?_
   refine wv (vpF g23) ?_
   refine wa (nt' (CM_ret ?_))
   exact rtb (h := fin_inr hE21 (cond_f g23 (rfl)))

def impl_hasInt_b1 (x0 : (List Int)) (x1 : Int) (k6 : Nat) : Bool ⊕ (Unit) :=
 cond ((gt x0 k6) == x1) (Sum.inl true) (Sum.inr ())
def impl_hasInt_m (x0 : (List Int)) (x1 : Int) : Bool :=
 Sum.elim id (fun (s : Unit) => false) (rng (R := Bool) (fun k (_ : Unit) => impl_hasInt_b1 x0 x1 k) (x0.length - 0) 0 ())
theorem cb61 : Cb Try.prog 61 := ⟨f61, _, func61, rfl, by decide⟩
theorem impl_hasInt_c (w : World) (z0 : Value) (x0 : (List Int)) (x1 : Int) (r_0 : rdS tInt w w.heap.size z0 x0) :
  Calls Try.prog 61 #[z0, .int .i64 x1] w fun e w' => e = .returned (.bool (impl_hasInt_m x0 x1)) ∧ Below w.heap.size w w' := by
 obtain ⟨m1, A2, c3, rfl, q4, r5⟩ := rdS_op r_0
 refine ce2 (L := [(0, .slice A2 x0.length c3), (1, .int .i64 x1)]) (N := 17) func61 ?_
 refine sr (wa (nt' (CM_seq (sr (wm ?_)))))
 refine wv (vlen underlying37) ?_
 refine wm (nt' (CM_block ?_))
 let F1 := fun k (_ : Unit) => impl_hasInt_b1 x0 x1 k
 let R2 := rng (R := Bool) F1
 refine CM_loop (σ := Nat × (Unit) × (Unit)) (fun s => [(1, .int .i64 x1), (7, .slice A2 x0.length c3), (8, .int .i64 ((x0.length : Nat) : Int)), (9, .int .i64 ((s.1 : Nat) : Int))]) (fun s => []) (fun s => s.1 ≤ x0.length ∧ R2 (x0.length - s.1) s.1 s.2.1 = R2 (x0.length - 0) 0 ()) (fun s => x0.length - s.1) (0, (), ()) sl4 (fun W hm => hm) ⟨(by omega), rfl⟩ ?_
 rintro ⟨k6, ⟨⟩, ⟨⟩⟩ H9
 obtain ⟨hk7, hF8⟩ : k6 ≤ x0.length ∧ R2 (x0.length - k6) k6 () = R2 (x0.length - 0) 0 () := H9
 show CM Try.prog 17 _ _ _ _ [(1, .int .i64 x1), (7, .slice A2 x0.length c3), (8, .int .i64 ((x0.length : Nat) : Int)), (9, .int .i64 ((k6 : Nat) : Int))] []
 refine sr ?_
 refine wv vlss ?_
 refine nt' (CM_seq ?_)
 by_cases hl10 : k6 < x0.length
 ·have g11 := dlT hl10
  refine CM_condT rfl g11 ?_
  refine CM_skip (QM_then (CM_seq (CM_block (sr ?_))))
  obtain ⟨a12, rfl, hb13, he14⟩ := q4 (by omega)
  refine wv (vix 1 k6 underlying37 type3) ?_
  refine wv (fun W hm => rv_load underlying3 rfl rfl ((hm.cell0 (show (a12.add (k6 * 1)).block < w.heap.size from by rw [add_block]; exact hb13.1)).trans (rdS_int he14 k6 (by omega)))) ?_
  refine wa (nt' (sr (wm (wm ?_))))
  refine wv (fun W hm => rv_eql rfl rfl) ?_
  refine nt' ?_
  by_cases h15 : (gt x0 k6) = x1
  ·have g16 := beq_iff_eq.2 h15
   refine CM_condT rfl g16 ?_
   refine sr (wa (nt' (CM_ret (QM_block_ret (QM_then_ret (QM_then_ret (QM_block_ret (QM_then_ret ?_))))))))
   exact rtb (h := fin_inl (rng_ret (body := F1) (k := k6) (s := ()) (show k6 < x0.length from by omega) (cond_t g16 (rfl)) hF8) rfl)
  ·have g16 := beq_eq_false_iff_ne.2 h15
   refine CM_condF rfl g16 ?_
   refine CM_skip (QM_block_normal (QM_then (CM_region ?_)))
   refine wv (vadN k6 1 (by omega)) ?_
   refine wm (WM_nil ?_)
   have hn17 := rng_next (R := Bool) (body := F1) (k := k6) (s := ()) (s' := ()) (show k6 < x0.length from by omega) (cond_f g16 (rfl)) hF8
   exact QM_round (k6 + 1, (), ()) sl4 (fun W hm => hm) ⟨(by omega), hn17⟩ (rl (by omega))
 ·have g11 := dlF hl10
  refine CM_condF rfl g11 ?_
  refine CM_exit (QM_then_exit (QM_then_exit ?_))
  have hE18 : R2 (x0.length - 0) 0 () = Sum.inr () := rng_end hl10 hF8
  refine QM_block_hit (QM_then (sr (wa (nt' (CM_ret ?_)))))
  exact rtb (h := fin_inr hE18 (rfl))

def impl_isOrder_b1 (x0 : (List Int)) (k6 : Nat) : Bool ⊕ (Unit) :=
 cond (impl_hasInt_m x0 ((k6 : Nat) : Int)) (Sum.inr ()) (Sum.inl false)
def impl_isOrder_m (x0 : (List Int)) : Bool :=
 Sum.elim id (fun (s : Unit) => (((x0.length : Nat) : Int) == 3)) (rng (R := Bool) (fun k (_ : Unit) => impl_isOrder_b1 x0 k) (3 - 0) 0 ())
theorem cb78 : Cb Try.prog 78 := ⟨f78, _, func78, rfl, by decide⟩
theorem impl_isOrder_c (w : World) (z0 : Value) (x0 : (List Int)) (r_0 : rdS tInt w w.heap.size z0 x0) :
  Calls Try.prog 78 #[z0] w fun e w' => e = .returned (.bool (impl_isOrder_m x0)) ∧ Below w.heap.size w w' := by
 obtain ⟨m1, A2, c3, rfl, q4, r5⟩ := rdS_op r_0
 refine ce1 (L := [(0, .slice A2 x0.length c3)]) (N := 15) func78 ?_
 refine sr (wa (nt' (CM_seq (sr (wa (nt' (CM_block ?_)))))))
 let F1 := fun k (_ : Unit) => impl_isOrder_b1 x0 k
 let R2 := rng (R := Bool) F1
 refine CM_loop (σ := Nat × (Unit) × (Unit)) (fun s => [(0, .slice A2 x0.length c3), (3, .int .i64 ((s.1 : Nat) : Int))]) (fun s => []) (fun s => s.1 ≤ 3 ∧ R2 (3 - s.1) s.1 s.2.1 = R2 (3 - 0) 0 ()) (fun s => 3 - s.1) (0, (), ()) sl2 (fun W hm => hm) ⟨(by omega), rfl⟩ ?_
 rintro ⟨k6, ⟨⟩, ⟨⟩⟩ H9
 obtain ⟨hk7, hF8⟩ : k6 ≤ 3 ∧ R2 (3 - k6) k6 () = R2 (3 - 0) 0 () := H9
 show CM Try.prog 15 _ _ _ _ [(0, .slice A2 x0.length c3), (3, .int .i64 ((k6 : Nat) : Int))] []
 refine CM_seq (sr (wm ?_))
 refine wv vlss ?_
 refine nt' ?_
 by_cases hl10 : k6 < 3
 ·have g11 : (decide (((k6 : Nat) : Int) < 3)) = true := decide_eq_true (by omega)
  refine CM_condT rfl g11 ?_
  refine CM_skip (QM_then (CM_seq (CM_block (sr (wm (wm ?_))))))
  refine wcv (cl_fn cb61 rfl) (fun W hm => impl_hasInt_c W _ x0 ((k6 : Nat) : Int) (hm.rdS0 r5)) ?_
  refine wv vnot ?_
  refine nt' ?_
  rcases Bool.eq_false_or_eq_true (impl_hasInt_m x0 ((k6 : Nat) : Int)) with g13 | g13
  ·
   refine CM_condF rfl (nt g13) ?_
   refine CM_skip (QM_block_normal (QM_then (CM_region (wm ?_))))
   refine wv (vadN k6 1 (by omega)) ?_
   refine wa (WM_nil ?_)
   have hn14 := rng_next (R := Bool) (body := F1) (k := k6) (s := ()) (s' := ()) (show k6 < 3 from by omega) (cond_t g13 (rfl)) hF8
   exact QM_round (k6 + 1, (), ()) sl2 (fun W hm => hm) ⟨(by omega), hn14⟩ (rl (by omega))
  ·
   refine CM_condT rfl (nf g13) ?_
   refine sr (wa (nt' (CM_ret (QM_block_ret (QM_then_ret (QM_then_ret (QM_block_ret (QM_then_ret ?_))))))))
   exact rtb (h := fin_inl (rng_ret (body := F1) (k := k6) (s := ()) (show k6 < 3 from by omega) (cond_f g13 (rfl)) hF8) rfl)
 ·have g11 : (decide (((k6 : Nat) : Int) < 3)) = false := decide_eq_false (by omega)
  refine CM_condF rfl g11 ?_
  refine CM_exit (QM_then_exit (QM_then_exit ?_))
  have hE15 : R2 (3 - 0) 0 () = Sum.inr () := rng_end hl10 hF8
  refine QM_block_hit (QM_then (sr (wm ?_)))
  refine wv (vlen underlying37) ?_
  refine wv (fun W hm => rv_eql rfl rfl) ?_
  refine wa (nt' (CM_ret ?_))
  exact rtb (h := fin_inr hE15 (rfl))

def spec_EqualSpans_b1 (x0 : (List DSpan)) (x1 : (List DSpan)) (k13 : Nat) : Bool ⊕ (Unit) :=
 cond (((gt x0 k13).From) != ((gt x1 k13).From)) (Sum.inl false) (cond (((gt x0 k13).To) != ((gt x1 k13).To)) (Sum.inl false) (cond (spec_l2Ints_m ((gt x0 k13).Set) ((gt x1 k13).Set)) (Sum.inr ()) (Sum.inl false)))
def spec_EqualSpans_m (x0 : (List DSpan)) (x1 : (List DSpan)) : Bool :=
 cond (((x0.length : Nat) : Int) != ((x1.length : Nat) : Int)) false (Sum.elim id (fun (s : Unit) => true) (rng (R := Bool) (fun k (_ : Unit) => spec_EqualSpans_b1 x0 x1 k) (x0.length - 0) 0 ()))
theorem cb33 : Cb Try.prog 33 := ⟨f33, _, func33, rfl, by decide⟩
theorem spec_EqualSpans_c (w : World) (z0 : Value) (x0 : (List DSpan)) (z1 : Value) (x1 : (List DSpan)) (r_0 : rdS tySpan w w.heap.size z0 x0) (r_1 : rdS tySpan w w.heap.size z1 x1) :
  Calls Try.prog 33 #[z0, z1] w fun e w' => e = .returned (.bool (spec_EqualSpans_m x0 x1)) ∧ Below w.heap.size w w' := by
 obtain ⟨m1, A2, c3, rfl, q4, r5⟩ := rdS_op r_0
 obtain ⟨m6, A7, c8, rfl, q9, r10⟩ := rdS_op r_1
 refine ce2 (L := [(0, .slice A2 x0.length c3), (1, .slice A7 x1.length c8)]) (N := 55) func33 ?_
 refine sr (wa (nt' (CM_seq (sr (wm ?_)))))
 refine wv (vlen underlying64) ?_
 refine wm ?_
 refine wv (vlen underlying64) ?_
 refine wv vneq ?_
 refine nt' ?_
 by_cases h11 : ((x0.length : Nat) : Int) = ((x1.length : Nat) : Int)
 ·have g12 : (((x0.length : Nat) : Int) != ((x1.length : Nat) : Int)) = false := by rw [h11]; exact bne_self_eq_false _
  refine CM_condF rfl g12 ?_
  refine CM_skip (QM_then (CM_seq (sr (wa (nt' (CM_block ?_))))))
  let F1 := fun k (_ : Unit) => spec_EqualSpans_b1 x0 x1 k
  let R2 := rng (R := Bool) F1
  refine CM_loop (σ := Nat × (Unit) × (Unit)) (fun s => [(0, .slice A2 x0.length c3), (1, .slice A7 x1.length c8), (5, .int .i64 ((s.1 : Nat) : Int))]) (fun s => []) (fun s => s.1 ≤ x0.length ∧ R2 (x0.length - s.1) s.1 s.2.1 = R2 (x0.length - 0) 0 ()) (fun s => x0.length - s.1) (0, (), ()) sl3 (fun W hm => hm) ⟨(by omega), rfl⟩ ?_
  rintro ⟨k13, ⟨⟩, ⟨⟩⟩ H16
  obtain ⟨hk14, hF15⟩ : k13 ≤ x0.length ∧ R2 (x0.length - k13) k13 () = R2 (x0.length - 0) 0 () := H16
  show CM Try.prog 55 _ _ _ _ [(0, .slice A2 x0.length c3), (1, .slice A7 x1.length c8), (5, .int .i64 ((k13 : Nat) : Int))] []
  refine CM_seq (sr (wm (wm ?_)))
  refine wv (vlen underlying64) ?_
  refine wv vlss ?_
  refine nt' ?_
  by_cases hl17 : k13 < x0.length
  ·have g18 := dlT hl17
   refine CM_condT rfl g18 ?_
   refine CM_skip (QM_then (CM_seq (CM_block (CM_seq ?_))))
   refine CM_regionD (by kernel_rfl) (by kernel_rfl) ?_
   refine qm (qm ?_)
   obtain ⟨a19, rfl, hb20, he21⟩ := q4 (by omega)
   refine qv (vix 3 k13 underlying64 type86) ?_
   refine qv (vf underlying86 rfl type3) ?_
   obtain ⟨_, e25, hc22⟩ := he21 k13 _ (gt_some (show k13 < x0.length from by omega))
   obtain ⟨v23, rfl, r24⟩ := tySpan_rd e25
   obtain ⟨m26, A27, c28, rfl, q29, r30⟩ := rdS_op r24
   refine qv (fun W hm => rv_load underlying3 rfl rfl ((hm.cell0 (show ((a19.add (k13 * 3)).add 0).block < w.heap.size from by rw [add_block, add_block]; exact hb20.1)).trans (hc22 0 _ rfl))) ?_
   refine qm (qm ?_)
   obtain ⟨a31, rfl, hb32, he33⟩ := q9 (by omega)
   refine qv (vix 3 k13 underlying64 type86) ?_
   refine qv (vf underlying86 rfl type3) ?_
   obtain ⟨_, e37, hc34⟩ := he33 k13 _ (gt_some (show k13 < x1.length from by omega))
   obtain ⟨v35, rfl, r36⟩ := tySpan_rd e37
   obtain ⟨m38, A39, c40, rfl, q41, r42⟩ := rdS_op r36
   refine qv (fun W hm => rv_load underlying3 rfl rfl ((hm.cell0 (show ((a31.add (k13 * 3)).add 0).block < w.heap.size from by rw [add_block, add_block]; exact hb32.1)).trans (hc34 0 _ rfl))) ?_
   refine qv vneq ?_
   refine qm ?_
   by_cases h43 : ((gt x0 k13).From) = ((gt x1 k13).From)
   ·have g44 : (((gt x0 k13).From) != ((gt x1 k13).From)) = false := by rw [h43]; exact bne_self_eq_false _
    refine qg vmv g44 ?_
    refine qg vmv g44 ?_
    refine qg (vix 3 k13 underlying64 type86) g44 ?_
    refine qg (vf underlying86 rfl type3) g44 ?_
    refine qg (fun W hm => rv_load underlying3 rfl rfl ((hm.cell0 (show ((a19.add (k13 * 3)).add 1).block < w.heap.size from by rw [add_block, add_block]; exact hb20.1)).trans (hc22 1 _ rfl))) g44 ?_
    refine qg vmv g44 ?_
    refine qg vmv g44 ?_
    refine qg (vix 3 k13 underlying64 type86) g44 ?_
    refine qg (vf underlying86 rfl type3) g44 ?_
    refine qg (fun W hm => rv_load underlying3 rfl rfl ((hm.cell0 (show ((a31.add (k13 * 3)).add 1).block < w.heap.size from by rw [add_block, add_block]; exact hb32.1)).trans (hc34 1 _ rfl))) g44 ?_
    refine qg vneq g44 ?_
    refine qv (vpF g44) ?_
    refine qm ?_
    by_cases h45 : ((gt x0 k13).To) = ((gt x1 k13).To)
    ·have g46 : (((gt x0 k13).To) != ((gt x1 k13).To)) = false := by rw [h45]; exact bne_self_eq_false _
     refine qg vmv g46 ?_
     refine qg vmv g46 ?_
     refine qg (vix 3 k13 underlying64 type86) g46 ?_
     refine qg (vf underlying86 rfl type37) g46 ?_
     refine qg (fun W hm => rv_load underlying37 rfl rfl ((hm.cell0 (show ((a19.add (k13 * 3)).add 2).block < w.heap.size from by rw [add_block, add_block]; exact hb20.1)).trans (hc22 2 _ rfl))) g46 ?_
     refine qg vmv g46 ?_
     refine qg vmv g46 ?_
     refine qg (vix 3 k13 underlying64 type86) g46 ?_
     refine qg (vf underlying86 rfl type37) g46 ?_
     refine qg (fun W hm => rv_load underlying37 rfl rfl ((hm.cell0 (show ((a31.add (k13 * 3)).add 2).block < w.heap.size from by rw [add_block, add_block]; exact hb32.1)).trans (hc34 2 _ rfl))) g46 ?_
     refine QR_callV (cl_fn cb29 rfl) (fun W hm => spec_l2Ints_c W _ ((gt x0 k13).Set) _ ((gt x1 k13).Set) (hm.rdS0 r30) (hm.rdS0 r42)) (Wd_some rfl rfl rfl (bw g46 rfl)) (by decide) ?_
     refine qg vnot g46 ?_
     refine qv (vpF g46) ?_
     refine nq' ?_
     rcases Bool.eq_false_or_eq_true (spec_l2Ints_m ((gt x0 k13).Set) ((gt x1 k13).Set)) with g48 | g48
     ·
      refine CM_condF rfl (nt g48) ?_
      refine CM_skip (QM_block_normal (QM_then (CM_region (wm ?_))))
      refine wv (vadN k13 1 (by omega)) ?_
      refine wa (WM_nil ?_)
      have hn49 := rng_next (R := Bool) (body := F1) (k := k13) (s := ()) (s' := ()) (show k13 < x0.length from by omega) (cond_f g44 (cond_f g46 (cond_t g48 (rfl)))) hF15
      exact QM_round (k13 + 1, (), ()) sl3 (fun W hm => hm) ⟨(by omega), hn49⟩ (rl (by omega))
     ·
      refine CM_condT rfl (nf g48) ?_
      refine sr (wa (nt' (CM_ret (QM_block_ret (QM_then_ret (QM_then_ret (QM_block_ret (QM_then_ret ?_))))))))
      exact rtb (h := cond_f g12 (fin_inl (rng_ret (body := F1) (k := k13) (s := ()) (show k13 < x0.length from by omega) (cond_f g44 (cond_f g46 (cond_f g48 (rfl)))) hF15) rfl))
    ·have g46 : (((gt x0 k13).To) != ((gt x1 k13).To)) = true := bne_iff_ne.2 h45
     refine qs g46 ?_
     refine qs g46 ?_
     refine qs g46 ?_
     refine qs g46 ?_
     refine qs g46 ?_
     refine qs g46 ?_
     refine qs g46 ?_
     refine qs g46 ?_
     refine qs g46 ?_
     refine qs g46 ?_
     refine qs g46 ?_
     refine qs g46 ?_
     refine qv (vpT g46) ?_
     refine nq' ?_
     refine CM_condT rfl rfl ?_
     refine sr (wa (nt' (CM_ret (QM_block_ret (QM_then_ret (QM_then_ret (QM_block_ret (QM_then_ret ?_))))))))
     exact rtb (h := cond_f g12 (fin_inl (rng_ret (body := F1) (k := k13) (s := ()) (show k13 < x0.length from by omega) (cond_f g44 (cond_t g46 (rfl))) hF15) rfl))
   ·have g44 : (((gt x0 k13).From) != ((gt x1 k13).From)) = true := bne_iff_ne.2 h43
    refine qs g44 ?_
    refine qs g44 ?_
    refine qs g44 ?_
    refine qs g44 ?_
    refine qs g44 ?_
    refine qs g44 ?_
    refine qs g44 ?_
    refine qs g44 ?_
    refine qs g44 ?_
    refine qs g44 ?_
    refine qs g44 ?_
    refine qv (vpT g44) ?_
    refine qm ?_
    refine QR_skip (Wd_some rfl rfl rfl rfl) rfl (by decide) ?_
    refine QR_skip (Wd_some rfl rfl rfl rfl) rfl (by decide) ?_
    refine QR_skip (Wd_some rfl rfl rfl rfl) rfl (by decide) ?_
    refine QR_skip (Wd_some rfl rfl rfl rfl) rfl (by decide) ?_
    refine QR_skip (Wd_some rfl rfl rfl rfl) rfl (by decide) ?_
    refine QR_skip (Wd_some rfl rfl rfl rfl) rfl (by decide) ?_
    refine QR_skip (Wd_some rfl rfl rfl rfl) rfl (by decide) ?_
    refine QR_skip (Wd_some rfl rfl rfl rfl) rfl (by decide) ?_
    refine QR_skip (Wd_some rfl rfl rfl rfl) rfl (by decide) ?_
    refine QR_skip (Wd_some rfl rfl rfl rfl) rfl (by decide) ?_
    refine QR_skip (Wd_some rfl rfl rfl rfl) rfl (by decide) ?_
    refine QR_skip (Wd_some rfl rfl rfl rfl) rfl (by decide) ?_
    refine qv (vpT rfl) ?_
    refine nq' ?_
    refine CM_condT rfl rfl ?_
    refine sr (wa (nt' (CM_ret (QM_block_ret (QM_then_ret (QM_then_ret (QM_block_ret (QM_then_ret ?_))))))))
    exact rtb (h := cond_f g12 (fin_inl (rng_ret (body := F1) (k := k13) (s := ()) (show k13 < x0.length from by omega) (cond_t g44 (rfl)) hF15) rfl))
  ·have g18 := dlF hl17
   refine CM_condF rfl g18 ?_
   refine CM_exit (QM_then_exit (QM_then_exit ?_))
   have hE50 : R2 (x0.length - 0) 0 () = Sum.inr () := rng_end hl17 hF15
   refine QM_block_hit (QM_then (sr (wa (nt' (CM_ret ?_)))))
   exact rtb (h := cond_f g12 (fin_inr hE50 (rfl)))
 ·have g12 : (((x0.length : Nat) : Int) != ((x1.length : Nat) : Int)) = true := bne_iff_ne.2 h11
  refine CM_condT rfl g12 ?_
  refine sr (wa (nt' (CM_ret (QM_then_ret ?_))))
  exact rtb (h := cond_t g12 (rfl))

def spec_IsIndex_b1 (x0 : DIndex) (k22 : Nat) : Bool ⊕ (Unit) :=
 cond (spec_EqualSpans_m (gt x0.Fields k22) (spec_StabIndex_m x0.Queries ((k22 : Nat) : Int))) (Sum.inr ()) (Sum.inl false)
def spec_IsIndex_m (x0 : DIndex) : Bool :=
 cond (spec_AreQueries_m x0.Queries) (cond (((x0.Fields.length : Nat) : Int) != 3) false (Sum.elim id (fun (s : Unit) => true) (rng (R := Bool) (fun k (_ : Unit) => spec_IsIndex_b1 x0 k) (3 - 0) 0 ()))) false
theorem cb9 : Cb Try.prog 9 := ⟨f9, _, func9, rfl, by decide⟩
theorem spec_IsIndex_c (w : World) (z0 : List Value) (x0 : DIndex) (r_0 : tyIndex.rd w w.heap.size z0 x0) (s_0 : smIndex 68719476736 x0) :
  Calls Try.prog 9 #[.agg z0.toArray] w fun e w' => e = .returned (.bool (spec_IsIndex_m x0)) ∧ Below w.heap.size w w' := by
 obtain ⟨v1, v3, rfl, r2, r4⟩ := tyIndex_rd r_0
 obtain ⟨m5, A6, c7, rfl, q8, r9⟩ := rdS_op r2
 obtain ⟨m10, A11, c12, rfl, q13, r14⟩ := rdS_op r4
 have l15 : x0.Queries.length ≤ 68719476736 := s_0.1.1
 have l16 : x0.Fields.length ≤ 68719476736 := s_0.2.1
 refine ce1 (L := [(0, .agg #[.slice A6 x0.Queries.length c7, .slice A11 x0.Fields.length c12])]) (N := 29) func9 ?_
 refine sr ?_
 refine WM_box rfl (Wd_none rfl) (by decide) (fun p17 => ?_)
 refine wa (nt' (CM_seq (sr ?_)))
 refine wv (vf underlying27 rfl type24) ?_
 refine wv (vl 0 0 underlying24) ?_
 refine wcv (cl_fn cb32 rfl) (fun W hm => spec_AreQueries_c W _ x0.Queries (hm.rdS0 r9)) ?_
 refine wv vnot ?_
 refine wm ?_
 rcases Bool.eq_false_or_eq_true (spec_AreQueries_m x0.Queries) with g19 | g19
 ·
  refine wg (vf underlying27 rfl type25) (nt g19) ?_
  refine wg (vl 0 1 underlying25) (nt g19) ?_
  refine wg (vlen underlying25) (nt g19) ?_
  refine wg vneq (nt g19) ?_
  refine wv (vpF (nt g19)) ?_
  refine nt' ?_
  by_cases h20 : ((x0.Fields.length : Nat) : Int) = 3
  ·have g21 : (((x0.Fields.length : Nat) : Int) != 3) = false := by rw [h20]; exact bne_self_eq_false _
   refine CM_condF rfl g21 ?_
   refine CM_skip (QM_then (CM_seq (sr (wa (nt' (CM_block ?_))))))
   let F1 := fun k (_ : Unit) => spec_IsIndex_b1 x0 k
   let R2 := rng (R := Bool) F1
   let K3 : List Value := [.slice A6 x0.Queries.length c7, .slice A11 x0.Fields.length c12]
   refine CM_loop (σ := Nat × (Unit) × (Unit)) (fun s => [(1, .pointer (some (⟨p17, 0, none⟩ : Addr))), (3, .int .i64 ((s.1 : Nat) : Int))]) (fun s => [iBox p17 27 K3]) (fun s => s.1 ≤ 3 ∧ R2 (3 - s.1) s.1 s.2.1 = R2 (3 - 0) 0 ()) (fun s => 3 - s.1) (0, (), ()) sl2 (fun W hm => hm) ⟨(by omega), rfl⟩ ?_
   rintro ⟨k22, ⟨⟩, ⟨⟩⟩ H25
   obtain ⟨hk23, hF24⟩ : k22 ≤ 3 ∧ R2 (3 - k22) k22 () = R2 (3 - 0) 0 () := H25
   show CM Try.prog 29 _ _ _ _ [(1, .pointer (some (⟨p17, 0, none⟩ : Addr))), (3, .int .i64 ((k22 : Nat) : Int))] [iBox p17 27 K3]
   refine CM_seq (sr (wm ?_))
   refine wv vlss ?_
   refine nt' ?_
   by_cases hl26 : k22 < 3
   ·have g27 : (decide (((k22 : Nat) : Int) < 3)) = true := decide_eq_true (by omega)
    refine CM_condT rfl g27 ?_
    refine CM_skip (QM_then (CM_seq (CM_block (CM_seq ?_))))
    obtain ⟨a28, rfl, hb29, he30⟩ := q13 (by omega)
    obtain ⟨_, e32, hc31⟩ := he30 k22 _ (gt_some (show k22 < x0.Fields.length from by omega))
    have l33 : (gt x0.Fields k22).length ≤ 68719476736 := (s_0.2.2 _ (gt_mem (show k22 < x0.Fields.length from by omega))).1
    obtain ⟨v34, rfl, r35⟩ := e32
    obtain ⟨m36, A37, c38, rfl, q39, r40⟩ := rdS_op r35
    let K4 : List Value := [.slice A6 x0.Queries.length c7, .slice (some a28) x0.Fields.length c12]
    refine CM_cut (σ := Option Addr × Nat) (fun s => [(1, .pointer (some (⟨p17, 0, none⟩ : Addr))), (3, .int .i64 ((k22 : Nat) : Int)), (28, .bool (!(spec_EqualSpans_m (gt x0.Fields k22) (spec_StabIndex_m x0.Queries ((k22 : Nat) : Int)))))]) (fun s => [iOwn (tSl tySpan 86) [.slice s.1 (spec_StabIndex_m x0.Queries ((k22 : Nat) : Int)).length s.2] (spec_StabIndex_m x0.Queries ((k22 : Nat) : Int)), iBox p17 27 K4]) (fun _ => True) ?_ ?_
    ·
     refine rb 11 (s := []) (pk []) ?_
     refine qt 11 0 1 rfl (vf underlying27 rfl type25) ?_
     refine qt 11 2 5 rfl vmv ?_
     refine qt 11 5 37 rfl (vf underlying27 rfl type24) ?_
     refine qt 11 7 165 rfl vmv ?_
     refine qa [1, 6] ?_
     refine qc 11 167 rfl ?_ ?_
     ·
      refine wv (vl 0 1 underlying25) ?_
      refine qn (pk []) ?_
      refine qt 11 3 175 rfl (vix 1 k22 underlying25 type64) ?_
      refine qt 11 4 191 rfl (fun W hm => rv_load underlying64 rfl rfl ((hm.cell0 (show (a28.add (k22 * 1)).block < w.heap.size from by rw [add_block]; exact hb29.1)).trans (hc31 0 _ rfl))) ?_
      refine qo 11 6 255 rfl ?_
      refine wv (vl 0 0 underlying24) ?_
      refine qn (pk []) ?_
      refine qo 11 8 511 rfl ?_
      refine wcl (tSl tySpan 86) (spec_StabIndex_m x0.Queries ((k22 : Nat) : Int)) (cl_fn cb34 rfl) (fun W hm => spec_StabIndex_c W _ x0.Queries ((k22 : Nat) : Int) (hm.rdS0 r9) s_0.1) (fun z46 => ?_)
      refine WM_form (n := 0) rfl ?_
      rintro A47 c48 rfl m49
      refine qn (pk []) ?_
      refine qo 11 9 1023 rfl ?_
      refine wcv (cl_fn cb33 rfl) (fun W hm => spec_EqualSpans_c W _ (gt x0.Fields k22) _ (spec_StabIndex_m x0.Queries ((k22 : Nat) : Int)) (hm.rdS0 r40) (hm.rdSI (n := 0) rfl)) ?_
      refine qn (pk []) ?_
      refine qt 11 10 2047 rfl vnot ?_
      refine QB_done (by kernel_rfl) ?_
      exact QM_cut_normal (A47, c48) sl3 (fun W hm => hm) trivial
     refine qc 11 229 rfl ?_ ?_
     ·
      refine wv (vl 0 0 underlying24) ?_
      refine qn (pk []) ?_
      refine qa [1, 8] ?_
      refine qc 11 231 rfl ?_ ?_
      ·
       refine wv (vl 0 1 underlying25) ?_
       refine qn (pk []) ?_
       refine qt 11 3 239 rfl (vix 1 k22 underlying25 type64) ?_
       refine qt 11 4 255 rfl (fun W hm => rv_load underlying64 rfl rfl ((hm.cell0 (show (a28.add (k22 * 1)).block < w.heap.size from by rw [add_block]; exact hb29.1)).trans (hc31 0 _ rfl))) ?_
       refine qo 11 8 511 rfl ?_
       refine wcl (tSl tySpan 86) (spec_StabIndex_m x0.Queries ((k22 : Nat) : Int)) (cl_fn cb34 rfl) (fun W hm => spec_StabIndex_c W _ x0.Queries ((k22 : Nat) : Int) (hm.rdS0 r9) s_0.1) (fun z51 => ?_)
       refine WM_form (n := 0) rfl ?_
       rintro A52 c53 rfl m54
       refine qn (pk []) ?_
       refine qo 11 9 1023 rfl ?_
       refine wcv (cl_fn cb33 rfl) (fun W hm => spec_EqualSpans_c W _ (gt x0.Fields k22) _ (spec_StabIndex_m x0.Queries ((k22 : Nat) : Int)) (hm.rdS0 r40) (hm.rdSI (n := 0) rfl)) ?_
       refine qn (pk []) ?_
       refine qt 11 10 2047 rfl vnot ?_
       refine QB_done (by kernel_rfl) ?_
       exact QM_cut_normal (A52, c53) sl3 (fun W hm => hm) trivial
      refine qc 11 485 rfl ?_ ?_
      ·
       refine wcl (tSl tySpan 86) (spec_StabIndex_m x0.Queries ((k22 : Nat) : Int)) (cl_fn cb34 rfl) (fun W hm => spec_StabIndex_c W _ x0.Queries ((k22 : Nat) : Int) (hm.rdS0 r9) s_0.1) (fun z56 => ?_)
       refine WM_form (n := 0) rfl ?_
       rintro A57 c58 rfl m59
       refine qn (pk []) ?_
       refine qo 11 1 487 rfl ?_
       refine wv (vl 1 1 underlying25) ?_
       refine qn (pk []) ?_
       refine qt 11 3 495 rfl (vix 1 k22 underlying25 type64) ?_
       refine qt 11 4 511 rfl (fun W hm => rv_load underlying64 rfl rfl ((hm.cell0 (show (a28.add (k22 * 1)).block < w.heap.size from by rw [add_block]; exact hb29.1)).trans (hc31 0 _ rfl))) ?_
       refine qo 11 9 1023 rfl ?_
       refine wcv (cl_fn cb33 rfl) (fun W hm => spec_EqualSpans_c W _ (gt x0.Fields k22) _ (spec_StabIndex_m x0.Queries ((k22 : Nat) : Int)) (hm.rdS0 r40) (hm.rdSI (n := 0) rfl)) ?_
       refine qn (pk []) ?_
       refine qt 11 10 2047 rfl vnot ?_
       refine QB_done (by kernel_rfl) ?_
       exact QM_cut_normal (A57, c58) sl3 (fun W hm => hm) trivial
      exact QBs_nil
     exact QBs_nil
    ·
     rintro ⟨A42, c43⟩ -
     show QM 29 _ _ _ .normal [(1, .pointer (some (⟨p17, 0, none⟩ : Addr))), (3, .int .i64 ((k22 : Nat) : Int)), (28, .bool (!(spec_EqualSpans_m (gt x0.Fields k22) (spec_StabIndex_m x0.Queries ((k22 : Nat) : Int)))))] [iOwn (tSl tySpan 86) [.slice A42 (spec_StabIndex_m x0.Queries ((k22 : Nat) : Int)).length c43] (spec_StabIndex_m x0.Queries ((k22 : Nat) : Int)), iBox p17 27 K4]
     refine QM_len (n := 0) rfl ?_
     intro m61 m62
     refine QM_then ?_
     rcases Bool.eq_false_or_eq_true (spec_EqualSpans_m (gt x0.Fields k22) (spec_StabIndex_m x0.Queries ((k22 : Nat) : Int))) with g64 | g64
     ·
      refine CM_condF rfl (nt g64) ?_
      refine CM_skip (QM_block_normal (QM_then (CM_region (wm ?_))))
      refine wv (vadN k22 1 (by omega)) ?_
      refine wa (WM_nil ?_)
      have hn65 := rng_next (R := Bool) (body := F1) (k := k22) (s := ()) (s' := ()) (show k22 < 3 from by omega) (cond_t g64 (rfl)) hF24
      exact QM_round (k22 + 1, (), ()) sl2 (pk [1]) ⟨(by omega), hn65⟩ (rl (by omega))
     ·
      refine CM_condT rfl (nf g64) ?_
      refine sr (wa (nt' (CM_ret (QM_block_ret (QM_then_ret (QM_then_ret (QM_block_ret (QM_then_ret ?_))))))))
      exact rtb (h := cond_t g19 (cond_f g21 (fin_inl (rng_ret (body := F1) (k := k22) (s := ()) (show k22 < 3 from by omega) (cond_f g64 (rfl)) hF24) rfl)))
   ·have g27 : (decide (((k22 : Nat) : Int) < 3)) = false := decide_eq_false (by omega)
    refine CM_condF rfl g27 ?_
    refine CM_exit (QM_then_exit (QM_then_exit ?_))
    have hE66 : R2 (3 - 0) 0 () = Sum.inr () := rng_end hl26 hF24
    refine QM_block_hit (QM_then (sr (wa (nt' (CM_ret ?_)))))
    exact rtb (h := cond_t g19 (cond_f g21 (fin_inr hE66 (rfl))))
  ·have g21 : (((x0.Fields.length : Nat) : Int) != 3) = true := bne_iff_ne.2 h20
   refine CM_condT rfl g21 ?_
   refine sr (wa (nt' (CM_ret (QM_then_ret ?_))))
   exact rtb (h := cond_t g19 (cond_t g21 (rfl)))
 ·
  refine ws (nf g19) ?_
  refine ws (nf g19) ?_
  refine ws (nf g19) ?_
  refine ws (nf g19) ?_
  refine wv (vpT (nf g19)) ?_
  refine nt' ?_
  refine CM_condT rfl rfl ?_
  refine sr (wa (nt' (CM_ret (QM_then_ret ?_))))
  exact rtb (h := cond_f g19 (rfl))

def spec_IsRow_b1 (x0 : DRow) (k9 : Nat) : Bool ⊕ (Unit) :=
 cond (spec_l1In_m (gt x0.Values k9) 0 99) (Sum.inr ()) (Sum.inl false)
def spec_IsRow_m (x0 : DRow) : Bool :=
 Sum.elim id (fun (s : Unit) => cond (spec_l1In_m x0.Id 0 999) (((x0.Values.length : Nat) : Int) == 3) false) (rng (R := Bool) (fun k (_ : Unit) => spec_IsRow_b1 x0 k) (x0.Values.length - 0) 0 ())
theorem cb63 : Cb Try.prog 63 := ⟨f63, _, func63, rfl, by decide⟩
theorem spec_IsRow_c (w : World) (z0 : List Value) (x0 : DRow) (r_0 : tyRow.rd w w.heap.size z0 x0) :
  Calls Try.prog 63 #[.agg z0.toArray] w fun e w' => e = .returned (.bool (spec_IsRow_m x0)) ∧ Below w.heap.size w w' := by
 obtain ⟨v1, rfl, r2⟩ := tyRow_rd r_0
 obtain ⟨m3, A4, c5, rfl, q6, r7⟩ := rdS_op r2
 refine ce1 (L := [(0, .agg #[.int .i64 x0.Id, .slice A4 x0.Values.length c5])]) (N := 27) func63 ?_
 refine sr ?_
 refine WM_box rfl (Wd_none rfl) (by decide) (fun p8 => ?_)
 refine wa (nt' (CM_seq (sr (wa (nt' (CM_block ?_))))))
 let F1 := fun k (_ : Unit) => spec_IsRow_b1 x0 k
 let R2 := rng (R := Bool) F1
 let I3 : It := iBox p8 50 [.int .i64 x0.Id, .slice A4 x0.Values.length c5]
 refine CM_loop (σ := Nat × (Unit) × (Unit)) (fun s => [(1, .pointer (some (⟨p8, 0, none⟩ : Addr))), (3, .int .i64 ((s.1 : Nat) : Int))]) (fun s => [I3]) (fun s => s.1 ≤ x0.Values.length ∧ R2 (x0.Values.length - s.1) s.1 s.2.1 = R2 (x0.Values.length - 0) 0 ()) (fun s => x0.Values.length - s.1) (0, (), ()) sl2 (fun W hm => hm) ⟨(by omega), rfl⟩ ?_
 rintro ⟨k9, ⟨⟩, ⟨⟩⟩ H12
 obtain ⟨hk10, hF11⟩ : k9 ≤ x0.Values.length ∧ R2 (x0.Values.length - k9) k9 () = R2 (x0.Values.length - 0) 0 () := H12
 show CM Try.prog 27 _ _ _ _ [(1, .pointer (some (⟨p8, 0, none⟩ : Addr))), (3, .int .i64 ((k9 : Nat) : Int))] [I3]
 refine CM_seq (sr (wm ?_))
 refine wv (vf underlying50 rfl type37) ?_
 refine wv (vl 0 1 underlying37) ?_
 refine wv (vlen underlying37) ?_
 refine wv vlss ?_
 refine nt' ?_
 by_cases hl13 : k9 < x0.Values.length
 ·have g14 := dlT hl13
  refine CM_condT rfl g14 ?_
  refine CM_skip (QM_then (CM_seq (CM_block (sr ?_))))
  refine wv (vf underlying50 rfl type37) ?_
  refine wv (vl 0 1 underlying37) ?_
  refine wm ?_
  obtain ⟨a15, rfl, hb16, he17⟩ := q6 (by omega)
  refine wv (vix 1 k9 underlying37 type3) ?_
  refine wv (fun W hm => rv_load underlying3 rfl rfl ((hm.cell0 (show (a15.add (k9 * 1)).block < w.heap.size from by rw [add_block]; exact hb16.1)).trans (rdS_int he17 k9 (by omega)))) ?_
  refine wcv (cl_fn cb42 rfl) (fun W hm => spec_l1In_c W (gt x0.Values k9) 0 99) ?_
  refine wv vnot ?_
  refine nt' ?_
  rcases Bool.eq_false_or_eq_true (spec_l1In_m (gt x0.Values k9) 0 99) with g19 | g19
  ·
   have hw := spec_l1In_fact g19
   refine CM_condF rfl (nt g19) ?_
   refine CM_skip (QM_block_normal (QM_then (CM_region (wm ?_))))
   refine wv (vadN k9 1 (by omega)) ?_
   refine wa (WM_nil ?_)
   have hn20 := rng_next (R := Bool) (body := F1) (k := k9) (s := ()) (s' := ()) (show k9 < x0.Values.length from by omega) (cond_t g19 (rfl)) hF11
   exact QM_round (k9 + 1, (), ()) sl2 (fun W hm => hm) ⟨(by omega), hn20⟩ (rl (by omega))
  ·
   refine CM_condT rfl (nf g19) ?_
   refine sr (wa (nt' (CM_ret (QM_block_ret (QM_then_ret (QM_then_ret (QM_block_ret (QM_then_ret ?_))))))))
   exact rtb (h := fin_inl (rng_ret (body := F1) (k := k9) (s := ()) (show k9 < x0.Values.length from by omega) (cond_f g19 (rfl)) hF11) rfl)
 ·have g14 := dlF hl13
  refine CM_condF rfl g14 ?_
  refine CM_exit (QM_then_exit (QM_then_exit ?_))
  have hE21 : R2 (x0.Values.length - 0) 0 () = Sum.inr () := rng_end hl13 hF11
  refine QM_block_hit (QM_then (sr ?_))
  refine wv (vf underlying50 rfl type3) ?_
  refine wv (vl 0 0 underlying3) ?_
  refine wcv (cl_fn cb42 rfl) (fun W hm => spec_l1In_c W x0.Id 0 999) ?_
  refine wm ?_
  rcases Bool.eq_false_or_eq_true (spec_l1In_m x0.Id 0 999) with g23 | g23
  ·
   have hw := spec_l1In_fact g23
   refine wg (vf underlying50 rfl type37) g23 ?_
   refine wg (vl 0 1 underlying37) g23 ?_
   refine wg (vlen underlying37) g23 ?_
   refine wg (fun W hm => rv_eql rfl rfl) g23 ?_
   refine wv (vpT g23) ?_
   refine wa (nt' (CM_ret ?_))
   exact rtb (h := fin_inr hE21 (cond_t g23 (rfl)))
  ·
   refine ws g23 ?_
   refine ws g23 ?_
   refine ws g23 ?_
   refine ws g23 ?_
   refine wv (vpF g23) ?_
   refine wa (nt' (CM_ret ?_))
   exact rtb (h := fin_inr hE21 (cond_f g23 (rfl)))

def spec_HasMember_b1 (x0 : (List Int)) (x1 : Int) (k6 : Nat) : Bool ⊕ (Unit) :=
 cond ((gt x0 k6) == x1) (Sum.inl true) (Sum.inr ())
def spec_HasMember_m (x0 : (List Int)) (x1 : Int) : Bool :=
 Sum.elim id (fun (s : Unit) => false) (rng (R := Bool) (fun k (_ : Unit) => spec_HasMember_b1 x0 x1 k) (x0.length - 0) 0 ())
theorem cb44 : Cb Try.prog 44 := ⟨f44, _, func44, rfl, by decide⟩
theorem spec_HasMember_c (w : World) (z0 : Value) (x0 : (List Int)) (x1 : Int) (r_0 : rdS tInt w w.heap.size z0 x0) :
  Calls Try.prog 44 #[z0, .int .i64 x1] w fun e w' => e = .returned (.bool (spec_HasMember_m x0 x1)) ∧ Below w.heap.size w w' := by
 obtain ⟨m1, A2, c3, rfl, q4, r5⟩ := rdS_op r_0
 refine ce2 (L := [(0, .slice A2 x0.length c3), (1, .int .i64 x1)]) (N := 18) func44 ?_
 refine sr (wa (nt' (CM_seq (sr (wa (nt' (CM_block ?_)))))))
 let F1 := fun k (_ : Unit) => spec_HasMember_b1 x0 x1 k
 let R2 := rng (R := Bool) F1
 refine CM_loop (σ := Nat × (Unit) × (Unit)) (fun s => [(0, .slice A2 x0.length c3), (1, .int .i64 x1), (5, .int .i64 ((s.1 : Nat) : Int))]) (fun s => []) (fun s => s.1 ≤ x0.length ∧ R2 (x0.length - s.1) s.1 s.2.1 = R2 (x0.length - 0) 0 ()) (fun s => x0.length - s.1) (0, (), ()) sl3 (fun W hm => hm) ⟨(by omega), rfl⟩ ?_
 rintro ⟨k6, ⟨⟩, ⟨⟩⟩ H9
 obtain ⟨hk7, hF8⟩ : k6 ≤ x0.length ∧ R2 (x0.length - k6) k6 () = R2 (x0.length - 0) 0 () := H9
 show CM Try.prog 18 _ _ _ _ [(0, .slice A2 x0.length c3), (1, .int .i64 x1), (5, .int .i64 ((k6 : Nat) : Int))] []
 refine CM_seq (sr (wm (wm ?_)))
 refine wv (vlen underlying37) ?_
 refine wv vlss ?_
 refine nt' ?_
 by_cases hl10 : k6 < x0.length
 ·have g11 := dlT hl10
  refine CM_condT rfl g11 ?_
  refine CM_skip (QM_then (CM_seq (CM_block (sr (wm (wm ?_))))))
  obtain ⟨a12, rfl, hb13, he14⟩ := q4 (by omega)
  refine wv (vix 1 k6 underlying37 type3) ?_
  refine wv (fun W hm => rv_load underlying3 rfl rfl ((hm.cell0 (show (a12.add (k6 * 1)).block < w.heap.size from by rw [add_block]; exact hb13.1)).trans (rdS_int he14 k6 (by omega)))) ?_
  refine wm ?_
  refine wv (fun W hm => rv_eql rfl rfl) ?_
  refine nt' ?_
  by_cases h15 : (gt x0 k6) = x1
  ·have g16 := beq_iff_eq.2 h15
   refine CM_condT rfl g16 ?_
   refine sr (wa (nt' (CM_ret (QM_block_ret (QM_then_ret (QM_then_ret (QM_block_ret (QM_then_ret ?_))))))))
   exact rtb (h := fin_inl (rng_ret (body := F1) (k := k6) (s := ()) (show k6 < x0.length from by omega) (cond_t g16 (rfl)) hF8) rfl)
  ·have g16 := beq_eq_false_iff_ne.2 h15
   refine CM_condF rfl g16 ?_
   refine CM_skip (QM_block_normal (QM_then (CM_region (wm ?_))))
   refine wv (vadN k6 1 (by omega)) ?_
   refine wa (WM_nil ?_)
   have hn17 := rng_next (R := Bool) (body := F1) (k := k6) (s := ()) (s' := ()) (show k6 < x0.length from by omega) (cond_f g16 (rfl)) hF8
   exact QM_round (k6 + 1, (), ()) sl3 (fun W hm => hm) ⟨(by omega), hn17⟩ (rl (by omega))
 ·have g11 := dlF hl10
  refine CM_condF rfl g11 ?_
  refine CM_exit (QM_then_exit (QM_then_exit ?_))
  have hE18 : R2 (x0.length - 0) 0 () = Sum.inr () := rng_end hl10 hF8
  refine QM_block_hit (QM_then (sr (wa (nt' (CM_ret ?_)))))
  exact rtb (h := fin_inr hE18 (rfl))

def spec_l6Order_b1 (x0 : (List Int)) (k8 : Nat) : Bool ⊕ (Unit) :=
 cond (spec_l1In_m (gt x0 k8) 0 2) (cond (spec_HasMember_m (List.take k8 x0) (gt x0 k8)) (Sum.inl false) (Sum.inr ())) (Sum.inl false)
def spec_l6Order_m (x0 : (List Int)) : Bool :=
 cond (((x0.length : Nat) : Int) != 3) false (Sum.elim id (fun (s : Unit) => true) (rng (R := Bool) (fun k (_ : Unit) => spec_l6Order_b1 x0 k) (x0.length - 0) 0 ()))
theorem cb80 : Cb Try.prog 80 := ⟨f80, _, func80, rfl, by decide⟩
theorem spec_l6Order_c (w : World) (z0 : Value) (x0 : (List Int)) (r_0 : rdS tInt w w.heap.size z0 x0) :
  Calls Try.prog 80 #[z0] w fun e w' => e = .returned (.bool (spec_l6Order_m x0)) ∧ Below w.heap.size w w' := by
 obtain ⟨m1, A2, c3, rfl, q4, r5⟩ := rdS_op r_0
 refine ce1 (L := [(0, .slice A2 x0.length c3)]) (N := 29) func80 ?_
 refine sr (wa (nt' (CM_seq (sr (wm ?_)))))
 refine wv (vlen underlying37) ?_
 refine wv vneq ?_
 refine nt' ?_
 by_cases h6 : ((x0.length : Nat) : Int) = 3
 ·have g7 : (((x0.length : Nat) : Int) != 3) = false := by rw [h6]; exact bne_self_eq_false _
  refine CM_condF rfl g7 ?_
  refine CM_skip (QM_then (CM_seq (sr (wa (nt' (CM_block ?_))))))
  let F1 := fun k (_ : Unit) => spec_l6Order_b1 x0 k
  let R2 := rng (R := Bool) F1
  refine CM_loop (σ := Nat × (Unit) × (Unit)) (fun s => [(0, .slice A2 x0.length c3), (3, .int .i64 ((s.1 : Nat) : Int))]) (fun s => []) (fun s => s.1 ≤ x0.length ∧ R2 (x0.length - s.1) s.1 s.2.1 = R2 (x0.length - 0) 0 ()) (fun s => x0.length - s.1) (0, (), ()) sl2 (fun W hm => hm) ⟨(by omega), rfl⟩ ?_
  rintro ⟨k8, ⟨⟩, ⟨⟩⟩ H11
  obtain ⟨hk9, hF10⟩ : k8 ≤ x0.length ∧ R2 (x0.length - k8) k8 () = R2 (x0.length - 0) 0 () := H11
  show CM Try.prog 29 _ _ _ _ [(0, .slice A2 x0.length c3), (3, .int .i64 ((k8 : Nat) : Int))] []
  refine CM_seq (sr (wm (wm ?_)))
  refine wv (vlen underlying37) ?_
  refine wv vlss ?_
  refine nt' ?_
  by_cases hl12 : k8 < x0.length
  ·have g13 := dlT hl12
   refine CM_condT rfl g13 ?_
   refine CM_skip (QM_then (CM_seq (CM_block (CM_seq ?_))))
   refine CM_regionD (by kernel_rfl) (by kernel_rfl) ?_
   refine qm (qm ?_)
   obtain ⟨a14, rfl, hb15, he16⟩ := q4 (by omega)
   refine qv (vix 1 k8 underlying37 type3) ?_
   refine qv (fun W hm => rv_load underlying3 rfl rfl ((hm.cell0 (show (a14.add (k8 * 1)).block < w.heap.size from by rw [add_block]; exact hb15.1)).trans (rdS_int he16 k8 (by omega)))) ?_
   refine QR_callV (cl_fn cb42 rfl) (fun W hm => spec_l1In_c W (gt x0 k8) 0 2) (Wd_none rfl) (by decide) ?_
   refine qv vnot ?_
   refine qm ?_
   rcases Bool.eq_false_or_eq_true (spec_l1In_m (gt x0 k8) 0 2) with g18 | g18
   ·
    have hw := spec_l1In_fact g18
    refine qg vmv (nt g18) ?_
    refine qg vmv (nt g18) ?_
    have hc21 := rdS_cap r5
    have r19 := rdS_take (k := k8) (by omega) r5
    refine qg (fun W hm => rv_sliceHi (k := k8) underlying37 type3 rfl rfl (by omega)) (nt g18) ?_
    refine qg vmv (nt g18) ?_
    refine qg vmv (nt g18) ?_
    refine qg (vix 1 k8 underlying37 type3) (nt g18) ?_
    refine qg (fun W hm => rv_load underlying3 rfl rfl ((hm.cell0 (show (a14.add (k8 * 1)).block < w.heap.size from by rw [add_block]; exact hb15.1)).trans (rdS_int he16 k8 (by omega)))) (nt g18) ?_
    refine QR_callV (cl_fn cb44 rfl) (fun W hm => spec_HasMember_c W _ (List.take k8 x0) (gt x0 k8) (hm.rdS0 r19)) (Wd_some rfl rfl rfl (bw (nt g18) rfl)) (by decide) ?_
    refine qv (vpF (nt g18)) ?_
    refine nq' ?_
    rcases Bool.eq_false_or_eq_true (spec_HasMember_m (List.take k8 x0) (gt x0 k8)) with g23 | g23
    ·
     refine CM_condT rfl g23 ?_
     refine sr (wa (nt' (CM_ret (QM_block_ret (QM_then_ret (QM_then_ret (QM_block_ret (QM_then_ret ?_))))))))
     exact rtb (h := cond_f g7 (fin_inl (rng_ret (body := F1) (k := k8) (s := ()) (show k8 < x0.length from by omega) (cond_t g18 (cond_t g23 (rfl))) hF10) rfl))
    ·
     refine CM_condF rfl g23 ?_
     refine CM_skip (QM_block_normal (QM_then (CM_region (wm ?_))))
     refine wv (vadN k8 1 (by omega)) ?_
     refine wa (WM_nil ?_)
     have hn24 := rng_next (R := Bool) (body := F1) (k := k8) (s := ()) (s' := ()) (show k8 < x0.length from by omega) (cond_t g18 (cond_f g23 (rfl))) hF10
     exact QM_round (k8 + 1, (), ()) sl2 (fun W hm => hm) ⟨(by omega), hn24⟩ (rl (by omega))
   ·
    refine qs (nf g18) ?_
    refine qs (nf g18) ?_
    refine qs (nf g18) ?_
    refine qs (nf g18) ?_
    refine qs (nf g18) ?_
    refine qs (nf g18) ?_
    refine qs (nf g18) ?_
    refine qs (nf g18) ?_
    refine qv (vpT (nf g18)) ?_
    refine nq' ?_
    refine CM_condT rfl rfl ?_
    refine sr (wa (nt' (CM_ret (QM_block_ret (QM_then_ret (QM_then_ret (QM_block_ret (QM_then_ret ?_))))))))
    exact rtb (h := cond_f g7 (fin_inl (rng_ret (body := F1) (k := k8) (s := ()) (show k8 < x0.length from by omega) (cond_f g18 (rfl)) hF10) rfl))
  ·have g13 := dlF hl12
   refine CM_condF rfl g13 ?_
   refine CM_exit (QM_then_exit (QM_then_exit ?_))
   have hE25 : R2 (x0.length - 0) 0 () = Sum.inr () := rng_end hl12 hF10
   refine QM_block_hit (QM_then (sr (wa (nt' (CM_ret ?_)))))
   exact rtb (h := cond_f g7 (fin_inr hE25 (rfl)))
 ·have g7 : (((x0.length : Nat) : Int) != 3) = true := bne_iff_ne.2 h6
  refine CM_condT rfl g7 ?_
  refine sr (wa (nt' (CM_ret (QM_then_ret ?_))))
  exact rtb (h := cond_t g7 (rfl))

def spec_l6All_b1 (x0 : (List DQuery)) (k9 : Nat) (d10 : (List Int)) : (List Int) ⊕ ((List Int)) :=
 Sum.inr (d10 ++ [(gt x0 k9).Id])
def spec_l6All_m (x0 : (List DQuery)) : (List Int) :=
 Sum.elim id (fun (s : (List Int)) => s) (rng (R := (List Int)) (fun k (s : (List Int)) => spec_l6All_b1 x0 k s) (x0.length - 0) 0 [])
theorem cb90 : Cb Try.prog 90 := ⟨f90, _, func90, rfl, by decide⟩
theorem spec_l6All_c (w : World) (z0 : Value) (x0 : (List DQuery)) (r_0 : rdS tyQuery w w.heap.size z0 x0) (s_0 : (x0.length ≤ 68719476736 ∧ ∀ y ∈ x0, smQuery 68719476736 y)) :
  Calls Try.prog 90 #[z0] w fun e w' => ∃ v : Value, e = .returned (v) ∧ Mem w.heap.size w [iOwn (tSl tInt 3) [v] (spec_l6All_m x0)] w' := by
 obtain ⟨m1, A2, c3, rfl, q4, r5⟩ := rdS_op r_0
 have l6 : x0.length ≤ 68719476736 := s_0.1
 refine ce1 (L := [(0, .slice A2 x0.length c3)]) (N := 21) func90 ?_
 refine sr (wa (nt' (sr ?_)))
 refine WM_build0 (E := tInt) underlying37 type3 (Wd_none rfl) (by decide) (fun p7 => ?_)
 refine wa (nt' (CM_seq (sr (wa (nt' (CM_block ?_))))))
 let F1 := fun k (s : (List Int)) => spec_l6All_b1 x0 k s
 let R2 := rng (R := (List Int)) F1
 refine CM_loop (σ := Nat × ((List Int)) × (Option Addr × Nat)) (fun s => [(0, .slice A2 x0.length c3), (3, .slice s.2.2.1 s.2.1.length s.2.2.2), (4, .int .i64 ((s.1 : Nat) : Int))]) (fun s => [iOwn (tSl tInt 3) [.slice s.2.2.1 s.2.1.length s.2.2.2] s.2.1]) (fun s => s.1 ≤ x0.length ∧ R2 (x0.length - s.1) s.1 s.2.1 = R2 (x0.length - 0) 0 [] ∧ s.2.1.length ≤ 0 + s.1) (fun s => x0.length - s.1) (0, [], ((some ⟨p7, 0, none⟩), 0)) sl3 (fun W hm => hm) ⟨(by omega), rfl, Nat.le_refl _⟩ ?_
 rintro ⟨k9, d10, ⟨A11, c12⟩⟩ H15
 obtain ⟨hk13, hF14, hi16⟩ : k9 ≤ x0.length ∧ R2 (x0.length - k9) k9 d10 = R2 (x0.length - 0) 0 [] ∧ d10.length ≤ 0 + k9 := H15
 show CM Try.prog 21 _ _ _ _ [(0, .slice A2 x0.length c3), (3, .slice A11 d10.length c12), (4, .int .i64 ((k9 : Nat) : Int))] [iOwn (tSl tInt 3) [.slice A11 d10.length c12] d10]
 refine CM_seq (sr (wm (wm ?_)))
 refine wv (vlen underlying24) ?_
 refine wv vlss ?_
 refine nt' ?_
 by_cases hl17 : k9 < x0.length
 ·have g18 := dlT hl17
  refine CM_condT rfl g18 ?_
  refine CM_skip (QM_then (CM_seq (CM_block (CM_region (wm (wm (wm ?_)))))))
  obtain ⟨a19, rfl, hb20, he21⟩ := q4 (by omega)
  refine wv (vix 4 k9 underlying24 type39) ?_
  refine wv (vf underlying39 rfl type3) ?_
  obtain ⟨_, e27, hc22⟩ := he21 k9 _ (gt_some (show k9 < x0.length from by omega))
  obtain ⟨v23, v25, rfl, r24, r26⟩ := tyQuery_rd e27
  have l28 : ((gt x0 k9).Conds).length ≤ 68719476736 := (s_0.2 _ (gt_mem (show k9 < x0.length from by omega))).1
  have l29 : ((gt x0 k9).Out).length ≤ 68719476736 := (s_0.2 _ (gt_mem (show k9 < x0.length from by omega))).2
  obtain ⟨m30, A31, c32, rfl, q33, r34⟩ := rdS_op r24
  obtain ⟨m35, A36, c37, rfl, q38, r39⟩ := rdS_op r26
  refine wv (fun W hm => rv_load underlying3 rfl rfl ((hm.cell0 (show ((a19.add (k9 * 4)).add 0).block < w.heap.size from by rw [add_block, add_block]; exact hb20.1)).trans (hc22 0 _ rfl))) ?_
  refine WM_build (cs := [.int .i64 ((gt x0 k9).Id)]) underlying37 type3 rfl (by decide) (by decide) rfl (by kernel_rfl) (Wd_none rfl) (by decide) (fun p40 => ?_)
  refine ap1 tInt 3 (.slice A11 d10.length c12) d10 ((gt x0 k9).Id) [] [] [.int .i64 ((gt x0 k9).Id)] (fun W hm => hm) (fun _ _ hs => by cases (Sep.nil hs); exact (els_cons tInt_own els_nil)) underlying37 type3 (show (d10.length + 1) * 8 ≤ 140737488355328 from by omega) (fun v41 => ?_)
  refine WM_form (n := 0) rfl ?_
  rintro A42 c43 rfl m44
  refine wa (WM_nil (QM_block_normal (QM_then (CM_region (wm ?_)))))
  refine wv (vadN k9 1 (by omega)) ?_
  refine wa (WM_nil ?_)
  have hn46 := rng_next (R := (List Int)) (body := F1) (k := k9) (s := d10) (s' := (d10 ++ [(gt x0 k9).Id])) (show k9 < x0.length from by omega) (rfl) hF14
  exact QM_round (k9 + 1, (d10 ++ [(gt x0 k9).Id]), (A42, c43)) sl3 (fun W hm => hm) ⟨(by omega), hn46, (show (d10 ++ [(gt x0 k9).Id]).length ≤ 0 + (k9 + 1) from by first | omega | (simp only [List.length_append, List.length_cons, List.length_nil] at *; omega))⟩ (rl (by omega))
 ·have g18 := dlF hl17
  refine CM_condF rfl g18 ?_
  refine CM_exit (QM_then_exit (QM_then_exit ?_))
  have hE47 : R2 (x0.length - 0) 0 [] = Sum.inr d10 := rng_end hl17 hF14
  refine QM_block_hit (QM_then (sr (wm (wa (nt' (CM_ret ?_))))))
  have he48 := (show spec_l6All_m x0 = d10 from fin_inr hE47 (rfl))
  refine QM_r1 rfl (RR_tmp rfl) (fun W hm => ⟨.slice A11 d10.length c12, ?_, ?_⟩)
  ·first | rw [he48] | rfl
  ·rw [he48]; exact hm

def spec_FindSpan_b1 (x0 : (List DSpan)) (x1 : Int) (k7 : Nat) : (List Int) ⊕ (Unit) :=
 cond (spec_l1In_m x1 ((gt x0 k7).From) ((gt x0 k7).To)) (Sum.inl ((gt x0 k7).Set)) (Sum.inr ())
def spec_FindSpan_m (x0 : (List DSpan)) (x1 : Int) : (List Int) :=
 Sum.elim id (fun (s : Unit) => []) (rng (R := (List Int)) (fun k (_ : Unit) => spec_FindSpan_b1 x0 x1 k) (x0.length - 0) 0 ())
theorem cb91 : Cb Try.prog 91 := ⟨f91, _, func91, rfl, by decide⟩
theorem spec_FindSpan_c (w : World) (z0 : Value) (x0 : (List DSpan)) (x1 : Int) (r_0 : rdS tySpan w w.heap.size z0 x0) (s_0 : (x0.length ≤ 68719476736 ∧ ∀ y ∈ x0, smSpan 68719476736 y)) :
  Calls Try.prog 91 #[z0, .int .i64 x1] w fun e w' => ∃ v : Value, e = .returned (v) ∧ Mem w.heap.size w [iOwn (tSl tInt 3) [v] (spec_FindSpan_m x0 x1)] w' := by
 obtain ⟨m1, A2, c3, rfl, q4, r5⟩ := rdS_op r_0
 have l6 : x0.length ≤ 68719476736 := s_0.1
 refine ce2 (L := [(0, .slice A2 x0.length c3), (1, .int .i64 x1)]) (N := 32) func91 ?_
 refine sr (wa (nt' (CM_seq (sr (wa (nt' (CM_block ?_)))))))
 let F1 := fun k (_ : Unit) => spec_FindSpan_b1 x0 x1 k
 let R2 := rng (R := (List Int)) F1
 refine CM_loop (σ := Nat × (Unit) × (Unit)) (fun s => [(0, .slice A2 x0.length c3), (1, .int .i64 x1), (5, .int .i64 ((s.1 : Nat) : Int))]) (fun s => []) (fun s => s.1 ≤ x0.length ∧ R2 (x0.length - s.1) s.1 s.2.1 = R2 (x0.length - 0) 0 ()) (fun s => x0.length - s.1) (0, (), ()) sl3 (fun W hm => hm) ⟨(by omega), rfl⟩ ?_
 rintro ⟨k7, ⟨⟩, ⟨⟩⟩ H10
 obtain ⟨hk8, hF9⟩ : k7 ≤ x0.length ∧ R2 (x0.length - k7) k7 () = R2 (x0.length - 0) 0 () := H10
 show CM Try.prog 32 _ _ _ _ [(0, .slice A2 x0.length c3), (1, .int .i64 x1), (5, .int .i64 ((k7 : Nat) : Int))] []
 refine CM_seq (sr (wm (wm ?_)))
 refine wv (vlen underlying64) ?_
 refine wv vlss ?_
 refine nt' ?_
 by_cases hl11 : k7 < x0.length
 ·have g12 := dlT hl11
  refine CM_condT rfl g12 ?_
  refine CM_skip (QM_then (CM_seq (CM_block (CM_seq ?_))))
  refine CM_regionD (by kernel_rfl) (by kernel_rfl) ?_
  refine qm (qm (qm ?_))
  obtain ⟨a13, rfl, hb14, he15⟩ := q4 (by omega)
  refine qv (vix 3 k7 underlying64 type86) ?_
  refine qv (vf underlying86 rfl type3) ?_
  obtain ⟨_, e19, hc16⟩ := he15 k7 _ (gt_some (show k7 < x0.length from by omega))
  obtain ⟨v17, rfl, r18⟩ := tySpan_rd e19
  have l20 : ((gt x0 k7).Set).length ≤ 68719476736 := (s_0.2 _ (gt_mem (show k7 < x0.length from by omega)))
  obtain ⟨m21, A22, c23, rfl, q24, r25⟩ := rdS_op r18
  refine qv (fun W hm => rv_load underlying3 rfl rfl ((hm.cell0 (show ((a13.add (k7 * 3)).add 0).block < w.heap.size from by rw [add_block, add_block]; exact hb14.1)).trans (hc16 0 _ rfl))) ?_
  refine qm (qm ?_)
  refine qv (vix 3 k7 underlying64 type86) ?_
  refine qv (vf underlying86 rfl type3) ?_
  refine qv (fun W hm => rv_load underlying3 rfl rfl ((hm.cell0 (show ((a13.add (k7 * 3)).add 1).block < w.heap.size from by rw [add_block, add_block]; exact hb14.1)).trans (hc16 1 _ rfl))) ?_
  refine QR_callV (cl_fn cb42 rfl) (fun W hm => spec_l1In_c W x1 ((gt x0 k7).From) ((gt x0 k7).To)) (Wd_none rfl) (by decide) ?_
  refine nq' ?_
  rcases Bool.eq_false_or_eq_true (spec_l1In_m x1 ((gt x0 k7).From) ((gt x0 k7).To)) with g27 | g27
  ·
   have hw := spec_l1In_fact g27
   refine CM_condT rfl g27 ?_
   refine sr ?_
   refine WM_build0 (E := tInt) underlying37 type3 (Wd_none rfl) (by decide) (fun p28 => ?_)
   refine wm (wm ?_)
   refine wv (vix 3 k7 underlying64 type86) ?_
   refine wv (vf underlying86 rfl type37) ?_
   refine wv (fun W hm => rv_load underlying37 rfl rfl ((hm.cell0 (show ((a13.add (k7 * 3)).add 2).block < w.heap.size from by rw [add_block, add_block]; exact hb14.1)).trans (hc16 2 _ rfl))) ?_
   refine apR tInt tInt 3 (.slice (some ⟨p28, 0, none⟩) 0 0) [] ((gt x0 k7).Set) [] (fun W hm => hm) (fun W hm => src_flat flat_int (hm.rdS0 r25)) underlying37 type3 (show (0 + ((gt x0 k7).Set).length) * 8 ≤ 140737488355328 from by omega) (fun v30 => ?_)
   refine WM_form (n := 0) rfl ?_
   rintro A31 c32 rfl m33
   refine wa (nt' (CM_ret (QM_block_ret (QM_then_ret (QM_then_ret (QM_block_ret (QM_then_ret ?_)))))))
   have he35 := (show spec_FindSpan_m x0 x1 = (gt x0 k7).Set from fin_inl (rng_ret (body := F1) (k := k7) (s := ()) (show k7 < x0.length from by omega) (cond_t g27 (rfl)) hF9) rfl)
   refine QM_r1 rfl (RR_tmp rfl) (fun W hm => ⟨.slice A31 ((gt x0 k7).Set).length c32, ?_, ?_⟩)
   ·first | rw [he35] | rfl
   ·rw [he35]; exact hm
  ·
   refine CM_condF rfl g27 ?_
   refine CM_skip (QM_block_normal (QM_then (CM_region (wm ?_))))
   refine wv (vadN k7 1 (by omega)) ?_
   refine wa (WM_nil ?_)
   have hn36 := rng_next (R := (List Int)) (body := F1) (k := k7) (s := ()) (s' := ()) (show k7 < x0.length from by omega) (cond_f g27 (rfl)) hF9
   exact QM_round (k7 + 1, (), ()) sl3 (fun W hm => hm) ⟨(by omega), hn36⟩ (rl (by omega))
 ·have g12 := dlF hl11
  refine CM_condF rfl g12 ?_
  refine CM_exit (QM_then_exit (QM_then_exit ?_))
  have hE37 : R2 (x0.length - 0) 0 () = Sum.inr () := rng_end hl11 hF9
  refine QM_block_hit (QM_then (sr ?_))
  refine WM_build0 (E := tInt) underlying37 type3 (Wd_none rfl) (by decide) (fun p38 => ?_)
  refine wa (nt' (CM_ret ?_))
  have he40 := (show spec_FindSpan_m x0 x1 = [] from fin_inr hE37 (rfl))
  refine QM_r1 rfl (RR_tmp rfl) (fun W hm => ⟨.slice (some ⟨p38, 0, none⟩) 0 0, ?_, ?_⟩)
  ·first | rw [he40] | rfl
  ·rw [he40]; exact hm

def spec_IsSet_b1 (x0 : (List Int)) (k6 : Nat) : Bool ⊕ (Unit) :=
 cond (spec_l1In_m (gt x0 k6) 0 23) (cond (decide (0 < ((k6 : Nat) : Int))) (cond (decide ((gt x0 k6) ≤ (gt x0 (k6 - 1)))) (Sum.inl false) (Sum.inr ())) (Sum.inr ())) (Sum.inl false)
def spec_IsSet_m (x0 : (List Int)) : Bool :=
 Sum.elim id (fun (s : Unit) => true) (rng (R := Bool) (fun k (_ : Unit) => spec_IsSet_b1 x0 k) (x0.length - 0) 0 ())
theorem cb17 : Cb Try.prog 17 := ⟨f17, _, func17, rfl, by decide⟩
theorem spec_IsSet_c (w : World) (z0 : Value) (x0 : (List Int)) (r_0 : rdS tInt w w.heap.size z0 x0) :
  Calls Try.prog 17 #[z0] w fun e w' => e = .returned (.bool (spec_IsSet_m x0)) ∧ Below w.heap.size w w' := by
 obtain ⟨m1, A2, c3, rfl, q4, r5⟩ := rdS_op r_0
 refine ce1 (L := [(0, .slice A2 x0.length c3)]) (N := 32) func17 ?_
 refine sr (wa (nt' (CM_seq (sr (wa (nt' (CM_block ?_)))))))
 let F1 := fun k (_ : Unit) => spec_IsSet_b1 x0 k
 let R2 := rng (R := Bool) F1
 refine CM_loop (σ := Nat × (Unit) × (Unit)) (fun s => [(0, .slice A2 x0.length c3), (3, .int .i64 ((s.1 : Nat) : Int))]) (fun s => []) (fun s => s.1 ≤ x0.length ∧ R2 (x0.length - s.1) s.1 s.2.1 = R2 (x0.length - 0) 0 ()) (fun s => x0.length - s.1) (0, (), ()) sl2 (fun W hm => hm) ⟨(by omega), rfl⟩ ?_
 rintro ⟨k6, ⟨⟩, ⟨⟩⟩ H9
 obtain ⟨hk7, hF8⟩ : k6 ≤ x0.length ∧ R2 (x0.length - k6) k6 () = R2 (x0.length - 0) 0 () := H9
 show CM Try.prog 32 _ _ _ _ [(0, .slice A2 x0.length c3), (3, .int .i64 ((k6 : Nat) : Int))] []
 refine CM_seq (sr (wm (wm ?_)))
 refine wv (vlen underlying37) ?_
 refine wv vlss ?_
 refine nt' ?_
 by_cases hl10 : k6 < x0.length
 ·have g11 := dlT hl10
  refine CM_condT rfl g11 ?_
  refine CM_skip (QM_then (CM_seq (CM_block (CM_seq ?_))))
  refine CM_regionD (by kernel_rfl) (by kernel_rfl) ?_
  refine qm (qm ?_)
  obtain ⟨a12, rfl, hb13, he14⟩ := q4 (by omega)
  refine qv (vix 1 k6 underlying37 type3) ?_
  refine qv (fun W hm => rv_load underlying3 rfl rfl ((hm.cell0 (show (a12.add (k6 * 1)).block < w.heap.size from by rw [add_block]; exact hb13.1)).trans (rdS_int he14 k6 (by omega)))) ?_
  refine QR_callV (cl_fn cb42 rfl) (fun W hm => spec_l1In_c W (gt x0 k6) 0 23) (Wd_none rfl) (by decide) ?_
  refine qv vnot ?_
  refine qm ?_
  rcases Bool.eq_false_or_eq_true (spec_l1In_m (gt x0 k6) 0 23) with g16 | g16
  ·
   have hw := spec_l1In_fact g16
   refine qg vmv (nt g16) ?_
   refine qg (fun W hm => rv_gtr rfl rfl) (nt g16) ?_
   refine qg vmv (nt g16) ?_
   by_cases h17 : 0 < ((k6 : Nat) : Int)
   ·have g18 := decide_eq_true h17
    refine qg vmv g18 ?_
    refine qg vmv g18 ?_
    refine qg (vix 1 k6 underlying37 type3) g18 ?_
    refine qg (fun W hm => rv_load underlying3 rfl rfl ((hm.cell0 (show (a12.add (k6 * 1)).block < w.heap.size from by rw [add_block]; exact hb13.1)).trans (rdS_int he14 k6 (by omega)))) g18 ?_
    refine qg vmv g18 ?_
    refine qg vmv g18 ?_
    refine qg (fun W hm => rv_subN (p := k6) (q := 1) rfl rfl (by omega) (by omega)) g18 ?_
    refine qg (fun W hm => rv_index (sz := 1) (k := k6 - 1) underlying37 type3 rfl rfl rfl (by omega)) g18 ?_
    refine qg (fun W hm => rv_load underlying3 rfl rfl ((hm.cell0 (show (a12.add ((k6 - 1) * 1)).block < w.heap.size from by rw [add_block]; exact hb13.1)).trans (rdS_int he14 (k6 - 1) (by omega)))) g18 ?_
    refine qg (fun W hm => rv_leq rfl rfl) g18 ?_
    refine qg (vpT g18) (nt g16) ?_
    refine qv (vpF (nt g16)) ?_
    refine nq' ?_
    by_cases h19 : (gt x0 k6) ≤ (gt x0 (k6 - 1))
    ·have g20 := decide_eq_true h19
     refine CM_condT rfl g20 ?_
     refine sr (wa (nt' (CM_ret (QM_block_ret (QM_then_ret (QM_then_ret (QM_block_ret (QM_then_ret ?_))))))))
     exact rtb (h := fin_inl (rng_ret (body := F1) (k := k6) (s := ()) (show k6 < x0.length from by omega) (cond_t g16 (cond_t g18 (cond_t g20 (rfl)))) hF8) rfl)
    ·have g20 := decide_eq_false h19
     refine CM_condF rfl g20 ?_
     refine CM_skip (QM_block_normal (QM_then (CM_region (wm ?_))))
     refine wv (vadN k6 1 (by omega)) ?_
     refine wa (WM_nil ?_)
     have hn21 := rng_next (R := Bool) (body := F1) (k := k6) (s := ()) (s' := ()) (show k6 < x0.length from by omega) (cond_t g16 (cond_t g18 (cond_f g20 (rfl)))) hF8
     exact QM_round (k6 + 1, (), ()) sl2 (fun W hm => hm) ⟨(by omega), hn21⟩ (rl (by omega))
   ·have g18 := decide_eq_false h17
    refine qs g18 ?_
    refine qs g18 ?_
    refine qs g18 ?_
    refine qs g18 ?_
    refine qs g18 ?_
    refine qs g18 ?_
    refine qs g18 ?_
    refine qs g18 ?_
    refine qs g18 ?_
    refine qs g18 ?_
    refine qg (vpF g18) (nt g16) ?_
    refine qv (vpF (nt g16)) ?_
    refine nq' ?_
    refine CM_condF rfl rfl ?_
    refine CM_skip (QM_block_normal (QM_then (CM_region (wm ?_))))
    refine wv (vadN k6 1 (by omega)) ?_
    refine wa (WM_nil ?_)
    have hn22 := rng_next (R := Bool) (body := F1) (k := k6) (s := ()) (s' := ()) (show k6 < x0.length from by omega) (cond_t g16 (cond_f g18 (rfl))) hF8
    exact QM_round (k6 + 1, (), ()) sl2 (fun W hm => hm) ⟨(by omega), hn22⟩ (rl (by omega))
  ·
   refine qs (nf g16) ?_
   refine qs (nf g16) ?_
   refine qs (nf g16) ?_
   refine qu ?_
   refine qu ?_
   refine qu ?_
   refine qu ?_
   refine qu ?_
   refine qu ?_
   refine qu ?_
   refine qu ?_
   refine qu ?_
   refine qu ?_
   refine qs (nf g16) ?_
   refine qv (vpT (nf g16)) ?_
   refine nq' ?_
   refine CM_condT rfl rfl ?_
   refine sr (wa (nt' (CM_ret (QM_block_ret (QM_then_ret (QM_then_ret (QM_block_ret (QM_then_ret ?_))))))))
   exact rtb (h := fin_inl (rng_ret (body := F1) (k := k6) (s := ()) (show k6 < x0.length from by omega) (cond_f g16 (rfl)) hF8) rfl)
 ·have g11 := dlF hl10
  refine CM_condF rfl g11 ?_
  refine CM_exit (QM_then_exit (QM_then_exit ?_))
  have hE23 : R2 (x0.length - 0) 0 () = Sum.inr () := rng_end hl10 hF8
  refine QM_block_hit (QM_then (sr (wa (nt' (CM_ret ?_)))))
  exact rtb (h := fin_inr hE23 (rfl))

def spec_MeetSets_b1 (x0 : (List Int)) (x1 : (List Int)) (k15 : Nat) (d16 : (List Int)) : (List Int) ⊕ (((List Int)) ⊕ ((List Int))) :=
 cond (spec_IsSet_m x0) (cond (spec_IsSet_m x1) (cond (spec_HasMember_m x1 (gt x0 k15)) (Sum.inr (Sum.inr (d16 ++ [(gt x0 k15)]))) (Sum.inr (Sum.inr d16))) (Sum.inr (Sum.inl d16))) (Sum.inr (Sum.inl d16))
def spec_MeetSets_m (x0 : (List Int)) (x1 : (List Int)) : (List Int) :=
 Sum.elim id (fun (s : (List Int)) => s) (rngb (R := (List Int)) (fun k (s : (List Int)) => spec_MeetSets_b1 x0 x1 k s) (x0.length - 0) 0 [])
theorem cb43 : Cb Try.prog 43 := ⟨f43, _, func43, rfl, by decide⟩
theorem spec_MeetSets_c (w : World) (z0 : Value) (x0 : (List Int)) (z1 : Value) (x1 : (List Int)) (r_0 : rdS tInt w w.heap.size z0 x0) (r_1 : rdS tInt w w.heap.size z1 x1) (s_0 : x0.length ≤ 68719476736) (s_1 : x1.length ≤ 68719476736) :
  Calls Try.prog 43 #[z0, z1] w fun e w' => ∃ v : Value, e = .returned (v) ∧ Mem w.heap.size w [iOwn (tSl tInt 3) [v] (spec_MeetSets_m x0 x1)] w' := by
 obtain ⟨m1, A2, c3, rfl, q4, r5⟩ := rdS_op r_0
 obtain ⟨m6, A7, c8, rfl, q9, r10⟩ := rdS_op r_1
 have l11 : x0.length ≤ 68719476736 := s_0
 have l12 : x1.length ≤ 68719476736 := s_1
 refine ce2 (L := [(0, .slice A2 x0.length c3), (1, .slice A7 x1.length c8)]) (N := 36) func43 ?_
 refine sr (wa (nt' (sr ?_)))
 refine WM_build0 (E := tInt) underlying37 type3 (Wd_none rfl) (by decide) (fun p13 => ?_)
 refine wa (nt' (CM_seq (sr (wa (nt' ?_)))))
 let F1 := fun k (s : (List Int)) => spec_MeetSets_b1 x0 x1 k s
 let R2 := rngb (R := (List Int)) F1
 refine CM_cut (σ := ((List Int)) × (Option Addr × Nat)) (fun s => [(5, .slice s.2.1 s.1.length s.2.2)]) (fun s => [iOwn (tSl tInt 3) [.slice s.2.1 s.1.length s.2.2] s.1]) (fun s => R2 (x0.length - 0) 0 [] = Sum.inr s.1) ?_ ?_
 ·
  refine CM_block ?_
  refine CM_loop (σ := Nat × ((List Int)) × (Option Addr × Nat)) (fun s => [(0, .slice A2 x0.length c3), (1, .slice A7 x1.length c8), (5, .slice s.2.2.1 s.2.1.length s.2.2.2), (6, .int .i64 ((s.1 : Nat) : Int))]) (fun s => [iOwn (tSl tInt 3) [.slice s.2.2.1 s.2.1.length s.2.2.2] s.2.1]) (fun s => s.1 ≤ x0.length ∧ R2 (x0.length - s.1) s.1 s.2.1 = R2 (x0.length - 0) 0 [] ∧ s.2.1.length ≤ 0 + s.1) (fun s => x0.length - s.1) (0, [], ((some ⟨p13, 0, none⟩), 0)) sl4 (fun W hm => hm) ⟨(by omega), rfl, Nat.le_refl _⟩ ?_
  rintro ⟨k15, d16, ⟨A17, c18⟩⟩ H21
  obtain ⟨hk19, hF20, hi22⟩ : k15 ≤ x0.length ∧ R2 (x0.length - k15) k15 d16 = R2 (x0.length - 0) 0 [] ∧ d16.length ≤ 0 + k15 := H21
  show CM Try.prog 36 _ _ _ _ [(0, .slice A2 x0.length c3), (1, .slice A7 x1.length c8), (5, .slice A17 d16.length c18), (6, .int .i64 ((k15 : Nat) : Int))] [iOwn (tSl tInt 3) [.slice A17 d16.length c18] d16]
  refine CM_seq (sr (wm (wm ?_)))
  refine wv (vlen underlying37) ?_
  refine wv vlss ?_
  refine wm ?_
  by_cases hl23 : k15 < x0.length
  ·have g24 := dlT hl23
   refine wg vmv g24 ?_
   refine WM_callV (cl_fn cb17 rfl) (fun W hm => spec_IsSet_c W _ x0 (hm.rdS0 r5)) (Wd_some rfl rfl rfl (bw g24 rfl)) (by decide) ?_
   refine wv (vpT g24) ?_
   refine wm ?_
   rcases Bool.eq_false_or_eq_true (spec_IsSet_m x0) with g26 | g26
   ·
    refine wg vmv g26 ?_
    refine WM_callV (cl_fn cb17 rfl) (fun W hm => spec_IsSet_c W _ x1 (hm.rdS0 r10)) (Wd_some rfl rfl rfl (bw g26 rfl)) (by decide) ?_
    refine wv (vpT g26) ?_
    refine nt' ?_
    rcases Bool.eq_false_or_eq_true (spec_IsSet_m x1) with g28 | g28
    ·
     refine CM_condT rfl g28 ?_
     refine CM_skip (QM_then (CM_seq (CM_block (sr (wm (wm (wm ?_)))))))
     obtain ⟨a29, rfl, hb30, he31⟩ := q4 (by omega)
     refine wv (vix 1 k15 underlying37 type3) ?_
     refine wv (fun W hm => rv_load underlying3 rfl rfl ((hm.cell0 (show (a29.add (k15 * 1)).block < w.heap.size from by rw [add_block]; exact hb30.1)).trans (rdS_int he31 k15 (by omega)))) ?_
     refine wcv (cl_fn cb44 rfl) (fun W hm => spec_HasMember_c W _ x1 (gt x0 k15) (hm.rdS0 r10)) ?_
     refine nt' ?_
     rcases Bool.eq_false_or_eq_true (spec_HasMember_m x1 (gt x0 k15)) with g33 | g33
     ·
      refine CM_condT rfl g33 ?_
      refine CM_region (wm (wm (wm ?_)))
      refine wv (vix 1 k15 underlying37 type3) ?_
      refine wv (fun W hm => rv_load underlying3 rfl rfl ((hm.cell0 (show (a29.add (k15 * 1)).block < w.heap.size from by rw [add_block]; exact hb30.1)).trans (rdS_int he31 k15 (by omega)))) ?_
      refine WM_build (cs := [.int .i64 (gt x0 k15)]) underlying37 type3 rfl (by decide) (by decide) rfl (by kernel_rfl) (Wd_none rfl) (by decide) (fun p34 => ?_)
      refine ap1 tInt 3 (.slice A17 d16.length c18) d16 (gt x0 k15) [] [] [.int .i64 (gt x0 k15)] (fun W hm => hm) (fun _ _ hs => by cases (Sep.nil hs); exact (els_cons tInt_own els_nil)) underlying37 type3 (show (d16.length + 1) * 8 ≤ 140737488355328 from by omega) (fun v35 => ?_)
      refine WM_form (n := 0) rfl ?_
      rintro A36 c37 rfl m38
      refine wa (WM_nil (QM_block_normal (QM_then (CM_region (wm ?_)))))
      refine wv (vadN k15 1 (by omega)) ?_
      refine wa (WM_nil ?_)
      have hn40 := rngb_next (R := (List Int)) (body := F1) (k := k15) (s := d16) (s' := (d16 ++ [(gt x0 k15)])) (show k15 < x0.length from by omega) (cond_t g26 (cond_t g28 (cond_t g33 (rfl)))) hF20
      exact QM_round (k15 + 1, (d16 ++ [(gt x0 k15)]), (A36, c37)) sl4 (fun W hm => hm) ⟨(by omega), hn40, (show (d16 ++ [(gt x0 k15)]).length ≤ 0 + (k15 + 1) from by first | omega | (simp only [List.length_append, List.length_cons, List.length_nil] at *; omega))⟩ (rl (by omega))
     ·
      refine CM_condF rfl g33 ?_
      refine CM_skip (QM_block_normal (QM_then (CM_region (wm ?_))))
      refine wv (vadN k15 1 (by omega)) ?_
      refine wa (WM_nil ?_)
      have hn41 := rngb_next (R := (List Int)) (body := F1) (k := k15) (s := d16) (s' := d16) (show k15 < x0.length from by omega) (cond_t g26 (cond_t g28 (cond_f g33 (rfl)))) hF20
      exact QM_round (k15 + 1, d16, (A17, c18)) sl4 (fun W hm => hm) ⟨(by omega), hn41, (show d16.length ≤ 0 + (k15 + 1) from by first | omega | (simp only [List.length_append, List.length_cons, List.length_nil] at *; omega))⟩ (rl (by omega))
    ·
     refine CM_condF rfl g28 ?_
     refine CM_exit (QM_then_exit (QM_then_exit (QM_block_hit ?_)))
     have hE42 := rngb_brk (R := (List Int)) (body := F1) (k := k15) (s := d16) (s' := d16) (show k15 < x0.length from by omega) (cond_t g26 (cond_f g28 (rfl))) hF20
     exact QM_cut_normal (d16, (A17, c18)) (subL_cons rfl subL_nil) (fun W hm => hm) hE42
   ·
    refine ws g26 ?_
    refine ws g26 ?_
    refine wv (vpF g26) ?_
    refine nt' ?_
    refine CM_condF rfl rfl ?_
    refine CM_exit (QM_then_exit (QM_then_exit (QM_block_hit ?_)))
    have hE43 := rngb_brk (R := (List Int)) (body := F1) (k := k15) (s := d16) (s' := d16) (show k15 < x0.length from by omega) (cond_f g26 (rfl)) hF20
    exact QM_cut_normal (d16, (A17, c18)) (subL_cons rfl subL_nil) (fun W hm => hm) hE43
  ·have g24 := dlF hl23
   refine ws g24 ?_
   refine ws g24 ?_
   refine wv (vpF g24) ?_
   refine wm ?_
   refine wk ?_
   refine wk ?_
   refine wv (vpF rfl) ?_
   refine nt' ?_
   refine CM_condF rfl rfl ?_
   refine CM_exit (QM_then_exit (QM_then_exit (QM_block_hit ?_)))
   have hE44 : R2 (x0.length - 0) 0 [] = Sum.inr d16 := rngb_end hl23 hF20
   exact QM_cut_normal (d16, (A17, c18)) (subL_cons rfl subL_nil) (fun W hm => hm) hE44
 ·
  rintro ⟨d16, ⟨A17, c18⟩⟩ H46
  have hE45 : R2 (x0.length - 0) 0 [] = Sum.inr d16 := H46
  show QM 36 _ _ _ .normal [(5, .slice A17 d16.length c18)] [iOwn (tSl tInt 3) [.slice A17 d16.length c18] d16]
  refine QM_then (sr (wm (wa (nt' (CM_ret ?_)))))
  have he47 := (show spec_MeetSets_m x0 x1 = d16 from fin_inr hE45 (rfl))
  refine QM_r1 rfl (RR_tmp rfl) (fun W hm => ⟨.slice A17 d16.length c18, ?_, ?_⟩)
  ·first | rw [he47] | rfl
  ·rw [he47]; exact hm

theorem rngb_as {R S : Type} {b : Nat → S → R ⊕ S} {b' : Nat → S → R ⊕ (S ⊕ S)} (h : ∀ j s, b' j s = Sum.elim Sum.inl (fun s => Sum.inr (Sum.inr s)) (b j s)) : ∀ m k s, rngb b' m k s = rng b m k s
  | 0, _, _ => rfl
  | m + 1, k, s => by
    rw [rngb, rng, h]
    cases b k s with
    | inl r => rfl
    | inr s' => exact rngb_as h m (k + 1) s'
theorem spec_MeetSets_form (x y : List Int) : spec_MeetSets_m x y = cond (spec_IsSet_m x && spec_IsSet_m y) (x.filter fun z => spec_HasMember_m y z) [] := by
  unfold spec_MeetSets_m
  cases hx : spec_IsSet_m x with
  | false => rw [rngb_false (fun j s => by unfold spec_MeetSets_b1; rw [hx]; rfl)]; rfl
  | true =>
    cases hy : spec_IsSet_m y with
    | false => rw [rngb_false (fun j s => by unfold spec_MeetSets_b1; rw [hx, hy]; rfl)]; rfl
    | true =>
      rw [rngb_as (b := fun k d => cond (spec_HasMember_m y (gt x k)) (Sum.inr (d ++ [gt x k])) (Sum.inr d)) (fun j s => by unfold spec_MeetSets_b1; rw [hx, hy, cond_true, cond_true]; cases spec_HasMember_m y (gt x j) <;> rfl)]
      rw [rng_fold (xs := x) (f := fun d z => cond (spec_HasMember_m y z) (d ++ [z]) d) (b := fun k d => cond (spec_HasMember_m y (gt x k)) (Sum.inr (d ++ [gt x k])) (Sum.inr d)) (fun j s _ => by cases spec_HasMember_m y (gt x j) <;> rfl), foldl_filter]
      rfl
theorem foldl_ids : ∀ (l : List DQuery) (d : List Int), (l.foldl (fun d q => d ++ [q.Id]) d).length = d.length + l.length
  | [], _ => rfl
  | q :: l, d => by
    have h := foldl_ids l (d ++ [q.Id])
    simp only [List.length_append, List.length_cons, List.length_nil] at h ⊢
    rw [List.foldl_cons, h]
    omega
theorem spec_l6All_len (l : List DQuery) : (spec_l6All_m l).length ≤ l.length := by
  unfold spec_l6All_m
  rw [rng_fold (xs := l) (f := fun d q => d ++ [q.Id]) (b := fun k s => spec_l6All_b1 l k s) (fun _ _ _ => rfl)]
  have h := foldl_ids l []
  show (l.foldl (fun d q => d ++ [q.Id]) []).length ≤ _
  rw [h]
  simp
theorem spec_FindSpan_sm {B : Nat} {l : List DSpan} (h : ∀ z ∈ l, smSpan B z) (v : Int) : (spec_FindSpan_m l v).length ≤ B := by
  unfold spec_FindSpan_m
  rcases rng_find (P := fun (r : List Int) => r.length ≤ B) (n := l.length) (b := fun k (_ : Unit) => spec_FindSpan_b1 l v k) (fun j hj => by
    show (∃ r, spec_FindSpan_b1 l v j = _ ∧ _) ∨ spec_FindSpan_b1 l v j = _
    unfold spec_FindSpan_b1
    cases spec_l1In_m v (gt l j).From (gt l j).To
    · exact .inr rfl
    · exact .inl ⟨_, rfl, h _ (gt_mem hj)⟩) (l.length - 0) 0 (by omega) with ⟨r, h1, h2⟩ | h1
  · rw [h1]; exact h2
  · rw [h1]; exact Nat.zero_le _
theorem spec_MeetSets_len (x y : List Int) : (spec_MeetSets_m x y).length ≤ x.length := by
  rw [spec_MeetSets_form]
  cases (spec_IsSet_m x && spec_IsSet_m y)
  · exact Nat.zero_le _
  · exact List.length_filter_le _ _
def spec_l6Probe_b1 (x0 : DIndex) (x1 : DRow) (x2 : (List Int)) (k38 : Nat) (d39 : (List Int)) (s42 : Int) : ((List Int) × Int) ⊕ (((List Int) × Int) ⊕ ((List Int) × Int)) :=
 cond (decide (0 < ((d39.length : Nat) : Int))) (Sum.inr (Sum.inr ((spec_MeetSets_m d39 (spec_FindSpan_m (gt x0.Fields ((gt x2 k38).toNat)) (gt x1.Values ((gt x2 k38).toNat)))), (IntKind.i64.wrap ((IntKind.i64.wrap (s42 + 1)) + (if (((spec_FindSpan_m (gt x0.Fields ((gt x2 k38).toNat)) (gt x1.Values ((gt x2 k38).toNat))).length : Nat) : Int) < ((d39.length : Nat) : Int) then (((spec_FindSpan_m (gt x0.Fields ((gt x2 k38).toNat)) (gt x1.Values ((gt x2 k38).toNat))).length : Nat) : Int) else ((d39.length : Nat) : Int))))))) (Sum.inr (Sum.inl (d39, s42)))
def spec_l6Probe_m (x0 : DIndex) (x1 : DRow) (x2 : (List Int)) : ((List Int) × Int) :=
 Sum.elim id (fun (s : (List Int) × Int) => (s.1, s.2)) (rngb (R := ((List Int) × Int)) (fun k (s : (List Int) × Int) => spec_l6Probe_b1 x0 x1 x2 k s.1 s.2) (x2.length - 0) 0 ((spec_l6All_m x0.Queries), 0))
theorem cb81 : Cb Try.prog 81 := ⟨f81, _, func81, rfl, by decide⟩
theorem spec_l6Probe_c (w : World) (z0 : List Value) (x0 : DIndex) (z1 : List Value) (x1 : DRow) (z2 : Value) (x2 : (List Int)) (r_0 : tyIndex.rd w w.heap.size z0 x0) (r_1 : tyRow.rd w w.heap.size z1 x1) (r_2 : rdS tInt w w.heap.size z2 x2) (s_0 : smIndex 68719476736 x0) (s_1 : smRow 68719476736 x1) (s_2 : x2.length ≤ 68719476736) (hf : x0.Fields.length = 3) (hv : x1.Values.length = 3) (ho : ∀ y ∈ x2, 0 ≤ y ∧ y ≤ 2) :
  Calls Try.prog 81 #[.agg z0.toArray, .agg z1.toArray, z2] w fun e w' => ∃ v : Value, e = .returned (.tuple #[v, .int .i64 ((spec_l6Probe_m x0 x1 x2).2)]) ∧ Mem w.heap.size w [iOwn (tSl tInt 3) [v] (spec_l6Probe_m x0 x1 x2).1] w' := by
 obtain ⟨v1, v3, rfl, r2, r4⟩ := tyIndex_rd r_0
 obtain ⟨m5, A6, c7, rfl, q8, r9⟩ := rdS_op r2
 obtain ⟨m10, A11, c12, rfl, q13, r14⟩ := rdS_op r4
 obtain ⟨v15, rfl, r16⟩ := tyRow_rd r_1
 obtain ⟨m17, A18, c19, rfl, q20, r21⟩ := rdS_op r16
 obtain ⟨m22, A23, c24, rfl, q25, r26⟩ := rdS_op r_2
 have l27 : x0.Queries.length ≤ 68719476736 := s_0.1.1
 have l28 : x0.Fields.length ≤ 68719476736 := s_0.2.1
 have l29 : x1.Values.length ≤ 68719476736 := s_1
 have l30 : x2.length ≤ 68719476736 := s_2
 refine ce3 (L := [(0, .agg #[.slice A6 x0.Queries.length c7, .slice A11 x0.Fields.length c12]), (1, .agg #[.int .i64 x1.Id, .slice A18 x1.Values.length c19]), (2, .slice A23 x2.length c24)]) (N := 56) func81 ?_
 refine sr ?_
 refine WM_box rfl (Wd_none rfl) (by decide) (fun p31 => ?_)
 refine WM_box rfl (Wd_none rfl) (by decide) (fun p32 => ?_)
 refine wa (wa (nt' (sr ?_)))
 refine wv (vf underlying27 rfl type24) ?_
 refine wv (vl 1 0 underlying24) ?_
 refine wcl (tSl tInt 3) (spec_l6All_m x0.Queries) (cl_fn cb90 rfl) (fun W hm => spec_l6All_c W _ x0.Queries (hm.rdS0 r9) s_0.1) (fun z33 => ?_)
 have ha := spec_l6All_len x0.Queries
 refine WM_form (n := 0) rfl ?_
 rintro A34 c35 rfl m36
 refine wa (nt' (sr (wa (nt' (CM_seq (sr (wa (nt' ?_))))))))
 let F1 := fun k (s : (List Int) × Int) => spec_l6Probe_b1 x0 x1 x2 k s.1 s.2
 let R2 := rngb (R := ((List Int) × Int)) F1
 let K3 : List Value := [.slice A6 x0.Queries.length c7, .slice A11 x0.Fields.length c12]
 let I5 : It := iBox p32 50 [.int .i64 x1.Id, .slice A18 x1.Values.length c19]
 refine CM_cut (σ := ((List Int) × Int) × (Option Addr × Nat)) (fun s => [(8, .slice s.2.1 s.1.1.length s.2.2), (9, .int .i64 s.1.2)]) (fun s => [iOwn (tSl tInt 3) [.slice s.2.1 s.1.1.length s.2.2] s.1.1, I5, iBox p31 27 K3]) (fun s => R2 (x2.length - 0) 0 ((spec_l6All_m x0.Queries), 0) = Sum.inr s.1) ?_ ?_
 ·
  refine CM_block ?_
  refine CM_loop (σ := Nat × ((List Int) × Int) × (Option Addr × Nat)) (fun s => [(2, .slice A23 x2.length c24), (3, .pointer (some (⟨p31, 0, none⟩ : Addr))), (4, .pointer (some (⟨p32, 0, none⟩ : Addr))), (8, .slice s.2.2.1 s.2.1.1.length s.2.2.2), (9, .int .i64 s.2.1.2), (10, .int .i64 ((s.1 : Nat) : Int))]) (fun s => [iOwn (tSl tInt 3) [.slice s.2.2.1 s.2.1.1.length s.2.2.2] s.2.1.1, I5, iBox p31 27 K3]) (fun s => s.1 ≤ x2.length ∧ R2 (x2.length - s.1) s.1 s.2.1 = R2 (x2.length - 0) 0 ((spec_l6All_m x0.Queries), 0) ∧ s.2.1.1.length ≤ 68719476736) (fun s => x2.length - s.1) (0, ((spec_l6All_m x0.Queries), 0), (A34, c35)) sl6 (fun W hm => hm) ⟨(by omega), rfl, (by have := s_0.1.1; dsimp only; omega)⟩ ?_
  rintro ⟨k38, ⟨d39, s42⟩, ⟨A40, c41⟩⟩ H45
  obtain ⟨hk43, hF44, hi46⟩ : k38 ≤ x2.length ∧ R2 (x2.length - k38) k38 (d39, s42) = R2 (x2.length - 0) 0 ((spec_l6All_m x0.Queries), 0) ∧ d39.length ≤ 68719476736 := H45
  let I6 : It := iOwn (tSl tInt 3) [.slice A40 d39.length c41] d39
  show CM Try.prog 56 _ _ _ _ [(2, .slice A23 x2.length c24), (3, .pointer (some (⟨p31, 0, none⟩ : Addr))), (4, .pointer (some (⟨p32, 0, none⟩ : Addr))), (8, .slice A40 d39.length c41), (9, .int .i64 s42), (10, .int .i64 ((k38 : Nat) : Int))] [I6, I5, iBox p31 27 K3]
  refine CM_seq (sr (wm (wm ?_)))
  refine wv (vlen underlying37) ?_
  refine wv vlss ?_
  refine wm ?_
  by_cases hl47 : k38 < x2.length
  ·have g48 := dlT hl47
   have hq := ho _ (gt_mem (show k38 < x2.length from by omega))
   refine wg vmv g48 ?_
   refine wg (vlen underlying37) g48 ?_
   refine wg (fun W hm => rv_gtr rfl rfl) g48 ?_
   refine wv (vpT g48) ?_
   refine nt' ?_
   by_cases h49 : 0 < ((d39.length : Nat) : Int)
   ·have g50 := decide_eq_true h49
    refine CM_condT rfl g50 ?_
    refine CM_skip (QM_then (CM_seq (CM_block (CM_seq ?_))))
    obtain ⟨a51, rfl, hb52, he53⟩ := q25 (by omega)
    obtain ⟨a54, rfl, hb55, he56⟩ := q13 (by omega)
    obtain ⟨_, e58, hc57⟩ := he56 ((gt x2 k38).toNat) _ (gt_some (show ((gt x2 k38).toNat) < x0.Fields.length from by omega))
    have l59 : (gt x0.Fields ((gt x2 k38).toNat)).length ≤ 68719476736 := (s_0.2.2 _ (gt_mem (show ((gt x2 k38).toNat) < x0.Fields.length from by omega))).1
    obtain ⟨v60, rfl, r61⟩ := e58
    obtain ⟨m62, A63, c64, rfl, q65, r66⟩ := rdS_op r61
    obtain ⟨a67, rfl, hb68, he69⟩ := q20 (by omega)
    let K4 : List Value := [.slice A6 x0.Queries.length c7, .slice (some a54) x0.Fields.length c12]
    let I7 : It := iBox p32 50 [.int .i64 x1.Id, .slice (some a67) x1.Values.length c19]
    refine CM_cut (σ := Option Addr × Nat) (fun s => [(2, .slice (some a51) x2.length c24), (3, .pointer (some (⟨p31, 0, none⟩ : Addr))), (4, .pointer (some (⟨p32, 0, none⟩ : Addr))), (8, .slice A40 d39.length c41), (9, .int .i64 s42), (10, .int .i64 ((k38 : Nat) : Int)), (11, .slice s.1 (spec_FindSpan_m (gt x0.Fields ((gt x2 k38).toNat)) (gt x1.Values ((gt x2 k38).toNat))).length s.2)]) (fun s => [iOwn (tSl tInt 3) [.slice s.1 (spec_FindSpan_m (gt x0.Fields ((gt x2 k38).toNat)) (gt x1.Values ((gt x2 k38).toNat))).length s.2] (spec_FindSpan_m (gt x0.Fields ((gt x2 k38).toNat)) (gt x1.Values ((gt x2 k38).toNat))), I6, I7, iBox p31 27 K4]) (fun _ => True) ?_ ?_
    ·
     refine rb 18 (s := [I6]) (pk [0]) ?_
     refine qt 18 0 1 rfl (vf underlying27 rfl type25) ?_
     refine qt 18 2 5 rfl vmv ?_
     refine qt 18 3 13 rfl vmv ?_
     refine qt 18 4 29 rfl (vix 1 k38 underlying37 type3) ?_
     refine qt 18 5 61 rfl (fun W hm => rv_load underlying3 rfl rfl ((hm.cell0 (show (a51.add (k38 * 1)).block < w.heap.size from by rw [add_block]; exact hb52.1)).trans (rdS_int he53 k38 (by omega)))) ?_
     refine qt 18 8 317 rfl (vf underlying50 rfl type37) ?_
     refine qt 18 10 1341 rfl vmv ?_
     refine qt 18 11 3389 rfl vmv ?_
     refine qt 18 12 7485 rfl (vix 1 k38 underlying37 type3) ?_
     refine qt 18 13 15677 rfl (fun W hm => rv_load underlying3 rfl rfl ((hm.cell0 (show (a51.add (k38 * 1)).block < w.heap.size from by rw [add_block]; exact hb52.1)).trans (rdS_int he53 k38 (by omega)))) ?_
     refine qa [1, 9] ?_
     refine qc 18 15679 rfl ?_ ?_
     ·
      refine wv (vl 2 1 underlying25) ?_
      refine qn (pk [0]) ?_
      refine qt 18 6 15743 rfl (fun W hm => rv_indexI (sz := 1) (k := (gt x2 k38)) underlying25 type64 rfl rfl rfl (by omega) (by omega)) ?_
      refine qt 18 7 15871 rfl (fun W hm => rv_load underlying64 rfl rfl ((hm.cell0 (show (a54.add (((gt x2 k38).toNat) * 1)).block < w.heap.size from by rw [add_block]; exact hb55.1)).trans (hc57 0 _ rfl))) ?_
      refine qo 18 9 16383 rfl ?_
      refine wv (vl 1 1 underlying37) ?_
      refine qn (pk [0]) ?_
      refine qt 18 14 32767 rfl (fun W hm => rv_indexI (sz := 1) (k := (gt x2 k38)) underlying37 type3 rfl rfl rfl (by omega) (by omega)) ?_
      refine qt 18 15 65535 rfl (fun W hm => rv_load underlying3 rfl rfl ((hm.cell0 (show (a67.add (((gt x2 k38).toNat) * 1)).block < w.heap.size from by rw [add_block]; exact hb68.1)).trans (rdS_int he69 ((gt x2 k38).toNat) (by omega)))) ?_
      refine qo 18 16 131071 rfl ?_
      refine wcl (tSl tInt 3) (spec_FindSpan_m (gt x0.Fields ((gt x2 k38).toNat)) (gt x1.Values ((gt x2 k38).toNat))) (cl_fn cb91 rfl) (fun W hm => spec_FindSpan_c W _ (gt x0.Fields ((gt x2 k38).toNat)) (gt x1.Values ((gt x2 k38).toNat)) (hm.rdS0 r66) (s_0.2.2 _ (gt_mem (show ((gt x2 k38).toNat) < x0.Fields.length from by omega)))) (fun z75 => ?_)
      refine WM_form (n := 0) rfl ?_
      rintro A76 c77 rfl m78
      refine qn (pk [1]) ?_
      refine qt 18 17 262143 rfl (fun W hm => rv_assign rfl) ?_
      refine QB_done (by kernel_rfl) ?_
      exact QM_cut_normal (A76, c77) sl7 (fun W hm => hm) trivial
     refine qc 18 16189 rfl ?_ ?_
     ·
      refine wv (vl 1 1 underlying37) ?_
      refine qn (pk [0]) ?_
      refine qt 18 14 32573 rfl (fun W hm => rv_indexI (sz := 1) (k := (gt x2 k38)) underlying37 type3 rfl rfl rfl (by omega) (by omega)) ?_
      refine qt 18 15 65341 rfl (fun W hm => rv_load underlying3 rfl rfl ((hm.cell0 (show (a67.add (((gt x2 k38).toNat) * 1)).block < w.heap.size from by rw [add_block]; exact hb68.1)).trans (rdS_int he69 ((gt x2 k38).toNat) (by omega)))) ?_
      refine qo 18 1 65343 rfl ?_
      refine wv (vl 2 1 underlying25) ?_
      refine qn (pk [0]) ?_
      refine qt 18 6 65407 rfl (fun W hm => rv_indexI (sz := 1) (k := (gt x2 k38)) underlying25 type64 rfl rfl rfl (by omega) (by omega)) ?_
      refine qt 18 7 65535 rfl (fun W hm => rv_load underlying64 rfl rfl ((hm.cell0 (show (a54.add (((gt x2 k38).toNat) * 1)).block < w.heap.size from by rw [add_block]; exact hb55.1)).trans (hc57 0 _ rfl))) ?_
      refine qo 18 16 131071 rfl ?_
      refine wcl (tSl tInt 3) (spec_FindSpan_m (gt x0.Fields ((gt x2 k38).toNat)) (gt x1.Values ((gt x2 k38).toNat))) (cl_fn cb91 rfl) (fun W hm => spec_FindSpan_c W _ (gt x0.Fields ((gt x2 k38).toNat)) (gt x1.Values ((gt x2 k38).toNat)) (hm.rdS0 r66) (s_0.2.2 _ (gt_mem (show ((gt x2 k38).toNat) < x0.Fields.length from by omega)))) (fun z80 => ?_)
      refine WM_form (n := 0) rfl ?_
      rintro A81 c82 rfl m83
      refine qn (pk [1]) ?_
      refine qt 18 17 262143 rfl (fun W hm => rv_assign rfl) ?_
      refine QB_done (by kernel_rfl) ?_
      exact QM_cut_normal (A81, c82) sl7 (fun W hm => hm) trivial
     exact QBs_nil
    ·
     rintro ⟨A71, c72⟩ -
     show QM 56 _ _ _ .normal [(2, .slice (some a51) x2.length c24), (3, .pointer (some (⟨p31, 0, none⟩ : Addr))), (4, .pointer (some (⟨p32, 0, none⟩ : Addr))), (8, .slice A40 d39.length c41), (9, .int .i64 s42), (10, .int .i64 ((k38 : Nat) : Int)), (11, .slice A71 (spec_FindSpan_m (gt x0.Fields ((gt x2 k38).toNat)) (gt x1.Values ((gt x2 k38).toNat))).length c72)] [iOwn (tSl tInt 3) [.slice A71 (spec_FindSpan_m (gt x0.Fields ((gt x2 k38).toNat)) (gt x1.Values ((gt x2 k38).toNat))).length c72] (spec_FindSpan_m (gt x0.Fields ((gt x2 k38).toNat)) (gt x1.Values ((gt x2 k38).toNat))), I6, I7, iBox p31 27 K4]
     refine QM_len (n := 0) rfl ?_
     intro m85 m86
     refine QM_then (sr (wm ?_))
     refine wv vadd ?_
     refine wm ?_
     refine wv (vlen underlying37) ?_
     refine wm ?_
     refine wv (vlen underlying37) ?_
     refine wv (fun W hm => rv_min rfl rfl) ?_
     refine wv vadd ?_
     refine wa (nt' (CM_region (wm (wm ?_))))
     refine wcl (tSl tInt 3) (spec_MeetSets_m d39 (spec_FindSpan_m (gt x0.Fields ((gt x2 k38).toNat)) (gt x1.Values ((gt x2 k38).toNat)))) (cl_fn cb43 rfl) (fun W hm => spec_MeetSets_c W _ d39 _ (spec_FindSpan_m (gt x0.Fields ((gt x2 k38).toNat)) (gt x1.Values ((gt x2 k38).toNat))) (hm.rdSI (n := 1) rfl) (hm.rdSI (n := 0) rfl) (show _ ≤ 68719476736 from by omega) (spec_FindSpan_sm (s_0.2.2 _ (gt_mem (by omega))).2 _)) (fun z87 => ?_)
     refine WM_form (n := 0) rfl ?_
     rintro A88 c89 rfl m90
     refine wa (WM_nil (QM_block_normal (QM_then (CM_region (wm ?_)))))
     refine wv (vadN k38 1 (by omega)) ?_
     refine wa (WM_nil ?_)
     have hn92 := rngb_next (R := ((List Int) × Int)) (body := F1) (k := k38) (s := (d39, s42)) (s' := ((spec_MeetSets_m d39 (spec_FindSpan_m (gt x0.Fields ((gt x2 k38).toNat)) (gt x1.Values ((gt x2 k38).toNat)))), (IntKind.i64.wrap ((IntKind.i64.wrap (s42 + 1)) + (if (((spec_FindSpan_m (gt x0.Fields ((gt x2 k38).toNat)) (gt x1.Values ((gt x2 k38).toNat))).length : Nat) : Int) < ((d39.length : Nat) : Int) then (((spec_FindSpan_m (gt x0.Fields ((gt x2 k38).toNat)) (gt x1.Values ((gt x2 k38).toNat))).length : Nat) : Int) else ((d39.length : Nat) : Int)))))) (show k38 < x2.length from by omega) (cond_t g50 (rfl)) hF44
     exact QM_round (k38 + 1, ((spec_MeetSets_m d39 (spec_FindSpan_m (gt x0.Fields ((gt x2 k38).toNat)) (gt x1.Values ((gt x2 k38).toNat)))), (IntKind.i64.wrap ((IntKind.i64.wrap (s42 + 1)) + (if (((spec_FindSpan_m (gt x0.Fields ((gt x2 k38).toNat)) (gt x1.Values ((gt x2 k38).toNat))).length : Nat) : Int) < ((d39.length : Nat) : Int) then (((spec_FindSpan_m (gt x0.Fields ((gt x2 k38).toNat)) (gt x1.Values ((gt x2 k38).toNat))).length : Nat) : Int) else ((d39.length : Nat) : Int))))), (A88, c89)) sl6 (pk [0, 3, 4]) ⟨(by omega), hn92, (show (spec_MeetSets_m d39 (spec_FindSpan_m (gt x0.Fields ((gt x2 k38).toNat)) (gt x1.Values ((gt x2 k38).toNat)))).length ≤ 68719476736 from by exact Nat.le_trans (spec_MeetSets_len _ _) hi46)⟩ (rl (by omega))
   ·have g50 := decide_eq_false h49
    refine CM_condF rfl g50 ?_
    refine CM_exit (QM_then_exit (QM_then_exit (QM_block_hit ?_)))
    have hE93 := rngb_brk (R := ((List Int) × Int)) (body := F1) (k := k38) (s := (d39, s42)) (s' := (d39, s42)) (show k38 < x2.length from by omega) (cond_f g50 (rfl)) hF44
    exact QM_cut_normal ((d39, s42), (A40, c41)) sl2 (fun W hm => hm) hE93
  ·have g48 := dlF hl47
   refine ws g48 ?_
   refine ws g48 ?_
   refine ws g48 ?_
   refine wv (vpF g48) ?_
   refine nt' ?_
   refine CM_condF rfl rfl ?_
   refine CM_exit (QM_then_exit (QM_then_exit (QM_block_hit ?_)))
   have hE94 : R2 (x2.length - 0) 0 ((spec_l6All_m x0.Queries), 0) = Sum.inr (d39, s42) := rngb_end hl47 hF44
   exact QM_cut_normal ((d39, s42), (A40, c41)) sl2 (fun W hm => hm) hE94
 ·
  rintro ⟨⟨d39, s42⟩, ⟨A40, c41⟩⟩ H96
  have hE95 : R2 (x2.length - 0) 0 ((spec_l6All_m x0.Queries), 0) = Sum.inr (d39, s42) := H96
  show QM 56 _ _ _ .normal [(8, .slice A40 d39.length c41), (9, .int .i64 s42)] [iOwn (tSl tInt 3) [.slice A40 d39.length c41] d39, I5, iBox p31 27 K3]
  refine QM_then (sr (wm (wm (wa (wa (nt' (CM_ret ?_)))))))
  have he97 := (show spec_l6Probe_m x0 x1 x2 = (d39, s42) from fin_inr hE95 (rfl))
  refine QM_r2 rfl (RR_tmp rfl) (RR_tmp rfl) (fun W hm => ⟨.slice A40 d39.length c41, ?_, ?_⟩)
  ·first | rw [he97] | rfl
   try rfl
  ·rw [he97]; exact (hm.pick [0] (by decide))

theorem spec_IsRow_len {r : DRow} (h : spec_IsRow_m r = true) : r.Values.length = 3 := by
  unfold spec_IsRow_m at h
  rw [rng_allN (p := fun k => spec_l1In_m (gt r.Values k) 0 99) (r := false) (fun k _ => by
    unfold spec_IsRow_b1
    cases spec_l1In_m (gt r.Values k) 0 99 <;> rfl)] at h
  by_cases h1 : r.Values.length = 3
  · exact h1
  · rw [beq_eq_false_iff_ne.2 (show ¬ ((r.Values.length : Nat) : Int) = 3 by omega)] at h
    revert h
    cases (List.range r.Values.length).all (fun k => spec_l1In_m (gt r.Values k) 0 99) <;> cases spec_l1In_m r.Id 0 999 <;> intro h <;> cases h
theorem spec_IsIndex_fact {x : DIndex} (h : spec_IsIndex_m x = true) : x.Fields.length = 3 := by
  unfold spec_IsIndex_m at h
  cases h1 : spec_AreQueries_m x.Queries <;> rw [h1] at h
  · cases h
  · by_cases h2 : ((x.Fields.length : Nat) : Int) = 3
    · omega
    · rw [bne_iff_ne.2 h2] at h
      cases h
theorem spec_Order_fact {x : List Int} (h : spec_l6Order_m x = true) : ∀ y ∈ x, 0 ≤ y ∧ y ≤ 2 := by
  unfold spec_l6Order_m at h
  rw [rng_allN (p := fun k => spec_l1In_m (gt x k) 0 2 && !spec_HasMember_m (List.take k x) (gt x k)) (r := false) (fun k _ => by
    unfold spec_l6Order_b1
    cases spec_l1In_m (gt x k) 0 2 <;> cases spec_HasMember_m (List.take k x) (gt x k) <;> rfl)] at h
  intro y hy
  obtain ⟨k, hk, rfl⟩ := List.getElem_of_mem hy
  rw [← gt_at hk]
  cases ha : (List.range x.length).all (fun k => spec_l1In_m (gt x k) 0 2 && !spec_HasMember_m (List.take k x) (gt x k)) with
  | false =>
    rw [ha] at h
    cases hl : (((x.length : Nat) : Int) != 3) <;> rw [hl] at h <;> cases h
  | true =>
    have h2 := List.all_eq_true.1 ha k (List.mem_range.2 hk)
    cases h3 : spec_l1In_m (gt x k) 0 2 with
    | false => rw [h3] at h2; cases h2
    | true => exact spec_l1In_fact h3
def spec_ProbeSet_m (x0 : DIndex) (x1 : DRow) (x2 : (List Int)) : ((List Int) × Int) :=
 cond (spec_IsIndex_m x0) (cond (spec_IsRow_m x1) (cond (spec_l6Order_m x2) ((spec_l6Probe_m x0 x1 x2).1, (spec_l6Probe_m x0 x1 x2).2) ([], 0)) ([], 0)) ([], 0)
theorem cb58 : Cb Try.prog 58 := ⟨f58, _, func58, rfl, by decide⟩
theorem spec_ProbeSet_c (w : World) (z0 : List Value) (x0 : DIndex) (z1 : List Value) (x1 : DRow) (z2 : Value) (x2 : (List Int)) (r_0 : tyIndex.rd w w.heap.size z0 x0) (r_1 : tyRow.rd w w.heap.size z1 x1) (r_2 : rdS tInt w w.heap.size z2 x2) (s_0 : smIndex 68719476736 x0) (s_1 : smRow 68719476736 x1) (s_2 : x2.length ≤ 68719476736) :
  Calls Try.prog 58 #[.agg z0.toArray, .agg z1.toArray, z2] w fun e w' => ∃ v : Value, e = .returned (.tuple #[v, .int .i64 ((spec_ProbeSet_m x0 x1 x2).2)]) ∧ Mem w.heap.size w [iOwn (tSl tInt 3) [v] (spec_ProbeSet_m x0 x1 x2).1] w' := by
 obtain ⟨v1, v3, rfl, r2, r4⟩ := tyIndex_rd r_0
 obtain ⟨m5, A6, c7, rfl, q8, r9⟩ := rdS_op r2
 obtain ⟨m10, A11, c12, rfl, q13, r14⟩ := rdS_op r4
 obtain ⟨v15, rfl, r16⟩ := tyRow_rd r_1
 obtain ⟨m17, A18, c19, rfl, q20, r21⟩ := rdS_op r16
 obtain ⟨m22, A23, c24, rfl, q25, r26⟩ := rdS_op r_2
 have l27 : x0.Queries.length ≤ 68719476736 := s_0.1.1
 have l28 : x0.Fields.length ≤ 68719476736 := s_0.2.1
 have l29 : x1.Values.length ≤ 68719476736 := s_1
 have l30 : x2.length ≤ 68719476736 := s_2
 refine ce3 (L := [(0, .agg #[.slice A6 x0.Queries.length c7, .slice A11 x0.Fields.length c12]), (1, .agg #[.int .i64 x1.Id, .slice A18 x1.Values.length c19]), (2, .slice A23 x2.length c24)]) (N := 33) func58 ?_
 refine sr ?_
 refine WM_box rfl (Wd_none rfl) (by decide) (fun p31 => ?_)
 refine WM_box rfl (Wd_none rfl) (by decide) (fun p32 => ?_)
 refine wa (wa (nt' (CM_seq (sr ?_))))
 let K1 : List Value := [.slice A6 x0.Queries.length c7, .slice A11 x0.Fields.length c12]
 refine wv (fun W hm => rv_loadN (cs := K1) underlying27 type27 rfl rfl (hm.boxCells (n := 1) rfl)) ?_
 refine wcv (cl_fn cb9 rfl) (fun W hm => spec_IsIndex_c W _ x0 (tyIndex_mk (x := x0) (hm.rdS0 r9) (hm.rdS0 r14)) s_0) ?_
 refine wv vnot ?_
 refine wm ?_
 rcases Bool.eq_false_or_eq_true (spec_IsIndex_m x0) with g34 | g34
 ·
  have hf := spec_IsIndex_fact g34
  refine wg (fun W hm => rv_loadN (cs := [.int .i64 x1.Id, .slice A18 x1.Values.length c19]) underlying50 type50 rfl rfl (hm.boxCells (n := 0) rfl)) (nt g34) ?_
  refine WM_callV (cl_fn cb63 rfl) (fun W hm => spec_IsRow_c W _ x1 (tyRow_mk (x := x1) (hm.rdS0 r21))) (Wd_some rfl rfl rfl (bw (nt g34) rfl)) (by decide) ?_
  refine wg vnot (nt g34) ?_
  refine wv (vpF (nt g34)) ?_
  refine wm ?_
  rcases Bool.eq_false_or_eq_true (spec_IsRow_m x1) with g36 | g36
  ·
   have hv := spec_IsRow_len g36
   refine wg vmv (nt g36) ?_
   refine WM_callV (cl_fn cb80 rfl) (fun W hm => spec_l6Order_c W _ x2 (hm.rdS0 r26)) (Wd_some rfl rfl rfl (bw (nt g36) rfl)) (by decide) ?_
   refine wg vnot (nt g36) ?_
   refine wv (vpF (nt g36)) ?_
   refine nt' ?_
   rcases Bool.eq_false_or_eq_true (spec_l6Order_m x2) with g38 | g38
   ·
    have ho := spec_Order_fact g38
    refine CM_condF rfl (nt g38) ?_
    refine CM_skip (QM_then (sr ?_))
    refine wv (fun W hm => rv_loadN (cs := K1) underlying27 type27 rfl rfl (hm.boxCells (n := 1) rfl)) ?_
    refine wv (fun W hm => rv_loadN (cs := [.int .i64 x1.Id, .slice A18 x1.Values.length c19]) underlying50 type50 rfl rfl (hm.boxCells (n := 0) rfl)) ?_
    refine wm ?_
    refine WM_call (χ := Value) (val := fun x => .tuple #[x, .int .i64 ((spec_l6Probe_m x0 x1 x2).2)]) (js := fun x => [iOwn (tSl tInt 3) [x] ((spec_l6Probe_m x0 x1 x2).1)]) (cl_fn cb81 rfl) (fun W hm => spec_l6Probe_c W _ x0 _ x1 _ x2 (tyIndex_mk (x := x0) (hm.rdS0 r9) (hm.rdS0 r14)) (tyRow_mk (x := x1) (hm.rdS0 r21)) (hm.rdS0 r26) s_0 s_1 s_2 (hf) (hv) (ho)) (Wd_none rfl) (by decide) (fun z39 => ?_)
    refine WM_form (n := 0) rfl ?_
    rintro A40 c41 rfl m42
    refine wm ?_
    refine wv (fun W hm => rv_extract rfl rfl) ?_
    refine wv (fun W hm => rv_extract rfl rfl) ?_
    refine wa (wa (nt' (sr (wm (wm (wa (wa (nt' (CM_ret ?_)))))))))
    have he44 := (show spec_ProbeSet_m x0 x1 x2 = ((spec_l6Probe_m x0 x1 x2).1, (spec_l6Probe_m x0 x1 x2).2) from cond_t g34 (cond_t g36 (cond_t g38 (rfl))))
    refine QM_r2 rfl (RR_tmp rfl) (RR_tmp rfl) (fun W hm => ⟨.slice A40 ((spec_l6Probe_m x0 x1 x2).1).length c41, ?_, ?_⟩)
    ·first | rw [he44] | rfl
     try rfl
    ·rw [he44]; exact (hm.pick [0] (by decide))
   ·
    refine CM_condT rfl (nf g38) ?_
    refine sr ?_
    refine WM_build0 (E := tInt) underlying37 type3 (Wd_none rfl) (by decide) (fun p45 => ?_)
    refine wa (wa (nt' (CM_ret (QM_then_ret ?_))))
    have he47 := (show spec_ProbeSet_m x0 x1 x2 = ([], 0) from cond_t g34 (cond_t g36 (cond_f g38 (rfl))))
    refine QM_r2 rfl (RR_tmp rfl) (RR_tmp rfl) (fun W hm => ⟨.slice (some ⟨p45, 0, none⟩) 0 0, ?_, ?_⟩)
    ·first | rw [he47] | rfl
     try rfl
    ·rw [he47]; exact (hm.pick [0] (by decide))
  ·
   refine ws (nf g36) ?_
   refine ws (nf g36) ?_
   refine ws (nf g36) ?_
   refine wv (vpT (nf g36)) ?_
   refine nt' ?_
   refine CM_condT rfl rfl ?_
   refine sr ?_
   refine WM_build0 (E := tInt) underlying37 type3 (Wd_none rfl) (by decide) (fun p48 => ?_)
   refine wa (wa (nt' (CM_ret (QM_then_ret ?_))))
   have he50 := (show spec_ProbeSet_m x0 x1 x2 = ([], 0) from cond_t g34 (cond_f g36 (rfl)))
   refine QM_r2 rfl (RR_tmp rfl) (RR_tmp rfl) (fun W hm => ⟨.slice (some ⟨p48, 0, none⟩) 0 0, ?_, ?_⟩)
   ·first | rw [he50] | rfl
    try rfl
   ·rw [he50]; exact (hm.pick [0] (by decide))
 ·
  refine ws (nf g34) ?_
  refine ws (nf g34) ?_
  refine ws (nf g34) ?_
  refine wv (vpT (nf g34)) ?_
  refine wm ?_
  refine wk ?_
  refine wk ?_
  refine wk ?_
  refine wv (vpT rfl) ?_
  refine nt' ?_
  refine CM_condT rfl rfl ?_
  refine sr ?_
  refine WM_build0 (E := tInt) underlying37 type3 (Wd_none rfl) (by decide) (fun p51 => ?_)
  refine wa (wa (nt' (CM_ret (QM_then_ret ?_))))
  have he53 := (show spec_ProbeSet_m x0 x1 x2 = ([], 0) from cond_f g34 (rfl))
  refine QM_r2 rfl (RR_tmp rfl) (RR_tmp rfl) (fun W hm => ⟨.slice (some ⟨p51, 0, none⟩) 0 0, ?_, ?_⟩)
  ·first | rw [he53] | rfl
   try rfl
  ·rw [he53]; exact (hm.pick [0] (by decide))

def spec_MatchSet_m (x0 : DIndex) (x1 : DRow) : (List Int) :=
 (spec_ProbeSet_m x0 x1 [0, 1, 2]).1
theorem cb30 : Cb Try.prog 30 := ⟨f30, _, func30, rfl, by decide⟩
theorem spec_MatchSet_c (w : World) (z0 : List Value) (x0 : DIndex) (z1 : List Value) (x1 : DRow) (r_0 : tyIndex.rd w w.heap.size z0 x0) (r_1 : tyRow.rd w w.heap.size z1 x1) (s_0 : smIndex 68719476736 x0) (s_1 : smRow 68719476736 x1) :
  Calls Try.prog 30 #[.agg z0.toArray, .agg z1.toArray] w fun e w' => ∃ v : Value, e = .returned (v) ∧ Mem w.heap.size w [iOwn (tSl tInt 3) [v] (spec_MatchSet_m x0 x1)] w' := by
 obtain ⟨v1, v3, rfl, r2, r4⟩ := tyIndex_rd r_0
 obtain ⟨m5, A6, c7, rfl, q8, r9⟩ := rdS_op r2
 obtain ⟨m10, A11, c12, rfl, q13, r14⟩ := rdS_op r4
 obtain ⟨v15, rfl, r16⟩ := tyRow_rd r_1
 obtain ⟨m17, A18, c19, rfl, q20, r21⟩ := rdS_op r16
 have l22 : x0.Queries.length ≤ 68719476736 := s_0.1.1
 have l23 : x0.Fields.length ≤ 68719476736 := s_0.2.1
 have l24 : x1.Values.length ≤ 68719476736 := s_1
 refine ce2 (L := [(0, .agg #[.slice A6 x0.Queries.length c7, .slice A11 x0.Fields.length c12]), (1, .agg #[.int .i64 x1.Id, .slice A18 x1.Values.length c19])]) (N := 15) func30 ?_
 refine sr ?_
 refine WM_box rfl (Wd_none rfl) (by decide) (fun p25 => ?_)
 refine WM_box rfl (Wd_none rfl) (by decide) (fun p26 => ?_)
 refine wa (nt' (sr ?_))
 refine wv (fun W hm => rv_loadN (cs := [.slice A6 x0.Queries.length c7, .slice A11 x0.Fields.length c12]) underlying27 type27 rfl rfl (hm.boxCells (n := 1) rfl)) ?_
 refine wv (fun W hm => rv_loadN (cs := [.int .i64 x1.Id, .slice A18 x1.Values.length c19]) underlying50 type50 rfl rfl (hm.boxCells (n := 0) rfl)) ?_
 refine WM_build (cs := [.int .i64 0, .int .i64 1, .int .i64 2]) underlying37 type3 rfl (by decide) (by decide) rfl (by kernel_rfl) (Wd_none rfl) (by decide) (fun p27 => ?_)
 refine WM_items (fun W hm => Mem.litOwn (E := tInt) (xs := [0, 1, 2]) rfl (show 3 ≤ maxLen from by decide) (fun _ => (els_cons (E := tInt) (L1 := []) tInt_own (els_cons (E := tInt) (L1 := []) tInt_own (els_cons (E := tInt) (L1 := []) tInt_own els_nil)))) hm) ?_
 refine WM_call (χ := Value) (val := fun x => .tuple #[x, .int .i64 ((spec_ProbeSet_m x0 x1 [0, 1, 2]).2)]) (js := fun x => [iOwn (tSl tInt 3) [x] ((spec_ProbeSet_m x0 x1 [0, 1, 2]).1)]) (cl_fn cb58 rfl) (fun W hm => spec_ProbeSet_c W _ x0 _ x1 _ [0, 1, 2] (tyIndex_mk (x := x0) (hm.rdS0 r9) (hm.rdS0 r14)) (tyRow_mk (x := x1) (hm.rdS0 r21)) (hm.rdSI (n := 0) rfl) s_0 s_1 (show (3 : Nat) ≤ 68719476736 from by decide)) (Wd_none rfl) (by decide) (fun z29 => ?_)
 refine WM_form (n := 0) rfl ?_
 rintro A30 c31 rfl m32
 refine wm ?_
 refine wv (fun W hm => rv_extract rfl rfl) ?_
 refine wv (fun W hm => rv_extract rfl rfl) ?_
 refine wa (wa (nt' (sr (wm (wa (nt' (CM_ret ?_)))))))
 have he34 := (show spec_MatchSet_m x0 x1 = (spec_ProbeSet_m x0 x1 [0, 1, 2]).1 from rfl)
 refine QM_r1 rfl (RR_tmp rfl) (fun W hm => ⟨.slice A30 ((spec_ProbeSet_m x0 x1 [0, 1, 2]).1).length c31, ?_, ?_⟩)
 ·first | rw [he34] | rfl
 ·rw [he34]; exact (hm.pick [0] (by decide))

def spec_l3Copy_m (x0 : DRow) : DRow :=
 x0
theorem cb31 : Cb Try.prog 31 := ⟨f31, _, func31, rfl, by decide⟩
theorem spec_l3Copy_c (w : World) (z0 : List Value) (x0 : DRow) (r_0 : tyRow.rd w w.heap.size z0 x0) (s_0 : smRow 68719476736 x0) :
  Calls Try.prog 31 #[.agg z0.toArray] w fun e w' => ∃ v : List Value, e = .returned (.agg v.toArray) ∧ Mem w.heap.size w [iOwn tyRow v (spec_l3Copy_m x0)] w' := by
 obtain ⟨v1, rfl, r2⟩ := tyRow_rd r_0
 obtain ⟨m3, A4, c5, rfl, q6, r7⟩ := rdS_op r2
 have l8 : x0.Values.length ≤ 68719476736 := s_0
 refine ce1 (L := [(0, .agg #[.int .i64 x0.Id, .slice A4 x0.Values.length c5])]) (N := 10) func31 ?_
 refine sr ?_
 refine WM_box rfl (Wd_none rfl) (by decide) (fun p9 => ?_)
 refine WM_alloc type50 rfl (Wd_none rfl) (by decide) (fun p10 => ?_)
 refine nt' (CM_seq ?_)
 let I1 : It := iBox p9 50 [.int .i64 x0.Id, .slice A4 x0.Values.length c5]
 refine rd2 8 [7] (s := [I1]) (s2 := [iBox p10 50 [.int .i64 0, .slice none 0 0], I1]) (pk [1]) (fun W hm => hm) ?_
 refine qtD 8 0 1 rfl (vf underlying50 rfl type3) ?_
 refine qtD 8 1 3 rfl (vl 1 0 underlying3) ?_
 refine qtD 8 3 11 rfl (vf underlying50 rfl type37) ?_
 refine qtD 8 4 27 rfl (vl 1 1 underlying37) ?_
 refine qoD 8 2 31 rfl ?_
 refine WM_build0 (E := tInt) underlying37 type3 (Wd_none rfl) (by decide) (fun p11 => ?_)
 refine qnD (pk [2]) (pk [1, 2]) ?_
 refine qoD 8 5 63 rfl ?_
 refine apR tInt tInt 3 (.slice (some ⟨p11, 0, none⟩) 0 0) [] x0.Values [iBox p10 50 [.int .i64 0, .slice none 0 0], I1] (fun W hm => hm) (fun W hm => src_flat flat_int (hm.rdS0 r7)) underlying37 type3 (show (0 + x0.Values.length) * 8 ≤ 140737488355328 from by omega) (fun v13 => ?_)
 refine WM_form (n := 0) rfl ?_
 rintro A14 c15 rfl m16
 refine qnD (pk [2]) (pk [1, 2]) ?_
 refine qtD 8 6 127 rfl (fun W hm => rv_build (cs := [.int .i64 x0.Id, .slice A14 x0.Values.length c15]) rfl (by kernel_rfl)) ?_
 refine qoD 8 7 255 rfl ?_
 let I2 : It := iOwn (tSl tInt 3) [.slice A14 x0.Values.length c15] x0.Values
 refine sb 0 [.int .i64 x0.Id, .slice A14 x0.Values.length c15] [I2, I1] (pk [1, 0, 2]) type50 ?_
 refine qxD (pk [2]) ?_
 refine QB_done (by kernel_rfl) ?_
 refine QM_then (CM_ret ?_)
 have he18 := (show spec_l3Copy_m x0 = x0 from rfl)
 refine QM_r1 rfl (RR_cell (n := 0) rfl rfl underlying50 type50 rfl) (fun W hm => ⟨[.int .i64 x0.Id, .slice A14 x0.Values.length c15], ?_, ?_⟩)
 ·first | rw [he18] | rfl
 ·rw [he18]; exact Mem.join (is := [I2]) (js := []) (fun _ _ hs => tyRow_join (x := x0) hs) (hm.pick [1] (by decide))
theorem spec_l3Copy_eq (x0 : DRow) : spec_l3Copy_m x0 = x0 := by
 rfl
theorem spec_l3Copy_c2 (w : World) (z0 : List Value) (x0 : DRow) (r_0 : tyRow.rd w w.heap.size z0 x0) (s_0 : smRow 68719476736 x0) :
  Calls Try.prog 31 #[.agg z0.toArray] w fun e w' => ∃ v : List Value, e = .returned (.agg v.toArray) ∧ Mem w.heap.size w [iOwn tyRow v x0] w' := by
 have h := spec_l3Copy_c w z0 x0 r_0 s_0
 rw [spec_l3Copy_eq] at h
 exact h

def spec_AnnotateRows_b1 (x0 : DIndex) (x1 : (List DRow)) (k26 : Nat) (d27 : (List DAnnotated)) : (List DAnnotated) ⊕ (((List DAnnotated)) ⊕ ((List DAnnotated))) :=
 cond (spec_IsIndex_m x0) (cond (decide (0 < (((spec_MatchSet_m x0 (gt x1 k26)).length : Nat) : Int))) (Sum.inr (Sum.inr (d27 ++ [(⟨(gt x1 k26), (spec_MatchSet_m x0 (gt x1 k26))⟩ : DAnnotated)]))) (Sum.inr (Sum.inr d27))) (Sum.inr (Sum.inl d27))
def spec_AnnotateRows_m (x0 : DIndex) (x1 : (List DRow)) : (List DAnnotated) :=
 Sum.elim id (fun (s : (List DAnnotated)) => s) (rngb (R := (List DAnnotated)) (fun k (s : (List DAnnotated)) => spec_AnnotateRows_b1 x0 x1 k s) (x1.length - 0) 0 [])
theorem cb8 : Cb Try.prog 8 := ⟨f8, _, func8, rfl, by decide⟩
theorem spec_AnnotateRows_c (w : World) (z0 : List Value) (x0 : DIndex) (z1 : Value) (x1 : (List DRow)) (r_0 : tyIndex.rd w w.heap.size z0 x0) (r_1 : rdS tyRow w w.heap.size z1 x1) (s_0 : smIndex 68719476736 x0) (s_1 : (x1.length ≤ 68719476736 ∧ ∀ y ∈ x1, smRow 68719476736 y)) :
  Calls Try.prog 8 #[.agg z0.toArray, z1] w fun e w' => ∃ v : Value, e = .returned (v) ∧ Mem w.heap.size w [iOwn (tSl tyAnnotated 52) [v] (spec_AnnotateRows_m x0 x1)] w' := by
 obtain ⟨v1, v3, rfl, r2, r4⟩ := tyIndex_rd r_0
 obtain ⟨m5, A6, c7, rfl, q8, r9⟩ := rdS_op r2
 obtain ⟨m10, A11, c12, rfl, q13, r14⟩ := rdS_op r4
 obtain ⟨m15, A16, c17, rfl, q18, r19⟩ := rdS_op r_1
 have l20 : x0.Queries.length ≤ 68719476736 := s_0.1.1
 have l21 : x0.Fields.length ≤ 68719476736 := s_0.2.1
 have l22 : x1.length ≤ 68719476736 := s_1.1
 refine ce2 (L := [(0, .agg #[.slice A6 x0.Queries.length c7, .slice A11 x0.Fields.length c12]), (1, .slice A16 x1.length c17)]) (N := 39) func8 ?_
 refine sr ?_
 refine WM_box rfl (Wd_none rfl) (by decide) (fun p23 => ?_)
 refine wa (nt' (sr ?_))
 refine WM_build0 (E := tyAnnotated) underlying31 type52 (Wd_none rfl) (by decide) (fun p24 => ?_)
 refine wa (nt' (CM_seq (sr (wa (nt' ?_)))))
 let F1 := fun k (s : (List DAnnotated)) => spec_AnnotateRows_b1 x0 x1 k s
 let R2 := rngb (R := (List DAnnotated)) F1
 let K3 : List Value := [.slice A6 x0.Queries.length c7, .slice A11 x0.Fields.length c12]
 refine CM_cut (σ := ((List DAnnotated)) × (Option Addr × Nat)) (fun s => [(5, .slice s.2.1 s.1.length s.2.2)]) (fun s => [iOwn (tSl tyAnnotated 52) [.slice s.2.1 s.1.length s.2.2] s.1, iBox p23 27 K3]) (fun s => R2 (x1.length - 0) 0 [] = Sum.inr s.1) ?_ ?_
 ·
  refine CM_block ?_
  refine CM_loop (σ := Nat × ((List DAnnotated)) × (Option Addr × Nat)) (fun s => [(1, .slice A16 x1.length c17), (2, .pointer (some (⟨p23, 0, none⟩ : Addr))), (5, .slice s.2.2.1 s.2.1.length s.2.2.2), (6, .int .i64 ((s.1 : Nat) : Int))]) (fun s => [iOwn (tSl tyAnnotated 52) [.slice s.2.2.1 s.2.1.length s.2.2.2] s.2.1, iBox p23 27 K3]) (fun s => s.1 ≤ x1.length ∧ R2 (x1.length - s.1) s.1 s.2.1 = R2 (x1.length - 0) 0 [] ∧ s.2.1.length ≤ 0 + s.1) (fun s => x1.length - s.1) (0, [], ((some ⟨p24, 0, none⟩), 0)) sl4 (fun W hm => hm) ⟨(by omega), rfl, Nat.le_refl _⟩ ?_
  rintro ⟨k26, d27, ⟨A28, c29⟩⟩ H32
  obtain ⟨hk30, hF31, hi33⟩ : k26 ≤ x1.length ∧ R2 (x1.length - k26) k26 d27 = R2 (x1.length - 0) 0 [] ∧ d27.length ≤ 0 + k26 := H32
  let I6 : It := iOwn (tSl tyAnnotated 52) [.slice A28 d27.length c29] d27
  show CM Try.prog 39 _ _ _ _ [(1, .slice A16 x1.length c17), (2, .pointer (some (⟨p23, 0, none⟩ : Addr))), (5, .slice A28 d27.length c29), (6, .int .i64 ((k26 : Nat) : Int))] [I6, iBox p23 27 K3]
  refine CM_seq (sr (wm (wm ?_)))
  refine wv (vlen underlying28) ?_
  refine wv vlss ?_
  refine wm ?_
  by_cases hl34 : k26 < x1.length
  ·have g35 := dlT hl34
   refine wg (fun W hm => rv_loadN (cs := K3) underlying27 type27 rfl rfl (hm.boxCells (n := 1) rfl)) g35 ?_
   refine WM_callV (cl_fn cb9 rfl) (fun W hm => spec_IsIndex_c W _ x0 (tyIndex_mk (x := x0) (hm.rdS0 r9) (hm.rdS0 r14)) s_0) (Wd_some rfl rfl rfl (bw g35 rfl)) (by decide) ?_
   refine wv (vpT g35) ?_
   refine nt' ?_
   rcases Bool.eq_false_or_eq_true (spec_IsIndex_m x0) with g37 | g37
   ·
    refine CM_condT rfl g37 ?_
    refine CM_skip (QM_then (CM_seq (CM_block (CM_seq ?_))))
    refine rb 7 (s := [I6, iBox p23 27 K3]) (fun W hm => hm) ?_
    refine qt 7 0 1 rfl (fun W hm => rv_loadN (cs := K3) underlying27 type27 rfl rfl (hm.boxCells (n := 1) rfl)) ?_
    refine qt 7 1 3 rfl vmv ?_
    refine qt 7 2 7 rfl vmv ?_
    obtain ⟨a38, rfl, hb39, he40⟩ := q18 (by omega)
    refine qt 7 3 15 rfl (vix 2 k26 underlying28 type50) ?_
    obtain ⟨_, e44, hc41⟩ := he40 k26 _ (gt_some (show k26 < x1.length from by omega))
    obtain ⟨v42, rfl, r43⟩ := tyRow_rd e44
    have l45 : ((gt x1 k26).Values).length ≤ 68719476736 := (s_1.2 _ (gt_mem (show k26 < x1.length from by omega)))
    obtain ⟨m46, A47, c48, rfl, q49, r50⟩ := rdS_op r43
    let K4 : List Value := [.int .i64 ((gt x1 k26).Id), .slice A47 ((gt x1 k26).Values).length c48]
    refine qt 7 4 31 rfl (fun W hm => rv_loadN (cs := K4) underlying50 type50 rfl rfl (hm.elCells (show (a38.add (k26 * 2)).block < w.heap.size from by rw [add_block]; exact hb39.1) hc41)) ?_
    refine qo 7 5 63 rfl ?_
    refine wcl (tSl tInt 3) (spec_MatchSet_m x0 (gt x1 k26)) (cl_fn cb30 rfl) (fun W hm => spec_MatchSet_c W _ x0 _ (gt x1 k26) (tyIndex_mk (x := x0) (hm.rdS0 r9) (hm.rdS0 r14)) (tyRow_mk (x := (gt x1 k26)) (hm.rdS0 r50)) s_0 (s_1.2 _ (gt_mem (show k26 < x1.length from by omega)))) (fun z51 => ?_)
    refine WM_form (n := 0) rfl ?_
    rintro A52 c53 rfl m54
    refine qn (pk [1, 2]) ?_
    refine qt 7 6 127 rfl (fun W hm => rv_assign rfl) ?_
    refine QB_done (by kernel_rfl) ?_
    refine QM_then (sr (wm ?_))
    refine wv (vlen underlying37) ?_
    refine wv (fun W hm => rv_gtr rfl rfl) ?_
    refine nt' ?_
    by_cases h56 : 0 < (((spec_MatchSet_m x0 (gt x1 k26)).length : Nat) : Int)
    ·have g57 := decide_eq_true h56
     refine CM_condT rfl g57 ?_
     refine CM_region (wm (wm (wm ?_)))
     refine wv (vix 2 k26 underlying28 type50) ?_
     refine wv (fun W hm => rv_loadN (cs := K4) underlying50 type50 rfl rfl (hm.elCells (show (a38.add (k26 * 2)).block < w.heap.size from by rw [add_block]; exact hb39.1) hc41)) ?_
     refine wcs tyRow (gt x1 k26) (cl_fn cb31 rfl) (fun W hm => spec_l3Copy_c2 W _ (gt x1 k26) (tyRow_mk (x := (gt x1 k26)) (hm.rdS0 r50)) (s_1.2 _ (gt_mem (show k26 < x1.length from by omega)))) (fun z58 => ?_)
     refine tyRow_sp ?_
     rintro v59 rfl
     refine WM_form (n := 0) rfl ?_
     rintro A60 c61 rfl m62
     refine wm ?_
     let K5 : List Value := [.int .i64 ((gt x1 k26).Id), .slice A60 ((gt x1 k26).Values).length c61, .slice A52 (spec_MatchSet_m x0 (gt x1 k26)).length c53]
     refine wv (fun W hm => rv_build (cs := K5) rfl (by kernel_rfl)) ?_
     refine WM_build (cs := K5) underlying31 type52 rfl (by decide) (by decide) rfl (by kernel_rfl) (Wd_none rfl) (by decide) (fun p64 => ?_)
     refine ap1 tyAnnotated 52 (.slice A28 d27.length c29) d27 (⟨(gt x1 k26), (spec_MatchSet_m x0 (gt x1 k26))⟩ : DAnnotated) [iOwn (tSl tInt 3) [.slice A60 ((gt x1 k26).Values).length c61] ((gt x1 k26).Values), iOwn (tSl tInt 3) [.slice A52 (spec_MatchSet_m x0 (gt x1 k26)).length c53] (spec_MatchSet_m x0 (gt x1 k26))] [iBox p23 27 K3] K5 (pk [0, 3, 1, 2, 4]) (fun _ _ hs => Els.single (tyAnnotated_join (x := (⟨(gt x1 k26), (spec_MatchSet_m x0 (gt x1 k26))⟩ : DAnnotated)) hs)) underlying31 type52 (show (d27.length + 1) * 56 ≤ 140737488355328 from by omega) (fun v65 => ?_)
     refine WM_form (n := 0) rfl ?_
     rintro A66 c67 rfl m68
     refine wa (WM_nil (QM_block_normal (QM_then (CM_region (wm ?_)))))
     refine wv (vadN k26 1 (by omega)) ?_
     refine wa (WM_nil ?_)
     have hn70 := rngb_next (R := (List DAnnotated)) (body := F1) (k := k26) (s := d27) (s' := (d27 ++ [(⟨(gt x1 k26), (spec_MatchSet_m x0 (gt x1 k26))⟩ : DAnnotated)])) (show k26 < x1.length from by omega) (cond_t g37 (cond_t g57 (rfl))) hF31
     exact QM_round (k26 + 1, (d27 ++ [(⟨(gt x1 k26), (spec_MatchSet_m x0 (gt x1 k26))⟩ : DAnnotated)]), (A66, c67)) sl4 (fun W hm => hm) ⟨(by omega), hn70, (show (d27 ++ [(⟨(gt x1 k26), (spec_MatchSet_m x0 (gt x1 k26))⟩ : DAnnotated)]).length ≤ 0 + (k26 + 1) from by first | omega | (simp only [List.length_append, List.length_cons, List.length_nil] at *; omega))⟩ (rl (by omega))
    ·have g57 := decide_eq_false h56
     refine CM_condF rfl g57 ?_
     refine CM_skip (QM_block_normal (QM_then (CM_region (wm ?_))))
     refine wv (vadN k26 1 (by omega)) ?_
     refine wa (WM_nil ?_)
     have hn71 := rngb_next (R := (List DAnnotated)) (body := F1) (k := k26) (s := d27) (s' := d27) (show k26 < x1.length from by omega) (cond_t g37 (cond_f g57 (rfl))) hF31
     exact QM_round (k26 + 1, d27, (A28, c29)) sl4 (pk [1, 2]) ⟨(by omega), hn71, (show d27.length ≤ 0 + (k26 + 1) from by first | omega | (simp only [List.length_append, List.length_cons, List.length_nil] at *; omega))⟩ (rl (by omega))
   ·
    refine CM_condF rfl g37 ?_
    refine CM_exit (QM_then_exit (QM_then_exit (QM_block_hit ?_)))
    have hE72 := rngb_brk (R := (List DAnnotated)) (body := F1) (k := k26) (s := d27) (s' := d27) (show k26 < x1.length from by omega) (cond_f g37 (rfl)) hF31
    exact QM_cut_normal (d27, (A28, c29)) (subL_cons rfl subL_nil) (fun W hm => hm) hE72
  ·have g35 := dlF hl34
   refine ws g35 ?_
   refine ws g35 ?_
   refine wv (vpF g35) ?_
   refine nt' ?_
   refine CM_condF rfl rfl ?_
   refine CM_exit (QM_then_exit (QM_then_exit (QM_block_hit ?_)))
   have hE73 : R2 (x1.length - 0) 0 [] = Sum.inr d27 := rngb_end hl34 hF31
   exact QM_cut_normal (d27, (A28, c29)) (subL_cons rfl subL_nil) (fun W hm => hm) hE73
 ·
  rintro ⟨d27, ⟨A28, c29⟩⟩ H75
  have hE74 : R2 (x1.length - 0) 0 [] = Sum.inr d27 := H75
  show QM 39 _ _ _ .normal [(5, .slice A28 d27.length c29)] [iOwn (tSl tyAnnotated 52) [.slice A28 d27.length c29] d27, iBox p23 27 K3]
  refine QM_then (sr (wm (wa (nt' (CM_ret ?_)))))
  have he76 := (show spec_AnnotateRows_m x0 x1 = d27 from fin_inr hE74 (rfl))
  refine QM_r1 rfl (RR_tmp rfl) (fun W hm => ⟨.slice A28 d27.length c29, ?_, ?_⟩)
  ·first | rw [he76] | rfl
  ·rw [he76]; exact (hm.pick [0] (by decide))

def impl_copyInts_m (x0 : (List Int)) : (List Int) :=
 x0
theorem cb57 : Cb Try.prog 57 := ⟨f57, _, func57, rfl, by decide⟩
theorem impl_copyInts_c (w : World) (z0 : Value) (x0 : (List Int)) (r_0 : rdS tInt w w.heap.size z0 x0) (s_0 : x0.length ≤ 68719476736) :
  Calls Try.prog 57 #[z0] w fun e w' => ∃ v : Value, e = .returned (v) ∧ Mem w.heap.size w [iOwn (tSl tInt 3) [v] (impl_copyInts_m x0)] w' := by
 obtain ⟨m1, A2, c3, rfl, q4, r5⟩ := rdS_op r_0
 have l6 : x0.length ≤ 68719476736 := s_0
 refine ce1 (L := [(0, .slice A2 x0.length c3)]) (N := 6) func57 ?_
 refine sr (wa (nt' (sr ?_)))
 refine WM_build0 (E := tInt) underlying37 type3 (Wd_none rfl) (by decide) (fun p7 => ?_)
 refine wm ?_
 refine apR tInt tInt 3 (.slice (some ⟨p7, 0, none⟩) 0 0) [] x0 [] (fun W hm => hm) (fun W hm => src_flat flat_int (hm.rdS0 r5)) underlying37 type3 (show (0 + x0.length) * 8 ≤ 140737488355328 from by omega) (fun v9 => ?_)
 refine WM_form (n := 0) rfl ?_
 rintro A10 c11 rfl m12
 refine wa (nt' (CM_ret ?_))
 have he14 := (show impl_copyInts_m x0 = x0 from rfl)
 refine QM_r1 rfl (RR_tmp rfl) (fun W hm => ⟨.slice A10 x0.length c11, ?_, ?_⟩)
 ·first | rw [he14] | rfl
 ·rw [he14]; exact hm
theorem impl_copyInts_eq (x0 : (List Int)) : impl_copyInts_m x0 = x0 := by
 rfl
theorem impl_copyInts_c2 (w : World) (z0 : Value) (x0 : (List Int)) (r_0 : rdS tInt w w.heap.size z0 x0) (s_0 : x0.length ≤ 68719476736) :
  Calls Try.prog 57 #[z0] w fun e w' => ∃ v : Value, e = .returned (v) ∧ Mem w.heap.size w [iOwn (tSl tInt 3) [v] x0] w' := by
 have h := impl_copyInts_c w z0 x0 r_0 s_0
 rw [impl_copyInts_eq] at h
 exact h

def impl_FindSpan_b1 (x0 : (List DSpan)) (x1 : Int) (k7 : Nat) : (List Int) ⊕ (Unit) :=
 cond (impl_within_m x1 ((gt x0 k7).From) ((gt x0 k7).To)) (Sum.inl ((gt x0 k7).Set)) (Sum.inr ())
def impl_FindSpan_m (x0 : (List DSpan)) (x1 : Int) : (List Int) :=
 Sum.elim id (fun (s : Unit) => []) (rng (R := (List Int)) (fun k (_ : Unit) => impl_FindSpan_b1 x0 x1 k) (x0.length - 0) 0 ())
theorem cb89 : Cb Try.prog 89 := ⟨f89, _, func89, rfl, by decide⟩
theorem impl_FindSpan_c (w : World) (z0 : Value) (x0 : (List DSpan)) (x1 : Int) (r_0 : rdS tySpan w w.heap.size z0 x0) (s_0 : (x0.length ≤ 68719476736 ∧ ∀ y ∈ x0, smSpan 68719476736 y)) :
  Calls Try.prog 89 #[z0, .int .i64 x1] w fun e w' => ∃ v : Value, e = .returned (v) ∧ Mem w.heap.size w [iOwn (tSl tInt 3) [v] (impl_FindSpan_m x0 x1)] w' := by
 obtain ⟨m1, A2, c3, rfl, q4, r5⟩ := rdS_op r_0
 have l6 : x0.length ≤ 68719476736 := s_0.1
 refine ce2 (L := [(0, .slice A2 x0.length c3), (1, .int .i64 x1)]) (N := 23) func89 ?_
 refine sr (wa (nt' (CM_seq (sr (wm ?_)))))
 refine wv (vlen underlying64) ?_
 refine wm (nt' (CM_block ?_))
 let F1 := fun k (_ : Unit) => impl_FindSpan_b1 x0 x1 k
 let R2 := rng (R := (List Int)) F1
 refine CM_loop (σ := Nat × (Unit) × (Unit)) (fun s => [(1, .int .i64 x1), (7, .slice A2 x0.length c3), (8, .int .i64 ((x0.length : Nat) : Int)), (9, .int .i64 ((s.1 : Nat) : Int))]) (fun s => []) (fun s => s.1 ≤ x0.length ∧ R2 (x0.length - s.1) s.1 s.2.1 = R2 (x0.length - 0) 0 ()) (fun s => x0.length - s.1) (0, (), ()) sl4 (fun W hm => hm) ⟨(by omega), rfl⟩ ?_
 rintro ⟨k7, ⟨⟩, ⟨⟩⟩ H10
 obtain ⟨hk8, hF9⟩ : k7 ≤ x0.length ∧ R2 (x0.length - k7) k7 () = R2 (x0.length - 0) 0 () := H10
 show CM Try.prog 23 _ _ _ _ [(1, .int .i64 x1), (7, .slice A2 x0.length c3), (8, .int .i64 ((x0.length : Nat) : Int)), (9, .int .i64 ((k7 : Nat) : Int))] []
 refine sr ?_
 refine wv vlss ?_
 refine nt' (CM_seq ?_)
 by_cases hl11 : k7 < x0.length
 ·have g12 := dlT hl11
  refine CM_condT rfl g12 ?_
  refine CM_skip (QM_then (CM_seq (CM_block (sr ?_))))
  obtain ⟨a13, rfl, hb14, he15⟩ := q4 (by omega)
  refine wv (vix 3 k7 underlying64 type86) ?_
  obtain ⟨_, e19, hc16⟩ := he15 k7 _ (gt_some (show k7 < x0.length from by omega))
  obtain ⟨v17, rfl, r18⟩ := tySpan_rd e19
  have l20 : ((gt x0 k7).Set).length ≤ 68719476736 := (s_0.2 _ (gt_mem (show k7 < x0.length from by omega)))
  obtain ⟨m21, A22, c23, rfl, q24, r25⟩ := rdS_op r18
  let K3 : List Value := [.int .i64 ((gt x0 k7).From), .int .i64 ((gt x0 k7).To), .slice A22 ((gt x0 k7).Set).length c23]
  refine wv (fun W hm => rv_loadN (cs := K3) underlying86 type86 rfl rfl (hm.elCells (show (a13.add (k7 * 3)).block < w.heap.size from by rw [add_block]; exact hb14.1) hc16)) ?_
  refine WM_alloc type86 rfl (Wd_none rfl) (by decide) (fun p26 => ?_)
  refine sb 0 K3 [] (fun W hm => hm) type86 ?_
  refine nt' (sr (wm ?_))
  refine wv (vf underlying86 rfl type3) ?_
  refine wv (vl 0 0 underlying3) ?_
  refine wv (vf underlying86 rfl type3) ?_
  refine wv (vl 0 1 underlying3) ?_
  refine wcv (cl_fn cb86 rfl) (fun W hm => impl_within_c W x1 ((gt x0 k7).From) ((gt x0 k7).To)) ?_
  refine nt' ?_
  rcases Bool.eq_false_or_eq_true (impl_within_m x1 ((gt x0 k7).From) ((gt x0 k7).To)) with g28 | g28
  ·
   have hw := impl_within_fact g28
   refine CM_condT rfl g28 ?_
   refine sr ?_
   refine wv (vf underlying86 rfl type37) ?_
   refine wv (vl 0 2 underlying37) ?_
   refine wcl (tSl tInt 3) ((gt x0 k7).Set) (cl_fn cb57 rfl) (fun W hm => impl_copyInts_c2 W _ ((gt x0 k7).Set) (hm.rdS0 r25) (s_0.2 _ (gt_mem (show k7 < x0.length from by omega)))) (fun z29 => ?_)
   refine WM_form (n := 0) rfl ?_
   rintro A30 c31 rfl m32
   refine wa (nt' (CM_ret (QM_block_ret (QM_then_ret (QM_then_ret (QM_block_ret (QM_then_ret ?_)))))))
   have he34 := (show impl_FindSpan_m x0 x1 = ((gt x0 k7).Set) from fin_inl (rng_ret (body := F1) (k := k7) (s := ()) (show k7 < x0.length from by omega) (cond_t g28 (rfl)) hF9) rfl)
   refine QM_r1 rfl (RR_tmp rfl) (fun W hm => ⟨.slice A30 ((gt x0 k7).Set).length c31, ?_, ?_⟩)
   ·first | rw [he34] | rfl
   ·rw [he34]; exact (hm.pick [0] (by decide))
  ·
   refine CM_condF rfl g28 ?_
   refine CM_skip (QM_block_normal (QM_then (CM_region ?_)))
   refine wv (vadN k7 1 (by omega)) ?_
   refine wm (WM_nil ?_)
   have hn35 := rng_next (R := (List Int)) (body := F1) (k := k7) (s := ()) (s' := ()) (show k7 < x0.length from by omega) (cond_f g28 (rfl)) hF9
   exact QM_round (k7 + 1, (), ()) sl4 (pk []) ⟨(by omega), hn35⟩ (rl (by omega))
 ·have g12 := dlF hl11
  refine CM_condF rfl g12 ?_
  refine CM_exit (QM_then_exit (QM_then_exit ?_))
  have hE36 : R2 (x0.length - 0) 0 () = Sum.inr () := rng_end hl11 hF9
  refine QM_block_hit (QM_then (sr (wa (nt' (CM_ret ?_)))))
  refine QM_items (fun W hm => hm.addNil (E := tInt) (e := 3)) ?_
  have he38 := (show impl_FindSpan_m x0 x1 = [] from fin_inr hE36 (rfl))
  refine QM_r1 rfl (RR_tmp rfl) (fun W hm => ⟨.slice none 0 0, ?_, ?_⟩)
  ·first | rw [he38] | rfl
  ·rw [he38]; exact hm

end Go.Proofs.Ytpijbmiahfnliaa
