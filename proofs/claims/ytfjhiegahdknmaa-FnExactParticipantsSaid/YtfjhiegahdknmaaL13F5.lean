/-
  Contracts of functions, printed by a program of ours.
-/
import Derived.Test.YtfjhiegahdknmaaL13F4
namespace Go.Proofs.Ytfjhiegahdknmaa
open Go.RowKit
def laws_markRowS_b1 (k5 : Nat) (s6 : Int) (d7 : (List DRow)) : (Int × (List DRow)) ⊕ (Int × (List DRow)) :=
  Sum.inr ((laws_markIntS_m ((gt d7 k5).Values) (IntKind.i64.wrap (s6 + 1))).1, (d7.set k5 (⟨s6, (laws_markIntS_m ((gt d7 k5).Values) (IntKind.i64.wrap (s6 + 1))).2⟩ : DRow)))
def laws_markRowS_m (x0 : (List DRow)) (x1 : Int) : (Int × (List DRow)) :=
  Sum.elim id (fun (s : Int × (List DRow)) => (s.1, s.2)) (rng (R := (Int × (List DRow))) (fun k (s : Int × (List DRow)) => laws_markRowS_b1 k s.1 s.2) (x0.length - 0) 0 (x1, x0))
set_option maxRecDepth 100000 in
theorem cb183 : Cb Try.prog 183 := ⟨Try.f183, _, Try.func183, rfl, by decide⟩
set_option maxRecDepth 10000 in
set_option maxHeartbeats 4000000 in
theorem laws_markRowS_c (B : Nat) (w0 : World) (is : List It) (w : World) (z0 : Value) (x0 : (List DRow)) (x1 : Int) (hm : Mem B w0 (iOwn (tSl tyRow 29) [z0] x0 :: is) w) :
    Calls Try.prog 183 #[z0, .int .i64 x1] w fun e w' => e = .returned (.int .i64 (laws_markRowS_m x0 x1).1) ∧ Mem B w0 (iOwn (tSl tyRow 29) [z0] (laws_markRowS_m x0 x1).2 :: is) w' := by
  refine call_enterW (L := [(0, z0), (1, .int .i64 x1)]) (N := 27) Try.func183 rfl rfl (Nat.le_of_ble_eq_true rfl) (argsL_cons rfl (argsL_cons rfl argsL_nil)) hm ?_
  refine CM_form (n := 0) rfl ?_
  rintro A1 c2 rfl m3
  refine sr ?_
  refine wa ?_
  refine nt' ?_
  refine CM_seq ?_
  refine sr ?_
  refine wa ?_
  refine nt' ?_
  refine CM_block ?_
  refine CM_loop (σ := Nat × (Int × (List DRow)) × (Unit)) (fun s => [(0, .slice A1 x0.length c2), (1, .int .i64 s.2.1.1), (5, .int .i64 ((s.1 : Nat) : Int))]) (fun s => (iOwn (tSl tyRow 29) [.slice A1 x0.length c2] s.2.1.2 :: is)) (fun s => s.1 ≤ x0.length ∧ rng (R := (Int × (List DRow))) (fun k (s : Int × (List DRow)) => laws_markRowS_b1 k s.1 s.2) (x0.length - s.1) s.1 s.2.1 = rng (R := (Int × (List DRow))) (fun k (s : Int × (List DRow)) => laws_markRowS_b1 k s.1 s.2) (x0.length - 0) 0 (x1, x0)) (fun s => x0.length - s.1) (0, (x1, x0), ()) (subL_cons rfl (subL_cons rfl (subL_cons rfl subL_nil))) (fun W hm => hm) ⟨(by omega), rfl⟩ ?_
  rintro ⟨k5, ⟨s6, d7⟩, ⟨⟩⟩ H10
  obtain ⟨hk8, hF9⟩ : k5 ≤ x0.length ∧ rng (R := (Int × (List DRow))) (fun k (s : Int × (List DRow)) => laws_markRowS_b1 k s.1 s.2) (x0.length - k5) k5 (s6, d7) = rng (R := (Int × (List DRow))) (fun k (s : Int × (List DRow)) => laws_markRowS_b1 k s.1 s.2) (x0.length - 0) 0 (x1, x0) := H10
  show CM Try.prog 27 _ _ _ _ [(0, .slice A1 x0.length c2), (1, .int .i64 s6), (5, .int .i64 ((k5 : Nat) : Int))] (iOwn (tSl tyRow 29) [.slice A1 x0.length c2] d7 :: is)
  refine CM_seq ?_
  refine sr ?_
  refine wm ?_
  refine wm ?_
  refine wv (fun W hm => rv_len Try.underlying39 rfl) ?_
  refine wv (fun W hm => rv_lss rfl rfl) ?_
  refine nt' ?_
  by_cases hl11 : k5 < x0.length
  · have g12 : (decide (((k5 : Nat) : Int) < ((x0.length : Nat) : Int))) = true := decide_eq_true (by omega)
    refine CM_condT rfl g12 ?_
    refine CM_skip ?_
    refine QM_then ?_
    refine CM_seq ?_
    refine CM_block ?_
    refine sr ?_
    refine wm ?_
    refine wm ?_
    refine wm ?_
    refine WM_formO (n := 0) rfl (by omega) ?_
    rintro g13 rfl
    refine wv (fun W hm => rv_index (sz := 2) (k := k5) Try.underlying39 Try.type29 rfl rfl rfl (by omega)) ?_
    refine wv (fun W hm => rv_field Try.underlying29 rfl Try.type3 (by decide) rfl rfl) ?_
    refine WM_focus (E := tyRow) (e := 29) (A := (some ⟨g13, 0, none⟩)) (n := x0.length) (c := c2) (xs := d7) (k := k5) (js := (is)) (by omega) (fun W hm => (hm.front (n := 0) rfl)) (fun ck14 => ?_)
    refine WM_split (γ := Value) (js := fun g => [iOwn (tSl tInt 3) [g] ((gt d7 k5).Values)]) (C := fun g => ck14 = [.int .i64 ((gt d7 k5).Id), g]) (fun _ _ h => tyRow_split h) ?_
    rintro v15 rfl
    refine WM_form (n := 0) rfl ?_
    rintro A16 c17 rfl m18
    refine WM_storeFoc (E := tyRow) (e := 29) (g := g13) (n := x0.length) (c := c2) (k := k5) (s := 2) (o := 0) (xs := d7) (ck := [.int .i64 ((gt d7 k5).Id), .slice A16 ((gt d7 k5).Values).length c17]) (ck' := [.int .i64 s6, .slice A16 ((gt d7 k5).Values).length c17]) (js := (iOwn (tSl tInt 3) [.slice A16 ((gt d7 k5).Values).length c17] ((gt d7 k5).Values) :: is)) (fun W hm => (hm.front (n := 1) rfl)) rfl rfl Try.type3 rfl (Nat.le_of_ble_eq_true rfl) rfl rfl rfl rfl (Wd_none rfl) ?_
    refine nt' ?_
    refine sr ?_
    refine wm ?_
    refine wv (fun W hm => rv_add rfl rfl) ?_
    refine wa ?_
    refine nt' ?_
    refine CM_region ?_
    refine wm ?_
    refine wm ?_
    refine wv (fun W hm => rv_index (sz := 2) (k := k5) Try.underlying39 Try.type29 rfl rfl rfl (by omega)) ?_
    refine wv (fun W hm => rv_field Try.underlying29 rfl Try.type27 (by decide) rfl rfl) ?_
    refine wv (fun W hm => rv_load Try.underlying27 rfl rfl (hm.focCells (i := 0) rfl rfl 1 _ rfl)) ?_
    refine wm ?_
    refine WM_callW (χ := Unit) (val := fun _ => .int .i64 (laws_markIntS_m ((gt d7 k5).Values) (IntKind.i64.wrap (s6 + 1))).1) (js := fun _ => (iOwn (tSl tInt 3) [.slice A16 ((gt d7 k5).Values).length c17] (laws_markIntS_m ((gt d7 k5).Values) (IntKind.i64.wrap (s6 + 1))).2 :: (iFoc tyRow 29 (some ⟨g13, 0, none⟩) x0.length c2 d7 k5 [.int .i64 s6, .slice A16 ((gt d7 k5).Values).length c17] :: is))) (cl_fn cb68 rfl) (fun W hm => (laws_markIntS_c B w0 (iFoc tyRow 29 (some ⟨g13, 0, none⟩) x0.length c2 d7 k5 [.int .i64 s6, .slice A16 ((gt d7 k5).Values).length c17] :: is) W (.slice A16 ((gt d7 k5).Values).length c17) ((gt d7 k5).Values) (IntKind.i64.wrap (s6 + 1)) (hm.front (n := 1) rfl)).mono (fun _ _ h => ⟨(), h.1, h.2⟩)) (Wd_none rfl) (by decide) (fun _ => ?_)
    refine wa ?_
    refine WM_nil ?_
    refine QM_block_normal ?_
    refine QM_then ?_
    refine CM_region ?_
    refine wm ?_
    refine wv (fun W hm => rv_addN (p := k5) (q := 1) rfl rfl (by omega)) ?_
    refine wa ?_
    refine WM_nil ?_
    refine QM_items (fun W hm => Mem.unfocus (Mem.join (is := [iOwn (tSl tInt 3) [.slice A16 ((gt d7 k5).Values).length c17] ((laws_markIntS_m ((gt d7 k5).Values) (IntKind.i64.wrap (s6 + 1))).2)]) (js := (iFoc tyRow 29 (some ⟨g13, 0, none⟩) x0.length c2 d7 k5 [.int .i64 s6, .slice A16 ((gt d7 k5).Values).length c17] :: (is))) (fun _ _ hs => tyRow_join (x := (⟨s6, (laws_markIntS_m ((gt d7 k5).Values) (IntKind.i64.wrap (s6 + 1))).2⟩ : DRow)) hs) ((hm.front (n := 1) rfl).front (n := 1) rfl))) ?_
    have hn20 := rng_next (R := (Int × (List DRow))) (body := (fun k (s : Int × (List DRow)) => laws_markRowS_b1 k s.1 s.2)) (k := k5) (s := (s6, d7)) (s' := ((laws_markIntS_m ((gt d7 k5).Values) (IntKind.i64.wrap (s6 + 1))).1, (d7.set k5 (⟨s6, (laws_markIntS_m ((gt d7 k5).Values) (IntKind.i64.wrap (s6 + 1))).2⟩ : DRow)))) (show k5 < x0.length from by omega) (show laws_markRowS_b1 k5 s6 d7 = Sum.inr ((laws_markIntS_m ((gt d7 k5).Values) (IntKind.i64.wrap (s6 + 1))).1, (d7.set k5 (⟨s6, (laws_markIntS_m ((gt d7 k5).Values) (IntKind.i64.wrap (s6 + 1))).2⟩ : DRow))) from by unfold laws_markRowS_b1; exact rfl) hF9
    exact QM_round (k5 + 1, ((laws_markIntS_m ((gt d7 k5).Values) (IntKind.i64.wrap (s6 + 1))).1, (d7.set k5 (⟨s6, (laws_markIntS_m ((gt d7 k5).Values) (IntKind.i64.wrap (s6 + 1))).2⟩ : DRow))), ()) (subL_cons rfl (subL_cons rfl (subL_cons rfl subL_nil))) (fun W hm => hm) ⟨(by omega), hn20⟩ (show x0.length - (k5 + 1) < x0.length - k5 from by omega)
  · have g12 : (decide (((k5 : Nat) : Int) < ((x0.length : Nat) : Int))) = false := decide_eq_false (by omega)
    refine CM_condF rfl g12 ?_
    refine CM_exit ?_
    refine QM_then_exit ?_
    refine QM_then_exit ?_
    have hE21 : rng (R := (Int × (List DRow))) (fun k (s : Int × (List DRow)) => laws_markRowS_b1 k s.1 s.2) (x0.length - 0) 0 (x1, x0) = Sum.inr (s6, d7) := rng_end hl11 hF9
    refine QM_block_hit ?_
    refine QM_then ?_
    refine sr ?_
    refine wm ?_
    refine wa ?_
    refine nt' ?_
    refine CM_ret ?_
    refine QM_rW rfl rfl (fun W hm => ⟨?_, ?_⟩)
    · rw [(show laws_markRowS_m x0 x1 = (s6, d7) from by unfold laws_markRowS_m; exact fin_inr hE21 (rfl))]
    · rw [(show laws_markRowS_m x0 x1 = (s6, d7) from by unfold laws_markRowS_m; exact fin_inr hE21 (rfl))]; exact hm

def laws_markActiveS_b1 (k5 : Nat) (s6 : Int) (d7 : (List DActive)) : (Int × (List DActive)) ⊕ (Int × (List DActive)) :=
  Sum.inr ((laws_markRowS_m ((gt d7 k5).Rows) (IntKind.i64.wrap ((IntKind.i64.wrap ((IntKind.i64.wrap (((laws_markIntS_m ((gt d7 k5).Todo) (IntKind.i64.wrap (((laws_markIntS_m ((gt d7 k5).Query.Out) ((laws_markCondS_m ((gt d7 k5).Query.Conds) (IntKind.i64.wrap ((IntKind.i64.wrap (s6 + 1)) + 1))).1)).1) + 1))).1) + 1)) + 1)) + 1))).1, (d7.set k5 (⟨(⟨s6, (IntKind.i64.wrap (s6 + 1)), (laws_markCondS_m ((gt d7 k5).Query.Conds) (IntKind.i64.wrap ((IntKind.i64.wrap (s6 + 1)) + 1))).2, (laws_markIntS_m ((gt d7 k5).Query.Out) ((laws_markCondS_m ((gt d7 k5).Query.Conds) (IntKind.i64.wrap ((IntKind.i64.wrap (s6 + 1)) + 1))).1)).2⟩ : DQuery), (laws_markIntS_m ((gt d7 k5).Query.Out) ((laws_markCondS_m ((gt d7 k5).Query.Conds) (IntKind.i64.wrap ((IntKind.i64.wrap (s6 + 1)) + 1))).1)).1, (laws_markIntS_m ((gt d7 k5).Todo) (IntKind.i64.wrap (((laws_markIntS_m ((gt d7 k5).Query.Out) ((laws_markCondS_m ((gt d7 k5).Query.Conds) (IntKind.i64.wrap ((IntKind.i64.wrap (s6 + 1)) + 1))).1)).1) + 1))).2, (laws_markIntS_m ((gt d7 k5).Todo) (IntKind.i64.wrap (((laws_markIntS_m ((gt d7 k5).Query.Out) ((laws_markCondS_m ((gt d7 k5).Query.Conds) (IntKind.i64.wrap ((IntKind.i64.wrap (s6 + 1)) + 1))).1)).1) + 1))).1, (IntKind.i64.wrap (((laws_markIntS_m ((gt d7 k5).Todo) (IntKind.i64.wrap (((laws_markIntS_m ((gt d7 k5).Query.Out) ((laws_markCondS_m ((gt d7 k5).Query.Conds) (IntKind.i64.wrap ((IntKind.i64.wrap (s6 + 1)) + 1))).1)).1) + 1))).1) + 1)), (IntKind.i64.wrap ((IntKind.i64.wrap (((laws_markIntS_m ((gt d7 k5).Todo) (IntKind.i64.wrap (((laws_markIntS_m ((gt d7 k5).Query.Out) ((laws_markCondS_m ((gt d7 k5).Query.Conds) (IntKind.i64.wrap ((IntKind.i64.wrap (s6 + 1)) + 1))).1)).1) + 1))).1) + 1)) + 1)), (laws_markRowS_m ((gt d7 k5).Rows) (IntKind.i64.wrap ((IntKind.i64.wrap ((IntKind.i64.wrap (((laws_markIntS_m ((gt d7 k5).Todo) (IntKind.i64.wrap (((laws_markIntS_m ((gt d7 k5).Query.Out) ((laws_markCondS_m ((gt d7 k5).Query.Conds) (IntKind.i64.wrap ((IntKind.i64.wrap (s6 + 1)) + 1))).1)).1) + 1))).1) + 1)) + 1)) + 1))).2⟩ : DActive)))
def laws_markActiveS_m (x0 : (List DActive)) (x1 : Int) : (Int × (List DActive)) :=
  Sum.elim id (fun (s : Int × (List DActive)) => (s.1, s.2)) (rng (R := (Int × (List DActive))) (fun k (s : Int × (List DActive)) => laws_markActiveS_b1 k s.1 s.2) (x0.length - 0) 0 (x1, x0))
set_option maxRecDepth 100000 in
theorem cb130 : Cb Try.prog 130 := ⟨Try.f130, _, Try.func130, rfl, by decide⟩
set_option maxRecDepth 10000 in
set_option maxHeartbeats 4000000 in
theorem laws_markActiveS_c (B : Nat) (w0 : World) (is : List It) (w : World) (z0 : Value) (x0 : (List DActive)) (x1 : Int) (hm : Mem B w0 (iOwn (tSl tyActive 127) [z0] x0 :: is) w) :
    Calls Try.prog 130 #[z0, .int .i64 x1] w fun e w' => e = .returned (.int .i64 (laws_markActiveS_m x0 x1).1) ∧ Mem B w0 (iOwn (tSl tyActive 127) [z0] (laws_markActiveS_m x0 x1).2 :: is) w' := by
  refine call_enterW (L := [(0, z0), (1, .int .i64 x1)]) (N := 87) Try.func130 rfl rfl (Nat.le_of_ble_eq_true rfl) (argsL_cons rfl (argsL_cons rfl argsL_nil)) hm ?_
  refine CM_form (n := 0) rfl ?_
  rintro A1 c2 rfl m3
  refine sr ?_
  refine wa ?_
  refine nt' ?_
  refine CM_seq ?_
  refine sr ?_
  refine wa ?_
  refine nt' ?_
  refine CM_block ?_
  refine CM_loop (σ := Nat × (Int × (List DActive)) × (Unit)) (fun s => [(0, .slice A1 x0.length c2), (1, .int .i64 s.2.1.1), (5, .int .i64 ((s.1 : Nat) : Int))]) (fun s => (iOwn (tSl tyActive 127) [.slice A1 x0.length c2] s.2.1.2 :: is)) (fun s => s.1 ≤ x0.length ∧ rng (R := (Int × (List DActive))) (fun k (s : Int × (List DActive)) => laws_markActiveS_b1 k s.1 s.2) (x0.length - s.1) s.1 s.2.1 = rng (R := (Int × (List DActive))) (fun k (s : Int × (List DActive)) => laws_markActiveS_b1 k s.1 s.2) (x0.length - 0) 0 (x1, x0)) (fun s => x0.length - s.1) (0, (x1, x0), ()) (subL_cons rfl (subL_cons rfl (subL_cons rfl subL_nil))) (fun W hm => hm) ⟨(by omega), rfl⟩ ?_
  rintro ⟨k5, ⟨s6, d7⟩, ⟨⟩⟩ H10
  obtain ⟨hk8, hF9⟩ : k5 ≤ x0.length ∧ rng (R := (Int × (List DActive))) (fun k (s : Int × (List DActive)) => laws_markActiveS_b1 k s.1 s.2) (x0.length - k5) k5 (s6, d7) = rng (R := (Int × (List DActive))) (fun k (s : Int × (List DActive)) => laws_markActiveS_b1 k s.1 s.2) (x0.length - 0) 0 (x1, x0) := H10
  show CM Try.prog 87 _ _ _ _ [(0, .slice A1 x0.length c2), (1, .int .i64 s6), (5, .int .i64 ((k5 : Nat) : Int))] (iOwn (tSl tyActive 127) [.slice A1 x0.length c2] d7 :: is)
  refine CM_seq ?_
  refine sr ?_
  refine wm ?_
  refine wm ?_
  refine wv (fun W hm => rv_len Try.underlying73 rfl) ?_
  refine wv (fun W hm => rv_lss rfl rfl) ?_
  refine nt' ?_
  by_cases hl11 : k5 < x0.length
  · have g12 : (decide (((k5 : Nat) : Int) < ((x0.length : Nat) : Int))) = true := decide_eq_true (by omega)
    refine CM_condT rfl g12 ?_
    refine CM_skip ?_
    refine QM_then ?_
    refine CM_seq ?_
    refine CM_block ?_
    refine sr ?_
    refine wm ?_
    refine wm ?_
    refine wm ?_
    refine WM_formO (n := 0) rfl (by omega) ?_
    rintro g13 rfl
    refine wv (fun W hm => rv_index (sz := 10) (k := k5) Try.underlying73 Try.type127 rfl rfl rfl (by omega)) ?_
    refine wv (fun W hm => rv_field Try.underlying127 rfl Try.type125 (by decide) rfl rfl) ?_
    refine wv (fun W hm => rv_fieldA (o := 0) Try.underlying125 rfl Try.type3 (by decide) rfl rfl) ?_
    refine WM_focus (E := tyActive) (e := 127) (A := (some ⟨g13, 0, none⟩)) (n := x0.length) (c := c2) (xs := d7) (k := k5) (js := (is)) (by omega) (fun W hm => (hm.front (n := 0) rfl)) (fun ck14 => ?_)
    refine WM_split (γ := Value × Value × Value × Value) (js := fun g => [iOwn (tSl tyCond 183) [g.1] ((gt d7 k5).Query.Conds), iOwn (tSl tInt 3) [g.2.1] ((gt d7 k5).Query.Out), iOwn (tSl tInt 3) [g.2.2.1] ((gt d7 k5).Todo), iOwn (tSl tyRow 29) [g.2.2.2] ((gt d7 k5).Rows)]) (C := fun g => ck14 = [.int .i64 ((gt d7 k5).Query.Id), .int .i64 ((gt d7 k5).Query.Tenant), g.1, g.2.1, .int .i64 ((gt d7 k5).Time), g.2.2.1, .int .i64 ((gt d7 k5).Age), .int .i64 ((gt d7 k5).Sent), .int .i64 ((gt d7 k5).Cap), g.2.2.2]) (fun _ _ h => tyActive_split h) ?_
    rintro ⟨v15, v16, v17, v18⟩ rfl
    refine WM_form (n := 0) rfl ?_
    rintro A19 c20 rfl m21
    refine WM_form (n := 1) rfl ?_
    rintro A23 c24 rfl m25
    refine WM_form (n := 2) rfl ?_
    rintro A27 c28 rfl m29
    refine WM_form (n := 3) rfl ?_
    rintro A31 c32 rfl m33
    refine WM_storeFoc (E := tyActive) (e := 127) (g := g13) (n := x0.length) (c := c2) (k := k5) (s := 10) (o := 0) (xs := d7) (ck := [.int .i64 ((gt d7 k5).Query.Id), .int .i64 ((gt d7 k5).Query.Tenant), .slice A19 ((gt d7 k5).Query.Conds).length c20, .slice A23 ((gt d7 k5).Query.Out).length c24, .int .i64 ((gt d7 k5).Time), .slice A27 ((gt d7 k5).Todo).length c28, .int .i64 ((gt d7 k5).Age), .int .i64 ((gt d7 k5).Sent), .int .i64 ((gt d7 k5).Cap), .slice A31 ((gt d7 k5).Rows).length c32]) (ck' := [.int .i64 s6, .int .i64 ((gt d7 k5).Query.Tenant), .slice A19 ((gt d7 k5).Query.Conds).length c20, .slice A23 ((gt d7 k5).Query.Out).length c24, .int .i64 ((gt d7 k5).Time), .slice A27 ((gt d7 k5).Todo).length c28, .int .i64 ((gt d7 k5).Age), .int .i64 ((gt d7 k5).Sent), .int .i64 ((gt d7 k5).Cap), .slice A31 ((gt d7 k5).Rows).length c32]) (js := (iOwn (tSl tyCond 183) [.slice A19 ((gt d7 k5).Query.Conds).length c20] ((gt d7 k5).Query.Conds) :: iOwn (tSl tInt 3) [.slice A23 ((gt d7 k5).Query.Out).length c24] ((gt d7 k5).Query.Out) :: iOwn (tSl tInt 3) [.slice A27 ((gt d7 k5).Todo).length c28] ((gt d7 k5).Todo) :: iOwn (tSl tyRow 29) [.slice A31 ((gt d7 k5).Rows).length c32] ((gt d7 k5).Rows) :: is)) (fun W hm => (hm.front (n := 4) rfl)) rfl rfl Try.type3 rfl (Nat.le_of_ble_eq_true rfl) rfl rfl rfl rfl (Wd_none rfl) ?_
    refine nt' ?_
    refine sr ?_
    refine wm ?_
    refine wv (fun W hm => rv_add rfl rfl) ?_
    refine wa ?_
    refine nt' ?_
    refine sr ?_
    refine wm ?_
    refine wm ?_
    refine wm ?_
    refine wv (fun W hm => rv_index (sz := 10) (k := k5) Try.underlying73 Try.type127 rfl rfl rfl (by omega)) ?_
    refine wv (fun W hm => rv_field Try.underlying127 rfl Try.type125 (by decide) rfl rfl) ?_
    refine wv (fun W hm => rv_fieldA (o := 1) Try.underlying125 rfl Try.type3 (by decide) rfl rfl) ?_
    refine WM_storeFoc (E := tyActive) (e := 127) (g := g13) (n := x0.length) (c := c2) (k := k5) (s := 10) (o := 1) (xs := d7) (ck := [.int .i64 s6, .int .i64 ((gt d7 k5).Query.Tenant), .slice A19 ((gt d7 k5).Query.Conds).length c20, .slice A23 ((gt d7 k5).Query.Out).length c24, .int .i64 ((gt d7 k5).Time), .slice A27 ((gt d7 k5).Todo).length c28, .int .i64 ((gt d7 k5).Age), .int .i64 ((gt d7 k5).Sent), .int .i64 ((gt d7 k5).Cap), .slice A31 ((gt d7 k5).Rows).length c32]) (ck' := [.int .i64 s6, .int .i64 (IntKind.i64.wrap (s6 + 1)), .slice A19 ((gt d7 k5).Query.Conds).length c20, .slice A23 ((gt d7 k5).Query.Out).length c24, .int .i64 ((gt d7 k5).Time), .slice A27 ((gt d7 k5).Todo).length c28, .int .i64 ((gt d7 k5).Age), .int .i64 ((gt d7 k5).Sent), .int .i64 ((gt d7 k5).Cap), .slice A31 ((gt d7 k5).Rows).length c32]) (js := (iOwn (tSl tyCond 183) [.slice A19 ((gt d7 k5).Query.Conds).length c20] ((gt d7 k5).Query.Conds) :: iOwn (tSl tInt 3) [.slice A23 ((gt d7 k5).Query.Out).length c24] ((gt d7 k5).Query.Out) :: iOwn (tSl tInt 3) [.slice A27 ((gt d7 k5).Todo).length c28] ((gt d7 k5).Todo) :: iOwn (tSl tyRow 29) [.slice A31 ((gt d7 k5).Rows).length c32] ((gt d7 k5).Rows) :: is)) (fun W hm => (hm.front (n := 0) rfl)) rfl rfl Try.type3 rfl (Nat.le_of_ble_eq_true rfl) rfl rfl rfl rfl (Wd_none rfl) ?_
    refine nt' ?_
    refine sr ?_
    refine wm ?_
    refine wv (fun W hm => rv_add rfl rfl) ?_
    refine wa ?_
    refine nt' ?_
    refine sr ?_
    refine wm ?_
    refine wm ?_
    refine wv (fun W hm => rv_index (sz := 10) (k := k5) Try.underlying73 Try.type127 rfl rfl rfl (by omega)) ?_
    refine wv (fun W hm => rv_field Try.underlying127 rfl Try.type125 (by decide) rfl rfl) ?_
    refine wv (fun W hm => rv_fieldA (o := 2) Try.underlying125 rfl Try.type123 (by decide) rfl rfl) ?_
    refine wv (fun W hm => rv_load Try.underlying123 rfl rfl (hm.focCells (i := 0) rfl rfl 2 _ rfl)) ?_
    refine wm ?_
    refine WM_callW (χ := Unit) (val := fun _ => .int .i64 (laws_markCondS_m ((gt d7 k5).Query.Conds) (IntKind.i64.wrap ((IntKind.i64.wrap (s6 + 1)) + 1))).1) (js := fun _ => (iOwn (tSl tyCond 183) [.slice A19 ((gt d7 k5).Query.Conds).length c20] (laws_markCondS_m ((gt d7 k5).Query.Conds) (IntKind.i64.wrap ((IntKind.i64.wrap (s6 + 1)) + 1))).2 :: (iFoc tyActive 127 (some ⟨g13, 0, none⟩) x0.length c2 d7 k5 [.int .i64 s6, .int .i64 (IntKind.i64.wrap (s6 + 1)), .slice A19 ((gt d7 k5).Query.Conds).length c20, .slice A23 ((gt d7 k5).Query.Out).length c24, .int .i64 ((gt d7 k5).Time), .slice A27 ((gt d7 k5).Todo).length c28, .int .i64 ((gt d7 k5).Age), .int .i64 ((gt d7 k5).Sent), .int .i64 ((gt d7 k5).Cap), .slice A31 ((gt d7 k5).Rows).length c32] :: iOwn (tSl tInt 3) [.slice A23 ((gt d7 k5).Query.Out).length c24] ((gt d7 k5).Query.Out) :: iOwn (tSl tInt 3) [.slice A27 ((gt d7 k5).Todo).length c28] ((gt d7 k5).Todo) :: iOwn (tSl tyRow 29) [.slice A31 ((gt d7 k5).Rows).length c32] ((gt d7 k5).Rows) :: is))) (cl_fn cb182 rfl) (fun W hm => (laws_markCondS_c B w0 (iFoc tyActive 127 (some ⟨g13, 0, none⟩) x0.length c2 d7 k5 [.int .i64 s6, .int .i64 (IntKind.i64.wrap (s6 + 1)), .slice A19 ((gt d7 k5).Query.Conds).length c20, .slice A23 ((gt d7 k5).Query.Out).length c24, .int .i64 ((gt d7 k5).Time), .slice A27 ((gt d7 k5).Todo).length c28, .int .i64 ((gt d7 k5).Age), .int .i64 ((gt d7 k5).Sent), .int .i64 ((gt d7 k5).Cap), .slice A31 ((gt d7 k5).Rows).length c32] :: iOwn (tSl tInt 3) [.slice A23 ((gt d7 k5).Query.Out).length c24] ((gt d7 k5).Query.Out) :: iOwn (tSl tInt 3) [.slice A27 ((gt d7 k5).Todo).length c28] ((gt d7 k5).Todo) :: iOwn (tSl tyRow 29) [.slice A31 ((gt d7 k5).Rows).length c32] ((gt d7 k5).Rows) :: is) W (.slice A19 ((gt d7 k5).Query.Conds).length c20) ((gt d7 k5).Query.Conds) (IntKind.i64.wrap ((IntKind.i64.wrap (s6 + 1)) + 1)) (hm.front (n := 1) rfl)).mono (fun _ _ h => ⟨(), h.1, h.2⟩)) (Wd_none rfl) (by decide) (fun _ => ?_)
    refine wa ?_
    refine nt' ?_
    refine sr ?_
    refine wm ?_
    refine wm ?_
    refine wv (fun W hm => rv_index (sz := 10) (k := k5) Try.underlying73 Try.type127 rfl rfl rfl (by omega)) ?_
    refine wv (fun W hm => rv_field Try.underlying127 rfl Try.type125 (by decide) rfl rfl) ?_
    refine wv (fun W hm => rv_fieldA (o := 3) Try.underlying125 rfl Try.type27 (by decide) rfl rfl) ?_
    refine wv (fun W hm => rv_load Try.underlying27 rfl rfl (hm.focCells (i := 1) rfl rfl 3 _ rfl)) ?_
    refine wm ?_
    refine WM_callW (χ := Unit) (val := fun _ => .int .i64 (laws_markIntS_m ((gt d7 k5).Query.Out) ((laws_markCondS_m ((gt d7 k5).Query.Conds) (IntKind.i64.wrap ((IntKind.i64.wrap (s6 + 1)) + 1))).1)).1) (js := fun _ => (iOwn (tSl tInt 3) [.slice A23 ((gt d7 k5).Query.Out).length c24] (laws_markIntS_m ((gt d7 k5).Query.Out) ((laws_markCondS_m ((gt d7 k5).Query.Conds) (IntKind.i64.wrap ((IntKind.i64.wrap (s6 + 1)) + 1))).1)).2 :: (iOwn (tSl tyCond 183) [.slice A19 ((gt d7 k5).Query.Conds).length c20] ((laws_markCondS_m ((gt d7 k5).Query.Conds) (IntKind.i64.wrap ((IntKind.i64.wrap (s6 + 1)) + 1))).2) :: iFoc tyActive 127 (some ⟨g13, 0, none⟩) x0.length c2 d7 k5 [.int .i64 s6, .int .i64 (IntKind.i64.wrap (s6 + 1)), .slice A19 ((gt d7 k5).Query.Conds).length c20, .slice A23 ((gt d7 k5).Query.Out).length c24, .int .i64 ((gt d7 k5).Time), .slice A27 ((gt d7 k5).Todo).length c28, .int .i64 ((gt d7 k5).Age), .int .i64 ((gt d7 k5).Sent), .int .i64 ((gt d7 k5).Cap), .slice A31 ((gt d7 k5).Rows).length c32] :: iOwn (tSl tInt 3) [.slice A27 ((gt d7 k5).Todo).length c28] ((gt d7 k5).Todo) :: iOwn (tSl tyRow 29) [.slice A31 ((gt d7 k5).Rows).length c32] ((gt d7 k5).Rows) :: is))) (cl_fn cb68 rfl) (fun W hm => (laws_markIntS_c B w0 (iOwn (tSl tyCond 183) [.slice A19 ((gt d7 k5).Query.Conds).length c20] ((laws_markCondS_m ((gt d7 k5).Query.Conds) (IntKind.i64.wrap ((IntKind.i64.wrap (s6 + 1)) + 1))).2) :: iFoc tyActive 127 (some ⟨g13, 0, none⟩) x0.length c2 d7 k5 [.int .i64 s6, .int .i64 (IntKind.i64.wrap (s6 + 1)), .slice A19 ((gt d7 k5).Query.Conds).length c20, .slice A23 ((gt d7 k5).Query.Out).length c24, .int .i64 ((gt d7 k5).Time), .slice A27 ((gt d7 k5).Todo).length c28, .int .i64 ((gt d7 k5).Age), .int .i64 ((gt d7 k5).Sent), .int .i64 ((gt d7 k5).Cap), .slice A31 ((gt d7 k5).Rows).length c32] :: iOwn (tSl tInt 3) [.slice A27 ((gt d7 k5).Todo).length c28] ((gt d7 k5).Todo) :: iOwn (tSl tyRow 29) [.slice A31 ((gt d7 k5).Rows).length c32] ((gt d7 k5).Rows) :: is) W (.slice A23 ((gt d7 k5).Query.Out).length c24) ((gt d7 k5).Query.Out) ((laws_markCondS_m ((gt d7 k5).Query.Conds) (IntKind.i64.wrap ((IntKind.i64.wrap (s6 + 1)) + 1))).1) (hm.front (n := 2) rfl)).mono (fun _ _ h => ⟨(), h.1, h.2⟩)) (Wd_none rfl) (by decide) (fun _ => ?_)
    refine wa ?_
    refine nt' ?_
    refine sr ?_
    refine wm ?_
    refine wm ?_
    refine wm ?_
    refine wv (fun W hm => rv_index (sz := 10) (k := k5) Try.underlying73 Try.type127 rfl rfl rfl (by omega)) ?_
    refine wv (fun W hm => rv_field Try.underlying127 rfl Try.type3 (by decide) rfl rfl) ?_
    refine WM_storeFoc (E := tyActive) (e := 127) (g := g13) (n := x0.length) (c := c2) (k := k5) (s := 10) (o := 4) (xs := d7) (ck := [.int .i64 s6, .int .i64 (IntKind.i64.wrap (s6 + 1)), .slice A19 ((gt d7 k5).Query.Conds).length c20, .slice A23 ((gt d7 k5).Query.Out).length c24, .int .i64 ((gt d7 k5).Time), .slice A27 ((gt d7 k5).Todo).length c28, .int .i64 ((gt d7 k5).Age), .int .i64 ((gt d7 k5).Sent), .int .i64 ((gt d7 k5).Cap), .slice A31 ((gt d7 k5).Rows).length c32]) (ck' := [.int .i64 s6, .int .i64 (IntKind.i64.wrap (s6 + 1)), .slice A19 ((gt d7 k5).Query.Conds).length c20, .slice A23 ((gt d7 k5).Query.Out).length c24, .int .i64 ((laws_markIntS_m ((gt d7 k5).Query.Out) ((laws_markCondS_m ((gt d7 k5).Query.Conds) (IntKind.i64.wrap ((IntKind.i64.wrap (s6 + 1)) + 1))).1)).1), .slice A27 ((gt d7 k5).Todo).length c28, .int .i64 ((gt d7 k5).Age), .int .i64 ((gt d7 k5).Sent), .int .i64 ((gt d7 k5).Cap), .slice A31 ((gt d7 k5).Rows).length c32]) (js := (iOwn (tSl tInt 3) [.slice A23 ((gt d7 k5).Query.Out).length c24] ((laws_markIntS_m ((gt d7 k5).Query.Out) ((laws_markCondS_m ((gt d7 k5).Query.Conds) (IntKind.i64.wrap ((IntKind.i64.wrap (s6 + 1)) + 1))).1)).2) :: iOwn (tSl tyCond 183) [.slice A19 ((gt d7 k5).Query.Conds).length c20] ((laws_markCondS_m ((gt d7 k5).Query.Conds) (IntKind.i64.wrap ((IntKind.i64.wrap (s6 + 1)) + 1))).2) :: iOwn (tSl tInt 3) [.slice A27 ((gt d7 k5).Todo).length c28] ((gt d7 k5).Todo) :: iOwn (tSl tyRow 29) [.slice A31 ((gt d7 k5).Rows).length c32] ((gt d7 k5).Rows) :: is)) (fun W hm => (hm.front (n := 2) rfl)) rfl rfl Try.type3 rfl (Nat.le_of_ble_eq_true rfl) rfl rfl rfl rfl (Wd_none rfl) ?_
    refine nt' ?_
    refine sr ?_
    refine wm ?_
    refine wv (fun W hm => rv_add rfl rfl) ?_
    refine wa ?_
    refine nt' ?_
    refine sr ?_
    refine wm ?_
    refine wm ?_
    refine wv (fun W hm => rv_index (sz := 10) (k := k5) Try.underlying73 Try.type127 rfl rfl rfl (by omega)) ?_
    refine wv (fun W hm => rv_field Try.underlying127 rfl Try.type27 (by decide) rfl rfl) ?_
    refine wv (fun W hm => rv_load Try.underlying27 rfl rfl (hm.focCells (i := 0) rfl rfl 5 _ rfl)) ?_
    refine wm ?_
    refine WM_callW (χ := Unit) (val := fun _ => .int .i64 (laws_markIntS_m ((gt d7 k5).Todo) (IntKind.i64.wrap (((laws_markIntS_m ((gt d7 k5).Query.Out) ((laws_markCondS_m ((gt d7 k5).Query.Conds) (IntKind.i64.wrap ((IntKind.i64.wrap (s6 + 1)) + 1))).1)).1) + 1))).1) (js := fun _ => (iOwn (tSl tInt 3) [.slice A27 ((gt d7 k5).Todo).length c28] (laws_markIntS_m ((gt d7 k5).Todo) (IntKind.i64.wrap (((laws_markIntS_m ((gt d7 k5).Query.Out) ((laws_markCondS_m ((gt d7 k5).Query.Conds) (IntKind.i64.wrap ((IntKind.i64.wrap (s6 + 1)) + 1))).1)).1) + 1))).2 :: (iFoc tyActive 127 (some ⟨g13, 0, none⟩) x0.length c2 d7 k5 [.int .i64 s6, .int .i64 (IntKind.i64.wrap (s6 + 1)), .slice A19 ((gt d7 k5).Query.Conds).length c20, .slice A23 ((gt d7 k5).Query.Out).length c24, .int .i64 ((laws_markIntS_m ((gt d7 k5).Query.Out) ((laws_markCondS_m ((gt d7 k5).Query.Conds) (IntKind.i64.wrap ((IntKind.i64.wrap (s6 + 1)) + 1))).1)).1), .slice A27 ((gt d7 k5).Todo).length c28, .int .i64 ((gt d7 k5).Age), .int .i64 ((gt d7 k5).Sent), .int .i64 ((gt d7 k5).Cap), .slice A31 ((gt d7 k5).Rows).length c32] :: iOwn (tSl tInt 3) [.slice A23 ((gt d7 k5).Query.Out).length c24] ((laws_markIntS_m ((gt d7 k5).Query.Out) ((laws_markCondS_m ((gt d7 k5).Query.Conds) (IntKind.i64.wrap ((IntKind.i64.wrap (s6 + 1)) + 1))).1)).2) :: iOwn (tSl tyCond 183) [.slice A19 ((gt d7 k5).Query.Conds).length c20] ((laws_markCondS_m ((gt d7 k5).Query.Conds) (IntKind.i64.wrap ((IntKind.i64.wrap (s6 + 1)) + 1))).2) :: iOwn (tSl tyRow 29) [.slice A31 ((gt d7 k5).Rows).length c32] ((gt d7 k5).Rows) :: is))) (cl_fn cb68 rfl) (fun W hm => (laws_markIntS_c B w0 (iFoc tyActive 127 (some ⟨g13, 0, none⟩) x0.length c2 d7 k5 [.int .i64 s6, .int .i64 (IntKind.i64.wrap (s6 + 1)), .slice A19 ((gt d7 k5).Query.Conds).length c20, .slice A23 ((gt d7 k5).Query.Out).length c24, .int .i64 ((laws_markIntS_m ((gt d7 k5).Query.Out) ((laws_markCondS_m ((gt d7 k5).Query.Conds) (IntKind.i64.wrap ((IntKind.i64.wrap (s6 + 1)) + 1))).1)).1), .slice A27 ((gt d7 k5).Todo).length c28, .int .i64 ((gt d7 k5).Age), .int .i64 ((gt d7 k5).Sent), .int .i64 ((gt d7 k5).Cap), .slice A31 ((gt d7 k5).Rows).length c32] :: iOwn (tSl tInt 3) [.slice A23 ((gt d7 k5).Query.Out).length c24] ((laws_markIntS_m ((gt d7 k5).Query.Out) ((laws_markCondS_m ((gt d7 k5).Query.Conds) (IntKind.i64.wrap ((IntKind.i64.wrap (s6 + 1)) + 1))).1)).2) :: iOwn (tSl tyCond 183) [.slice A19 ((gt d7 k5).Query.Conds).length c20] ((laws_markCondS_m ((gt d7 k5).Query.Conds) (IntKind.i64.wrap ((IntKind.i64.wrap (s6 + 1)) + 1))).2) :: iOwn (tSl tyRow 29) [.slice A31 ((gt d7 k5).Rows).length c32] ((gt d7 k5).Rows) :: is) W (.slice A27 ((gt d7 k5).Todo).length c28) ((gt d7 k5).Todo) (IntKind.i64.wrap (((laws_markIntS_m ((gt d7 k5).Query.Out) ((laws_markCondS_m ((gt d7 k5).Query.Conds) (IntKind.i64.wrap ((IntKind.i64.wrap (s6 + 1)) + 1))).1)).1) + 1)) (hm.front (n := 3) rfl)).mono (fun _ _ h => ⟨(), h.1, h.2⟩)) (Wd_none rfl) (by decide) (fun _ => ?_)
    refine wa ?_
    refine nt' ?_
    refine sr ?_
    refine wm ?_
    refine wm ?_
    refine wm ?_
    refine wv (fun W hm => rv_index (sz := 10) (k := k5) Try.underlying73 Try.type127 rfl rfl rfl (by omega)) ?_
    refine wv (fun W hm => rv_field Try.underlying127 rfl Try.type3 (by decide) rfl rfl) ?_
    refine WM_storeFoc (E := tyActive) (e := 127) (g := g13) (n := x0.length) (c := c2) (k := k5) (s := 10) (o := 6) (xs := d7) (ck := [.int .i64 s6, .int .i64 (IntKind.i64.wrap (s6 + 1)), .slice A19 ((gt d7 k5).Query.Conds).length c20, .slice A23 ((gt d7 k5).Query.Out).length c24, .int .i64 ((laws_markIntS_m ((gt d7 k5).Query.Out) ((laws_markCondS_m ((gt d7 k5).Query.Conds) (IntKind.i64.wrap ((IntKind.i64.wrap (s6 + 1)) + 1))).1)).1), .slice A27 ((gt d7 k5).Todo).length c28, .int .i64 ((gt d7 k5).Age), .int .i64 ((gt d7 k5).Sent), .int .i64 ((gt d7 k5).Cap), .slice A31 ((gt d7 k5).Rows).length c32]) (ck' := [.int .i64 s6, .int .i64 (IntKind.i64.wrap (s6 + 1)), .slice A19 ((gt d7 k5).Query.Conds).length c20, .slice A23 ((gt d7 k5).Query.Out).length c24, .int .i64 ((laws_markIntS_m ((gt d7 k5).Query.Out) ((laws_markCondS_m ((gt d7 k5).Query.Conds) (IntKind.i64.wrap ((IntKind.i64.wrap (s6 + 1)) + 1))).1)).1), .slice A27 ((gt d7 k5).Todo).length c28, .int .i64 ((laws_markIntS_m ((gt d7 k5).Todo) (IntKind.i64.wrap (((laws_markIntS_m ((gt d7 k5).Query.Out) ((laws_markCondS_m ((gt d7 k5).Query.Conds) (IntKind.i64.wrap ((IntKind.i64.wrap (s6 + 1)) + 1))).1)).1) + 1))).1), .int .i64 ((gt d7 k5).Sent), .int .i64 ((gt d7 k5).Cap), .slice A31 ((gt d7 k5).Rows).length c32]) (js := (iOwn (tSl tInt 3) [.slice A27 ((gt d7 k5).Todo).length c28] ((laws_markIntS_m ((gt d7 k5).Todo) (IntKind.i64.wrap (((laws_markIntS_m ((gt d7 k5).Query.Out) ((laws_markCondS_m ((gt d7 k5).Query.Conds) (IntKind.i64.wrap ((IntKind.i64.wrap (s6 + 1)) + 1))).1)).1) + 1))).2) :: iOwn (tSl tInt 3) [.slice A23 ((gt d7 k5).Query.Out).length c24] ((laws_markIntS_m ((gt d7 k5).Query.Out) ((laws_markCondS_m ((gt d7 k5).Query.Conds) (IntKind.i64.wrap ((IntKind.i64.wrap (s6 + 1)) + 1))).1)).2) :: iOwn (tSl tyCond 183) [.slice A19 ((gt d7 k5).Query.Conds).length c20] ((laws_markCondS_m ((gt d7 k5).Query.Conds) (IntKind.i64.wrap ((IntKind.i64.wrap (s6 + 1)) + 1))).2) :: iOwn (tSl tyRow 29) [.slice A31 ((gt d7 k5).Rows).length c32] ((gt d7 k5).Rows) :: is)) (fun W hm => (hm.front (n := 1) rfl)) rfl rfl Try.type3 rfl (Nat.le_of_ble_eq_true rfl) rfl rfl rfl rfl (Wd_none rfl) ?_
    refine nt' ?_
    refine sr ?_
    refine wm ?_
    refine wv (fun W hm => rv_add rfl rfl) ?_
    refine wa ?_
    refine nt' ?_
    refine sr ?_
    refine wm ?_
    refine wm ?_
    refine wm ?_
    refine wv (fun W hm => rv_index (sz := 10) (k := k5) Try.underlying73 Try.type127 rfl rfl rfl (by omega)) ?_
    refine wv (fun W hm => rv_field Try.underlying127 rfl Try.type3 (by decide) rfl rfl) ?_
    refine WM_storeFoc (E := tyActive) (e := 127) (g := g13) (n := x0.length) (c := c2) (k := k5) (s := 10) (o := 7) (xs := d7) (ck := [.int .i64 s6, .int .i64 (IntKind.i64.wrap (s6 + 1)), .slice A19 ((gt d7 k5).Query.Conds).length c20, .slice A23 ((gt d7 k5).Query.Out).length c24, .int .i64 ((laws_markIntS_m ((gt d7 k5).Query.Out) ((laws_markCondS_m ((gt d7 k5).Query.Conds) (IntKind.i64.wrap ((IntKind.i64.wrap (s6 + 1)) + 1))).1)).1), .slice A27 ((gt d7 k5).Todo).length c28, .int .i64 ((laws_markIntS_m ((gt d7 k5).Todo) (IntKind.i64.wrap (((laws_markIntS_m ((gt d7 k5).Query.Out) ((laws_markCondS_m ((gt d7 k5).Query.Conds) (IntKind.i64.wrap ((IntKind.i64.wrap (s6 + 1)) + 1))).1)).1) + 1))).1), .int .i64 ((gt d7 k5).Sent), .int .i64 ((gt d7 k5).Cap), .slice A31 ((gt d7 k5).Rows).length c32]) (ck' := [.int .i64 s6, .int .i64 (IntKind.i64.wrap (s6 + 1)), .slice A19 ((gt d7 k5).Query.Conds).length c20, .slice A23 ((gt d7 k5).Query.Out).length c24, .int .i64 ((laws_markIntS_m ((gt d7 k5).Query.Out) ((laws_markCondS_m ((gt d7 k5).Query.Conds) (IntKind.i64.wrap ((IntKind.i64.wrap (s6 + 1)) + 1))).1)).1), .slice A27 ((gt d7 k5).Todo).length c28, .int .i64 ((laws_markIntS_m ((gt d7 k5).Todo) (IntKind.i64.wrap (((laws_markIntS_m ((gt d7 k5).Query.Out) ((laws_markCondS_m ((gt d7 k5).Query.Conds) (IntKind.i64.wrap ((IntKind.i64.wrap (s6 + 1)) + 1))).1)).1) + 1))).1), .int .i64 (IntKind.i64.wrap (((laws_markIntS_m ((gt d7 k5).Todo) (IntKind.i64.wrap (((laws_markIntS_m ((gt d7 k5).Query.Out) ((laws_markCondS_m ((gt d7 k5).Query.Conds) (IntKind.i64.wrap ((IntKind.i64.wrap (s6 + 1)) + 1))).1)).1) + 1))).1) + 1)), .int .i64 ((gt d7 k5).Cap), .slice A31 ((gt d7 k5).Rows).length c32]) (js := (iOwn (tSl tInt 3) [.slice A27 ((gt d7 k5).Todo).length c28] ((laws_markIntS_m ((gt d7 k5).Todo) (IntKind.i64.wrap (((laws_markIntS_m ((gt d7 k5).Query.Out) ((laws_markCondS_m ((gt d7 k5).Query.Conds) (IntKind.i64.wrap ((IntKind.i64.wrap (s6 + 1)) + 1))).1)).1) + 1))).2) :: iOwn (tSl tInt 3) [.slice A23 ((gt d7 k5).Query.Out).length c24] ((laws_markIntS_m ((gt d7 k5).Query.Out) ((laws_markCondS_m ((gt d7 k5).Query.Conds) (IntKind.i64.wrap ((IntKind.i64.wrap (s6 + 1)) + 1))).1)).2) :: iOwn (tSl tyCond 183) [.slice A19 ((gt d7 k5).Query.Conds).length c20] ((laws_markCondS_m ((gt d7 k5).Query.Conds) (IntKind.i64.wrap ((IntKind.i64.wrap (s6 + 1)) + 1))).2) :: iOwn (tSl tyRow 29) [.slice A31 ((gt d7 k5).Rows).length c32] ((gt d7 k5).Rows) :: is)) (fun W hm => (hm.front (n := 0) rfl)) rfl rfl Try.type3 rfl (Nat.le_of_ble_eq_true rfl) rfl rfl rfl rfl (Wd_none rfl) ?_
    refine nt' ?_
    refine sr ?_
    refine wm ?_
    refine wv (fun W hm => rv_add rfl rfl) ?_
    refine wa ?_
    refine nt' ?_
    refine sr ?_
    refine wm ?_
    refine wm ?_
    refine wm ?_
    refine wv (fun W hm => rv_index (sz := 10) (k := k5) Try.underlying73 Try.type127 rfl rfl rfl (by omega)) ?_
    refine wv (fun W hm => rv_field Try.underlying127 rfl Try.type3 (by decide) rfl rfl) ?_
    refine WM_storeFoc (E := tyActive) (e := 127) (g := g13) (n := x0.length) (c := c2) (k := k5) (s := 10) (o := 8) (xs := d7) (ck := [.int .i64 s6, .int .i64 (IntKind.i64.wrap (s6 + 1)), .slice A19 ((gt d7 k5).Query.Conds).length c20, .slice A23 ((gt d7 k5).Query.Out).length c24, .int .i64 ((laws_markIntS_m ((gt d7 k5).Query.Out) ((laws_markCondS_m ((gt d7 k5).Query.Conds) (IntKind.i64.wrap ((IntKind.i64.wrap (s6 + 1)) + 1))).1)).1), .slice A27 ((gt d7 k5).Todo).length c28, .int .i64 ((laws_markIntS_m ((gt d7 k5).Todo) (IntKind.i64.wrap (((laws_markIntS_m ((gt d7 k5).Query.Out) ((laws_markCondS_m ((gt d7 k5).Query.Conds) (IntKind.i64.wrap ((IntKind.i64.wrap (s6 + 1)) + 1))).1)).1) + 1))).1), .int .i64 (IntKind.i64.wrap (((laws_markIntS_m ((gt d7 k5).Todo) (IntKind.i64.wrap (((laws_markIntS_m ((gt d7 k5).Query.Out) ((laws_markCondS_m ((gt d7 k5).Query.Conds) (IntKind.i64.wrap ((IntKind.i64.wrap (s6 + 1)) + 1))).1)).1) + 1))).1) + 1)), .int .i64 ((gt d7 k5).Cap), .slice A31 ((gt d7 k5).Rows).length c32]) (ck' := [.int .i64 s6, .int .i64 (IntKind.i64.wrap (s6 + 1)), .slice A19 ((gt d7 k5).Query.Conds).length c20, .slice A23 ((gt d7 k5).Query.Out).length c24, .int .i64 ((laws_markIntS_m ((gt d7 k5).Query.Out) ((laws_markCondS_m ((gt d7 k5).Query.Conds) (IntKind.i64.wrap ((IntKind.i64.wrap (s6 + 1)) + 1))).1)).1), .slice A27 ((gt d7 k5).Todo).length c28, .int .i64 ((laws_markIntS_m ((gt d7 k5).Todo) (IntKind.i64.wrap (((laws_markIntS_m ((gt d7 k5).Query.Out) ((laws_markCondS_m ((gt d7 k5).Query.Conds) (IntKind.i64.wrap ((IntKind.i64.wrap (s6 + 1)) + 1))).1)).1) + 1))).1), .int .i64 (IntKind.i64.wrap (((laws_markIntS_m ((gt d7 k5).Todo) (IntKind.i64.wrap (((laws_markIntS_m ((gt d7 k5).Query.Out) ((laws_markCondS_m ((gt d7 k5).Query.Conds) (IntKind.i64.wrap ((IntKind.i64.wrap (s6 + 1)) + 1))).1)).1) + 1))).1) + 1)), .int .i64 (IntKind.i64.wrap ((IntKind.i64.wrap (((laws_markIntS_m ((gt d7 k5).Todo) (IntKind.i64.wrap (((laws_markIntS_m ((gt d7 k5).Query.Out) ((laws_markCondS_m ((gt d7 k5).Query.Conds) (IntKind.i64.wrap ((IntKind.i64.wrap (s6 + 1)) + 1))).1)).1) + 1))).1) + 1)) + 1)), .slice A31 ((gt d7 k5).Rows).length c32]) (js := (iOwn (tSl tInt 3) [.slice A27 ((gt d7 k5).Todo).length c28] ((laws_markIntS_m ((gt d7 k5).Todo) (IntKind.i64.wrap (((laws_markIntS_m ((gt d7 k5).Query.Out) ((laws_markCondS_m ((gt d7 k5).Query.Conds) (IntKind.i64.wrap ((IntKind.i64.wrap (s6 + 1)) + 1))).1)).1) + 1))).2) :: iOwn (tSl tInt 3) [.slice A23 ((gt d7 k5).Query.Out).length c24] ((laws_markIntS_m ((gt d7 k5).Query.Out) ((laws_markCondS_m ((gt d7 k5).Query.Conds) (IntKind.i64.wrap ((IntKind.i64.wrap (s6 + 1)) + 1))).1)).2) :: iOwn (tSl tyCond 183) [.slice A19 ((gt d7 k5).Query.Conds).length c20] ((laws_markCondS_m ((gt d7 k5).Query.Conds) (IntKind.i64.wrap ((IntKind.i64.wrap (s6 + 1)) + 1))).2) :: iOwn (tSl tyRow 29) [.slice A31 ((gt d7 k5).Rows).length c32] ((gt d7 k5).Rows) :: is)) (fun W hm => (hm.front (n := 0) rfl)) rfl rfl Try.type3 rfl (Nat.le_of_ble_eq_true rfl) rfl rfl rfl rfl (Wd_none rfl) ?_
    refine nt' ?_
    refine sr ?_
    refine wm ?_
    refine wv (fun W hm => rv_add rfl rfl) ?_
    refine wa ?_
    refine nt' ?_
    refine CM_region ?_
    refine wm ?_
    refine wm ?_
    refine wv (fun W hm => rv_index (sz := 10) (k := k5) Try.underlying73 Try.type127 rfl rfl rfl (by omega)) ?_
    refine wv (fun W hm => rv_field Try.underlying127 rfl Try.type39 (by decide) rfl rfl) ?_
    refine wv (fun W hm => rv_load Try.underlying39 rfl rfl (hm.focCells (i := 0) rfl rfl 9 _ rfl)) ?_
    refine wm ?_
    refine WM_callW (χ := Unit) (val := fun _ => .int .i64 (laws_markRowS_m ((gt d7 k5).Rows) (IntKind.i64.wrap ((IntKind.i64.wrap ((IntKind.i64.wrap (((laws_markIntS_m ((gt d7 k5).Todo) (IntKind.i64.wrap (((laws_markIntS_m ((gt d7 k5).Query.Out) ((laws_markCondS_m ((gt d7 k5).Query.Conds) (IntKind.i64.wrap ((IntKind.i64.wrap (s6 + 1)) + 1))).1)).1) + 1))).1) + 1)) + 1)) + 1))).1) (js := fun _ => (iOwn (tSl tyRow 29) [.slice A31 ((gt d7 k5).Rows).length c32] (laws_markRowS_m ((gt d7 k5).Rows) (IntKind.i64.wrap ((IntKind.i64.wrap ((IntKind.i64.wrap (((laws_markIntS_m ((gt d7 k5).Todo) (IntKind.i64.wrap (((laws_markIntS_m ((gt d7 k5).Query.Out) ((laws_markCondS_m ((gt d7 k5).Query.Conds) (IntKind.i64.wrap ((IntKind.i64.wrap (s6 + 1)) + 1))).1)).1) + 1))).1) + 1)) + 1)) + 1))).2 :: (iFoc tyActive 127 (some ⟨g13, 0, none⟩) x0.length c2 d7 k5 [.int .i64 s6, .int .i64 (IntKind.i64.wrap (s6 + 1)), .slice A19 ((gt d7 k5).Query.Conds).length c20, .slice A23 ((gt d7 k5).Query.Out).length c24, .int .i64 ((laws_markIntS_m ((gt d7 k5).Query.Out) ((laws_markCondS_m ((gt d7 k5).Query.Conds) (IntKind.i64.wrap ((IntKind.i64.wrap (s6 + 1)) + 1))).1)).1), .slice A27 ((gt d7 k5).Todo).length c28, .int .i64 ((laws_markIntS_m ((gt d7 k5).Todo) (IntKind.i64.wrap (((laws_markIntS_m ((gt d7 k5).Query.Out) ((laws_markCondS_m ((gt d7 k5).Query.Conds) (IntKind.i64.wrap ((IntKind.i64.wrap (s6 + 1)) + 1))).1)).1) + 1))).1), .int .i64 (IntKind.i64.wrap (((laws_markIntS_m ((gt d7 k5).Todo) (IntKind.i64.wrap (((laws_markIntS_m ((gt d7 k5).Query.Out) ((laws_markCondS_m ((gt d7 k5).Query.Conds) (IntKind.i64.wrap ((IntKind.i64.wrap (s6 + 1)) + 1))).1)).1) + 1))).1) + 1)), .int .i64 (IntKind.i64.wrap ((IntKind.i64.wrap (((laws_markIntS_m ((gt d7 k5).Todo) (IntKind.i64.wrap (((laws_markIntS_m ((gt d7 k5).Query.Out) ((laws_markCondS_m ((gt d7 k5).Query.Conds) (IntKind.i64.wrap ((IntKind.i64.wrap (s6 + 1)) + 1))).1)).1) + 1))).1) + 1)) + 1)), .slice A31 ((gt d7 k5).Rows).length c32] :: iOwn (tSl tInt 3) [.slice A27 ((gt d7 k5).Todo).length c28] ((laws_markIntS_m ((gt d7 k5).Todo) (IntKind.i64.wrap (((laws_markIntS_m ((gt d7 k5).Query.Out) ((laws_markCondS_m ((gt d7 k5).Query.Conds) (IntKind.i64.wrap ((IntKind.i64.wrap (s6 + 1)) + 1))).1)).1) + 1))).2) :: iOwn (tSl tInt 3) [.slice A23 ((gt d7 k5).Query.Out).length c24] ((laws_markIntS_m ((gt d7 k5).Query.Out) ((laws_markCondS_m ((gt d7 k5).Query.Conds) (IntKind.i64.wrap ((IntKind.i64.wrap (s6 + 1)) + 1))).1)).2) :: iOwn (tSl tyCond 183) [.slice A19 ((gt d7 k5).Query.Conds).length c20] ((laws_markCondS_m ((gt d7 k5).Query.Conds) (IntKind.i64.wrap ((IntKind.i64.wrap (s6 + 1)) + 1))).2) :: is))) (cl_fn cb183 rfl) (fun W hm => (laws_markRowS_c B w0 (iFoc tyActive 127 (some ⟨g13, 0, none⟩) x0.length c2 d7 k5 [.int .i64 s6, .int .i64 (IntKind.i64.wrap (s6 + 1)), .slice A19 ((gt d7 k5).Query.Conds).length c20, .slice A23 ((gt d7 k5).Query.Out).length c24, .int .i64 ((laws_markIntS_m ((gt d7 k5).Query.Out) ((laws_markCondS_m ((gt d7 k5).Query.Conds) (IntKind.i64.wrap ((IntKind.i64.wrap (s6 + 1)) + 1))).1)).1), .slice A27 ((gt d7 k5).Todo).length c28, .int .i64 ((laws_markIntS_m ((gt d7 k5).Todo) (IntKind.i64.wrap (((laws_markIntS_m ((gt d7 k5).Query.Out) ((laws_markCondS_m ((gt d7 k5).Query.Conds) (IntKind.i64.wrap ((IntKind.i64.wrap (s6 + 1)) + 1))).1)).1) + 1))).1), .int .i64 (IntKind.i64.wrap (((laws_markIntS_m ((gt d7 k5).Todo) (IntKind.i64.wrap (((laws_markIntS_m ((gt d7 k5).Query.Out) ((laws_markCondS_m ((gt d7 k5).Query.Conds) (IntKind.i64.wrap ((IntKind.i64.wrap (s6 + 1)) + 1))).1)).1) + 1))).1) + 1)), .int .i64 (IntKind.i64.wrap ((IntKind.i64.wrap (((laws_markIntS_m ((gt d7 k5).Todo) (IntKind.i64.wrap (((laws_markIntS_m ((gt d7 k5).Query.Out) ((laws_markCondS_m ((gt d7 k5).Query.Conds) (IntKind.i64.wrap ((IntKind.i64.wrap (s6 + 1)) + 1))).1)).1) + 1))).1) + 1)) + 1)), .slice A31 ((gt d7 k5).Rows).length c32] :: iOwn (tSl tInt 3) [.slice A27 ((gt d7 k5).Todo).length c28] ((laws_markIntS_m ((gt d7 k5).Todo) (IntKind.i64.wrap (((laws_markIntS_m ((gt d7 k5).Query.Out) ((laws_markCondS_m ((gt d7 k5).Query.Conds) (IntKind.i64.wrap ((IntKind.i64.wrap (s6 + 1)) + 1))).1)).1) + 1))).2) :: iOwn (tSl tInt 3) [.slice A23 ((gt d7 k5).Query.Out).length c24] ((laws_markIntS_m ((gt d7 k5).Query.Out) ((laws_markCondS_m ((gt d7 k5).Query.Conds) (IntKind.i64.wrap ((IntKind.i64.wrap (s6 + 1)) + 1))).1)).2) :: iOwn (tSl tyCond 183) [.slice A19 ((gt d7 k5).Query.Conds).length c20] ((laws_markCondS_m ((gt d7 k5).Query.Conds) (IntKind.i64.wrap ((IntKind.i64.wrap (s6 + 1)) + 1))).2) :: is) W (.slice A31 ((gt d7 k5).Rows).length c32) ((gt d7 k5).Rows) (IntKind.i64.wrap ((IntKind.i64.wrap ((IntKind.i64.wrap (((laws_markIntS_m ((gt d7 k5).Todo) (IntKind.i64.wrap (((laws_markIntS_m ((gt d7 k5).Query.Out) ((laws_markCondS_m ((gt d7 k5).Query.Conds) (IntKind.i64.wrap ((IntKind.i64.wrap (s6 + 1)) + 1))).1)).1) + 1))).1) + 1)) + 1)) + 1)) (hm.front (n := 4) rfl)).mono (fun _ _ h => ⟨(), h.1, h.2⟩)) (Wd_none rfl) (by decide) (fun _ => ?_)
    refine wa ?_
    refine WM_nil ?_
    refine QM_block_normal ?_
    refine QM_then ?_
    refine CM_region ?_
    refine wm ?_
    refine wv (fun W hm => rv_addN (p := k5) (q := 1) rfl rfl (by omega)) ?_
    refine wa ?_
    refine WM_nil ?_
    refine QM_items (fun W hm => Mem.unfocus (Mem.join (is := [iOwn (tSl tyCond 183) [.slice A19 ((gt d7 k5).Query.Conds).length c20] ((laws_markCondS_m ((gt d7 k5).Query.Conds) (IntKind.i64.wrap ((IntKind.i64.wrap (s6 + 1)) + 1))).2), iOwn (tSl tInt 3) [.slice A23 ((gt d7 k5).Query.Out).length c24] ((laws_markIntS_m ((gt d7 k5).Query.Out) ((laws_markCondS_m ((gt d7 k5).Query.Conds) (IntKind.i64.wrap ((IntKind.i64.wrap (s6 + 1)) + 1))).1)).2), iOwn (tSl tInt 3) [.slice A27 ((gt d7 k5).Todo).length c28] ((laws_markIntS_m ((gt d7 k5).Todo) (IntKind.i64.wrap (((laws_markIntS_m ((gt d7 k5).Query.Out) ((laws_markCondS_m ((gt d7 k5).Query.Conds) (IntKind.i64.wrap ((IntKind.i64.wrap (s6 + 1)) + 1))).1)).1) + 1))).2), iOwn (tSl tyRow 29) [.slice A31 ((gt d7 k5).Rows).length c32] ((laws_markRowS_m ((gt d7 k5).Rows) (IntKind.i64.wrap ((IntKind.i64.wrap ((IntKind.i64.wrap (((laws_markIntS_m ((gt d7 k5).Todo) (IntKind.i64.wrap (((laws_markIntS_m ((gt d7 k5).Query.Out) ((laws_markCondS_m ((gt d7 k5).Query.Conds) (IntKind.i64.wrap ((IntKind.i64.wrap (s6 + 1)) + 1))).1)).1) + 1))).1) + 1)) + 1)) + 1))).2)]) (js := (iFoc tyActive 127 (some ⟨g13, 0, none⟩) x0.length c2 d7 k5 [.int .i64 s6, .int .i64 (IntKind.i64.wrap (s6 + 1)), .slice A19 ((gt d7 k5).Query.Conds).length c20, .slice A23 ((gt d7 k5).Query.Out).length c24, .int .i64 ((laws_markIntS_m ((gt d7 k5).Query.Out) ((laws_markCondS_m ((gt d7 k5).Query.Conds) (IntKind.i64.wrap ((IntKind.i64.wrap (s6 + 1)) + 1))).1)).1), .slice A27 ((gt d7 k5).Todo).length c28, .int .i64 ((laws_markIntS_m ((gt d7 k5).Todo) (IntKind.i64.wrap (((laws_markIntS_m ((gt d7 k5).Query.Out) ((laws_markCondS_m ((gt d7 k5).Query.Conds) (IntKind.i64.wrap ((IntKind.i64.wrap (s6 + 1)) + 1))).1)).1) + 1))).1), .int .i64 (IntKind.i64.wrap (((laws_markIntS_m ((gt d7 k5).Todo) (IntKind.i64.wrap (((laws_markIntS_m ((gt d7 k5).Query.Out) ((laws_markCondS_m ((gt d7 k5).Query.Conds) (IntKind.i64.wrap ((IntKind.i64.wrap (s6 + 1)) + 1))).1)).1) + 1))).1) + 1)), .int .i64 (IntKind.i64.wrap ((IntKind.i64.wrap (((laws_markIntS_m ((gt d7 k5).Todo) (IntKind.i64.wrap (((laws_markIntS_m ((gt d7 k5).Query.Out) ((laws_markCondS_m ((gt d7 k5).Query.Conds) (IntKind.i64.wrap ((IntKind.i64.wrap (s6 + 1)) + 1))).1)).1) + 1))).1) + 1)) + 1)), .slice A31 ((gt d7 k5).Rows).length c32] :: (is))) (fun _ _ hs => tyActive_join (x := (⟨(⟨s6, (IntKind.i64.wrap (s6 + 1)), (laws_markCondS_m ((gt d7 k5).Query.Conds) (IntKind.i64.wrap ((IntKind.i64.wrap (s6 + 1)) + 1))).2, (laws_markIntS_m ((gt d7 k5).Query.Out) ((laws_markCondS_m ((gt d7 k5).Query.Conds) (IntKind.i64.wrap ((IntKind.i64.wrap (s6 + 1)) + 1))).1)).2⟩ : DQuery), (laws_markIntS_m ((gt d7 k5).Query.Out) ((laws_markCondS_m ((gt d7 k5).Query.Conds) (IntKind.i64.wrap ((IntKind.i64.wrap (s6 + 1)) + 1))).1)).1, (laws_markIntS_m ((gt d7 k5).Todo) (IntKind.i64.wrap (((laws_markIntS_m ((gt d7 k5).Query.Out) ((laws_markCondS_m ((gt d7 k5).Query.Conds) (IntKind.i64.wrap ((IntKind.i64.wrap (s6 + 1)) + 1))).1)).1) + 1))).2, (laws_markIntS_m ((gt d7 k5).Todo) (IntKind.i64.wrap (((laws_markIntS_m ((gt d7 k5).Query.Out) ((laws_markCondS_m ((gt d7 k5).Query.Conds) (IntKind.i64.wrap ((IntKind.i64.wrap (s6 + 1)) + 1))).1)).1) + 1))).1, (IntKind.i64.wrap (((laws_markIntS_m ((gt d7 k5).Todo) (IntKind.i64.wrap (((laws_markIntS_m ((gt d7 k5).Query.Out) ((laws_markCondS_m ((gt d7 k5).Query.Conds) (IntKind.i64.wrap ((IntKind.i64.wrap (s6 + 1)) + 1))).1)).1) + 1))).1) + 1)), (IntKind.i64.wrap ((IntKind.i64.wrap (((laws_markIntS_m ((gt d7 k5).Todo) (IntKind.i64.wrap (((laws_markIntS_m ((gt d7 k5).Query.Out) ((laws_markCondS_m ((gt d7 k5).Query.Conds) (IntKind.i64.wrap ((IntKind.i64.wrap (s6 + 1)) + 1))).1)).1) + 1))).1) + 1)) + 1)), (laws_markRowS_m ((gt d7 k5).Rows) (IntKind.i64.wrap ((IntKind.i64.wrap ((IntKind.i64.wrap (((laws_markIntS_m ((gt d7 k5).Todo) (IntKind.i64.wrap (((laws_markIntS_m ((gt d7 k5).Query.Out) ((laws_markCondS_m ((gt d7 k5).Query.Conds) (IntKind.i64.wrap ((IntKind.i64.wrap (s6 + 1)) + 1))).1)).1) + 1))).1) + 1)) + 1)) + 1))).2⟩ : DActive)) hs) (((((hm.front (n := 1) rfl).front (n := 1) rfl).front (n := 2) rfl).front (n := 3) rfl).front (n := 4) rfl))) ?_
    have hn35 := rng_next (R := (Int × (List DActive))) (body := (fun k (s : Int × (List DActive)) => laws_markActiveS_b1 k s.1 s.2)) (k := k5) (s := (s6, d7)) (s' := ((laws_markRowS_m ((gt d7 k5).Rows) (IntKind.i64.wrap ((IntKind.i64.wrap ((IntKind.i64.wrap (((laws_markIntS_m ((gt d7 k5).Todo) (IntKind.i64.wrap (((laws_markIntS_m ((gt d7 k5).Query.Out) ((laws_markCondS_m ((gt d7 k5).Query.Conds) (IntKind.i64.wrap ((IntKind.i64.wrap (s6 + 1)) + 1))).1)).1) + 1))).1) + 1)) + 1)) + 1))).1, (d7.set k5 (⟨(⟨s6, (IntKind.i64.wrap (s6 + 1)), (laws_markCondS_m ((gt d7 k5).Query.Conds) (IntKind.i64.wrap ((IntKind.i64.wrap (s6 + 1)) + 1))).2, (laws_markIntS_m ((gt d7 k5).Query.Out) ((laws_markCondS_m ((gt d7 k5).Query.Conds) (IntKind.i64.wrap ((IntKind.i64.wrap (s6 + 1)) + 1))).1)).2⟩ : DQuery), (laws_markIntS_m ((gt d7 k5).Query.Out) ((laws_markCondS_m ((gt d7 k5).Query.Conds) (IntKind.i64.wrap ((IntKind.i64.wrap (s6 + 1)) + 1))).1)).1, (laws_markIntS_m ((gt d7 k5).Todo) (IntKind.i64.wrap (((laws_markIntS_m ((gt d7 k5).Query.Out) ((laws_markCondS_m ((gt d7 k5).Query.Conds) (IntKind.i64.wrap ((IntKind.i64.wrap (s6 + 1)) + 1))).1)).1) + 1))).2, (laws_markIntS_m ((gt d7 k5).Todo) (IntKind.i64.wrap (((laws_markIntS_m ((gt d7 k5).Query.Out) ((laws_markCondS_m ((gt d7 k5).Query.Conds) (IntKind.i64.wrap ((IntKind.i64.wrap (s6 + 1)) + 1))).1)).1) + 1))).1, (IntKind.i64.wrap (((laws_markIntS_m ((gt d7 k5).Todo) (IntKind.i64.wrap (((laws_markIntS_m ((gt d7 k5).Query.Out) ((laws_markCondS_m ((gt d7 k5).Query.Conds) (IntKind.i64.wrap ((IntKind.i64.wrap (s6 + 1)) + 1))).1)).1) + 1))).1) + 1)), (IntKind.i64.wrap ((IntKind.i64.wrap (((laws_markIntS_m ((gt d7 k5).Todo) (IntKind.i64.wrap (((laws_markIntS_m ((gt d7 k5).Query.Out) ((laws_markCondS_m ((gt d7 k5).Query.Conds) (IntKind.i64.wrap ((IntKind.i64.wrap (s6 + 1)) + 1))).1)).1) + 1))).1) + 1)) + 1)), (laws_markRowS_m ((gt d7 k5).Rows) (IntKind.i64.wrap ((IntKind.i64.wrap ((IntKind.i64.wrap (((laws_markIntS_m ((gt d7 k5).Todo) (IntKind.i64.wrap (((laws_markIntS_m ((gt d7 k5).Query.Out) ((laws_markCondS_m ((gt d7 k5).Query.Conds) (IntKind.i64.wrap ((IntKind.i64.wrap (s6 + 1)) + 1))).1)).1) + 1))).1) + 1)) + 1)) + 1))).2⟩ : DActive)))) (show k5 < x0.length from by omega) (show laws_markActiveS_b1 k5 s6 d7 = Sum.inr ((laws_markRowS_m ((gt d7 k5).Rows) (IntKind.i64.wrap ((IntKind.i64.wrap ((IntKind.i64.wrap (((laws_markIntS_m ((gt d7 k5).Todo) (IntKind.i64.wrap (((laws_markIntS_m ((gt d7 k5).Query.Out) ((laws_markCondS_m ((gt d7 k5).Query.Conds) (IntKind.i64.wrap ((IntKind.i64.wrap (s6 + 1)) + 1))).1)).1) + 1))).1) + 1)) + 1)) + 1))).1, (d7.set k5 (⟨(⟨s6, (IntKind.i64.wrap (s6 + 1)), (laws_markCondS_m ((gt d7 k5).Query.Conds) (IntKind.i64.wrap ((IntKind.i64.wrap (s6 + 1)) + 1))).2, (laws_markIntS_m ((gt d7 k5).Query.Out) ((laws_markCondS_m ((gt d7 k5).Query.Conds) (IntKind.i64.wrap ((IntKind.i64.wrap (s6 + 1)) + 1))).1)).2⟩ : DQuery), (laws_markIntS_m ((gt d7 k5).Query.Out) ((laws_markCondS_m ((gt d7 k5).Query.Conds) (IntKind.i64.wrap ((IntKind.i64.wrap (s6 + 1)) + 1))).1)).1, (laws_markIntS_m ((gt d7 k5).Todo) (IntKind.i64.wrap (((laws_markIntS_m ((gt d7 k5).Query.Out) ((laws_markCondS_m ((gt d7 k5).Query.Conds) (IntKind.i64.wrap ((IntKind.i64.wrap (s6 + 1)) + 1))).1)).1) + 1))).2, (laws_markIntS_m ((gt d7 k5).Todo) (IntKind.i64.wrap (((laws_markIntS_m ((gt d7 k5).Query.Out) ((laws_markCondS_m ((gt d7 k5).Query.Conds) (IntKind.i64.wrap ((IntKind.i64.wrap (s6 + 1)) + 1))).1)).1) + 1))).1, (IntKind.i64.wrap (((laws_markIntS_m ((gt d7 k5).Todo) (IntKind.i64.wrap (((laws_markIntS_m ((gt d7 k5).Query.Out) ((laws_markCondS_m ((gt d7 k5).Query.Conds) (IntKind.i64.wrap ((IntKind.i64.wrap (s6 + 1)) + 1))).1)).1) + 1))).1) + 1)), (IntKind.i64.wrap ((IntKind.i64.wrap (((laws_markIntS_m ((gt d7 k5).Todo) (IntKind.i64.wrap (((laws_markIntS_m ((gt d7 k5).Query.Out) ((laws_markCondS_m ((gt d7 k5).Query.Conds) (IntKind.i64.wrap ((IntKind.i64.wrap (s6 + 1)) + 1))).1)).1) + 1))).1) + 1)) + 1)), (laws_markRowS_m ((gt d7 k5).Rows) (IntKind.i64.wrap ((IntKind.i64.wrap ((IntKind.i64.wrap (((laws_markIntS_m ((gt d7 k5).Todo) (IntKind.i64.wrap (((laws_markIntS_m ((gt d7 k5).Query.Out) ((laws_markCondS_m ((gt d7 k5).Query.Conds) (IntKind.i64.wrap ((IntKind.i64.wrap (s6 + 1)) + 1))).1)).1) + 1))).1) + 1)) + 1)) + 1))).2⟩ : DActive))) from by unfold laws_markActiveS_b1; exact rfl) hF9
    exact QM_round (k5 + 1, ((laws_markRowS_m ((gt d7 k5).Rows) (IntKind.i64.wrap ((IntKind.i64.wrap ((IntKind.i64.wrap (((laws_markIntS_m ((gt d7 k5).Todo) (IntKind.i64.wrap (((laws_markIntS_m ((gt d7 k5).Query.Out) ((laws_markCondS_m ((gt d7 k5).Query.Conds) (IntKind.i64.wrap ((IntKind.i64.wrap (s6 + 1)) + 1))).1)).1) + 1))).1) + 1)) + 1)) + 1))).1, (d7.set k5 (⟨(⟨s6, (IntKind.i64.wrap (s6 + 1)), (laws_markCondS_m ((gt d7 k5).Query.Conds) (IntKind.i64.wrap ((IntKind.i64.wrap (s6 + 1)) + 1))).2, (laws_markIntS_m ((gt d7 k5).Query.Out) ((laws_markCondS_m ((gt d7 k5).Query.Conds) (IntKind.i64.wrap ((IntKind.i64.wrap (s6 + 1)) + 1))).1)).2⟩ : DQuery), (laws_markIntS_m ((gt d7 k5).Query.Out) ((laws_markCondS_m ((gt d7 k5).Query.Conds) (IntKind.i64.wrap ((IntKind.i64.wrap (s6 + 1)) + 1))).1)).1, (laws_markIntS_m ((gt d7 k5).Todo) (IntKind.i64.wrap (((laws_markIntS_m ((gt d7 k5).Query.Out) ((laws_markCondS_m ((gt d7 k5).Query.Conds) (IntKind.i64.wrap ((IntKind.i64.wrap (s6 + 1)) + 1))).1)).1) + 1))).2, (laws_markIntS_m ((gt d7 k5).Todo) (IntKind.i64.wrap (((laws_markIntS_m ((gt d7 k5).Query.Out) ((laws_markCondS_m ((gt d7 k5).Query.Conds) (IntKind.i64.wrap ((IntKind.i64.wrap (s6 + 1)) + 1))).1)).1) + 1))).1, (IntKind.i64.wrap (((laws_markIntS_m ((gt d7 k5).Todo) (IntKind.i64.wrap (((laws_markIntS_m ((gt d7 k5).Query.Out) ((laws_markCondS_m ((gt d7 k5).Query.Conds) (IntKind.i64.wrap ((IntKind.i64.wrap (s6 + 1)) + 1))).1)).1) + 1))).1) + 1)), (IntKind.i64.wrap ((IntKind.i64.wrap (((laws_markIntS_m ((gt d7 k5).Todo) (IntKind.i64.wrap (((laws_markIntS_m ((gt d7 k5).Query.Out) ((laws_markCondS_m ((gt d7 k5).Query.Conds) (IntKind.i64.wrap ((IntKind.i64.wrap (s6 + 1)) + 1))).1)).1) + 1))).1) + 1)) + 1)), (laws_markRowS_m ((gt d7 k5).Rows) (IntKind.i64.wrap ((IntKind.i64.wrap ((IntKind.i64.wrap (((laws_markIntS_m ((gt d7 k5).Todo) (IntKind.i64.wrap (((laws_markIntS_m ((gt d7 k5).Query.Out) ((laws_markCondS_m ((gt d7 k5).Query.Conds) (IntKind.i64.wrap ((IntKind.i64.wrap (s6 + 1)) + 1))).1)).1) + 1))).1) + 1)) + 1)) + 1))).2⟩ : DActive))), ()) (subL_cons rfl (subL_cons rfl (subL_cons rfl subL_nil))) (fun W hm => hm) ⟨(by omega), hn35⟩ (show x0.length - (k5 + 1) < x0.length - k5 from by omega)
  · have g12 : (decide (((k5 : Nat) : Int) < ((x0.length : Nat) : Int))) = false := decide_eq_false (by omega)
    refine CM_condF rfl g12 ?_
    refine CM_exit ?_
    refine QM_then_exit ?_
    refine QM_then_exit ?_
    have hE36 : rng (R := (Int × (List DActive))) (fun k (s : Int × (List DActive)) => laws_markActiveS_b1 k s.1 s.2) (x0.length - 0) 0 (x1, x0) = Sum.inr (s6, d7) := rng_end hl11 hF9
    refine QM_block_hit ?_
    refine QM_then ?_
    refine sr ?_
    refine wm ?_
    refine wa ?_
    refine nt' ?_
    refine CM_ret ?_
    refine QM_rW rfl rfl (fun W hm => ⟨?_, ?_⟩)
    · rw [(show laws_markActiveS_m x0 x1 = (s6, d7) from by unfold laws_markActiveS_m; exact fin_inr hE36 (rfl))]
    · rw [(show laws_markActiveS_m x0 x1 = (s6, d7) from by unfold laws_markActiveS_m; exact fin_inr hE36 (rfl))]; exact hm

def laws_markFinishedS_b1 (k5 : Nat) (s6 : Int) (d7 : (List DFinished)) : (Int × (List DFinished)) ⊕ (Int × (List DFinished)) :=
  Sum.inr ((laws_markRowS_m ((gt d7 k5).Rows) (IntKind.i64.wrap ((IntKind.i64.wrap (((laws_markIntS_m ((gt d7 k5).Query.Out) ((laws_markCondS_m ((gt d7 k5).Query.Conds) (IntKind.i64.wrap ((IntKind.i64.wrap (s6 + 1)) + 1))).1)).1) + 1)) + 1))).1, (d7.set k5 (⟨(⟨s6, (IntKind.i64.wrap (s6 + 1)), (laws_markCondS_m ((gt d7 k5).Query.Conds) (IntKind.i64.wrap ((IntKind.i64.wrap (s6 + 1)) + 1))).2, (laws_markIntS_m ((gt d7 k5).Query.Out) ((laws_markCondS_m ((gt d7 k5).Query.Conds) (IntKind.i64.wrap ((IntKind.i64.wrap (s6 + 1)) + 1))).1)).2⟩ : DQuery), (laws_markIntS_m ((gt d7 k5).Query.Out) ((laws_markCondS_m ((gt d7 k5).Query.Conds) (IntKind.i64.wrap ((IntKind.i64.wrap (s6 + 1)) + 1))).1)).1, (IntKind.i64.wrap (((laws_markIntS_m ((gt d7 k5).Query.Out) ((laws_markCondS_m ((gt d7 k5).Query.Conds) (IntKind.i64.wrap ((IntKind.i64.wrap (s6 + 1)) + 1))).1)).1) + 1)), (laws_markRowS_m ((gt d7 k5).Rows) (IntKind.i64.wrap ((IntKind.i64.wrap (((laws_markIntS_m ((gt d7 k5).Query.Out) ((laws_markCondS_m ((gt d7 k5).Query.Conds) (IntKind.i64.wrap ((IntKind.i64.wrap (s6 + 1)) + 1))).1)).1) + 1)) + 1))).2⟩ : DFinished)))
def laws_markFinishedS_m (x0 : (List DFinished)) (x1 : Int) : (Int × (List DFinished)) :=
  Sum.elim id (fun (s : Int × (List DFinished)) => (s.1, s.2)) (rng (R := (Int × (List DFinished))) (fun k (s : Int × (List DFinished)) => laws_markFinishedS_b1 k s.1 s.2) (x0.length - 0) 0 (x1, x0))
set_option maxRecDepth 100000 in
theorem cb131 : Cb Try.prog 131 := ⟨Try.f131, _, Try.func131, rfl, by decide⟩
set_option maxRecDepth 10000 in
set_option maxHeartbeats 4000000 in
theorem laws_markFinishedS_c (B : Nat) (w0 : World) (is : List It) (w : World) (z0 : Value) (x0 : (List DFinished)) (x1 : Int) (hm : Mem B w0 (iOwn (tSl tyFinished 136) [z0] x0 :: is) w) :
    Calls Try.prog 131 #[z0, .int .i64 x1] w fun e w' => e = .returned (.int .i64 (laws_markFinishedS_m x0 x1).1) ∧ Mem B w0 (iOwn (tSl tyFinished 136) [z0] (laws_markFinishedS_m x0 x1).2 :: is) w' := by
  refine call_enterW (L := [(0, z0), (1, .int .i64 x1)]) (N := 66) Try.func131 rfl rfl (Nat.le_of_ble_eq_true rfl) (argsL_cons rfl (argsL_cons rfl argsL_nil)) hm ?_
  refine CM_form (n := 0) rfl ?_
  rintro A1 c2 rfl m3
  refine sr ?_
  refine wa ?_
  refine nt' ?_
  refine CM_seq ?_
  refine sr ?_
  refine wa ?_
  refine nt' ?_
  refine CM_block ?_
  refine CM_loop (σ := Nat × (Int × (List DFinished)) × (Unit)) (fun s => [(0, .slice A1 x0.length c2), (1, .int .i64 s.2.1.1), (5, .int .i64 ((s.1 : Nat) : Int))]) (fun s => (iOwn (tSl tyFinished 136) [.slice A1 x0.length c2] s.2.1.2 :: is)) (fun s => s.1 ≤ x0.length ∧ rng (R := (Int × (List DFinished))) (fun k (s : Int × (List DFinished)) => laws_markFinishedS_b1 k s.1 s.2) (x0.length - s.1) s.1 s.2.1 = rng (R := (Int × (List DFinished))) (fun k (s : Int × (List DFinished)) => laws_markFinishedS_b1 k s.1 s.2) (x0.length - 0) 0 (x1, x0)) (fun s => x0.length - s.1) (0, (x1, x0), ()) (subL_cons rfl (subL_cons rfl (subL_cons rfl subL_nil))) (fun W hm => hm) ⟨(by omega), rfl⟩ ?_
  rintro ⟨k5, ⟨s6, d7⟩, ⟨⟩⟩ H10
  obtain ⟨hk8, hF9⟩ : k5 ≤ x0.length ∧ rng (R := (Int × (List DFinished))) (fun k (s : Int × (List DFinished)) => laws_markFinishedS_b1 k s.1 s.2) (x0.length - k5) k5 (s6, d7) = rng (R := (Int × (List DFinished))) (fun k (s : Int × (List DFinished)) => laws_markFinishedS_b1 k s.1 s.2) (x0.length - 0) 0 (x1, x0) := H10
  show CM Try.prog 66 _ _ _ _ [(0, .slice A1 x0.length c2), (1, .int .i64 s6), (5, .int .i64 ((k5 : Nat) : Int))] (iOwn (tSl tyFinished 136) [.slice A1 x0.length c2] d7 :: is)
  refine CM_seq ?_
  refine sr ?_
  refine wm ?_
  refine wm ?_
  refine wv (fun W hm => rv_len Try.underlying74 rfl) ?_
  refine wv (fun W hm => rv_lss rfl rfl) ?_
  refine nt' ?_
  by_cases hl11 : k5 < x0.length
  · have g12 : (decide (((k5 : Nat) : Int) < ((x0.length : Nat) : Int))) = true := decide_eq_true (by omega)
    refine CM_condT rfl g12 ?_
    refine CM_skip ?_
    refine QM_then ?_
    refine CM_seq ?_
    refine CM_block ?_
    refine sr ?_
    refine wm ?_
    refine wm ?_
    refine wm ?_
    refine WM_formO (n := 0) rfl (by omega) ?_
    rintro g13 rfl
    refine wv (fun W hm => rv_index (sz := 7) (k := k5) Try.underlying74 Try.type136 rfl rfl rfl (by omega)) ?_
    refine wv (fun W hm => rv_field Try.underlying136 rfl Try.type125 (by decide) rfl rfl) ?_
    refine wv (fun W hm => rv_fieldA (o := 0) Try.underlying125 rfl Try.type3 (by decide) rfl rfl) ?_
    refine WM_focus (E := tyFinished) (e := 136) (A := (some ⟨g13, 0, none⟩)) (n := x0.length) (c := c2) (xs := d7) (k := k5) (js := (is)) (by omega) (fun W hm => (hm.front (n := 0) rfl)) (fun ck14 => ?_)
    refine WM_split (γ := Value × Value × Value) (js := fun g => [iOwn (tSl tyCond 183) [g.1] ((gt d7 k5).Query.Conds), iOwn (tSl tInt 3) [g.2.1] ((gt d7 k5).Query.Out), iOwn (tSl tyRow 29) [g.2.2] ((gt d7 k5).Rows)]) (C := fun g => ck14 = [.int .i64 ((gt d7 k5).Query.Id), .int .i64 ((gt d7 k5).Query.Tenant), g.1, g.2.1, .int .i64 ((gt d7 k5).Time), .int .i64 ((gt d7 k5).Steps), g.2.2]) (fun _ _ h => tyFinished_split h) ?_
    rintro ⟨v15, v16, v17⟩ rfl
    refine WM_form (n := 0) rfl ?_
    rintro A18 c19 rfl m20
    refine WM_form (n := 1) rfl ?_
    rintro A22 c23 rfl m24
    refine WM_form (n := 2) rfl ?_
    rintro A26 c27 rfl m28
    refine WM_storeFoc (E := tyFinished) (e := 136) (g := g13) (n := x0.length) (c := c2) (k := k5) (s := 7) (o := 0) (xs := d7) (ck := [.int .i64 ((gt d7 k5).Query.Id), .int .i64 ((gt d7 k5).Query.Tenant), .slice A18 ((gt d7 k5).Query.Conds).length c19, .slice A22 ((gt d7 k5).Query.Out).length c23, .int .i64 ((gt d7 k5).Time), .int .i64 ((gt d7 k5).Steps), .slice A26 ((gt d7 k5).Rows).length c27]) (ck' := [.int .i64 s6, .int .i64 ((gt d7 k5).Query.Tenant), .slice A18 ((gt d7 k5).Query.Conds).length c19, .slice A22 ((gt d7 k5).Query.Out).length c23, .int .i64 ((gt d7 k5).Time), .int .i64 ((gt d7 k5).Steps), .slice A26 ((gt d7 k5).Rows).length c27]) (js := (iOwn (tSl tyCond 183) [.slice A18 ((gt d7 k5).Query.Conds).length c19] ((gt d7 k5).Query.Conds) :: iOwn (tSl tInt 3) [.slice A22 ((gt d7 k5).Query.Out).length c23] ((gt d7 k5).Query.Out) :: iOwn (tSl tyRow 29) [.slice A26 ((gt d7 k5).Rows).length c27] ((gt d7 k5).Rows) :: is)) (fun W hm => (hm.front (n := 3) rfl)) rfl rfl Try.type3 rfl (Nat.le_of_ble_eq_true rfl) rfl rfl rfl rfl (Wd_none rfl) ?_
    refine nt' ?_
    refine sr ?_
    refine wm ?_
    refine wv (fun W hm => rv_add rfl rfl) ?_
    refine wa ?_
    refine nt' ?_
    refine sr ?_
    refine wm ?_
    refine wm ?_
    refine wm ?_
    refine wv (fun W hm => rv_index (sz := 7) (k := k5) Try.underlying74 Try.type136 rfl rfl rfl (by omega)) ?_
    refine wv (fun W hm => rv_field Try.underlying136 rfl Try.type125 (by decide) rfl rfl) ?_
    refine wv (fun W hm => rv_fieldA (o := 1) Try.underlying125 rfl Try.type3 (by decide) rfl rfl) ?_
    refine WM_storeFoc (E := tyFinished) (e := 136) (g := g13) (n := x0.length) (c := c2) (k := k5) (s := 7) (o := 1) (xs := d7) (ck := [.int .i64 s6, .int .i64 ((gt d7 k5).Query.Tenant), .slice A18 ((gt d7 k5).Query.Conds).length c19, .slice A22 ((gt d7 k5).Query.Out).length c23, .int .i64 ((gt d7 k5).Time), .int .i64 ((gt d7 k5).Steps), .slice A26 ((gt d7 k5).Rows).length c27]) (ck' := [.int .i64 s6, .int .i64 (IntKind.i64.wrap (s6 + 1)), .slice A18 ((gt d7 k5).Query.Conds).length c19, .slice A22 ((gt d7 k5).Query.Out).length c23, .int .i64 ((gt d7 k5).Time), .int .i64 ((gt d7 k5).Steps), .slice A26 ((gt d7 k5).Rows).length c27]) (js := (iOwn (tSl tyCond 183) [.slice A18 ((gt d7 k5).Query.Conds).length c19] ((gt d7 k5).Query.Conds) :: iOwn (tSl tInt 3) [.slice A22 ((gt d7 k5).Query.Out).length c23] ((gt d7 k5).Query.Out) :: iOwn (tSl tyRow 29) [.slice A26 ((gt d7 k5).Rows).length c27] ((gt d7 k5).Rows) :: is)) (fun W hm => (hm.front (n := 0) rfl)) rfl rfl Try.type3 rfl (Nat.le_of_ble_eq_true rfl) rfl rfl rfl rfl (Wd_none rfl) ?_
    refine nt' ?_
    refine sr ?_
    refine wm ?_
    refine wv (fun W hm => rv_add rfl rfl) ?_
    refine wa ?_
    refine nt' ?_
    refine sr ?_
    refine wm ?_
    refine wm ?_
    refine wv (fun W hm => rv_index (sz := 7) (k := k5) Try.underlying74 Try.type136 rfl rfl rfl (by omega)) ?_
    refine wv (fun W hm => rv_field Try.underlying136 rfl Try.type125 (by decide) rfl rfl) ?_
    refine wv (fun W hm => rv_fieldA (o := 2) Try.underlying125 rfl Try.type123 (by decide) rfl rfl) ?_
    refine wv (fun W hm => rv_load Try.underlying123 rfl rfl (hm.focCells (i := 0) rfl rfl 2 _ rfl)) ?_
    refine wm ?_
    refine WM_callW (χ := Unit) (val := fun _ => .int .i64 (laws_markCondS_m ((gt d7 k5).Query.Conds) (IntKind.i64.wrap ((IntKind.i64.wrap (s6 + 1)) + 1))).1) (js := fun _ => (iOwn (tSl tyCond 183) [.slice A18 ((gt d7 k5).Query.Conds).length c19] (laws_markCondS_m ((gt d7 k5).Query.Conds) (IntKind.i64.wrap ((IntKind.i64.wrap (s6 + 1)) + 1))).2 :: (iFoc tyFinished 136 (some ⟨g13, 0, none⟩) x0.length c2 d7 k5 [.int .i64 s6, .int .i64 (IntKind.i64.wrap (s6 + 1)), .slice A18 ((gt d7 k5).Query.Conds).length c19, .slice A22 ((gt d7 k5).Query.Out).length c23, .int .i64 ((gt d7 k5).Time), .int .i64 ((gt d7 k5).Steps), .slice A26 ((gt d7 k5).Rows).length c27] :: iOwn (tSl tInt 3) [.slice A22 ((gt d7 k5).Query.Out).length c23] ((gt d7 k5).Query.Out) :: iOwn (tSl tyRow 29) [.slice A26 ((gt d7 k5).Rows).length c27] ((gt d7 k5).Rows) :: is))) (cl_fn cb182 rfl) (fun W hm => (laws_markCondS_c B w0 (iFoc tyFinished 136 (some ⟨g13, 0, none⟩) x0.length c2 d7 k5 [.int .i64 s6, .int .i64 (IntKind.i64.wrap (s6 + 1)), .slice A18 ((gt d7 k5).Query.Conds).length c19, .slice A22 ((gt d7 k5).Query.Out).length c23, .int .i64 ((gt d7 k5).Time), .int .i64 ((gt d7 k5).Steps), .slice A26 ((gt d7 k5).Rows).length c27] :: iOwn (tSl tInt 3) [.slice A22 ((gt d7 k5).Query.Out).length c23] ((gt d7 k5).Query.Out) :: iOwn (tSl tyRow 29) [.slice A26 ((gt d7 k5).Rows).length c27] ((gt d7 k5).Rows) :: is) W (.slice A18 ((gt d7 k5).Query.Conds).length c19) ((gt d7 k5).Query.Conds) (IntKind.i64.wrap ((IntKind.i64.wrap (s6 + 1)) + 1)) (hm.front (n := 1) rfl)).mono (fun _ _ h => ⟨(), h.1, h.2⟩)) (Wd_none rfl) (by decide) (fun _ => ?_)
    refine wa ?_
    refine nt' ?_
    refine sr ?_
    refine wm ?_
    refine wm ?_
    refine wv (fun W hm => rv_index (sz := 7) (k := k5) Try.underlying74 Try.type136 rfl rfl rfl (by omega)) ?_
    refine wv (fun W hm => rv_field Try.underlying136 rfl Try.type125 (by decide) rfl rfl) ?_
    refine wv (fun W hm => rv_fieldA (o := 3) Try.underlying125 rfl Try.type27 (by decide) rfl rfl) ?_
    refine wv (fun W hm => rv_load Try.underlying27 rfl rfl (hm.focCells (i := 1) rfl rfl 3 _ rfl)) ?_
    refine wm ?_
    refine WM_callW (χ := Unit) (val := fun _ => .int .i64 (laws_markIntS_m ((gt d7 k5).Query.Out) ((laws_markCondS_m ((gt d7 k5).Query.Conds) (IntKind.i64.wrap ((IntKind.i64.wrap (s6 + 1)) + 1))).1)).1) (js := fun _ => (iOwn (tSl tInt 3) [.slice A22 ((gt d7 k5).Query.Out).length c23] (laws_markIntS_m ((gt d7 k5).Query.Out) ((laws_markCondS_m ((gt d7 k5).Query.Conds) (IntKind.i64.wrap ((IntKind.i64.wrap (s6 + 1)) + 1))).1)).2 :: (iOwn (tSl tyCond 183) [.slice A18 ((gt d7 k5).Query.Conds).length c19] ((laws_markCondS_m ((gt d7 k5).Query.Conds) (IntKind.i64.wrap ((IntKind.i64.wrap (s6 + 1)) + 1))).2) :: iFoc tyFinished 136 (some ⟨g13, 0, none⟩) x0.length c2 d7 k5 [.int .i64 s6, .int .i64 (IntKind.i64.wrap (s6 + 1)), .slice A18 ((gt d7 k5).Query.Conds).length c19, .slice A22 ((gt d7 k5).Query.Out).length c23, .int .i64 ((gt d7 k5).Time), .int .i64 ((gt d7 k5).Steps), .slice A26 ((gt d7 k5).Rows).length c27] :: iOwn (tSl tyRow 29) [.slice A26 ((gt d7 k5).Rows).length c27] ((gt d7 k5).Rows) :: is))) (cl_fn cb68 rfl) (fun W hm => (laws_markIntS_c B w0 (iOwn (tSl tyCond 183) [.slice A18 ((gt d7 k5).Query.Conds).length c19] ((laws_markCondS_m ((gt d7 k5).Query.Conds) (IntKind.i64.wrap ((IntKind.i64.wrap (s6 + 1)) + 1))).2) :: iFoc tyFinished 136 (some ⟨g13, 0, none⟩) x0.length c2 d7 k5 [.int .i64 s6, .int .i64 (IntKind.i64.wrap (s6 + 1)), .slice A18 ((gt d7 k5).Query.Conds).length c19, .slice A22 ((gt d7 k5).Query.Out).length c23, .int .i64 ((gt d7 k5).Time), .int .i64 ((gt d7 k5).Steps), .slice A26 ((gt d7 k5).Rows).length c27] :: iOwn (tSl tyRow 29) [.slice A26 ((gt d7 k5).Rows).length c27] ((gt d7 k5).Rows) :: is) W (.slice A22 ((gt d7 k5).Query.Out).length c23) ((gt d7 k5).Query.Out) ((laws_markCondS_m ((gt d7 k5).Query.Conds) (IntKind.i64.wrap ((IntKind.i64.wrap (s6 + 1)) + 1))).1) (hm.front (n := 2) rfl)).mono (fun _ _ h => ⟨(), h.1, h.2⟩)) (Wd_none rfl) (by decide) (fun _ => ?_)
    refine wa ?_
    refine nt' ?_
    refine sr ?_
    refine wm ?_
    refine wm ?_
    refine wm ?_
    refine wv (fun W hm => rv_index (sz := 7) (k := k5) Try.underlying74 Try.type136 rfl rfl rfl (by omega)) ?_
    refine wv (fun W hm => rv_field Try.underlying136 rfl Try.type3 (by decide) rfl rfl) ?_
    refine WM_storeFoc (E := tyFinished) (e := 136) (g := g13) (n := x0.length) (c := c2) (k := k5) (s := 7) (o := 4) (xs := d7) (ck := [.int .i64 s6, .int .i64 (IntKind.i64.wrap (s6 + 1)), .slice A18 ((gt d7 k5).Query.Conds).length c19, .slice A22 ((gt d7 k5).Query.Out).length c23, .int .i64 ((gt d7 k5).Time), .int .i64 ((gt d7 k5).Steps), .slice A26 ((gt d7 k5).Rows).length c27]) (ck' := [.int .i64 s6, .int .i64 (IntKind.i64.wrap (s6 + 1)), .slice A18 ((gt d7 k5).Query.Conds).length c19, .slice A22 ((gt d7 k5).Query.Out).length c23, .int .i64 ((laws_markIntS_m ((gt d7 k5).Query.Out) ((laws_markCondS_m ((gt d7 k5).Query.Conds) (IntKind.i64.wrap ((IntKind.i64.wrap (s6 + 1)) + 1))).1)).1), .int .i64 ((gt d7 k5).Steps), .slice A26 ((gt d7 k5).Rows).length c27]) (js := (iOwn (tSl tInt 3) [.slice A22 ((gt d7 k5).Query.Out).length c23] ((laws_markIntS_m ((gt d7 k5).Query.Out) ((laws_markCondS_m ((gt d7 k5).Query.Conds) (IntKind.i64.wrap ((IntKind.i64.wrap (s6 + 1)) + 1))).1)).2) :: iOwn (tSl tyCond 183) [.slice A18 ((gt d7 k5).Query.Conds).length c19] ((laws_markCondS_m ((gt d7 k5).Query.Conds) (IntKind.i64.wrap ((IntKind.i64.wrap (s6 + 1)) + 1))).2) :: iOwn (tSl tyRow 29) [.slice A26 ((gt d7 k5).Rows).length c27] ((gt d7 k5).Rows) :: is)) (fun W hm => (hm.front (n := 2) rfl)) rfl rfl Try.type3 rfl (Nat.le_of_ble_eq_true rfl) rfl rfl rfl rfl (Wd_none rfl) ?_
    refine nt' ?_
    refine sr ?_
    refine wm ?_
    refine wv (fun W hm => rv_add rfl rfl) ?_
    refine wa ?_
    refine nt' ?_
    refine sr ?_
    refine wm ?_
    refine wm ?_
    refine wm ?_
    refine wv (fun W hm => rv_index (sz := 7) (k := k5) Try.underlying74 Try.type136 rfl rfl rfl (by omega)) ?_
    refine wv (fun W hm => rv_field Try.underlying136 rfl Try.type3 (by decide) rfl rfl) ?_
    refine WM_storeFoc (E := tyFinished) (e := 136) (g := g13) (n := x0.length) (c := c2) (k := k5) (s := 7) (o := 5) (xs := d7) (ck := [.int .i64 s6, .int .i64 (IntKind.i64.wrap (s6 + 1)), .slice A18 ((gt d7 k5).Query.Conds).length c19, .slice A22 ((gt d7 k5).Query.Out).length c23, .int .i64 ((laws_markIntS_m ((gt d7 k5).Query.Out) ((laws_markCondS_m ((gt d7 k5).Query.Conds) (IntKind.i64.wrap ((IntKind.i64.wrap (s6 + 1)) + 1))).1)).1), .int .i64 ((gt d7 k5).Steps), .slice A26 ((gt d7 k5).Rows).length c27]) (ck' := [.int .i64 s6, .int .i64 (IntKind.i64.wrap (s6 + 1)), .slice A18 ((gt d7 k5).Query.Conds).length c19, .slice A22 ((gt d7 k5).Query.Out).length c23, .int .i64 ((laws_markIntS_m ((gt d7 k5).Query.Out) ((laws_markCondS_m ((gt d7 k5).Query.Conds) (IntKind.i64.wrap ((IntKind.i64.wrap (s6 + 1)) + 1))).1)).1), .int .i64 (IntKind.i64.wrap (((laws_markIntS_m ((gt d7 k5).Query.Out) ((laws_markCondS_m ((gt d7 k5).Query.Conds) (IntKind.i64.wrap ((IntKind.i64.wrap (s6 + 1)) + 1))).1)).1) + 1)), .slice A26 ((gt d7 k5).Rows).length c27]) (js := (iOwn (tSl tInt 3) [.slice A22 ((gt d7 k5).Query.Out).length c23] ((laws_markIntS_m ((gt d7 k5).Query.Out) ((laws_markCondS_m ((gt d7 k5).Query.Conds) (IntKind.i64.wrap ((IntKind.i64.wrap (s6 + 1)) + 1))).1)).2) :: iOwn (tSl tyCond 183) [.slice A18 ((gt d7 k5).Query.Conds).length c19] ((laws_markCondS_m ((gt d7 k5).Query.Conds) (IntKind.i64.wrap ((IntKind.i64.wrap (s6 + 1)) + 1))).2) :: iOwn (tSl tyRow 29) [.slice A26 ((gt d7 k5).Rows).length c27] ((gt d7 k5).Rows) :: is)) (fun W hm => (hm.front (n := 0) rfl)) rfl rfl Try.type3 rfl (Nat.le_of_ble_eq_true rfl) rfl rfl rfl rfl (Wd_none rfl) ?_
    refine nt' ?_
    refine sr ?_
    refine wm ?_
    refine wv (fun W hm => rv_add rfl rfl) ?_
    refine wa ?_
    refine nt' ?_
    refine CM_region ?_
    refine wm ?_
    refine wm ?_
    refine wv (fun W hm => rv_index (sz := 7) (k := k5) Try.underlying74 Try.type136 rfl rfl rfl (by omega)) ?_
    refine wv (fun W hm => rv_field Try.underlying136 rfl Try.type39 (by decide) rfl rfl) ?_
    refine wv (fun W hm => rv_load Try.underlying39 rfl rfl (hm.focCells (i := 0) rfl rfl 6 _ rfl)) ?_
    refine wm ?_
    refine WM_callW (χ := Unit) (val := fun _ => .int .i64 (laws_markRowS_m ((gt d7 k5).Rows) (IntKind.i64.wrap ((IntKind.i64.wrap (((laws_markIntS_m ((gt d7 k5).Query.Out) ((laws_markCondS_m ((gt d7 k5).Query.Conds) (IntKind.i64.wrap ((IntKind.i64.wrap (s6 + 1)) + 1))).1)).1) + 1)) + 1))).1) (js := fun _ => (iOwn (tSl tyRow 29) [.slice A26 ((gt d7 k5).Rows).length c27] (laws_markRowS_m ((gt d7 k5).Rows) (IntKind.i64.wrap ((IntKind.i64.wrap (((laws_markIntS_m ((gt d7 k5).Query.Out) ((laws_markCondS_m ((gt d7 k5).Query.Conds) (IntKind.i64.wrap ((IntKind.i64.wrap (s6 + 1)) + 1))).1)).1) + 1)) + 1))).2 :: (iFoc tyFinished 136 (some ⟨g13, 0, none⟩) x0.length c2 d7 k5 [.int .i64 s6, .int .i64 (IntKind.i64.wrap (s6 + 1)), .slice A18 ((gt d7 k5).Query.Conds).length c19, .slice A22 ((gt d7 k5).Query.Out).length c23, .int .i64 ((laws_markIntS_m ((gt d7 k5).Query.Out) ((laws_markCondS_m ((gt d7 k5).Query.Conds) (IntKind.i64.wrap ((IntKind.i64.wrap (s6 + 1)) + 1))).1)).1), .int .i64 (IntKind.i64.wrap (((laws_markIntS_m ((gt d7 k5).Query.Out) ((laws_markCondS_m ((gt d7 k5).Query.Conds) (IntKind.i64.wrap ((IntKind.i64.wrap (s6 + 1)) + 1))).1)).1) + 1)), .slice A26 ((gt d7 k5).Rows).length c27] :: iOwn (tSl tInt 3) [.slice A22 ((gt d7 k5).Query.Out).length c23] ((laws_markIntS_m ((gt d7 k5).Query.Out) ((laws_markCondS_m ((gt d7 k5).Query.Conds) (IntKind.i64.wrap ((IntKind.i64.wrap (s6 + 1)) + 1))).1)).2) :: iOwn (tSl tyCond 183) [.slice A18 ((gt d7 k5).Query.Conds).length c19] ((laws_markCondS_m ((gt d7 k5).Query.Conds) (IntKind.i64.wrap ((IntKind.i64.wrap (s6 + 1)) + 1))).2) :: is))) (cl_fn cb183 rfl) (fun W hm => (laws_markRowS_c B w0 (iFoc tyFinished 136 (some ⟨g13, 0, none⟩) x0.length c2 d7 k5 [.int .i64 s6, .int .i64 (IntKind.i64.wrap (s6 + 1)), .slice A18 ((gt d7 k5).Query.Conds).length c19, .slice A22 ((gt d7 k5).Query.Out).length c23, .int .i64 ((laws_markIntS_m ((gt d7 k5).Query.Out) ((laws_markCondS_m ((gt d7 k5).Query.Conds) (IntKind.i64.wrap ((IntKind.i64.wrap (s6 + 1)) + 1))).1)).1), .int .i64 (IntKind.i64.wrap (((laws_markIntS_m ((gt d7 k5).Query.Out) ((laws_markCondS_m ((gt d7 k5).Query.Conds) (IntKind.i64.wrap ((IntKind.i64.wrap (s6 + 1)) + 1))).1)).1) + 1)), .slice A26 ((gt d7 k5).Rows).length c27] :: iOwn (tSl tInt 3) [.slice A22 ((gt d7 k5).Query.Out).length c23] ((laws_markIntS_m ((gt d7 k5).Query.Out) ((laws_markCondS_m ((gt d7 k5).Query.Conds) (IntKind.i64.wrap ((IntKind.i64.wrap (s6 + 1)) + 1))).1)).2) :: iOwn (tSl tyCond 183) [.slice A18 ((gt d7 k5).Query.Conds).length c19] ((laws_markCondS_m ((gt d7 k5).Query.Conds) (IntKind.i64.wrap ((IntKind.i64.wrap (s6 + 1)) + 1))).2) :: is) W (.slice A26 ((gt d7 k5).Rows).length c27) ((gt d7 k5).Rows) (IntKind.i64.wrap ((IntKind.i64.wrap (((laws_markIntS_m ((gt d7 k5).Query.Out) ((laws_markCondS_m ((gt d7 k5).Query.Conds) (IntKind.i64.wrap ((IntKind.i64.wrap (s6 + 1)) + 1))).1)).1) + 1)) + 1)) (hm.front (n := 3) rfl)).mono (fun _ _ h => ⟨(), h.1, h.2⟩)) (Wd_none rfl) (by decide) (fun _ => ?_)
    refine wa ?_
    refine WM_nil ?_
    refine QM_block_normal ?_
    refine QM_then ?_
    refine CM_region ?_
    refine wm ?_
    refine wv (fun W hm => rv_addN (p := k5) (q := 1) rfl rfl (by omega)) ?_
    refine wa ?_
    refine WM_nil ?_
    refine QM_items (fun W hm => Mem.unfocus (Mem.join (is := [iOwn (tSl tyCond 183) [.slice A18 ((gt d7 k5).Query.Conds).length c19] ((laws_markCondS_m ((gt d7 k5).Query.Conds) (IntKind.i64.wrap ((IntKind.i64.wrap (s6 + 1)) + 1))).2), iOwn (tSl tInt 3) [.slice A22 ((gt d7 k5).Query.Out).length c23] ((laws_markIntS_m ((gt d7 k5).Query.Out) ((laws_markCondS_m ((gt d7 k5).Query.Conds) (IntKind.i64.wrap ((IntKind.i64.wrap (s6 + 1)) + 1))).1)).2), iOwn (tSl tyRow 29) [.slice A26 ((gt d7 k5).Rows).length c27] ((laws_markRowS_m ((gt d7 k5).Rows) (IntKind.i64.wrap ((IntKind.i64.wrap (((laws_markIntS_m ((gt d7 k5).Query.Out) ((laws_markCondS_m ((gt d7 k5).Query.Conds) (IntKind.i64.wrap ((IntKind.i64.wrap (s6 + 1)) + 1))).1)).1) + 1)) + 1))).2)]) (js := (iFoc tyFinished 136 (some ⟨g13, 0, none⟩) x0.length c2 d7 k5 [.int .i64 s6, .int .i64 (IntKind.i64.wrap (s6 + 1)), .slice A18 ((gt d7 k5).Query.Conds).length c19, .slice A22 ((gt d7 k5).Query.Out).length c23, .int .i64 ((laws_markIntS_m ((gt d7 k5).Query.Out) ((laws_markCondS_m ((gt d7 k5).Query.Conds) (IntKind.i64.wrap ((IntKind.i64.wrap (s6 + 1)) + 1))).1)).1), .int .i64 (IntKind.i64.wrap (((laws_markIntS_m ((gt d7 k5).Query.Out) ((laws_markCondS_m ((gt d7 k5).Query.Conds) (IntKind.i64.wrap ((IntKind.i64.wrap (s6 + 1)) + 1))).1)).1) + 1)), .slice A26 ((gt d7 k5).Rows).length c27] :: (is))) (fun _ _ hs => tyFinished_join (x := (⟨(⟨s6, (IntKind.i64.wrap (s6 + 1)), (laws_markCondS_m ((gt d7 k5).Query.Conds) (IntKind.i64.wrap ((IntKind.i64.wrap (s6 + 1)) + 1))).2, (laws_markIntS_m ((gt d7 k5).Query.Out) ((laws_markCondS_m ((gt d7 k5).Query.Conds) (IntKind.i64.wrap ((IntKind.i64.wrap (s6 + 1)) + 1))).1)).2⟩ : DQuery), (laws_markIntS_m ((gt d7 k5).Query.Out) ((laws_markCondS_m ((gt d7 k5).Query.Conds) (IntKind.i64.wrap ((IntKind.i64.wrap (s6 + 1)) + 1))).1)).1, (IntKind.i64.wrap (((laws_markIntS_m ((gt d7 k5).Query.Out) ((laws_markCondS_m ((gt d7 k5).Query.Conds) (IntKind.i64.wrap ((IntKind.i64.wrap (s6 + 1)) + 1))).1)).1) + 1)), (laws_markRowS_m ((gt d7 k5).Rows) (IntKind.i64.wrap ((IntKind.i64.wrap (((laws_markIntS_m ((gt d7 k5).Query.Out) ((laws_markCondS_m ((gt d7 k5).Query.Conds) (IntKind.i64.wrap ((IntKind.i64.wrap (s6 + 1)) + 1))).1)).1) + 1)) + 1))).2⟩ : DFinished)) hs) ((((hm.front (n := 1) rfl).front (n := 1) rfl).front (n := 2) rfl).front (n := 3) rfl))) ?_
    have hn30 := rng_next (R := (Int × (List DFinished))) (body := (fun k (s : Int × (List DFinished)) => laws_markFinishedS_b1 k s.1 s.2)) (k := k5) (s := (s6, d7)) (s' := ((laws_markRowS_m ((gt d7 k5).Rows) (IntKind.i64.wrap ((IntKind.i64.wrap (((laws_markIntS_m ((gt d7 k5).Query.Out) ((laws_markCondS_m ((gt d7 k5).Query.Conds) (IntKind.i64.wrap ((IntKind.i64.wrap (s6 + 1)) + 1))).1)).1) + 1)) + 1))).1, (d7.set k5 (⟨(⟨s6, (IntKind.i64.wrap (s6 + 1)), (laws_markCondS_m ((gt d7 k5).Query.Conds) (IntKind.i64.wrap ((IntKind.i64.wrap (s6 + 1)) + 1))).2, (laws_markIntS_m ((gt d7 k5).Query.Out) ((laws_markCondS_m ((gt d7 k5).Query.Conds) (IntKind.i64.wrap ((IntKind.i64.wrap (s6 + 1)) + 1))).1)).2⟩ : DQuery), (laws_markIntS_m ((gt d7 k5).Query.Out) ((laws_markCondS_m ((gt d7 k5).Query.Conds) (IntKind.i64.wrap ((IntKind.i64.wrap (s6 + 1)) + 1))).1)).1, (IntKind.i64.wrap (((laws_markIntS_m ((gt d7 k5).Query.Out) ((laws_markCondS_m ((gt d7 k5).Query.Conds) (IntKind.i64.wrap ((IntKind.i64.wrap (s6 + 1)) + 1))).1)).1) + 1)), (laws_markRowS_m ((gt d7 k5).Rows) (IntKind.i64.wrap ((IntKind.i64.wrap (((laws_markIntS_m ((gt d7 k5).Query.Out) ((laws_markCondS_m ((gt d7 k5).Query.Conds) (IntKind.i64.wrap ((IntKind.i64.wrap (s6 + 1)) + 1))).1)).1) + 1)) + 1))).2⟩ : DFinished)))) (show k5 < x0.length from by omega) (show laws_markFinishedS_b1 k5 s6 d7 = Sum.inr ((laws_markRowS_m ((gt d7 k5).Rows) (IntKind.i64.wrap ((IntKind.i64.wrap (((laws_markIntS_m ((gt d7 k5).Query.Out) ((laws_markCondS_m ((gt d7 k5).Query.Conds) (IntKind.i64.wrap ((IntKind.i64.wrap (s6 + 1)) + 1))).1)).1) + 1)) + 1))).1, (d7.set k5 (⟨(⟨s6, (IntKind.i64.wrap (s6 + 1)), (laws_markCondS_m ((gt d7 k5).Query.Conds) (IntKind.i64.wrap ((IntKind.i64.wrap (s6 + 1)) + 1))).2, (laws_markIntS_m ((gt d7 k5).Query.Out) ((laws_markCondS_m ((gt d7 k5).Query.Conds) (IntKind.i64.wrap ((IntKind.i64.wrap (s6 + 1)) + 1))).1)).2⟩ : DQuery), (laws_markIntS_m ((gt d7 k5).Query.Out) ((laws_markCondS_m ((gt d7 k5).Query.Conds) (IntKind.i64.wrap ((IntKind.i64.wrap (s6 + 1)) + 1))).1)).1, (IntKind.i64.wrap (((laws_markIntS_m ((gt d7 k5).Query.Out) ((laws_markCondS_m ((gt d7 k5).Query.Conds) (IntKind.i64.wrap ((IntKind.i64.wrap (s6 + 1)) + 1))).1)).1) + 1)), (laws_markRowS_m ((gt d7 k5).Rows) (IntKind.i64.wrap ((IntKind.i64.wrap (((laws_markIntS_m ((gt d7 k5).Query.Out) ((laws_markCondS_m ((gt d7 k5).Query.Conds) (IntKind.i64.wrap ((IntKind.i64.wrap (s6 + 1)) + 1))).1)).1) + 1)) + 1))).2⟩ : DFinished))) from by unfold laws_markFinishedS_b1; exact rfl) hF9
    exact QM_round (k5 + 1, ((laws_markRowS_m ((gt d7 k5).Rows) (IntKind.i64.wrap ((IntKind.i64.wrap (((laws_markIntS_m ((gt d7 k5).Query.Out) ((laws_markCondS_m ((gt d7 k5).Query.Conds) (IntKind.i64.wrap ((IntKind.i64.wrap (s6 + 1)) + 1))).1)).1) + 1)) + 1))).1, (d7.set k5 (⟨(⟨s6, (IntKind.i64.wrap (s6 + 1)), (laws_markCondS_m ((gt d7 k5).Query.Conds) (IntKind.i64.wrap ((IntKind.i64.wrap (s6 + 1)) + 1))).2, (laws_markIntS_m ((gt d7 k5).Query.Out) ((laws_markCondS_m ((gt d7 k5).Query.Conds) (IntKind.i64.wrap ((IntKind.i64.wrap (s6 + 1)) + 1))).1)).2⟩ : DQuery), (laws_markIntS_m ((gt d7 k5).Query.Out) ((laws_markCondS_m ((gt d7 k5).Query.Conds) (IntKind.i64.wrap ((IntKind.i64.wrap (s6 + 1)) + 1))).1)).1, (IntKind.i64.wrap (((laws_markIntS_m ((gt d7 k5).Query.Out) ((laws_markCondS_m ((gt d7 k5).Query.Conds) (IntKind.i64.wrap ((IntKind.i64.wrap (s6 + 1)) + 1))).1)).1) + 1)), (laws_markRowS_m ((gt d7 k5).Rows) (IntKind.i64.wrap ((IntKind.i64.wrap (((laws_markIntS_m ((gt d7 k5).Query.Out) ((laws_markCondS_m ((gt d7 k5).Query.Conds) (IntKind.i64.wrap ((IntKind.i64.wrap (s6 + 1)) + 1))).1)).1) + 1)) + 1))).2⟩ : DFinished))), ()) (subL_cons rfl (subL_cons rfl (subL_cons rfl subL_nil))) (fun W hm => hm) ⟨(by omega), hn30⟩ (show x0.length - (k5 + 1) < x0.length - k5 from by omega)
  · have g12 : (decide (((k5 : Nat) : Int) < ((x0.length : Nat) : Int))) = false := decide_eq_false (by omega)
    refine CM_condF rfl g12 ?_
    refine CM_exit ?_
    refine QM_then_exit ?_
    refine QM_then_exit ?_
    have hE31 : rng (R := (Int × (List DFinished))) (fun k (s : Int × (List DFinished)) => laws_markFinishedS_b1 k s.1 s.2) (x0.length - 0) 0 (x1, x0) = Sum.inr (s6, d7) := rng_end hl11 hF9
    refine QM_block_hit ?_
    refine QM_then ?_
    refine sr ?_
    refine wm ?_
    refine wa ?_
    refine nt' ?_
    refine CM_ret ?_
    refine QM_rW rfl rfl (fun W hm => ⟨?_, ?_⟩)
    · rw [(show laws_markFinishedS_m x0 x1 = (s6, d7) from by unfold laws_markFinishedS_m; exact fin_inr hE31 (rfl))]
    · rw [(show laws_markFinishedS_m x0 x1 = (s6, d7) from by unfold laws_markFinishedS_m; exact fin_inr hE31 (rfl))]; exact hm

def laws_markChargeS_b1 (k5 : Nat) (s6 : Int) (d7 : (List DCharge)) : (Int × (List DCharge)) ⊕ (Int × (List DCharge)) :=
  Sum.inr ((laws_markIntS_m ((gt d7 k5).Rows) ((laws_markIntS_m ((gt d7 k5).Tenants) ((laws_markIntS_m ((gt d7 k5).Ids) (IntKind.i64.wrap ((IntKind.i64.wrap (s6 + 1)) + 1))).1)).1)).1, (d7.set k5 (⟨s6, (IntKind.i64.wrap (s6 + 1)), (laws_markIntS_m ((gt d7 k5).Ids) (IntKind.i64.wrap ((IntKind.i64.wrap (s6 + 1)) + 1))).2, (laws_markIntS_m ((gt d7 k5).Tenants) ((laws_markIntS_m ((gt d7 k5).Ids) (IntKind.i64.wrap ((IntKind.i64.wrap (s6 + 1)) + 1))).1)).2, (laws_markIntS_m ((gt d7 k5).Rows) ((laws_markIntS_m ((gt d7 k5).Tenants) ((laws_markIntS_m ((gt d7 k5).Ids) (IntKind.i64.wrap ((IntKind.i64.wrap (s6 + 1)) + 1))).1)).1)).2⟩ : DCharge)))
def laws_markChargeS_m (x0 : (List DCharge)) (x1 : Int) : (Int × (List DCharge)) :=
  Sum.elim id (fun (s : Int × (List DCharge)) => (s.1, s.2)) (rng (R := (Int × (List DCharge))) (fun k (s : Int × (List DCharge)) => laws_markChargeS_b1 k s.1 s.2) (x0.length - 0) 0 (x1, x0))
set_option maxRecDepth 100000 in
theorem cb132 : Cb Try.prog 132 := ⟨Try.f132, _, Try.func132, rfl, by decide⟩
set_option maxRecDepth 10000 in
set_option maxHeartbeats 4000000 in
theorem laws_markChargeS_c (B : Nat) (w0 : World) (is : List It) (w : World) (z0 : Value) (x0 : (List DCharge)) (x1 : Int) (hm : Mem B w0 (iOwn (tSl tyCharge 140) [z0] x0 :: is) w) :
    Calls Try.prog 132 #[z0, .int .i64 x1] w fun e w' => e = .returned (.int .i64 (laws_markChargeS_m x0 x1).1) ∧ Mem B w0 (iOwn (tSl tyCharge 140) [z0] (laws_markChargeS_m x0 x1).2 :: is) w' := by
  refine call_enterW (L := [(0, z0), (1, .int .i64 x1)]) (N := 48) Try.func132 rfl rfl (Nat.le_of_ble_eq_true rfl) (argsL_cons rfl (argsL_cons rfl argsL_nil)) hm ?_
  refine CM_form (n := 0) rfl ?_
  rintro A1 c2 rfl m3
  refine sr ?_
  refine wa ?_
  refine nt' ?_
  refine CM_seq ?_
  refine sr ?_
  refine wa ?_
  refine nt' ?_
  refine CM_block ?_
  refine CM_loop (σ := Nat × (Int × (List DCharge)) × (Unit)) (fun s => [(0, .slice A1 x0.length c2), (1, .int .i64 s.2.1.1), (5, .int .i64 ((s.1 : Nat) : Int))]) (fun s => (iOwn (tSl tyCharge 140) [.slice A1 x0.length c2] s.2.1.2 :: is)) (fun s => s.1 ≤ x0.length ∧ rng (R := (Int × (List DCharge))) (fun k (s : Int × (List DCharge)) => laws_markChargeS_b1 k s.1 s.2) (x0.length - s.1) s.1 s.2.1 = rng (R := (Int × (List DCharge))) (fun k (s : Int × (List DCharge)) => laws_markChargeS_b1 k s.1 s.2) (x0.length - 0) 0 (x1, x0)) (fun s => x0.length - s.1) (0, (x1, x0), ()) (subL_cons rfl (subL_cons rfl (subL_cons rfl subL_nil))) (fun W hm => hm) ⟨(by omega), rfl⟩ ?_
  rintro ⟨k5, ⟨s6, d7⟩, ⟨⟩⟩ H10
  obtain ⟨hk8, hF9⟩ : k5 ≤ x0.length ∧ rng (R := (Int × (List DCharge))) (fun k (s : Int × (List DCharge)) => laws_markChargeS_b1 k s.1 s.2) (x0.length - k5) k5 (s6, d7) = rng (R := (Int × (List DCharge))) (fun k (s : Int × (List DCharge)) => laws_markChargeS_b1 k s.1 s.2) (x0.length - 0) 0 (x1, x0) := H10
  show CM Try.prog 48 _ _ _ _ [(0, .slice A1 x0.length c2), (1, .int .i64 s6), (5, .int .i64 ((k5 : Nat) : Int))] (iOwn (tSl tyCharge 140) [.slice A1 x0.length c2] d7 :: is)
  refine CM_seq ?_
  refine sr ?_
  refine wm ?_
  refine wm ?_
  refine wv (fun W hm => rv_len Try.underlying75 rfl) ?_
  refine wv (fun W hm => rv_lss rfl rfl) ?_
  refine nt' ?_
  by_cases hl11 : k5 < x0.length
  · have g12 : (decide (((k5 : Nat) : Int) < ((x0.length : Nat) : Int))) = true := decide_eq_true (by omega)
    refine CM_condT rfl g12 ?_
    refine CM_skip ?_
    refine QM_then ?_
    refine CM_seq ?_
    refine CM_block ?_
    refine sr ?_
    refine wm ?_
    refine wm ?_
    refine wm ?_
    refine WM_formO (n := 0) rfl (by omega) ?_
    rintro g13 rfl
    refine wv (fun W hm => rv_index (sz := 5) (k := k5) Try.underlying75 Try.type140 rfl rfl rfl (by omega)) ?_
    refine wv (fun W hm => rv_field Try.underlying140 rfl Try.type3 (by decide) rfl rfl) ?_
    refine WM_focus (E := tyCharge) (e := 140) (A := (some ⟨g13, 0, none⟩)) (n := x0.length) (c := c2) (xs := d7) (k := k5) (js := (is)) (by omega) (fun W hm => (hm.front (n := 0) rfl)) (fun ck14 => ?_)
    refine WM_split (γ := Value × Value × Value) (js := fun g => [iOwn (tSl tInt 3) [g.1] ((gt d7 k5).Ids), iOwn (tSl tInt 3) [g.2.1] ((gt d7 k5).Tenants), iOwn (tSl tInt 3) [g.2.2] ((gt d7 k5).Rows)]) (C := fun g => ck14 = [.int .i64 ((gt d7 k5).Segment), .int .i64 ((gt d7 k5).Base), g.1, g.2.1, g.2.2]) (fun _ _ h => tyCharge_split h) ?_
    rintro ⟨v15, v16, v17⟩ rfl
    refine WM_form (n := 0) rfl ?_
    rintro A18 c19 rfl m20
    refine WM_form (n := 1) rfl ?_
    rintro A22 c23 rfl m24
    refine WM_form (n := 2) rfl ?_
    rintro A26 c27 rfl m28
    refine WM_storeFoc (E := tyCharge) (e := 140) (g := g13) (n := x0.length) (c := c2) (k := k5) (s := 5) (o := 0) (xs := d7) (ck := [.int .i64 ((gt d7 k5).Segment), .int .i64 ((gt d7 k5).Base), .slice A18 ((gt d7 k5).Ids).length c19, .slice A22 ((gt d7 k5).Tenants).length c23, .slice A26 ((gt d7 k5).Rows).length c27]) (ck' := [.int .i64 s6, .int .i64 ((gt d7 k5).Base), .slice A18 ((gt d7 k5).Ids).length c19, .slice A22 ((gt d7 k5).Tenants).length c23, .slice A26 ((gt d7 k5).Rows).length c27]) (js := (iOwn (tSl tInt 3) [.slice A18 ((gt d7 k5).Ids).length c19] ((gt d7 k5).Ids) :: iOwn (tSl tInt 3) [.slice A22 ((gt d7 k5).Tenants).length c23] ((gt d7 k5).Tenants) :: iOwn (tSl tInt 3) [.slice A26 ((gt d7 k5).Rows).length c27] ((gt d7 k5).Rows) :: is)) (fun W hm => (hm.front (n := 3) rfl)) rfl rfl Try.type3 rfl (Nat.le_of_ble_eq_true rfl) rfl rfl rfl rfl (Wd_none rfl) ?_
    refine nt' ?_
    refine sr ?_
    refine wm ?_
    refine wv (fun W hm => rv_add rfl rfl) ?_
    refine wa ?_
    refine nt' ?_
    refine sr ?_
    refine wm ?_
    refine wm ?_
    refine wm ?_
    refine wv (fun W hm => rv_index (sz := 5) (k := k5) Try.underlying75 Try.type140 rfl rfl rfl (by omega)) ?_
    refine wv (fun W hm => rv_field Try.underlying140 rfl Try.type3 (by decide) rfl rfl) ?_
    refine WM_storeFoc (E := tyCharge) (e := 140) (g := g13) (n := x0.length) (c := c2) (k := k5) (s := 5) (o := 1) (xs := d7) (ck := [.int .i64 s6, .int .i64 ((gt d7 k5).Base), .slice A18 ((gt d7 k5).Ids).length c19, .slice A22 ((gt d7 k5).Tenants).length c23, .slice A26 ((gt d7 k5).Rows).length c27]) (ck' := [.int .i64 s6, .int .i64 (IntKind.i64.wrap (s6 + 1)), .slice A18 ((gt d7 k5).Ids).length c19, .slice A22 ((gt d7 k5).Tenants).length c23, .slice A26 ((gt d7 k5).Rows).length c27]) (js := (iOwn (tSl tInt 3) [.slice A18 ((gt d7 k5).Ids).length c19] ((gt d7 k5).Ids) :: iOwn (tSl tInt 3) [.slice A22 ((gt d7 k5).Tenants).length c23] ((gt d7 k5).Tenants) :: iOwn (tSl tInt 3) [.slice A26 ((gt d7 k5).Rows).length c27] ((gt d7 k5).Rows) :: is)) (fun W hm => (hm.front (n := 0) rfl)) rfl rfl Try.type3 rfl (Nat.le_of_ble_eq_true rfl) rfl rfl rfl rfl (Wd_none rfl) ?_
    refine nt' ?_
    refine sr ?_
    refine wm ?_
    refine wv (fun W hm => rv_add rfl rfl) ?_
    refine wa ?_
    refine nt' ?_
    refine sr ?_
    refine wm ?_
    refine wm ?_
    refine wv (fun W hm => rv_index (sz := 5) (k := k5) Try.underlying75 Try.type140 rfl rfl rfl (by omega)) ?_
    refine wv (fun W hm => rv_field Try.underlying140 rfl Try.type27 (by decide) rfl rfl) ?_
    refine wv (fun W hm => rv_load Try.underlying27 rfl rfl (hm.focCells (i := 0) rfl rfl 2 _ rfl)) ?_
    refine wm ?_
    refine WM_callW (χ := Unit) (val := fun _ => .int .i64 (laws_markIntS_m ((gt d7 k5).Ids) (IntKind.i64.wrap ((IntKind.i64.wrap (s6 + 1)) + 1))).1) (js := fun _ => (iOwn (tSl tInt 3) [.slice A18 ((gt d7 k5).Ids).length c19] (laws_markIntS_m ((gt d7 k5).Ids) (IntKind.i64.wrap ((IntKind.i64.wrap (s6 + 1)) + 1))).2 :: (iFoc tyCharge 140 (some ⟨g13, 0, none⟩) x0.length c2 d7 k5 [.int .i64 s6, .int .i64 (IntKind.i64.wrap (s6 + 1)), .slice A18 ((gt d7 k5).Ids).length c19, .slice A22 ((gt d7 k5).Tenants).length c23, .slice A26 ((gt d7 k5).Rows).length c27] :: iOwn (tSl tInt 3) [.slice A22 ((gt d7 k5).Tenants).length c23] ((gt d7 k5).Tenants) :: iOwn (tSl tInt 3) [.slice A26 ((gt d7 k5).Rows).length c27] ((gt d7 k5).Rows) :: is))) (cl_fn cb68 rfl) (fun W hm => (laws_markIntS_c B w0 (iFoc tyCharge 140 (some ⟨g13, 0, none⟩) x0.length c2 d7 k5 [.int .i64 s6, .int .i64 (IntKind.i64.wrap (s6 + 1)), .slice A18 ((gt d7 k5).Ids).length c19, .slice A22 ((gt d7 k5).Tenants).length c23, .slice A26 ((gt d7 k5).Rows).length c27] :: iOwn (tSl tInt 3) [.slice A22 ((gt d7 k5).Tenants).length c23] ((gt d7 k5).Tenants) :: iOwn (tSl tInt 3) [.slice A26 ((gt d7 k5).Rows).length c27] ((gt d7 k5).Rows) :: is) W (.slice A18 ((gt d7 k5).Ids).length c19) ((gt d7 k5).Ids) (IntKind.i64.wrap ((IntKind.i64.wrap (s6 + 1)) + 1)) (hm.front (n := 1) rfl)).mono (fun _ _ h => ⟨(), h.1, h.2⟩)) (Wd_none rfl) (by decide) (fun _ => ?_)
    refine wa ?_
    refine nt' ?_
    refine sr ?_
    refine wm ?_
    refine wm ?_
    refine wv (fun W hm => rv_index (sz := 5) (k := k5) Try.underlying75 Try.type140 rfl rfl rfl (by omega)) ?_
    refine wv (fun W hm => rv_field Try.underlying140 rfl Try.type27 (by decide) rfl rfl) ?_
    refine wv (fun W hm => rv_load Try.underlying27 rfl rfl (hm.focCells (i := 1) rfl rfl 3 _ rfl)) ?_
    refine wm ?_
    refine WM_callW (χ := Unit) (val := fun _ => .int .i64 (laws_markIntS_m ((gt d7 k5).Tenants) ((laws_markIntS_m ((gt d7 k5).Ids) (IntKind.i64.wrap ((IntKind.i64.wrap (s6 + 1)) + 1))).1)).1) (js := fun _ => (iOwn (tSl tInt 3) [.slice A22 ((gt d7 k5).Tenants).length c23] (laws_markIntS_m ((gt d7 k5).Tenants) ((laws_markIntS_m ((gt d7 k5).Ids) (IntKind.i64.wrap ((IntKind.i64.wrap (s6 + 1)) + 1))).1)).2 :: (iOwn (tSl tInt 3) [.slice A18 ((gt d7 k5).Ids).length c19] ((laws_markIntS_m ((gt d7 k5).Ids) (IntKind.i64.wrap ((IntKind.i64.wrap (s6 + 1)) + 1))).2) :: iFoc tyCharge 140 (some ⟨g13, 0, none⟩) x0.length c2 d7 k5 [.int .i64 s6, .int .i64 (IntKind.i64.wrap (s6 + 1)), .slice A18 ((gt d7 k5).Ids).length c19, .slice A22 ((gt d7 k5).Tenants).length c23, .slice A26 ((gt d7 k5).Rows).length c27] :: iOwn (tSl tInt 3) [.slice A26 ((gt d7 k5).Rows).length c27] ((gt d7 k5).Rows) :: is))) (cl_fn cb68 rfl) (fun W hm => (laws_markIntS_c B w0 (iOwn (tSl tInt 3) [.slice A18 ((gt d7 k5).Ids).length c19] ((laws_markIntS_m ((gt d7 k5).Ids) (IntKind.i64.wrap ((IntKind.i64.wrap (s6 + 1)) + 1))).2) :: iFoc tyCharge 140 (some ⟨g13, 0, none⟩) x0.length c2 d7 k5 [.int .i64 s6, .int .i64 (IntKind.i64.wrap (s6 + 1)), .slice A18 ((gt d7 k5).Ids).length c19, .slice A22 ((gt d7 k5).Tenants).length c23, .slice A26 ((gt d7 k5).Rows).length c27] :: iOwn (tSl tInt 3) [.slice A26 ((gt d7 k5).Rows).length c27] ((gt d7 k5).Rows) :: is) W (.slice A22 ((gt d7 k5).Tenants).length c23) ((gt d7 k5).Tenants) ((laws_markIntS_m ((gt d7 k5).Ids) (IntKind.i64.wrap ((IntKind.i64.wrap (s6 + 1)) + 1))).1) (hm.front (n := 2) rfl)).mono (fun _ _ h => ⟨(), h.1, h.2⟩)) (Wd_none rfl) (by decide) (fun _ => ?_)
    refine wa ?_
    refine nt' ?_
    refine CM_region ?_
    refine wm ?_
    refine wm ?_
    refine wv (fun W hm => rv_index (sz := 5) (k := k5) Try.underlying75 Try.type140 rfl rfl rfl (by omega)) ?_
    refine wv (fun W hm => rv_field Try.underlying140 rfl Try.type27 (by decide) rfl rfl) ?_
    refine wv (fun W hm => rv_load Try.underlying27 rfl rfl (hm.focCells (i := 2) rfl rfl 4 _ rfl)) ?_
    refine wm ?_
    refine WM_callW (χ := Unit) (val := fun _ => .int .i64 (laws_markIntS_m ((gt d7 k5).Rows) ((laws_markIntS_m ((gt d7 k5).Tenants) ((laws_markIntS_m ((gt d7 k5).Ids) (IntKind.i64.wrap ((IntKind.i64.wrap (s6 + 1)) + 1))).1)).1)).1) (js := fun _ => (iOwn (tSl tInt 3) [.slice A26 ((gt d7 k5).Rows).length c27] (laws_markIntS_m ((gt d7 k5).Rows) ((laws_markIntS_m ((gt d7 k5).Tenants) ((laws_markIntS_m ((gt d7 k5).Ids) (IntKind.i64.wrap ((IntKind.i64.wrap (s6 + 1)) + 1))).1)).1)).2 :: (iOwn (tSl tInt 3) [.slice A22 ((gt d7 k5).Tenants).length c23] ((laws_markIntS_m ((gt d7 k5).Tenants) ((laws_markIntS_m ((gt d7 k5).Ids) (IntKind.i64.wrap ((IntKind.i64.wrap (s6 + 1)) + 1))).1)).2) :: iOwn (tSl tInt 3) [.slice A18 ((gt d7 k5).Ids).length c19] ((laws_markIntS_m ((gt d7 k5).Ids) (IntKind.i64.wrap ((IntKind.i64.wrap (s6 + 1)) + 1))).2) :: iFoc tyCharge 140 (some ⟨g13, 0, none⟩) x0.length c2 d7 k5 [.int .i64 s6, .int .i64 (IntKind.i64.wrap (s6 + 1)), .slice A18 ((gt d7 k5).Ids).length c19, .slice A22 ((gt d7 k5).Tenants).length c23, .slice A26 ((gt d7 k5).Rows).length c27] :: is))) (cl_fn cb68 rfl) (fun W hm => (laws_markIntS_c B w0 (iOwn (tSl tInt 3) [.slice A22 ((gt d7 k5).Tenants).length c23] ((laws_markIntS_m ((gt d7 k5).Tenants) ((laws_markIntS_m ((gt d7 k5).Ids) (IntKind.i64.wrap ((IntKind.i64.wrap (s6 + 1)) + 1))).1)).2) :: iOwn (tSl tInt 3) [.slice A18 ((gt d7 k5).Ids).length c19] ((laws_markIntS_m ((gt d7 k5).Ids) (IntKind.i64.wrap ((IntKind.i64.wrap (s6 + 1)) + 1))).2) :: iFoc tyCharge 140 (some ⟨g13, 0, none⟩) x0.length c2 d7 k5 [.int .i64 s6, .int .i64 (IntKind.i64.wrap (s6 + 1)), .slice A18 ((gt d7 k5).Ids).length c19, .slice A22 ((gt d7 k5).Tenants).length c23, .slice A26 ((gt d7 k5).Rows).length c27] :: is) W (.slice A26 ((gt d7 k5).Rows).length c27) ((gt d7 k5).Rows) ((laws_markIntS_m ((gt d7 k5).Tenants) ((laws_markIntS_m ((gt d7 k5).Ids) (IntKind.i64.wrap ((IntKind.i64.wrap (s6 + 1)) + 1))).1)).1) (hm.front (n := 3) rfl)).mono (fun _ _ h => ⟨(), h.1, h.2⟩)) (Wd_none rfl) (by decide) (fun _ => ?_)
    refine wa ?_
    refine WM_nil ?_
    refine QM_block_normal ?_
    refine QM_then ?_
    refine CM_region ?_
    refine wm ?_
    refine wv (fun W hm => rv_addN (p := k5) (q := 1) rfl rfl (by omega)) ?_
    refine wa ?_
    refine WM_nil ?_
    refine QM_items (fun W hm => Mem.unfocus (Mem.join (is := [iOwn (tSl tInt 3) [.slice A18 ((gt d7 k5).Ids).length c19] ((laws_markIntS_m ((gt d7 k5).Ids) (IntKind.i64.wrap ((IntKind.i64.wrap (s6 + 1)) + 1))).2), iOwn (tSl tInt 3) [.slice A22 ((gt d7 k5).Tenants).length c23] ((laws_markIntS_m ((gt d7 k5).Tenants) ((laws_markIntS_m ((gt d7 k5).Ids) (IntKind.i64.wrap ((IntKind.i64.wrap (s6 + 1)) + 1))).1)).2), iOwn (tSl tInt 3) [.slice A26 ((gt d7 k5).Rows).length c27] ((laws_markIntS_m ((gt d7 k5).Rows) ((laws_markIntS_m ((gt d7 k5).Tenants) ((laws_markIntS_m ((gt d7 k5).Ids) (IntKind.i64.wrap ((IntKind.i64.wrap (s6 + 1)) + 1))).1)).1)).2)]) (js := (iFoc tyCharge 140 (some ⟨g13, 0, none⟩) x0.length c2 d7 k5 [.int .i64 s6, .int .i64 (IntKind.i64.wrap (s6 + 1)), .slice A18 ((gt d7 k5).Ids).length c19, .slice A22 ((gt d7 k5).Tenants).length c23, .slice A26 ((gt d7 k5).Rows).length c27] :: (is))) (fun _ _ hs => tyCharge_join (x := (⟨s6, (IntKind.i64.wrap (s6 + 1)), (laws_markIntS_m ((gt d7 k5).Ids) (IntKind.i64.wrap ((IntKind.i64.wrap (s6 + 1)) + 1))).2, (laws_markIntS_m ((gt d7 k5).Tenants) ((laws_markIntS_m ((gt d7 k5).Ids) (IntKind.i64.wrap ((IntKind.i64.wrap (s6 + 1)) + 1))).1)).2, (laws_markIntS_m ((gt d7 k5).Rows) ((laws_markIntS_m ((gt d7 k5).Tenants) ((laws_markIntS_m ((gt d7 k5).Ids) (IntKind.i64.wrap ((IntKind.i64.wrap (s6 + 1)) + 1))).1)).1)).2⟩ : DCharge)) hs) ((((hm.front (n := 3) rfl).front (n := 1) rfl).front (n := 2) rfl).front (n := 3) rfl))) ?_
    have hn30 := rng_next (R := (Int × (List DCharge))) (body := (fun k (s : Int × (List DCharge)) => laws_markChargeS_b1 k s.1 s.2)) (k := k5) (s := (s6, d7)) (s' := ((laws_markIntS_m ((gt d7 k5).Rows) ((laws_markIntS_m ((gt d7 k5).Tenants) ((laws_markIntS_m ((gt d7 k5).Ids) (IntKind.i64.wrap ((IntKind.i64.wrap (s6 + 1)) + 1))).1)).1)).1, (d7.set k5 (⟨s6, (IntKind.i64.wrap (s6 + 1)), (laws_markIntS_m ((gt d7 k5).Ids) (IntKind.i64.wrap ((IntKind.i64.wrap (s6 + 1)) + 1))).2, (laws_markIntS_m ((gt d7 k5).Tenants) ((laws_markIntS_m ((gt d7 k5).Ids) (IntKind.i64.wrap ((IntKind.i64.wrap (s6 + 1)) + 1))).1)).2, (laws_markIntS_m ((gt d7 k5).Rows) ((laws_markIntS_m ((gt d7 k5).Tenants) ((laws_markIntS_m ((gt d7 k5).Ids) (IntKind.i64.wrap ((IntKind.i64.wrap (s6 + 1)) + 1))).1)).1)).2⟩ : DCharge)))) (show k5 < x0.length from by omega) (show laws_markChargeS_b1 k5 s6 d7 = Sum.inr ((laws_markIntS_m ((gt d7 k5).Rows) ((laws_markIntS_m ((gt d7 k5).Tenants) ((laws_markIntS_m ((gt d7 k5).Ids) (IntKind.i64.wrap ((IntKind.i64.wrap (s6 + 1)) + 1))).1)).1)).1, (d7.set k5 (⟨s6, (IntKind.i64.wrap (s6 + 1)), (laws_markIntS_m ((gt d7 k5).Ids) (IntKind.i64.wrap ((IntKind.i64.wrap (s6 + 1)) + 1))).2, (laws_markIntS_m ((gt d7 k5).Tenants) ((laws_markIntS_m ((gt d7 k5).Ids) (IntKind.i64.wrap ((IntKind.i64.wrap (s6 + 1)) + 1))).1)).2, (laws_markIntS_m ((gt d7 k5).Rows) ((laws_markIntS_m ((gt d7 k5).Tenants) ((laws_markIntS_m ((gt d7 k5).Ids) (IntKind.i64.wrap ((IntKind.i64.wrap (s6 + 1)) + 1))).1)).1)).2⟩ : DCharge))) from by unfold laws_markChargeS_b1; exact rfl) hF9
    exact QM_round (k5 + 1, ((laws_markIntS_m ((gt d7 k5).Rows) ((laws_markIntS_m ((gt d7 k5).Tenants) ((laws_markIntS_m ((gt d7 k5).Ids) (IntKind.i64.wrap ((IntKind.i64.wrap (s6 + 1)) + 1))).1)).1)).1, (d7.set k5 (⟨s6, (IntKind.i64.wrap (s6 + 1)), (laws_markIntS_m ((gt d7 k5).Ids) (IntKind.i64.wrap ((IntKind.i64.wrap (s6 + 1)) + 1))).2, (laws_markIntS_m ((gt d7 k5).Tenants) ((laws_markIntS_m ((gt d7 k5).Ids) (IntKind.i64.wrap ((IntKind.i64.wrap (s6 + 1)) + 1))).1)).2, (laws_markIntS_m ((gt d7 k5).Rows) ((laws_markIntS_m ((gt d7 k5).Tenants) ((laws_markIntS_m ((gt d7 k5).Ids) (IntKind.i64.wrap ((IntKind.i64.wrap (s6 + 1)) + 1))).1)).1)).2⟩ : DCharge))), ()) (subL_cons rfl (subL_cons rfl (subL_cons rfl subL_nil))) (fun W hm => hm) ⟨(by omega), hn30⟩ (show x0.length - (k5 + 1) < x0.length - k5 from by omega)
  · have g12 : (decide (((k5 : Nat) : Int) < ((x0.length : Nat) : Int))) = false := decide_eq_false (by omega)
    refine CM_condF rfl g12 ?_
    refine CM_exit ?_
    refine QM_then_exit ?_
    refine QM_then_exit ?_
    have hE31 : rng (R := (Int × (List DCharge))) (fun k (s : Int × (List DCharge)) => laws_markChargeS_b1 k s.1 s.2) (x0.length - 0) 0 (x1, x0) = Sum.inr (s6, d7) := rng_end hl11 hF9
    refine QM_block_hit ?_
    refine QM_then ?_
    refine sr ?_
    refine wm ?_
    refine wa ?_
    refine nt' ?_
    refine CM_ret ?_
    refine QM_rW rfl rfl (fun W hm => ⟨?_, ?_⟩)
    · rw [(show laws_markChargeS_m x0 x1 = (s6, d7) from by unfold laws_markChargeS_m; exact fin_inr hE31 (rfl))]
    · rw [(show laws_markChargeS_m x0 x1 = (s6, d7) from by unfold laws_markChargeS_m; exact fin_inr hE31 (rfl))]; exact hm

def laws_markEngine_m (x0 : DEngine) (x1 : Int) : (Int × DEngine) :=
  ((laws_markChargeS_m x0.Ledger ((laws_markFinishedS_m x0.Done ((laws_markActiveS_m x0.Active ((laws_markIntS_m x0.Order ((laws_markStore_m x0.Store x1).1)).1)).1)).1)).1, (⟨(⟨(laws_markStore_m x0.Store x1).2.Segments, x0.Store.Now⟩ : DStore), x0.Cursor, (laws_markIntS_m x0.Order ((laws_markStore_m x0.Store x1).1)).2, (laws_markActiveS_m x0.Active ((laws_markIntS_m x0.Order ((laws_markStore_m x0.Store x1).1)).1)).2, (laws_markFinishedS_m x0.Done ((laws_markActiveS_m x0.Active ((laws_markIntS_m x0.Order ((laws_markStore_m x0.Store x1).1)).1)).1)).2, (laws_markChargeS_m x0.Ledger ((laws_markFinishedS_m x0.Done ((laws_markActiveS_m x0.Active ((laws_markIntS_m x0.Order ((laws_markStore_m x0.Store x1).1)).1)).1)).1)).2, x0.Steps⟩ : DEngine))
set_option maxRecDepth 100000 in
theorem cb55 : Cb Try.prog 55 := ⟨Try.f55, _, Try.func55, rfl, by decide⟩
set_option maxRecDepth 10000 in
set_option maxHeartbeats 4000000 in
theorem laws_markEngine_c (B : Nat) (w0 : World) (is : List It) (w : World) (z0 : List Value) (x0 : DEngine) (x1 : Int) (hm : Mem B w0 (iOwn tyEngine z0 x0 :: is) w) :
    Calls Try.prog 55 #[.agg z0.toArray, .int .i64 x1] w fun e w' => e = .returned (.int .i64 (laws_markEngine_m x0 x1).1) ∧ Mem B w0 (iOwn tyEngine z0 (laws_markEngine_m x0 x1).2 :: is) w' := by
  refine call_enterW (L := [(0, .agg z0.toArray), (1, .int .i64 x1)]) (N := 26) Try.func55 rfl rfl (Nat.le_of_ble_eq_true rfl) (argsL_cons rfl (argsL_cons rfl argsL_nil)) hm ?_
  refine CM_split (γ := Value × Value × Value × Value × Value) (js := fun g => [iOwn (tSl (tSl tyVersion 51) 102) [g.1] x0.Store.Segments, iOwn (tSl tInt 3) [g.2.1] x0.Order, iOwn (tSl tyActive 127) [g.2.2.1] x0.Active, iOwn (tSl tyFinished 136) [g.2.2.2.1] x0.Done, iOwn (tSl tyCharge 140) [g.2.2.2.2] x0.Ledger]) (C := fun g => z0 = [g.1, .int .i64 x0.Store.Now, .int .i64 x0.Cursor, g.2.1, g.2.2.1, g.2.2.2.1, g.2.2.2.2, .int .i64 x0.Steps]) (fun _ _ h => tyEngine_split h) ?_
  rintro ⟨v1, v2, v3, v4, v5⟩ rfl
  refine CM_form (n := 0) rfl ?_
  rintro A6 c7 rfl m8
  refine CM_form (n := 1) rfl ?_
  rintro A10 c11 rfl m12
  refine CM_form (n := 2) rfl ?_
  rintro A14 c15 rfl m16
  refine CM_form (n := 3) rfl ?_
  rintro A18 c19 rfl m20
  refine CM_form (n := 4) rfl ?_
  rintro A22 c23 rfl m24
  refine sr ?_
  refine WM_box rfl (Wd_none rfl) (by decide) (fun p26 => ?_)
  refine wa ?_
  refine nt' ?_
  refine sr ?_
  refine wv (fun W hm => rv_field Try.underlying77 rfl Try.type26 (by decide) rfl rfl) ?_
  refine wv (fun W hm => rv_loadN (cs := [.slice A6 x0.Store.Segments.length c7, .int .i64 x0.Store.Now]) Try.underlying26 Try.type26 rfl rfl (hm.boxPart (n := 0) rfl rfl)) ?_
  refine wm ?_
  refine WM_items (js := (iOwn tyStore [.slice A6 x0.Store.Segments.length c7, .int .i64 x0.Store.Now] x0.Store :: (iBox p26 77 [.slice A6 x0.Store.Segments.length c7, .int .i64 x0.Store.Now, .int .i64 x0.Cursor, .slice A10 x0.Order.length c11, .slice A14 x0.Active.length c15, .slice A18 x0.Done.length c19, .slice A22 x0.Ledger.length c23, .int .i64 x0.Steps] :: iOwn (tSl tInt 3) [.slice A10 x0.Order.length c11] x0.Order :: iOwn (tSl tyActive 127) [.slice A14 x0.Active.length c15] x0.Active :: iOwn (tSl tyFinished 136) [.slice A18 x0.Done.length c19] x0.Done :: iOwn (tSl tyCharge 140) [.slice A22 x0.Ledger.length c23] x0.Ledger :: is))) (fun W hm => Mem.join (is := [iOwn (tSl (tSl tyVersion 51) 102) [.slice A6 x0.Store.Segments.length c7] x0.Store.Segments]) (js := (iBox p26 77 [.slice A6 x0.Store.Segments.length c7, .int .i64 x0.Store.Now, .int .i64 x0.Cursor, .slice A10 x0.Order.length c11, .slice A14 x0.Active.length c15, .slice A18 x0.Done.length c19, .slice A22 x0.Ledger.length c23, .int .i64 x0.Steps] :: iOwn (tSl tInt 3) [.slice A10 x0.Order.length c11] x0.Order :: iOwn (tSl tyActive 127) [.slice A14 x0.Active.length c15] x0.Active :: iOwn (tSl tyFinished 136) [.slice A18 x0.Done.length c19] x0.Done :: iOwn (tSl tyCharge 140) [.slice A22 x0.Ledger.length c23] x0.Ledger :: is)) (fun _ _ hs => tyStore_join (x := x0.Store) hs) (hm.front (n := 1) rfl)) ?_
  refine WM_callW (χ := Unit) (val := fun _ => .int .i64 (laws_markStore_m x0.Store x1).1) (js := fun _ => (iOwn tyStore [.slice A6 x0.Store.Segments.length c7, .int .i64 x0.Store.Now] (laws_markStore_m x0.Store x1).2 :: (iBox p26 77 [.slice A6 x0.Store.Segments.length c7, .int .i64 x0.Store.Now, .int .i64 x0.Cursor, .slice A10 x0.Order.length c11, .slice A14 x0.Active.length c15, .slice A18 x0.Done.length c19, .slice A22 x0.Ledger.length c23, .int .i64 x0.Steps] :: iOwn (tSl tInt 3) [.slice A10 x0.Order.length c11] x0.Order :: iOwn (tSl tyActive 127) [.slice A14 x0.Active.length c15] x0.Active :: iOwn (tSl tyFinished 136) [.slice A18 x0.Done.length c19] x0.Done :: iOwn (tSl tyCharge 140) [.slice A22 x0.Ledger.length c23] x0.Ledger :: is))) (cl_fn cb54 rfl) (fun W hm => (laws_markStore_c B w0 (iBox p26 77 [.slice A6 x0.Store.Segments.length c7, .int .i64 x0.Store.Now, .int .i64 x0.Cursor, .slice A10 x0.Order.length c11, .slice A14 x0.Active.length c15, .slice A18 x0.Done.length c19, .slice A22 x0.Ledger.length c23, .int .i64 x0.Steps] :: iOwn (tSl tInt 3) [.slice A10 x0.Order.length c11] x0.Order :: iOwn (tSl tyActive 127) [.slice A14 x0.Active.length c15] x0.Active :: iOwn (tSl tyFinished 136) [.slice A18 x0.Done.length c19] x0.Done :: iOwn (tSl tyCharge 140) [.slice A22 x0.Ledger.length c23] x0.Ledger :: is) W [.slice A6 x0.Store.Segments.length c7, .int .i64 x0.Store.Now] x0.Store x1 hm).mono (fun _ _ h => ⟨(), h.1, h.2⟩)) (Wd_none rfl) (by decide) (fun _ => ?_)
  refine WM_split (γ := Value) (js := fun g => [iOwn (tSl (tSl tyVersion 51) 102) [g] ((laws_markStore_m x0.Store x1).2.Segments)]) (C := fun g => [.slice A6 x0.Store.Segments.length c7, .int .i64 x0.Store.Now] = [g, .int .i64 ((laws_markStore_m x0.Store x1).2.Now)]) (fun _ _ h => tyStore_split h) ?_
  rintro v28 h27
  simp only [List.cons.injEq] at h27
  obtain ⟨rfl, -, -⟩ := h27
  refine wa ?_
  refine nt' ?_
  refine sr ?_
  refine wv (fun W hm => rv_field Try.underlying77 rfl Try.type27 (by decide) rfl rfl) ?_
  refine wv (fun W hm => rv_load Try.underlying27 rfl rfl (hm.boxCell (n := 1) (o := 3) rfl rfl)) ?_
  refine wm ?_
  refine WM_callW (χ := Unit) (val := fun _ => .int .i64 (laws_markIntS_m x0.Order ((laws_markStore_m x0.Store x1).1)).1) (js := fun _ => (iOwn (tSl tInt 3) [.slice A10 x0.Order.length c11] (laws_markIntS_m x0.Order ((laws_markStore_m x0.Store x1).1)).2 :: (iOwn (tSl (tSl tyVersion 51) 102) [.slice A6 x0.Store.Segments.length c7] ((laws_markStore_m x0.Store x1).2.Segments) :: iBox p26 77 [.slice A6 x0.Store.Segments.length c7, .int .i64 x0.Store.Now, .int .i64 x0.Cursor, .slice A10 x0.Order.length c11, .slice A14 x0.Active.length c15, .slice A18 x0.Done.length c19, .slice A22 x0.Ledger.length c23, .int .i64 x0.Steps] :: iOwn (tSl tyActive 127) [.slice A14 x0.Active.length c15] x0.Active :: iOwn (tSl tyFinished 136) [.slice A18 x0.Done.length c19] x0.Done :: iOwn (tSl tyCharge 140) [.slice A22 x0.Ledger.length c23] x0.Ledger :: is))) (cl_fn cb68 rfl) (fun W hm => (laws_markIntS_c B w0 (iOwn (tSl (tSl tyVersion 51) 102) [.slice A6 x0.Store.Segments.length c7] ((laws_markStore_m x0.Store x1).2.Segments) :: iBox p26 77 [.slice A6 x0.Store.Segments.length c7, .int .i64 x0.Store.Now, .int .i64 x0.Cursor, .slice A10 x0.Order.length c11, .slice A14 x0.Active.length c15, .slice A18 x0.Done.length c19, .slice A22 x0.Ledger.length c23, .int .i64 x0.Steps] :: iOwn (tSl tyActive 127) [.slice A14 x0.Active.length c15] x0.Active :: iOwn (tSl tyFinished 136) [.slice A18 x0.Done.length c19] x0.Done :: iOwn (tSl tyCharge 140) [.slice A22 x0.Ledger.length c23] x0.Ledger :: is) W (.slice A10 x0.Order.length c11) x0.Order ((laws_markStore_m x0.Store x1).1) (hm.front (n := 2) rfl)).mono (fun _ _ h => ⟨(), h.1, h.2⟩)) (Wd_none rfl) (by decide) (fun _ => ?_)
  refine wa ?_
  refine nt' ?_
  refine sr ?_
  refine wv (fun W hm => rv_field Try.underlying77 rfl Try.type73 (by decide) rfl rfl) ?_
  refine wv (fun W hm => rv_load Try.underlying73 rfl rfl (hm.boxCell (n := 2) (o := 4) rfl rfl)) ?_
  refine wm ?_
  refine WM_callW (χ := Unit) (val := fun _ => .int .i64 (laws_markActiveS_m x0.Active ((laws_markIntS_m x0.Order ((laws_markStore_m x0.Store x1).1)).1)).1) (js := fun _ => (iOwn (tSl tyActive 127) [.slice A14 x0.Active.length c15] (laws_markActiveS_m x0.Active ((laws_markIntS_m x0.Order ((laws_markStore_m x0.Store x1).1)).1)).2 :: (iOwn (tSl tInt 3) [.slice A10 x0.Order.length c11] ((laws_markIntS_m x0.Order ((laws_markStore_m x0.Store x1).1)).2) :: iOwn (tSl (tSl tyVersion 51) 102) [.slice A6 x0.Store.Segments.length c7] ((laws_markStore_m x0.Store x1).2.Segments) :: iBox p26 77 [.slice A6 x0.Store.Segments.length c7, .int .i64 x0.Store.Now, .int .i64 x0.Cursor, .slice A10 x0.Order.length c11, .slice A14 x0.Active.length c15, .slice A18 x0.Done.length c19, .slice A22 x0.Ledger.length c23, .int .i64 x0.Steps] :: iOwn (tSl tyFinished 136) [.slice A18 x0.Done.length c19] x0.Done :: iOwn (tSl tyCharge 140) [.slice A22 x0.Ledger.length c23] x0.Ledger :: is))) (cl_fn cb130 rfl) (fun W hm => (laws_markActiveS_c B w0 (iOwn (tSl tInt 3) [.slice A10 x0.Order.length c11] ((laws_markIntS_m x0.Order ((laws_markStore_m x0.Store x1).1)).2) :: iOwn (tSl (tSl tyVersion 51) 102) [.slice A6 x0.Store.Segments.length c7] ((laws_markStore_m x0.Store x1).2.Segments) :: iBox p26 77 [.slice A6 x0.Store.Segments.length c7, .int .i64 x0.Store.Now, .int .i64 x0.Cursor, .slice A10 x0.Order.length c11, .slice A14 x0.Active.length c15, .slice A18 x0.Done.length c19, .slice A22 x0.Ledger.length c23, .int .i64 x0.Steps] :: iOwn (tSl tyFinished 136) [.slice A18 x0.Done.length c19] x0.Done :: iOwn (tSl tyCharge 140) [.slice A22 x0.Ledger.length c23] x0.Ledger :: is) W (.slice A14 x0.Active.length c15) x0.Active ((laws_markIntS_m x0.Order ((laws_markStore_m x0.Store x1).1)).1) (hm.front (n := 3) rfl)).mono (fun _ _ h => ⟨(), h.1, h.2⟩)) (Wd_none rfl) (by decide) (fun _ => ?_)
  refine wa ?_
  refine nt' ?_
  refine sr ?_
  refine wv (fun W hm => rv_field Try.underlying77 rfl Try.type74 (by decide) rfl rfl) ?_
  refine wv (fun W hm => rv_load Try.underlying74 rfl rfl (hm.boxCell (n := 3) (o := 5) rfl rfl)) ?_
  refine wm ?_
  refine WM_callW (χ := Unit) (val := fun _ => .int .i64 (laws_markFinishedS_m x0.Done ((laws_markActiveS_m x0.Active ((laws_markIntS_m x0.Order ((laws_markStore_m x0.Store x1).1)).1)).1)).1) (js := fun _ => (iOwn (tSl tyFinished 136) [.slice A18 x0.Done.length c19] (laws_markFinishedS_m x0.Done ((laws_markActiveS_m x0.Active ((laws_markIntS_m x0.Order ((laws_markStore_m x0.Store x1).1)).1)).1)).2 :: (iOwn (tSl tyActive 127) [.slice A14 x0.Active.length c15] ((laws_markActiveS_m x0.Active ((laws_markIntS_m x0.Order ((laws_markStore_m x0.Store x1).1)).1)).2) :: iOwn (tSl tInt 3) [.slice A10 x0.Order.length c11] ((laws_markIntS_m x0.Order ((laws_markStore_m x0.Store x1).1)).2) :: iOwn (tSl (tSl tyVersion 51) 102) [.slice A6 x0.Store.Segments.length c7] ((laws_markStore_m x0.Store x1).2.Segments) :: iBox p26 77 [.slice A6 x0.Store.Segments.length c7, .int .i64 x0.Store.Now, .int .i64 x0.Cursor, .slice A10 x0.Order.length c11, .slice A14 x0.Active.length c15, .slice A18 x0.Done.length c19, .slice A22 x0.Ledger.length c23, .int .i64 x0.Steps] :: iOwn (tSl tyCharge 140) [.slice A22 x0.Ledger.length c23] x0.Ledger :: is))) (cl_fn cb131 rfl) (fun W hm => (laws_markFinishedS_c B w0 (iOwn (tSl tyActive 127) [.slice A14 x0.Active.length c15] ((laws_markActiveS_m x0.Active ((laws_markIntS_m x0.Order ((laws_markStore_m x0.Store x1).1)).1)).2) :: iOwn (tSl tInt 3) [.slice A10 x0.Order.length c11] ((laws_markIntS_m x0.Order ((laws_markStore_m x0.Store x1).1)).2) :: iOwn (tSl (tSl tyVersion 51) 102) [.slice A6 x0.Store.Segments.length c7] ((laws_markStore_m x0.Store x1).2.Segments) :: iBox p26 77 [.slice A6 x0.Store.Segments.length c7, .int .i64 x0.Store.Now, .int .i64 x0.Cursor, .slice A10 x0.Order.length c11, .slice A14 x0.Active.length c15, .slice A18 x0.Done.length c19, .slice A22 x0.Ledger.length c23, .int .i64 x0.Steps] :: iOwn (tSl tyCharge 140) [.slice A22 x0.Ledger.length c23] x0.Ledger :: is) W (.slice A18 x0.Done.length c19) x0.Done ((laws_markActiveS_m x0.Active ((laws_markIntS_m x0.Order ((laws_markStore_m x0.Store x1).1)).1)).1) (hm.front (n := 4) rfl)).mono (fun _ _ h => ⟨(), h.1, h.2⟩)) (Wd_none rfl) (by decide) (fun _ => ?_)
  refine wa ?_
  refine nt' ?_
  refine sr ?_
  refine wv (fun W hm => rv_field Try.underlying77 rfl Try.type75 (by decide) rfl rfl) ?_
  refine wv (fun W hm => rv_load Try.underlying75 rfl rfl (hm.boxCell (n := 4) (o := 6) rfl rfl)) ?_
  refine wm ?_
  refine WM_callW (χ := Unit) (val := fun _ => .int .i64 (laws_markChargeS_m x0.Ledger ((laws_markFinishedS_m x0.Done ((laws_markActiveS_m x0.Active ((laws_markIntS_m x0.Order ((laws_markStore_m x0.Store x1).1)).1)).1)).1)).1) (js := fun _ => (iOwn (tSl tyCharge 140) [.slice A22 x0.Ledger.length c23] (laws_markChargeS_m x0.Ledger ((laws_markFinishedS_m x0.Done ((laws_markActiveS_m x0.Active ((laws_markIntS_m x0.Order ((laws_markStore_m x0.Store x1).1)).1)).1)).1)).2 :: (iOwn (tSl tyFinished 136) [.slice A18 x0.Done.length c19] ((laws_markFinishedS_m x0.Done ((laws_markActiveS_m x0.Active ((laws_markIntS_m x0.Order ((laws_markStore_m x0.Store x1).1)).1)).1)).2) :: iOwn (tSl tyActive 127) [.slice A14 x0.Active.length c15] ((laws_markActiveS_m x0.Active ((laws_markIntS_m x0.Order ((laws_markStore_m x0.Store x1).1)).1)).2) :: iOwn (tSl tInt 3) [.slice A10 x0.Order.length c11] ((laws_markIntS_m x0.Order ((laws_markStore_m x0.Store x1).1)).2) :: iOwn (tSl (tSl tyVersion 51) 102) [.slice A6 x0.Store.Segments.length c7] ((laws_markStore_m x0.Store x1).2.Segments) :: iBox p26 77 [.slice A6 x0.Store.Segments.length c7, .int .i64 x0.Store.Now, .int .i64 x0.Cursor, .slice A10 x0.Order.length c11, .slice A14 x0.Active.length c15, .slice A18 x0.Done.length c19, .slice A22 x0.Ledger.length c23, .int .i64 x0.Steps] :: is))) (cl_fn cb132 rfl) (fun W hm => (laws_markChargeS_c B w0 (iOwn (tSl tyFinished 136) [.slice A18 x0.Done.length c19] ((laws_markFinishedS_m x0.Done ((laws_markActiveS_m x0.Active ((laws_markIntS_m x0.Order ((laws_markStore_m x0.Store x1).1)).1)).1)).2) :: iOwn (tSl tyActive 127) [.slice A14 x0.Active.length c15] ((laws_markActiveS_m x0.Active ((laws_markIntS_m x0.Order ((laws_markStore_m x0.Store x1).1)).1)).2) :: iOwn (tSl tInt 3) [.slice A10 x0.Order.length c11] ((laws_markIntS_m x0.Order ((laws_markStore_m x0.Store x1).1)).2) :: iOwn (tSl (tSl tyVersion 51) 102) [.slice A6 x0.Store.Segments.length c7] ((laws_markStore_m x0.Store x1).2.Segments) :: iBox p26 77 [.slice A6 x0.Store.Segments.length c7, .int .i64 x0.Store.Now, .int .i64 x0.Cursor, .slice A10 x0.Order.length c11, .slice A14 x0.Active.length c15, .slice A18 x0.Done.length c19, .slice A22 x0.Ledger.length c23, .int .i64 x0.Steps] :: is) W (.slice A22 x0.Ledger.length c23) x0.Ledger ((laws_markFinishedS_m x0.Done ((laws_markActiveS_m x0.Active ((laws_markIntS_m x0.Order ((laws_markStore_m x0.Store x1).1)).1)).1)).1) (hm.front (n := 5) rfl)).mono (fun _ _ h => ⟨(), h.1, h.2⟩)) (Wd_none rfl) (by decide) (fun _ => ?_)
  refine wa ?_
  refine nt' ?_
  refine sr ?_
  refine wm ?_
  refine wa ?_
  refine nt' ?_
  refine CM_ret ?_
  refine QM_rW rfl rfl (fun W hm => ⟨?_, ?_⟩)
  · rw [(show laws_markEngine_m x0 x1 = ((laws_markChargeS_m x0.Ledger ((laws_markFinishedS_m x0.Done ((laws_markActiveS_m x0.Active ((laws_markIntS_m x0.Order ((laws_markStore_m x0.Store x1).1)).1)).1)).1)).1, (⟨(⟨(laws_markStore_m x0.Store x1).2.Segments, x0.Store.Now⟩ : DStore), x0.Cursor, (laws_markIntS_m x0.Order ((laws_markStore_m x0.Store x1).1)).2, (laws_markActiveS_m x0.Active ((laws_markIntS_m x0.Order ((laws_markStore_m x0.Store x1).1)).1)).2, (laws_markFinishedS_m x0.Done ((laws_markActiveS_m x0.Active ((laws_markIntS_m x0.Order ((laws_markStore_m x0.Store x1).1)).1)).1)).2, (laws_markChargeS_m x0.Ledger ((laws_markFinishedS_m x0.Done ((laws_markActiveS_m x0.Active ((laws_markIntS_m x0.Order ((laws_markStore_m x0.Store x1).1)).1)).1)).1)).2, x0.Steps⟩ : DEngine)) from by unfold laws_markEngine_m; exact rfl)]
  · rw [(show laws_markEngine_m x0 x1 = ((laws_markChargeS_m x0.Ledger ((laws_markFinishedS_m x0.Done ((laws_markActiveS_m x0.Active ((laws_markIntS_m x0.Order ((laws_markStore_m x0.Store x1).1)).1)).1)).1)).1, (⟨(⟨(laws_markStore_m x0.Store x1).2.Segments, x0.Store.Now⟩ : DStore), x0.Cursor, (laws_markIntS_m x0.Order ((laws_markStore_m x0.Store x1).1)).2, (laws_markActiveS_m x0.Active ((laws_markIntS_m x0.Order ((laws_markStore_m x0.Store x1).1)).1)).2, (laws_markFinishedS_m x0.Done ((laws_markActiveS_m x0.Active ((laws_markIntS_m x0.Order ((laws_markStore_m x0.Store x1).1)).1)).1)).2, (laws_markChargeS_m x0.Ledger ((laws_markFinishedS_m x0.Done ((laws_markActiveS_m x0.Active ((laws_markIntS_m x0.Order ((laws_markStore_m x0.Store x1).1)).1)).1)).1)).2, x0.Steps⟩ : DEngine)) from by unfold laws_markEngine_m; exact rfl)]; exact Mem.join (is := [iOwn (tSl (tSl tyVersion 51) 102) [.slice A6 x0.Store.Segments.length c7] ((laws_markStore_m x0.Store x1).2.Segments), iOwn (tSl tInt 3) [.slice A10 x0.Order.length c11] ((laws_markIntS_m x0.Order ((laws_markStore_m x0.Store x1).1)).2), iOwn (tSl tyActive 127) [.slice A14 x0.Active.length c15] ((laws_markActiveS_m x0.Active ((laws_markIntS_m x0.Order ((laws_markStore_m x0.Store x1).1)).1)).2), iOwn (tSl tyFinished 136) [.slice A18 x0.Done.length c19] ((laws_markFinishedS_m x0.Done ((laws_markActiveS_m x0.Active ((laws_markIntS_m x0.Order ((laws_markStore_m x0.Store x1).1)).1)).1)).2), iOwn (tSl tyCharge 140) [.slice A22 x0.Ledger.length c23] ((laws_markChargeS_m x0.Ledger ((laws_markFinishedS_m x0.Done ((laws_markActiveS_m x0.Active ((laws_markIntS_m x0.Order ((laws_markStore_m x0.Store x1).1)).1)).1)).1)).2)]) (js := is) (fun _ _ hs => tyEngine_join (x := (⟨(⟨(laws_markStore_m x0.Store x1).2.Segments, x0.Store.Now⟩ : DStore), x0.Cursor, (laws_markIntS_m x0.Order ((laws_markStore_m x0.Store x1).1)).2, (laws_markActiveS_m x0.Active ((laws_markIntS_m x0.Order ((laws_markStore_m x0.Store x1).1)).1)).2, (laws_markFinishedS_m x0.Done ((laws_markActiveS_m x0.Active ((laws_markIntS_m x0.Order ((laws_markStore_m x0.Store x1).1)).1)).1)).2, (laws_markChargeS_m x0.Ledger ((laws_markFinishedS_m x0.Done ((laws_markActiveS_m x0.Active ((laws_markIntS_m x0.Order ((laws_markStore_m x0.Store x1).1)).1)).1)).1)).2, x0.Steps⟩ : DEngine)) hs) ((((((hm.front (n := 0) rfl).front (n := 1) rfl).front (n := 2) rfl).front (n := 3) rfl).front (n := 4) rfl).front (n := 5) rfl).tail

def laws_heldIntS_b1 (x0 : (List Int)) (k6 : Nat) (s7 : Int) : Int ⊕ (Int) :=
  cond ((gt x0 k6) != s7) (Sum.inl (-1)) (Sum.inr (IntKind.i64.wrap (s7 + 1)))
def laws_heldIntS_m (x0 : (List Int)) (x1 : Int) : Int :=
  Sum.elim id (fun (s : Int) => s) (rng (R := Int) (fun k (s : Int) => laws_heldIntS_b1 x0 k s) (x0.length - 0) 0 x1)
set_option maxRecDepth 100000 in
theorem cb69 : Cb Try.prog 69 := ⟨Try.f69, _, Try.func69, rfl, by decide⟩
set_option maxRecDepth 10000 in
set_option maxHeartbeats 4000000 in
theorem laws_heldIntS_c (w : World) (z0 : Value) (x0 : (List Int)) (x1 : Int) (r_0 : rdS tInt w w.heap.size z0 x0) :
    Calls Try.prog 69 #[z0, .int .i64 x1] w fun e w' => e = .returned (.int .i64 (laws_heldIntS_m x0 x1)) ∧ Below w.heap.size w w' := by
  have r5 := r_0
  obtain ⟨m1, A2, c3, rfl, q4⟩ := r_0
  refine call_enterM (L := [(0, .slice A2 x0.length c3), (1, .int .i64 x1)]) (N := 21) Try.func69 rfl rfl (Nat.le_of_ble_eq_true rfl) (argsL_cons rfl (argsL_cons rfl argsL_nil)) ?_
  refine sr ?_
  refine wa ?_
  refine nt' ?_
  refine CM_seq ?_
  refine sr ?_
  refine wa ?_
  refine nt' ?_
  refine CM_block ?_
  refine CM_loop (σ := Nat × (Int) × (Unit)) (fun s => [(0, .slice A2 x0.length c3), (1, .int .i64 s.2.1), (5, .int .i64 ((s.1 : Nat) : Int))]) (fun s => []) (fun s => s.1 ≤ x0.length ∧ rng (R := Int) (fun k (s : Int) => laws_heldIntS_b1 x0 k s) (x0.length - s.1) s.1 s.2.1 = rng (R := Int) (fun k (s : Int) => laws_heldIntS_b1 x0 k s) (x0.length - 0) 0 x1) (fun s => x0.length - s.1) (0, x1, ()) (subL_cons rfl (subL_cons rfl (subL_cons rfl subL_nil))) (fun W hm => hm) ⟨(by omega), rfl⟩ ?_
  rintro ⟨k6, s7, ⟨⟩⟩ H10
  obtain ⟨hk8, hF9⟩ : k6 ≤ x0.length ∧ rng (R := Int) (fun k (s : Int) => laws_heldIntS_b1 x0 k s) (x0.length - k6) k6 s7 = rng (R := Int) (fun k (s : Int) => laws_heldIntS_b1 x0 k s) (x0.length - 0) 0 x1 := H10
  show CM Try.prog 21 _ _ _ _ [(0, .slice A2 x0.length c3), (1, .int .i64 s7), (5, .int .i64 ((k6 : Nat) : Int))] []
  refine CM_seq ?_
  refine sr ?_
  refine wm ?_
  refine wm ?_
  refine wv (fun W hm => rv_len Try.underlying27 rfl) ?_
  refine wv (fun W hm => rv_lss rfl rfl) ?_
  refine nt' ?_
  by_cases hl11 : k6 < x0.length
  · have g12 : (decide (((k6 : Nat) : Int) < ((x0.length : Nat) : Int))) = true := decide_eq_true (by omega)
    refine CM_condT rfl g12 ?_
    refine CM_skip ?_
    refine QM_then ?_
    refine CM_seq ?_
    refine CM_block ?_
    refine CM_seq ?_
    refine sr ?_
    refine wm ?_
    refine wm ?_
    obtain ⟨a13, rfl, hb14, he15⟩ := q4 (by omega)
    refine wv (fun W hm => rv_index (sz := 1) (k := k6) Try.underlying27 Try.type3 rfl rfl rfl (by omega)) ?_
    refine wv (fun W hm => rv_load Try.underlying3 rfl rfl ((hm.cell0 (show (a13.add (k6 * 1)).block < w.heap.size from by rw [add_block]; exact hb14.1)).trans (rdS_int he15 k6 (by omega)))) ?_
    refine wm ?_
    refine wv (fun W hm => rv_neq rfl rfl) ?_
    refine nt' ?_
    by_cases h16 : (gt x0 k6) = s7
    · have g17 : ((gt x0 k6) != s7) = false := by rw [h16]; exact bne_self_eq_false _
      refine CM_condF rfl g17 ?_
      refine CM_skip ?_
      refine QM_then ?_
      refine CM_region ?_
      refine wm ?_
      refine wv (fun W hm => rv_add rfl rfl) ?_
      refine wa ?_
      refine WM_nil ?_
      refine QM_block_normal ?_
      refine QM_then ?_
      refine CM_region ?_
      refine wm ?_
      refine wv (fun W hm => rv_addN (p := k6) (q := 1) rfl rfl (by omega)) ?_
      refine wa ?_
      refine WM_nil ?_
      have hn18 := rng_next (R := Int) (body := (fun k (s : Int) => laws_heldIntS_b1 x0 k s)) (k := k6) (s := s7) (s' := (IntKind.i64.wrap (s7 + 1))) (show k6 < x0.length from by omega) (show laws_heldIntS_b1 x0 k6 s7 = Sum.inr (IntKind.i64.wrap (s7 + 1)) from by unfold laws_heldIntS_b1; exact cond_f g17 (rfl)) hF9
      exact QM_round (k6 + 1, (IntKind.i64.wrap (s7 + 1)), ()) (subL_cons rfl (subL_cons rfl (subL_cons rfl subL_nil))) (fun W hm => hm) ⟨(by omega), hn18⟩ (show x0.length - (k6 + 1) < x0.length - k6 from by omega)
    · have g17 : ((gt x0 k6) != s7) = true := bne_iff_ne.2 h16
      refine CM_condT rfl g17 ?_
      refine sr ?_
      refine wa ?_
      refine nt' ?_
      refine CM_ret ?_
      refine QM_then_ret ?_
      refine QM_block_ret ?_
      refine QM_then_ret ?_
      refine QM_then_ret ?_
      refine QM_block_ret ?_
      refine QM_then_ret ?_
      exact QM_ret1 rfl rfl (fun W hm => ⟨ret_i (show laws_heldIntS_m x0 x1 = (-1) from by unfold laws_heldIntS_m; exact fin_inl (rng_ret (body := (fun k (s : Int) => laws_heldIntS_b1 x0 k s)) (k := k6) (s := s7) (show k6 < x0.length from by omega) (show laws_heldIntS_b1 x0 k6 s7 = Sum.inl (-1) from by unfold laws_heldIntS_b1; exact cond_t g17 (rfl)) hF9) rfl), hm.below⟩)
  · have g12 : (decide (((k6 : Nat) : Int) < ((x0.length : Nat) : Int))) = false := decide_eq_false (by omega)
    refine CM_condF rfl g12 ?_
    refine CM_exit ?_
    refine QM_then_exit ?_
    refine QM_then_exit ?_
    have hE19 : rng (R := Int) (fun k (s : Int) => laws_heldIntS_b1 x0 k s) (x0.length - 0) 0 x1 = Sum.inr s7 := rng_end hl11 hF9
    refine QM_block_hit ?_
    refine QM_then ?_
    refine sr ?_
    refine wm ?_
    refine wa ?_
    refine nt' ?_
    refine CM_ret ?_
    exact QM_ret1 rfl rfl (fun W hm => ⟨ret_i (show laws_heldIntS_m x0 x1 = s7 from by unfold laws_heldIntS_m; exact fin_inr hE19 (rfl)), hm.below⟩)

end Go.Proofs.Ytfjhiegahdknmaa
