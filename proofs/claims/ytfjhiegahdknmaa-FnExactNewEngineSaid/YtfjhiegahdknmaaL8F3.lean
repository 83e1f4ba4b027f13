/-
  Contracts of functions, printed by a program of ours.
-/
import Derived.Test.YtfjhiegahdknmaaL8F2
namespace Go.Proofs.Ytfjhiegahdknmaa
open Go.RowKit
def laws_markVersionSS_b1 (k5 : Nat) (s6 : Int) (d7 : (List (List DVersion))) : (Int × (List (List DVersion))) ⊕ (Int × (List (List DVersion))) :=
  Sum.inr ((laws_markVersionS_m (gt d7 k5) s6).1, (d7.set k5 ((laws_markVersionS_m (gt d7 k5) s6).2)))
def laws_markVersionSS_m (x0 : (List (List DVersion))) (x1 : Int) : (Int × (List (List DVersion))) :=
  Sum.elim id (fun (s : Int × (List (List DVersion))) => (s.1, s.2)) (rng (R := (Int × (List (List DVersion)))) (fun k (s : Int × (List (List DVersion))) => laws_markVersionSS_b1 k s.1 s.2) (x0.length - 0) 0 (x1, x0))
theorem cb129 : Cb Try.prog 129 := ⟨Try.f129, _, Try.func129, rfl, by decide⟩
set_option maxRecDepth 10000 in
set_option maxHeartbeats 4000000 in
theorem laws_markVersionSS_c (B : Nat) (w0 : World) (is : List It) (w : World) (z0 : Value) (x0 : (List (List DVersion))) (x1 : Int) (hm : Mem B w0 (iOwn (tSl (tSl tyVersion 51) 102) [z0] x0 :: is) w) :
    Calls Try.prog 129 #[z0, .int .i64 x1] w fun e w' => e = .returned (.int .i64 (laws_markVersionSS_m x0 x1).1) ∧ Mem B w0 (iOwn (tSl (tSl tyVersion 51) 102) [z0] (laws_markVersionSS_m x0 x1).2 :: is) w' := by
  refine call_enterW (L := [(0, z0), (1, .int .i64 x1)]) (N := 19) Try.func129 rfl rfl (Nat.le_of_ble_eq_true rfl) (argsL_cons rfl (argsL_cons rfl argsL_nil)) hm ?_
  refine CM_form (n := 0) rfl ?_
  rintro A1 c2 rfl m3
  refine sr ?_
  refine wa ?_
  refine nt' ?_
  refine CM_seq ?_
  refine sr ?_
  refine wa ?_
  refine nt' ?_
  refine CM_block ?_
  refine CM_loop (σ := Nat × (Int × (List (List DVersion))) × (Unit)) (fun s => [(0, .slice A1 x0.length c2), (1, .int .i64 s.2.1.1), (5, .int .i64 ((s.1 : Nat) : Int))]) (fun s => (iOwn (tSl (tSl tyVersion 51) 102) [.slice A1 x0.length c2] s.2.1.2 :: is)) (fun s => s.1 ≤ x0.length ∧ rng (R := (Int × (List (List DVersion)))) (fun k (s : Int × (List (List DVersion))) => laws_markVersionSS_b1 k s.1 s.2) (x0.length - s.1) s.1 s.2.1 = rng (R := (Int × (List (List DVersion)))) (fun k (s : Int × (List (List DVersion))) => laws_markVersionSS_b1 k s.1 s.2) (x0.length - 0) 0 (x1, x0)) (fun s => x0.length - s.1) (0, (x1, x0), ()) (subL_cons rfl (subL_cons rfl (subL_cons rfl subL_nil))) (fun W hm => hm) ⟨(by omega), rfl⟩ ?_
  rintro ⟨k5, ⟨s6, d7⟩, ⟨⟩⟩ H10
  obtain ⟨hk8, hF9⟩ : k5 ≤ x0.length ∧ rng (R := (Int × (List (List DVersion)))) (fun k (s : Int × (List (List DVersion))) => laws_markVersionSS_b1 k s.1 s.2) (x0.length - k5) k5 (s6, d7) = rng (R := (Int × (List (List DVersion)))) (fun k (s : Int × (List (List DVersion))) => laws_markVersionSS_b1 k s.1 s.2) (x0.length - 0) 0 (x1, x0) := H10
  show CM Try.prog 19 _ _ _ _ [(0, .slice A1 x0.length c2), (1, .int .i64 s6), (5, .int .i64 ((k5 : Nat) : Int))] (iOwn (tSl (tSl tyVersion 51) 102) [.slice A1 x0.length c2] d7 :: is)
  refine CM_seq ?_
  refine sr ?_
  refine wm ?_
  refine wm ?_
  refine wv (fun W hm => rv_len Try.underlying24 rfl) ?_
  refine wv (fun W hm => rv_lss rfl rfl) ?_
  refine nt' ?_
  by_cases hl11 : k5 < x0.length
  · have g12 : (decide (((k5 : Nat) : Int) < ((x0.length : Nat) : Int))) = true := decide_eq_true (by omega)
    refine CM_condT rfl g12 ?_
    refine CM_skip ?_
    refine QM_then ?_
    refine CM_seq ?_
    refine CM_block ?_
    refine CM_region ?_
    refine wm ?_
    refine wm ?_
    refine WM_formO (n := 0) rfl (by omega) ?_
    rintro g13 rfl
    refine wv (fun W hm => rv_index (sz := 1) (k := k5) Try.underlying24 Try.type102 rfl rfl rfl (by omega)) ?_
    refine WM_focus (E := (tSl tyVersion 51)) (e := 102) (A := (some ⟨g13, 0, none⟩)) (n := x0.length) (c := c2) (xs := d7) (k := k5) (js := (is)) (by omega) (fun W hm => (hm.front (n := 0) rfl)) (fun ck14 => ?_)
    refine WM_split (γ := Value) (js := fun g => [iOwn (tSl tyVersion 51) [g] (gt d7 k5)]) (C := fun g => ck14 = [g]) (fun _ _ h => tSl_split h) ?_
    rintro v15 rfl
    refine WM_form (n := 0) rfl ?_
    rintro A16 c17 rfl m18
    refine wv (fun W hm => rv_load Try.underlying102 rfl rfl (hm.focInt (i := 1) rfl rfl)) ?_
    refine wm ?_
    refine WM_callW (χ := Unit) (val := fun _ => .int .i64 (laws_markVersionS_m (gt d7 k5) s6).1) (js := fun _ => (iOwn (tSl tyVersion 51) [.slice A16 (gt d7 k5).length c17] (laws_markVersionS_m (gt d7 k5) s6).2 :: (iFoc (tSl tyVersion 51) 102 (some ⟨g13, 0, none⟩) x0.length c2 d7 k5 [.slice A16 (gt d7 k5).length c17] :: is))) (cl_fn cb181 rfl) (fun W hm => (laws_markVersionS_c B w0 (iFoc (tSl tyVersion 51) 102 (some ⟨g13, 0, none⟩) x0.length c2 d7 k5 [.slice A16 (gt d7 k5).length c17] :: is) W (.slice A16 (gt d7 k5).length c17) (gt d7 k5) s6 (hm.front (n := 0) rfl)).mono (fun _ _ h => ⟨(), h.1, h.2⟩)) (Wd_none rfl) (by decide) (fun _ => ?_)
    refine wa ?_
    refine WM_nil ?_
    refine QM_block_normal ?_
    refine QM_then ?_
    refine CM_region ?_
    refine wm ?_
    refine wv (fun W hm => rv_addN (p := k5) (q := 1) rfl rfl (by omega)) ?_
    refine wa ?_
    refine WM_nil ?_
    refine QM_items (fun W hm => Mem.unfocus (Mem.join (is := [iOwn (tSl tyVersion 51) [.slice A16 (gt d7 k5).length c17] ((laws_markVersionS_m (gt d7 k5) s6).2)]) (js := (iFoc (tSl tyVersion 51) 102 (some ⟨g13, 0, none⟩) x0.length c2 d7 k5 [.slice A16 (gt d7 k5).length c17] :: (is))) (fun _ _ hs => Sep.one hs) ((hm.front (n := 1) rfl).front (n := 1) rfl))) ?_
    have hn20 := rng_next (R := (Int × (List (List DVersion)))) (body := (fun k (s : Int × (List (List DVersion))) => laws_markVersionSS_b1 k s.1 s.2)) (k := k5) (s := (s6, d7)) (s' := ((laws_markVersionS_m (gt d7 k5) s6).1, (d7.set k5 ((laws_markVersionS_m (gt d7 k5) s6).2)))) (show k5 < x0.length from by omega) (show laws_markVersionSS_b1 k5 s6 d7 = Sum.inr ((laws_markVersionS_m (gt d7 k5) s6).1, (d7.set k5 ((laws_markVersionS_m (gt d7 k5) s6).2))) from by unfold laws_markVersionSS_b1; exact rfl) hF9
    exact QM_round (k5 + 1, ((laws_markVersionS_m (gt d7 k5) s6).1, (d7.set k5 ((laws_markVersionS_m (gt d7 k5) s6).2))), ()) (subL_cons rfl (subL_cons rfl (subL_cons rfl subL_nil))) (fun W hm => hm) ⟨(by omega), hn20⟩ (show x0.length - (k5 + 1) < x0.length - k5 from by omega)
  · have g12 : (decide (((k5 : Nat) : Int) < ((x0.length : Nat) : Int))) = false := decide_eq_false (by omega)
    refine CM_condF rfl g12 ?_
    refine CM_exit ?_
    refine QM_then_exit ?_
    refine QM_then_exit ?_
    have hE21 : rng (R := (Int × (List (List DVersion)))) (fun k (s : Int × (List (List DVersion))) => laws_markVersionSS_b1 k s.1 s.2) (x0.length - 0) 0 (x1, x0) = Sum.inr (s6, d7) := rng_end hl11 hF9
    refine QM_block_hit ?_
    refine QM_then ?_
    refine sr ?_
    refine wm ?_
    refine wa ?_
    refine nt' ?_
    refine CM_ret ?_
    refine QM_rW rfl rfl (fun W hm => ⟨?_, ?_⟩)
    · rw [(show laws_markVersionSS_m x0 x1 = (s6, d7) from by unfold laws_markVersionSS_m; exact fin_inr hE21 (rfl))]
    · rw [(show laws_markVersionSS_m x0 x1 = (s6, d7) from by unfold laws_markVersionSS_m; exact fin_inr hE21 (rfl))]; exact hm

def laws_markStore_m (x0 : DStore) (x1 : Int) : (Int × DStore) :=
  ((laws_markVersionSS_m x0.Segments x1).1, (⟨(laws_markVersionSS_m x0.Segments x1).2, x0.Now⟩ : DStore))
theorem cb54 : Cb Try.prog 54 := ⟨Try.f54, _, Try.func54, rfl, by decide⟩
set_option maxRecDepth 10000 in
set_option maxHeartbeats 4000000 in
theorem laws_markStore_c (B : Nat) (w0 : World) (is : List It) (w : World) (z0 : List Value) (x0 : DStore) (x1 : Int) (hm : Mem B w0 (iOwn tyStore z0 x0 :: is) w) :
    Calls Try.prog 54 #[.agg z0.toArray, .int .i64 x1] w fun e w' => e = .returned (.int .i64 (laws_markStore_m x0 x1).1) ∧ Mem B w0 (iOwn tyStore z0 (laws_markStore_m x0 x1).2 :: is) w' := by
  refine call_enterW (L := [(0, .agg z0.toArray), (1, .int .i64 x1)]) (N := 10) Try.func54 rfl rfl (Nat.le_of_ble_eq_true rfl) (argsL_cons rfl (argsL_cons rfl argsL_nil)) hm ?_
  refine CM_split (γ := Value) (js := fun g => [iOwn (tSl (tSl tyVersion 51) 102) [g] x0.Segments]) (C := fun g => z0 = [g, .int .i64 x0.Now]) (fun _ _ h => tyStore_split h) ?_
  rintro v1 rfl
  refine CM_form (n := 0) rfl ?_
  rintro A2 c3 rfl m4
  refine sr ?_
  refine WM_box rfl (Wd_none rfl) (by decide) (fun p6 => ?_)
  refine wa ?_
  refine nt' ?_
  refine sr ?_
  refine wv (fun W hm => rv_field Try.underlying26 rfl Try.type24 (by decide) rfl rfl) ?_
  refine wv (fun W hm => rv_load Try.underlying24 rfl rfl (hm.boxCell (n := 0) (o := 0) rfl rfl)) ?_
  refine wm ?_
  refine WM_callW (χ := Unit) (val := fun _ => .int .i64 (laws_markVersionSS_m x0.Segments x1).1) (js := fun _ => (iOwn (tSl (tSl tyVersion 51) 102) [.slice A2 x0.Segments.length c3] (laws_markVersionSS_m x0.Segments x1).2 :: (iBox p6 26 [.slice A2 x0.Segments.length c3, .int .i64 x0.Now] :: is))) (cl_fn cb129 rfl) (fun W hm => (laws_markVersionSS_c B w0 (iBox p6 26 [.slice A2 x0.Segments.length c3, .int .i64 x0.Now] :: is) W (.slice A2 x0.Segments.length c3) x0.Segments x1 (hm.front (n := 1) rfl)).mono (fun _ _ h => ⟨(), h.1, h.2⟩)) (Wd_none rfl) (by decide) (fun _ => ?_)
  refine wa ?_
  refine nt' ?_
  refine sr ?_
  refine wm ?_
  refine wa ?_
  refine nt' ?_
  refine CM_ret ?_
  refine QM_rW rfl rfl (fun W hm => ⟨?_, ?_⟩)
  · rw [(show laws_markStore_m x0 x1 = ((laws_markVersionSS_m x0.Segments x1).1, (⟨(laws_markVersionSS_m x0.Segments x1).2, x0.Now⟩ : DStore)) from by unfold laws_markStore_m; exact rfl)]
  · rw [(show laws_markStore_m x0 x1 = ((laws_markVersionSS_m x0.Segments x1).1, (⟨(laws_markVersionSS_m x0.Segments x1).2, x0.Now⟩ : DStore)) from by unfold laws_markStore_m; exact rfl)]; exact Mem.join (is := [iOwn (tSl (tSl tyVersion 51) 102) [.slice A2 x0.Segments.length c3] ((laws_markVersionSS_m x0.Segments x1).2)]) (js := is) (fun _ _ hs => tyStore_join (x := (⟨(laws_markVersionSS_m x0.Segments x1).2, x0.Now⟩ : DStore)) hs) ((hm.front (n := 0) rfl).front (n := 1) rfl).tail

def laws_markCondS_b1 (k5 : Nat) (s6 : Int) (d7 : (List DCond)) : (Int × (List DCond)) ⊕ (Int × (List DCond)) :=
  Sum.inr ((IntKind.i64.wrap ((IntKind.i64.wrap ((IntKind.i64.wrap (s6 + 1)) + 1)) + 1)), (d7.set k5 (⟨s6, (IntKind.i64.wrap (s6 + 1)), (IntKind.i64.wrap ((IntKind.i64.wrap (s6 + 1)) + 1))⟩ : DCond)))
def laws_markCondS_m (x0 : (List DCond)) (x1 : Int) : (Int × (List DCond)) :=
  Sum.elim id (fun (s : Int × (List DCond)) => (s.1, s.2)) (rng (R := (Int × (List DCond))) (fun k (s : Int × (List DCond)) => laws_markCondS_b1 k s.1 s.2) (x0.length - 0) 0 (x1, x0))
theorem cb182 : Cb Try.prog 182 := ⟨Try.f182, _, Try.func182, rfl, by decide⟩
set_option maxRecDepth 10000 in
set_option maxHeartbeats 4000000 in
theorem laws_markCondS_c (B : Nat) (w0 : World) (is : List It) (w : World) (z0 : Value) (x0 : (List DCond)) (x1 : Int) (hm : Mem B w0 (iOwn (tSl tyCond 183) [z0] x0 :: is) w) :
    Calls Try.prog 182 #[z0, .int .i64 x1] w fun e w' => e = .returned (.int .i64 (laws_markCondS_m x0 x1).1) ∧ Mem B w0 (iOwn (tSl tyCond 183) [z0] (laws_markCondS_m x0 x1).2 :: is) w' := by
  refine call_enterW (L := [(0, z0), (1, .int .i64 x1)]) (N := 34) Try.func182 rfl rfl (Nat.le_of_ble_eq_true rfl) (argsL_cons rfl (argsL_cons rfl argsL_nil)) hm ?_
  refine CM_form (n := 0) rfl ?_
  rintro A1 c2 rfl m3
  refine sr ?_
  refine wa ?_
  refine nt' ?_
  refine CM_seq ?_
  refine sr ?_
  refine wa ?_
  refine nt' ?_
  refine CM_block ?_
  refine CM_loop (σ := Nat × (Int × (List DCond)) × (Unit)) (fun s => [(0, .slice A1 x0.length c2), (1, .int .i64 s.2.1.1), (5, .int .i64 ((s.1 : Nat) : Int))]) (fun s => (iOwn (tSl tyCond 183) [.slice A1 x0.length c2] s.2.1.2 :: is)) (fun s => s.1 ≤ x0.length ∧ rng (R := (Int × (List DCond))) (fun k (s : Int × (List DCond)) => laws_markCondS_b1 k s.1 s.2) (x0.length - s.1) s.1 s.2.1 = rng (R := (Int × (List DCond))) (fun k (s : Int × (List DCond)) => laws_markCondS_b1 k s.1 s.2) (x0.length - 0) 0 (x1, x0)) (fun s => x0.length - s.1) (0, (x1, x0), ()) (subL_cons rfl (subL_cons rfl (subL_cons rfl subL_nil))) (fun W hm => hm) ⟨(by omega), rfl⟩ ?_
  rintro ⟨k5, ⟨s6, d7⟩, ⟨⟩⟩ H10
  obtain ⟨hk8, hF9⟩ : k5 ≤ x0.length ∧ rng (R := (Int × (List DCond))) (fun k (s : Int × (List DCond)) => laws_markCondS_b1 k s.1 s.2) (x0.length - k5) k5 (s6, d7) = rng (R := (Int × (List DCond))) (fun k (s : Int × (List DCond)) => laws_markCondS_b1 k s.1 s.2) (x0.length - 0) 0 (x1, x0) := H10
  show CM Try.prog 34 _ _ _ _ [(0, .slice A1 x0.length c2), (1, .int .i64 s6), (5, .int .i64 ((k5 : Nat) : Int))] (iOwn (tSl tyCond 183) [.slice A1 x0.length c2] d7 :: is)
  refine CM_seq ?_
  refine sr ?_
  refine wm ?_
  refine wm ?_
  refine wv (fun W hm => rv_len Try.underlying123 rfl) ?_
  refine wv (fun W hm => rv_lss rfl rfl) ?_
  refine nt' ?_
  by_cases hl11 : k5 < x0.length
  · have g12 : (decide (((k5 : Nat) : Int) < ((x0.length : Nat) : Int))) = true := decide_eq_true (by omega)
    refine CM_condT rfl g12 ?_
    refine CM_skip ?_
    refine QM_then ?_
    refine CM_seq ?_
    refine CM_block ?_
    refine sr ?_
    refine wm ?_
    refine wm ?_
    refine wm ?_
    refine WM_formO (n := 0) rfl (by omega) ?_
    rintro g13 rfl
    refine wv (fun W hm => rv_index (sz := 3) (k := k5) Try.underlying123 Try.type183 rfl rfl rfl (by omega)) ?_
    refine wv (fun W hm => rv_field Try.underlying183 rfl Try.type3 (by decide) rfl rfl) ?_
    refine WM_focus (E := tyCond) (e := 183) (A := (some ⟨g13, 0, none⟩)) (n := x0.length) (c := c2) (xs := d7) (k := k5) (js := (is)) (by omega) (fun W hm => (hm.front (n := 0) rfl)) (fun ck14 => ?_)
    refine WM_split (γ := Unit) (js := fun _ => []) (C := fun _ => ck14 = [.int .i64 ((gt d7 k5).Field), .int .i64 ((gt d7 k5).Low), .int .i64 ((gt d7 k5).High)]) (fun _ _ h => tyCond_split h) ?_
    rintro ⟨⟩ rfl
    refine WM_storeFoc (E := tyCond) (e := 183) (g := g13) (n := x0.length) (c := c2) (k := k5) (s := 3) (o := 0) (xs := d7) (ck := [.int .i64 ((gt d7 k5).Field), .int .i64 ((gt d7 k5).Low), .int .i64 ((gt d7 k5).High)]) (ck' := [.int .i64 s6, .int .i64 ((gt d7 k5).Low), .int .i64 ((gt d7 k5).High)]) (js := (is)) (fun W hm => (hm.front (n := 0) rfl)) rfl rfl Try.type3 rfl (Nat.le_of_ble_eq_true rfl) rfl rfl rfl rfl (Wd_none rfl) ?_
    refine nt' ?_
    refine sr ?_
    refine wm ?_
    refine wv (fun W hm => rv_add rfl rfl) ?_
    refine wa ?_
    refine nt' ?_
    refine sr ?_
    refine wm ?_
    refine wm ?_
    refine wm ?_
    refine wv (fun W hm => rv_index (sz := 3) (k := k5) Try.underlying123 Try.type183 rfl rfl rfl (by omega)) ?_
    refine wv (fun W hm => rv_field Try.underlying183 rfl Try.type3 (by decide) rfl rfl) ?_
    refine WM_storeFoc (E := tyCond) (e := 183) (g := g13) (n := x0.length) (c := c2) (k := k5) (s := 3) (o := 1) (xs := d7) (ck := [.int .i64 s6, .int .i64 ((gt d7 k5).Low), .int .i64 ((gt d7 k5).High)]) (ck' := [.int .i64 s6, .int .i64 (IntKind.i64.wrap (s6 + 1)), .int .i64 ((gt d7 k5).High)]) (js := (is)) (fun W hm => (hm.front (n := 0) rfl)) rfl rfl Try.type3 rfl (Nat.le_of_ble_eq_true rfl) rfl rfl rfl rfl (Wd_none rfl) ?_
    refine nt' ?_
    refine sr ?_
    refine wm ?_
    refine wv (fun W hm => rv_add rfl rfl) ?_
    refine wa ?_
    refine nt' ?_
    refine sr ?_
    refine wm ?_
    refine wm ?_
    refine wm ?_
    refine wv (fun W hm => rv_index (sz := 3) (k := k5) Try.underlying123 Try.type183 rfl rfl rfl (by omega)) ?_
    refine wv (fun W hm => rv_field Try.underlying183 rfl Try.type3 (by decide) rfl rfl) ?_
    refine WM_storeFoc (E := tyCond) (e := 183) (g := g13) (n := x0.length) (c := c2) (k := k5) (s := 3) (o := 2) (xs := d7) (ck := [.int .i64 s6, .int .i64 (IntKind.i64.wrap (s6 + 1)), .int .i64 ((gt d7 k5).High)]) (ck' := [.int .i64 s6, .int .i64 (IntKind.i64.wrap (s6 + 1)), .int .i64 (IntKind.i64.wrap ((IntKind.i64.wrap (s6 + 1)) + 1))]) (js := (is)) (fun W hm => (hm.front (n := 0) rfl)) rfl rfl Try.type3 rfl (Nat.le_of_ble_eq_true rfl) rfl rfl rfl rfl (Wd_none rfl) ?_
    refine nt' ?_
    refine CM_region ?_
    refine wm ?_
    refine wv (fun W hm => rv_add rfl rfl) ?_
    refine wa ?_
    refine WM_nil ?_
    refine QM_block_normal ?_
    refine QM_then ?_
    refine CM_region ?_
    refine wm ?_
    refine wv (fun W hm => rv_addN (p := k5) (q := 1) rfl rfl (by omega)) ?_
    refine wa ?_
    refine WM_nil ?_
    refine QM_items (fun W hm => Mem.unfocus (Mem.join (is := []) (js := (iFoc tyCond 183 (some ⟨g13, 0, none⟩) x0.length c2 d7 k5 [.int .i64 s6, .int .i64 (IntKind.i64.wrap (s6 + 1)), .int .i64 (IntKind.i64.wrap ((IntKind.i64.wrap (s6 + 1)) + 1))] :: (is))) (fun _ _ hs => tyCond_join (x := (⟨s6, (IntKind.i64.wrap (s6 + 1)), (IntKind.i64.wrap ((IntKind.i64.wrap (s6 + 1)) + 1))⟩ : DCond)) hs) (hm.front (n := 0) rfl))) ?_
    have hn15 := rng_next (R := (Int × (List DCond))) (body := (fun k (s : Int × (List DCond)) => laws_markCondS_b1 k s.1 s.2)) (k := k5) (s := (s6, d7)) (s' := ((IntKind.i64.wrap ((IntKind.i64.wrap ((IntKind.i64.wrap (s6 + 1)) + 1)) + 1)), (d7.set k5 (⟨s6, (IntKind.i64.wrap (s6 + 1)), (IntKind.i64.wrap ((IntKind.i64.wrap (s6 + 1)) + 1))⟩ : DCond)))) (show k5 < x0.length from by omega) (show laws_markCondS_b1 k5 s6 d7 = Sum.inr ((IntKind.i64.wrap ((IntKind.i64.wrap ((IntKind.i64.wrap (s6 + 1)) + 1)) + 1)), (d7.set k5 (⟨s6, (IntKind.i64.wrap (s6 + 1)), (IntKind.i64.wrap ((IntKind.i64.wrap (s6 + 1)) + 1))⟩ : DCond))) from by unfold laws_markCondS_b1; exact rfl) hF9
    exact QM_round (k5 + 1, ((IntKind.i64.wrap ((IntKind.i64.wrap ((IntKind.i64.wrap (s6 + 1)) + 1)) + 1)), (d7.set k5 (⟨s6, (IntKind.i64.wrap (s6 + 1)), (IntKind.i64.wrap ((IntKind.i64.wrap (s6 + 1)) + 1))⟩ : DCond))), ()) (subL_cons rfl (subL_cons rfl (subL_cons rfl subL_nil))) (fun W hm => hm) ⟨(by omega), hn15⟩ (show x0.length - (k5 + 1) < x0.length - k5 from by omega)
  · have g12 : (decide (((k5 : Nat) : Int) < ((x0.length : Nat) : Int))) = false := decide_eq_false (by omega)
    refine CM_condF rfl g12 ?_
    refine CM_exit ?_
    refine QM_then_exit ?_
    refine QM_then_exit ?_
    have hE16 : rng (R := (Int × (List DCond))) (fun k (s : Int × (List DCond)) => laws_markCondS_b1 k s.1 s.2) (x0.length - 0) 0 (x1, x0) = Sum.inr (s6, d7) := rng_end hl11 hF9
    refine QM_block_hit ?_
    refine QM_then ?_
    refine sr ?_
    refine wm ?_
    refine wa ?_
    refine nt' ?_
    refine CM_ret ?_
    refine QM_rW rfl rfl (fun W hm => ⟨?_, ?_⟩)
    · rw [(show laws_markCondS_m x0 x1 = (s6, d7) from by unfold laws_markCondS_m; exact fin_inr hE16 (rfl))]
    · rw [(show laws_markCondS_m x0 x1 = (s6, d7) from by unfold laws_markCondS_m; exact fin_inr hE16 (rfl))]; exact hm

def laws_markRowS_b1 (k5 : Nat) (s6 : Int) (d7 : (List DRow)) : (Int × (List DRow)) ⊕ (Int × (List DRow)) :=
  Sum.inr ((laws_markIntS_m ((gt d7 k5).Values) (IntKind.i64.wrap (s6 + 1))).1, (d7.set k5 (⟨s6, (laws_markIntS_m ((gt d7 k5).Values) (IntKind.i64.wrap (s6 + 1))).2⟩ : DRow)))
def laws_markRowS_m (x0 : (List DRow)) (x1 : Int) : (Int × (List DRow)) :=
  Sum.elim id (fun (s : Int × (List DRow)) => (s.1, s.2)) (rng (R := (Int × (List DRow))) (fun k (s : Int × (List DRow)) => laws_markRowS_b1 k s.1 s.2) (x0.length - 0) 0 (x1, x0))
theorem cb183 : Cb Try.prog 183 := ⟨Try.f183, _, Try.func183, rfl, by decide⟩
set_option maxRecDepth 10000 in
set_option maxHeartbeats 4000000 in
theorem laws_markRowS_c (B : Nat) (w0 : World) (is : List It) (w : World) (z0 : Value) (x0 : (List DRow)) (x1 : Int) (hm : Mem B w0 (iOwn (tSl tyRow 29) [z0] x0 :: is) w) :
    Calls Try.prog 183 #[z0, .int .i64 x1] w fun e w' => e = .returned (.int .i64 (laws_markRowS_m x0 x1).1) ∧ Mem B w0 (iOwn (tSl tyRow 29) [z0] (laws_markRowS_m x0 x1).2 :: is) w' := by
  refine call_enterW (L := [(0, z0), (1, .int .i64 x1)]) (N := 27) Try.func183 rfl rfl (Nat.le_of_ble_eq_true rfl) (argsL_cons rfl (argsL_cons rfl argsL_nil)) hm ?_
  refine CM_form (n := 0) rfl ?_
  rintro A1 c2 rfl m3
  refine sr ?_
  refine wa ?_
  refine nt' ?_
  refine CM_seq ?_
  refine sr ?_
  refine wa ?_
  refine nt' ?_
  refine CM_block ?_
  refine CM_loop (σ := Nat × (Int × (List DRow)) × (Unit)) (fun s => [(0, .slice A1 x0.length c2), (1, .int .i64 s.2.1.1), (5, .int .i64 ((s.1 : Nat) : Int))]) (fun s => (iOwn (tSl tyRow 29) [.slice A1 x0.length c2] s.2.1.2 :: is)) (fun s => s.1 ≤ x0.length ∧ rng (R := (Int × (List DRow))) (fun k (s : Int × (List DRow)) => laws_markRowS_b1 k s.1 s.2) (x0.length - s.1) s.1 s.2.1 = rng (R := (Int × (List DRow))) (fun k (s : Int × (List DRow)) => laws_markRowS_b1 k s.1 s.2) (x0.length - 0) 0 (x1, x0)) (fun s => x0.length - s.1) (0, (x1, x0), ()) (subL_cons rfl (subL_cons rfl (subL_cons rfl subL_nil))) (fun W hm => hm) ⟨(by omega), rfl⟩ ?_
  rintro ⟨k5, ⟨s6, d7⟩, ⟨⟩⟩ H10
  obtain ⟨hk8, hF9⟩ : k5 ≤ x0.length ∧ rng (R := (Int × (List DRow))) (fun k (s : Int × (List DRow)) => laws_markRowS_b1 k s.1 s.2) (x0.length - k5) k5 (s6, d7) = rng (R := (Int × (List DRow))) (fun k (s : Int × (List DRow)) => laws_markRowS_b1 k s.1 s.2) (x0.length - 0) 0 (x1, x0) := H10
  show CM Try.prog 27 _ _ _ _ [(0, .slice A1 x0.length c2), (1, .int .i64 s6), (5, .int .i64 ((k5 : Nat) : Int))] (iOwn (tSl tyRow 29) [.slice A1 x0.length c2] d7 :: is)
  refine CM_seq ?_
  refine sr ?_
  refine wm ?_
  refine wm ?_
  refine wv (fun W hm => rv_len Try.underlying39 rfl) ?_
  refine wv (fun W hm => rv_lss rfl rfl) ?_
  refine nt' ?_
  by_cases hl11 : k5 < x0.length
  · have g12 : (decide (((k5 : Nat) : Int) < ((x0.length : Nat) : Int))) = true := decide_eq_true (by omega)
    refine CM_condT rfl g12 ?_
    refine CM_skip ?_
    refine QM_then ?_
    refine CM_seq ?_
    refine CM_block ?_
    refine sr ?_
    refine wm ?_
    refine wm ?_
    refine wm ?_
    refine WM_formO (n := 0) rfl (by omega) ?_
    rintro g13 rfl
    refine wv (fun W hm => rv_index (sz := 2) (k := k5) Try.underlying39 Try.type29 rfl rfl rfl (by omega)) ?_
    refine wv (fun W hm => rv_field Try.underlying29 rfl Try.type3 (by decide) rfl rfl) ?_
    refine WM_focus (E := tyRow) (e := 29) (A := (some ⟨g13, 0, none⟩)) (n := x0.length) (c := c2) (xs := d7) (k := k5) (js := (is)) (by omega) (fun W hm => (hm.front (n := 0) rfl)) (fun ck14 => ?_)
    refine WM_split (γ := Value) (js := fun g => [iOwn (tSl tInt 3) [g] ((gt d7 k5).Values)]) (C := fun g => ck14 = [.int .i64 ((gt d7 k5).Id), g]) (fun _ _ h => tyRow_split h) ?_
    rintro v15 rfl
    refine WM_form (n := 0) rfl ?_
    rintro A16 c17 rfl m18
    refine WM_storeFoc (E := tyRow) (e := 29) (g := g13) (n := x0.length) (c := c2) (k := k5) (s := 2) (o := 0) (xs := d7) (ck := [.int .i64 ((gt d7 k5).Id), .slice A16 ((gt d7 k5).Values).length c17]) (ck' := [.int .i64 s6, .slice A16 ((gt d7 k5).Values).length c17]) (js := (iOwn (tSl tInt 3) [.slice A16 ((gt d7 k5).Values).length c17] ((gt d7 k5).Values) :: is)) (fun W hm => (hm.front (n := 1) rfl)) rfl rfl Try.type3 rfl (Nat.le_of_ble_eq_true rfl) rfl rfl rfl rfl (Wd_none rfl) ?_
    refine nt' ?_
    refine sr ?_
    refine wm ?_
    refine wv (fun W hm => rv_add rfl rfl) ?_
    refine wa ?_
    refine nt' ?_
    refine CM_region ?_
    refine wm ?_
    refine wm ?_
    refine wv (fun W hm => rv_index (sz := 2) (k := k5) Try.underlying39 Try.type29 rfl rfl rfl (by omega)) ?_
    refine wv (fun W hm => rv_field Try.underlying29 rfl Try.type27 (by decide) rfl rfl) ?_
    refine wv (fun W hm => rv_load Try.underlying27 rfl rfl (hm.focCells (i := 0) rfl rfl 1 _ rfl)) ?_
    refine wm ?_
    refine WM_callW (χ := Unit) (val := fun _ => .int .i64 (laws_markIntS_m ((gt d7 k5).Values) (IntKind.i64.wrap (s6 + 1))).1) (js := fun _ => (iOwn (tSl tInt 3) [.slice A16 ((gt d7 k5).Values).length c17] (laws_markIntS_m ((gt d7 k5).Values) (IntKind.i64.wrap (s6 + 1))).2 :: (iFoc tyRow 29 (some ⟨g13, 0, none⟩) x0.length c2 d7 k5 [.int .i64 s6, .slice A16 ((gt d7 k5).Values).length c17] :: is))) (cl_fn cb68 rfl) (fun W hm => (laws_markIntS_c B w0 (iFoc tyRow 29 (some ⟨g13, 0, none⟩) x0.length c2 d7 k5 [.int .i64 s6, .slice A16 ((gt d7 k5).Values).length c17] :: is) W (.slice A16 ((gt d7 k5).Values).length c17) ((gt d7 k5).Values) (IntKind.i64.wrap (s6 + 1)) (hm.front (n := 1) rfl)).mono (fun _ _ h => ⟨(), h.1, h.2⟩)) (Wd_none rfl) (by decide) (fun _ => ?_)
    refine wa ?_
    refine WM_nil ?_
    refine QM_block_normal ?_
    refine QM_then ?_
    refine CM_region ?_
    refine wm ?_
    refine wv (fun W hm => rv_addN (p := k5) (q := 1) rfl rfl (by omega)) ?_
    refine wa ?_
    refine WM_nil ?_
    refine QM_items (fun W hm => Mem.unfocus (Mem.join (is := [iOwn (tSl tInt 3) [.slice A16 ((gt d7 k5).Values).length c17] ((laws_markIntS_m ((gt d7 k5).Values) (IntKind.i64.wrap (s6 + 1))).2)]) (js := (iFoc tyRow 29 (some ⟨g13, 0, none⟩) x0.length c2 d7 k5 [.int .i64 s6, .slice A16 ((gt d7 k5).Values).length c17] :: (is))) (fun _ _ hs => tyRow_join (x := (⟨s6, (laws_markIntS_m ((gt d7 k5).Values) (IntKind.i64.wrap (s6 + 1))).2⟩ : DRow)) hs) ((hm.front (n := 1) rfl).front (n := 1) rfl))) ?_
    have hn20 := rng_next (R := (Int × (List DRow))) (body := (fun k (s : Int × (List DRow)) => laws_markRowS_b1 k s.1 s.2)) (k := k5) (s := (s6, d7)) (s' := ((laws_markIntS_m ((gt d7 k5).Values) (IntKind.i64.wrap (s6 + 1))).1, (d7.set k5 (⟨s6, (laws_markIntS_m ((gt d7 k5).Values) (IntKind.i64.wrap (s6 + 1))).2⟩ : DRow)))) (show k5 < x0.length from by omega) (show laws_markRowS_b1 k5 s6 d7 = Sum.inr ((laws_markIntS_m ((gt d7 k5).Values) (IntKind.i64.wrap (s6 + 1))).1, (d7.set k5 (⟨s6, (laws_markIntS_m ((gt d7 k5).Values) (IntKind.i64.wrap (s6 + 1))).2⟩ : DRow))) from by unfold laws_markRowS_b1; exact rfl) hF9
    exact QM_round (k5 + 1, ((laws_markIntS_m ((gt d7 k5).Values) (IntKind.i64.wrap (s6 + 1))).1, (d7.set k5 (⟨s6, (laws_markIntS_m ((gt d7 k5).Values) (IntKind.i64.wrap (s6 + 1))).2⟩ : DRow))), ()) (subL_cons rfl (subL_cons rfl (subL_cons rfl subL_nil))) (fun W hm => hm) ⟨(by omega), hn20⟩ (show x0.length - (k5 + 1) < x0.length - k5 from by omega)
  · have g12 : (decide (((k5 : Nat) : Int) < ((x0.length : Nat) : Int))) = false := decide_eq_false (by omega)
    refine CM_condF rfl g12 ?_
    refine CM_exit ?_
    refine QM_then_exit ?_
    refine QM_then_exit ?_
    have hE21 : rng (R := (Int × (List DRow))) (fun k (s : Int × (List DRow)) => laws_markRowS_b1 k s.1 s.2) (x0.length - 0) 0 (x1, x0) = Sum.inr (s6, d7) := rng_end hl11 hF9
    refine QM_block_hit ?_
    refine QM_then ?_
    refine sr ?_
    refine wm ?_
    refine wa ?_
    refine nt' ?_
    refine CM_ret ?_
    refine QM_rW rfl rfl (fun W hm => ⟨?_, ?_⟩)
    · rw [(show laws_markRowS_m x0 x1 = (s6, d7) from by unfold laws_markRowS_m; exact fin_inr hE21 (rfl))]
    · rw [(show laws_markRowS_m x0 x1 = (s6, d7) from by unfold laws_markRowS_m; exact fin_inr hE21 (rfl))]; exact hm

def laws_markActiveS_b1 (k5 : Nat) (s6 : Int) (d7 : (List DActive)) : (Int × (List DActive)) ⊕ (Int × (List DActive)) :=
  Sum.inr ((laws_markRowS_m ((gt d7 k5).Rows) (IntKind.i64.wrap ((IntKind.i64.wrap ((IntKind.i64.wrap (((laws_markIntS_m ((gt d7 k5).Todo) (IntKind.i64.wrap (((laws_markIntS_m ((gt d7 k5).Query.Out) ((laws_markCondS_m ((gt d7 k5).Query.Conds) (IntKind.i64.wrap ((IntKind.i64.wrap (s6 + 1)) + 1))).1)).1) + 1))).1) + 1)) + 1)) + 1))).1, (d7.set k5 (⟨(⟨s6, (IntKind.i64.wrap (s6 + 1)), (laws_markCondS_m ((gt d7 k5).Query.Conds) (IntKind.i64.wrap ((IntKind.i64.wrap (s6 + 1)) + 1))).2, (laws_markIntS_m ((gt d7 k5).Query.Out) ((laws_markCondS_m ((gt d7 k5).Query.Conds) (IntKind.i64.wrap ((IntKind.i64.wrap (s6 + 1)) + 1))).1)).2⟩ : DQuery), (laws_markIntS_m ((gt d7 k5).Query.Out) ((laws_markCondS_m ((gt d7 k5).Query.Conds) (IntKind.i64.wrap ((IntKind.i64.wrap (s6 + 1)) + 1))).1)).1, (laws_markIntS_m ((gt d7 k5).Todo) (IntKind.i64.wrap (((laws_markIntS_m ((gt d7 k5).Query.Out) ((laws_markCondS_m ((gt d7 k5).Query.Conds) (IntKind.i64.wrap ((IntKind.i64.wrap (s6 + 1)) + 1))).1)).1) + 1))).2, (laws_markIntS_m ((gt d7 k5).Todo) (IntKind.i64.wrap (((laws_markIntS_m ((gt d7 k5).Query.Out) ((laws_markCondS_m ((gt d7 k5).Query.Conds) (IntKind.i64.wrap ((IntKind.i64.wrap (s6 + 1)) + 1))).1)).1) + 1))).1, (IntKind.i64.wrap (((laws_markIntS_m ((gt d7 k5).Todo) (IntKind.i64.wrap (((laws_markIntS_m ((gt d7 k5).Query.Out) ((laws_markCondS_m ((gt d7 k5).Query.Conds) (IntKind.i64.wrap ((IntKind.i64.wrap (s6 + 1)) + 1))).1)).1) + 1))).1) + 1)), (IntKind.i64.wrap ((IntKind.i64.wrap (((laws_markIntS_m ((gt d7 k5).Todo) (IntKind.i64.wrap (((laws_markIntS_m ((gt d7 k5).Query.Out) ((laws_markCondS_m ((gt d7 k5).Query.Conds) (IntKind.i64.wrap ((IntKind.i64.wrap (s6 + 1)) + 1))).1)).1) + 1))).1) + 1)) + 1)), (laws_markRowS_m ((gt d7 k5).Rows) (IntKind.i64.wrap ((IntKind.i64.wrap ((IntKind.i64.wrap (((laws_markIntS_m ((gt d7 k5).Todo) (IntKind.i64.wrap (((laws_markIntS_m ((gt d7 k5).Query.Out) ((laws_markCondS_m ((gt d7 k5).Query.Conds) (IntKind.i64.wrap ((IntKind.i64.wrap (s6 + 1)) + 1))).1)).1) + 1))).1) + 1)) + 1)) + 1))).2⟩ : DActive)))
def laws_markActiveS_m (x0 : (List DActive)) (x1 : Int) : (Int × (List DActive)) :=
  Sum.elim id (fun (s : Int × (List DActive)) => (s.1, s.2)) (rng (R := (Int × (List DActive))) (fun k (s : Int × (List DActive)) => laws_markActiveS_b1 k s.1 s.2) (x0.length - 0) 0 (x1, x0))
theorem cb130 : Cb Try.prog 130 := ⟨Try.f130, _, Try.func130, rfl, by decide⟩
set_option maxRecDepth 10000 in
set_option maxHeartbeats 4000000 in
theorem laws_markActiveS_c (B : Nat) (w0 : World) (is : List It) (w : World) (z0 : Value) (x0 : (List DActive)) (x1 : Int) (hm : Mem B w0 (iOwn (tSl tyActive 127) [z0] x0 :: is) w) :
    Calls Try.prog 130 #[z0, .int .i64 x1] w fun e w' => e = .returned (.int .i64 (laws_markActiveS_m x0 x1).1) ∧ Mem B w0 (iOwn (tSl tyActive 127) [z0] (laws_markActiveS_m x0 x1).2 :: is) w' := by
  refine call_enterW (L := [(0, z0), (1, .int .i64 x1)]) (N := 87) Try.func130 rfl rfl (Nat.le_of_ble_eq_true rfl) (argsL_cons rfl (argsL_cons rfl argsL_nil)) hm ?_
  refine CM_form (n := 0) rfl ?_
  rintro A1 c2 rfl m3
  refine sr ?_
  refine wa ?_
  refine nt' ?_
  refine CM_seq ?_
  refine sr ?_
  refine wa ?_
  refine nt' ?_
  refine CM_block ?_
  refine CM_loop (σ := Nat × (Int × (List DActive)) × (Unit)) (fun s => [(0, .slice A1 x0.length c2), (1, .int .i64 s.2.1.1), (5, .int .i64 ((s.1 : Nat) : Int))]) (fun s => (iOwn (tSl tyActive 127) [.slice A1 x0.length c2] s.2.1.2 :: is)) (fun s => s.1 ≤ x0.length ∧ rng (R := (Int × (List DActive))) (fun k (s : Int × (List DActive)) => laws_markActiveS_b1 k s.1 s.2) (x0.length - s.1) s.1 s.2.1 = rng (R := (Int × (List DActive))) (fun k (s : Int × (List DActive)) => laws_markActiveS_b1 k s.1 s.2) (x0.length - 0) 0 (x1, x0)) (fun s => x0.length - s.1) (0, (x1, x0), ()) (subL_cons rfl (subL_cons rfl (subL_cons rfl subL_nil))) (fun W hm => hm) ⟨(by omega), rfl⟩ ?_
  rintro ⟨k5, ⟨s6, d7⟩, ⟨⟩⟩ H10
  obtain ⟨hk8, hF9⟩ : k5 ≤ x0.length ∧ rng (R := (Int × (List DActive))) (fun k (s : Int × (List DActive)) => laws_markActiveS_b1 k s.1 s.2) (x0.length - k5) k5 (s6, d7) = rng (R := (Int × (List DActive))) (fun k (s : Int × (List DActive)) => laws_markActiveS_b1 k s.1 s.2) (x0.length - 0) 0 (x1, x0) := H10
  show CM Try.prog 87 _ _ _ _ [(0, .slice A1 x0.length c2), (1, .int .i64 s6), (5, .int .i64 ((k5 : Nat) : Int))] (iOwn (tSl tyActive 127) [.slice A1 x0.length c2] d7 :: is)
  refine CM_seq ?_
  refine sr ?_
  refine wm ?_
  refine wm ?_
  refine wv (fun W hm => rv_len Try.underlying73 rfl) ?_
  refine wv (fun W hm => rv_lss rfl rfl) ?_
  refine nt' ?_
  by_cases hl11 : k5 < x0.length
  · have g12 : (decide (((k5 : Nat) : Int) < ((x0.length : Nat) : Int))) = true := decide_eq_true (by omega)
    refine CM_condT rfl g12 ?_
    refine CM_skip ?_
    refine QM_then ?_
    refine CM_seq ?_
    refine CM_block ?_
    refine sr ?_
    refine wm ?_
    refine wm ?_
    refine wm ?_
    refine WM_formO (n := 0) rfl (by omega) ?_
    rintro g13 rfl
    refine wv (fun W hm => rv_index (sz := 10) (k := k5) Try.underlying73 Try.type127 rfl rfl rfl (by omega)) ?_
    refine wv (fun W hm => rv_field Try.underlying127 rfl Try.type125 (by decide) rfl rfl) ?_
    refine wv (fun W hm => rv_fieldA (o := 0) Try.underlying125 rfl Try.type3 (by decide) rfl rfl) ?_
    refine WM_focus (E := tyActive) (e := 127) (A := (some ⟨g13, 0, none⟩)) (n := x0.length) (c := c2) (xs := d7) (k := k5) (js := (is)) (by omega) (fun W hm => (hm.front (n := 0) rfl)) (fun ck14 => ?_)
    refine WM_split (γ := Value × Value × Value × Value) (js := fun g => [iOwn (tSl tyCond 183) [g.1] ((gt d7 k5).Query.Conds), iOwn (tSl tInt 3) [g.2.1] ((gt d7 k5).Query.Out), iOwn (tSl tInt 3) [g.2.2.1] ((gt d7 k5).Todo), iOwn (tSl tyRow 29) [g.2.2.2] ((gt d7 k5).Rows)]) (C := fun g => ck14 = [.int .i64 ((gt d7 k5).Query.Id), .int .i64 ((gt d7 k5).Query.Tenant), g.1, g.2.1, .int .i64 ((gt d7 k5).Time), g.2.2.1, .int .i64 ((gt d7 k5).Age), .int .i64 ((gt d7 k5).Sent), .int .i64 ((gt d7 k5).Cap), g.2.2.2]) (fun _ _ h => tyActive_split h) ?_
    rintro ⟨v15, v16, v17, v18⟩ rfl
    refine WM_form (n := 0) rfl ?_
    rintro A19 c20 rfl m21
    refine WM_form (n := 1) rfl ?_
    rintro A23 c24 rfl m25
    refine WM_form (n := 2) rfl ?_
    rintro A27 c28 rfl m29
    refine WM_form (n := 3) rfl ?_
    rintro A31 c32 rfl m33
    refine WM_storeFoc (E := tyActive) (e := 127) (g := g13) (n := x0.length) (c := c2) (k := k5) (s := 10) (o := 0) (xs := d7) (ck := [.int .i64 ((gt d7 k5).Query.Id), .int .i64 ((gt d7 k5).Query.Tenant), .slice A19 ((gt d7 k5).Query.Conds).length c20, .slice A23 ((gt d7 k5).Query.Out).length c24, .int .i64 ((gt d7 k5).Time), .slice A27 ((gt d7 k5).Todo).length c28, .int .i64 ((gt d7 k5).Age), .int .i64 ((gt d7 k5).Sent), .int .i64 ((gt d7 k5).Cap), .slice A31 ((gt d7 k5).Rows).length c32]) (ck' := [.int .i64 s6, .int .i64 ((gt d7 k5).Query.Tenant), .slice A19 ((gt d7 k5).Query.Conds).length c20, .slice A23 ((gt d7 k5).Query.Out).length c24, .int .i64 ((gt d7 k5).Time), .slice A27 ((gt d7 k5).Todo).length c28, .int .i64 ((gt d7 k5).Age), .int .i64 ((gt d7 k5).Sent), .int .i64 ((gt d7 k5).Cap), .slice A31 ((gt d7 k5).Rows).length c32]) (js := (iOwn (tSl tyCond 183) [.slice A19 ((gt d7 k5).Query.Conds).length c20] ((gt d7 k5).Query.Conds) :: iOwn (tSl tInt 3) [.slice A23 ((gt d7 k5).Query.Out).length c24] ((gt d7 k5).Query.Out) :: iOwn (tSl tInt 3) [.slice A27 ((gt d7 k5).Todo).length c28] ((gt d7 k5).Todo) :: iOwn (tSl tyRow 29) [.slice A31 ((gt d7 k5).Rows).length c32] ((gt d7 k5).Rows) :: is)) (fun W hm => (hm.front (n := 4) rfl)) rfl rfl Try.type3 rfl (Nat.le_of_ble_eq_true rfl) rfl rfl rfl rfl (Wd_none rfl) ?_
    refine nt' ?_
    refine sr ?_
    refine wm ?_
    refine wv (fun W hm => rv_add rfl rfl) ?_
    refine wa ?_
    refine nt' ?_
    refine sr ?_
    refine wm ?_
    refine wm ?_
    refine wm ?_
    refine wv (fun W hm => rv_index (sz := 10) (k := k5) Try.underlying73 Try.type127 rfl rfl rfl (by omega)) ?_
    refine wv (fun W hm => rv_field Try.underlying127 rfl Try.type125 (by decide) rfl rfl) ?_
    refine wv (fun W hm => rv_fieldA (o := 1) Try.underlying125 rfl Try.type3 (by decide) rfl rfl) ?_
    refine WM_storeFoc (E := tyActive) (e := 127) (g := g13) (n := x0.length) (c := c2) (k := k5) (s := 10) (o := 1) (xs := d7) (ck := [.int .i64 s6, .int .i64 ((gt d7 k5).Query.Tenant), .slice A19 ((gt d7 k5).Query.Conds).length c20, .slice A23 ((gt d7 k5).Query.Out).length c24, .int .i64 ((gt d7 k5).Time), .slice A27 ((gt d7 k5).Todo).length c28, .int .i64 ((gt d7 k5).Age), .int .i64 ((gt d7 k5).Sent), .int .i64 ((gt d7 k5).Cap), .slice A31 ((gt d7 k5).Rows).length c32]) (ck' := [.int .i64 s6, .int .i64 (IntKind.i64.wrap (s6 + 1)), .slice A19 ((gt d7 k5).Query.Conds).length c20, .slice A23 ((gt d7 k5).Query.Out).length c24, .int .i64 ((gt d7 k5).Time), .slice A27 ((gt d7 k5).Todo).length c28, .int .i64 ((gt d7 k5).Age), .int .i64 ((gt d7 k5).Sent), .int .i64 ((gt d7 k5).Cap), .slice A31 ((gt d7 k5).Rows).length c32]) (js := (iOwn (tSl tyCond 183) [.slice A19 ((gt d7 k5).Query.Conds).length c20] ((gt d7 k5).Query.Conds) :: iOwn (tSl tInt 3) [.slice A23 ((gt d7 k5).Query.Out).length c24] ((gt d7 k5).Query.Out) :: iOwn (tSl tInt 3) [.slice A27 ((gt d7 k5).Todo).length c28] ((gt d7 k5).Todo) :: iOwn (tSl tyRow 29) [.slice A31 ((gt d7 k5).Rows).length c32] ((gt d7 k5).Rows) :: is)) (fun W hm => (hm.front (n := 0) rfl)) rfl rfl Try.type3 rfl (Nat.le_of_ble_eq_true rfl) rfl rfl rfl rfl (Wd_none rfl) ?_
    refine nt' ?_
    refine sr ?_
    refine wm ?_
    refine wv (fun W hm => rv_add rfl rfl) ?_
    refine wa ?_
    refine nt' ?_
    refine sr ?_
    refine wm ?_
    refine wm ?_
    refine wv (fun W hm => rv_index (sz := 10) (k := k5) Try.underlying73 Try.type127 rfl rfl rfl (by omega)) ?_
    refine wv (fun W hm => rv_field Try.underlying127 rfl Try.type125 (by decide) rfl rfl) ?_
    refine wv (fun W hm => rv_fieldA (o := 2) Try.underlying125 rfl Try.type123 (by decide) rfl rfl) ?_
    refine wv (fun W hm => rv_load Try.underlying123 rfl rfl (hm.focCells (i := 0) rfl rfl 2 _ rfl)) ?_
    refine wm ?_
    refine WM_callW (χ := Unit) (val := fun _ => .int .i64 (laws_markCondS_m ((gt d7 k5).Query.Conds) (IntKind.i64.wrap ((IntKind.i64.wrap (s6 + 1)) + 1))).1) (js := fun _ => (iOwn (tSl tyCond 183) [.slice A19 ((gt d7 k5).Query.Conds).length c20] (laws_markCondS_m ((gt d7 k5).Query.Conds) (IntKind.i64.wrap ((IntKind.i64.wrap (s6 + 1)) + 1))).2 :: (iFoc tyActive 127 (some ⟨g13, 0, none⟩) x0.length c2 d7 k5 [.int .i64 s6, .int .i64 (IntKind.i64.wrap (s6 + 1)), .slice A19 ((gt d7 k5).Query.Conds).length c20, .slice A23 ((gt d7 k5).Query.Out).length c24, .int .i64 ((gt d7 k5).Time), .slice A27 ((gt d7 k5).Todo).length c28, .int .i64 ((gt d7 k5).Age), .int .i64 ((gt d7 k5).Sent), .int .i64 ((gt d7 k5).Cap), .slice A31 ((gt d7 k5).Rows).length c32] :: iOwn (tSl tInt 3) [.slice A23 ((gt d7 k5).Query.Out).length c24] ((gt d7 k5).Query.Out) :: iOwn (tSl tInt 3) [.slice A27 ((gt d7 k5).Todo).length c28] ((gt d7 k5).Todo) :: iOwn (tSl tyRow 29) [.slice A31 ((gt d7 k5).Rows).length c32] ((gt d7 k5).Rows) :: is))) (cl_fn cb182 rfl) (fun W hm => (laws_markCondS_c B w0 (iFoc tyActive 127 (some ⟨g13, 0, none⟩) x0.length c2 d7 k5 [.int .i64 s6, .int .i64 (IntKind.i64.wrap (s6 + 1)), .slice A19 ((gt d7 k5).Query.Conds).length c20, .slice A23 ((gt d7 k5).Query.Out).length c24, .int .i64 ((gt d7 k5).Time), .slice A27 ((gt d7 k5).Todo).length c28, .int .i64 ((gt d7 k5).Age), .int .i64 ((gt d7 k5).Sent), .int .i64 ((gt d7 k5).Cap), .slice A31 ((gt d7 k5).Rows).length c32] :: iOwn (tSl tInt 3) [.slice A23 ((gt d7 k5).Query.Out).length c24] ((gt d7 k5).Query.Out) :: iOwn (tSl tInt 3) [.slice A27 ((gt d7 k5).Todo).length c28] ((gt d7 k5).Todo) :: iOwn (tSl tyRow 29) [.slice A31 ((gt d7 k5).Rows).length c32] ((gt d7 k5).Rows) :: is) W (.slice A19 ((gt d7 k5).Query.Conds).length c20) ((gt d7 k5).Query.Conds) (IntKind.i64.wrap ((IntKind.i64.wrap (s6 + 1)) + 1)) (hm.front (n := 1) rfl)).mono (fun _ _ h => ⟨(), h.1, h.2⟩)) (Wd_none rfl) (by decide) (fun _ => ?_)
    refine wa ?_
    refine nt' ?_
    refine sr ?_
    refine wm ?_
    refine wm ?_
    refine wv (fun W hm => rv_index (sz := 10) (k := k5) Try.underlying73 Try.type127 rfl rfl rfl (by omega)) ?_
    refine wv (fun W hm => rv_field Try.underlying127 rfl Try.type125 (by decide) rfl rfl) ?_
    refine wv (fun W hm => rv_fieldA (o := 3) Try.underlying125 rfl Try.type27 (by decide) rfl rfl) ?_
    refine wv (fun W hm => rv_load Try.underlying27 rfl rfl (hm.focCells (i := 1) rfl rfl 3 _ rfl)) ?_
    refine wm ?_
    refine WM_callW (χ := Unit) (val := fun _ => .int .i64 (laws_markIntS_m ((gt d7 k5).Query.Out) ((laws_markCondS_m ((gt d7 k5).Query.Conds) (IntKind.i64.wrap ((IntKind.i64.wrap (s6 + 1)) + 1))).1)).1) (js := fun _ => (iOwn (tSl tInt 3) [.slice A23 ((gt d7 k5).Query.Out).length c24] (laws_markIntS_m ((gt d7 k5).Query.Out) ((laws_markCondS_m ((gt d7 k5).Query.Conds) (IntKind.i64.wrap ((IntKind.i64.wrap (s6 + 1)) + 1))).1)).2 :: (iOwn (tSl tyCond 183) [.slice A19 ((gt d7 k5).Query.Conds).length c20] ((laws_markCondS_m ((gt d7 k5).Query.Conds) (IntKind.i64.wrap ((IntKind.i64.wrap (s6 + 1)) + 1))).2) :: iFoc tyActive 127 (some ⟨g13, 0, none⟩) x0.length c2 d7 k5 [.int .i64 s6, .int .i64 (IntKind.i64.wrap (s6 + 1)), .slice A19 ((gt d7 k5).Query.Conds).length c20, .slice A23 ((gt d7 k5).Query.Out).length c24, .int .i64 ((gt d7 k5).Time), .slice A27 ((gt d7 k5).Todo).length c28, .int .i64 ((gt d7 k5).Age), .int .i64 ((gt d7 k5).Sent), .int .i64 ((gt d7 k5).Cap), .slice A31 ((gt d7 k5).Rows).length c32] :: iOwn (tSl tInt 3) [.slice A27 ((gt d7 k5).Todo).length c28] ((gt d7 k5).Todo) :: iOwn (tSl tyRow 29) [.slice A31 ((gt d7 k5).Rows).length c32] ((gt d7 k5).Rows) :: is))) (cl_fn cb68 rfl) (fun W hm => (laws_markIntS_c B w0 (iOwn (tSl tyCond 183) [.slice A19 ((gt d7 k5).Query.Conds).length c20] ((laws_markCondS_m ((gt d7 k5).Query.Conds) (IntKind.i64.wrap ((IntKind.i64.wrap (s6 + 1)) + 1))).2) :: iFoc tyActive 127 (some ⟨g13, 0, none⟩) x0.length c2 d7 k5 [.int .i64 s6, .int .i64 (IntKind.i64.wrap (s6 + 1)), .slice A19 ((gt d7 k5).Query.Conds).length c20, .slice A23 ((gt d7 k5).Query.Out).length c24, .int .i64 ((gt d7 k5).Time), .slice A27 ((gt d7 k5).Todo).length c28, .int .i64 ((gt d7 k5).Age), .int .i64 ((gt d7 k5).Sent), .int .i64 ((gt d7 k5).Cap), .slice A31 ((gt d7 k5).Rows).length c32] :: iOwn (tSl tInt 3) [.slice A27 ((gt d7 k5).Todo).length c28] ((gt d7 k5).Todo) :: iOwn (tSl tyRow 29) [.slice A31 ((gt d7 k5).Rows).length c32] ((gt d7 k5).Rows) :: is) W (.slice A23 ((gt d7 k5).Query.Out).length c24) ((gt d7 k5).Query.Out) ((laws_markCondS_m ((gt d7 k5).Query.Conds) (IntKind.i64.wrap ((IntKind.i64.wrap (s6 + 1)) + 1))).1) (hm.front (n := 2) rfl)).mono (fun _ _ h => ⟨(), h.1, h.2⟩)) (Wd_none rfl) (by decide) (fun _ => ?_)
    refine wa ?_
    refine nt' ?_
    refine sr ?_
    refine wm ?_
    refine wm ?_
    refine wm ?_
    refine wv (fun W hm => rv_index (sz := 10) (k := k5) Try.underlying73 Try.type127 rfl rfl rfl (by omega)) ?_
    refine wv (fun W hm => rv_field Try.underlying127 rfl Try.type3 (by decide) rfl rfl) ?_
    refine WM_storeFoc (E := tyActive) (e := 127) (g := g13) (n := x0.length) (c := c2) (k := k5) (s := 10) (o := 4) (xs := d7) (ck := [.int .i64 s6, .int .i64 (IntKind.i64.wrap (s6 + 1)), .slice A19 ((gt d7 k5).Query.Conds).length c20, .slice A23 ((gt d7 k5).Query.Out).length c24, .int .i64 ((gt d7 k5).Time), .slice A27 ((gt d7 k5).Todo).length c28, .int .i64 ((gt d7 k5).Age), .int .i64 ((gt d7 k5).Sent), .int .i64 ((gt d7 k5).Cap), .slice A31 ((gt d7 k5).Rows).length c32]) (ck' := [.int .i64 s6, .int .i64 (IntKind.i64.wrap (s6 + 1)), .slice A19 ((gt d7 k5).Query.Conds).length c20, .slice A23 ((gt d7 k5).Query.Out).length c24, .int .i64 ((laws_markIntS_m ((gt d7 k5).Query.Out) ((laws_markCondS_m ((gt d7 k5).Query.Conds) (IntKind.i64.wrap ((IntKind.i64.wrap (s6 + 1)) + 1))).1)).1), .slice A27 ((gt d7 k5).Todo).length c28, .int .i64 ((gt d7 k5).Age), .int .i64 ((gt d7 k5).Sent), .int .i64 ((gt d7 k5).Cap), .slice A31 ((gt d7 k5).Rows).length c32]) (js := (iOwn (tSl tInt 3) [.slice A23 ((gt d7 k5).Query.Out).length c24] ((laws_markIntS_m ((gt d7 k5).Query.Out) ((laws_markCondS_m ((gt d7 k5).Query.Conds) (IntKind.i64.wrap ((IntKind.i64.wrap (s6 + 1)) + 1))).1)).2) :: iOwn (tSl tyCond 183) [.slice A19 ((gt d7 k5).Query.Conds).length c20] ((laws_markCondS_m ((gt d7 k5).Query.Conds) (IntKind.i64.wrap ((IntKind.i64.wrap (s6 + 1)) + 1))).2) :: iOwn (tSl tInt 3) [.slice A27 ((gt d7 k5).Todo).length c28] ((gt d7 k5).Todo) :: iOwn (tSl tyRow 29) [.slice A31 ((gt d7 k5).Rows).length c32] ((gt d7 k5).Rows) :: is)) (fun W hm => (hm.front (n := 2) rfl)) rfl rfl Try.type3 rfl (Nat.le_of_ble_eq_true rfl) rfl rfl rfl rfl (Wd_none rfl) ?_
    refine nt' ?_
    refine sr ?_
    refine wm ?_
    refine wv (fun W hm => rv_add rfl rfl) ?_
    refine wa ?_
    refine nt' ?_
    refine sr ?_
    refine wm ?_
    refine wm ?_
    refine wv (fun W hm => rv_index (sz := 10) (k := k5) Try.underlying73 Try.type127 rfl rfl rfl (by omega)) ?_
    refine wv (fun W hm => rv_field Try.underlying127 rfl Try.type27 (by decide) rfl rfl) ?_
    refine wv (fun W hm => rv_load Try.underlying27 rfl rfl (hm.focCells (i := 0) rfl rfl 5 _ rfl)) ?_
    refine wm ?_
    refine WM_callW (χ := Unit) (val := fun _ => .int .i64 (laws_markIntS_m ((gt d7 k5).Todo) (IntKind.i64.wrap (((laws_markIntS_m ((gt d7 k5).Query.Out) ((laws_markCondS_m ((gt d7 k5).Query.Conds) (IntKind.i64.wrap ((IntKind.i64.wrap (s6 + 1)) + 1))).1)).1) + 1))).1) (js := fun _ => (iOwn (tSl tInt 3) [.slice A27 ((gt d7 k5).Todo).length c28] (laws_markIntS_m ((gt d7 k5).Todo) (IntKind.i64.wrap (((laws_markIntS_m ((gt d7 k5).Query.Out) ((laws_markCondS_m ((gt d7 k5).Query.Conds) (IntKind.i64.wrap ((IntKind.i64.wrap (s6 + 1)) + 1))).1)).1) + 1))).2 :: (iFoc tyActive 127 (some ⟨g13, 0, none⟩) x0.length c2 d7 k5 [.int .i64 s6, .int .i64 (IntKind.i64.wrap (s6 + 1)), .slice A19 ((gt d7 k5).Query.Conds).length c20, .slice A23 ((gt d7 k5).Query.Out).length c24, .int .i64 ((laws_markIntS_m ((gt d7 k5).Query.Out) ((laws_markCondS_m ((gt d7 k5).Query.Conds) (IntKind.i64.wrap ((IntKind.i64.wrap (s6 + 1)) + 1))).1)).1), .slice A27 ((gt d7 k5).Todo).length c28, .int .i64 ((gt d7 k5).Age), .int .i64 ((gt d7 k5).Sent), .int .i64 ((gt d7 k5).Cap), .slice A31 ((gt d7 k5).Rows).length c32] :: iOwn (tSl tInt 3) [.slice A23 ((gt d7 k5).Query.Out).length c24] ((laws_markIntS_m ((gt d7 k5).Query.Out) ((laws_markCondS_m ((gt d7 k5).Query.Conds) (IntKind.i64.wrap ((IntKind.i64.wrap (s6 + 1)) + 1))).1)).2) :: iOwn (tSl tyCond 183) [.slice A19 ((gt d7 k5).Query.Conds).length c20] ((laws_markCondS_m ((gt d7 k5).Query.Conds) (IntKind.i64.wrap ((IntKind.i64.wrap (s6 + 1)) + 1))).2) :: iOwn (tSl tyRow 29) [.slice A31 ((gt d7 k5).Rows).length c32] ((gt d7 k5).Rows) :: is))) (cl_fn cb68 rfl) (fun W hm => (laws_markIntS_c B w0 (iFoc tyActive 127 (some ⟨g13, 0, none⟩) x0.length c2 d7 k5 [.int .i64 s6, .int .i64 (IntKind.i64.wrap (s6 + 1)), .slice A19 ((gt d7 k5).Query.Conds).length c20, .slice A23 ((gt d7 k5).Query.Out).length c24, .int .i64 ((laws_markIntS_m ((gt d7 k5).Query.Out) ((laws_markCondS_m ((gt d7 k5).Query.Conds) (IntKind.i64.wrap ((IntKind.i64.wrap (s6 + 1)) + 1))).1)).1), .slice A27 ((gt d7 k5).Todo).length c28, .int .i64 ((gt d7 k5).Age), .int .i64 ((gt d7 k5).Sent), .int .i64 ((gt d7 k5).Cap), .slice A31 ((gt d7 k5).Rows).length c32] :: iOwn (tSl tInt 3) [.slice A23 ((gt d7 k5).Query.Out).length c24] ((laws_markIntS_m ((gt d7 k5).Query.Out) ((laws_markCondS_m ((gt d7 k5).Query.Conds) (IntKind.i64.wrap ((IntKind.i64.wrap (s6 + 1)) + 1))).1)).2) :: iOwn (tSl tyCond 183) [.slice A19 ((gt d7 k5).Query.Conds).length c20] ((laws_markCondS_m ((gt d7 k5).Query.Conds) (IntKind.i64.wrap ((IntKind.i64.wrap (s6 + 1)) + 1))).2) :: iOwn (tSl tyRow 29) [.slice A31 ((gt d7 k5).Rows).length c32] ((gt d7 k5).Rows) :: is) W (.slice A27 ((gt d7 k5).Todo).length c28) ((gt d7 k5).Todo) (IntKind.i64.wrap (((laws_markIntS_m ((gt d7 k5).Query.Out) ((laws_markCondS_m ((gt d7 k5).Query.Conds) (IntKind.i64.wrap ((IntKind.i64.wrap (s6 + 1)) + 1))).1)).1) + 1)) (hm.front (n := 3) rfl)).mono (fun _ _ h => ⟨(), h.1, h.2⟩)) (Wd_none rfl) (by decide) (fun _ => ?_)
    refine wa ?_
    refine nt' ?_
    refine sr ?_
    refine wm ?_
    refine wm ?_
    refine wm ?_
    refine wv (fun W hm => rv_index (sz := 10) (k := k5) Try.underlying73 Try.type127 rfl rfl rfl (by omega)) ?_
    refine wv (fun W hm => rv_field Try.underlying127 rfl Try.type3 (by decide) rfl rfl) ?_
    refine WM_storeFoc (E := tyActive) (e := 127) (g := g13) (n := x0.length) (c := c2) (k := k5) (s := 10) (o := 6) (xs := d7) (ck := [.int .i64 s6, .int .i64 (IntKind.i64.wrap (s6 + 1)), .slice A19 ((gt d7 k5).Query.Conds).length c20, .slice A23 ((gt d7 k5).Query.Out).length c24, .int .i64 ((laws_markIntS_m ((gt d7 k5).Query.Out) ((laws_markCondS_m ((gt d7 k5).Query.Conds) (IntKind.i64.wrap ((IntKind.i64.wrap (s6 + 1)) + 1))).1)).1), .slice A27 ((gt d7 k5).Todo).length c28, .int .i64 ((gt d7 k5).Age), .int .i64 ((gt d7 k5).Sent), .int .i64 ((gt d7 k5).Cap), .slice A31 ((gt d7 k5).Rows).length c32]) (ck' := [.int .i64 s6, .int .i64 (IntKind.i64.wrap (s6 + 1)), .slice A19 ((gt d7 k5).Query.Conds).length c20, .slice A23 ((gt d7 k5).Query.Out).length c24, .int .i64 ((laws_markIntS_m ((gt d7 k5).Query.Out) ((laws_markCondS_m ((gt d7 k5).Query.Conds) (IntKind.i64.wrap ((IntKind.i64.wrap (s6 + 1)) + 1))).1)).1), .slice A27 ((gt d7 k5).Todo).length c28, .int .i64 ((laws_markIntS_m ((gt d7 k5).Todo) (IntKind.i64.wrap (((laws_markIntS_m ((gt d7 k5).Query.Out) ((laws_markCondS_m ((gt d7 k5).Query.Conds) (IntKind.i64.wrap ((IntKind.i64.wrap (s6 + 1)) + 1))).1)).1) + 1))).1), .int .i64 ((gt d7 k5).Sent), .int .i64 ((gt d7 k5).Cap), .slice A31 ((gt d7 k5).Rows).length c32]) (js := (iOwn (tSl tInt 3) [.slice A27 ((gt d7 k5).Todo).length c28] ((laws_markIntS_m ((gt d7 k5).Todo) (IntKind.i64.wrap (((laws_markIntS_m ((gt d7 k5).Query.Out) ((laws_markCondS_m ((gt d7 k5).Query.Conds) (IntKind.i64.wrap ((IntKind.i64.wrap (s6 + 1)) + 1))).1)).1) + 1))).2) :: iOwn (tSl tInt 3) [.slice A23 ((gt d7 k5).Query.Out).length c24] ((laws_markIntS_m ((gt d7 k5).Query.Out) ((laws_markCondS_m ((gt d7 k5).Query.Conds) (IntKind.i64.wrap ((IntKind.i64.wrap (s6 + 1)) + 1))).1)).2) :: iOwn (tSl tyCond 183) [.slice A19 ((gt d7 k5).Query.Conds).length c20] ((laws_markCondS_m ((gt d7 k5).Query.Conds) (IntKind.i64.wrap ((IntKind.i64.wrap (s6 + 1)) + 1))).2) :: iOwn (tSl tyRow 29) [.slice A31 ((gt d7 k5).Rows).length c32] ((gt d7 k5).Rows) :: is)) (fun W hm => (hm.front (n := 1) rfl)) rfl rfl Try.type3 rfl (Nat.le_of_ble_eq_true rfl) rfl rfl rfl rfl (Wd_none rfl) ?_
    refine nt' ?_
    refine sr ?_
    refine wm ?_
    refine wv (fun W hm => rv_add rfl rfl) ?_
    refine wa ?_
    refine nt' ?_
    refine sr ?_
    refine wm ?_
    refine wm ?_
    refine wm ?_
    refine wv (fun W hm => rv_index (sz := 10) (k := k5) Try.underlying73 Try.type127 rfl rfl rfl (by omega)) ?_
    refine wv (fun W hm => rv_field Try.underlying127 rfl Try.type3 (by decide) rfl rfl) ?_
    refine WM_storeFoc (E := tyActive) (e := 127) (g := g13) (n := x0.length) (c := c2) (k := k5) (s := 10) (o := 7) (xs := d7) (ck := [.int .i64 s6, .int .i64 (IntKind.i64.wrap (s6 + 1)), .slice A19 ((gt d7 k5).Query.Conds).length c20, .slice A23 ((gt d7 k5).Query.Out).length c24, .int .i64 ((laws_markIntS_m ((gt d7 k5).Query.Out) ((laws_markCondS_m ((gt d7 k5).Query.Conds) (IntKind.i64.wrap ((IntKind.i64.wrap (s6 + 1)) + 1))).1)).1), .slice A27 ((gt d7 k5).Todo).length c28, .int .i64 ((laws_markIntS_m ((gt d7 k5).Todo) (IntKind.i64.wrap (((laws_markIntS_m ((gt d7 k5).Query.Out) ((laws_markCondS_m ((gt d7 k5).Query.Conds) (IntKind.i64.wrap ((IntKind.i64.wrap (s6 + 1)) + 1))).1)).1) + 1))).1), .int .i64 ((gt d7 k5).Sent), .int .i64 ((gt d7 k5).Cap), .slice A31 ((gt d7 k5).Rows).length c32]) (ck' := [.int .i64 s6, .int .i64 (IntKind.i64.wrap (s6 + 1)), .slice A19 ((gt d7 k5).Query.Conds).length c20, .slice A23 ((gt d7 k5).Query.Out).length c24, .int .i64 ((laws_markIntS_m ((gt d7 k5).Query.Out) ((laws_markCondS_m ((gt d7 k5).Query.Conds) (IntKind.i64.wrap ((IntKind.i64.wrap (s6 + 1)) + 1))).1)).1), .slice A27 ((gt d7 k5).Todo).length c28, .int .i64 ((laws_markIntS_m ((gt d7 k5).Todo) (IntKind.i64.wrap (((laws_markIntS_m ((gt d7 k5).Query.Out) ((laws_markCondS_m ((gt d7 k5).Query.Conds) (IntKind.i64.wrap ((IntKind.i64.wrap (s6 + 1)) + 1))).1)).1) + 1))).1), .int .i64 (IntKind.i64.wrap (((laws_markIntS_m ((gt d7 k5).Todo) (IntKind.i64.wrap (((laws_markIntS_m ((gt d7 k5).Query.Out) ((laws_markCondS_m ((gt d7 k5).Query.Conds) (IntKind.i64.wrap ((IntKind.i64.wrap (s6 + 1)) + 1))).1)).1) + 1))).1) + 1)), .int .i64 ((gt d7 k5).Cap), .slice A31 ((gt d7 k5).Rows).length c32]) (js := (iOwn (tSl tInt 3) [.slice A27 ((gt d7 k5).Todo).length c28] ((laws_markIntS_m ((gt d7 k5).Todo) (IntKind.i64.wrap (((laws_markIntS_m ((gt d7 k5).Query.Out) ((laws_markCondS_m ((gt d7 k5).Query.Conds) (IntKind.i64.wrap ((IntKind.i64.wrap (s6 + 1)) + 1))).1)).1) + 1))).2) :: iOwn (tSl tInt 3) [.slice A23 ((gt d7 k5).Query.Out).length c24] ((laws_markIntS_m ((gt d7 k5).Query.Out) ((laws_markCondS_m ((gt d7 k5).Query.Conds) (IntKind.i64.wrap ((IntKind.i64.wrap (s6 + 1)) + 1))).1)).2) :: iOwn (tSl tyCond 183) [.slice A19 ((gt d7 k5).Query.Conds).length c20] ((laws_markCondS_m ((gt d7 k5).Query.Conds) (IntKind.i64.wrap ((IntKind.i64.wrap (s6 + 1)) + 1))).2) :: iOwn (tSl tyRow 29) [.slice A31 ((gt d7 k5).Rows).length c32] ((gt d7 k5).Rows) :: is)) (fun W hm => (hm.front (n := 0) rfl)) rfl rfl Try.type3 rfl (Nat.le_of_ble_eq_true rfl) rfl rfl rfl rfl (Wd_none rfl) ?_
    refine nt' ?_
    refine sr ?_
    refine wm ?_
    refine wv (fun W hm => rv_add rfl rfl) ?_
    refine wa ?_
    refine nt' ?_
    refine sr ?_
    refine wm ?_
    refine wm ?_
    refine wm ?_
    refine wv (fun W hm => rv_index (sz := 10) (k := k5) Try.underlying73 Try.type127 rfl rfl rfl (by omega)) ?_
    refine wv (fun W hm => rv_field Try.underlying127 rfl Try.type3 (by decide) rfl rfl) ?_
    refine WM_storeFoc (E := tyActive) (e := 127) (g := g13) (n := x0.length) (c := c2) (k := k5) (s := 10) (o := 8) (xs := d7) (ck := [.int .i64 s6, .int .i64 (IntKind.i64.wrap (s6 + 1)), .slice A19 ((gt d7 k5).Query.Conds).length c20, .slice A23 ((gt d7 k5).Query.Out).length c24, .int .i64 ((laws_markIntS_m ((gt d7 k5).Query.Out) ((laws_markCondS_m ((gt d7 k5).Query.Conds) (IntKind.i64.wrap ((IntKind.i64.wrap (s6 + 1)) + 1))).1)).1), .slice A27 ((gt d7 k5).Todo).length c28, .int .i64 ((laws_markIntS_m ((gt d7 k5).Todo) (IntKind.i64.wrap (((laws_markIntS_m ((gt d7 k5).Query.Out) ((laws_markCondS_m ((gt d7 k5).Query.Conds) (IntKind.i64.wrap ((IntKind.i64.wrap (s6 + 1)) + 1))).1)).1) + 1))).1), .int .i64 (IntKind.i64.wrap (((laws_markIntS_m ((gt d7 k5).Todo) (IntKind.i64.wrap (((laws_markIntS_m ((gt d7 k5).Query.Out) ((laws_markCondS_m ((gt d7 k5).Query.Conds) (IntKind.i64.wrap ((IntKind.i64.wrap (s6 + 1)) + 1))).1)).1) + 1))).1) + 1)), .int .i64 ((gt d7 k5).Cap), .slice A31 ((gt d7 k5).Rows).length c32]) (ck' := [.int .i64 s6, .int .i64 (IntKind.i64.wrap (s6 + 1)), .slice A19 ((gt d7 k5).Query.Conds).length c20, .slice A23 ((gt d7 k5).Query.Out).length c24, .int .i64 ((laws_markIntS_m ((gt d7 k5).Query.Out) ((laws_markCondS_m ((gt d7 k5).Query.Conds) (IntKind.i64.wrap ((IntKind.i64.wrap (s6 + 1)) + 1))).1)).1), .slice A27 ((gt d7 k5).Todo).length c28, .int .i64 ((laws_markIntS_m ((gt d7 k5).Todo) (IntKind.i64.wrap (((laws_markIntS_m ((gt d7 k5).Query.Out) ((laws_markCondS_m ((gt d7 k5).Query.Conds) (IntKind.i64.wrap ((IntKind.i64.wrap (s6 + 1)) + 1))).1)).1) + 1))).1), .int .i64 (IntKind.i64.wrap (((laws_markIntS_m ((gt d7 k5).Todo) (IntKind.i64.wrap (((laws_markIntS_m ((gt d7 k5).Query.Out) ((laws_markCondS_m ((gt d7 k5).Query.Conds) (IntKind.i64.wrap ((IntKind.i64.wrap (s6 + 1)) + 1))).1)).1) + 1))).1) + 1)), .int .i64 (IntKind.i64.wrap ((IntKind.i64.wrap (((laws_markIntS_m ((gt d7 k5).Todo) (IntKind.i64.wrap (((laws_markIntS_m ((gt d7 k5).Query.Out) ((laws_markCondS_m ((gt d7 k5).Query.Conds) (IntKind.i64.wrap ((IntKind.i64.wrap (s6 + 1)) + 1))).1)).1) + 1))).1) + 1)) + 1)), .slice A31 ((gt d7 k5).Rows).length c32]) (js := (iOwn (tSl tInt 3) [.slice A27 ((gt d7 k5).Todo).length c28] ((laws_markIntS_m ((gt d7 k5).Todo) (IntKind.i64.wrap (((laws_markIntS_m ((gt d7 k5).Query.Out) ((laws_markCondS_m ((gt d7 k5).Query.Conds) (IntKind.i64.wrap ((IntKind.i64.wrap (s6 + 1)) + 1))).1)).1) + 1))).2) :: iOwn (tSl tInt 3) [.slice A23 ((gt d7 k5).Query.Out).length c24] ((laws_markIntS_m ((gt d7 k5).Query.Out) ((laws_markCondS_m ((gt d7 k5).Query.Conds) (IntKind.i64.wrap ((IntKind.i64.wrap (s6 + 1)) + 1))).1)).2) :: iOwn (tSl tyCond 183) [.slice A19 ((gt d7 k5).Query.Conds).length c20] ((laws_markCondS_m ((gt d7 k5).Query.Conds) (IntKind.i64.wrap ((IntKind.i64.wrap (s6 + 1)) + 1))).2) :: iOwn (tSl tyRow 29) [.slice A31 ((gt d7 k5).Rows).length c32] ((gt d7 k5).Rows) :: is)) (fun W hm => (hm.front (n := 0) rfl)) rfl rfl Try.type3 rfl (Nat.le_of_ble_eq_true rfl) rfl rfl rfl rfl (Wd_none rfl) ?_
    refine nt' ?_
    refine sr ?_
    refine wm ?_
    refine wv (fun W hm => rv_add rfl rfl) ?_
    refine wa ?_
    refine nt' ?_
    refine CM_region ?_
    refine wm ?_
    refine wm ?_
    refine wv (fun W hm => rv_index (sz := 10) (k := k5) Try.underlying73 Try.type127 rfl rfl rfl (by omega)) ?_
    refine wv (fun W hm => rv_field Try.underlying127 rfl Try.type39 (by decide) rfl rfl) ?_
    refine wv (fun W hm => rv_load Try.underlying39 rfl rfl (hm.focCells (i := 0) rfl rfl 9 _ rfl)) ?_
    refine wm ?_
    refine WM_callW (χ := Unit) (val := fun _ => .int .i64 (laws_markRowS_m ((gt d7 k5).Rows) (IntKind.i64.wrap ((IntKind.i64.wrap ((IntKind.i64.wrap (((laws_markIntS_m ((gt d7 k5).Todo) (IntKind.i64.wrap (((laws_markIntS_m ((gt d7 k5).Query.Out) ((laws_markCondS_m ((gt d7 k5).Query.Conds) (IntKind.i64.wrap ((IntKind.i64.wrap (s6 + 1)) + 1))).1)).1) + 1))).1) + 1)) + 1)) + 1))).1) (js := fun _ => (iOwn (tSl tyRow 29) [.slice A31 ((gt d7 k5).Rows).length c32] (laws_markRowS_m ((gt d7 k5).Rows) (IntKind.i64.wrap ((IntKind.i64.wrap ((IntKind.i64.wrap (((laws_markIntS_m ((gt d7 k5).Todo) (IntKind.i64.wrap (((laws_markIntS_m ((gt d7 k5).Query.Out) ((laws_markCondS_m ((gt d7 k5).Query.Conds) (IntKind.i64.wrap ((IntKind.i64.wrap (s6 + 1)) + 1))).1)).1) + 1))).1) + 1)) + 1)) + 1))).2 :: (iFoc tyActive 127 (some ⟨g13, 0, none⟩) x0.length c2 d7 k5 [.int .i64 s6, .int .i64 (IntKind.i64.wrap (s6 + 1)), .slice A19 ((gt d7 k5).Query.Conds).length c20, .slice A23 ((gt d7 k5).Query.Out).length c24, .int .i64 ((laws_markIntS_m ((gt d7 k5).Query.Out) ((laws_markCondS_m ((gt d7 k5).Query.Conds) (IntKind.i64.wrap ((IntKind.i64.wrap (s6 + 1)) + 1))).1)).1), .slice A27 ((gt d7 k5).Todo).length c28, .int .i64 ((laws_markIntS_m ((gt d7 k5).Todo) (IntKind.i64.wrap (((laws_markIntS_m ((gt d7 k5).Query.Out) ((laws_markCondS_m ((gt d7 k5).Query.Conds) (IntKind.i64.wrap ((IntKind.i64.wrap (s6 + 1)) + 1))).1)).1) + 1))).1), .int .i64 (IntKind.i64.wrap (((laws_markIntS_m ((gt d7 k5).Todo) (IntKind.i64.wrap (((laws_markIntS_m ((gt d7 k5).Query.Out) ((laws_markCondS_m ((gt d7 k5).Query.Conds) (IntKind.i64.wrap ((IntKind.i64.wrap (s6 + 1)) + 1))).1)).1) + 1))).1) + 1)), .int .i64 (IntKind.i64.wrap ((IntKind.i64.wrap (((laws_markIntS_m ((gt d7 k5).Todo) (IntKind.i64.wrap (((laws_markIntS_m ((gt d7 k5).Query.Out) ((laws_markCondS_m ((gt d7 k5).Query.Conds) (IntKind.i64.wrap ((IntKind.i64.wrap (s6 + 1)) + 1))).1)).1) + 1))).1) + 1)) + 1)), .slice A31 ((gt d7 k5).Rows).length c32] :: iOwn (tSl tInt 3) [.slice A27 ((gt d7 k5).Todo).length c28] ((laws_markIntS_m ((gt d7 k5).Todo) (IntKind.i64.wrap (((laws_markIntS_m ((gt d7 k5).Query.Out) ((laws_markCondS_m ((gt d7 k5).Query.Conds) (IntKind.i64.wrap ((IntKind.i64.wrap (s6 + 1)) + 1))).1)).1) + 1))).2) :: iOwn (tSl tInt 3) [.slice A23 ((gt d7 k5).Query.Out).length c24] ((laws_markIntS_m ((gt d7 k5).Query.Out) ((laws_markCondS_m ((gt d7 k5).Query.Conds) (IntKind.i64.wrap ((IntKind.i64.wrap (s6 + 1)) + 1))).1)).2) :: iOwn (tSl tyCond 183) [.slice A19 ((gt d7 k5).Query.Conds).length c20] ((laws_markCondS_m ((gt d7 k5).Query.Conds) (IntKind.i64.wrap ((IntKind.i64.wrap (s6 + 1)) + 1))).2) :: is))) (cl_fn cb183 rfl) (fun W hm => (laws_markRowS_c B w0 (iFoc tyActive 127 (some ⟨g13, 0, none⟩) x0.length c2 d7 k5 [.int .i64 s6, .int .i64 (IntKind.i64.wrap (s6 + 1)), .slice A19 ((gt d7 k5).Query.Conds).length c20, .slice A23 ((gt d7 k5).Query.Out).length c24, .int .i64 ((laws_markIntS_m ((gt d7 k5).Query.Out) ((laws_markCondS_m ((gt d7 k5).Query.Conds) (IntKind.i64.wrap ((IntKind.i64.wrap (s6 + 1)) + 1))).1)).1), .slice A27 ((gt d7 k5).Todo).length c28, .int .i64 ((laws_markIntS_m ((gt d7 k5).Todo) (IntKind.i64.wrap (((laws_markIntS_m ((gt d7 k5).Query.Out) ((laws_markCondS_m ((gt d7 k5).Query.Conds) (IntKind.i64.wrap ((IntKind.i64.wrap (s6 + 1)) + 1))).1)).1) + 1))).1), .int .i64 (IntKind.i64.wrap (((laws_markIntS_m ((gt d7 k5).Todo) (IntKind.i64.wrap (((laws_markIntS_m ((gt d7 k5).Query.Out) ((laws_markCondS_m ((gt d7 k5).Query.Conds) (IntKind.i64.wrap ((IntKind.i64.wrap (s6 + 1)) + 1))).1)).1) + 1))).1) + 1)), .int .i64 (IntKind.i64.wrap ((IntKind.i64.wrap (((laws_markIntS_m ((gt d7 k5).Todo) (IntKind.i64.wrap (((laws_markIntS_m ((gt d7 k5).Query.Out) ((laws_markCondS_m ((gt d7 k5).Query.Conds) (IntKind.i64.wrap ((IntKind.i64.wrap (s6 + 1)) + 1))).1)).1) + 1))).1) + 1)) + 1)), .slice A31 ((gt d7 k5).Rows).length c32] :: iOwn (tSl tInt 3) [.slice A27 ((gt d7 k5).Todo).length c28] ((laws_markIntS_m ((gt d7 k5).Todo) (IntKind.i64.wrap (((laws_markIntS_m ((gt d7 k5).Query.Out) ((laws_markCondS_m ((gt d7 k5).Query.Conds) (IntKind.i64.wrap ((IntKind.i64.wrap (s6 + 1)) + 1))).1)).1) + 1))).2) :: iOwn (tSl tInt 3) [.slice A23 ((gt d7 k5).Query.Out).length c24] ((laws_markIntS_m ((gt d7 k5).Query.Out) ((laws_markCondS_m ((gt d7 k5).Query.Conds) (IntKind.i64.wrap ((IntKind.i64.wrap (s6 + 1)) + 1))).1)).2) :: iOwn (tSl tyCond 183) [.slice A19 ((gt d7 k5).Query.Conds).length c20] ((laws_markCondS_m ((gt d7 k5).Query.Conds) (IntKind.i64.wrap ((IntKind.i64.wrap (s6 + 1)) + 1))).2) :: is) W (.slice A31 ((gt d7 k5).Rows).length c32) ((gt d7 k5).Rows) (IntKind.i64.wrap ((IntKind.i64.wrap ((IntKind.i64.wrap (((laws_markIntS_m ((gt d7 k5).Todo) (IntKind.i64.wrap (((laws_markIntS_m ((gt d7 k5).Query.Out) ((laws_markCondS_m ((gt d7 k5).Query.Conds) (IntKind.i64.wrap ((IntKind.i64.wrap (s6 + 1)) + 1))).1)).1) + 1))).1) + 1)) + 1)) + 1)) (hm.front (n := 4) rfl)).mono (fun _ _ h => ⟨(), h.1, h.2⟩)) (Wd_none rfl) (by decide) (fun _ => ?_)
    refine wa ?_
    refine WM_nil ?_
    refine QM_block_normal ?_
    refine QM_then ?_
    refine CM_region ?_
    refine wm ?_
    refine wv (fun W hm => rv_addN (p := k5) (q := 1) rfl rfl (by omega)) ?_
    refine wa ?_
    refine WM_nil ?_
    refine QM_items (fun W hm => Mem.unfocus (Mem.join (is := [iOwn (tSl tyCond 183) [.slice A19 ((gt d7 k5).Query.Conds).length c20] ((laws_markCondS_m ((gt d7 k5).Query.Conds) (IntKind.i64.wrap ((IntKind.i64.wrap (s6 + 1)) + 1))).2), iOwn (tSl tInt 3) [.slice A23 ((gt d7 k5).Query.Out).length c24] ((laws_markIntS_m ((gt d7 k5).Query.Out) ((laws_markCondS_m ((gt d7 k5).Query.Conds) (IntKind.i64.wrap ((IntKind.i64.wrap (s6 + 1)) + 1))).1)).2), iOwn (tSl tInt 3) [.slice A27 ((gt d7 k5).Todo).length c28] ((laws_markIntS_m ((gt d7 k5).Todo) (IntKind.i64.wrap (((laws_markIntS_m ((gt d7 k5).Query.Out) ((laws_markCondS_m ((gt d7 k5).Query.Conds) (IntKind.i64.wrap ((IntKind.i64.wrap (s6 + 1)) + 1))).1)).1) + 1))).2), iOwn (tSl tyRow 29) [.slice A31 ((gt d7 k5).Rows).length c32] ((laws_markRowS_m ((gt d7 k5).Rows) (IntKind.i64.wrap ((IntKind.i64.wrap ((IntKind.i64.wrap (((laws_markIntS_m ((gt d7 k5).Todo) (IntKind.i64.wrap (((laws_markIntS_m ((gt d7 k5).Query.Out) ((laws_markCondS_m ((gt d7 k5).Query.Conds) (IntKind.i64.wrap ((IntKind.i64.wrap (s6 + 1)) + 1))).1)).1) + 1))).1) + 1)) + 1)) + 1))).2)]) (js := (iFoc tyActive 127 (some ⟨g13, 0, none⟩) x0.length c2 d7 k5 [.int .i64 s6, .int .i64 (IntKind.i64.wrap (s6 + 1)), .slice A19 ((gt d7 k5).Query.Conds).length c20, .slice A23 ((gt d7 k5).Query.Out).length c24, .int .i64 ((laws_markIntS_m ((gt d7 k5).Query.Out) ((laws_markCondS_m ((gt d7 k5).Query.Conds) (IntKind.i64.wrap ((IntKind.i64.wrap (s6 + 1)) + 1))).1)).1), .slice A27 ((gt d7 k5).Todo).length c28, .int .i64 ((laws_markIntS_m ((gt d7 k5).Todo) (IntKind.i64.wrap (((laws_markIntS_m ((gt d7 k5).Query.Out) ((laws_markCondS_m ((gt d7 k5).Query.Conds) (IntKind.i64.wrap ((IntKind.i64.wrap (s6 + 1)) + 1))).1)).1) + 1))).1), .int .i64 (IntKind.i64.wrap (((laws_markIntS_m ((gt d7 k5).Todo) (IntKind.i64.wrap (((laws_markIntS_m ((gt d7 k5).Query.Out) ((laws_markCondS_m ((gt d7 k5).Query.Conds) (IntKind.i64.wrap ((IntKind.i64.wrap (s6 + 1)) + 1))).1)).1) + 1))).1) + 1)), .int .i64 (IntKind.i64.wrap ((IntKind.i64.wrap (((laws_markIntS_m ((gt d7 k5).Todo) (IntKind.i64.wrap (((laws_markIntS_m ((gt d7 k5).Query.Out) ((laws_markCondS_m ((gt d7 k5).Query.Conds) (IntKind.i64.wrap ((IntKind.i64.wrap (s6 + 1)) + 1))).1)).1) + 1))).1) + 1)) + 1)), .slice A31 ((gt d7 k5).Rows).length c32] :: (is))) (fun _ _ hs => tyActive_join (x := (⟨(⟨s6, (IntKind.i64.wrap (s6 + 1)), (laws_markCondS_m ((gt d7 k5).Query.Conds) (IntKind.i64.wrap ((IntKind.i64.wrap (s6 + 1)) + 1))).2, (laws_markIntS_m ((gt d7 k5).Query.Out) ((laws_markCondS_m ((gt d7 k5).Query.Conds) (IntKind.i64.wrap ((IntKind.i64.wrap (s6 + 1)) + 1))).1)).2⟩ : DQuery), (laws_markIntS_m ((gt d7 k5).Query.Out) ((laws_markCondS_m ((gt d7 k5).Query.Conds) (IntKind.i64.wrap ((IntKind.i64.wrap (s6 + 1)) + 1))).1)).1, (laws_markIntS_m ((gt d7 k5).Todo) (IntKind.i64.wrap (((laws_markIntS_m ((gt d7 k5).Query.Out) ((laws_markCondS_m ((gt d7 k5).Query.Conds) (IntKind.i64.wrap ((IntKind.i64.wrap (s6 + 1)) + 1))).1)).1) + 1))).2, (laws_markIntS_m ((gt d7 k5).Todo) (IntKind.i64.wrap (((laws_markIntS_m ((gt d7 k5).Query.Out) ((laws_markCondS_m ((gt d7 k5).Query.Conds) (IntKind.i64.wrap ((IntKind.i64.wrap (s6 + 1)) + 1))).1)).1) + 1))).1, (IntKind.i64.wrap (((laws_markIntS_m ((gt d7 k5).Todo) (IntKind.i64.wrap (((laws_markIntS_m ((gt d7 k5).Query.Out) ((laws_markCondS_m ((gt d7 k5).Query.Conds) (IntKind.i64.wrap ((IntKind.i64.wrap (s6 + 1)) + 1))).1)).1) + 1))).1) + 1)), (IntKind.i64.wrap ((IntKind.i64.wrap (((laws_markIntS_m ((gt d7 k5).Todo) (IntKind.i64.wrap (((laws_markIntS_m ((gt d7 k5).Query.Out) ((laws_markCondS_m ((gt d7 k5).Query.Conds) (IntKind.i64.wrap ((IntKind.i64.wrap (s6 + 1)) + 1))).1)).1) + 1))).1) + 1)) + 1)), (laws_markRowS_m ((gt d7 k5).Rows) (IntKind.i64.wrap ((IntKind.i64.wrap ((IntKind.i64.wrap (((laws_markIntS_m ((gt d7 k5).Todo) (IntKind.i64.wrap (((laws_markIntS_m ((gt d7 k5).Query.Out) ((laws_markCondS_m ((gt d7 k5).Query.Conds) (IntKind.i64.wrap ((IntKind.i64.wrap (s6 + 1)) + 1))).1)).1) + 1))).1) + 1)) + 1)) + 1))).2⟩ : DActive)) hs) (((((hm.front (n := 1) rfl).front (n := 1) rfl).front (n := 2) rfl).front (n := 3) rfl).front (n := 4) rfl))) ?_
    have hn35 := rng_next (R := (Int × (List DActive))) (body := (fun k (s : Int × (List DActive)) => laws_markActiveS_b1 k s.1 s.2)) (k := k5) (s := (s6, d7)) (s' := ((laws_markRowS_m ((gt d7 k5).Rows) (IntKind.i64.wrap ((IntKind.i64.wrap ((IntKind.i64.wrap (((laws_markIntS_m ((gt d7 k5).Todo) (IntKind.i64.wrap (((laws_markIntS_m ((gt d7 k5).Query.Out) ((laws_markCondS_m ((gt d7 k5).Query.Conds) (IntKind.i64.wrap ((IntKind.i64.wrap (s6 + 1)) + 1))).1)).1) + 1))).1) + 1)) + 1)) + 1))).1, (d7.set k5 (⟨(⟨s6, (IntKind.i64.wrap (s6 + 1)), (laws_markCondS_m ((gt d7 k5).Query.Conds) (IntKind.i64.wrap ((IntKind.i64.wrap (s6 + 1)) + 1))).2, (laws_markIntS_m ((gt d7 k5).Query.Out) ((laws_markCondS_m ((gt d7 k5).Query.Conds) (IntKind.i64.wrap ((IntKind.i64.wrap (s6 + 1)) + 1))).1)).2⟩ : DQuery), (laws_markIntS_m ((gt d7 k5).Query.Out) ((laws_markCondS_m ((gt d7 k5).Query.Conds) (IntKind.i64.wrap ((IntKind.i64.wrap (s6 + 1)) + 1))).1)).1, (laws_markIntS_m ((gt d7 k5).Todo) (IntKind.i64.wrap (((laws_markIntS_m ((gt d7 k5).Query.Out) ((laws_markCondS_m ((gt d7 k5).Query.Conds) (IntKind.i64.wrap ((IntKind.i64.wrap (s6 + 1)) + 1))).1)).1) + 1))).2, (laws_markIntS_m ((gt d7 k5).Todo) (IntKind.i64.wrap (((laws_markIntS_m ((gt d7 k5).Query.Out) ((laws_markCondS_m ((gt d7 k5).Query.Conds) (IntKind.i64.wrap ((IntKind.i64.wrap (s6 + 1)) + 1))).1)).1) + 1))).1, (IntKind.i64.wrap (((laws_markIntS_m ((gt d7 k5).Todo) (IntKind.i64.wrap (((laws_markIntS_m ((gt d7 k5).Query.Out) ((laws_markCondS_m ((gt d7 k5).Query.Conds) (IntKind.i64.wrap ((IntKind.i64.wrap (s6 + 1)) + 1))).1)).1) + 1))).1) + 1)), (IntKind.i64.wrap ((IntKind.i64.wrap (((laws_markIntS_m ((gt d7 k5).Todo) (IntKind.i64.wrap (((laws_markIntS_m ((gt d7 k5).Query.Out) ((laws_markCondS_m ((gt d7 k5).Query.Conds) (IntKind.i64.wrap ((IntKind.i64.wrap (s6 + 1)) + 1))).1)).1) + 1))).1) + 1)) + 1)), (laws_markRowS_m ((gt d7 k5).Rows) (IntKind.i64.wrap ((IntKind.i64.wrap ((IntKind.i64.wrap (((laws_markIntS_m ((gt d7 k5).Todo) (IntKind.i64.wrap (((laws_markIntS_m ((gt d7 k5).Query.Out) ((laws_markCondS_m ((gt d7 k5).Query.Conds) (IntKind.i64.wrap ((IntKind.i64.wrap (s6 + 1)) + 1))).1)).1) + 1))).1) + 1)) + 1)) + 1))).2⟩ : DActive)))) (show k5 < x0.length from by omega) (show laws_markActiveS_b1 k5 s6 d7 = Sum.inr ((laws_markRowS_m ((gt d7 k5).Rows) (IntKind.i64.wrap ((IntKind.i64.wrap ((IntKind.i64.wrap (((laws_markIntS_m ((gt d7 k5).Todo) (IntKind.i64.wrap (((laws_markIntS_m ((gt d7 k5).Query.Out) ((laws_markCondS_m ((gt d7 k5).Query.Conds) (IntKind.i64.wrap ((IntKind.i64.wrap (s6 + 1)) + 1))).1)).1) + 1))).1) + 1)) + 1)) + 1))).1, (d7.set k5 (⟨(⟨s6, (IntKind.i64.wrap (s6 + 1)), (laws_markCondS_m ((gt d7 k5).Query.Conds) (IntKind.i64.wrap ((IntKind.i64.wrap (s6 + 1)) + 1))).2, (laws_markIntS_m ((gt d7 k5).Query.Out) ((laws_markCondS_m ((gt d7 k5).Query.Conds) (IntKind.i64.wrap ((IntKind.i64.wrap (s6 + 1)) + 1))).1)).2⟩ : DQuery), (laws_markIntS_m ((gt d7 k5).Query.Out) ((laws_markCondS_m ((gt d7 k5).Query.Conds) (IntKind.i64.wrap ((IntKind.i64.wrap (s6 + 1)) + 1))).1)).1, (laws_markIntS_m ((gt d7 k5).Todo) (IntKind.i64.wrap (((laws_markIntS_m ((gt d7 k5).Query.Out) ((laws_markCondS_m ((gt d7 k5).Query.Conds) (IntKind.i64.wrap ((IntKind.i64.wrap (s6 + 1)) + 1))).1)).1) + 1))).2, (laws_markIntS_m ((gt d7 k5).Todo) (IntKind.i64.wrap (((laws_markIntS_m ((gt d7 k5).Query.Out) ((laws_markCondS_m ((gt d7 k5).Query.Conds) (IntKind.i64.wrap ((IntKind.i64.wrap (s6 + 1)) + 1))).1)).1) + 1))).1, (IntKind.i64.wrap (((laws_markIntS_m ((gt d7 k5).Todo) (IntKind.i64.wrap (((laws_markIntS_m ((gt d7 k5).Query.Out) ((laws_markCondS_m ((gt d7 k5).Query.Conds) (IntKind.i64.wrap ((IntKind.i64.wrap (s6 + 1)) + 1))).1)).1) + 1))).1) + 1)), (IntKind.i64.wrap ((IntKind.i64.wrap (((laws_markIntS_m ((gt d7 k5).Todo) (IntKind.i64.wrap (((laws_markIntS_m ((gt d7 k5).Query.Out) ((laws_markCondS_m ((gt d7 k5).Query.Conds) (IntKind.i64.wrap ((IntKind.i64.wrap (s6 + 1)) + 1))).1)).1) + 1))).1) + 1)) + 1)), (laws_markRowS_m ((gt d7 k5).Rows) (IntKind.i64.wrap ((IntKind.i64.wrap ((IntKind.i64.wrap (((laws_markIntS_m ((gt d7 k5).Todo) (IntKind.i64.wrap (((laws_markIntS_m ((gt d7 k5).Query.Out) ((laws_markCondS_m ((gt d7 k5).Query.Conds) (IntKind.i64.wrap ((IntKind.i64.wrap (s6 + 1)) + 1))).1)).1) + 1))).1) + 1)) + 1)) + 1))).2⟩ : DActive))) from by unfold laws_markActiveS_b1; exact rfl) hF9
    exact QM_round (k5 + 1, ((laws_markRowS_m ((gt d7 k5).Rows) (IntKind.i64.wrap ((IntKind.i64.wrap ((IntKind.i64.wrap (((laws_markIntS_m ((gt d7 k5).Todo) (IntKind.i64.wrap (((laws_markIntS_m ((gt d7 k5).Query.Out) ((laws_markCondS_m ((gt d7 k5).Query.Conds) (IntKind.i64.wrap ((IntKind.i64.wrap (s6 + 1)) + 1))).1)).1) + 1))).1) + 1)) + 1)) + 1))).1, (d7.set k5 (⟨(⟨s6, (IntKind.i64.wrap (s6 + 1)), (laws_markCondS_m ((gt d7 k5).Query.Conds) (IntKind.i64.wrap ((IntKind.i64.wrap (s6 + 1)) + 1))).2, (laws_markIntS_m ((gt d7 k5).Query.Out) ((laws_markCondS_m ((gt d7 k5).Query.Conds) (IntKind.i64.wrap ((IntKind.i64.wrap (s6 + 1)) + 1))).1)).2⟩ : DQuery), (laws_markIntS_m ((gt d7 k5).Query.Out) ((laws_markCondS_m ((gt d7 k5).Query.Conds) (IntKind.i64.wrap ((IntKind.i64.wrap (s6 + 1)) + 1))).1)).1, (laws_markIntS_m ((gt d7 k5).Todo) (IntKind.i64.wrap (((laws_markIntS_m ((gt d7 k5).Query.Out) ((laws_markCondS_m ((gt d7 k5).Query.Conds) (IntKind.i64.wrap ((IntKind.i64.wrap (s6 + 1)) + 1))).1)).1) + 1))).2, (laws_markIntS_m ((gt d7 k5).Todo) (IntKind.i64.wrap (((laws_markIntS_m ((gt d7 k5).Query.Out) ((laws_markCondS_m ((gt d7 k5).Query.Conds) (IntKind.i64.wrap ((IntKind.i64.wrap (s6 + 1)) + 1))).1)).1) + 1))).1, (IntKind.i64.wrap (((laws_markIntS_m ((gt d7 k5).Todo) (IntKind.i64.wrap (((laws_markIntS_m ((gt d7 k5).Query.Out) ((laws_markCondS_m ((gt d7 k5).Query.Conds) (IntKind.i64.wrap ((IntKind.i64.wrap (s6 + 1)) + 1))).1)).1) + 1))).1) + 1)), (IntKind.i64.wrap ((IntKind.i64.wrap (((laws_markIntS_m ((gt d7 k5).Todo) (IntKind.i64.wrap (((laws_markIntS_m ((gt d7 k5).Query.Out) ((laws_markCondS_m ((gt d7 k5).Query.Conds) (IntKind.i64.wrap ((IntKind.i64.wrap (s6 + 1)) + 1))).1)).1) + 1))).1) + 1)) + 1)), (laws_markRowS_m ((gt d7 k5).Rows) (IntKind.i64.wrap ((IntKind.i64.wrap ((IntKind.i64.wrap (((laws_markIntS_m ((gt d7 k5).Todo) (IntKind.i64.wrap (((laws_markIntS_m ((gt d7 k5).Query.Out) ((laws_markCondS_m ((gt d7 k5).Query.Conds) (IntKind.i64.wrap ((IntKind.i64.wrap (s6 + 1)) + 1))).1)).1) + 1))).1) + 1)) + 1)) + 1))).2⟩ : DActive))), ()) (subL_cons rfl (subL_cons rfl (subL_cons rfl subL_nil))) (fun W hm => hm) ⟨(by omega), hn35⟩ (show x0.length - (k5 + 1) < x0.length - k5 from by omega)
  · have g12 : (decide (((k5 : Nat) : Int) < ((x0.length : Nat) : Int))) = false := decide_eq_false (by omega)
    refine CM_condF rfl g12 ?_
    refine CM_exit ?_
    refine QM_then_exit ?_
    refine QM_then_exit ?_
    have hE36 : rng (R := (Int × (List DActive))) (fun k (s : Int × (List DActive)) => laws_markActiveS_b1 k s.1 s.2) (x0.length - 0) 0 (x1, x0) = Sum.inr (s6, d7) := rng_end hl11 hF9
    refine QM_block_hit ?_
    refine QM_then ?_
    refine sr ?_
    refine wm ?_
    refine wa ?_
    refine nt' ?_
    refine CM_ret ?_
    refine QM_rW rfl rfl (fun W hm => ⟨?_, ?_⟩)
    · rw [(show laws_markActiveS_m x0 x1 = (s6, d7) from by unfold laws_markActiveS_m; exact fin_inr hE36 (rfl))]
    · rw [(show laws_markActiveS_m x0 x1 = (s6, d7) from by unfold laws_markActiveS_m; exact fin_inr hE36 (rfl))]; exact hm

def laws_markFinishedS_b1 (k5 : Nat) (s6 : Int) (d7 : (List DFinished)) : (Int × (List DFinished)) ⊕ (Int × (List DFinished)) :=
  Sum.inr ((laws_markRowS_m ((gt d7 k5).Rows) (IntKind.i64.wrap ((IntKind.i64.wrap (((laws_markIntS_m ((gt d7 k5).Query.Out) ((laws_markCondS_m ((gt d7 k5).Query.Conds) (IntKind.i64.wrap ((IntKind.i64.wrap (s6 + 1)) + 1))).1)).1) + 1)) + 1))).1, (d7.set k5 (⟨(⟨s6, (IntKind.i64.wrap (s6 + 1)), (laws_markCondS_m ((gt d7 k5).Query.Conds) (IntKind.i64.wrap ((IntKind.i64.wrap (s6 + 1)) + 1))).2, (laws_markIntS_m ((gt d7 k5).Query.Out) ((laws_markCondS_m ((gt d7 k5).Query.Conds) (IntKind.i64.wrap ((IntKind.i64.wrap (s6 + 1)) + 1))).1)).2⟩ : DQuery), (laws_markIntS_m ((gt d7 k5).Query.Out) ((laws_markCondS_m ((gt d7 k5).Query.Conds) (IntKind.i64.wrap ((IntKind.i64.wrap (s6 + 1)) + 1))).1)).1, (IntKind.i64.wrap (((laws_markIntS_m ((gt d7 k5).Query.Out) ((laws_markCondS_m ((gt d7 k5).Query.Conds) (IntKind.i64.wrap ((IntKind.i64.wrap (s6 + 1)) + 1))).1)).1) + 1)), (laws_markRowS_m ((gt d7 k5).Rows) (IntKind.i64.wrap ((IntKind.i64.wrap (((laws_markIntS_m ((gt d7 k5).Query.Out) ((laws_markCondS_m ((gt d7 k5).Query.Conds) (IntKind.i64.wrap ((IntKind.i64.wrap (s6 + 1)) + 1))).1)).1) + 1)) + 1))).2⟩ : DFinished)))
def laws_markFinishedS_m (x0 : (List DFinished)) (x1 : Int) : (Int × (List DFinished)) :=
  Sum.elim id (fun (s : Int × (List DFinished)) => (s.1, s.2)) (rng (R := (Int × (List DFinished))) (fun k (s : Int × (List DFinished)) => laws_markFinishedS_b1 k s.1 s.2) (x0.length - 0) 0 (x1, x0))
theorem cb131 : Cb Try.prog 131 := ⟨Try.f131, _, Try.func131, rfl, by decide⟩
set_option maxRecDepth 10000 in
set_option maxHeartbeats 4000000 in
theorem laws_markFinishedS_c (B : Nat) (w0 : World) (is : List It) (w : World) (z0 : Value) (x0 : (List DFinished)) (x1 : Int) (hm : Mem B w0 (iOwn (tSl tyFinished 136) [z0] x0 :: is) w) :
    Calls Try.prog 131 #[z0, .int .i64 x1] w fun e w' => e = .returned (.int .i64 (laws_markFinishedS_m x0 x1).1) ∧ Mem B w0 (iOwn (tSl tyFinished 136) [z0] (laws_markFinishedS_m x0 x1).2 :: is) w' := by
  refine call_enterW (L := [(0, z0), (1, .int .i64 x1)]) (N := 66) Try.func131 rfl rfl (Nat.le_of_ble_eq_true rfl) (argsL_cons rfl (argsL_cons rfl argsL_nil)) hm ?_
  refine CM_form (n := 0) rfl ?_
  rintro A1 c2 rfl m3
  refine sr ?_
  refine wa ?_
  refine nt' ?_
  refine CM_seq ?_
  refine sr ?_
  refine wa ?_
  refine nt' ?_
  refine CM_block ?_
  refine CM_loop (σ := Nat × (Int × (List DFinished)) × (Unit)) (fun s => [(0, .slice A1 x0.length c2), (1, .int .i64 s.2.1.1), (5, .int .i64 ((s.1 : Nat) : Int))]) (fun s => (iOwn (tSl tyFinished 136) [.slice A1 x0.length c2] s.2.1.2 :: is)) (fun s => s.1 ≤ x0.length ∧ rng (R := (Int × (List DFinished))) (fun k (s : Int × (List DFinished)) => laws_markFinishedS_b1 k s.1 s.2) (x0.length - s.1) s.1 s.2.1 = rng (R := (Int × (List DFinished))) (fun k (s : Int × (List DFinished)) => laws_markFinishedS_b1 k s.1 s.2) (x0.length - 0) 0 (x1, x0)) (fun s => x0.length - s.1) (0, (x1, x0), ()) (subL_cons rfl (subL_cons rfl (subL_cons rfl subL_nil))) (fun W hm => hm) ⟨(by omega), rfl⟩ ?_
  rintro ⟨k5, ⟨s6, d7⟩, ⟨⟩⟩ H10
  obtain ⟨hk8, hF9⟩ : k5 ≤ x0.length ∧ rng (R := (Int × (List DFinished))) (fun k (s : Int × (List DFinished)) => laws_markFinishedS_b1 k s.1 s.2) (x0.length - k5) k5 (s6, d7) = rng (R := (Int × (List DFinished))) (fun k (s : Int × (List DFinished)) => laws_markFinishedS_b1 k s.1 s.2) (x0.length - 0) 0 (x1, x0) := H10
  show CM Try.prog 66 _ _ _ _ [(0, .slice A1 x0.length c2), (1, .int .i64 s6), (5, .int .i64 ((k5 : Nat) : Int))] (iOwn (tSl tyFinished 136) [.slice A1 x0.length c2] d7 :: is)
  refine CM_seq ?_
  refine sr ?_
  refine wm ?_
  refine wm ?_
  refine wv (fun W hm => rv_len Try.underlying74 rfl) ?_
  refine wv (fun W hm => rv_lss rfl rfl) ?_
  refine nt' ?_
  by_cases hl11 : k5 < x0.length
  · have g12 : (decide (((k5 : Nat) : Int) < ((x0.length : Nat) : Int))) = true := decide_eq_true (by omega)
    refine CM_condT rfl g12 ?_
    refine CM_skip ?_
    refine QM_then ?_
    refine CM_seq ?_
    refine CM_block ?_
    refine sr ?_
    refine wm ?_
    refine wm ?_
    refine wm ?_
    refine WM_formO (n := 0) rfl (by omega) ?_
    rintro g13 rfl
    refine wv (fun W hm => rv_index (sz := 7) (k := k5) Try.underlying74 Try.type136 rfl rfl rfl (by omega)) ?_
    refine wv (fun W hm => rv_field Try.underlying136 rfl Try.type125 (by decide) rfl rfl) ?_
    refine wv (fun W hm => rv_fieldA (o := 0) Try.underlying125 rfl Try.type3 (by decide) rfl rfl) ?_
    refine WM_focus (E := tyFinished) (e := 136) (A := (some ⟨g13, 0, none⟩)) (n := x0.length) (c := c2) (xs := d7) (k := k5) (js := (is)) (by omega) (fun W hm => (hm.front (n := 0) rfl)) (fun ck14 => ?_)
    refine WM_split (γ := Value × Value × Value) (js := fun g => [iOwn (tSl tyCond 183) [g.1] ((gt d7 k5).Query.Conds), iOwn (tSl tInt 3) [g.2.1] ((gt d7 k5).Query.Out), iOwn (tSl tyRow 29) [g.2.2] ((gt d7 k5).Rows)]) (C := fun g => ck14 = [.int .i64 ((gt d7 k5).Query.Id), .int .i64 ((gt d7 k5).Query.Tenant), g.1, g.2.1, .int .i64 ((gt d7 k5).Time), .int .i64 ((gt d7 k5).Steps), g.2.2]) (fun _ _ h => tyFinished_split h) ?_
    rintro ⟨v15, v16, v17⟩ rfl
    refine WM_form (n := 0) rfl ?_
    rintro A18 c19 rfl m20
    refine WM_form (n := 1) rfl ?_
    rintro A22 c23 rfl m24
    refine WM_form (n := 2) rfl ?_
    rintro A26 c27 rfl m28
    refine WM_storeFoc (E := tyFinished) (e := 136) (g := g13) (n := x0.length) (c := c2) (k := k5) (s := 7) (o := 0) (xs := d7) (ck := [.int .i64 ((gt d7 k5).Query.Id), .int .i64 ((gt d7 k5).Query.Tenant), .slice A18 ((gt d7 k5).Query.Conds).length c19, .slice A22 ((gt d7 k5).Query.Out).length c23, .int .i64 ((gt d7 k5).Time), .int .i64 ((gt d7 k5).Steps), .slice A26 ((gt d7 k5).Rows).length c27]) (ck' := [.int .i64 s6, .int .i64 ((gt d7 k5).Query.Tenant), .slice A18 ((gt d7 k5).Query.Conds).length c19, .slice A22 ((gt d7 k5).Query.Out).length c23, .int .i64 ((gt d7 k5).Time), .int .i64 ((gt d7 k5).Steps), .slice A26 ((gt d7 k5).Rows).length c27]) (js := (iOwn (tSl tyCond 183) [.slice A18 ((gt d7 k5).Query.Conds).length c19] ((gt d7 k5).Query.Conds) :: iOwn (tSl tInt 3) [.slice A22 ((gt d7 k5).Query.Out).length c23] ((gt d7 k5).Query.Out) :: iOwn (tSl tyRow 29) [.slice A26 ((gt d7 k5).Rows).length c27] ((gt d7 k5).Rows) :: is)) (fun W hm => (hm.front (n := 3) rfl)) rfl rfl Try.type3 rfl (Nat.le_of_ble_eq_true rfl) rfl rfl rfl rfl (Wd_none rfl) ?_
    refine nt' ?_
    refine sr ?_
    refine wm ?_
    refine wv (fun W hm => rv_add rfl rfl) ?_
    refine wa ?_
    refine nt' ?_
    refine sr ?_
    refine wm ?_
    refine wm ?_
    refine wm ?_
    refine wv (fun W hm => rv_index (sz := 7) (k := k5) Try.underlying74 Try.type136 rfl rfl rfl (by omega)) ?_
    refine wv (fun W hm => rv_field Try.underlying136 rfl Try.type125 (by decide) rfl rfl) ?_
    refine wv (fun W hm => rv_fieldA (o := 1) Try.underlying125 rfl Try.type3 (by decide) rfl rfl) ?_
    refine WM_storeFoc (E := tyFinished) (e := 136) (g := g13) (n := x0.length) (c := c2) (k := k5) (s := 7) (o := 1) (xs := d7) (ck := [.int .i64 s6, .int .i64 ((gt d7 k5).Query.Tenant), .slice A18 ((gt d7 k5).Query.Conds).length c19, .slice A22 ((gt d7 k5).Query.Out).length c23, .int .i64 ((gt d7 k5).Time), .int .i64 ((gt d7 k5).Steps), .slice A26 ((gt d7 k5).Rows).length c27]) (ck' := [.int .i64 s6, .int .i64 (IntKind.i64.wrap (s6 + 1)), .slice A18 ((gt d7 k5).Query.Conds).length c19, .slice A22 ((gt d7 k5).Query.Out).length c23, .int .i64 ((gt d7 k5).Time), .int .i64 ((gt d7 k5).Steps), .slice A26 ((gt d7 k5).Rows).length c27]) (js := (iOwn (tSl tyCond 183) [.slice A18 ((gt d7 k5).Query.Conds).length c19] ((gt d7 k5).Query.Conds) :: iOwn (tSl tInt 3) [.slice A22 ((gt d7 k5).Query.Out).length c23] ((gt d7 k5).Query.Out) :: iOwn (tSl tyRow 29) [.slice A26 ((gt d7 k5).Rows).length c27] ((gt d7 k5).Rows) :: is)) (fun W hm => (hm.front (n := 0) rfl)) rfl rfl Try.type3 rfl (Nat.le_of_ble_eq_true rfl) rfl rfl rfl rfl (Wd_none rfl) ?_
    refine nt' ?_
    refine sr ?_
    refine wm ?_
    refine wv (fun W hm => rv_add rfl rfl) ?_
    refine wa ?_
    refine nt' ?_
    refine sr ?_
    refine wm ?_
    refine wm ?_
    refine wv (fun W hm => rv_index (sz := 7) (k := k5) Try.underlying74 Try.type136 rfl rfl rfl (by omega)) ?_
    refine wv (fun W hm => rv_field Try.underlying136 rfl Try.type125 (by decide) rfl rfl) ?_
    refine wv (fun W hm => rv_fieldA (o := 2) Try.underlying125 rfl Try.type123 (by decide) rfl rfl) ?_
    refine wv (fun W hm => rv_load Try.underlying123 rfl rfl (hm.focCells (i := 0) rfl rfl 2 _ rfl)) ?_
    refine wm ?_
    refine WM_callW (χ := Unit) (val := fun _ => .int .i64 (laws_markCondS_m ((gt d7 k5).Query.Conds) (IntKind.i64.wrap ((IntKind.i64.wrap (s6 + 1)) + 1))).1) (js := fun _ => (iOwn (tSl tyCond 183) [.slice A18 ((gt d7 k5).Query.Conds).length c19] (laws_markCondS_m ((gt d7 k5).Query.Conds) (IntKind.i64.wrap ((IntKind.i64.wrap (s6 + 1)) + 1))).2 :: (iFoc tyFinished 136 (some ⟨g13, 0, none⟩) x0.length c2 d7 k5 [.int .i64 s6, .int .i64 (IntKind.i64.wrap (s6 + 1)), .slice A18 ((gt d7 k5).Query.Conds).length c19, .slice A22 ((gt d7 k5).Query.Out).length c23, .int .i64 ((gt d7 k5).Time), .int .i64 ((gt d7 k5).Steps), .slice A26 ((gt d7 k5).Rows).length c27] :: iOwn (tSl tInt 3) [.slice A22 ((gt d7 k5).Query.Out).length c23] ((gt d7 k5).Query.Out) :: iOwn (tSl tyRow 29) [.slice A26 ((gt d7 k5).Rows).length c27] ((gt d7 k5).Rows) :: is))) (cl_fn cb182 rfl) (fun W hm => (laws_markCondS_c B w0 (iFoc tyFinished 136 (some ⟨g13, 0, none⟩) x0.length c2 d7 k5 [.int .i64 s6, .int .i64 (IntKind.i64.wrap (s6 + 1)), .slice A18 ((gt d7 k5).Query.Conds).length c19, .slice A22 ((gt d7 k5).Query.Out).length c23, .int .i64 ((gt d7 k5).Time), .int .i64 ((gt d7 k5).Steps), .slice A26 ((gt d7 k5).Rows).length c27] :: iOwn (tSl tInt 3) [.slice A22 ((gt d7 k5).Query.Out).length c23] ((gt d7 k5).Query.Out) :: iOwn (tSl tyRow 29) [.slice A26 ((gt d7 k5).Rows).length c27] ((gt d7 k5).Rows) :: is) W (.slice A18 ((gt d7 k5).Query.Conds).length c19) ((gt d7 k5).Query.Conds) (IntKind.i64.wrap ((IntKind.i64.wrap (s6 + 1)) + 1)) (hm.front (n := 1) rfl)).mono (fun _ _ h => ⟨(), h.1, h.2⟩)) (Wd_none rfl) (by decide) (fun _ => ?_)
    refine wa ?_
    refine nt' ?_
    refine sr ?_
    refine wm ?_
    refine wm ?_
    refine wv (fun W hm => rv_index (sz := 7) (k := k5) Try.underlying74 Try.type136 rfl rfl rfl (by omega)) ?_
    refine wv (fun W hm => rv_field Try.underlying136 rfl Try.type125 (by decide) rfl rfl) ?_
    refine wv (fun W hm => rv_fieldA (o := 3) Try.underlying125 rfl Try.type27 (by decide) rfl rfl) ?_
    refine wv (fun W hm => rv_load Try.underlying27 rfl rfl (hm.focCells (i := 1) rfl rfl 3 _ rfl)) ?_
    refine wm ?_
    refine WM_callW (χ := Unit) (val := fun _ => .int .i64 (laws_markIntS_m ((gt d7 k5).Query.Out) ((laws_markCondS_m ((gt d7 k5).Query.Conds) (IntKind.i64.wrap ((IntKind.i64.wrap (s6 + 1)) + 1))).1)).1) (js := fun _ => (iOwn (tSl tInt 3) [.slice A22 ((gt d7 k5).Query.Out).length c23] (laws_markIntS_m ((gt d7 k5).Query.Out) ((laws_markCondS_m ((gt d7 k5).Query.Conds) (IntKind.i64.wrap ((IntKind.i64.wrap (s6 + 1)) + 1))).1)).2 :: (iOwn (tSl tyCond 183) [.slice A18 ((gt d7 k5).Query.Conds).length c19] ((laws_markCondS_m ((gt d7 k5).Query.Conds) (IntKind.i64.wrap ((IntKind.i64.wrap (s6 + 1)) + 1))).2) :: iFoc tyFinished 136 (some ⟨g13, 0, none⟩) x0.length c2 d7 k5 [.int .i64 s6, .int .i64 (IntKind.i64.wrap (s6 + 1)), .slice A18 ((gt d7 k5).Query.Conds).length c19, .slice A22 ((gt d7 k5).Query.Out).length c23, .int .i64 ((gt d7 k5).Time), .int .i64 ((gt d7 k5).Steps), .slice A26 ((gt d7 k5).Rows).length c27] :: iOwn (tSl tyRow 29) [.slice A26 ((gt d7 k5).Rows).length c27] ((gt d7 k5).Rows) :: is))) (cl_fn cb68 rfl) (fun W hm => (laws_markIntS_c B w0 (iOwn (tSl tyCond 183) [.slice A18 ((gt d7 k5).Query.Conds).length c19] ((laws_markCondS_m ((gt d7 k5).Query.Conds) (IntKind.i64.wrap ((IntKind.i64.wrap (s6 + 1)) + 1))).2) :: iFoc tyFinished 136 (some ⟨g13, 0, none⟩) x0.length c2 d7 k5 [.int .i64 s6, .int .i64 (IntKind.i64.wrap (s6 + 1)), .slice A18 ((gt d7 k5).Query.Conds).length c19, .slice A22 ((gt d7 k5).Query.Out).length c23, .int .i64 ((gt d7 k5).Time), .int .i64 ((gt d7 k5).Steps), .slice A26 ((gt d7 k5).Rows).length c27] :: iOwn (tSl tyRow 29) [.slice A26 ((gt d7 k5).Rows).length c27] ((gt d7 k5).Rows) :: is) W (.slice A22 ((gt d7 k5).Query.Out).length c23) ((gt d7 k5).Query.Out) ((laws_markCondS_m ((gt d7 k5).Query.Conds) (IntKind.i64.wrap ((IntKind.i64.wrap (s6 + 1)) + 1))).1) (hm.front (n := 2) rfl)).mono (fun _ _ h => ⟨(), h.1, h.2⟩)) (Wd_none rfl) (by decide) (fun _ => ?_)
    refine wa ?_
    refine nt' ?_
    refine sr ?_
    refine wm ?_
    refine wm ?_
    refine wm ?_
    refine wv (fun W hm => rv_index (sz := 7) (k := k5) Try.underlying74 Try.type136 rfl rfl rfl (by omega)) ?_
    refine wv (fun W hm => rv_field Try.underlying136 rfl Try.type3 (by decide) rfl rfl) ?_
    refine WM_storeFoc (E := tyFinished) (e := 136) (g := g13) (n := x0.length) (c := c2) (k := k5) (s := 7) (o := 4) (xs := d7) (ck := [.int .i64 s6, .int .i64 (IntKind.i64.wrap (s6 + 1)), .slice A18 ((gt d7 k5).Query.Conds).length c19, .slice A22 ((gt d7 k5).Query.Out).length c23, .int .i64 ((gt d7 k5).Time), .int .i64 ((gt d7 k5).Steps), .slice A26 ((gt d7 k5).Rows).length c27]) (ck' := [.int .i64 s6, .int .i64 (IntKind.i64.wrap (s6 + 1)), .slice A18 ((gt d7 k5).Query.Conds).length c19, .slice A22 ((gt d7 k5).Query.Out).length c23, .int .i64 ((laws_markIntS_m ((gt d7 k5).Query.Out) ((laws_markCondS_m ((gt d7 k5).Query.Conds) (IntKind.i64.wrap ((IntKind.i64.wrap (s6 + 1)) + 1))).1)).1), .int .i64 ((gt d7 k5).Steps), .slice A26 ((gt d7 k5).Rows).length c27]) (js := (iOwn (tSl tInt 3) [.slice A22 ((gt d7 k5).Query.Out).length c23] ((laws_markIntS_m ((gt d7 k5).Query.Out) ((laws_markCondS_m ((gt d7 k5).Query.Conds) (IntKind.i64.wrap ((IntKind.i64.wrap (s6 + 1)) + 1))).1)).2) :: iOwn (tSl tyCond 183) [.slice A18 ((gt d7 k5).Query.Conds).length c19] ((laws_markCondS_m ((gt d7 k5).Query.Conds) (IntKind.i64.wrap ((IntKind.i64.wrap (s6 + 1)) + 1))).2) :: iOwn (tSl tyRow 29) [.slice A26 ((gt d7 k5).Rows).length c27] ((gt d7 k5).Rows) :: is)) (fun W hm => (hm.front (n := 2) rfl)) rfl rfl Try.type3 rfl (Nat.le_of_ble_eq_true rfl) rfl rfl rfl rfl (Wd_none rfl) ?_
    refine nt' ?_
    refine sr ?_
    refine wm ?_
    refine wv (fun W hm => rv_add rfl rfl) ?_
    refine wa ?_
    refine nt' ?_
    refine sr ?_
    refine wm ?_
    refine wm ?_
    refine wm ?_
    refine wv (fun W hm => rv_index (sz := 7) (k := k5) Try.underlying74 Try.type136 rfl rfl rfl (by omega)) ?_
    refine wv (fun W hm => rv_field Try.underlying136 rfl Try.type3 (by decide) rfl rfl) ?_
    refine WM_storeFoc (E := tyFinished) (e := 136) (g := g13) (n := x0.length) (c := c2) (k := k5) (s := 7) (o := 5) (xs := d7) (ck := [.int .i64 s6, .int .i64 (IntKind.i64.wrap (s6 + 1)), .slice A18 ((gt d7 k5).Query.Conds).length c19, .slice A22 ((gt d7 k5).Query.Out).length c23, .int .i64 ((laws_markIntS_m ((gt d7 k5).Query.Out) ((laws_markCondS_m ((gt d7 k5).Query.Conds) (IntKind.i64.wrap ((IntKind.i64.wrap (s6 + 1)) + 1))).1)).1), .int .i64 ((gt d7 k5).Steps), .slice A26 ((gt d7 k5).Rows).length c27]) (ck' := [.int .i64 s6, .int .i64 (IntKind.i64.wrap (s6 + 1)), .slice A18 ((gt d7 k5).Query.Conds).length c19, .slice A22 ((gt d7 k5).Query.Out).length c23, .int .i64 ((laws_markIntS_m ((gt d7 k5).Query.Out) ((laws_markCondS_m ((gt d7 k5).Query.Conds) (IntKind.i64.wrap ((IntKind.i64.wrap (s6 + 1)) + 1))).1)).1), .int .i64 (IntKind.i64.wrap (((laws_markIntS_m ((gt d7 k5).Query.Out) ((laws_markCondS_m ((gt d7 k5).Query.Conds) (IntKind.i64.wrap ((IntKind.i64.wrap (s6 + 1)) + 1))).1)).1) + 1)), .slice A26 ((gt d7 k5).Rows).length c27]) (js := (iOwn (tSl tInt 3) [.slice A22 ((gt d7 k5).Query.Out).length c23] ((laws_markIntS_m ((gt d7 k5).Query.Out) ((laws_markCondS_m ((gt d7 k5).Query.Conds) (IntKind.i64.wrap ((IntKind.i64.wrap (s6 + 1)) + 1))).1)).2) :: iOwn (tSl tyCond 183) [.slice A18 ((gt d7 k5).Query.Conds).length c19] ((laws_markCondS_m ((gt d7 k5).Query.Conds) (IntKind.i64.wrap ((IntKind.i64.wrap (s6 + 1)) + 1))).2) :: iOwn (tSl tyRow 29) [.slice A26 ((gt d7 k5).Rows).length c27] ((gt d7 k5).Rows) :: is)) (fun W hm => (hm.front (n := 0) rfl)) rfl rfl Try.type3 rfl (Nat.le_of_ble_eq_true rfl) rfl rfl rfl rfl (Wd_none rfl) ?_
    refine nt' ?_
    refine sr ?_
    refine wm ?_
    refine wv (fun W hm => rv_add rfl rfl) ?_
    refine wa ?_
    refine nt' ?_
    refine CM_region ?_
    refine wm ?_
    refine wm ?_
    refine wv (fun W hm => rv_index (sz := 7) (k := k5) Try.underlying74 Try.type136 rfl rfl rfl (by omega)) ?_
    refine wv (fun W hm => rv_field Try.underlying136 rfl Try.type39 (by decide) rfl rfl) ?_
    refine wv (fun W hm => rv_load Try.underlying39 rfl rfl (hm.focCells (i := 0) rfl rfl 6 _ rfl)) ?_
    refine wm ?_
    refine WM_callW (χ := Unit) (val := fun _ => .int .i64 (laws_markRowS_m ((gt d7 k5).Rows) (IntKind.i64.wrap ((IntKind.i64.wrap (((laws_markIntS_m ((gt d7 k5).Query.Out) ((laws_markCondS_m ((gt d7 k5).Query.Conds) (IntKind.i64.wrap ((IntKind.i64.wrap (s6 + 1)) + 1))).1)).1) + 1)) + 1))).1) (js := fun _ => (iOwn (tSl tyRow 29) [.slice A26 ((gt d7 k5).Rows).length c27] (laws_markRowS_m ((gt d7 k5).Rows) (IntKind.i64.wrap ((IntKind.i64.wrap (((laws_markIntS_m ((gt d7 k5).Query.Out) ((laws_markCondS_m ((gt d7 k5).Query.Conds) (IntKind.i64.wrap ((IntKind.i64.wrap (s6 + 1)) + 1))).1)).1) + 1)) + 1))).2 :: (iFoc tyFinished 136 (some ⟨g13, 0, none⟩) x0.length c2 d7 k5 [.int .i64 s6, .int .i64 (IntKind.i64.wrap (s6 + 1)), .slice A18 ((gt d7 k5).Query.Conds).length c19, .slice A22 ((gt d7 k5).Query.Out).length c23, .int .i64 ((laws_markIntS_m ((gt d7 k5).Query.Out) ((laws_markCondS_m ((gt d7 k5).Query.Conds) (IntKind.i64.wrap ((IntKind.i64.wrap (s6 + 1)) + 1))).1)).1), .int .i64 (IntKind.i64.wrap (((laws_markIntS_m ((gt d7 k5).Query.Out) ((laws_markCondS_m ((gt d7 k5).Query.Conds) (IntKind.i64.wrap ((IntKind.i64.wrap (s6 + 1)) + 1))).1)).1) + 1)), .slice A26 ((gt d7 k5).Rows).length c27] :: iOwn (tSl tInt 3) [.slice A22 ((gt d7 k5).Query.Out).length c23] ((laws_markIntS_m ((gt d7 k5).Query.Out) ((laws_markCondS_m ((gt d7 k5).Query.Conds) (IntKind.i64.wrap ((IntKind.i64.wrap (s6 + 1)) + 1))).1)).2) :: iOwn (tSl tyCond 183) [.slice A18 ((gt d7 k5).Query.Conds).length c19] ((laws_markCondS_m ((gt d7 k5).Query.Conds) (IntKind.i64.wrap ((IntKind.i64.wrap (s6 + 1)) + 1))).2) :: is))) (cl_fn cb183 rfl) (fun W hm => (laws_markRowS_c B w0 (iFoc tyFinished 136 (some ⟨g13, 0, none⟩) x0.length c2 d7 k5 [.int .i64 s6, .int .i64 (IntKind.i64.wrap (s6 + 1)), .slice A18 ((gt d7 k5).Query.Conds).length c19, .slice A22 ((gt d7 k5).Query.Out).length c23, .int .i64 ((laws_markIntS_m ((gt d7 k5).Query.Out) ((laws_markCondS_m ((gt d7 k5).Query.Conds) (IntKind.i64.wrap ((IntKind.i64.wrap (s6 + 1)) + 1))).1)).1), .int .i64 (IntKind.i64.wrap (((laws_markIntS_m ((gt d7 k5).Query.Out) ((laws_markCondS_m ((gt d7 k5).Query.Conds) (IntKind.i64.wrap ((IntKind.i64.wrap (s6 + 1)) + 1))).1)).1) + 1)), .slice A26 ((gt d7 k5).Rows).length c27] :: iOwn (tSl tInt 3) [.slice A22 ((gt d7 k5).Query.Out).length c23] ((laws_markIntS_m ((gt d7 k5).Query.Out) ((laws_markCondS_m ((gt d7 k5).Query.Conds) (IntKind.i64.wrap ((IntKind.i64.wrap (s6 + 1)) + 1))).1)).2) :: iOwn (tSl tyCond 183) [.slice A18 ((gt d7 k5).Query.Conds).length c19] ((laws_markCondS_m ((gt d7 k5).Query.Conds) (IntKind.i64.wrap ((IntKind.i64.wrap (s6 + 1)) + 1))).2) :: is) W (.slice A26 ((gt d7 k5).Rows).length c27) ((gt d7 k5).Rows) (IntKind.i64.wrap ((IntKind.i64.wrap (((laws_markIntS_m ((gt d7 k5).Query.Out) ((laws_markCondS_m ((gt d7 k5).Query.Conds) (IntKind.i64.wrap ((IntKind.i64.wrap (s6 + 1)) + 1))).1)).1) + 1)) + 1)) (hm.front (n := 3) rfl)).mono (fun _ _ h => ⟨(), h.1, h.2⟩)) (Wd_none rfl) (by decide) (fun _ => ?_)
    refine wa ?_
    refine WM_nil ?_
    refine QM_block_normal ?_
    refine QM_then ?_
    refine CM_region ?_
    refine wm ?_
    refine wv (fun W hm => rv_addN (p := k5) (q := 1) rfl rfl (by omega)) ?_
    refine wa ?_
    refine WM_nil ?_
    refine QM_items (fun W hm => Mem.unfocus (Mem.join (is := [iOwn (tSl tyCond 183) [.slice A18 ((gt d7 k5).Query.Conds).length c19] ((laws_markCondS_m ((gt d7 k5).Query.Conds) (IntKind.i64.wrap ((IntKind.i64.wrap (s6 + 1)) + 1))).2), iOwn (tSl tInt 3) [.slice A22 ((gt d7 k5).Query.Out).length c23] ((laws_markIntS_m ((gt d7 k5).Query.Out) ((laws_markCondS_m ((gt d7 k5).Query.Conds) (IntKind.i64.wrap ((IntKind.i64.wrap (s6 + 1)) + 1))).1)).2), iOwn (tSl tyRow 29) [.slice A26 ((gt d7 k5).Rows).length c27] ((laws_markRowS_m ((gt d7 k5).Rows) (IntKind.i64.wrap ((IntKind.i64.wrap (((laws_markIntS_m ((gt d7 k5).Query.Out) ((laws_markCondS_m ((gt d7 k5).Query.Conds) (IntKind.i64.wrap ((IntKind.i64.wrap (s6 + 1)) + 1))).1)).1) + 1)) + 1))).2)]) (js := (iFoc tyFinished 136 (some ⟨g13, 0, none⟩) x0.length c2 d7 k5 [.int .i64 s6, .int .i64 (IntKind.i64.wrap (s6 + 1)), .slice A18 ((gt d7 k5).Query.Conds).length c19, .slice A22 ((gt d7 k5).Query.Out).length c23, .int .i64 ((laws_markIntS_m ((gt d7 k5).Query.Out) ((laws_markCondS_m ((gt d7 k5).Query.Conds) (IntKind.i64.wrap ((IntKind.i64.wrap (s6 + 1)) + 1))).1)).1), .int .i64 (IntKind.i64.wrap (((laws_markIntS_m ((gt d7 k5).Query.Out) ((laws_markCondS_m ((gt d7 k5).Query.Conds) (IntKind.i64.wrap ((IntKind.i64.wrap (s6 + 1)) + 1))).1)).1) + 1)), .slice A26 ((gt d7 k5).Rows).length c27] :: (is))) (fun _ _ hs => tyFinished_join (x := (⟨(⟨s6, (IntKind.i64.wrap (s6 + 1)), (laws_markCondS_m ((gt d7 k5).Query.Conds) (IntKind.i64.wrap ((IntKind.i64.wrap (s6 + 1)) + 1))).2, (laws_markIntS_m ((gt d7 k5).Query.Out) ((laws_markCondS_m ((gt d7 k5).Query.Conds) (IntKind.i64.wrap ((IntKind.i64.wrap (s6 + 1)) + 1))).1)).2⟩ : DQuery), (laws_markIntS_m ((gt d7 k5).Query.Out) ((laws_markCondS_m ((gt d7 k5).Query.Conds) (IntKind.i64.wrap ((IntKind.i64.wrap (s6 + 1)) + 1))).1)).1, (IntKind.i64.wrap (((laws_markIntS_m ((gt d7 k5).Query.Out) ((laws_markCondS_m ((gt d7 k5).Query.Conds) (IntKind.i64.wrap ((IntKind.i64.wrap (s6 + 1)) + 1))).1)).1) + 1)), (laws_markRowS_m ((gt d7 k5).Rows) (IntKind.i64.wrap ((IntKind.i64.wrap (((laws_markIntS_m ((gt d7 k5).Query.Out) ((laws_markCondS_m ((gt d7 k5).Query.Conds) (IntKind.i64.wrap ((IntKind.i64.wrap (s6 + 1)) + 1))).1)).1) + 1)) + 1))).2⟩ : DFinished)) hs) ((((hm.front (n := 1) rfl).front (n := 1) rfl).front (n := 2) rfl).front (n := 3) rfl))) ?_
    have hn30 := rng_next (R := (Int × (List DFinished))) (body := (fun k (s : Int × (List DFinished)) => laws_markFinishedS_b1 k s.1 s.2)) (k := k5) (s := (s6, d7)) (s' := ((laws_markRowS_m ((gt d7 k5).Rows) (IntKind.i64.wrap ((IntKind.i64.wrap (((laws_markIntS_m ((gt d7 k5).Query.Out) ((laws_markCondS_m ((gt d7 k5).Query.Conds) (IntKind.i64.wrap ((IntKind.i64.wrap (s6 + 1)) + 1))).1)).1) + 1)) + 1))).1, (d7.set k5 (⟨(⟨s6, (IntKind.i64.wrap (s6 + 1)), (laws_markCondS_m ((gt d7 k5).Query.Conds) (IntKind.i64.wrap ((IntKind.i64.wrap (s6 + 1)) + 1))).2, (laws_markIntS_m ((gt d7 k5).Query.Out) ((laws_markCondS_m ((gt d7 k5).Query.Conds) (IntKind.i64.wrap ((IntKind.i64.wrap (s6 + 1)) + 1))).1)).2⟩ : DQuery), (laws_markIntS_m ((gt d7 k5).Query.Out) ((laws_markCondS_m ((gt d7 k5).Query.Conds) (IntKind.i64.wrap ((IntKind.i64.wrap (s6 + 1)) + 1))).1)).1, (IntKind.i64.wrap (((laws_markIntS_m ((gt d7 k5).Query.Out) ((laws_markCondS_m ((gt d7 k5).Query.Conds) (IntKind.i64.wrap ((IntKind.i64.wrap (s6 + 1)) + 1))).1)).1) + 1)), (laws_markRowS_m ((gt d7 k5).Rows) (IntKind.i64.wrap ((IntKind.i64.wrap (((laws_markIntS_m ((gt d7 k5).Query.Out) ((laws_markCondS_m ((gt d7 k5).Query.Conds) (IntKind.i64.wrap ((IntKind.i64.wrap (s6 + 1)) + 1))).1)).1) + 1)) + 1))).2⟩ : DFinished)))) (show k5 < x0.length from by omega) (show laws_markFinishedS_b1 k5 s6 d7 = Sum.inr ((laws_markRowS_m ((gt d7 k5).Rows) (IntKind.i64.wrap ((IntKind.i64.wrap (((laws_markIntS_m ((gt d7 k5).Query.Out) ((laws_markCondS_m ((gt d7 k5).Query.Conds) (IntKind.i64.wrap ((IntKind.i64.wrap (s6 + 1)) + 1))).1)).1) + 1)) + 1))).1, (d7.set k5 (⟨(⟨s6, (IntKind.i64.wrap (s6 + 1)), (laws_markCondS_m ((gt d7 k5).Query.Conds) (IntKind.i64.wrap ((IntKind.i64.wrap (s6 + 1)) + 1))).2, (laws_markIntS_m ((gt d7 k5).Query.Out) ((laws_markCondS_m ((gt d7 k5).Query.Conds) (IntKind.i64.wrap ((IntKind.i64.wrap (s6 + 1)) + 1))).1)).2⟩ : DQuery), (laws_markIntS_m ((gt d7 k5).Query.Out) ((laws_markCondS_m ((gt d7 k5).Query.Conds) (IntKind.i64.wrap ((IntKind.i64.wrap (s6 + 1)) + 1))).1)).1, (IntKind.i64.wrap (((laws_markIntS_m ((gt d7 k5).Query.Out) ((laws_markCondS_m ((gt d7 k5).Query.Conds) (IntKind.i64.wrap ((IntKind.i64.wrap (s6 + 1)) + 1))).1)).1) + 1)), (laws_markRowS_m ((gt d7 k5).Rows) (IntKind.i64.wrap ((IntKind.i64.wrap (((laws_markIntS_m ((gt d7 k5).Query.Out) ((laws_markCondS_m ((gt d7 k5).Query.Conds) (IntKind.i64.wrap ((IntKind.i64.wrap (s6 + 1)) + 1))).1)).1) + 1)) + 1))).2⟩ : DFinished))) from by unfold laws_markFinishedS_b1; exact rfl) hF9
    exact QM_round (k5 + 1, ((laws_markRowS_m ((gt d7 k5).Rows) (IntKind.i64.wrap ((IntKind.i64.wrap (((laws_markIntS_m ((gt d7 k5).Query.Out) ((laws_markCondS_m ((gt d7 k5).Query.Conds) (IntKind.i64.wrap ((IntKind.i64.wrap (s6 + 1)) + 1))).1)).1) + 1)) + 1))).1, (d7.set k5 (⟨(⟨s6, (IntKind.i64.wrap (s6 + 1)), (laws_markCondS_m ((gt d7 k5).Query.Conds) (IntKind.i64.wrap ((IntKind.i64.wrap (s6 + 1)) + 1))).2, (laws_markIntS_m ((gt d7 k5).Query.Out) ((laws_markCondS_m ((gt d7 k5).Query.Conds) (IntKind.i64.wrap ((IntKind.i64.wrap (s6 + 1)) + 1))).1)).2⟩ : DQuery), (laws_markIntS_m ((gt d7 k5).Query.Out) ((laws_markCondS_m ((gt d7 k5).Query.Conds) (IntKind.i64.wrap ((IntKind.i64.wrap (s6 + 1)) + 1))).1)).1, (IntKind.i64.wrap (((laws_markIntS_m ((gt d7 k5).Query.Out) ((laws_markCondS_m ((gt d7 k5).Query.Conds) (IntKind.i64.wrap ((IntKind.i64.wrap (s6 + 1)) + 1))).1)).1) + 1)), (laws_markRowS_m ((gt d7 k5).Rows) (IntKind.i64.wrap ((IntKind.i64.wrap (((laws_markIntS_m ((gt d7 k5).Query.Out) ((laws_markCondS_m ((gt d7 k5).Query.Conds) (IntKind.i64.wrap ((IntKind.i64.wrap (s6 + 1)) + 1))).1)).1) + 1)) + 1))).2⟩ : DFinished))), ()) (subL_cons rfl (subL_cons rfl (subL_cons rfl subL_nil))) (fun W hm => hm) ⟨(by omega), hn30⟩ (show x0.length - (k5 + 1) < x0.length - k5 from by omega)
  · have g12 : (decide (((k5 : Nat) : Int) < ((x0.length : Nat) : Int))) = false := decide_eq_false (by omega)
    refine CM_condF rfl g12 ?_
    refine CM_exit ?_
    refine QM_then_exit ?_
    refine QM_then_exit ?_
    have hE31 : rng (R := (Int × (List DFinished))) (fun k (s : Int × (List DFinished)) => laws_markFinishedS_b1 k s.1 s.2) (x0.length - 0) 0 (x1, x0) = Sum.inr (s6, d7) := rng_end hl11 hF9
    refine QM_block_hit ?_
    refine QM_then ?_
    refine sr ?_
    refine wm ?_
    refine wa ?_
    refine nt' ?_
    refine CM_ret ?_
    refine QM_rW rfl rfl (fun W hm => ⟨?_, ?_⟩)
    · rw [(show laws_markFinishedS_m x0 x1 = (s6, d7) from by unfold laws_markFinishedS_m; exact fin_inr hE31 (rfl))]
    · rw [(show laws_markFinishedS_m x0 x1 = (s6, d7) from by unfold laws_markFinishedS_m; exact fin_inr hE31 (rfl))]; exact hm

def laws_markChargeS_b1 (k5 : Nat) (s6 : Int) (d7 : (List DCharge)) : (Int × (List DCharge)) ⊕ (Int × (List DCharge)) :=
  Sum.inr ((laws_markIntS_m ((gt d7 k5).Rows) ((laws_markIntS_m ((gt d7 k5).Tenants) ((laws_markIntS_m ((gt d7 k5).Ids) (IntKind.i64.wrap ((IntKind.i64.wrap (s6 + 1)) + 1))).1)).1)).1, (d7.set k5 (⟨s6, (IntKind.i64.wrap (s6 + 1)), (laws_markIntS_m ((gt d7 k5).Ids) (IntKind.i64.wrap ((IntKind.i64.wrap (s6 + 1)) + 1))).2, (laws_markIntS_m ((gt d7 k5).Tenants) ((laws_markIntS_m ((gt d7 k5).Ids) (IntKind.i64.wrap ((IntKind.i64.wrap (s6 + 1)) + 1))).1)).2, (laws_markIntS_m ((gt d7 k5).Rows) ((laws_markIntS_m ((gt d7 k5).Tenants) ((laws_markIntS_m ((gt d7 k5).Ids) (IntKind.i64.wrap ((IntKind.i64.wrap (s6 + 1)) + 1))).1)).1)).2⟩ : DCharge)))
def laws_markChargeS_m (x0 : (List DCharge)) (x1 : Int) : (Int × (List DCharge)) :=
  Sum.elim id (fun (s : Int × (List DCharge)) => (s.1, s.2)) (rng (R := (Int × (List DCharge))) (fun k (s : Int × (List DCharge)) => laws_markChargeS_b1 k s.1 s.2) (x0.length - 0) 0 (x1, x0))
theorem cb132 : Cb Try.prog 132 := ⟨Try.f132, _, Try.func132, rfl, by decide⟩
set_option maxRecDepth 10000 in
set_option maxHeartbeats 4000000 in
theorem laws_markChargeS_c (B : Nat) (w0 : World) (is : List It) (w : World) (z0 : Value) (x0 : (List DCharge)) (x1 : Int) (hm : Mem B w0 (iOwn (tSl tyCharge 140) [z0] x0 :: is) w) :
    Calls Try.prog 132 #[z0, .int .i64 x1] w fun e w' => e = .returned (.int .i64 (laws_markChargeS_m x0 x1).1) ∧ Mem B w0 (iOwn (tSl tyCharge 140) [z0] (laws_markChargeS_m x0 x1).2 :: is) w' := by
  refine call_enterW (L := [(0, z0), (1, .int .i64 x1)]) (N := 48) Try.func132 rfl rfl (Nat.le_of_ble_eq_true rfl) (argsL_cons rfl (argsL_cons rfl argsL_nil)) hm ?_
  refine CM_form (n := 0) rfl ?_
  rintro A1 c2 rfl m3
  refine sr ?_
  refine wa ?_
  refine nt' ?_
  refine CM_seq ?_
  refine sr ?_
  refine wa ?_
  refine nt' ?_
  refine CM_block ?_
  refine CM_loop (σ := Nat × (Int × (List DCharge)) × (Unit)) (fun s => [(0, .slice A1 x0.length c2), (1, .int .i64 s.2.1.1), (5, .int .i64 ((s.1 : Nat) : Int))]) (fun s => (iOwn (tSl tyCharge 140) [.slice A1 x0.length c2] s.2.1.2 :: is)) (fun s => s.1 ≤ x0.length ∧ rng (R := (Int × (List DCharge))) (fun k (s : Int × (List DCharge)) => laws_markChargeS_b1 k s.1 s.2) (x0.length - s.1) s.1 s.2.1 = rng (R := (Int × (List DCharge))) (fun k (s : Int × (List DCharge)) => laws_markChargeS_b1 k s.1 s.2) (x0.length - 0) 0 (x1, x0)) (fun s => x0.length - s.1) (0, (x1, x0), ()) (subL_cons rfl (subL_cons rfl (subL_cons rfl subL_nil))) (fun W hm => hm) ⟨(by omega), rfl⟩ ?_
  rintro ⟨k5, ⟨s6, d7⟩, ⟨⟩⟩ H10
  obtain ⟨hk8, hF9⟩ : k5 ≤ x0.length ∧ rng (R := (Int × (List DCharge))) (fun k (s : Int × (List DCharge)) => laws_markChargeS_b1 k s.1 s.2) (x0.length - k5) k5 (s6, d7) = rng (R := (Int × (List DCharge))) (fun k (s : Int × (List DCharge)) => laws_markChargeS_b1 k s.1 s.2) (x0.length - 0) 0 (x1, x0) := H10
  show CM Try.prog 48 _ _ _ _ [(0, .slice A1 x0.length c2), (1, .int .i64 s6), (5, .int .i64 ((k5 : Nat) : Int))] (iOwn (tSl tyCharge 140) [.slice A1 x0.length c2] d7 :: is)
  refine CM_seq ?_
  refine sr ?_
  refine wm ?_
  refine wm ?_
  refine wv (fun W hm => rv_len Try.underlying75 rfl) ?_
  refine wv (fun W hm => rv_lss rfl rfl) ?_
  refine nt' ?_
  by_cases hl11 : k5 < x0.length
  · have g12 : (decide (((k5 : Nat) : Int) < ((x0.length : Nat) : Int))) = true := decide_eq_true (by omega)
    refine CM_condT rfl g12 ?_
    refine CM_skip ?_
    refine QM_then ?_
    refine CM_seq ?_
    refine CM_block ?_
    refine sr ?_
    refine wm ?_
    refine wm ?_
    refine wm ?_
    refine WM_formO (n := 0) rfl (by omega) ?_
    rintro g13 rfl
    refine wv (fun W hm => rv_index (sz := 5) (k := k5) Try.underlying75 Try.type140 rfl rfl rfl (by omega)) ?_
    refine wv (fun W hm => rv_field Try.underlying140 rfl Try.type3 (by decide) rfl rfl) ?_
    refine WM_focus (E := tyCharge) (e := 140) (A := (some ⟨g13, 0, none⟩)) (n := x0.length) (c := c2) (xs := d7) (k := k5) (js := (is)) (by omega) (fun W hm => (hm.front (n := 0) rfl)) (fun ck14 => ?_)
    refine WM_split (γ := Value × Value × Value) (js := fun g => [iOwn (tSl tInt 3) [g.1] ((gt d7 k5).Ids), iOwn (tSl tInt 3) [g.2.1] ((gt d7 k5).Tenants), iOwn (tSl tInt 3) [g.2.2] ((gt d7 k5).Rows)]) (C := fun g => ck14 = [.int .i64 ((gt d7 k5).Segment), .int .i64 ((gt d7 k5).Base), g.1, g.2.1, g.2.2]) (fun _ _ h => tyCharge_split h) ?_
    rintro ⟨v15, v16, v17⟩ rfl
    refine WM_form (n := 0) rfl ?_
    rintro A18 c19 rfl m20
    refine WM_form (n := 1) rfl ?_
    rintro A22 c23 rfl m24
    refine WM_form (n := 2) rfl ?_
    rintro A26 c27 rfl m28
    refine WM_storeFoc (E := tyCharge) (e := 140) (g := g13) (n := x0.length) (c := c2) (k := k5) (s := 5) (o := 0) (xs := d7) (ck := [.int .i64 ((gt d7 k5).Segment), .int .i64 ((gt d7 k5).Base), .slice A18 ((gt d7 k5).Ids).length c19, .slice A22 ((gt d7 k5).Tenants).length c23, .slice A26 ((gt d7 k5).Rows).length c27]) (ck' := [.int .i64 s6, .int .i64 ((gt d7 k5).Base), .slice A18 ((gt d7 k5).Ids).length c19, .slice A22 ((gt d7 k5).Tenants).length c23, .slice A26 ((gt d7 k5).Rows).length c27]) (js := (iOwn (tSl tInt 3) [.slice A18 ((gt d7 k5).Ids).length c19] ((gt d7 k5).Ids) :: iOwn (tSl tInt 3) [.slice A22 ((gt d7 k5).Tenants).length c23] ((gt d7 k5).Tenants) :: iOwn (tSl tInt 3) [.slice A26 ((gt d7 k5).Rows).length c27] ((gt d7 k5).Rows) :: is)) (fun W hm => (hm.front (n := 3) rfl)) rfl rfl Try.type3 rfl (Nat.le_of_ble_eq_true rfl) rfl rfl rfl rfl (Wd_none rfl) ?_
    refine nt' ?_
    refine sr ?_
    refine wm ?_
    refine wv (fun W hm => rv_add rfl rfl) ?_
    refine wa ?_
    refine nt' ?_
    refine sr ?_
    refine wm ?_
    refine wm ?_
    refine wm ?_
    refine wv (fun W hm => rv_index (sz := 5) (k := k5) Try.underlying75 Try.type140 rfl rfl rfl (by omega)) ?_
    refine wv (fun W hm => rv_field Try.underlying140 rfl Try.type3 (by decide) rfl rfl) ?_
    refine WM_storeFoc (E := tyCharge) (e := 140) (g := g13) (n := x0.length) (c := c2) (k := k5) (s := 5) (o := 1) (xs := d7) (ck := [.int .i64 s6, .int .i64 ((gt d7 k5).Base), .slice A18 ((gt d7 k5).Ids).length c19, .slice A22 ((gt d7 k5).Tenants).length c23, .slice A26 ((gt d7 k5).Rows).length c27]) (ck' := [.int .i64 s6, .int .i64 (IntKind.i64.wrap (s6 + 1)), .slice A18 ((gt d7 k5).Ids).length c19, .slice A22 ((gt d7 k5).Tenants).length c23, .slice A26 ((gt d7 k5).Rows).length c27]) (js := (iOwn (tSl tInt 3) [.slice A18 ((gt d7 k5).Ids).length c19] ((gt d7 k5).Ids) :: iOwn (tSl tInt 3) [.slice A22 ((gt d7 k5).Tenants).length c23] ((gt d7 k5).Tenants) :: iOwn (tSl tInt 3) [.slice A26 ((gt d7 k5).Rows).length c27] ((gt d7 k5).Rows) :: is)) (fun W hm => (hm.front (n := 0) rfl)) rfl rfl Try.type3 rfl (Nat.le_of_ble_eq_true rfl) rfl rfl rfl rfl (Wd_none rfl) ?_
    refine nt' ?_
    refine sr ?_
    refine wm ?_
    refine wv (fun W hm => rv_add rfl rfl) ?_
    refine wa ?_
    refine nt' ?_
    refine sr ?_
    refine wm ?_
    refine wm ?_
    refine wv (fun W hm => rv_index (sz := 5) (k := k5) Try.underlying75 Try.type140 rfl rfl rfl (by omega)) ?_
    refine wv (fun W hm => rv_field Try.underlying140 rfl Try.type27 (by decide) rfl rfl) ?_
    refine wv (fun W hm => rv_load Try.underlying27 rfl rfl (hm.focCells (i := 0) rfl rfl 2 _ rfl)) ?_
    refine wm ?_
    refine WM_callW (χ := Unit) (val := fun _ => .int .i64 (laws_markIntS_m ((gt d7 k5).Ids) (IntKind.i64.wrap ((IntKind.i64.wrap (s6 + 1)) + 1))).1) (js := fun _ => (iOwn (tSl tInt 3) [.slice A18 ((gt d7 k5).Ids).length c19] (laws_markIntS_m ((gt d7 k5).Ids) (IntKind.i64.wrap ((IntKind.i64.wrap (s6 + 1)) + 1))).2 :: (iFoc tyCharge 140 (some ⟨g13, 0, none⟩) x0.length c2 d7 k5 [.int .i64 s6, .int .i64 (IntKind.i64.wrap (s6 + 1)), .slice A18 ((gt d7 k5).Ids).length c19, .slice A22 ((gt d7 k5).Tenants).length c23, .slice A26 ((gt d7 k5).Rows).length c27] :: iOwn (tSl tInt 3) [.slice A22 ((gt d7 k5).Tenants).length c23] ((gt d7 k5).Tenants) :: iOwn (tSl tInt 3) [.slice A26 ((gt d7 k5).Rows).length c27] ((gt d7 k5).Rows) :: is))) (cl_fn cb68 rfl) (fun W hm => (laws_markIntS_c B w0 (iFoc tyCharge 140 (some ⟨g13, 0, none⟩) x0.length c2 d7 k5 [.int .i64 s6, .int .i64 (IntKind.i64.wrap (s6 + 1)), .slice A18 ((gt d7 k5).Ids).length c19, .slice A22 ((gt d7 k5).Tenants).length c23, .slice A26 ((gt d7 k5).Rows).length c27] :: iOwn (tSl tInt 3) [.slice A22 ((gt d7 k5).Tenants).length c23] ((gt d7 k5).Tenants) :: iOwn (tSl tInt 3) [.slice A26 ((gt d7 k5).Rows).length c27] ((gt d7 k5).Rows) :: is) W (.slice A18 ((gt d7 k5).Ids).length c19) ((gt d7 k5).Ids) (IntKind.i64.wrap ((IntKind.i64.wrap (s6 + 1)) + 1)) (hm.front (n := 1) rfl)).mono (fun _ _ h => ⟨(), h.1, h.2⟩)) (Wd_none rfl) (by decide) (fun _ => ?_)
    refine wa ?_
    refine nt' ?_
    refine sr ?_
    refine wm ?_
    refine wm ?_
    refine wv (fun W hm => rv_index (sz := 5) (k := k5) Try.underlying75 Try.type140 rfl rfl rfl (by omega)) ?_
    refine wv (fun W hm => rv_field Try.underlying140 rfl Try.type27 (by decide) rfl rfl) ?_
    refine wv (fun W hm => rv_load Try.underlying27 rfl rfl (hm.focCells (i := 1) rfl rfl 3 _ rfl)) ?_
    refine wm ?_
    refine WM_callW (χ := Unit) (val := fun _ => .int .i64 (laws_markIntS_m ((gt d7 k5).Tenants) ((laws_markIntS_m ((gt d7 k5).Ids) (IntKind.i64.wrap ((IntKind.i64.wrap (s6 + 1)) + 1))).1)).1) (js := fun _ => (iOwn (tSl tInt 3) [.slice A22 ((gt d7 k5).Tenants).length c23] (laws_markIntS_m ((gt d7 k5).Tenants) ((laws_markIntS_m ((gt d7 k5).Ids) (IntKind.i64.wrap ((IntKind.i64.wrap (s6 + 1)) + 1))).1)).2 :: (iOwn (tSl tInt 3) [.slice A18 ((gt d7 k5).Ids).length c19] ((laws_markIntS_m ((gt d7 k5).Ids) (IntKind.i64.wrap ((IntKind.i64.wrap (s6 + 1)) + 1))).2) :: iFoc tyCharge 140 (some ⟨g13, 0, none⟩) x0.length c2 d7 k5 [.int .i64 s6, .int .i64 (IntKind.i64.wrap (s6 + 1)), .slice A18 ((gt d7 k5).Ids).length c19, .slice A22 ((gt d7 k5).Tenants).length c23, .slice A26 ((gt d7 k5).Rows).length c27] :: iOwn (tSl tInt 3) [.slice A26 ((gt d7 k5).Rows).length c27] ((gt d7 k5).Rows) :: is))) (cl_fn cb68 rfl) (fun W hm => (laws_markIntS_c B w0 (iOwn (tSl tInt 3) [.slice A18 ((gt d7 k5).Ids).length c19] ((laws_markIntS_m ((gt d7 k5).Ids) (IntKind.i64.wrap ((IntKind.i64.wrap (s6 + 1)) + 1))).2) :: iFoc tyCharge 140 (some ⟨g13, 0, none⟩) x0.length c2 d7 k5 [.int .i64 s6, .int .i64 (IntKind.i64.wrap (s6 + 1)), .slice A18 ((gt d7 k5).Ids).length c19, .slice A22 ((gt d7 k5).Tenants).length c23, .slice A26 ((gt d7 k5).Rows).length c27] :: iOwn (tSl tInt 3) [.slice A26 ((gt d7 k5).Rows).length c27] ((gt d7 k5).Rows) :: is) W (.slice A22 ((gt d7 k5).Tenants).length c23) ((gt d7 k5).Tenants) ((laws_markIntS_m ((gt d7 k5).Ids) (IntKind.i64.wrap ((IntKind.i64.wrap (s6 + 1)) + 1))).1) (hm.front (n := 2) rfl)).mono (fun _ _ h => ⟨(), h.1, h.2⟩)) (Wd_none rfl) (by decide) (fun _ => ?_)
    refine wa ?_
    refine nt' ?_
    refine CM_region ?_
    refine wm ?_
    refine wm ?_
    refine wv (fun W hm => rv_index (sz := 5) (k := k5) Try.underlying75 Try.type140 rfl rfl rfl (by omega)) ?_
    refine wv (fun W hm => rv_field Try.underlying140 rfl Try.type27 (by decide) rfl rfl) ?_
    refine wv (fun W hm => rv_load Try.underlying27 rfl rfl (hm.focCells (i := 2) rfl rfl 4 _ rfl)) ?_
    refine wm ?_
    refine WM_callW (χ := Unit) (val := fun _ => .int .i64 (laws_markIntS_m ((gt d7 k5).Rows) ((laws_markIntS_m ((gt d7 k5).Tenants) ((laws_markIntS_m ((gt d7 k5).Ids) (IntKind.i64.wrap ((IntKind.i64.wrap (s6 + 1)) + 1))).1)).1)).1) (js := fun _ => (iOwn (tSl tInt 3) [.slice A26 ((gt d7 k5).Rows).length c27] (laws_markIntS_m ((gt d7 k5).Rows) ((laws_markIntS_m ((gt d7 k5).Tenants) ((laws_markIntS_m ((gt d7 k5).Ids) (IntKind.i64.wrap ((IntKind.i64.wrap (s6 + 1)) + 1))).1)).1)).2 :: (iOwn (tSl tInt 3) [.slice A22 ((gt d7 k5).Tenants).length c23] ((laws_markIntS_m ((gt d7 k5).Tenants) ((laws_markIntS_m ((gt d7 k5).Ids) (IntKind.i64.wrap ((IntKind.i64.wrap (s6 + 1)) + 1))).1)).2) :: iOwn (tSl tInt 3) [.slice A18 ((gt d7 k5).Ids).length c19] ((laws_markIntS_m ((gt d7 k5).Ids) (IntKind.i64.wrap ((IntKind.i64.wrap (s6 + 1)) + 1))).2) :: iFoc tyCharge 140 (some ⟨g13, 0, none⟩) x0.length c2 d7 k5 [.int .i64 s6, .int .i64 (IntKind.i64.wrap (s6 + 1)), .slice A18 ((gt d7 k5).Ids).length c19, .slice A22 ((gt d7 k5).Tenants).length c23, .slice A26 ((gt d7 k5).Rows).length c27] :: is))) (cl_fn cb68 rfl) (fun W hm => (laws_markIntS_c B w0 (iOwn (tSl tInt 3) [.slice A22 ((gt d7 k5).Tenants).length c23] ((laws_markIntS_m ((gt d7 k5).Tenants) ((laws_markIntS_m ((gt d7 k5).Ids) (IntKind.i64.wrap ((IntKind.i64.wrap (s6 + 1)) + 1))).1)).2) :: iOwn (tSl tInt 3) [.slice A18 ((gt d7 k5).Ids).length c19] ((laws_markIntS_m ((gt d7 k5).Ids) (IntKind.i64.wrap ((IntKind.i64.wrap (s6 + 1)) + 1))).2) :: iFoc tyCharge 140 (some ⟨g13, 0, none⟩) x0.length c2 d7 k5 [.int .i64 s6, .int .i64 (IntKind.i64.wrap (s6 + 1)), .slice A18 ((gt d7 k5).Ids).length c19, .slice A22 ((gt d7 k5).Tenants).length c23, .slice A26 ((gt d7 k5).Rows).length c27] :: is) W (.slice A26 ((gt d7 k5).Rows).length c27) ((gt d7 k5).Rows) ((laws_markIntS_m ((gt d7 k5).Tenants) ((laws_markIntS_m ((gt d7 k5).Ids) (IntKind.i64.wrap ((IntKind.i64.wrap (s6 + 1)) + 1))).1)).1) (hm.front (n := 3) rfl)).mono (fun _ _ h => ⟨(), h.1, h.2⟩)) (Wd_none rfl) (by decide) (fun _ => ?_)
    refine wa ?_
    refine WM_nil ?_
    refine QM_block_normal ?_
    refine QM_then ?_
    refine CM_region ?_
    refine wm ?_
    refine wv (fun W hm => rv_addN (p := k5) (q := 1) rfl rfl (by omega)) ?_
    refine wa ?_
    refine WM_nil ?_
    refine QM_items (fun W hm => Mem.unfocus (Mem.join (is := [iOwn (tSl tInt 3) [.slice A18 ((gt d7 k5).Ids).length c19] ((laws_markIntS_m ((gt d7 k5).Ids) (IntKind.i64.wrap ((IntKind.i64.wrap (s6 + 1)) + 1))).2), iOwn (tSl tInt 3) [.slice A22 ((gt d7 k5).Tenants).length c23] ((laws_markIntS_m ((gt d7 k5).Tenants) ((laws_markIntS_m ((gt d7 k5).Ids) (IntKind.i64.wrap ((IntKind.i64.wrap (s6 + 1)) + 1))).1)).2), iOwn (tSl tInt 3) [.slice A26 ((gt d7 k5).Rows).length c27] ((laws_markIntS_m ((gt d7 k5).Rows) ((laws_markIntS_m ((gt d7 k5).Tenants) ((laws_markIntS_m ((gt d7 k5).Ids) (IntKind.i64.wrap ((IntKind.i64.wrap (s6 + 1)) + 1))).1)).1)).2)]) (js := (iFoc tyCharge 140 (some ⟨g13, 0, none⟩) x0.length c2 d7 k5 [.int .i64 s6, .int .i64 (IntKind.i64.wrap (s6 + 1)), .slice A18 ((gt d7 k5).Ids).length c19, .slice A22 ((gt d7 k5).Tenants).length c23, .slice A26 ((gt d7 k5).Rows).length c27] :: (is))) (fun _ _ hs => tyCharge_join (x := (⟨s6, (IntKind.i64.wrap (s6 + 1)), (laws_markIntS_m ((gt d7 k5).Ids) (IntKind.i64.wrap ((IntKind.i64.wrap (s6 + 1)) + 1))).2, (laws_markIntS_m ((gt d7 k5).Tenants) ((laws_markIntS_m ((gt d7 k5).Ids) (IntKind.i64.wrap ((IntKind.i64.wrap (s6 + 1)) + 1))).1)).2, (laws_markIntS_m ((gt d7 k5).Rows) ((laws_markIntS_m ((gt d7 k5).Tenants) ((laws_markIntS_m ((gt d7 k5).Ids) (IntKind.i64.wrap ((IntKind.i64.wrap (s6 + 1)) + 1))).1)).1)).2⟩ : DCharge)) hs) ((((hm.front (n := 3) rfl).front (n := 1) rfl).front (n := 2) rfl).front (n := 3) rfl))) ?_
    have hn30 := rng_next (R := (Int × (List DCharge))) (body := (fun k (s : Int × (List DCharge)) => laws_markChargeS_b1 k s.1 s.2)) (k := k5) (s := (s6, d7)) (s' := ((laws_markIntS_m ((gt d7 k5).Rows) ((laws_markIntS_m ((gt d7 k5).Tenants) ((laws_markIntS_m ((gt d7 k5).Ids) (IntKind.i64.wrap ((IntKind.i64.wrap (s6 + 1)) + 1))).1)).1)).1, (d7.set k5 (⟨s6, (IntKind.i64.wrap (s6 + 1)), (laws_markIntS_m ((gt d7 k5).Ids) (IntKind.i64.wrap ((IntKind.i64.wrap (s6 + 1)) + 1))).2, (laws_markIntS_m ((gt d7 k5).Tenants) ((laws_markIntS_m ((gt d7 k5).Ids) (IntKind.i64.wrap ((IntKind.i64.wrap (s6 + 1)) + 1))).1)).2, (laws_markIntS_m ((gt d7 k5).Rows) ((laws_markIntS_m ((gt d7 k5).Tenants) ((laws_markIntS_m ((gt d7 k5).Ids) (IntKind.i64.wrap ((IntKind.i64.wrap (s6 + 1)) + 1))).1)).1)).2⟩ : DCharge)))) (show k5 < x0.length from by omega) (show laws_markChargeS_b1 k5 s6 d7 = Sum.inr ((laws_markIntS_m ((gt d7 k5).Rows) ((laws_markIntS_m ((gt d7 k5).Tenants) ((laws_markIntS_m ((gt d7 k5).Ids) (IntKind.i64.wrap ((IntKind.i64.wrap (s6 + 1)) + 1))).1)).1)).1, (d7.set k5 (⟨s6, (IntKind.i64.wrap (s6 + 1)), (laws_markIntS_m ((gt d7 k5).Ids) (IntKind.i64.wrap ((IntKind.i64.wrap (s6 + 1)) + 1))).2, (laws_markIntS_m ((gt d7 k5).Tenants) ((laws_markIntS_m ((gt d7 k5).Ids) (IntKind.i64.wrap ((IntKind.i64.wrap (s6 + 1)) + 1))).1)).2, (laws_markIntS_m ((gt d7 k5).Rows) ((laws_markIntS_m ((gt d7 k5).Tenants) ((laws_markIntS_m ((gt d7 k5).Ids) (IntKind.i64.wrap ((IntKind.i64.wrap (s6 + 1)) + 1))).1)).1)).2⟩ : DCharge))) from by unfold laws_markChargeS_b1; exact rfl) hF9
    exact QM_round (k5 + 1, ((laws_markIntS_m ((gt d7 k5).Rows) ((laws_markIntS_m ((gt d7 k5).Tenants) ((laws_markIntS_m ((gt d7 k5).Ids) (IntKind.i64.wrap ((IntKind.i64.wrap (s6 + 1)) + 1))).1)).1)).1, (d7.set k5 (⟨s6, (IntKind.i64.wrap (s6 + 1)), (laws_markIntS_m ((gt d7 k5).Ids) (IntKind.i64.wrap ((IntKind.i64.wrap (s6 + 1)) + 1))).2, (laws_markIntS_m ((gt d7 k5).Tenants) ((laws_markIntS_m ((gt d7 k5).Ids) (IntKind.i64.wrap ((IntKind.i64.wrap (s6 + 1)) + 1))).1)).2, (laws_markIntS_m ((gt d7 k5).Rows) ((laws_markIntS_m ((gt d7 k5).Tenants) ((laws_markIntS_m ((gt d7 k5).Ids) (IntKind.i64.wrap ((IntKind.i64.wrap (s6 + 1)) + 1))).1)).1)).2⟩ : DCharge))), ()) (subL_cons rfl (subL_cons rfl (subL_cons rfl subL_nil))) (fun W hm => hm) ⟨(by omega), hn30⟩ (show x0.length - (k5 + 1) < x0.length - k5 from by omega)
  · have g12 : (decide (((k5 : Nat) : Int) < ((x0.length : Nat) : Int))) = false := decide_eq_false (by omega)
    refine CM_condF rfl g12 ?_
    refine CM_exit ?_
    refine QM_then_exit ?_
    refine QM_then_exit ?_
    have hE31 : rng (R := (Int × (List DCharge))) (fun k (s : Int × (List DCharge)) => laws_markChargeS_b1 k s.1 s.2) (x0.length - 0) 0 (x1, x0) = Sum.inr (s6, d7) := rng_end hl11 hF9
    refine QM_block_hit ?_
    refine QM_then ?_
    refine sr ?_
    refine wm ?_
    refine wa ?_
    refine nt' ?_
    refine CM_ret ?_
    refine QM_rW rfl rfl (fun W hm => ⟨?_, ?_⟩)
    · rw [(show laws_markChargeS_m x0 x1 = (s6, d7) from by unfold laws_markChargeS_m; exact fin_inr hE31 (rfl))]
    · rw [(show laws_markChargeS_m x0 x1 = (s6, d7) from by unfold laws_markChargeS_m; exact fin_inr hE31 (rfl))]; exact hm

def laws_markEngine_m (x0 : DEngine) (x1 : Int) : (Int × DEngine) :=
  ((laws_markChargeS_m x0.Ledger ((laws_markFinishedS_m x0.Done ((laws_markActiveS_m x0.Active ((laws_markIntS_m x0.Order ((laws_markStore_m x0.Store x1).1)).1)).1)).1)).1, (⟨(⟨(laws_markStore_m x0.Store x1).2.Segments, x0.Store.Now⟩ : DStore), x0.Cursor, (laws_markIntS_m x0.Order ((laws_markStore_m x0.Store x1).1)).2, (laws_markActiveS_m x0.Active ((laws_markIntS_m x0.Order ((laws_markStore_m x0.Store x1).1)).1)).2, (laws_markFinishedS_m x0.Done ((laws_markActiveS_m x0.Active ((laws_markIntS_m x0.Order ((laws_markStore_m x0.Store x1).1)).1)).1)).2, (laws_markChargeS_m x0.Ledger ((laws_markFinishedS_m x0.Done ((laws_markActiveS_m x0.Active ((laws_markIntS_m x0.Order ((laws_markStore_m x0.Store x1).1)).1)).1)).1)).2, x0.Steps⟩ : DEngine))
theorem cb55 : Cb Try.prog 55 := ⟨Try.f55, _, Try.func55, rfl, by decide⟩
set_option maxRecDepth 10000 in
set_option maxHeartbeats 4000000 in
theorem laws_markEngine_c (B : Nat) (w0 : World) (is : List It) (w : World) (z0 : List Value) (x0 : DEngine) (x1 : Int) (hm : Mem B w0 (iOwn tyEngine z0 x0 :: is) w) :
    Calls Try.prog 55 #[.agg z0.toArray, .int .i64 x1] w fun e w' => e = .returned (.int .i64 (laws_markEngine_m x0 x1).1) ∧ Mem B w0 (iOwn tyEngine z0 (laws_markEngine_m x0 x1).2 :: is) w' := by
  refine call_enterW (L := [(0, .agg z0.toArray), (1, .int .i64 x1)]) (N := 26) Try.func55 rfl rfl (Nat.le_of_ble_eq_true rfl) (argsL_cons rfl (argsL_cons rfl argsL_nil)) hm ?_
  refine CM_split (γ := Value × Value × Value × Value × Value) (js := fun g => [iOwn (tSl (tSl tyVersion 51) 102) [g.1] x0.Store.Segments, iOwn (tSl tInt 3) [g.2.1] x0.Order, iOwn (tSl tyActive 127) [g.2.2.1] x0.Active, iOwn (tSl tyFinished 136) [g.2.2.2.1] x0.Done, iOwn (tSl tyCharge 140) [g.2.2.2.2] x0.Ledger]) (C := fun g => z0 = [g.1, .int .i64 x0.Store.Now, .int .i64 x0.Cursor, g.2.1, g.2.2.1, g.2.2.2.1, g.2.2.2.2, .int .i64 x0.Steps]) (fun _ _ h => tyEngine_split h) ?_
  rintro ⟨v1, v2, v3, v4, v5⟩ rfl
  refine CM_form (n := 0) rfl ?_
  rintro A6 c7 rfl m8
  refine CM_form (n := 1) rfl ?_
  rintro A10 c11 rfl m12
  refine CM_form (n := 2) rfl ?_
  rintro A14 c15 rfl m16
  refine CM_form (n := 3) rfl ?_
  rintro A18 c19 rfl m20
  refine CM_form (n := 4) rfl ?_
  rintro A22 c23 rfl m24
  refine sr ?_
  refine WM_box rfl (Wd_none rfl) (by decide) (fun p26 => ?_)
  refine wa ?_
  refine nt' ?_
  refine sr ?_
  refine wv (fun W hm => rv_field Try.underlying77 rfl Try.type26 (by decide) rfl rfl) ?_
  refine wv (fun W hm => rv_loadN (cs := [.slice A6 x0.Store.Segments.length c7, .int .i64 x0.Store.Now]) Try.underlying26 Try.type26 rfl rfl (hm.boxPart (n := 0) rfl rfl)) ?_
  refine wm ?_
  refine WM_items (js := (iOwn tyStore [.slice A6 x0.Store.Segments.length c7, .int .i64 x0.Store.Now] x0.Store :: (iBox p26 77 [.slice A6 x0.Store.Segments.length c7, .int .i64 x0.Store.Now, .int .i64 x0.Cursor, .slice A10 x0.Order.length c11, .slice A14 x0.Active.length c15, .slice A18 x0.Done.length c19, .slice A22 x0.Ledger.length c23, .int .i64 x0.Steps] :: iOwn (tSl tInt 3) [.slice A10 x0.Order.length c11] x0.Order :: iOwn (tSl tyActive 127) [.slice A14 x0.Active.length c15] x0.Active :: iOwn (tSl tyFinished 136) [.slice A18 x0.Done.length c19] x0.Done :: iOwn (tSl tyCharge 140) [.slice A22 x0.Ledger.length c23] x0.Ledger :: is))) (fun W hm => Mem.join (is := [iOwn (tSl (tSl tyVersion 51) 102) [.slice A6 x0.Store.Segments.length c7] x0.Store.Segments]) (js := (iBox p26 77 [.slice A6 x0.Store.Segments.length c7, .int .i64 x0.Store.Now, .int .i64 x0.Cursor, .slice A10 x0.Order.length c11, .slice A14 x0.Active.length c15, .slice A18 x0.Done.length c19, .slice A22 x0.Ledger.length c23, .int .i64 x0.Steps] :: iOwn (tSl tInt 3) [.slice A10 x0.Order.length c11] x0.Order :: iOwn (tSl tyActive 127) [.slice A14 x0.Active.length c15] x0.Active :: iOwn (tSl tyFinished 136) [.slice A18 x0.Done.length c19] x0.Done :: iOwn (tSl tyCharge 140) [.slice A22 x0.Ledger.length c23] x0.Ledger :: is)) (fun _ _ hs => tyStore_join (x := x0.Store) hs) (hm.front (n := 1) rfl)) ?_
  refine WM_callW (χ := Unit) (val := fun _ => .int .i64 (laws_markStore_m x0.Store x1).1) (js := fun _ => (iOwn tyStore [.slice A6 x0.Store.Segments.length c7, .int .i64 x0.Store.Now] (laws_markStore_m x0.Store x1).2 :: (iBox p26 77 [.slice A6 x0.Store.Segments.length c7, .int .i64 x0.Store.Now, .int .i64 x0.Cursor, .slice A10 x0.Order.length c11, .slice A14 x0.Active.length c15, .slice A18 x0.Done.length c19, .slice A22 x0.Ledger.length c23, .int .i64 x0.Steps] :: iOwn (tSl tInt 3) [.slice A10 x0.Order.length c11] x0.Order :: iOwn (tSl tyActive 127) [.slice A14 x0.Active.length c15] x0.Active :: iOwn (tSl tyFinished 136) [.slice A18 x0.Done.length c19] x0.Done :: iOwn (tSl tyCharge 140) [.slice A22 x0.Ledger.length c23] x0.Ledger :: is))) (cl_fn cb54 rfl) (fun W hm => (laws_markStore_c B w0 (iBox p26 77 [.slice A6 x0.Store.Segments.length c7, .int .i64 x0.Store.Now, .int .i64 x0.Cursor, .slice A10 x0.Order.length c11, .slice A14 x0.Active.length c15, .slice A18 x0.Done.length c19, .slice A22 x0.Ledger.length c23, .int .i64 x0.Steps] :: iOwn (tSl tInt 3) [.slice A10 x0.Order.length c11] x0.Order :: iOwn (tSl tyActive 127) [.slice A14 x0.Active.length c15] x0.Active :: iOwn (tSl tyFinished 136) [.slice A18 x0.Done.length c19] x0.Done :: iOwn (tSl tyCharge 140) [.slice A22 x0.Ledger.length c23] x0.Ledger :: is) W [.slice A6 x0.Store.Segments.length c7, .int .i64 x0.Store.Now] x0.Store x1 hm).mono (fun _ _ h => ⟨(), h.1, h.2⟩)) (Wd_none rfl) (by decide) (fun _ => ?_)
  refine WM_split (γ := Value) (js := fun g => [iOwn (tSl (tSl tyVersion 51) 102) [g] ((laws_markStore_m x0.Store x1).2.Segments)]) (C := fun g => [.slice A6 x0.Store.Segments.length c7, .int .i64 x0.Store.Now] = [g, .int .i64 ((laws_markStore_m x0.Store x1).2.Now)]) (fun _ _ h => tyStore_split h) ?_
  rintro v28 h27
  simp only [List.cons.injEq] at h27
  obtain ⟨rfl, -, -⟩ := h27
  refine wa ?_
  refine nt' ?_
  refine sr ?_
  refine wv (fun W hm => rv_field Try.underlying77 rfl Try.type27 (by decide) rfl rfl) ?_
  refine wv (fun W hm => rv_load Try.underlying27 rfl rfl (hm.boxCell (n := 1) (o := 3) rfl rfl)) ?_
  refine wm ?_
  refine WM_callW (χ := Unit) (val := fun _ => .int .i64 (laws_markIntS_m x0.Order ((laws_markStore_m x0.Store x1).1)).1) (js := fun _ => (iOwn (tSl tInt 3) [.slice A10 x0.Order.length c11] (laws_markIntS_m x0.Order ((laws_markStore_m x0.Store x1).1)).2 :: (iOwn (tSl (tSl tyVersion 51) 102) [.slice A6 x0.Store.Segments.length c7] ((laws_markStore_m x0.Store x1).2.Segments) :: iBox p26 77 [.slice A6 x0.Store.Segments.length c7, .int .i64 x0.Store.Now, .int .i64 x0.Cursor, .slice A10 x0.Order.length c11, .slice A14 x0.Active.length c15, .slice A18 x0.Done.length c19, .slice A22 x0.Ledger.length c23, .int .i64 x0.Steps] :: iOwn (tSl tyActive 127) [.slice A14 x0.Active.length c15] x0.Active :: iOwn (tSl tyFinished 136) [.slice A18 x0.Done.length c19] x0.Done :: iOwn (tSl tyCharge 140) [.slice A22 x0.Ledger.length c23] x0.Ledger :: is))) (cl_fn cb68 rfl) (fun W hm => (laws_markIntS_c B w0 (iOwn (tSl (tSl tyVersion 51) 102) [.slice A6 x0.Store.Segments.length c7] ((laws_markStore_m x0.Store x1).2.Segments) :: iBox p26 77 [.slice A6 x0.Store.Segments.length c7, .int .i64 x0.Store.Now, .int .i64 x0.Cursor, .slice A10 x0.Order.length c11, .slice A14 x0.Active.length c15, .slice A18 x0.Done.length c19, .slice A22 x0.Ledger.length c23, .int .i64 x0.Steps] :: iOwn (tSl tyActive 127) [.slice A14 x0.Active.length c15] x0.Active :: iOwn (tSl tyFinished 136) [.slice A18 x0.Done.length c19] x0.Done :: iOwn (tSl tyCharge 140) [.slice A22 x0.Ledger.length c23] x0.Ledger :: is) W (.slice A10 x0.Order.length c11) x0.Order ((laws_markStore_m x0.Store x1).1) (hm.front (n := 2) rfl)).mono (fun _ _ h => ⟨(), h.1, h.2⟩)) (Wd_none rfl) (by decide) (fun _ => ?_)
  refine wa ?_
  refine nt' ?_
  refine sr ?_
  refine wv (fun W hm => rv_field Try.underlying77 rfl Try.type73 (by decide) rfl rfl) ?_
  refine wv (fun W hm => rv_load Try.underlying73 rfl rfl (hm.boxCell (n := 2) (o := 4) rfl rfl)) ?_
  refine wm ?_
  refine WM_callW (χ := Unit) (val := fun _ => .int .i64 (laws_markActiveS_m x0.Active ((laws_markIntS_m x0.Order ((laws_markStore_m x0.Store x1).1)).1)).1) (js := fun _ => (iOwn (tSl tyActive 127) [.slice A14 x0.Active.length c15] (laws_markActiveS_m x0.Active ((laws_markIntS_m x0.Order ((laws_markStore_m x0.Store x1).1)).1)).2 :: (iOwn (tSl tInt 3) [.slice A10 x0.Order.length c11] ((laws_markIntS_m x0.Order ((laws_markStore_m x0.Store x1).1)).2) :: iOwn (tSl (tSl tyVersion 51) 102) [.slice A6 x0.Store.Segments.length c7] ((laws_markStore_m x0.Store x1).2.Segments) :: iBox p26 77 [.slice A6 x0.Store.Segments.length c7, .int .i64 x0.Store.Now, .int .i64 x0.Cursor, .slice A10 x0.Order.length c11, .slice A14 x0.Active.length c15, .slice A18 x0.Done.length c19, .slice A22 x0.Ledger.length c23, .int .i64 x0.Steps] :: iOwn (tSl tyFinished 136) [.slice A18 x0.Done.length c19] x0.Done :: iOwn (tSl tyCharge 140) [.slice A22 x0.Ledger.length c23] x0.Ledger :: is))) (cl_fn cb130 rfl) (fun W hm => (laws_markActiveS_c B w0 (iOwn (tSl tInt 3) [.slice A10 x0.Order.length c11] ((laws_markIntS_m x0.Order ((laws_markStore_m x0.Store x1).1)).2) :: iOwn (tSl (tSl tyVersion 51) 102) [.slice A6 x0.Store.Segments.length c7] ((laws_markStore_m x0.Store x1).2.Segments) :: iBox p26 77 [.slice A6 x0.Store.Segments.length c7, .int .i64 x0.Store.Now, .int .i64 x0.Cursor, .slice A10 x0.Order.length c11, .slice A14 x0.Active.length c15, .slice A18 x0.Done.length c19, .slice A22 x0.Ledger.length c23, .int .i64 x0.Steps] :: iOwn (tSl tyFinished 136) [.slice A18 x0.Done.length c19] x0.Done :: iOwn (tSl tyCharge 140) [.slice A22 x0.Ledger.length c23] x0.Ledger :: is) W (.slice A14 x0.Active.length c15) x0.Active ((laws_markIntS_m x0.Order ((laws_markStore_m x0.Store x1).1)).1) (hm.front (n := 3) rfl)).mono (fun _ _ h => ⟨(), h.1, h.2⟩)) (Wd_none rfl) (by decide) (fun _ => ?_)
  refine wa ?_
  refine nt' ?_
  refine sr ?_
  refine wv (fun W hm => rv_field Try.underlying77 rfl Try.type74 (by decide) rfl rfl) ?_
  refine wv (fun W hm => rv_load Try.underlying74 rfl rfl (hm.boxCell (n := 3) (o := 5) rfl rfl)) ?_
  refine wm ?_
  refine WM_callW (χ := Unit) (val := fun _ => .int .i64 (laws_markFinishedS_m x0.Done ((laws_markActiveS_m x0.Active ((laws_markIntS_m x0.Order ((laws_markStore_m x0.Store x1).1)).1)).1)).1) (js := fun _ => (iOwn (tSl tyFinished 136) [.slice A18 x0.Done.length c19] (laws_markFinishedS_m x0.Done ((laws_markActiveS_m x0.Active ((laws_markIntS_m x0.Order ((laws_markStore_m x0.Store x1).1)).1)).1)).2 :: (iOwn (tSl tyActive 127) [.slice A14 x0.Active.length c15] ((laws_markActiveS_m x0.Active ((laws_markIntS_m x0.Order ((laws_markStore_m x0.Store x1).1)).1)).2) :: iOwn (tSl tInt 3) [.slice A10 x0.Order.length c11] ((laws_markIntS_m x0.Order ((laws_markStore_m x0.Store x1).1)).2) :: iOwn (tSl (tSl tyVersion 51) 102) [.slice A6 x0.Store.Segments.length c7] ((laws_markStore_m x0.Store x1).2.Segments) :: iBox p26 77 [.slice A6 x0.Store.Segments.length c7, .int .i64 x0.Store.Now, .int .i64 x0.Cursor, .slice A10 x0.Order.length c11, .slice A14 x0.Active.length c15, .slice A18 x0.Done.length c19, .slice A22 x0.Ledger.length c23, .int .i64 x0.Steps] :: iOwn (tSl tyCharge 140) [.slice A22 x0.Ledger.length c23] x0.Ledger :: is))) (cl_fn cb131 rfl) (fun W hm => (laws_markFinishedS_c B w0 (iOwn (tSl tyActive 127) [.slice A14 x0.Active.length c15] ((laws_markActiveS_m x0.Active ((laws_markIntS_m x0.Order ((laws_markStore_m x0.Store x1).1)).1)).2) :: iOwn (tSl tInt 3) [.slice A10 x0.Order.length c11] ((laws_markIntS_m x0.Order ((laws_markStore_m x0.Store x1).1)).2) :: iOwn (tSl (tSl tyVersion 51) 102) [.slice A6 x0.Store.Segments.length c7] ((laws_markStore_m x0.Store x1).2.Segments) :: iBox p26 77 [.slice A6 x0.Store.Segments.length c7, .int .i64 x0.Store.Now, .int .i64 x0.Cursor, .slice A10 x0.Order.length c11, .slice A14 x0.Active.length c15, .slice A18 x0.Done.length c19, .slice A22 x0.Ledger.length c23, .int .i64 x0.Steps] :: iOwn (tSl tyCharge 140) [.slice A22 x0.Ledger.length c23] x0.Ledger :: is) W (.slice A18 x0.Done.length c19) x0.Done ((laws_markActiveS_m x0.Active ((laws_markIntS_m x0.Order ((laws_markStore_m x0.Store x1).1)).1)).1) (hm.front (n := 4) rfl)).mono (fun _ _ h => ⟨(), h.1, h.2⟩)) (Wd_none rfl) (by decide) (fun _ => ?_)
  refine wa ?_
  refine nt' ?_
  refine sr ?_
  refine wv (fun W hm => rv_field Try.underlying77 rfl Try.type75 (by decide) rfl rfl) ?_
  refine wv (fun W hm => rv_load Try.underlying75 rfl rfl (hm.boxCell (n := 4) (o := 6) rfl rfl)) ?_
  refine wm ?_
  refine WM_callW (χ := Unit) (val := fun _ => .int .i64 (laws_markChargeS_m x0.Ledger ((laws_markFinishedS_m x0.Done ((laws_markActiveS_m x0.Active ((laws_markIntS_m x0.Order ((laws_markStore_m x0.Store x1).1)).1)).1)).1)).1) (js := fun _ => (iOwn (tSl tyCharge 140) [.slice A22 x0.Ledger.length c23] (laws_markChargeS_m x0.Ledger ((laws_markFinishedS_m x0.Done ((laws_markActiveS_m x0.Active ((laws_markIntS_m x0.Order ((laws_markStore_m x0.Store x1).1)).1)).1)).1)).2 :: (iOwn (tSl tyFinished 136) [.slice A18 x0.Done.length c19] ((laws_markFinishedS_m x0.Done ((laws_markActiveS_m x0.Active ((laws_markIntS_m x0.Order ((laws_markStore_m x0.Store x1).1)).1)).1)).2) :: iOwn (tSl tyActive 127) [.slice A14 x0.Active.length c15] ((laws_markActiveS_m x0.Active ((laws_markIntS_m x0.Order ((laws_markStore_m x0.Store x1).1)).1)).2) :: iOwn (tSl tInt 3) [.slice A10 x0.Order.length c11] ((laws_markIntS_m x0.Order ((laws_markStore_m x0.Store x1).1)).2) :: iOwn (tSl (tSl tyVersion 51) 102) [.slice A6 x0.Store.Segments.length c7] ((laws_markStore_m x0.Store x1).2.Segments) :: iBox p26 77 [.slice A6 x0.Store.Segments.length c7, .int .i64 x0.Store.Now, .int .i64 x0.Cursor, .slice A10 x0.Order.length c11, .slice A14 x0.Active.length c15, .slice A18 x0.Done.length c19, .slice A22 x0.Ledger.length c23, .int .i64 x0.Steps] :: is))) (cl_fn cb132 rfl) (fun W hm => (laws_markChargeS_c B w0 (iOwn (tSl tyFinished 136) [.slice A18 x0.Done.length c19] ((laws_markFinishedS_m x0.Done ((laws_markActiveS_m x0.Active ((laws_markIntS_m x0.Order ((laws_markStore_m x0.Store x1).1)).1)).1)).2) :: iOwn (tSl tyActive 127) [.slice A14 x0.Active.length c15] ((laws_markActiveS_m x0.Active ((laws_markIntS_m x0.Order ((laws_markStore_m x0.Store x1).1)).1)).2) :: iOwn (tSl tInt 3) [.slice A10 x0.Order.length c11] ((laws_markIntS_m x0.Order ((laws_markStore_m x0.Store x1).1)).2) :: iOwn (tSl (tSl tyVersion 51) 102) [.slice A6 x0.Store.Segments.length c7] ((laws_markStore_m x0.Store x1).2.Segments) :: iBox p26 77 [.slice A6 x0.Store.Segments.length c7, .int .i64 x0.Store.Now, .int .i64 x0.Cursor, .slice A10 x0.Order.length c11, .slice A14 x0.Active.length c15, .slice A18 x0.Done.length c19, .slice A22 x0.Ledger.length c23, .int .i64 x0.Steps] :: is) W (.slice A22 x0.Ledger.length c23) x0.Ledger ((laws_markFinishedS_m x0.Done ((laws_markActiveS_m x0.Active ((laws_markIntS_m x0.Order ((laws_markStore_m x0.Store x1).1)).1)).1)).1) (hm.front (n := 5) rfl)).mono (fun _ _ h => ⟨(), h.1, h.2⟩)) (Wd_none rfl) (by decide) (fun _ => ?_)
  refine wa ?_
  refine nt' ?_
  refine sr ?_
  refine wm ?_
  refine wa ?_
  refine nt' ?_
  refine CM_ret ?_
  refine QM_rW rfl rfl (fun W hm => ⟨?_, ?_⟩)
  · rw [(show laws_markEngine_m x0 x1 = ((laws_markChargeS_m x0.Ledger ((laws_markFinishedS_m x0.Done ((laws_markActiveS_m x0.Active ((laws_markIntS_m x0.Order ((laws_markStore_m x0.Store x1).1)).1)).1)).1)).1, (⟨(⟨(laws_markStore_m x0.Store x1).2.Segments, x0.Store.Now⟩ : DStore), x0.Cursor, (laws_markIntS_m x0.Order ((laws_markStore_m x0.Store x1).1)).2, (laws_markActiveS_m x0.Active ((laws_markIntS_m x0.Order ((laws_markStore_m x0.Store x1).1)).1)).2, (laws_markFinishedS_m x0.Done ((laws_markActiveS_m x0.Active ((laws_markIntS_m x0.Order ((laws_markStore_m x0.Store x1).1)).1)).1)).2, (laws_markChargeS_m x0.Ledger ((laws_markFinishedS_m x0.Done ((laws_markActiveS_m x0.Active ((laws_markIntS_m x0.Order ((laws_markStore_m x0.Store x1).1)).1)).1)).1)).2, x0.Steps⟩ : DEngine)) from by unfold laws_markEngine_m; exact rfl)]
  · rw [(show laws_markEngine_m x0 x1 = ((laws_markChargeS_m x0.Ledger ((laws_markFinishedS_m x0.Done ((laws_markActiveS_m x0.Active ((laws_markIntS_m x0.Order ((laws_markStore_m x0.Store x1).1)).1)).1)).1)).1, (⟨(⟨(laws_markStore_m x0.Store x1).2.Segments, x0.Store.Now⟩ : DStore), x0.Cursor, (laws_markIntS_m x0.Order ((laws_markStore_m x0.Store x1).1)).2, (laws_markActiveS_m x0.Active ((laws_markIntS_m x0.Order ((laws_markStore_m x0.Store x1).1)).1)).2, (laws_markFinishedS_m x0.Done ((laws_markActiveS_m x0.Active ((laws_markIntS_m x0.Order ((laws_markStore_m x0.Store x1).1)).1)).1)).2, (laws_markChargeS_m x0.Ledger ((laws_markFinishedS_m x0.Done ((laws_markActiveS_m x0.Active ((laws_markIntS_m x0.Order ((laws_markStore_m x0.Store x1).1)).1)).1)).1)).2, x0.Steps⟩ : DEngine)) from by unfold laws_markEngine_m; exact rfl)]; exact Mem.join (is := [iOwn (tSl (tSl tyVersion 51) 102) [.slice A6 x0.Store.Segments.length c7] ((laws_markStore_m x0.Store x1).2.Segments), iOwn (tSl tInt 3) [.slice A10 x0.Order.length c11] ((laws_markIntS_m x0.Order ((laws_markStore_m x0.Store x1).1)).2), iOwn (tSl tyActive 127) [.slice A14 x0.Active.length c15] ((laws_markActiveS_m x0.Active ((laws_markIntS_m x0.Order ((laws_markStore_m x0.Store x1).1)).1)).2), iOwn (tSl tyFinished 136) [.slice A18 x0.Done.length c19] ((laws_markFinishedS_m x0.Done ((laws_markActiveS_m x0.Active ((laws_markIntS_m x0.Order ((laws_markStore_m x0.Store x1).1)).1)).1)).2), iOwn (tSl tyCharge 140) [.slice A22 x0.Ledger.length c23] ((laws_markChargeS_m x0.Ledger ((laws_markFinishedS_m x0.Done ((laws_markActiveS_m x0.Active ((laws_markIntS_m x0.Order ((laws_markStore_m x0.Store x1).1)).1)).1)).1)).2)]) (js := is) (fun _ _ hs => tyEngine_join (x := (⟨(⟨(laws_markStore_m x0.Store x1).2.Segments, x0.Store.Now⟩ : DStore), x0.Cursor, (laws_markIntS_m x0.Order ((laws_markStore_m x0.Store x1).1)).2, (laws_markActiveS_m x0.Active ((laws_markIntS_m x0.Order ((laws_markStore_m x0.Store x1).1)).1)).2, (laws_markFinishedS_m x0.Done ((laws_markActiveS_m x0.Active ((laws_markIntS_m x0.Order ((laws_markStore_m x0.Store x1).1)).1)).1)).2, (laws_markChargeS_m x0.Ledger ((laws_markFinishedS_m x0.Done ((laws_markActiveS_m x0.Active ((laws_markIntS_m x0.Order ((laws_markStore_m x0.Store x1).1)).1)).1)).1)).2, x0.Steps⟩ : DEngine)) hs) ((((((hm.front (n := 0) rfl).front (n := 1) rfl).front (n := 2) rfl).front (n := 3) rfl).front (n := 4) rfl).front (n := 5) rfl).tail

def laws_heldIntS_b1 (x0 : (List Int)) (k6 : Nat) (s7 : Int) : Int ⊕ (Int) :=
  cond ((gt x0 k6) != s7) (Sum.inl (-1)) (Sum.inr (IntKind.i64.wrap (s7 + 1)))
def laws_heldIntS_m (x0 : (List Int)) (x1 : Int) : Int :=
  Sum.elim id (fun (s : Int) => s) (rng (R := Int) (fun k (s : Int) => laws_heldIntS_b1 x0 k s) (x0.length - 0) 0 x1)
theorem cb69 : Cb Try.prog 69 := ⟨Try.f69, _, Try.func69, rfl, by decide⟩
set_option maxRecDepth 10000 in
set_option maxHeartbeats 4000000 in
theorem laws_heldIntS_c (w : World) (z0 : Value) (x0 : (List Int)) (x1 : Int) (r_0 : rdS tInt w w.heap.size z0 x0) :
    Calls Try.prog 69 #[z0, .int .i64 x1] w fun e w' => e = .returned (.int .i64 (laws_heldIntS_m x0 x1)) ∧ Below w.heap.size w w' := by
  have r5 := r_0
  obtain ⟨m1, A2, c3, rfl, q4⟩ := r_0
  refine call_enterM (L := [(0, .slice A2 x0.length c3), (1, .int .i64 x1)]) (N := 21) Try.func69 rfl rfl (Nat.le_of_ble_eq_true rfl) (argsL_cons rfl (argsL_cons rfl argsL_nil)) ?_
  refine sr ?_
  refine wa ?_
  refine nt' ?_
  refine CM_seq ?_
  refine sr ?_
  refine wa ?_
  refine nt' ?_
  refine CM_block ?_
  refine CM_loop (σ := Nat × (Int) × (Unit)) (fun s => [(0, .slice A2 x0.length c3), (1, .int .i64 s.2.1), (5, .int .i64 ((s.1 : Nat) : Int))]) (fun s => []) (fun s => s.1 ≤ x0.length ∧ rng (R := Int) (fun k (s : Int) => laws_heldIntS_b1 x0 k s) (x0.length - s.1) s.1 s.2.1 = rng (R := Int) (fun k (s : Int) => laws_heldIntS_b1 x0 k s) (x0.length - 0) 0 x1) (fun s => x0.length - s.1) (0, x1, ()) (subL_cons rfl (subL_cons rfl (subL_cons rfl subL_nil))) (fun W hm => hm) ⟨(by omega), rfl⟩ ?_
  rintro ⟨k6, s7, ⟨⟩⟩ H10
  obtain ⟨hk8, hF9⟩ : k6 ≤ x0.length ∧ rng (R := Int) (fun k (s : Int) => laws_heldIntS_b1 x0 k s) (x0.length - k6) k6 s7 = rng (R := Int) (fun k (s : Int) => laws_heldIntS_b1 x0 k s) (x0.length - 0) 0 x1 := H10
  show CM Try.prog 21 _ _ _ _ [(0, .slice A2 x0.length c3), (1, .int .i64 s7), (5, .int .i64 ((k6 : Nat) : Int))] []
  refine CM_seq ?_
  refine sr ?_
  refine wm ?_
  refine wm ?_
  refine wv (fun W hm => rv_len Try.underlying27 rfl) ?_
  refine wv (fun W hm => rv_lss rfl rfl) ?_
  refine nt' ?_
  by_cases hl11 : k6 < x0.length
  · have g12 : (decide (((k6 : Nat) : Int) < ((x0.length : Nat) : Int))) = true := decide_eq_true (by omega)
    refine CM_condT rfl g12 ?_
    refine CM_skip ?_
    refine QM_then ?_
    refine CM_seq ?_
    refine CM_block ?_
    refine CM_seq ?_
    refine sr ?_
    refine wm ?_
    refine wm ?_
    obtain ⟨a13, rfl, hb14, he15⟩ := q4 (by omega)
    refine wv (fun W hm => rv_index (sz := 1) (k := k6) Try.underlying27 Try.type3 rfl rfl rfl (by omega)) ?_
    refine wv (fun W hm => rv_load Try.underlying3 rfl rfl ((hm.cell0 (show (a13.add (k6 * 1)).block < w.heap.size from by rw [add_block]; exact hb14.1)).trans (rdS_int he15 k6 (by omega)))) ?_
    refine wm ?_
    refine wv (fun W hm => rv_neq rfl rfl) ?_
    refine nt' ?_
    by_cases h16 : (gt x0 k6) = s7
    · have g17 : ((gt x0 k6) != s7) = false := by rw [h16]; exact bne_self_eq_false _
      refine CM_condF rfl g17 ?_
      refine CM_skip ?_
      refine QM_then ?_
      refine CM_region ?_
      refine wm ?_
      refine wv (fun W hm => rv_add rfl rfl) ?_
      refine wa ?_
      refine WM_nil ?_
      refine QM_block_normal ?_
      refine QM_then ?_
      refine CM_region ?_
      refine wm ?_
      refine wv (fun W hm => rv_addN (p := k6) (q := 1) rfl rfl (by omega)) ?_
      refine wa ?_
      refine WM_nil ?_
      have hn18 := rng_next (R := Int) (body := (fun k (s : Int) => laws_heldIntS_b1 x0 k s)) (k := k6) (s := s7) (s' := (IntKind.i64.wrap (s7 + 1))) (show k6 < x0.length from by omega) (show laws_heldIntS_b1 x0 k6 s7 = Sum.inr (IntKind.i64.wrap (s7 + 1)) from by unfold laws_heldIntS_b1; exact cond_f g17 (rfl)) hF9
      exact QM_round (k6 + 1, (IntKind.i64.wrap (s7 + 1)), ()) (subL_cons rfl (subL_cons rfl (subL_cons rfl subL_nil))) (fun W hm => hm) ⟨(by omega), hn18⟩ (show x0.length - (k6 + 1) < x0.length - k6 from by omega)
    · have g17 : ((gt x0 k6) != s7) = true := bne_iff_ne.2 h16
      refine CM_condT rfl g17 ?_
      refine sr ?_
      refine wa ?_
      refine nt' ?_
      refine CM_ret ?_
      refine QM_then_ret ?_
      refine QM_block_ret ?_
      refine QM_then_ret ?_
      refine QM_then_ret ?_
      refine QM_block_ret ?_
      refine QM_then_ret ?_
      exact QM_ret1 rfl rfl (fun W hm => ⟨ret_i (show laws_heldIntS_m x0 x1 = (-1) from by unfold laws_heldIntS_m; exact fin_inl (rng_ret (body := (fun k (s : Int) => laws_heldIntS_b1 x0 k s)) (k := k6) (s := s7) (show k6 < x0.length from by omega) (show laws_heldIntS_b1 x0 k6 s7 = Sum.inl (-1) from by unfold laws_heldIntS_b1; exact cond_t g17 (rfl)) hF9) rfl), hm.below⟩)
  · have g12 : (decide (((k6 : Nat) : Int) < ((x0.length : Nat) : Int))) = false := decide_eq_false (by omega)
    refine CM_condF rfl g12 ?_
    refine CM_exit ?_
    refine QM_then_exit ?_
    refine QM_then_exit ?_
    have hE19 : rng (R := Int) (fun k (s : Int) => laws_heldIntS_b1 x0 k s) (x0.length - 0) 0 x1 = Sum.inr s7 := rng_end hl11 hF9
    refine QM_block_hit ?_
    refine QM_then ?_
    refine sr ?_
    refine wm ?_
    refine wa ?_
    refine nt' ?_
    refine CM_ret ?_
    exact QM_ret1 rfl rfl (fun W hm => ⟨ret_i (show laws_heldIntS_m x0 x1 = s7 from by unfold laws_heldIntS_m; exact fin_inr hE19 (rfl)), hm.below⟩)

def laws_heldVersionS_b1 (x0 : (List DVersion)) (k6 : Nat) (s7 : Int) : Int ⊕ (Int) :=
  cond (((gt x0 k6).Id) != s7) (Sum.inl (-1)) (cond (decide ((laws_heldIntS_m ((gt x0 k6).Values) (IntKind.i64.wrap (s7 + 1))) < 0)) (Sum.inl (-1)) (cond (((gt x0 k6).Born) != (laws_heldIntS_m ((gt x0 k6).Values) (IntKind.i64.wrap (s7 + 1)))) (Sum.inl (-1)) (cond (((gt x0 k6).Died) != (IntKind.i64.wrap ((laws_heldIntS_m ((gt x0 k6).Values) (IntKind.i64.wrap (s7 + 1))) + 1))) (Sum.inl (-1)) (Sum.inr (IntKind.i64.wrap ((IntKind.i64.wrap ((laws_heldIntS_m ((gt x0 k6).Values) (IntKind.i64.wrap (s7 + 1))) + 1)) + 1))))))
def laws_heldVersionS_m (x0 : (List DVersion)) (x1 : Int) : Int :=
  Sum.elim id (fun (s : Int) => s) (rng (R := Int) (fun k (s : Int) => laws_heldVersionS_b1 x0 k s) (x0.length - 0) 0 x1)
theorem cb208 : Cb Try.prog 208 := ⟨Try.f208, _, Try.func208, rfl, by decide⟩
set_option maxRecDepth 10000 in
set_option maxHeartbeats 4000000 in
theorem laws_heldVersionS_c (w : World) (z0 : Value) (x0 : (List DVersion)) (x1 : Int) (r_0 : rdS tyVersion w w.heap.size z0 x0) :
    Calls Try.prog 208 #[z0, .int .i64 x1] w fun e w' => e = .returned (.int .i64 (laws_heldVersionS_m x0 x1)) ∧ Below w.heap.size w w' := by
  have r5 := r_0
  obtain ⟨m1, A2, c3, rfl, q4⟩ := r_0
  refine call_enterM (L := [(0, .slice A2 x0.length c3), (1, .int .i64 x1)]) (N := 49) Try.func208 rfl rfl (Nat.le_of_ble_eq_true rfl) (argsL_cons rfl (argsL_cons rfl argsL_nil)) ?_
  refine sr ?_
  refine wa ?_
  refine nt' ?_
  refine CM_seq ?_
  refine sr ?_
  refine wa ?_
  refine nt' ?_
  refine CM_block ?_
  refine CM_loop (σ := Nat × (Int) × (Unit)) (fun s => [(0, .slice A2 x0.length c3), (1, .int .i64 s.2.1), (5, .int .i64 ((s.1 : Nat) : Int))]) (fun s => []) (fun s => s.1 ≤ x0.length ∧ rng (R := Int) (fun k (s : Int) => laws_heldVersionS_b1 x0 k s) (x0.length - s.1) s.1 s.2.1 = rng (R := Int) (fun k (s : Int) => laws_heldVersionS_b1 x0 k s) (x0.length - 0) 0 x1) (fun s => x0.length - s.1) (0, x1, ()) (subL_cons rfl (subL_cons rfl (subL_cons rfl subL_nil))) (fun W hm => hm) ⟨(by omega), rfl⟩ ?_
  rintro ⟨k6, s7, ⟨⟩⟩ H10
  obtain ⟨hk8, hF9⟩ : k6 ≤ x0.length ∧ rng (R := Int) (fun k (s : Int) => laws_heldVersionS_b1 x0 k s) (x0.length - k6) k6 s7 = rng (R := Int) (fun k (s : Int) => laws_heldVersionS_b1 x0 k s) (x0.length - 0) 0 x1 := H10
  show CM Try.prog 49 _ _ _ _ [(0, .slice A2 x0.length c3), (1, .int .i64 s7), (5, .int .i64 ((k6 : Nat) : Int))] []
  refine CM_seq ?_
  refine sr ?_
  refine wm ?_
  refine wm ?_
  refine wv (fun W hm => rv_len Try.underlying102 rfl) ?_
  refine wv (fun W hm => rv_lss rfl rfl) ?_
  refine nt' ?_
  by_cases hl11 : k6 < x0.length
  · have g12 : (decide (((k6 : Nat) : Int) < ((x0.length : Nat) : Int))) = true := decide_eq_true (by omega)
    refine CM_condT rfl g12 ?_
    refine CM_skip ?_
    refine QM_then ?_
    refine CM_seq ?_
    refine CM_block ?_
    refine CM_seq ?_
    refine sr ?_
    refine wm ?_
    refine wm ?_
    obtain ⟨a13, rfl, hb14, he15⟩ := q4 (by omega)
    refine wv (fun W hm => rv_index (sz := 4) (k := k6) Try.underlying102 Try.type51 rfl rfl rfl (by omega)) ?_
    refine wv (fun W hm => rv_field Try.underlying51 rfl Try.type3 (by decide) rfl rfl) ?_
    obtain ⟨_, e19, hc16⟩ := he15 k6 _ (gt_some (show k6 < x0.length from by omega))
    obtain ⟨v17, rfl, r18⟩ := tyVersion_rd e19
    have r24 := r18
    obtain ⟨m20, A21, c22, rfl, q23⟩ := r18
    refine wv (fun W hm => rv_load Try.underlying3 rfl rfl ((hm.cell0 (show ((a13.add (k6 * 4)).add 0).block < w.heap.size from by rw [add_block, add_block]; exact hb14.1)).trans (hc16 0 _ rfl))) ?_
    refine wm ?_
    refine wv (fun W hm => rv_neq rfl rfl) ?_
    refine nt' ?_
    by_cases h25 : ((gt x0 k6).Id) = s7
    · have g26 : (((gt x0 k6).Id) != s7) = false := by rw [h25]; exact bne_self_eq_false _
      refine CM_condF rfl g26 ?_
      refine CM_skip ?_
      refine QM_then ?_
      refine sr ?_
      refine wm ?_
      refine wv (fun W hm => rv_add rfl rfl) ?_
      refine wa ?_
      refine nt' ?_
      refine sr ?_
      refine wm ?_
      refine wm ?_
      refine wv (fun W hm => rv_index (sz := 4) (k := k6) Try.underlying102 Try.type51 rfl rfl rfl (by omega)) ?_
      refine wv (fun W hm => rv_field Try.underlying51 rfl Try.type27 (by decide) rfl rfl) ?_
      refine wv (fun W hm => rv_load Try.underlying27 rfl rfl ((hm.cell0 (show ((a13.add (k6 * 4)).add 1).block < w.heap.size from by rw [add_block, add_block]; exact hb14.1)).trans (hc16 1 _ rfl))) ?_
      refine wm ?_
      refine WM_callV (cl_fn cb69 rfl) (fun W hm => laws_heldIntS_c W _ ((gt x0 k6).Values) (IntKind.i64.wrap (s7 + 1)) (hm.rdS0 r24)) (Wd_none rfl) (by decide) ?_
      refine wa ?_
      refine nt' ?_
      refine CM_seq ?_
      refine sr ?_
      refine wm ?_
      refine wv (fun W hm => rv_lss rfl rfl) ?_
      refine nt' ?_
      by_cases h27 : (laws_heldIntS_m ((gt x0 k6).Values) (IntKind.i64.wrap (s7 + 1))) < 0
      · have g28 : (decide ((laws_heldIntS_m ((gt x0 k6).Values) (IntKind.i64.wrap (s7 + 1))) < 0)) = true := decide_eq_true h27
        refine CM_condT rfl g28 ?_
        refine sr ?_
        refine wa ?_
        refine nt' ?_
        refine CM_ret ?_
        refine QM_then_ret ?_
        refine QM_block_ret ?_
        refine QM_then_ret ?_
        refine QM_then_ret ?_
        refine QM_block_ret ?_
        refine QM_then_ret ?_
        exact QM_ret1 rfl rfl (fun W hm => ⟨ret_i (show laws_heldVersionS_m x0 x1 = (-1) from by unfold laws_heldVersionS_m; exact fin_inl (rng_ret (body := (fun k (s : Int) => laws_heldVersionS_b1 x0 k s)) (k := k6) (s := s7) (show k6 < x0.length from by omega) (show laws_heldVersionS_b1 x0 k6 s7 = Sum.inl (-1) from by unfold laws_heldVersionS_b1; exact cond_f g26 (cond_t g28 (rfl))) hF9) rfl), hm.below⟩)
      · have g28 : (decide ((laws_heldIntS_m ((gt x0 k6).Values) (IntKind.i64.wrap (s7 + 1))) < 0)) = false := decide_eq_false h27
        refine CM_condF rfl g28 ?_
        refine CM_skip ?_
        refine QM_then ?_
        refine CM_seq ?_
        refine sr ?_
        refine wm ?_
        refine wm ?_
        refine wv (fun W hm => rv_index (sz := 4) (k := k6) Try.underlying102 Try.type51 rfl rfl rfl (by omega)) ?_
        refine wv (fun W hm => rv_field Try.underlying51 rfl Try.type3 (by decide) rfl rfl) ?_
        refine wv (fun W hm => rv_load Try.underlying3 rfl rfl ((hm.cell0 (show ((a13.add (k6 * 4)).add 2).block < w.heap.size from by rw [add_block, add_block]; exact hb14.1)).trans (hc16 2 _ rfl))) ?_
        refine wm ?_
        refine wv (fun W hm => rv_neq rfl rfl) ?_
        refine nt' ?_
        by_cases h29 : ((gt x0 k6).Born) = (laws_heldIntS_m ((gt x0 k6).Values) (IntKind.i64.wrap (s7 + 1)))
        · have g30 : (((gt x0 k6).Born) != (laws_heldIntS_m ((gt x0 k6).Values) (IntKind.i64.wrap (s7 + 1)))) = false := by rw [h29]; exact bne_self_eq_false _
          refine CM_condF rfl g30 ?_
          refine CM_skip ?_
          refine QM_then ?_
          refine sr ?_
          refine wm ?_
          refine wv (fun W hm => rv_add rfl rfl) ?_
          refine wa ?_
          refine nt' ?_
          refine CM_seq ?_
          refine sr ?_
          refine wm ?_
          refine wm ?_
          refine wv (fun W hm => rv_index (sz := 4) (k := k6) Try.underlying102 Try.type51 rfl rfl rfl (by omega)) ?_
          refine wv (fun W hm => rv_field Try.underlying51 rfl Try.type3 (by decide) rfl rfl) ?_
          refine wv (fun W hm => rv_load Try.underlying3 rfl rfl ((hm.cell0 (show ((a13.add (k6 * 4)).add 3).block < w.heap.size from by rw [add_block, add_block]; exact hb14.1)).trans (hc16 3 _ rfl))) ?_
          refine wm ?_
          refine wv (fun W hm => rv_neq rfl rfl) ?_
          refine nt' ?_
          by_cases h31 : ((gt x0 k6).Died) = (IntKind.i64.wrap ((laws_heldIntS_m ((gt x0 k6).Values) (IntKind.i64.wrap (s7 + 1))) + 1))
          · have g32 : (((gt x0 k6).Died) != (IntKind.i64.wrap ((laws_heldIntS_m ((gt x0 k6).Values) (IntKind.i64.wrap (s7 + 1))) + 1))) = false := by rw [h31]; exact bne_self_eq_false _
            refine CM_condF rfl g32 ?_
            refine CM_skip ?_
            refine QM_then ?_
            refine CM_region ?_
            refine wm ?_
            refine wv (fun W hm => rv_add rfl rfl) ?_
            refine wa ?_
            refine WM_nil ?_
            refine QM_block_normal ?_
            refine QM_then ?_
            refine CM_region ?_
            refine wm ?_
            refine wv (fun W hm => rv_addN (p := k6) (q := 1) rfl rfl (by omega)) ?_
            refine wa ?_
            refine WM_nil ?_
            have hn33 := rng_next (R := Int) (body := (fun k (s : Int) => laws_heldVersionS_b1 x0 k s)) (k := k6) (s := s7) (s' := (IntKind.i64.wrap ((IntKind.i64.wrap ((laws_heldIntS_m ((gt x0 k6).Values) (IntKind.i64.wrap (s7 + 1))) + 1)) + 1))) (show k6 < x0.length from by omega) (show laws_heldVersionS_b1 x0 k6 s7 = Sum.inr (IntKind.i64.wrap ((IntKind.i64.wrap ((laws_heldIntS_m ((gt x0 k6).Values) (IntKind.i64.wrap (s7 + 1))) + 1)) + 1)) from by unfold laws_heldVersionS_b1; exact cond_f g26 (cond_f g28 (cond_f g30 (cond_f g32 (rfl))))) hF9
            exact QM_round (k6 + 1, (IntKind.i64.wrap ((IntKind.i64.wrap ((laws_heldIntS_m ((gt x0 k6).Values) (IntKind.i64.wrap (s7 + 1))) + 1)) + 1)), ()) (subL_cons rfl (subL_cons rfl (subL_cons rfl subL_nil))) (fun W hm => hm) ⟨(by omega), hn33⟩ (show x0.length - (k6 + 1) < x0.length - k6 from by omega)
          · have g32 : (((gt x0 k6).Died) != (IntKind.i64.wrap ((laws_heldIntS_m ((gt x0 k6).Values) (IntKind.i64.wrap (s7 + 1))) + 1))) = true := bne_iff_ne.2 h31
            refine CM_condT rfl g32 ?_
            refine sr ?_
            refine wa ?_
            refine nt' ?_
            refine CM_ret ?_
            refine QM_then_ret ?_
            refine QM_block_ret ?_
            refine QM_then_ret ?_
            refine QM_then_ret ?_
            refine QM_block_ret ?_
            refine QM_then_ret ?_
            exact QM_ret1 rfl rfl (fun W hm => ⟨ret_i (show laws_heldVersionS_m x0 x1 = (-1) from by unfold laws_heldVersionS_m; exact fin_inl (rng_ret (body := (fun k (s : Int) => laws_heldVersionS_b1 x0 k s)) (k := k6) (s := s7) (show k6 < x0.length from by omega) (show laws_heldVersionS_b1 x0 k6 s7 = Sum.inl (-1) from by unfold laws_heldVersionS_b1; exact cond_f g26 (cond_f g28 (cond_f g30 (cond_t g32 (rfl))))) hF9) rfl), hm.below⟩)
        · have g30 : (((gt x0 k6).Born) != (laws_heldIntS_m ((gt x0 k6).Values) (IntKind.i64.wrap (s7 + 1)))) = true := bne_iff_ne.2 h29
          refine CM_condT rfl g30 ?_
          refine sr ?_
          refine wa ?_
          refine nt' ?_
          refine CM_ret ?_
          refine QM_then_ret ?_
          refine QM_block_ret ?_
          refine QM_then_ret ?_
          refine QM_then_ret ?_
          refine QM_block_ret ?_
          refine QM_then_ret ?_
          exact QM_ret1 rfl rfl (fun W hm => ⟨ret_i (show laws_heldVersionS_m x0 x1 = (-1) from by unfold laws_heldVersionS_m; exact fin_inl (rng_ret (body := (fun k (s : Int) => laws_heldVersionS_b1 x0 k s)) (k := k6) (s := s7) (show k6 < x0.length from by omega) (show laws_heldVersionS_b1 x0 k6 s7 = Sum.inl (-1) from by unfold laws_heldVersionS_b1; exact cond_f g26 (cond_f g28 (cond_t g30 (rfl)))) hF9) rfl), hm.below⟩)
    · have g26 : (((gt x0 k6).Id) != s7) = true := bne_iff_ne.2 h25
      refine CM_condT rfl g26 ?_
      refine sr ?_
      refine wa ?_
      refine nt' ?_
      refine CM_ret ?_
      refine QM_then_ret ?_
      refine QM_block_ret ?_
      refine QM_then_ret ?_
      refine QM_then_ret ?_
      refine QM_block_ret ?_
      refine QM_then_ret ?_
      exact QM_ret1 rfl rfl (fun W hm => ⟨ret_i (show laws_heldVersionS_m x0 x1 = (-1) from by unfold laws_heldVersionS_m; exact fin_inl (rng_ret (body := (fun k (s : Int) => laws_heldVersionS_b1 x0 k s)) (k := k6) (s := s7) (show k6 < x0.length from by omega) (show laws_heldVersionS_b1 x0 k6 s7 = Sum.inl (-1) from by unfold laws_heldVersionS_b1; exact cond_t g26 (rfl)) hF9) rfl), hm.below⟩)
  · have g12 : (decide (((k6 : Nat) : Int) < ((x0.length : Nat) : Int))) = false := decide_eq_false (by omega)
    refine CM_condF rfl g12 ?_
    refine CM_exit ?_
    refine QM_then_exit ?_
    refine QM_then_exit ?_
    have hE34 : rng (R := Int) (fun k (s : Int) => laws_heldVersionS_b1 x0 k s) (x0.length - 0) 0 x1 = Sum.inr s7 := rng_end hl11 hF9
    refine QM_block_hit ?_
    refine QM_then ?_
    refine sr ?_
    refine wm ?_
    refine wa ?_
    refine nt' ?_
    refine CM_ret ?_
    exact QM_ret1 rfl rfl (fun W hm => ⟨ret_i (show laws_heldVersionS_m x0 x1 = s7 from by unfold laws_heldVersionS_m; exact fin_inr hE34 (rfl)), hm.below⟩)

def laws_heldVersionSS_b1 (x0 : (List (List DVersion))) (k6 : Nat) (s7 : Int) : Int ⊕ (Int) :=
  cond (decide ((laws_heldVersionS_m (gt x0 k6) s7) < 0)) (Sum.inl (-1)) (Sum.inr (laws_heldVersionS_m (gt x0 k6) s7))
def laws_heldVersionSS_m (x0 : (List (List DVersion))) (x1 : Int) : Int :=
  Sum.elim id (fun (s : Int) => s) (rng (R := Int) (fun k (s : Int) => laws_heldVersionSS_b1 x0 k s) (x0.length - 0) 0 x1)
theorem cb184 : Cb Try.prog 184 := ⟨Try.f184, _, Try.func184, rfl, by decide⟩
set_option maxRecDepth 10000 in
set_option maxHeartbeats 4000000 in
theorem laws_heldVersionSS_c (w : World) (z0 : Value) (x0 : (List (List DVersion))) (x1 : Int) (r_0 : rdS (tSl tyVersion 51) w w.heap.size z0 x0) :
    Calls Try.prog 184 #[z0, .int .i64 x1] w fun e w' => e = .returned (.int .i64 (laws_heldVersionSS_m x0 x1)) ∧ Below w.heap.size w w' := by
  have r5 := r_0
  obtain ⟨m1, A2, c3, rfl, q4⟩ := r_0
  refine call_enterM (L := [(0, .slice A2 x0.length c3), (1, .int .i64 x1)]) (N := 21) Try.func184 rfl rfl (Nat.le_of_ble_eq_true rfl) (argsL_cons rfl (argsL_cons rfl argsL_nil)) ?_
  refine sr ?_
  refine wa ?_
  refine nt' ?_
  refine CM_seq ?_
  refine sr ?_
  refine wa ?_
  refine nt' ?_
  refine CM_block ?_
  refine CM_loop (σ := Nat × (Int) × (Unit)) (fun s => [(0, .slice A2 x0.length c3), (1, .int .i64 s.2.1), (5, .int .i64 ((s.1 : Nat) : Int))]) (fun s => []) (fun s => s.1 ≤ x0.length ∧ rng (R := Int) (fun k (s : Int) => laws_heldVersionSS_b1 x0 k s) (x0.length - s.1) s.1 s.2.1 = rng (R := Int) (fun k (s : Int) => laws_heldVersionSS_b1 x0 k s) (x0.length - 0) 0 x1) (fun s => x0.length - s.1) (0, x1, ()) (subL_cons rfl (subL_cons rfl (subL_cons rfl subL_nil))) (fun W hm => hm) ⟨(by omega), rfl⟩ ?_
  rintro ⟨k6, s7, ⟨⟩⟩ H10
  obtain ⟨hk8, hF9⟩ : k6 ≤ x0.length ∧ rng (R := Int) (fun k (s : Int) => laws_heldVersionSS_b1 x0 k s) (x0.length - k6) k6 s7 = rng (R := Int) (fun k (s : Int) => laws_heldVersionSS_b1 x0 k s) (x0.length - 0) 0 x1 := H10
  show CM Try.prog 21 _ _ _ _ [(0, .slice A2 x0.length c3), (1, .int .i64 s7), (5, .int .i64 ((k6 : Nat) : Int))] []
  refine CM_seq ?_
  refine sr ?_
  refine wm ?_
  refine wm ?_
  refine wv (fun W hm => rv_len Try.underlying24 rfl) ?_
  refine wv (fun W hm => rv_lss rfl rfl) ?_
  refine nt' ?_
  by_cases hl11 : k6 < x0.length
  · have g12 : (decide (((k6 : Nat) : Int) < ((x0.length : Nat) : Int))) = true := decide_eq_true (by omega)
    refine CM_condT rfl g12 ?_
    refine CM_skip ?_
    refine QM_then ?_
    refine CM_seq ?_
    refine CM_block ?_
    refine sr ?_
    refine wm ?_
    refine wm ?_
    obtain ⟨a13, rfl, hb14, he15⟩ := q4 (by omega)
    refine wv (fun W hm => rv_index (sz := 1) (k := k6) Try.underlying24 Try.type102 rfl rfl rfl (by omega)) ?_
    obtain ⟨_, e17, hc16⟩ := he15 k6 _ (gt_some (show k6 < x0.length from by omega))
    obtain ⟨v18, rfl, r19⟩ := e17
    have r24 := r19
    obtain ⟨m20, A21, c22, rfl, q23⟩ := r19
    refine wv (fun W hm => rv_load Try.underlying102 rfl rfl ((hm.cell0 (show (a13.add (k6 * 1)).block < w.heap.size from by rw [add_block]; exact hb14.1)).trans (hc16 0 _ rfl))) ?_
    refine wm ?_
    refine WM_callV (cl_fn cb208 rfl) (fun W hm => laws_heldVersionS_c W _ (gt x0 k6) s7 (hm.rdS0 r24)) (Wd_none rfl) (by decide) ?_
    refine wa ?_
    refine nt' ?_
    refine sr ?_
    refine wm ?_
    refine wv (fun W hm => rv_lss rfl rfl) ?_
    refine nt' ?_
    by_cases h25 : (laws_heldVersionS_m (gt x0 k6) s7) < 0
    · have g26 : (decide ((laws_heldVersionS_m (gt x0 k6) s7) < 0)) = true := decide_eq_true h25
      refine CM_condT rfl g26 ?_
      refine sr ?_
      refine wa ?_
      refine nt' ?_
      refine CM_ret ?_
      refine QM_block_ret ?_
      refine QM_then_ret ?_
      refine QM_then_ret ?_
      refine QM_block_ret ?_
      refine QM_then_ret ?_
      exact QM_ret1 rfl rfl (fun W hm => ⟨ret_i (show laws_heldVersionSS_m x0 x1 = (-1) from by unfold laws_heldVersionSS_m; exact fin_inl (rng_ret (body := (fun k (s : Int) => laws_heldVersionSS_b1 x0 k s)) (k := k6) (s := s7) (show k6 < x0.length from by omega) (show laws_heldVersionSS_b1 x0 k6 s7 = Sum.inl (-1) from by unfold laws_heldVersionSS_b1; exact cond_t g26 (rfl)) hF9) rfl), hm.below⟩)
    · have g26 : (decide ((laws_heldVersionS_m (gt x0 k6) s7) < 0)) = false := decide_eq_false h25
      refine CM_condF rfl g26 ?_
      refine CM_skip ?_
      refine QM_block_normal ?_
      refine QM_then ?_
      refine CM_region ?_
      refine wm ?_
      refine wv (fun W hm => rv_addN (p := k6) (q := 1) rfl rfl (by omega)) ?_
      refine wa ?_
      refine WM_nil ?_
      have hn27 := rng_next (R := Int) (body := (fun k (s : Int) => laws_heldVersionSS_b1 x0 k s)) (k := k6) (s := s7) (s' := (laws_heldVersionS_m (gt x0 k6) s7)) (show k6 < x0.length from by omega) (show laws_heldVersionSS_b1 x0 k6 s7 = Sum.inr (laws_heldVersionS_m (gt x0 k6) s7) from by unfold laws_heldVersionSS_b1; exact cond_f g26 (rfl)) hF9
      exact QM_round (k6 + 1, (laws_heldVersionS_m (gt x0 k6) s7), ()) (subL_cons rfl (subL_cons rfl (subL_cons rfl subL_nil))) (fun W hm => hm) ⟨(by omega), hn27⟩ (show x0.length - (k6 + 1) < x0.length - k6 from by omega)
  · have g12 : (decide (((k6 : Nat) : Int) < ((x0.length : Nat) : Int))) = false := decide_eq_false (by omega)
    refine CM_condF rfl g12 ?_
    refine CM_exit ?_
    refine QM_then_exit ?_
    refine QM_then_exit ?_
    have hE28 : rng (R := Int) (fun k (s : Int) => laws_heldVersionSS_b1 x0 k s) (x0.length - 0) 0 x1 = Sum.inr s7 := rng_end hl11 hF9
    refine QM_block_hit ?_
    refine QM_then ?_
    refine sr ?_
    refine wm ?_
    refine wa ?_
    refine nt' ?_
    refine CM_ret ?_
    exact QM_ret1 rfl rfl (fun W hm => ⟨ret_i (show laws_heldVersionSS_m x0 x1 = s7 from by unfold laws_heldVersionSS_m; exact fin_inr hE28 (rfl)), hm.below⟩)

def laws_heldStore_m (x0 : DStore) (x1 : Int) : Int :=
  cond (decide ((laws_heldVersionSS_m x0.Segments x1) < 0)) (-1) (laws_heldVersionSS_m x0.Segments x1)
theorem cb133 : Cb Try.prog 133 := ⟨Try.f133, _, Try.func133, rfl, by decide⟩
set_option maxRecDepth 10000 in
set_option maxHeartbeats 4000000 in
theorem laws_heldStore_c (w : World) (z0 : List Value) (x0 : DStore) (x1 : Int) (r_0 : tyStore.rd w w.heap.size z0 x0) :
    Calls Try.prog 133 #[.agg z0.toArray, .int .i64 x1] w fun e w' => e = .returned (.int .i64 (laws_heldStore_m x0 x1)) ∧ Below w.heap.size w w' := by
  obtain ⟨v1, rfl, r2⟩ := tyStore_rd r_0
  have r7 := r2
  obtain ⟨m3, A4, c5, rfl, q6⟩ := r2
  refine call_enterM (L := [(0, .agg #[.slice A4 x0.Segments.length c5, .int .i64 x0.Now]), (1, .int .i64 x1)]) (N := 12) Try.func133 rfl rfl (Nat.le_of_ble_eq_true rfl) (argsL_cons rfl (argsL_cons rfl argsL_nil)) ?_
  refine sr ?_
  refine WM_box rfl (Wd_none rfl) (by decide) (fun p8 => ?_)
  refine wa ?_
  refine nt' ?_
  refine sr ?_
  refine wv (fun W hm => rv_field Try.underlying26 rfl Try.type24 (by decide) rfl rfl) ?_
  refine wv (fun W hm => rv_load Try.underlying24 rfl rfl (hm.boxCell (n := 0) (o := 0) rfl rfl)) ?_
  refine wm ?_
  refine WM_callV (cl_fn cb184 rfl) (fun W hm => laws_heldVersionSS_c W _ x0.Segments x1 (hm.rdS0 r7)) (Wd_none rfl) (by decide) ?_
  refine wa ?_
  refine nt' ?_
  refine CM_seq ?_
  refine sr ?_
  refine wm ?_
  refine wv (fun W hm => rv_lss rfl rfl) ?_
  refine nt' ?_
  by_cases h9 : (laws_heldVersionSS_m x0.Segments x1) < 0
  · have g10 : (decide ((laws_heldVersionSS_m x0.Segments x1) < 0)) = true := decide_eq_true h9
    refine CM_condT rfl g10 ?_
    refine sr ?_
    refine wa ?_
    refine nt' ?_
    refine CM_ret ?_
    refine QM_then_ret ?_
    exact QM_ret1 rfl rfl (fun W hm => ⟨ret_i (show laws_heldStore_m x0 x1 = (-1) from by unfold laws_heldStore_m; exact cond_t g10 (rfl)), hm.below⟩)
  · have g10 : (decide ((laws_heldVersionSS_m x0.Segments x1) < 0)) = false := decide_eq_false h9
    refine CM_condF rfl g10 ?_
    refine CM_skip ?_
    refine QM_then ?_
    refine sr ?_
    refine wm ?_
    refine wa ?_
    refine nt' ?_
    refine CM_ret ?_
    exact QM_ret1 rfl rfl (fun W hm => ⟨ret_i (show laws_heldStore_m x0 x1 = (laws_heldVersionSS_m x0.Segments x1) from by unfold laws_heldStore_m; exact cond_f g10 (rfl)), hm.below⟩)

def laws_heldCondS_b1 (x0 : (List DCond)) (k6 : Nat) (s7 : Int) : Int ⊕ (Int) :=
  cond (((gt x0 k6).Field) != s7) (Sum.inl (-1)) (cond (((gt x0 k6).Low) != (IntKind.i64.wrap (s7 + 1))) (Sum.inl (-1)) (cond (((gt x0 k6).High) != (IntKind.i64.wrap ((IntKind.i64.wrap (s7 + 1)) + 1))) (Sum.inl (-1)) (Sum.inr (IntKind.i64.wrap ((IntKind.i64.wrap ((IntKind.i64.wrap (s7 + 1)) + 1)) + 1)))))
def laws_heldCondS_m (x0 : (List DCond)) (x1 : Int) : Int :=
  Sum.elim id (fun (s : Int) => s) (rng (R := Int) (fun k (s : Int) => laws_heldCondS_b1 x0 k s) (x0.length - 0) 0 x1)
theorem cb185 : Cb Try.prog 185 := ⟨Try.f185, _, Try.func185, rfl, by decide⟩
set_option maxRecDepth 10000 in
set_option maxHeartbeats 4000000 in
theorem laws_heldCondS_c (w : World) (z0 : Value) (x0 : (List DCond)) (x1 : Int) (r_0 : rdS tyCond w w.heap.size z0 x0) :
    Calls Try.prog 185 #[z0, .int .i64 x1] w fun e w' => e = .returned (.int .i64 (laws_heldCondS_m x0 x1)) ∧ Below w.heap.size w w' := by
  have r5 := r_0
  obtain ⟨m1, A2, c3, rfl, q4⟩ := r_0
  refine call_enterM (L := [(0, .slice A2 x0.length c3), (1, .int .i64 x1)]) (N := 40) Try.func185 rfl rfl (Nat.le_of_ble_eq_true rfl) (argsL_cons rfl (argsL_cons rfl argsL_nil)) ?_
  refine sr ?_
  refine wa ?_
  refine nt' ?_
  refine CM_seq ?_
  refine sr ?_
  refine wa ?_
  refine nt' ?_
  refine CM_block ?_
  refine CM_loop (σ := Nat × (Int) × (Unit)) (fun s => [(0, .slice A2 x0.length c3), (1, .int .i64 s.2.1), (5, .int .i64 ((s.1 : Nat) : Int))]) (fun s => []) (fun s => s.1 ≤ x0.length ∧ rng (R := Int) (fun k (s : Int) => laws_heldCondS_b1 x0 k s) (x0.length - s.1) s.1 s.2.1 = rng (R := Int) (fun k (s : Int) => laws_heldCondS_b1 x0 k s) (x0.length - 0) 0 x1) (fun s => x0.length - s.1) (0, x1, ()) (subL_cons rfl (subL_cons rfl (subL_cons rfl subL_nil))) (fun W hm => hm) ⟨(by omega), rfl⟩ ?_
  rintro ⟨k6, s7, ⟨⟩⟩ H10
  obtain ⟨hk8, hF9⟩ : k6 ≤ x0.length ∧ rng (R := Int) (fun k (s : Int) => laws_heldCondS_b1 x0 k s) (x0.length - k6) k6 s7 = rng (R := Int) (fun k (s : Int) => laws_heldCondS_b1 x0 k s) (x0.length - 0) 0 x1 := H10
  show CM Try.prog 40 _ _ _ _ [(0, .slice A2 x0.length c3), (1, .int .i64 s7), (5, .int .i64 ((k6 : Nat) : Int))] []
  refine CM_seq ?_
  refine sr ?_
  refine wm ?_
  refine wm ?_
  refine wv (fun W hm => rv_len Try.underlying123 rfl) ?_
  refine wv (fun W hm => rv_lss rfl rfl) ?_
  refine nt' ?_
  by_cases hl11 : k6 < x0.length
  · have g12 : (decide (((k6 : Nat) : Int) < ((x0.length : Nat) : Int))) = true := decide_eq_true (by omega)
    refine CM_condT rfl g12 ?_
    refine CM_skip ?_
    refine QM_then ?_
    refine CM_seq ?_
    refine CM_block ?_
    refine CM_seq ?_
    refine sr ?_
    refine wm ?_
    refine wm ?_
    obtain ⟨a13, rfl, hb14, he15⟩ := q4 (by omega)
    refine wv (fun W hm => rv_index (sz := 3) (k := k6) Try.underlying123 Try.type183 rfl rfl rfl (by omega)) ?_
    refine wv (fun W hm => rv_field Try.underlying183 rfl Try.type3 (by decide) rfl rfl) ?_
    obtain ⟨_, e17, hc16⟩ := he15 k6 _ (gt_some (show k6 < x0.length from by omega))
    obtain rfl := tyCond_rd e17
    refine wv (fun W hm => rv_load Try.underlying3 rfl rfl ((hm.cell0 (show ((a13.add (k6 * 3)).add 0).block < w.heap.size from by rw [add_block, add_block]; exact hb14.1)).trans (hc16 0 _ rfl))) ?_
    refine wm ?_
    refine wv (fun W hm => rv_neq rfl rfl) ?_
    refine nt' ?_
    by_cases h18 : ((gt x0 k6).Field) = s7
    · have g19 : (((gt x0 k6).Field) != s7) = false := by rw [h18]; exact bne_self_eq_false _
      refine CM_condF rfl g19 ?_
      refine CM_skip ?_
      refine QM_then ?_
      refine sr ?_
      refine wm ?_
      refine wv (fun W hm => rv_add rfl rfl) ?_
      refine wa ?_
      refine nt' ?_
      refine CM_seq ?_
      refine sr ?_
      refine wm ?_
      refine wm ?_
      refine wv (fun W hm => rv_index (sz := 3) (k := k6) Try.underlying123 Try.type183 rfl rfl rfl (by omega)) ?_
      refine wv (fun W hm => rv_field Try.underlying183 rfl Try.type3 (by decide) rfl rfl) ?_
      refine wv (fun W hm => rv_load Try.underlying3 rfl rfl ((hm.cell0 (show ((a13.add (k6 * 3)).add 1).block < w.heap.size from by rw [add_block, add_block]; exact hb14.1)).trans (hc16 1 _ rfl))) ?_
      refine wm ?_
      refine wv (fun W hm => rv_neq rfl rfl) ?_
      refine nt' ?_
      by_cases h20 : ((gt x0 k6).Low) = (IntKind.i64.wrap (s7 + 1))
      · have g21 : (((gt x0 k6).Low) != (IntKind.i64.wrap (s7 + 1))) = false := by rw [h20]; exact bne_self_eq_false _
        refine CM_condF rfl g21 ?_
        refine CM_skip ?_
        refine QM_then ?_
        refine sr ?_
        refine wm ?_
        refine wv (fun W hm => rv_add rfl rfl) ?_
        refine wa ?_
        refine nt' ?_
        refine CM_seq ?_
        refine sr ?_
        refine wm ?_
        refine wm ?_
        refine wv (fun W hm => rv_index (sz := 3) (k := k6) Try.underlying123 Try.type183 rfl rfl rfl (by omega)) ?_
        refine wv (fun W hm => rv_field Try.underlying183 rfl Try.type3 (by decide) rfl rfl) ?_
        refine wv (fun W hm => rv_load Try.underlying3 rfl rfl ((hm.cell0 (show ((a13.add (k6 * 3)).add 2).block < w.heap.size from by rw [add_block, add_block]; exact hb14.1)).trans (hc16 2 _ rfl))) ?_
        refine wm ?_
        refine wv (fun W hm => rv_neq rfl rfl) ?_
        refine nt' ?_
        by_cases h22 : ((gt x0 k6).High) = (IntKind.i64.wrap ((IntKind.i64.wrap (s7 + 1)) + 1))
        · have g23 : (((gt x0 k6).High) != (IntKind.i64.wrap ((IntKind.i64.wrap (s7 + 1)) + 1))) = false := by rw [h22]; exact bne_self_eq_false _
          refine CM_condF rfl g23 ?_
          refine CM_skip ?_
          refine QM_then ?_
          refine CM_region ?_
          refine wm ?_
          refine wv (fun W hm => rv_add rfl rfl) ?_
          refine wa ?_
          refine WM_nil ?_
          refine QM_block_normal ?_
          refine QM_then ?_
          refine CM_region ?_
          refine wm ?_
          refine wv (fun W hm => rv_addN (p := k6) (q := 1) rfl rfl (by omega)) ?_
          refine wa ?_
          refine WM_nil ?_
          have hn24 := rng_next (R := Int) (body := (fun k (s : Int) => laws_heldCondS_b1 x0 k s)) (k := k6) (s := s7) (s' := (IntKind.i64.wrap ((IntKind.i64.wrap ((IntKind.i64.wrap (s7 + 1)) + 1)) + 1))) (show k6 < x0.length from by omega) (show laws_heldCondS_b1 x0 k6 s7 = Sum.inr (IntKind.i64.wrap ((IntKind.i64.wrap ((IntKind.i64.wrap (s7 + 1)) + 1)) + 1)) from by unfold laws_heldCondS_b1; exact cond_f g19 (cond_f g21 (cond_f g23 (rfl)))) hF9
          exact QM_round (k6 + 1, (IntKind.i64.wrap ((IntKind.i64.wrap ((IntKind.i64.wrap (s7 + 1)) + 1)) + 1)), ()) (subL_cons rfl (subL_cons rfl (subL_cons rfl subL_nil))) (fun W hm => hm) ⟨(by omega), hn24⟩ (show x0.length - (k6 + 1) < x0.length - k6 from by omega)
        · have g23 : (((gt x0 k6).High) != (IntKind.i64.wrap ((IntKind.i64.wrap (s7 + 1)) + 1))) = true := bne_iff_ne.2 h22
          refine CM_condT rfl g23 ?_
          refine sr ?_
          refine wa ?_
          refine nt' ?_
          refine CM_ret ?_
          refine QM_then_ret ?_
          refine QM_block_ret ?_
          refine QM_then_ret ?_
          refine QM_then_ret ?_
          refine QM_block_ret ?_
          refine QM_then_ret ?_
          exact QM_ret1 rfl rfl (fun W hm => ⟨ret_i (show laws_heldCondS_m x0 x1 = (-1) from by unfold laws_heldCondS_m; exact fin_inl (rng_ret (body := (fun k (s : Int) => laws_heldCondS_b1 x0 k s)) (k := k6) (s := s7) (show k6 < x0.length from by omega) (show laws_heldCondS_b1 x0 k6 s7 = Sum.inl (-1) from by unfold laws_heldCondS_b1; exact cond_f g19 (cond_f g21 (cond_t g23 (rfl)))) hF9) rfl), hm.below⟩)
      · have g21 : (((gt x0 k6).Low) != (IntKind.i64.wrap (s7 + 1))) = true := bne_iff_ne.2 h20
        refine CM_condT rfl g21 ?_
        refine sr ?_
        refine wa ?_
        refine nt' ?_
        refine CM_ret ?_
        refine QM_then_ret ?_
        refine QM_block_ret ?_
        refine QM_then_ret ?_
        refine QM_then_ret ?_
        refine QM_block_ret ?_
        refine QM_then_ret ?_
        exact QM_ret1 rfl rfl (fun W hm => ⟨ret_i (show laws_heldCondS_m x0 x1 = (-1) from by unfold laws_heldCondS_m; exact fin_inl (rng_ret (body := (fun k (s : Int) => laws_heldCondS_b1 x0 k s)) (k := k6) (s := s7) (show k6 < x0.length from by omega) (show laws_heldCondS_b1 x0 k6 s7 = Sum.inl (-1) from by unfold laws_heldCondS_b1; exact cond_f g19 (cond_t g21 (rfl))) hF9) rfl), hm.below⟩)
    · have g19 : (((gt x0 k6).Field) != s7) = true := bne_iff_ne.2 h18
      refine CM_condT rfl g19 ?_
      refine sr ?_
      refine wa ?_
      refine nt' ?_
      refine CM_ret ?_
      refine QM_then_ret ?_
      refine QM_block_ret ?_
      refine QM_then_ret ?_
      refine QM_then_ret ?_
      refine QM_block_ret ?_
      refine QM_then_ret ?_
      exact QM_ret1 rfl rfl (fun W hm => ⟨ret_i (show laws_heldCondS_m x0 x1 = (-1) from by unfold laws_heldCondS_m; exact fin_inl (rng_ret (body := (fun k (s : Int) => laws_heldCondS_b1 x0 k s)) (k := k6) (s := s7) (show k6 < x0.length from by omega) (show laws_heldCondS_b1 x0 k6 s7 = Sum.inl (-1) from by unfold laws_heldCondS_b1; exact cond_t g19 (rfl)) hF9) rfl), hm.below⟩)
  · have g12 : (decide (((k6 : Nat) : Int) < ((x0.length : Nat) : Int))) = false := decide_eq_false (by omega)
    refine CM_condF rfl g12 ?_
    refine CM_exit ?_
    refine QM_then_exit ?_
    refine QM_then_exit ?_
    have hE25 : rng (R := Int) (fun k (s : Int) => laws_heldCondS_b1 x0 k s) (x0.length - 0) 0 x1 = Sum.inr s7 := rng_end hl11 hF9
    refine QM_block_hit ?_
    refine QM_then ?_
    refine sr ?_
    refine wm ?_
    refine wa ?_
    refine nt' ?_
    refine CM_ret ?_
    exact QM_ret1 rfl rfl (fun W hm => ⟨ret_i (show laws_heldCondS_m x0 x1 = s7 from by unfold laws_heldCondS_m; exact fin_inr hE25 (rfl)), hm.below⟩)

def laws_heldRowS_b1 (x0 : (List DRow)) (k6 : Nat) (s7 : Int) : Int ⊕ (Int) :=
  cond (((gt x0 k6).Id) != s7) (Sum.inl (-1)) (cond (decide ((laws_heldIntS_m ((gt x0 k6).Values) (IntKind.i64.wrap (s7 + 1))) < 0)) (Sum.inl (-1)) (Sum.inr (laws_heldIntS_m ((gt x0 k6).Values) (IntKind.i64.wrap (s7 + 1)))))
def laws_heldRowS_m (x0 : (List DRow)) (x1 : Int) : Int :=
  Sum.elim id (fun (s : Int) => s) (rng (R := Int) (fun k (s : Int) => laws_heldRowS_b1 x0 k s) (x0.length - 0) 0 x1)
theorem cb186 : Cb Try.prog 186 := ⟨Try.f186, _, Try.func186, rfl, by decide⟩
set_option maxRecDepth 10000 in
set_option maxHeartbeats 4000000 in
theorem laws_heldRowS_c (w : World) (z0 : Value) (x0 : (List DRow)) (x1 : Int) (r_0 : rdS tyRow w w.heap.size z0 x0) :
    Calls Try.prog 186 #[z0, .int .i64 x1] w fun e w' => e = .returned (.int .i64 (laws_heldRowS_m x0 x1)) ∧ Below w.heap.size w w' := by
  have r5 := r_0
  obtain ⟨m1, A2, c3, rfl, q4⟩ := r_0
  refine call_enterM (L := [(0, .slice A2 x0.length c3), (1, .int .i64 x1)]) (N := 31) Try.func186 rfl rfl (Nat.le_of_ble_eq_true rfl) (argsL_cons rfl (argsL_cons rfl argsL_nil)) ?_
  refine sr ?_
  refine wa ?_
  refine nt' ?_
  refine CM_seq ?_
  refine sr ?_
  refine wa ?_
  refine nt' ?_
  refine CM_block ?_
  refine CM_loop (σ := Nat × (Int) × (Unit)) (fun s => [(0, .slice A2 x0.length c3), (1, .int .i64 s.2.1), (5, .int .i64 ((s.1 : Nat) : Int))]) (fun s => []) (fun s => s.1 ≤ x0.length ∧ rng (R := Int) (fun k (s : Int) => laws_heldRowS_b1 x0 k s) (x0.length - s.1) s.1 s.2.1 = rng (R := Int) (fun k (s : Int) => laws_heldRowS_b1 x0 k s) (x0.length - 0) 0 x1) (fun s => x0.length - s.1) (0, x1, ()) (subL_cons rfl (subL_cons rfl (subL_cons rfl subL_nil))) (fun W hm => hm) ⟨(by omega), rfl⟩ ?_
  rintro ⟨k6, s7, ⟨⟩⟩ H10
  obtain ⟨hk8, hF9⟩ : k6 ≤ x0.length ∧ rng (R := Int) (fun k (s : Int) => laws_heldRowS_b1 x0 k s) (x0.length - k6) k6 s7 = rng (R := Int) (fun k (s : Int) => laws_heldRowS_b1 x0 k s) (x0.length - 0) 0 x1 := H10
  show CM Try.prog 31 _ _ _ _ [(0, .slice A2 x0.length c3), (1, .int .i64 s7), (5, .int .i64 ((k6 : Nat) : Int))] []
  refine CM_seq ?_
  refine sr ?_
  refine wm ?_
  refine wm ?_
  refine wv (fun W hm => rv_len Try.underlying39 rfl) ?_
  refine wv (fun W hm => rv_lss rfl rfl) ?_
  refine nt' ?_
  by_cases hl11 : k6 < x0.length
  · have g12 : (decide (((k6 : Nat) : Int) < ((x0.length : Nat) : Int))) = true := decide_eq_true (by omega)
    refine CM_condT rfl g12 ?_
    refine CM_skip ?_
    refine QM_then ?_
    refine CM_seq ?_
    refine CM_block ?_
    refine CM_seq ?_
    refine sr ?_
    refine wm ?_
    refine wm ?_
    obtain ⟨a13, rfl, hb14, he15⟩ := q4 (by omega)
    refine wv (fun W hm => rv_index (sz := 2) (k := k6) Try.underlying39 Try.type29 rfl rfl rfl (by omega)) ?_
    refine wv (fun W hm => rv_field Try.underlying29 rfl Try.type3 (by decide) rfl rfl) ?_
    obtain ⟨_, e19, hc16⟩ := he15 k6 _ (gt_some (show k6 < x0.length from by omega))
    obtain ⟨v17, rfl, r18⟩ := tyRow_rd e19
    have r24 := r18
    obtain ⟨m20, A21, c22, rfl, q23⟩ := r18
    refine wv (fun W hm => rv_load Try.underlying3 rfl rfl ((hm.cell0 (show ((a13.add (k6 * 2)).add 0).block < w.heap.size from by rw [add_block, add_block]; exact hb14.1)).trans (hc16 0 _ rfl))) ?_
    refine wm ?_
    refine wv (fun W hm => rv_neq rfl rfl) ?_
    refine nt' ?_
    by_cases h25 : ((gt x0 k6).Id) = s7
    · have g26 : (((gt x0 k6).Id) != s7) = false := by rw [h25]; exact bne_self_eq_false _
      refine CM_condF rfl g26 ?_
      refine CM_skip ?_
      refine QM_then ?_
      refine sr ?_
      refine wm ?_
      refine wv (fun W hm => rv_add rfl rfl) ?_
      refine wa ?_
      refine nt' ?_
      refine sr ?_
      refine wm ?_
      refine wm ?_
      refine wv (fun W hm => rv_index (sz := 2) (k := k6) Try.underlying39 Try.type29 rfl rfl rfl (by omega)) ?_
      refine wv (fun W hm => rv_field Try.underlying29 rfl Try.type27 (by decide) rfl rfl) ?_
      refine wv (fun W hm => rv_load Try.underlying27 rfl rfl ((hm.cell0 (show ((a13.add (k6 * 2)).add 1).block < w.heap.size from by rw [add_block, add_block]; exact hb14.1)).trans (hc16 1 _ rfl))) ?_
      refine wm ?_
      refine WM_callV (cl_fn cb69 rfl) (fun W hm => laws_heldIntS_c W _ ((gt x0 k6).Values) (IntKind.i64.wrap (s7 + 1)) (hm.rdS0 r24)) (Wd_none rfl) (by decide) ?_
      refine wa ?_
      refine nt' ?_
      refine sr ?_
      refine wm ?_
      refine wv (fun W hm => rv_lss rfl rfl) ?_
      refine nt' ?_
      by_cases h27 : (laws_heldIntS_m ((gt x0 k6).Values) (IntKind.i64.wrap (s7 + 1))) < 0
      · have g28 : (decide ((laws_heldIntS_m ((gt x0 k6).Values) (IntKind.i64.wrap (s7 + 1))) < 0)) = true := decide_eq_true h27
        refine CM_condT rfl g28 ?_
        refine sr ?_
        refine wa ?_
        refine nt' ?_
        refine CM_ret ?_
        refine QM_block_ret ?_
        refine QM_then_ret ?_
        refine QM_then_ret ?_
        refine QM_block_ret ?_
        refine QM_then_ret ?_
        exact QM_ret1 rfl rfl (fun W hm => ⟨ret_i (show laws_heldRowS_m x0 x1 = (-1) from by unfold laws_heldRowS_m; exact fin_inl (rng_ret (body := (fun k (s : Int) => laws_heldRowS_b1 x0 k s)) (k := k6) (s := s7) (show k6 < x0.length from by omega) (show laws_heldRowS_b1 x0 k6 s7 = Sum.inl (-1) from by unfold laws_heldRowS_b1; exact cond_f g26 (cond_t g28 (rfl))) hF9) rfl), hm.below⟩)
      · have g28 : (decide ((laws_heldIntS_m ((gt x0 k6).Values) (IntKind.i64.wrap (s7 + 1))) < 0)) = false := decide_eq_false h27
        refine CM_condF rfl g28 ?_
        refine CM_skip ?_
        refine QM_block_normal ?_
        refine QM_then ?_
        refine CM_region ?_
        refine wm ?_
        refine wv (fun W hm => rv_addN (p := k6) (q := 1) rfl rfl (by omega)) ?_
        refine wa ?_
        refine WM_nil ?_
        have hn29 := rng_next (R := Int) (body := (fun k (s : Int) => laws_heldRowS_b1 x0 k s)) (k := k6) (s := s7) (s' := (laws_heldIntS_m ((gt x0 k6).Values) (IntKind.i64.wrap (s7 + 1)))) (show k6 < x0.length from by omega) (show laws_heldRowS_b1 x0 k6 s7 = Sum.inr (laws_heldIntS_m ((gt x0 k6).Values) (IntKind.i64.wrap (s7 + 1))) from by unfold laws_heldRowS_b1; exact cond_f g26 (cond_f g28 (rfl))) hF9
        exact QM_round (k6 + 1, (laws_heldIntS_m ((gt x0 k6).Values) (IntKind.i64.wrap (s7 + 1))), ()) (subL_cons rfl (subL_cons rfl (subL_cons rfl subL_nil))) (fun W hm => hm) ⟨(by omega), hn29⟩ (show x0.length - (k6 + 1) < x0.length - k6 from by omega)
    · have g26 : (((gt x0 k6).Id) != s7) = true := bne_iff_ne.2 h25
      refine CM_condT rfl g26 ?_
      refine sr ?_
      refine wa ?_
      refine nt' ?_
      refine CM_ret ?_
      refine QM_then_ret ?_
      refine QM_block_ret ?_
      refine QM_then_ret ?_
      refine QM_then_ret ?_
      refine QM_block_ret ?_
      refine QM_then_ret ?_
      exact QM_ret1 rfl rfl (fun W hm => ⟨ret_i (show laws_heldRowS_m x0 x1 = (-1) from by unfold laws_heldRowS_m; exact fin_inl (rng_ret (body := (fun k (s : Int) => laws_heldRowS_b1 x0 k s)) (k := k6) (s := s7) (show k6 < x0.length from by omega) (show laws_heldRowS_b1 x0 k6 s7 = Sum.inl (-1) from by unfold laws_heldRowS_b1; exact cond_t g26 (rfl)) hF9) rfl), hm.below⟩)
  · have g12 : (decide (((k6 : Nat) : Int) < ((x0.length : Nat) : Int))) = false := decide_eq_false (by omega)
    refine CM_condF rfl g12 ?_
    refine CM_exit ?_
    refine QM_then_exit ?_
    refine QM_then_exit ?_
    have hE30 : rng (R := Int) (fun k (s : Int) => laws_heldRowS_b1 x0 k s) (x0.length - 0) 0 x1 = Sum.inr s7 := rng_end hl11 hF9
    refine QM_block_hit ?_
    refine QM_then ?_
    refine sr ?_
    refine wm ?_
    refine wa ?_
    refine nt' ?_
    refine CM_ret ?_
    exact QM_ret1 rfl rfl (fun W hm => ⟨ret_i (show laws_heldRowS_m x0 x1 = s7 from by unfold laws_heldRowS_m; exact fin_inr hE30 (rfl)), hm.below⟩)

def laws_heldActiveS_b1 (x0 : (List DActive)) (k6 : Nat) (s7 : Int) : Int ⊕ (Int) :=
  cond (((gt x0 k6).Query.Id) != s7) (Sum.inl (-1)) (cond (((gt x0 k6).Query.Tenant) != (IntKind.i64.wrap (s7 + 1))) (Sum.inl (-1)) (cond (decide ((laws_heldCondS_m ((gt x0 k6).Query.Conds) (IntKind.i64.wrap ((IntKind.i64.wrap (s7 + 1)) + 1))) < 0)) (Sum.inl (-1)) (cond (decide ((laws_heldIntS_m ((gt x0 k6).Query.Out) (laws_heldCondS_m ((gt x0 k6).Query.Conds) (IntKind.i64.wrap ((IntKind.i64.wrap (s7 + 1)) + 1)))) < 0)) (Sum.inl (-1)) (cond (((gt x0 k6).Time) != (laws_heldIntS_m ((gt x0 k6).Query.Out) (laws_heldCondS_m ((gt x0 k6).Query.Conds) (IntKind.i64.wrap ((IntKind.i64.wrap (s7 + 1)) + 1))))) (Sum.inl (-1)) (cond (decide ((laws_heldIntS_m ((gt x0 k6).Todo) (IntKind.i64.wrap ((laws_heldIntS_m ((gt x0 k6).Query.Out) (laws_heldCondS_m ((gt x0 k6).Query.Conds) (IntKind.i64.wrap ((IntKind.i64.wrap (s7 + 1)) + 1)))) + 1))) < 0)) (Sum.inl (-1)) (cond (((gt x0 k6).Age) != (laws_heldIntS_m ((gt x0 k6).Todo) (IntKind.i64.wrap ((laws_heldIntS_m ((gt x0 k6).Query.Out) (laws_heldCondS_m ((gt x0 k6).Query.Conds) (IntKind.i64.wrap ((IntKind.i64.wrap (s7 + 1)) + 1)))) + 1)))) (Sum.inl (-1)) (cond (((gt x0 k6).Sent) != (IntKind.i64.wrap ((laws_heldIntS_m ((gt x0 k6).Todo) (IntKind.i64.wrap ((laws_heldIntS_m ((gt x0 k6).Query.Out) (laws_heldCondS_m ((gt x0 k6).Query.Conds) (IntKind.i64.wrap ((IntKind.i64.wrap (s7 + 1)) + 1)))) + 1))) + 1))) (Sum.inl (-1)) (cond (((gt x0 k6).Cap) != (IntKind.i64.wrap ((IntKind.i64.wrap ((laws_heldIntS_m ((gt x0 k6).Todo) (IntKind.i64.wrap ((laws_heldIntS_m ((gt x0 k6).Query.Out) (laws_heldCondS_m ((gt x0 k6).Query.Conds) (IntKind.i64.wrap ((IntKind.i64.wrap (s7 + 1)) + 1)))) + 1))) + 1)) + 1))) (Sum.inl (-1)) (cond (decide ((laws_heldRowS_m ((gt x0 k6).Rows) (IntKind.i64.wrap ((IntKind.i64.wrap ((IntKind.i64.wrap ((laws_heldIntS_m ((gt x0 k6).Todo) (IntKind.i64.wrap ((laws_heldIntS_m ((gt x0 k6).Query.Out) (laws_heldCondS_m ((gt x0 k6).Query.Conds) (IntKind.i64.wrap ((IntKind.i64.wrap (s7 + 1)) + 1)))) + 1))) + 1)) + 1)) + 1))) < 0)) (Sum.inl (-1)) (Sum.inr (laws_heldRowS_m ((gt x0 k6).Rows) (IntKind.i64.wrap ((IntKind.i64.wrap ((IntKind.i64.wrap ((laws_heldIntS_m ((gt x0 k6).Todo) (IntKind.i64.wrap ((laws_heldIntS_m ((gt x0 k6).Query.Out) (laws_heldCondS_m ((gt x0 k6).Query.Conds) (IntKind.i64.wrap ((IntKind.i64.wrap (s7 + 1)) + 1)))) + 1))) + 1)) + 1)) + 1)))))))))))))
def laws_heldActiveS_m (x0 : (List DActive)) (x1 : Int) : Int :=
  Sum.elim id (fun (s : Int) => s) (rng (R := Int) (fun k (s : Int) => laws_heldActiveS_b1 x0 k s) (x0.length - 0) 0 x1)
theorem cb134 : Cb Try.prog 134 := ⟨Try.f134, _, Try.func134, rfl, by decide⟩
set_option maxRecDepth 10000 in
set_option maxHeartbeats 4000000 in
theorem laws_heldActiveS_c (w : World) (z0 : Value) (x0 : (List DActive)) (x1 : Int) (r_0 : rdS tyActive w w.heap.size z0 x0) :
    Calls Try.prog 134 #[z0, .int .i64 x1] w fun e w' => e = .returned (.int .i64 (laws_heldActiveS_m x0 x1)) ∧ Below w.heap.size w w' := by
  have r5 := r_0
  obtain ⟨m1, A2, c3, rfl, q4⟩ := r_0
  refine call_enterM (L := [(0, .slice A2 x0.length c3), (1, .int .i64 x1)]) (N := 107) Try.func134 rfl rfl (Nat.le_of_ble_eq_true rfl) (argsL_cons rfl (argsL_cons rfl argsL_nil)) ?_
  refine sr ?_
  refine wa ?_
  refine nt' ?_
  refine CM_seq ?_
  refine sr ?_
  refine wa ?_
  refine nt' ?_
  refine CM_block ?_
  refine CM_loop (σ := Nat × (Int) × (Unit)) (fun s => [(0, .slice A2 x0.length c3), (1, .int .i64 s.2.1), (5, .int .i64 ((s.1 : Nat) : Int))]) (fun s => []) (fun s => s.1 ≤ x0.length ∧ rng (R := Int) (fun k (s : Int) => laws_heldActiveS_b1 x0 k s) (x0.length - s.1) s.1 s.2.1 = rng (R := Int) (fun k (s : Int) => laws_heldActiveS_b1 x0 k s) (x0.length - 0) 0 x1) (fun s => x0.length - s.1) (0, x1, ()) (subL_cons rfl (subL_cons rfl (subL_cons rfl subL_nil))) (fun W hm => hm) ⟨(by omega), rfl⟩ ?_
  rintro ⟨k6, s7, ⟨⟩⟩ H10
  obtain ⟨hk8, hF9⟩ : k6 ≤ x0.length ∧ rng (R := Int) (fun k (s : Int) => laws_heldActiveS_b1 x0 k s) (x0.length - k6) k6 s7 = rng (R := Int) (fun k (s : Int) => laws_heldActiveS_b1 x0 k s) (x0.length - 0) 0 x1 := H10
  show CM Try.prog 107 _ _ _ _ [(0, .slice A2 x0.length c3), (1, .int .i64 s7), (5, .int .i64 ((k6 : Nat) : Int))] []
  refine CM_seq ?_
  refine sr ?_
  refine wm ?_
  refine wm ?_
  refine wv (fun W hm => rv_len Try.underlying73 rfl) ?_
  refine wv (fun W hm => rv_lss rfl rfl) ?_
  refine nt' ?_
  by_cases hl11 : k6 < x0.length
  · have g12 : (decide (((k6 : Nat) : Int) < ((x0.length : Nat) : Int))) = true := decide_eq_true (by omega)
    refine CM_condT rfl g12 ?_
    refine CM_skip ?_
    refine QM_then ?_
    refine CM_seq ?_
    refine CM_block ?_
    refine CM_seq ?_
    refine sr ?_
    refine wm ?_
    refine wm ?_
    obtain ⟨a13, rfl, hb14, he15⟩ := q4 (by omega)
    refine wv (fun W hm => rv_index (sz := 10) (k := k6) Try.underlying73 Try.type127 rfl rfl rfl (by omega)) ?_
    refine wv (fun W hm => rv_field Try.underlying127 rfl Try.type125 (by decide) rfl rfl) ?_
    refine wv (fun W hm => rv_fieldA (o := 0) Try.underlying125 rfl Try.type3 (by decide) rfl rfl) ?_
    obtain ⟨_, e25, hc16⟩ := he15 k6 _ (gt_some (show k6 < x0.length from by omega))
    obtain ⟨v17, v19, v21, v23, rfl, r18, r20, r22, r24⟩ := tyActive_rd e25
    have r30 := r18
    obtain ⟨m26, A27, c28, rfl, q29⟩ := r18
    have r35 := r20
    obtain ⟨m31, A32, c33, rfl, q34⟩ := r20
    have r40 := r22
    obtain ⟨m36, A37, c38, rfl, q39⟩ := r22
    have r45 := r24
    obtain ⟨m41, A42, c43, rfl, q44⟩ := r24
    refine wv (fun W hm => rv_load Try.underlying3 rfl rfl ((hm.cell0 (show ((a13.add (k6 * 10)).add 0).block < w.heap.size from by rw [add_block, add_block]; exact hb14.1)).trans (hc16 0 _ rfl))) ?_
    refine wm ?_
    refine wv (fun W hm => rv_neq rfl rfl) ?_
    refine nt' ?_
    by_cases h46 : ((gt x0 k6).Query.Id) = s7
    · have g47 : (((gt x0 k6).Query.Id) != s7) = false := by rw [h46]; exact bne_self_eq_false _
      refine CM_condF rfl g47 ?_
      refine CM_skip ?_
      refine QM_then ?_
      refine sr ?_
      refine wm ?_
      refine wv (fun W hm => rv_add rfl rfl) ?_
      refine wa ?_
      refine nt' ?_
      refine CM_seq ?_
      refine sr ?_
      refine wm ?_
      refine wm ?_
      refine wv (fun W hm => rv_index (sz := 10) (k := k6) Try.underlying73 Try.type127 rfl rfl rfl (by omega)) ?_
      refine wv (fun W hm => rv_field Try.underlying127 rfl Try.type125 (by decide) rfl rfl) ?_
      refine wv (fun W hm => rv_fieldA (o := 1) Try.underlying125 rfl Try.type3 (by decide) rfl rfl) ?_
      refine wv (fun W hm => rv_load Try.underlying3 rfl rfl ((hm.cell0 (show ((a13.add (k6 * 10)).add 1).block < w.heap.size from by rw [add_block, add_block]; exact hb14.1)).trans (hc16 1 _ rfl))) ?_
      refine wm ?_
      refine wv (fun W hm => rv_neq rfl rfl) ?_
      refine nt' ?_
      by_cases h48 : ((gt x0 k6).Query.Tenant) = (IntKind.i64.wrap (s7 + 1))
      · have g49 : (((gt x0 k6).Query.Tenant) != (IntKind.i64.wrap (s7 + 1))) = false := by rw [h48]; exact bne_self_eq_false _
        refine CM_condF rfl g49 ?_
        refine CM_skip ?_
        refine QM_then ?_
        refine sr ?_
        refine wm ?_
        refine wv (fun W hm => rv_add rfl rfl) ?_
        refine wa ?_
        refine nt' ?_
        refine sr ?_
        refine wm ?_
        refine wm ?_
        refine wv (fun W hm => rv_index (sz := 10) (k := k6) Try.underlying73 Try.type127 rfl rfl rfl (by omega)) ?_
        refine wv (fun W hm => rv_field Try.underlying127 rfl Try.type125 (by decide) rfl rfl) ?_
        refine wv (fun W hm => rv_fieldA (o := 2) Try.underlying125 rfl Try.type123 (by decide) rfl rfl) ?_
        refine wv (fun W hm => rv_load Try.underlying123 rfl rfl ((hm.cell0 (show ((a13.add (k6 * 10)).add 2).block < w.heap.size from by rw [add_block, add_block]; exact hb14.1)).trans (hc16 2 _ rfl))) ?_
        refine wm ?_
        refine WM_callV (cl_fn cb185 rfl) (fun W hm => laws_heldCondS_c W _ ((gt x0 k6).Query.Conds) (IntKind.i64.wrap ((IntKind.i64.wrap (s7 + 1)) + 1)) (hm.rdS0 r30)) (Wd_none rfl) (by decide) ?_
        refine wa ?_
        refine nt' ?_
        refine CM_seq ?_
        refine sr ?_
        refine wm ?_
        refine wv (fun W hm => rv_lss rfl rfl) ?_
        refine nt' ?_
        by_cases h50 : (laws_heldCondS_m ((gt x0 k6).Query.Conds) (IntKind.i64.wrap ((IntKind.i64.wrap (s7 + 1)) + 1))) < 0
        · have g51 : (decide ((laws_heldCondS_m ((gt x0 k6).Query.Conds) (IntKind.i64.wrap ((IntKind.i64.wrap (s7 + 1)) + 1))) < 0)) = true := decide_eq_true h50
          refine CM_condT rfl g51 ?_
          refine sr ?_
          refine wa ?_
          refine nt' ?_
          refine CM_ret ?_
          refine QM_then_ret ?_
          refine QM_block_ret ?_
          refine QM_then_ret ?_
          refine QM_then_ret ?_
          refine QM_block_ret ?_
          refine QM_then_ret ?_
          exact QM_ret1 rfl rfl (fun W hm => ⟨ret_i (show laws_heldActiveS_m x0 x1 = (-1) from by unfold laws_heldActiveS_m; exact fin_inl (rng_ret (body := (fun k (s : Int) => laws_heldActiveS_b1 x0 k s)) (k := k6) (s := s7) (show k6 < x0.length from by omega) (show laws_heldActiveS_b1 x0 k6 s7 = Sum.inl (-1) from by unfold laws_heldActiveS_b1; exact cond_f g47 (cond_f g49 (cond_t g51 (rfl)))) hF9) rfl), hm.below⟩)
        · have g51 : (decide ((laws_heldCondS_m ((gt x0 k6).Query.Conds) (IntKind.i64.wrap ((IntKind.i64.wrap (s7 + 1)) + 1))) < 0)) = false := decide_eq_false h50
          refine CM_condF rfl g51 ?_
          refine CM_skip ?_
          refine QM_then ?_
          refine sr ?_
          refine wm ?_
          refine wm ?_
          refine wv (fun W hm => rv_index (sz := 10) (k := k6) Try.underlying73 Try.type127 rfl rfl rfl (by omega)) ?_
          refine wv (fun W hm => rv_field Try.underlying127 rfl Try.type125 (by decide) rfl rfl) ?_
          refine wv (fun W hm => rv_fieldA (o := 3) Try.underlying125 rfl Try.type27 (by decide) rfl rfl) ?_
          refine wv (fun W hm => rv_load Try.underlying27 rfl rfl ((hm.cell0 (show ((a13.add (k6 * 10)).add 3).block < w.heap.size from by rw [add_block, add_block]; exact hb14.1)).trans (hc16 3 _ rfl))) ?_
          refine wm ?_
          refine WM_callV (cl_fn cb69 rfl) (fun W hm => laws_heldIntS_c W _ ((gt x0 k6).Query.Out) (laws_heldCondS_m ((gt x0 k6).Query.Conds) (IntKind.i64.wrap ((IntKind.i64.wrap (s7 + 1)) + 1))) (hm.rdS0 r35)) (Wd_none rfl) (by decide) ?_
          refine wa ?_
          refine nt' ?_
          refine CM_seq ?_
          refine sr ?_
          refine wm ?_
          refine wv (fun W hm => rv_lss rfl rfl) ?_
          refine nt' ?_
          by_cases h52 : (laws_heldIntS_m ((gt x0 k6).Query.Out) (laws_heldCondS_m ((gt x0 k6).Query.Conds) (IntKind.i64.wrap ((IntKind.i64.wrap (s7 + 1)) + 1)))) < 0
          · have g53 : (decide ((laws_heldIntS_m ((gt x0 k6).Query.Out) (laws_heldCondS_m ((gt x0 k6).Query.Conds) (IntKind.i64.wrap ((IntKind.i64.wrap (s7 + 1)) + 1)))) < 0)) = true := decide_eq_true h52
            refine CM_condT rfl g53 ?_
            refine sr ?_
            refine wa ?_
            refine nt' ?_
            refine CM_ret ?_
            refine QM_then_ret ?_
            refine QM_block_ret ?_
            refine QM_then_ret ?_
            refine QM_then_ret ?_
            refine QM_block_ret ?_
            refine QM_then_ret ?_
            exact QM_ret1 rfl rfl (fun W hm => ⟨ret_i (show laws_heldActiveS_m x0 x1 = (-1) from by unfold laws_heldActiveS_m; exact fin_inl (rng_ret (body := (fun k (s : Int) => laws_heldActiveS_b1 x0 k s)) (k := k6) (s := s7) (show k6 < x0.length from by omega) (show laws_heldActiveS_b1 x0 k6 s7 = Sum.inl (-1) from by unfold laws_heldActiveS_b1; exact cond_f g47 (cond_f g49 (cond_f g51 (cond_t g53 (rfl))))) hF9) rfl), hm.below⟩)
          · have g53 : (decide ((laws_heldIntS_m ((gt x0 k6).Query.Out) (laws_heldCondS_m ((gt x0 k6).Query.Conds) (IntKind.i64.wrap ((IntKind.i64.wrap (s7 + 1)) + 1)))) < 0)) = false := decide_eq_false h52
            refine CM_condF rfl g53 ?_
            refine CM_skip ?_
            refine QM_then ?_
            refine CM_seq ?_
            refine sr ?_
            refine wm ?_
            refine wm ?_
            refine wv (fun W hm => rv_index (sz := 10) (k := k6) Try.underlying73 Try.type127 rfl rfl rfl (by omega)) ?_
            refine wv (fun W hm => rv_field Try.underlying127 rfl Try.type3 (by decide) rfl rfl) ?_
            refine wv (fun W hm => rv_load Try.underlying3 rfl rfl ((hm.cell0 (show ((a13.add (k6 * 10)).add 4).block < w.heap.size from by rw [add_block, add_block]; exact hb14.1)).trans (hc16 4 _ rfl))) ?_
            refine wm ?_
            refine wv (fun W hm => rv_neq rfl rfl) ?_
            refine nt' ?_
            by_cases h54 : ((gt x0 k6).Time) = (laws_heldIntS_m ((gt x0 k6).Query.Out) (laws_heldCondS_m ((gt x0 k6).Query.Conds) (IntKind.i64.wrap ((IntKind.i64.wrap (s7 + 1)) + 1))))
            · have g55 : (((gt x0 k6).Time) != (laws_heldIntS_m ((gt x0 k6).Query.Out) (laws_heldCondS_m ((gt x0 k6).Query.Conds) (IntKind.i64.wrap ((IntKind.i64.wrap (s7 + 1)) + 1))))) = false := by rw [h54]; exact bne_self_eq_false _
              refine CM_condF rfl g55 ?_
              refine CM_skip ?_
              refine QM_then ?_
              refine sr ?_
              refine wm ?_
              refine wv (fun W hm => rv_add rfl rfl) ?_
              refine wa ?_
              refine nt' ?_
              refine sr ?_
              refine wm ?_
              refine wm ?_
              refine wv (fun W hm => rv_index (sz := 10) (k := k6) Try.underlying73 Try.type127 rfl rfl rfl (by omega)) ?_
              refine wv (fun W hm => rv_field Try.underlying127 rfl Try.type27 (by decide) rfl rfl) ?_
              refine wv (fun W hm => rv_load Try.underlying27 rfl rfl ((hm.cell0 (show ((a13.add (k6 * 10)).add 5).block < w.heap.size from by rw [add_block, add_block]; exact hb14.1)).trans (hc16 5 _ rfl))) ?_
              refine wm ?_
              refine WM_callV (cl_fn cb69 rfl) (fun W hm => laws_heldIntS_c W _ ((gt x0 k6).Todo) (IntKind.i64.wrap ((laws_heldIntS_m ((gt x0 k6).Query.Out) (laws_heldCondS_m ((gt x0 k6).Query.Conds) (IntKind.i64.wrap ((IntKind.i64.wrap (s7 + 1)) + 1)))) + 1)) (hm.rdS0 r40)) (Wd_none rfl) (by decide) ?_
              refine wa ?_
              refine nt' ?_
              refine CM_seq ?_
              refine sr ?_
              refine wm ?_
              refine wv (fun W hm => rv_lss rfl rfl) ?_
              refine nt' ?_
              by_cases h56 : (laws_heldIntS_m ((gt x0 k6).Todo) (IntKind.i64.wrap ((laws_heldIntS_m ((gt x0 k6).Query.Out) (laws_heldCondS_m ((gt x0 k6).Query.Conds) (IntKind.i64.wrap ((IntKind.i64.wrap (s7 + 1)) + 1)))) + 1))) < 0
              · have g57 : (decide ((laws_heldIntS_m ((gt x0 k6).Todo) (IntKind.i64.wrap ((laws_heldIntS_m ((gt x0 k6).Query.Out) (laws_heldCondS_m ((gt x0 k6).Query.Conds) (IntKind.i64.wrap ((IntKind.i64.wrap (s7 + 1)) + 1)))) + 1))) < 0)) = true := decide_eq_true h56
                refine CM_condT rfl g57 ?_
                refine sr ?_
                refine wa ?_
                refine nt' ?_
                refine CM_ret ?_
                refine QM_then_ret ?_
                refine QM_block_ret ?_
                refine QM_then_ret ?_
                refine QM_then_ret ?_
                refine QM_block_ret ?_
                refine QM_then_ret ?_
                exact QM_ret1 rfl rfl (fun W hm => ⟨ret_i (show laws_heldActiveS_m x0 x1 = (-1) from by unfold laws_heldActiveS_m; exact fin_inl (rng_ret (body := (fun k (s : Int) => laws_heldActiveS_b1 x0 k s)) (k := k6) (s := s7) (show k6 < x0.length from by omega) (show laws_heldActiveS_b1 x0 k6 s7 = Sum.inl (-1) from by unfold laws_heldActiveS_b1; exact cond_f g47 (cond_f g49 (cond_f g51 (cond_f g53 (cond_f g55 (cond_t g57 (rfl))))))) hF9) rfl), hm.below⟩)
              · have g57 : (decide ((laws_heldIntS_m ((gt x0 k6).Todo) (IntKind.i64.wrap ((laws_heldIntS_m ((gt x0 k6).Query.Out) (laws_heldCondS_m ((gt x0 k6).Query.Conds) (IntKind.i64.wrap ((IntKind.i64.wrap (s7 + 1)) + 1)))) + 1))) < 0)) = false := decide_eq_false h56
                refine CM_condF rfl g57 ?_
                refine CM_skip ?_
                refine QM_then ?_
                refine CM_seq ?_
                refine sr ?_
                refine wm ?_
                refine wm ?_
                refine wv (fun W hm => rv_index (sz := 10) (k := k6) Try.underlying73 Try.type127 rfl rfl rfl (by omega)) ?_
                refine wv (fun W hm => rv_field Try.underlying127 rfl Try.type3 (by decide) rfl rfl) ?_
                refine wv (fun W hm => rv_load Try.underlying3 rfl rfl ((hm.cell0 (show ((a13.add (k6 * 10)).add 6).block < w.heap.size from by rw [add_block, add_block]; exact hb14.1)).trans (hc16 6 _ rfl))) ?_
                refine wm ?_
                refine wv (fun W hm => rv_neq rfl rfl) ?_
                refine nt' ?_
                by_cases h58 : ((gt x0 k6).Age) = (laws_heldIntS_m ((gt x0 k6).Todo) (IntKind.i64.wrap ((laws_heldIntS_m ((gt x0 k6).Query.Out) (laws_heldCondS_m ((gt x0 k6).Query.Conds) (IntKind.i64.wrap ((IntKind.i64.wrap (s7 + 1)) + 1)))) + 1)))
                · have g59 : (((gt x0 k6).Age) != (laws_heldIntS_m ((gt x0 k6).Todo) (IntKind.i64.wrap ((laws_heldIntS_m ((gt x0 k6).Query.Out) (laws_heldCondS_m ((gt x0 k6).Query.Conds) (IntKind.i64.wrap ((IntKind.i64.wrap (s7 + 1)) + 1)))) + 1)))) = false := by rw [h58]; exact bne_self_eq_false _
                  refine CM_condF rfl g59 ?_
                  refine CM_skip ?_
                  refine QM_then ?_
                  refine sr ?_
                  refine wm ?_
                  refine wv (fun W hm => rv_add rfl rfl) ?_
                  refine wa ?_
                  refine nt' ?_
                  refine CM_seq ?_
                  refine sr ?_
                  refine wm ?_
                  refine wm ?_
                  refine wv (fun W hm => rv_index (sz := 10) (k := k6) Try.underlying73 Try.type127 rfl rfl rfl (by omega)) ?_
                  refine wv (fun W hm => rv_field Try.underlying127 rfl Try.type3 (by decide) rfl rfl) ?_
                  refine wv (fun W hm => rv_load Try.underlying3 rfl rfl ((hm.cell0 (show ((a13.add (k6 * 10)).add 7).block < w.heap.size from by rw [add_block, add_block]; exact hb14.1)).trans (hc16 7 _ rfl))) ?_
                  refine wm ?_
                  refine wv (fun W hm => rv_neq rfl rfl) ?_
                  refine nt' ?_
                  by_cases h60 : ((gt x0 k6).Sent) = (IntKind.i64.wrap ((laws_heldIntS_m ((gt x0 k6).Todo) (IntKind.i64.wrap ((laws_heldIntS_m ((gt x0 k6).Query.Out) (laws_heldCondS_m ((gt x0 k6).Query.Conds) (IntKind.i64.wrap ((IntKind.i64.wrap (s7 + 1)) + 1)))) + 1))) + 1))
                  · have g61 : (((gt x0 k6).Sent) != (IntKind.i64.wrap ((laws_heldIntS_m ((gt x0 k6).Todo) (IntKind.i64.wrap ((laws_heldIntS_m ((gt x0 k6).Query.Out) (laws_heldCondS_m ((gt x0 k6).Query.Conds) (IntKind.i64.wrap ((IntKind.i64.wrap (s7 + 1)) + 1)))) + 1))) + 1))) = false := by rw [h60]; exact bne_self_eq_false _
                    refine CM_condF rfl g61 ?_
                    refine CM_skip ?_
                    refine QM_then ?_
                    refine sr ?_
                    refine wm ?_
                    refine wv (fun W hm => rv_add rfl rfl) ?_
                    refine wa ?_
                    refine nt' ?_
                    refine CM_seq ?_
                    refine sr ?_
                    refine wm ?_
                    refine wm ?_
                    refine wv (fun W hm => rv_index (sz := 10) (k := k6) Try.underlying73 Try.type127 rfl rfl rfl (by omega)) ?_
                    refine wv (fun W hm => rv_field Try.underlying127 rfl Try.type3 (by decide) rfl rfl) ?_
                    refine wv (fun W hm => rv_load Try.underlying3 rfl rfl ((hm.cell0 (show ((a13.add (k6 * 10)).add 8).block < w.heap.size from by rw [add_block, add_block]; exact hb14.1)).trans (hc16 8 _ rfl))) ?_
                    refine wm ?_
                    refine wv (fun W hm => rv_neq rfl rfl) ?_
                    refine nt' ?_
                    by_cases h62 : ((gt x0 k6).Cap) = (IntKind.i64.wrap ((IntKind.i64.wrap ((laws_heldIntS_m ((gt x0 k6).Todo) (IntKind.i64.wrap ((laws_heldIntS_m ((gt x0 k6).Query.Out) (laws_heldCondS_m ((gt x0 k6).Query.Conds) (IntKind.i64.wrap ((IntKind.i64.wrap (s7 + 1)) + 1)))) + 1))) + 1)) + 1))
                    · have g63 : (((gt x0 k6).Cap) != (IntKind.i64.wrap ((IntKind.i64.wrap ((laws_heldIntS_m ((gt x0 k6).Todo) (IntKind.i64.wrap ((laws_heldIntS_m ((gt x0 k6).Query.Out) (laws_heldCondS_m ((gt x0 k6).Query.Conds) (IntKind.i64.wrap ((IntKind.i64.wrap (s7 + 1)) + 1)))) + 1))) + 1)) + 1))) = false := by rw [h62]; exact bne_self_eq_false _
                      refine CM_condF rfl g63 ?_
                      refine CM_skip ?_
                      refine QM_then ?_
                      refine sr ?_
                      refine wm ?_
                      refine wv (fun W hm => rv_add rfl rfl) ?_
                      refine wa ?_
                      refine nt' ?_
                      refine sr ?_
                      refine wm ?_
                      refine wm ?_
                      refine wv (fun W hm => rv_index (sz := 10) (k := k6) Try.underlying73 Try.type127 rfl rfl rfl (by omega)) ?_
                      refine wv (fun W hm => rv_field Try.underlying127 rfl Try.type39 (by decide) rfl rfl) ?_
                      refine wv (fun W hm => rv_load Try.underlying39 rfl rfl ((hm.cell0 (show ((a13.add (k6 * 10)).add 9).block < w.heap.size from by rw [add_block, add_block]; exact hb14.1)).trans (hc16 9 _ rfl))) ?_
                      refine wm ?_
                      refine WM_callV (cl_fn cb186 rfl) (fun W hm => laws_heldRowS_c W _ ((gt x0 k6).Rows) (IntKind.i64.wrap ((IntKind.i64.wrap ((IntKind.i64.wrap ((laws_heldIntS_m ((gt x0 k6).Todo) (IntKind.i64.wrap ((laws_heldIntS_m ((gt x0 k6).Query.Out) (laws_heldCondS_m ((gt x0 k6).Query.Conds) (IntKind.i64.wrap ((IntKind.i64.wrap (s7 + 1)) + 1)))) + 1))) + 1)) + 1)) + 1)) (hm.rdS0 r45)) (Wd_none rfl) (by decide) ?_
                      refine wa ?_
                      refine nt' ?_
                      refine sr ?_
                      refine wm ?_
                      refine wv (fun W hm => rv_lss rfl rfl) ?_
                      refine nt' ?_
                      by_cases h64 : (laws_heldRowS_m ((gt x0 k6).Rows) (IntKind.i64.wrap ((IntKind.i64.wrap ((IntKind.i64.wrap ((laws_heldIntS_m ((gt x0 k6).Todo) (IntKind.i64.wrap ((laws_heldIntS_m ((gt x0 k6).Query.Out) (laws_heldCondS_m ((gt x0 k6).Query.Conds) (IntKind.i64.wrap ((IntKind.i64.wrap (s7 + 1)) + 1)))) + 1))) + 1)) + 1)) + 1))) < 0
                      · have g65 : (decide ((laws_heldRowS_m ((gt x0 k6).Rows) (IntKind.i64.wrap ((IntKind.i64.wrap ((IntKind.i64.wrap ((laws_heldIntS_m ((gt x0 k6).Todo) (IntKind.i64.wrap ((laws_heldIntS_m ((gt x0 k6).Query.Out) (laws_heldCondS_m ((gt x0 k6).Query.Conds) (IntKind.i64.wrap ((IntKind.i64.wrap (s7 + 1)) + 1)))) + 1))) + 1)) + 1)) + 1))) < 0)) = true := decide_eq_true h64
                        refine CM_condT rfl g65 ?_
                        refine sr ?_
                        refine wa ?_
                        refine nt' ?_
                        refine CM_ret ?_
                        refine QM_block_ret ?_
                        refine QM_then_ret ?_
                        refine QM_then_ret ?_
                        refine QM_block_ret ?_
                        refine QM_then_ret ?_
                        exact QM_ret1 rfl rfl (fun W hm => ⟨ret_i (show laws_heldActiveS_m x0 x1 = (-1) from by unfold laws_heldActiveS_m; exact fin_inl (rng_ret (body := (fun k (s : Int) => laws_heldActiveS_b1 x0 k s)) (k := k6) (s := s7) (show k6 < x0.length from by omega) (show laws_heldActiveS_b1 x0 k6 s7 = Sum.inl (-1) from by unfold laws_heldActiveS_b1; exact cond_f g47 (cond_f g49 (cond_f g51 (cond_f g53 (cond_f g55 (cond_f g57 (cond_f g59 (cond_f g61 (cond_f g63 (cond_t g65 (rfl))))))))))) hF9) rfl), hm.below⟩)
                      · have g65 : (decide ((laws_heldRowS_m ((gt x0 k6).Rows) (IntKind.i64.wrap ((IntKind.i64.wrap ((IntKind.i64.wrap ((laws_heldIntS_m ((gt x0 k6).Todo) (IntKind.i64.wrap ((laws_heldIntS_m ((gt x0 k6).Query.Out) (laws_heldCondS_m ((gt x0 k6).Query.Conds) (IntKind.i64.wrap ((IntKind.i64.wrap (s7 + 1)) + 1)))) + 1))) + 1)) + 1)) + 1))) < 0)) = false := decide_eq_false h64
                        refine CM_condF rfl g65 ?_
                        refine CM_skip ?_
                        refine QM_block_normal ?_
                        refine QM_then ?_
                        refine CM_region ?_
                        refine wm ?_
                        refine wv (fun W hm => rv_addN (p := k6) (q := 1) rfl rfl (by omega)) ?_
                        refine wa ?_
                        refine WM_nil ?_
                        have hn66 := rng_next (R := Int) (body := (fun k (s : Int) => laws_heldActiveS_b1 x0 k s)) (k := k6) (s := s7) (s' := (laws_heldRowS_m ((gt x0 k6).Rows) (IntKind.i64.wrap ((IntKind.i64.wrap ((IntKind.i64.wrap ((laws_heldIntS_m ((gt x0 k6).Todo) (IntKind.i64.wrap ((laws_heldIntS_m ((gt x0 k6).Query.Out) (laws_heldCondS_m ((gt x0 k6).Query.Conds) (IntKind.i64.wrap ((IntKind.i64.wrap (s7 + 1)) + 1)))) + 1))) + 1)) + 1)) + 1)))) (show k6 < x0.length from by omega) (show laws_heldActiveS_b1 x0 k6 s7 = Sum.inr (laws_heldRowS_m ((gt x0 k6).Rows) (IntKind.i64.wrap ((IntKind.i64.wrap ((IntKind.i64.wrap ((laws_heldIntS_m ((gt x0 k6).Todo) (IntKind.i64.wrap ((laws_heldIntS_m ((gt x0 k6).Query.Out) (laws_heldCondS_m ((gt x0 k6).Query.Conds) (IntKind.i64.wrap ((IntKind.i64.wrap (s7 + 1)) + 1)))) + 1))) + 1)) + 1)) + 1))) from by unfold laws_heldActiveS_b1; exact cond_f g47 (cond_f g49 (cond_f g51 (cond_f g53 (cond_f g55 (cond_f g57 (cond_f g59 (cond_f g61 (cond_f g63 (cond_f g65 (rfl))))))))))) hF9
                        exact QM_round (k6 + 1, (laws_heldRowS_m ((gt x0 k6).Rows) (IntKind.i64.wrap ((IntKind.i64.wrap ((IntKind.i64.wrap ((laws_heldIntS_m ((gt x0 k6).Todo) (IntKind.i64.wrap ((laws_heldIntS_m ((gt x0 k6).Query.Out) (laws_heldCondS_m ((gt x0 k6).Query.Conds) (IntKind.i64.wrap ((IntKind.i64.wrap (s7 + 1)) + 1)))) + 1))) + 1)) + 1)) + 1))), ()) (subL_cons rfl (subL_cons rfl (subL_cons rfl subL_nil))) (fun W hm => hm) ⟨(by omega), hn66⟩ (show x0.length - (k6 + 1) < x0.length - k6 from by omega)
                    · have g63 : (((gt x0 k6).Cap) != (IntKind.i64.wrap ((IntKind.i64.wrap ((laws_heldIntS_m ((gt x0 k6).Todo) (IntKind.i64.wrap ((laws_heldIntS_m ((gt x0 k6).Query.Out) (laws_heldCondS_m ((gt x0 k6).Query.Conds) (IntKind.i64.wrap ((IntKind.i64.wrap (s7 + 1)) + 1)))) + 1))) + 1)) + 1))) = true := bne_iff_ne.2 h62
                      refine CM_condT rfl g63 ?_
                      refine sr ?_
                      refine wa ?_
                      refine nt' ?_
                      refine CM_ret ?_
                      refine QM_then_ret ?_
                      refine QM_block_ret ?_
                      refine QM_then_ret ?_
                      refine QM_then_ret ?_
                      refine QM_block_ret ?_
                      refine QM_then_ret ?_
                      exact QM_ret1 rfl rfl (fun W hm => ⟨ret_i (show laws_heldActiveS_m x0 x1 = (-1) from by unfold laws_heldActiveS_m; exact fin_inl (rng_ret (body := (fun k (s : Int) => laws_heldActiveS_b1 x0 k s)) (k := k6) (s := s7) (show k6 < x0.length from by omega) (show laws_heldActiveS_b1 x0 k6 s7 = Sum.inl (-1) from by unfold laws_heldActiveS_b1; exact cond_f g47 (cond_f g49 (cond_f g51 (cond_f g53 (cond_f g55 (cond_f g57 (cond_f g59 (cond_f g61 (cond_t g63 (rfl)))))))))) hF9) rfl), hm.below⟩)
                  · have g61 : (((gt x0 k6).Sent) != (IntKind.i64.wrap ((laws_heldIntS_m ((gt x0 k6).Todo) (IntKind.i64.wrap ((laws_heldIntS_m ((gt x0 k6).Query.Out) (laws_heldCondS_m ((gt x0 k6).Query.Conds) (IntKind.i64.wrap ((IntKind.i64.wrap (s7 + 1)) + 1)))) + 1))) + 1))) = true := bne_iff_ne.2 h60
                    refine CM_condT rfl g61 ?_
                    refine sr ?_
                    refine wa ?_
                    refine nt' ?_
                    refine CM_ret ?_
                    refine QM_then_ret ?_
                    refine QM_block_ret ?_
                    refine QM_then_ret ?_
                    refine QM_then_ret ?_
                    refine QM_block_ret ?_
                    refine QM_then_ret ?_
                    exact QM_ret1 rfl rfl (fun W hm => ⟨ret_i (show laws_heldActiveS_m x0 x1 = (-1) from by unfold laws_heldActiveS_m; exact fin_inl (rng_ret (body := (fun k (s : Int) => laws_heldActiveS_b1 x0 k s)) (k := k6) (s := s7) (show k6 < x0.length from by omega) (show laws_heldActiveS_b1 x0 k6 s7 = Sum.inl (-1) from by unfold laws_heldActiveS_b1; exact cond_f g47 (cond_f g49 (cond_f g51 (cond_f g53 (cond_f g55 (cond_f g57 (cond_f g59 (cond_t g61 (rfl))))))))) hF9) rfl), hm.below⟩)
                · have g59 : (((gt x0 k6).Age) != (laws_heldIntS_m ((gt x0 k6).Todo) (IntKind.i64.wrap ((laws_heldIntS_m ((gt x0 k6).Query.Out) (laws_heldCondS_m ((gt x0 k6).Query.Conds) (IntKind.i64.wrap ((IntKind.i64.wrap (s7 + 1)) + 1)))) + 1)))) = true := bne_iff_ne.2 h58
                  refine CM_condT rfl g59 ?_
                  refine sr ?_
                  refine wa ?_
                  refine nt' ?_
                  refine CM_ret ?_
                  refine QM_then_ret ?_
                  refine QM_block_ret ?_
                  refine QM_then_ret ?_
                  refine QM_then_ret ?_
                  refine QM_block_ret ?_
                  refine QM_then_ret ?_
                  exact QM_ret1 rfl rfl (fun W hm => ⟨ret_i (show laws_heldActiveS_m x0 x1 = (-1) from by unfold laws_heldActiveS_m; exact fin_inl (rng_ret (body := (fun k (s : Int) => laws_heldActiveS_b1 x0 k s)) (k := k6) (s := s7) (show k6 < x0.length from by omega) (show laws_heldActiveS_b1 x0 k6 s7 = Sum.inl (-1) from by unfold laws_heldActiveS_b1; exact cond_f g47 (cond_f g49 (cond_f g51 (cond_f g53 (cond_f g55 (cond_f g57 (cond_t g59 (rfl)))))))) hF9) rfl), hm.below⟩)
            · have g55 : (((gt x0 k6).Time) != (laws_heldIntS_m ((gt x0 k6).Query.Out) (laws_heldCondS_m ((gt x0 k6).Query.Conds) (IntKind.i64.wrap ((IntKind.i64.wrap (s7 + 1)) + 1))))) = true := bne_iff_ne.2 h54
              refine CM_condT rfl g55 ?_
              refine sr ?_
              refine wa ?_
              refine nt' ?_
              refine CM_ret ?_
              refine QM_then_ret ?_
              refine QM_block_ret ?_
              refine QM_then_ret ?_
              refine QM_then_ret ?_
              refine QM_block_ret ?_
              refine QM_then_ret ?_
              exact QM_ret1 rfl rfl (fun W hm => ⟨ret_i (show laws_heldActiveS_m x0 x1 = (-1) from by unfold laws_heldActiveS_m; exact fin_inl (rng_ret (body := (fun k (s : Int) => laws_heldActiveS_b1 x0 k s)) (k := k6) (s := s7) (show k6 < x0.length from by omega) (show laws_heldActiveS_b1 x0 k6 s7 = Sum.inl (-1) from by unfold laws_heldActiveS_b1; exact cond_f g47 (cond_f g49 (cond_f g51 (cond_f g53 (cond_t g55 (rfl)))))) hF9) rfl), hm.below⟩)
      · have g49 : (((gt x0 k6).Query.Tenant) != (IntKind.i64.wrap (s7 + 1))) = true := bne_iff_ne.2 h48
        refine CM_condT rfl g49 ?_
        refine sr ?_
        refine wa ?_
        refine nt' ?_
        refine CM_ret ?_
        refine QM_then_ret ?_
        refine QM_block_ret ?_
        refine QM_then_ret ?_
        refine QM_then_ret ?_
        refine QM_block_ret ?_
        refine QM_then_ret ?_
        exact QM_ret1 rfl rfl (fun W hm => ⟨ret_i (show laws_heldActiveS_m x0 x1 = (-1) from by unfold laws_heldActiveS_m; exact fin_inl (rng_ret (body := (fun k (s : Int) => laws_heldActiveS_b1 x0 k s)) (k := k6) (s := s7) (show k6 < x0.length from by omega) (show laws_heldActiveS_b1 x0 k6 s7 = Sum.inl (-1) from by unfold laws_heldActiveS_b1; exact cond_f g47 (cond_t g49 (rfl))) hF9) rfl), hm.below⟩)
    · have g47 : (((gt x0 k6).Query.Id) != s7) = true := bne_iff_ne.2 h46
      refine CM_condT rfl g47 ?_
      refine sr ?_
      refine wa ?_
      refine nt' ?_
      refine CM_ret ?_
      refine QM_then_ret ?_
      refine QM_block_ret ?_
      refine QM_then_ret ?_
      refine QM_then_ret ?_
      refine QM_block_ret ?_
      refine QM_then_ret ?_
      exact QM_ret1 rfl rfl (fun W hm => ⟨ret_i (show laws_heldActiveS_m x0 x1 = (-1) from by unfold laws_heldActiveS_m; exact fin_inl (rng_ret (body := (fun k (s : Int) => laws_heldActiveS_b1 x0 k s)) (k := k6) (s := s7) (show k6 < x0.length from by omega) (show laws_heldActiveS_b1 x0 k6 s7 = Sum.inl (-1) from by unfold laws_heldActiveS_b1; exact cond_t g47 (rfl)) hF9) rfl), hm.below⟩)
  · have g12 : (decide (((k6 : Nat) : Int) < ((x0.length : Nat) : Int))) = false := decide_eq_false (by omega)
    refine CM_condF rfl g12 ?_
    refine CM_exit ?_
    refine QM_then_exit ?_
    refine QM_then_exit ?_
    have hE67 : rng (R := Int) (fun k (s : Int) => laws_heldActiveS_b1 x0 k s) (x0.length - 0) 0 x1 = Sum.inr s7 := rng_end hl11 hF9
    refine QM_block_hit ?_
    refine QM_then ?_
    refine sr ?_
    refine wm ?_
    refine wa ?_
    refine nt' ?_
    refine CM_ret ?_
    exact QM_ret1 rfl rfl (fun W hm => ⟨ret_i (show laws_heldActiveS_m x0 x1 = s7 from by unfold laws_heldActiveS_m; exact fin_inr hE67 (rfl)), hm.below⟩)

def laws_heldFinishedS_b1 (x0 : (List DFinished)) (k6 : Nat) (s7 : Int) : Int ⊕ (Int) :=
  cond (((gt x0 k6).Query.Id) != s7) (Sum.inl (-1)) (cond (((gt x0 k6).Query.Tenant) != (IntKind.i64.wrap (s7 + 1))) (Sum.inl (-1)) (cond (decide ((laws_heldCondS_m ((gt x0 k6).Query.Conds) (IntKind.i64.wrap ((IntKind.i64.wrap (s7 + 1)) + 1))) < 0)) (Sum.inl (-1)) (cond (decide ((laws_heldIntS_m ((gt x0 k6).Query.Out) (laws_heldCondS_m ((gt x0 k6).Query.Conds) (IntKind.i64.wrap ((IntKind.i64.wrap (s7 + 1)) + 1)))) < 0)) (Sum.inl (-1)) (cond (((gt x0 k6).Time) != (laws_heldIntS_m ((gt x0 k6).Query.Out) (laws_heldCondS_m ((gt x0 k6).Query.Conds) (IntKind.i64.wrap ((IntKind.i64.wrap (s7 + 1)) + 1))))) (Sum.inl (-1)) (cond (((gt x0 k6).Steps) != (IntKind.i64.wrap ((laws_heldIntS_m ((gt x0 k6).Query.Out) (laws_heldCondS_m ((gt x0 k6).Query.Conds) (IntKind.i64.wrap ((IntKind.i64.wrap (s7 + 1)) + 1)))) + 1))) (Sum.inl (-1)) (cond (decide ((laws_heldRowS_m ((gt x0 k6).Rows) (IntKind.i64.wrap ((IntKind.i64.wrap ((laws_heldIntS_m ((gt x0 k6).Query.Out) (laws_heldCondS_m ((gt x0 k6).Query.Conds) (IntKind.i64.wrap ((IntKind.i64.wrap (s7 + 1)) + 1)))) + 1)) + 1))) < 0)) (Sum.inl (-1)) (Sum.inr (laws_heldRowS_m ((gt x0 k6).Rows) (IntKind.i64.wrap ((IntKind.i64.wrap ((laws_heldIntS_m ((gt x0 k6).Query.Out) (laws_heldCondS_m ((gt x0 k6).Query.Conds) (IntKind.i64.wrap ((IntKind.i64.wrap (s7 + 1)) + 1)))) + 1)) + 1))))))))))
def laws_heldFinishedS_m (x0 : (List DFinished)) (x1 : Int) : Int :=
  Sum.elim id (fun (s : Int) => s) (rng (R := Int) (fun k (s : Int) => laws_heldFinishedS_b1 x0 k s) (x0.length - 0) 0 x1)
theorem cb135 : Cb Try.prog 135 := ⟨Try.f135, _, Try.func135, rfl, by decide⟩
set_option maxRecDepth 10000 in
set_option maxHeartbeats 4000000 in
theorem laws_heldFinishedS_c (w : World) (z0 : Value) (x0 : (List DFinished)) (x1 : Int) (r_0 : rdS tyFinished w w.heap.size z0 x0) :
    Calls Try.prog 135 #[z0, .int .i64 x1] w fun e w' => e = .returned (.int .i64 (laws_heldFinishedS_m x0 x1)) ∧ Below w.heap.size w w' := by
  have r5 := r_0
  obtain ⟨m1, A2, c3, rfl, q4⟩ := r_0
  refine call_enterM (L := [(0, .slice A2 x0.length c3), (1, .int .i64 x1)]) (N := 80) Try.func135 rfl rfl (Nat.le_of_ble_eq_true rfl) (argsL_cons rfl (argsL_cons rfl argsL_nil)) ?_
  refine sr ?_
  refine wa ?_
  refine nt' ?_
  refine CM_seq ?_
  refine sr ?_
  refine wa ?_
  refine nt' ?_
  refine CM_block ?_
  refine CM_loop (σ := Nat × (Int) × (Unit)) (fun s => [(0, .slice A2 x0.length c3), (1, .int .i64 s.2.1), (5, .int .i64 ((s.1 : Nat) : Int))]) (fun s => []) (fun s => s.1 ≤ x0.length ∧ rng (R := Int) (fun k (s : Int) => laws_heldFinishedS_b1 x0 k s) (x0.length - s.1) s.1 s.2.1 = rng (R := Int) (fun k (s : Int) => laws_heldFinishedS_b1 x0 k s) (x0.length - 0) 0 x1) (fun s => x0.length - s.1) (0, x1, ()) (subL_cons rfl (subL_cons rfl (subL_cons rfl subL_nil))) (fun W hm => hm) ⟨(by omega), rfl⟩ ?_
  rintro ⟨k6, s7, ⟨⟩⟩ H10
  obtain ⟨hk8, hF9⟩ : k6 ≤ x0.length ∧ rng (R := Int) (fun k (s : Int) => laws_heldFinishedS_b1 x0 k s) (x0.length - k6) k6 s7 = rng (R := Int) (fun k (s : Int) => laws_heldFinishedS_b1 x0 k s) (x0.length - 0) 0 x1 := H10
  show CM Try.prog 80 _ _ _ _ [(0, .slice A2 x0.length c3), (1, .int .i64 s7), (5, .int .i64 ((k6 : Nat) : Int))] []
  refine CM_seq ?_
  refine sr ?_
  refine wm ?_
  refine wm ?_
  refine wv (fun W hm => rv_len Try.underlying74 rfl) ?_
  refine wv (fun W hm => rv_lss rfl rfl) ?_
  refine nt' ?_
  by_cases hl11 : k6 < x0.length
  · have g12 : (decide (((k6 : Nat) : Int) < ((x0.length : Nat) : Int))) = true := decide_eq_true (by omega)
    refine CM_condT rfl g12 ?_
    refine CM_skip ?_
    refine QM_then ?_
    refine CM_seq ?_
    refine CM_block ?_
    refine CM_seq ?_
    refine sr ?_
    refine wm ?_
    refine wm ?_
    obtain ⟨a13, rfl, hb14, he15⟩ := q4 (by omega)
    refine wv (fun W hm => rv_index (sz := 7) (k := k6) Try.underlying74 Try.type136 rfl rfl rfl (by omega)) ?_
    refine wv (fun W hm => rv_field Try.underlying136 rfl Try.type125 (by decide) rfl rfl) ?_
    refine wv (fun W hm => rv_fieldA (o := 0) Try.underlying125 rfl Try.type3 (by decide) rfl rfl) ?_
    obtain ⟨_, e23, hc16⟩ := he15 k6 _ (gt_some (show k6 < x0.length from by omega))
    obtain ⟨v17, v19, v21, rfl, r18, r20, r22⟩ := tyFinished_rd e23
    have r28 := r18
    obtain ⟨m24, A25, c26, rfl, q27⟩ := r18
    have r33 := r20
    obtain ⟨m29, A30, c31, rfl, q32⟩ := r20
    have r38 := r22
    obtain ⟨m34, A35, c36, rfl, q37⟩ := r22
    refine wv (fun W hm => rv_load Try.underlying3 rfl rfl ((hm.cell0 (show ((a13.add (k6 * 7)).add 0).block < w.heap.size from by rw [add_block, add_block]; exact hb14.1)).trans (hc16 0 _ rfl))) ?_
    refine wm ?_
    refine wv (fun W hm => rv_neq rfl rfl) ?_
    refine nt' ?_
    by_cases h39 : ((gt x0 k6).Query.Id) = s7
    · have g40 : (((gt x0 k6).Query.Id) != s7) = false := by rw [h39]; exact bne_self_eq_false _
      refine CM_condF rfl g40 ?_
      refine CM_skip ?_
      refine QM_then ?_
      refine sr ?_
      refine wm ?_
      refine wv (fun W hm => rv_add rfl rfl) ?_
      refine wa ?_
      refine nt' ?_
      refine CM_seq ?_
      refine sr ?_
      refine wm ?_
      refine wm ?_
      refine wv (fun W hm => rv_index (sz := 7) (k := k6) Try.underlying74 Try.type136 rfl rfl rfl (by omega)) ?_
      refine wv (fun W hm => rv_field Try.underlying136 rfl Try.type125 (by decide) rfl rfl) ?_
      refine wv (fun W hm => rv_fieldA (o := 1) Try.underlying125 rfl Try.type3 (by decide) rfl rfl) ?_
      refine wv (fun W hm => rv_load Try.underlying3 rfl rfl ((hm.cell0 (show ((a13.add (k6 * 7)).add 1).block < w.heap.size from by rw [add_block, add_block]; exact hb14.1)).trans (hc16 1 _ rfl))) ?_
      refine wm ?_
      refine wv (fun W hm => rv_neq rfl rfl) ?_
      refine nt' ?_
      by_cases h41 : ((gt x0 k6).Query.Tenant) = (IntKind.i64.wrap (s7 + 1))
      · have g42 : (((gt x0 k6).Query.Tenant) != (IntKind.i64.wrap (s7 + 1))) = false := by rw [h41]; exact bne_self_eq_false _
        refine CM_condF rfl g42 ?_
        refine CM_skip ?_
        refine QM_then ?_
        refine sr ?_
        refine wm ?_
        refine wv (fun W hm => rv_add rfl rfl) ?_
        refine wa ?_
        refine nt' ?_
        refine sr ?_
        refine wm ?_
        refine wm ?_
        refine wv (fun W hm => rv_index (sz := 7) (k := k6) Try.underlying74 Try.type136 rfl rfl rfl (by omega)) ?_
        refine wv (fun W hm => rv_field Try.underlying136 rfl Try.type125 (by decide) rfl rfl) ?_
        refine wv (fun W hm => rv_fieldA (o := 2) Try.underlying125 rfl Try.type123 (by decide) rfl rfl) ?_
        refine wv (fun W hm => rv_load Try.underlying123 rfl rfl ((hm.cell0 (show ((a13.add (k6 * 7)).add 2).block < w.heap.size from by rw [add_block, add_block]; exact hb14.1)).trans (hc16 2 _ rfl))) ?_
        refine wm ?_
        refine WM_callV (cl_fn cb185 rfl) (fun W hm => laws_heldCondS_c W _ ((gt x0 k6).Query.Conds) (IntKind.i64.wrap ((IntKind.i64.wrap (s7 + 1)) + 1)) (hm.rdS0 r28)) (Wd_none rfl) (by decide) ?_
        refine wa ?_
        refine nt' ?_
        refine CM_seq ?_
        refine sr ?_
        refine wm ?_
        refine wv (fun W hm => rv_lss rfl rfl) ?_
        refine nt' ?_
        by_cases h43 : (laws_heldCondS_m ((gt x0 k6).Query.Conds) (IntKind.i64.wrap ((IntKind.i64.wrap (s7 + 1)) + 1))) < 0
        · have g44 : (decide ((laws_heldCondS_m ((gt x0 k6).Query.Conds) (IntKind.i64.wrap ((IntKind.i64.wrap (s7 + 1)) + 1))) < 0)) = true := decide_eq_true h43
          refine CM_condT rfl g44 ?_
          refine sr ?_
          refine wa ?_
          refine nt' ?_
          refine CM_ret ?_
          refine QM_then_ret ?_
          refine QM_block_ret ?_
          refine QM_then_ret ?_
          refine QM_then_ret ?_
          refine QM_block_ret ?_
          refine QM_then_ret ?_
          exact QM_ret1 rfl rfl (fun W hm => ⟨ret_i (show laws_heldFinishedS_m x0 x1 = (-1) from by unfold laws_heldFinishedS_m; exact fin_inl (rng_ret (body := (fun k (s : Int) => laws_heldFinishedS_b1 x0 k s)) (k := k6) (s := s7) (show k6 < x0.length from by omega) (show laws_heldFinishedS_b1 x0 k6 s7 = Sum.inl (-1) from by unfold laws_heldFinishedS_b1; exact cond_f g40 (cond_f g42 (cond_t g44 (rfl)))) hF9) rfl), hm.below⟩)
        · have g44 : (decide ((laws_heldCondS_m ((gt x0 k6).Query.Conds) (IntKind.i64.wrap ((IntKind.i64.wrap (s7 + 1)) + 1))) < 0)) = false := decide_eq_false h43
          refine CM_condF rfl g44 ?_
          refine CM_skip ?_
          refine QM_then ?_
          refine sr ?_
          refine wm ?_
          refine wm ?_
          refine wv (fun W hm => rv_index (sz := 7) (k := k6) Try.underlying74 Try.type136 rfl rfl rfl (by omega)) ?_
          refine wv (fun W hm => rv_field Try.underlying136 rfl Try.type125 (by decide) rfl rfl) ?_
          refine wv (fun W hm => rv_fieldA (o := 3) Try.underlying125 rfl Try.type27 (by decide) rfl rfl) ?_
          refine wv (fun W hm => rv_load Try.underlying27 rfl rfl ((hm.cell0 (show ((a13.add (k6 * 7)).add 3).block < w.heap.size from by rw [add_block, add_block]; exact hb14.1)).trans (hc16 3 _ rfl))) ?_
          refine wm ?_
          refine WM_callV (cl_fn cb69 rfl) (fun W hm => laws_heldIntS_c W _ ((gt x0 k6).Query.Out) (laws_heldCondS_m ((gt x0 k6).Query.Conds) (IntKind.i64.wrap ((IntKind.i64.wrap (s7 + 1)) + 1))) (hm.rdS0 r33)) (Wd_none rfl) (by decide) ?_
          refine wa ?_
          refine nt' ?_
          refine CM_seq ?_
          refine sr ?_
          refine wm ?_
          refine wv (fun W hm => rv_lss rfl rfl) ?_
          refine nt' ?_
          by_cases h45 : (laws_heldIntS_m ((gt x0 k6).Query.Out) (laws_heldCondS_m ((gt x0 k6).Query.Conds) (IntKind.i64.wrap ((IntKind.i64.wrap (s7 + 1)) + 1)))) < 0
          · have g46 : (decide ((laws_heldIntS_m ((gt x0 k6).Query.Out) (laws_heldCondS_m ((gt x0 k6).Query.Conds) (IntKind.i64.wrap ((IntKind.i64.wrap (s7 + 1)) + 1)))) < 0)) = true := decide_eq_true h45
            refine CM_condT rfl g46 ?_
            refine sr ?_
            refine wa ?_
            refine nt' ?_
            refine CM_ret ?_
            refine QM_then_ret ?_
            refine QM_block_ret ?_
            refine QM_then_ret ?_
            refine QM_then_ret ?_
            refine QM_block_ret ?_
            refine QM_then_ret ?_
            exact QM_ret1 rfl rfl (fun W hm => ⟨ret_i (show laws_heldFinishedS_m x0 x1 = (-1) from by unfold laws_heldFinishedS_m; exact fin_inl (rng_ret (body := (fun k (s : Int) => laws_heldFinishedS_b1 x0 k s)) (k := k6) (s := s7) (show k6 < x0.length from by omega) (show laws_heldFinishedS_b1 x0 k6 s7 = Sum.inl (-1) from by unfold laws_heldFinishedS_b1; exact cond_f g40 (cond_f g42 (cond_f g44 (cond_t g46 (rfl))))) hF9) rfl), hm.below⟩)
          · have g46 : (decide ((laws_heldIntS_m ((gt x0 k6).Query.Out) (laws_heldCondS_m ((gt x0 k6).Query.Conds) (IntKind.i64.wrap ((IntKind.i64.wrap (s7 + 1)) + 1)))) < 0)) = false := decide_eq_false h45
            refine CM_condF rfl g46 ?_
            refine CM_skip ?_
            refine QM_then ?_
            refine CM_seq ?_
            refine sr ?_
            refine wm ?_
            refine wm ?_
            refine wv (fun W hm => rv_index (sz := 7) (k := k6) Try.underlying74 Try.type136 rfl rfl rfl (by omega)) ?_
            refine wv (fun W hm => rv_field Try.underlying136 rfl Try.type3 (by decide) rfl rfl) ?_
            refine wv (fun W hm => rv_load Try.underlying3 rfl rfl ((hm.cell0 (show ((a13.add (k6 * 7)).add 4).block < w.heap.size from by rw [add_block, add_block]; exact hb14.1)).trans (hc16 4 _ rfl))) ?_
            refine wm ?_
            refine wv (fun W hm => rv_neq rfl rfl) ?_
            refine nt' ?_
            by_cases h47 : ((gt x0 k6).Time) = (laws_heldIntS_m ((gt x0 k6).Query.Out) (laws_heldCondS_m ((gt x0 k6).Query.Conds) (IntKind.i64.wrap ((IntKind.i64.wrap (s7 + 1)) + 1))))
            · have g48 : (((gt x0 k6).Time) != (laws_heldIntS_m ((gt x0 k6).Query.Out) (laws_heldCondS_m ((gt x0 k6).Query.Conds) (IntKind.i64.wrap ((IntKind.i64.wrap (s7 + 1)) + 1))))) = false := by rw [h47]; exact bne_self_eq_false _
              refine CM_condF rfl g48 ?_
              refine CM_skip ?_
              refine QM_then ?_
              refine sr ?_
              refine wm ?_
              refine wv (fun W hm => rv_add rfl rfl) ?_
              refine wa ?_
              refine nt' ?_
              refine CM_seq ?_
              refine sr ?_
              refine wm ?_
              refine wm ?_
              refine wv (fun W hm => rv_index (sz := 7) (k := k6) Try.underlying74 Try.type136 rfl rfl rfl (by omega)) ?_
              refine wv (fun W hm => rv_field Try.underlying136 rfl Try.type3 (by decide) rfl rfl) ?_
              refine wv (fun W hm => rv_load Try.underlying3 rfl rfl ((hm.cell0 (show ((a13.add (k6 * 7)).add 5).block < w.heap.size from by rw [add_block, add_block]; exact hb14.1)).trans (hc16 5 _ rfl))) ?_
              refine wm ?_
              refine wv (fun W hm => rv_neq rfl rfl) ?_
              refine nt' ?_
              by_cases h49 : ((gt x0 k6).Steps) = (IntKind.i64.wrap ((laws_heldIntS_m ((gt x0 k6).Query.Out) (laws_heldCondS_m ((gt x0 k6).Query.Conds) (IntKind.i64.wrap ((IntKind.i64.wrap (s7 + 1)) + 1)))) + 1))
              · have g50 : (((gt x0 k6).Steps) != (IntKind.i64.wrap ((laws_heldIntS_m ((gt x0 k6).Query.Out) (laws_heldCondS_m ((gt x0 k6).Query.Conds) (IntKind.i64.wrap ((IntKind.i64.wrap (s7 + 1)) + 1)))) + 1))) = false := by rw [h49]; exact bne_self_eq_false _
                refine CM_condF rfl g50 ?_
                refine CM_skip ?_
                refine QM_then ?_
                refine sr ?_
                refine wm ?_
                refine wv (fun W hm => rv_add rfl rfl) ?_
                refine wa ?_
                refine nt' ?_
                refine sr ?_
                refine wm ?_
                refine wm ?_
                refine wv (fun W hm => rv_index (sz := 7) (k := k6) Try.underlying74 Try.type136 rfl rfl rfl (by omega)) ?_
                refine wv (fun W hm => rv_field Try.underlying136 rfl Try.type39 (by decide) rfl rfl) ?_
                refine wv (fun W hm => rv_load Try.underlying39 rfl rfl ((hm.cell0 (show ((a13.add (k6 * 7)).add 6).block < w.heap.size from by rw [add_block, add_block]; exact hb14.1)).trans (hc16 6 _ rfl))) ?_
                refine wm ?_
                refine WM_callV (cl_fn cb186 rfl) (fun W hm => laws_heldRowS_c W _ ((gt x0 k6).Rows) (IntKind.i64.wrap ((IntKind.i64.wrap ((laws_heldIntS_m ((gt x0 k6).Query.Out) (laws_heldCondS_m ((gt x0 k6).Query.Conds) (IntKind.i64.wrap ((IntKind.i64.wrap (s7 + 1)) + 1)))) + 1)) + 1)) (hm.rdS0 r38)) (Wd_none rfl) (by decide) ?_
                refine wa ?_
                refine nt' ?_
                refine sr ?_
                refine wm ?_
                refine wv (fun W hm => rv_lss rfl rfl) ?_
                refine nt' ?_
                by_cases h51 : (laws_heldRowS_m ((gt x0 k6).Rows) (IntKind.i64.wrap ((IntKind.i64.wrap ((laws_heldIntS_m ((gt x0 k6).Query.Out) (laws_heldCondS_m ((gt x0 k6).Query.Conds) (IntKind.i64.wrap ((IntKind.i64.wrap (s7 + 1)) + 1)))) + 1)) + 1))) < 0
                · have g52 : (decide ((laws_heldRowS_m ((gt x0 k6).Rows) (IntKind.i64.wrap ((IntKind.i64.wrap ((laws_heldIntS_m ((gt x0 k6).Query.Out) (laws_heldCondS_m ((gt x0 k6).Query.Conds) (IntKind.i64.wrap ((IntKind.i64.wrap (s7 + 1)) + 1)))) + 1)) + 1))) < 0)) = true := decide_eq_true h51
                  refine CM_condT rfl g52 ?_
                  refine sr ?_
                  refine wa ?_
                  refine nt' ?_
                  refine CM_ret ?_
                  refine QM_block_ret ?_
                  refine QM_then_ret ?_
                  refine QM_then_ret ?_
                  refine QM_block_ret ?_
                  refine QM_then_ret ?_
                  exact QM_ret1 rfl rfl (fun W hm => ⟨ret_i (show laws_heldFinishedS_m x0 x1 = (-1) from by unfold laws_heldFinishedS_m; exact fin_inl (rng_ret (body := (fun k (s : Int) => laws_heldFinishedS_b1 x0 k s)) (k := k6) (s := s7) (show k6 < x0.length from by omega) (show laws_heldFinishedS_b1 x0 k6 s7 = Sum.inl (-1) from by unfold laws_heldFinishedS_b1; exact cond_f g40 (cond_f g42 (cond_f g44 (cond_f g46 (cond_f g48 (cond_f g50 (cond_t g52 (rfl)))))))) hF9) rfl), hm.below⟩)
                · have g52 : (decide ((laws_heldRowS_m ((gt x0 k6).Rows) (IntKind.i64.wrap ((IntKind.i64.wrap ((laws_heldIntS_m ((gt x0 k6).Query.Out) (laws_heldCondS_m ((gt x0 k6).Query.Conds) (IntKind.i64.wrap ((IntKind.i64.wrap (s7 + 1)) + 1)))) + 1)) + 1))) < 0)) = false := decide_eq_false h51
                  refine CM_condF rfl g52 ?_
                  refine CM_skip ?_
                  refine QM_block_normal ?_
                  refine QM_then ?_
                  refine CM_region ?_
                  refine wm ?_
                  refine wv (fun W hm => rv_addN (p := k6) (q := 1) rfl rfl (by omega)) ?_
                  refine wa ?_
                  refine WM_nil ?_
                  have hn53 := rng_next (R := Int) (body := (fun k (s : Int) => laws_heldFinishedS_b1 x0 k s)) (k := k6) (s := s7) (s' := (laws_heldRowS_m ((gt x0 k6).Rows) (IntKind.i64.wrap ((IntKind.i64.wrap ((laws_heldIntS_m ((gt x0 k6).Query.Out) (laws_heldCondS_m ((gt x0 k6).Query.Conds) (IntKind.i64.wrap ((IntKind.i64.wrap (s7 + 1)) + 1)))) + 1)) + 1)))) (show k6 < x0.length from by omega) (show laws_heldFinishedS_b1 x0 k6 s7 = Sum.inr (laws_heldRowS_m ((gt x0 k6).Rows) (IntKind.i64.wrap ((IntKind.i64.wrap ((laws_heldIntS_m ((gt x0 k6).Query.Out) (laws_heldCondS_m ((gt x0 k6).Query.Conds) (IntKind.i64.wrap ((IntKind.i64.wrap (s7 + 1)) + 1)))) + 1)) + 1))) from by unfold laws_heldFinishedS_b1; exact cond_f g40 (cond_f g42 (cond_f g44 (cond_f g46 (cond_f g48 (cond_f g50 (cond_f g52 (rfl)))))))) hF9
                  exact QM_round (k6 + 1, (laws_heldRowS_m ((gt x0 k6).Rows) (IntKind.i64.wrap ((IntKind.i64.wrap ((laws_heldIntS_m ((gt x0 k6).Query.Out) (laws_heldCondS_m ((gt x0 k6).Query.Conds) (IntKind.i64.wrap ((IntKind.i64.wrap (s7 + 1)) + 1)))) + 1)) + 1))), ()) (subL_cons rfl (subL_cons rfl (subL_cons rfl subL_nil))) (fun W hm => hm) ⟨(by omega), hn53⟩ (show x0.length - (k6 + 1) < x0.length - k6 from by omega)
              · have g50 : (((gt x0 k6).Steps) != (IntKind.i64.wrap ((laws_heldIntS_m ((gt x0 k6).Query.Out) (laws_heldCondS_m ((gt x0 k6).Query.Conds) (IntKind.i64.wrap ((IntKind.i64.wrap (s7 + 1)) + 1)))) + 1))) = true := bne_iff_ne.2 h49
                refine CM_condT rfl g50 ?_
                refine sr ?_
                refine wa ?_
                refine nt' ?_
                refine CM_ret ?_
                refine QM_then_ret ?_
                refine QM_block_ret ?_
                refine QM_then_ret ?_
                refine QM_then_ret ?_
                refine QM_block_ret ?_
                refine QM_then_ret ?_
                exact QM_ret1 rfl rfl (fun W hm => ⟨ret_i (show laws_heldFinishedS_m x0 x1 = (-1) from by unfold laws_heldFinishedS_m; exact fin_inl (rng_ret (body := (fun k (s : Int) => laws_heldFinishedS_b1 x0 k s)) (k := k6) (s := s7) (show k6 < x0.length from by omega) (show laws_heldFinishedS_b1 x0 k6 s7 = Sum.inl (-1) from by unfold laws_heldFinishedS_b1; exact cond_f g40 (cond_f g42 (cond_f g44 (cond_f g46 (cond_f g48 (cond_t g50 (rfl))))))) hF9) rfl), hm.below⟩)
            · have g48 : (((gt x0 k6).Time) != (laws_heldIntS_m ((gt x0 k6).Query.Out) (laws_heldCondS_m ((gt x0 k6).Query.Conds) (IntKind.i64.wrap ((IntKind.i64.wrap (s7 + 1)) + 1))))) = true := bne_iff_ne.2 h47
              refine CM_condT rfl g48 ?_
              refine sr ?_
              refine wa ?_
              refine nt' ?_
              refine CM_ret ?_
              refine QM_then_ret ?_
              refine QM_block_ret ?_
              refine QM_then_ret ?_
              refine QM_then_ret ?_
              refine QM_block_ret ?_
              refine QM_then_ret ?_
              exact QM_ret1 rfl rfl (fun W hm => ⟨ret_i (show laws_heldFinishedS_m x0 x1 = (-1) from by unfold laws_heldFinishedS_m; exact fin_inl (rng_ret (body := (fun k (s : Int) => laws_heldFinishedS_b1 x0 k s)) (k := k6) (s := s7) (show k6 < x0.length from by omega) (show laws_heldFinishedS_b1 x0 k6 s7 = Sum.inl (-1) from by unfold laws_heldFinishedS_b1; exact cond_f g40 (cond_f g42 (cond_f g44 (cond_f g46 (cond_t g48 (rfl)))))) hF9) rfl), hm.below⟩)
      · have g42 : (((gt x0 k6).Query.Tenant) != (IntKind.i64.wrap (s7 + 1))) = true := bne_iff_ne.2 h41
        refine CM_condT rfl g42 ?_
        refine sr ?_
        refine wa ?_
        refine nt' ?_
        refine CM_ret ?_
        refine QM_then_ret ?_
        refine QM_block_ret ?_
        refine QM_then_ret ?_
        refine QM_then_ret ?_
        refine QM_block_ret ?_
        refine QM_then_ret ?_
        exact QM_ret1 rfl rfl (fun W hm => ⟨ret_i (show laws_heldFinishedS_m x0 x1 = (-1) from by unfold laws_heldFinishedS_m; exact fin_inl (rng_ret (body := (fun k (s : Int) => laws_heldFinishedS_b1 x0 k s)) (k := k6) (s := s7) (show k6 < x0.length from by omega) (show laws_heldFinishedS_b1 x0 k6 s7 = Sum.inl (-1) from by unfold laws_heldFinishedS_b1; exact cond_f g40 (cond_t g42 (rfl))) hF9) rfl), hm.below⟩)
    · have g40 : (((gt x0 k6).Query.Id) != s7) = true := bne_iff_ne.2 h39
      refine CM_condT rfl g40 ?_
      refine sr ?_
      refine wa ?_
      refine nt' ?_
      refine CM_ret ?_
      refine QM_then_ret ?_
      refine QM_block_ret ?_
      refine QM_then_ret ?_
      refine QM_then_ret ?_
      refine QM_block_ret ?_
      refine QM_then_ret ?_
      exact QM_ret1 rfl rfl (fun W hm => ⟨ret_i (show laws_heldFinishedS_m x0 x1 = (-1) from by unfold laws_heldFinishedS_m; exact fin_inl (rng_ret (body := (fun k (s : Int) => laws_heldFinishedS_b1 x0 k s)) (k := k6) (s := s7) (show k6 < x0.length from by omega) (show laws_heldFinishedS_b1 x0 k6 s7 = Sum.inl (-1) from by unfold laws_heldFinishedS_b1; exact cond_t g40 (rfl)) hF9) rfl), hm.below⟩)
  · have g12 : (decide (((k6 : Nat) : Int) < ((x0.length : Nat) : Int))) = false := decide_eq_false (by omega)
    refine CM_condF rfl g12 ?_
    refine CM_exit ?_
    refine QM_then_exit ?_
    refine QM_then_exit ?_
    have hE54 : rng (R := Int) (fun k (s : Int) => laws_heldFinishedS_b1 x0 k s) (x0.length - 0) 0 x1 = Sum.inr s7 := rng_end hl11 hF9
    refine QM_block_hit ?_
    refine QM_then ?_
    refine sr ?_
    refine wm ?_
    refine wa ?_
    refine nt' ?_
    refine CM_ret ?_
    exact QM_ret1 rfl rfl (fun W hm => ⟨ret_i (show laws_heldFinishedS_m x0 x1 = s7 from by unfold laws_heldFinishedS_m; exact fin_inr hE54 (rfl)), hm.below⟩)

end Go.Proofs.Ytfjhiegahdknmaa
