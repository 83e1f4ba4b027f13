/-
  Contracts of functions, printed by a program of ours.
-/
import Derived.Test.YtlpgopanikikkaaDat
namespace Go.Proofs.Ytlpgopanikikkaa
open Go.RowKit
def laws_szGroupS_m (x0 : (List DGroup)) (x1 : Int) : Int :=
  cond (decide ((IntKind.i64.wrap (x1 - ((x0.length : Nat) : Int))) < 0)) (-1) (IntKind.i64.wrap (x1 - ((x0.length : Nat) : Int)))
theorem cb17 : Cb Try.prog 17 := ⟨Try.f17, _, Try.func17, rfl, by decide⟩
set_option maxRecDepth 10000 in
theorem laws_szGroupS_c (w : World) (z0 : Value) (x0 : (List DGroup)) (x1 : Int) (r_0 : rdS tyLGroup w w.heap.size z0 x0) :
    Calls Try.prog 17 #[z0, .int .i64 x1] w fun e w' => e = .returned (.int .i64 (laws_szGroupS_m x0 x1)) ∧ Below w.heap.size w w' := by
  have r5 := r_0
  obtain ⟨m1, A2, c3, rfl, q4⟩ := r_0
  refine call_enterM (L := [(0, .slice A2 x0.length c3), (1, .int .i64 x1)]) (N := 12) Try.func17 rfl rfl (Nat.le_of_ble_eq_true rfl) (argsL_cons rfl (argsL_cons rfl argsL_nil)) ?_
  refine CM_seq ?_
  refine CM_region ?_
  refine WM_val (fun W hm => rv_assign rfl) (Wd_none rfl) rfl (by decide) ?_
  refine WM_nil ?_
  refine QM_then ?_
  refine CM_seq ?_
  refine CM_region ?_
  refine WM_val (fun W hm => rv_move rfl) (Wd_none rfl) rfl (by decide) ?_
  refine WM_val (fun W hm => rv_move rfl) (Wd_none rfl) rfl (by decide) ?_
  refine WM_val (fun W hm => rv_len Try.underlying24 rfl) (Wd_none rfl) rfl (by decide) ?_
  refine WM_val (fun W hm => rv_sub rfl rfl) (Wd_none rfl) rfl (by decide) ?_
  refine WM_val (fun W hm => rv_assign rfl) (Wd_none rfl) rfl (by decide) ?_
  refine WM_nil ?_
  refine QM_then ?_
  refine CM_seq ?_
  refine CM_seq ?_
  refine CM_region ?_
  refine WM_val (fun W hm => rv_move rfl) (Wd_none rfl) rfl (by decide) ?_
  refine WM_val (fun W hm => rv_lss rfl rfl) (Wd_none rfl) rfl (by decide) ?_
  refine WM_nil ?_
  refine QM_then ?_
  by_cases h6 : (IntKind.i64.wrap (x1 - ((x0.length : Nat) : Int))) < 0
  · have g7 : (decide ((IntKind.i64.wrap (x1 - ((x0.length : Nat) : Int))) < 0)) = true := decide_eq_true h6
    refine CM_condT rfl g7 ?_
    refine CM_seq ?_
    refine CM_region ?_
    refine WM_val (fun W hm => rv_assign rfl) (Wd_none rfl) rfl (by decide) ?_
    refine WM_nil ?_
    refine QM_then ?_
    refine CM_ret ?_
    refine QM_then_ret ?_
    exact QM_ret1 rfl rfl (fun W hm => ⟨ret_i (show laws_szGroupS_m x0 x1 = (-1) from by unfold laws_szGroupS_m; exact cond_t g7 (rfl)), hm.below⟩)
  · have g7 : (decide ((IntKind.i64.wrap (x1 - ((x0.length : Nat) : Int))) < 0)) = false := decide_eq_false h6
    refine CM_condF rfl g7 ?_
    refine CM_skip ?_
    refine QM_then ?_
    refine CM_seq ?_
    refine CM_region ?_
    refine WM_val (fun W hm => rv_move rfl) (Wd_none rfl) rfl (by decide) ?_
    refine WM_val (fun W hm => rv_assign rfl) (Wd_none rfl) rfl (by decide) ?_
    refine WM_nil ?_
    refine QM_then ?_
    refine CM_ret ?_
    exact QM_ret1 rfl rfl (fun W hm => ⟨ret_i (show laws_szGroupS_m x0 x1 = (IntKind.i64.wrap (x1 - ((x0.length : Nat) : Int))) from by unfold laws_szGroupS_m; exact cond_f g7 (rfl)), hm.below⟩)

def laws_toGroup_m (x0 : DGroup) : DGroup :=
  x0
theorem cb63 : Cb Try.prog 63 := ⟨Try.f63, _, Try.func63, rfl, by decide⟩
set_option maxRecDepth 10000 in
theorem laws_toGroup_c (w : World) (z0 : List Value) (x0 : DGroup) (r_0 : tyLGroup.rd w w.heap.size z0 x0) :
    Calls Try.prog 63 #[.agg z0.toArray] w fun e w' => ∃ v : List Value, e = .returned (.agg v.toArray) ∧ Mem w.heap.size w [iOwn tyGroup v (laws_toGroup_m x0)] w' := by
  obtain rfl := tyLGroup_rd r_0
  refine call_enterM (L := [(0, .agg #[.int .i64 x0.Query, .int .i64 x0.Value, .int .i64 x0.Count, .int .i64 x0.Sum])]) (N := 17) Try.func63 rfl rfl (Nat.le_of_ble_eq_true rfl) (argsL_cons rfl argsL_nil) ?_
  refine CM_seq ?_
  refine CM_region ?_
  refine WM_box rfl (Wd_none rfl) (by decide) (fun p1 => ?_)
  refine WM_alloc Try.type80 rfl (Wd_none rfl) (by decide) (fun p2 => ?_)
  refine WM_nil ?_
  refine QM_then ?_
  refine CM_seq ?_
  refine CM_region ?_
  refine WM_alloc Try.type80 rfl (Wd_none rfl) (by decide) (fun p3 => ?_)
  refine WM_nil ?_
  refine QM_then ?_
  refine CM_seq ?_
  refine CM_region ?_
  refine WM_val (fun W hm => rv_field Try.underlying82 rfl Try.type3 (by decide) rfl rfl) (Wd_none rfl) rfl (by decide) ?_
  refine WM_val (fun W hm => rv_load Try.underlying3 rfl rfl (hm.boxCell (n := 2) (o := 0) rfl rfl)) (Wd_none rfl) rfl (by decide) ?_
  refine WM_val (fun W hm => rv_field Try.underlying80 rfl Try.type3 (by decide) rfl rfl) (Wd_none rfl) rfl (by decide) ?_
  refine WM_storeBox (p := p3) (o := 0) (cs := [.int .i64 0, .int .i64 0, .int .i64 0, .int .i64 0]) (cs' := [.int .i64 x0.Query, .int .i64 0, .int .i64 0, .int .i64 0]) (fun w hm => hm.front (n := 0) rfl) Try.type3 rfl (Nat.le_of_ble_eq_true rfl) rfl rfl rfl rfl (Wd_none rfl) ?_
  refine WM_nil ?_
  refine QM_then ?_
  refine CM_seq ?_
  refine CM_region ?_
  refine WM_val (fun W hm => rv_field Try.underlying82 rfl Try.type3 (by decide) rfl rfl) (Wd_none rfl) rfl (by decide) ?_
  refine WM_val (fun W hm => rv_load Try.underlying3 rfl rfl (hm.boxCell (n := 2) (o := 1) rfl rfl)) (Wd_none rfl) rfl (by decide) ?_
  refine WM_val (fun W hm => rv_field Try.underlying80 rfl Try.type3 (by decide) rfl rfl) (Wd_none rfl) rfl (by decide) ?_
  refine WM_storeBox (p := p3) (o := 1) (cs := [.int .i64 x0.Query, .int .i64 0, .int .i64 0, .int .i64 0]) (cs' := [.int .i64 x0.Query, .int .i64 x0.Value, .int .i64 0, .int .i64 0]) (fun w hm => hm.front (n := 0) rfl) Try.type3 rfl (Nat.le_of_ble_eq_true rfl) rfl rfl rfl rfl (Wd_none rfl) ?_
  refine WM_nil ?_
  refine QM_then ?_
  refine CM_seq ?_
  refine CM_region ?_
  refine WM_val (fun W hm => rv_field Try.underlying82 rfl Try.type3 (by decide) rfl rfl) (Wd_none rfl) rfl (by decide) ?_
  refine WM_val (fun W hm => rv_load Try.underlying3 rfl rfl (hm.boxCell (n := 2) (o := 2) rfl rfl)) (Wd_none rfl) rfl (by decide) ?_
  refine WM_val (fun W hm => rv_field Try.underlying80 rfl Try.type3 (by decide) rfl rfl) (Wd_none rfl) rfl (by decide) ?_
  refine WM_storeBox (p := p3) (o := 2) (cs := [.int .i64 x0.Query, .int .i64 x0.Value, .int .i64 0, .int .i64 0]) (cs' := [.int .i64 x0.Query, .int .i64 x0.Value, .int .i64 x0.Count, .int .i64 0]) (fun w hm => hm.front (n := 0) rfl) Try.type3 rfl (Nat.le_of_ble_eq_true rfl) rfl rfl rfl rfl (Wd_none rfl) ?_
  refine WM_nil ?_
  refine QM_then ?_
  refine CM_seq ?_
  refine CM_region ?_
  refine WM_val (fun W hm => rv_field Try.underlying82 rfl Try.type3 (by decide) rfl rfl) (Wd_none rfl) rfl (by decide) ?_
  refine WM_val (fun W hm => rv_load Try.underlying3 rfl rfl (hm.boxCell (n := 2) (o := 3) rfl rfl)) (Wd_none rfl) rfl (by decide) ?_
  refine WM_val (fun W hm => rv_field Try.underlying80 rfl Try.type3 (by decide) rfl rfl) (Wd_none rfl) rfl (by decide) ?_
  refine WM_storeBox (p := p3) (o := 3) (cs := [.int .i64 x0.Query, .int .i64 x0.Value, .int .i64 x0.Count, .int .i64 0]) (cs' := [.int .i64 x0.Query, .int .i64 x0.Value, .int .i64 x0.Count, .int .i64 x0.Sum]) (fun w hm => hm.front (n := 0) rfl) Try.type3 rfl (Nat.le_of_ble_eq_true rfl) rfl rfl rfl rfl (Wd_none rfl) ?_
  refine WM_nil ?_
  refine QM_then ?_
  refine CM_seq ?_
  refine CM_region ?_
  refine WM_val (fun W hm => rv_loadN (cs := [.int .i64 x0.Query, .int .i64 x0.Value, .int .i64 x0.Count, .int .i64 x0.Sum]) Try.underlying80 Try.type80 rfl rfl (hm.boxCells (n := 0) rfl)) (Wd_none rfl) rfl (by decide) ?_
  refine WM_storeBox (p := p2) (o := 0) (cs := [.int .i64 0, .int .i64 0, .int .i64 0, .int .i64 0]) (cs' := [.int .i64 x0.Query, .int .i64 x0.Value, .int .i64 x0.Count, .int .i64 x0.Sum]) (fun w hm => hm.front (n := 1) rfl) Try.type80 rfl (Nat.le_of_ble_eq_true rfl) rfl rfl rfl rfl (Wd_none rfl) ?_
  refine WM_nil ?_
  refine QM_then ?_
  refine CM_ret ?_
  refine QM_r1 rfl (RR_cell (n := 0) rfl rfl Try.underlying80 Try.type80 rfl) (fun W hm => ⟨[.int .i64 x0.Query, .int .i64 x0.Value, .int .i64 x0.Count, .int .i64 x0.Sum], ?_, ?_⟩)
  · first | rw [(show laws_toGroup_m x0 = x0 from by unfold laws_toGroup_m; exact rfl)] | rfl
  · rw [(show laws_toGroup_m x0 = x0 from by unfold laws_toGroup_m; exact rfl)]; exact Mem.join (is := []) (js := []) (fun _ _ hs => tyGroup_join (x := x0) hs) (((hm).tail).tail).tail

def laws_toGroupS_b1 (x0 : (List DGroup)) (k9 : Nat) (d10 : (List DGroup)) : (List DGroup) ⊕ ((List DGroup)) :=
  Sum.inr (d10.set k9 (laws_toGroup_m (gt x0 k9)))
def laws_toGroupS_m (x0 : (List DGroup)) : (List DGroup) :=
  Sum.elim id (fun (s : (List DGroup)) => s) (rng (R := (List DGroup)) (fun k (s : (List DGroup)) => laws_toGroupS_b1 x0 k s) (x0.length - 0) 0 (List.replicate x0.length (⟨(0 : Int), (0 : Int), (0 : Int), (0 : Int)⟩ : DGroup)))
theorem cb19 : Cb Try.prog 19 := ⟨Try.f19, _, Try.func19, rfl, by decide⟩
set_option maxRecDepth 10000 in
theorem laws_toGroupS_c (w : World) (z0 : Value) (x0 : (List DGroup)) (r_0 : rdS tyLGroup w w.heap.size z0 x0) (s_0 : x0.length ≤ 68719476736) :
    Calls Try.prog 19 #[z0] w fun e w' => ∃ v : Value, e = .returned (v) ∧ Mem w.heap.size w [iOwn (tSl tyGroup 80) [v] (laws_toGroupS_m x0)] w' := by
  have r5 := r_0
  obtain ⟨m1, A2, c3, rfl, q4⟩ := r_0
  have l6 : x0.length ≤ 68719476736 := s_0
  refine call_enterM (L := [(0, .slice A2 x0.length c3)]) (N := 23) Try.func19 rfl rfl (Nat.le_of_ble_eq_true rfl) (argsL_cons rfl argsL_nil) ?_
  refine CM_seq ?_
  refine CM_region ?_
  refine WM_val (fun W hm => rv_assign rfl) (Wd_none rfl) rfl (by decide) ?_
  refine WM_nil ?_
  refine QM_then ?_
  refine CM_seq ?_
  refine CM_region ?_
  refine WM_val (fun W hm => rv_move rfl) (Wd_none rfl) rfl (by decide) ?_
  refine WM_val (fun W hm => rv_len Try.underlying24 rfl) (Wd_none rfl) rfl (by decide) ?_
  refine WM_make (E := tyGroup) (n := x0.length) (x0 := (⟨(0 : Int), (0 : Int), (0 : Int), (0 : Int)⟩ : DGroup)) Try.underlying26 Try.type80 rfl rfl rfl (fun _ => ⟨[], [], _, _, rfl, rfl, tInt_own, ⟨[], [], _, _, rfl, rfl, tInt_own, ⟨[], [], _, _, rfl, rfl, tInt_own, tInt_own⟩⟩⟩) rfl rfl (show x0.length * 32 ≤ 281474976710656 from by omega) (by omega) (Wd_none rfl) (by decide) (fun p7 => ?_)
  refine WM_val (fun W hm => rv_assign rfl) (Wd_none rfl) rfl (by decide) ?_
  refine WM_nil ?_
  refine QM_then ?_
  refine CM_seq ?_
  refine CM_seq ?_
  refine CM_region ?_
  refine WM_val (fun W hm => rv_assign rfl) (Wd_none rfl) rfl (by decide) ?_
  refine WM_nil ?_
  refine QM_then ?_
  refine CM_block ?_
  refine CM_loop (σ := Nat × ((List DGroup)) × (Unit)) (fun s => [(0, .slice A2 x0.length c3), (3, .slice (some ⟨p7, 0, none⟩) x0.length x0.length), (4, .int .i64 ((s.1 : Nat) : Int))]) (fun s => [iOwn (tSl tyGroup 80) [.slice (some ⟨p7, 0, none⟩) x0.length x0.length] s.2.1]) (fun s => s.1 ≤ x0.length ∧ rng (R := (List DGroup)) (fun k (s : (List DGroup)) => laws_toGroupS_b1 x0 k s) (x0.length - s.1) s.1 s.2.1 = rng (R := (List DGroup)) (fun k (s : (List DGroup)) => laws_toGroupS_b1 x0 k s) (x0.length - 0) 0 (List.replicate x0.length (⟨(0 : Int), (0 : Int), (0 : Int), (0 : Int)⟩ : DGroup))) (fun s => x0.length - s.1) (0, (List.replicate x0.length (⟨(0 : Int), (0 : Int), (0 : Int), (0 : Int)⟩ : DGroup)), ()) (subL_cons rfl (subL_cons rfl (subL_cons rfl subL_nil))) (fun W hm => hm) ⟨(by omega), rfl⟩ ?_
  rintro ⟨k9, d10, ⟨⟩⟩ H13
  obtain ⟨hk11, hF12⟩ : k9 ≤ x0.length ∧ rng (R := (List DGroup)) (fun k (s : (List DGroup)) => laws_toGroupS_b1 x0 k s) (x0.length - k9) k9 d10 = rng (R := (List DGroup)) (fun k (s : (List DGroup)) => laws_toGroupS_b1 x0 k s) (x0.length - 0) 0 (List.replicate x0.length (⟨(0 : Int), (0 : Int), (0 : Int), (0 : Int)⟩ : DGroup)) := H13
  show CM Try.prog 23 _ _ _ _ [(0, .slice A2 x0.length c3), (3, .slice (some ⟨p7, 0, none⟩) x0.length x0.length), (4, .int .i64 ((k9 : Nat) : Int))] [iOwn (tSl tyGroup 80) [.slice (some ⟨p7, 0, none⟩) x0.length x0.length] d10]
  refine CM_seq ?_
  refine CM_seq ?_
  refine CM_region ?_
  refine WM_val (fun W hm => rv_move rfl) (Wd_none rfl) rfl (by decide) ?_
  refine WM_val (fun W hm => rv_move rfl) (Wd_none rfl) rfl (by decide) ?_
  refine WM_val (fun W hm => rv_len Try.underlying24 rfl) (Wd_none rfl) rfl (by decide) ?_
  refine WM_val (fun W hm => rv_lss rfl rfl) (Wd_none rfl) rfl (by decide) ?_
  refine WM_nil ?_
  refine QM_then ?_
  by_cases hl14 : k9 < x0.length
  · have g15 : (decide (((k9 : Nat) : Int) < ((x0.length : Nat) : Int))) = true := decide_eq_true (by omega)
    refine CM_condT rfl g15 ?_
    refine CM_skip ?_
    refine QM_then ?_
    refine CM_seq ?_
    refine CM_block ?_
    refine CM_region ?_
    refine WM_val (fun W hm => rv_move rfl) (Wd_none rfl) rfl (by decide) ?_
    refine WM_val (fun W hm => rv_move rfl) (Wd_none rfl) rfl (by decide) ?_
    refine WM_val (fun W hm => rv_move rfl) (Wd_none rfl) rfl (by decide) ?_
    refine WM_val (fun W hm => rv_move rfl) (Wd_none rfl) rfl (by decide) ?_
    obtain ⟨a16, rfl, hb17, he18⟩ := q4 (by omega)
    refine WM_val (fun W hm => rv_index (sz := 4) (k := k9) Try.underlying24 Try.type82 rfl rfl rfl (by omega)) (Wd_none rfl) rfl (by decide) ?_
    obtain ⟨_, e20, hc19⟩ := he18 k9 _ (gt_some (show k9 < x0.length from by omega))
    obtain rfl := tyLGroup_rd e20
    refine WM_val (fun W hm => rv_loadN (cs := [.int .i64 ((gt x0 k9).Query), .int .i64 ((gt x0 k9).Value), .int .i64 ((gt x0 k9).Count), .int .i64 ((gt x0 k9).Sum)]) Try.underlying82 Try.type82 rfl rfl (hm.elCells (show (a16.add (k9 * 4)).block < w.heap.size from by rw [add_block]; exact hb17) hc19)) (Wd_none rfl) rfl (by decide) ?_
    refine WM_call (χ := List Value) (val := fun x => .agg x.toArray) (js := fun x => [iOwn tyGroup x (laws_toGroup_m (gt x0 k9))]) cb63 rfl (fun W hm => laws_toGroup_c W _ (gt x0 k9) tyLGroup_mk) (Wd_none rfl) (by decide) (fun z21 => ?_)
    refine WM_split (γ := Unit) (js := fun _ => []) (C := fun _ => z21 = [.int .i64 ((laws_toGroup_m (gt x0 k9)).Query), .int .i64 ((laws_toGroup_m (gt x0 k9)).Value), .int .i64 ((laws_toGroup_m (gt x0 k9)).Count), .int .i64 ((laws_toGroup_m (gt x0 k9)).Sum)]) (fun _ _ h => tyGroup_split h) ?_
    rintro ⟨⟩ rfl
    refine WM_val (fun W hm => rv_index (sz := 4) (k := k9) Try.underlying26 Try.type80 rfl rfl rfl (by omega)) (Wd_none rfl) rfl (by decide) ?_
    refine WM_setEl (E := tyGroup) (e := 80) (u := .agg #[.int .i64 ((laws_toGroup_m (gt x0 k9)).Query), .int .i64 ((laws_toGroup_m (gt x0 k9)).Value), .int .i64 ((laws_toGroup_m (gt x0 k9)).Count), .int .i64 ((laws_toGroup_m (gt x0 k9)).Sum)]) (k := k9) (p := p7) (n := x0.length) (xs := d10) (eis := []) (js := []) (yv := (laws_toGroup_m (gt x0 k9))) (fun W hm => (hm.front (n := 0) rfl)) (fun _ _ hs => (tyGroup_join (x := (laws_toGroup_m (gt x0 k9))) hs)) rfl Try.type80 rfl (by omega) rfl rfl (Wd_none rfl) ?_
    refine WM_nil ?_
    refine QM_block_normal ?_
    refine QM_then ?_
    refine CM_region ?_
    refine WM_val (fun W hm => rv_move rfl) (Wd_none rfl) rfl (by decide) ?_
    refine WM_val (fun W hm => rv_addN (p := k9) (q := 1) rfl rfl (by omega)) (Wd_none rfl) rfl (by decide) ?_
    refine WM_val (fun W hm => rv_assign rfl) (Wd_none rfl) rfl (by decide) ?_
    refine WM_nil ?_
    have hn22 := rng_next (R := (List DGroup)) (body := (fun k (s : (List DGroup)) => laws_toGroupS_b1 x0 k s)) (k := k9) (s := d10) (s' := (d10.set k9 (laws_toGroup_m (gt x0 k9)))) (show k9 < x0.length from by omega) (show laws_toGroupS_b1 x0 k9 d10 = Sum.inr (d10.set k9 (laws_toGroup_m (gt x0 k9))) from by unfold laws_toGroupS_b1; exact rfl) hF12
    exact QM_round (k9 + 1, (d10.set k9 (laws_toGroup_m (gt x0 k9))), ()) (subL_cons rfl (subL_cons rfl (subL_cons rfl subL_nil))) (fun W hm => (hm.front (n := 0) rfl)) ⟨(by omega), hn22⟩ (show x0.length - (k9 + 1) < x0.length - k9 from by omega)
  · have g15 : (decide (((k9 : Nat) : Int) < ((x0.length : Nat) : Int))) = false := decide_eq_false (by omega)
    refine CM_condF rfl g15 ?_
    refine CM_exit ?_
    refine QM_then_exit ?_
    refine QM_then_exit ?_
    have hE23 : rng (R := (List DGroup)) (fun k (s : (List DGroup)) => laws_toGroupS_b1 x0 k s) (x0.length - 0) 0 (List.replicate x0.length (⟨(0 : Int), (0 : Int), (0 : Int), (0 : Int)⟩ : DGroup)) = Sum.inr d10 := rng_end hl14 hF12
    refine QM_block_hit ?_
    refine QM_then ?_
    refine CM_seq ?_
    refine CM_region ?_
    refine WM_val (fun W hm => rv_move rfl) (Wd_none rfl) rfl (by decide) ?_
    refine WM_val (fun W hm => rv_assign rfl) (Wd_none rfl) rfl (by decide) ?_
    refine WM_nil ?_
    refine QM_then ?_
    refine CM_ret ?_
    refine QM_r1 rfl (RR_tmp rfl) (fun W hm => ⟨.slice (some ⟨p7, 0, none⟩) x0.length x0.length, ?_, ?_⟩)
    · first | rw [(show laws_toGroupS_m x0 = d10 from by unfold laws_toGroupS_m; exact fin_inr hE23 (rfl))] | rfl
    · rw [(show laws_toGroupS_m x0 = d10 from by unfold laws_toGroupS_m; exact fin_inr hE23 (rfl))]; exact (hm.front (n := 0) rfl)

def spec_GroupsOf_b1 (x0 : (List DGroup)) (x1 : Int) (k9 : Nat) (d10 : (List DGroup)) : (List DGroup) ⊕ ((List DGroup)) :=
  cond (((gt x0 k9).Query) == x1) (Sum.inr (d10 ++ [(gt x0 k9)])) (Sum.inr d10)
def spec_GroupsOf_m (x0 : (List DGroup)) (x1 : Int) : (List DGroup) :=
  Sum.elim id (fun (s : (List DGroup)) => s) (rng (R := (List DGroup)) (fun k (s : (List DGroup)) => spec_GroupsOf_b1 x0 x1 k s) (x0.length - 0) 0 [])
theorem cb18 : Cb Try.prog 18 := ⟨Try.f18, _, Try.func18, rfl, by decide⟩
set_option maxRecDepth 10000 in
theorem spec_GroupsOf_c (w : World) (z0 : Value) (x0 : (List DGroup)) (x1 : Int) (r_0 : rdS tyGroup w w.heap.size z0 x0) (s_0 : x0.length ≤ 68719476736) :
    Calls Try.prog 18 #[z0, .int .i64 x1] w fun e w' => ∃ v : Value, e = .returned (v) ∧ Mem w.heap.size w [iOwn (tSl tyGroup 80) [v] (spec_GroupsOf_m x0 x1)] w' := by
  have r5 := r_0
  obtain ⟨m1, A2, c3, rfl, q4⟩ := r_0
  have l6 : x0.length ≤ 68719476736 := s_0
  refine call_enterM (L := [(0, .slice A2 x0.length c3), (1, .int .i64 x1)]) (N := 29) Try.func18 rfl rfl (Nat.le_of_ble_eq_true rfl) (argsL_cons rfl (argsL_cons rfl argsL_nil)) ?_
  refine CM_seq ?_
  refine CM_region ?_
  refine WM_val (fun W hm => rv_assign rfl) (Wd_none rfl) rfl (by decide) ?_
  refine WM_nil ?_
  refine QM_then ?_
  refine CM_seq ?_
  refine CM_region ?_
  refine WM_build0 (E := tyGroup) Try.underlying26 Try.type80 (Wd_none rfl) (by decide) (fun p7 => ?_)
  refine WM_val (fun W hm => rv_assign rfl) (Wd_none rfl) rfl (by decide) ?_
  refine WM_nil ?_
  refine QM_then ?_
  refine CM_seq ?_
  refine CM_seq ?_
  refine CM_region ?_
  refine WM_val (fun W hm => rv_assign rfl) (Wd_none rfl) rfl (by decide) ?_
  refine WM_nil ?_
  refine QM_then ?_
  refine CM_block ?_
  refine CM_loop (σ := Nat × ((List DGroup)) × (Option Addr × Nat)) (fun s => [(0, .slice A2 x0.length c3), (1, .int .i64 x1), (5, .slice s.2.2.1 s.2.1.length s.2.2.2), (6, .int .i64 ((s.1 : Nat) : Int))]) (fun s => [iOwn (tSl tyGroup 80) [.slice s.2.2.1 s.2.1.length s.2.2.2] s.2.1]) (fun s => s.1 ≤ x0.length ∧ rng (R := (List DGroup)) (fun k (s : (List DGroup)) => spec_GroupsOf_b1 x0 x1 k s) (x0.length - s.1) s.1 s.2.1 = rng (R := (List DGroup)) (fun k (s : (List DGroup)) => spec_GroupsOf_b1 x0 x1 k s) (x0.length - 0) 0 [] ∧ s.2.1.length ≤ 0 + s.1) (fun s => x0.length - s.1) (0, [], ((some ⟨p7, 0, none⟩), 0)) (subL_cons rfl (subL_cons rfl (subL_cons rfl (subL_cons rfl subL_nil)))) (fun W hm => hm) ⟨(by omega), rfl, Nat.le_refl _⟩ ?_
  rintro ⟨k9, d10, ⟨A11, c12⟩⟩ H15
  obtain ⟨hk13, hF14, hi16⟩ : k9 ≤ x0.length ∧ rng (R := (List DGroup)) (fun k (s : (List DGroup)) => spec_GroupsOf_b1 x0 x1 k s) (x0.length - k9) k9 d10 = rng (R := (List DGroup)) (fun k (s : (List DGroup)) => spec_GroupsOf_b1 x0 x1 k s) (x0.length - 0) 0 [] ∧ d10.length ≤ 0 + k9 := H15
  show CM Try.prog 29 _ _ _ _ [(0, .slice A2 x0.length c3), (1, .int .i64 x1), (5, .slice A11 d10.length c12), (6, .int .i64 ((k9 : Nat) : Int))] [iOwn (tSl tyGroup 80) [.slice A11 d10.length c12] d10]
  refine CM_seq ?_
  refine CM_seq ?_
  refine CM_region ?_
  refine WM_val (fun W hm => rv_move rfl) (Wd_none rfl) rfl (by decide) ?_
  refine WM_val (fun W hm => rv_move rfl) (Wd_none rfl) rfl (by decide) ?_
  refine WM_val (fun W hm => rv_len Try.underlying26 rfl) (Wd_none rfl) rfl (by decide) ?_
  refine WM_val (fun W hm => rv_lss rfl rfl) (Wd_none rfl) rfl (by decide) ?_
  refine WM_nil ?_
  refine QM_then ?_
  by_cases hl17 : k9 < x0.length
  · have g18 : (decide (((k9 : Nat) : Int) < ((x0.length : Nat) : Int))) = true := decide_eq_true (by omega)
    refine CM_condT rfl g18 ?_
    refine CM_skip ?_
    refine QM_then ?_
    refine CM_seq ?_
    refine CM_block ?_
    refine CM_seq ?_
    refine CM_region ?_
    refine WM_val (fun W hm => rv_move rfl) (Wd_none rfl) rfl (by decide) ?_
    refine WM_val (fun W hm => rv_move rfl) (Wd_none rfl) rfl (by decide) ?_
    obtain ⟨a19, rfl, hb20, he21⟩ := q4 (by omega)
    refine WM_val (fun W hm => rv_index (sz := 4) (k := k9) Try.underlying26 Try.type80 rfl rfl rfl (by omega)) (Wd_none rfl) rfl (by decide) ?_
    refine WM_val (fun W hm => rv_field Try.underlying80 rfl Try.type3 (by decide) rfl rfl) (Wd_none rfl) rfl (by decide) ?_
    obtain ⟨_, e23, hc22⟩ := he21 k9 _ (gt_some (show k9 < x0.length from by omega))
    obtain rfl := tyGroup_rd e23
    refine WM_val (fun W hm => rv_load Try.underlying3 rfl rfl ((hm.cell0 (show ((a19.add (k9 * 4)).add 0).block < w.heap.size from by rw [add_block, add_block]; exact hb20)).trans (hc22 0 _ rfl))) (Wd_none rfl) rfl (by decide) ?_
    refine WM_val (fun W hm => rv_move rfl) (Wd_none rfl) rfl (by decide) ?_
    refine WM_val (fun W hm => rv_eql rfl rfl) (Wd_none rfl) rfl (by decide) ?_
    refine WM_nil ?_
    refine QM_then ?_
    by_cases h24 : ((gt x0 k9).Query) = x1
    · have g25 : (((gt x0 k9).Query) == x1) = true := beq_iff_eq.2 h24
      refine CM_condT rfl g25 ?_
      refine CM_region ?_
      refine WM_val (fun W hm => rv_move rfl) (Wd_none rfl) rfl (by decide) ?_
      refine WM_val (fun W hm => rv_move rfl) (Wd_none rfl) rfl (by decide) ?_
      refine WM_val (fun W hm => rv_move rfl) (Wd_none rfl) rfl (by decide) ?_
      refine WM_val (fun W hm => rv_index (sz := 4) (k := k9) Try.underlying26 Try.type80 rfl rfl rfl (by omega)) (Wd_none rfl) rfl (by decide) ?_
      refine WM_val (fun W hm => rv_loadN (cs := [.int .i64 ((gt x0 k9).Query), .int .i64 ((gt x0 k9).Value), .int .i64 ((gt x0 k9).Count), .int .i64 ((gt x0 k9).Sum)]) Try.underlying80 Try.type80 rfl rfl (hm.elCells (show (a19.add (k9 * 4)).block < w.heap.size from by rw [add_block]; exact hb20) hc22)) (Wd_none rfl) rfl (by decide) ?_
      refine WM_build (cs := [.int .i64 ((gt x0 k9).Query), .int .i64 ((gt x0 k9).Value), .int .i64 ((gt x0 k9).Count), .int .i64 ((gt x0 k9).Sum)]) Try.underlying26 Try.type80 rfl (by decide) (by decide) rfl (by kernel_rfl) (Wd_none rfl) (by decide) (fun p26 => ?_)
      refine WM_append (E := tyGroup) (e := 80) (v := .slice A11 d10.length c12) (p := p26) (q := 1) (xs := d10) (ys := [(gt x0 k9)]) (eis := []) (js := []) (news := [.int .i64 ((gt x0 k9).Query), .int .i64 ((gt x0 k9).Value), .int .i64 ((gt x0 k9).Count), .int .i64 ((gt x0 k9).Sum)]) (fun W hm => ((hm.front (n := 1) rfl).front (n := 1) rfl)) (fun _ _ hs => by cases (Sep.nil hs); exact (els_cons (tyGroup_join (x := (gt x0 k9)) (L := []) rfl) els_nil)) Try.underlying26 Try.type80 rfl rfl rfl (by decide) rfl rfl rfl (show (d10.length + 1) * 32 ≤ 140737488355328 from by omega) (show d10.length + 1 ≤ 9223372036854775807 from by omega) (Wd_none rfl) (by decide) (fun v27 => ?_)
      refine WM_form (n := 0) rfl ?_
      rintro A28 c29 rfl m30
      refine WM_val (fun W hm => rv_assign rfl) (Wd_none rfl) rfl (by decide) ?_
      refine WM_nil ?_
      refine QM_block_normal ?_
      refine QM_then ?_
      refine CM_region ?_
      refine WM_val (fun W hm => rv_move rfl) (Wd_none rfl) rfl (by decide) ?_
      refine WM_val (fun W hm => rv_addN (p := k9) (q := 1) rfl rfl (by omega)) (Wd_none rfl) rfl (by decide) ?_
      refine WM_val (fun W hm => rv_assign rfl) (Wd_none rfl) rfl (by decide) ?_
      refine WM_nil ?_
      have hn32 := rng_next (R := (List DGroup)) (body := (fun k (s : (List DGroup)) => spec_GroupsOf_b1 x0 x1 k s)) (k := k9) (s := d10) (s' := (d10 ++ [(gt x0 k9)])) (show k9 < x0.length from by omega) (show spec_GroupsOf_b1 x0 x1 k9 d10 = Sum.inr (d10 ++ [(gt x0 k9)]) from by unfold spec_GroupsOf_b1; exact cond_t g25 (rfl)) hF14
      exact QM_round (k9 + 1, (d10 ++ [(gt x0 k9)]), (A28, c29)) (subL_cons rfl (subL_cons rfl (subL_cons rfl (subL_cons rfl subL_nil)))) (fun W hm => (hm.front (n := 0) rfl)) ⟨(by omega), hn32, (show (d10 ++ [(gt x0 k9)]).length ≤ 0 + (k9 + 1) from by first | omega | (simp only [List.length_append, List.length_cons, List.length_nil] at *; omega))⟩ (show x0.length - (k9 + 1) < x0.length - k9 from by omega)
    · have g25 : (((gt x0 k9).Query) == x1) = false := beq_eq_false_iff_ne.2 h24
      refine CM_condF rfl g25 ?_
      refine CM_skip ?_
      refine QM_block_normal ?_
      refine QM_then ?_
      refine CM_region ?_
      refine WM_val (fun W hm => rv_move rfl) (Wd_none rfl) rfl (by decide) ?_
      refine WM_val (fun W hm => rv_addN (p := k9) (q := 1) rfl rfl (by omega)) (Wd_none rfl) rfl (by decide) ?_
      refine WM_val (fun W hm => rv_assign rfl) (Wd_none rfl) rfl (by decide) ?_
      refine WM_nil ?_
      have hn33 := rng_next (R := (List DGroup)) (body := (fun k (s : (List DGroup)) => spec_GroupsOf_b1 x0 x1 k s)) (k := k9) (s := d10) (s' := d10) (show k9 < x0.length from by omega) (show spec_GroupsOf_b1 x0 x1 k9 d10 = Sum.inr d10 from by unfold spec_GroupsOf_b1; exact cond_f g25 (rfl)) hF14
      exact QM_round (k9 + 1, d10, (A11, c12)) (subL_cons rfl (subL_cons rfl (subL_cons rfl (subL_cons rfl subL_nil)))) (fun W hm => (hm.front (n := 0) rfl)) ⟨(by omega), hn33, (show d10.length ≤ 0 + (k9 + 1) from by first | omega | (simp only [List.length_append, List.length_cons, List.length_nil] at *; omega))⟩ (show x0.length - (k9 + 1) < x0.length - k9 from by omega)
  · have g18 : (decide (((k9 : Nat) : Int) < ((x0.length : Nat) : Int))) = false := decide_eq_false (by omega)
    refine CM_condF rfl g18 ?_
    refine CM_exit ?_
    refine QM_then_exit ?_
    refine QM_then_exit ?_
    have hE34 : rng (R := (List DGroup)) (fun k (s : (List DGroup)) => spec_GroupsOf_b1 x0 x1 k s) (x0.length - 0) 0 [] = Sum.inr d10 := rng_end hl17 hF14
    refine QM_block_hit ?_
    refine QM_then ?_
    refine CM_seq ?_
    refine CM_region ?_
    refine WM_val (fun W hm => rv_move rfl) (Wd_none rfl) rfl (by decide) ?_
    refine WM_val (fun W hm => rv_assign rfl) (Wd_none rfl) rfl (by decide) ?_
    refine WM_nil ?_
    refine QM_then ?_
    refine CM_ret ?_
    refine QM_r1 rfl (RR_tmp rfl) (fun W hm => ⟨.slice A11 d10.length c12, ?_, ?_⟩)
    · first | rw [(show spec_GroupsOf_m x0 x1 = d10 from by unfold spec_GroupsOf_m; exact fin_inr hE34 (rfl))] | rfl
    · rw [(show spec_GroupsOf_m x0 x1 = d10 from by unfold spec_GroupsOf_m; exact fin_inr hE34 (rfl))]; exact (hm.front (n := 0) rfl)

def impl_GroupsOf_b1 (x0 : (List DGroup)) (x1 : Int) (k9 : Nat) (d10 : (List DGroup)) : (List DGroup) ⊕ ((List DGroup)) :=
  cond (((gt x0 k9).Query) == x1) (Sum.inr (d10 ++ [(gt x0 k9)])) (Sum.inr d10)
def impl_GroupsOf_m (x0 : (List DGroup)) (x1 : Int) : (List DGroup) :=
  Sum.elim id (fun (s : (List DGroup)) => s) (rng (R := (List DGroup)) (fun k (s : (List DGroup)) => impl_GroupsOf_b1 x0 x1 k s) (x0.length - 0) 0 [])
theorem cb20 : Cb Try.prog 20 := ⟨Try.f20, _, Try.func20, rfl, by decide⟩
set_option maxRecDepth 10000 in
theorem impl_GroupsOf_c (w : World) (z0 : Value) (x0 : (List DGroup)) (x1 : Int) (r_0 : rdS tyGroup w w.heap.size z0 x0) (s_0 : x0.length ≤ 68719476736) :
    Calls Try.prog 20 #[z0, .int .i64 x1] w fun e w' => ∃ v : Value, e = .returned (v) ∧ Mem w.heap.size w [iOwn (tSl tyGroup 80) [v] (impl_GroupsOf_m x0 x1)] w' := by
  have r5 := r_0
  obtain ⟨m1, A2, c3, rfl, q4⟩ := r_0
  have l6 : x0.length ≤ 68719476736 := s_0
  refine call_enterM (L := [(0, .slice A2 x0.length c3), (1, .int .i64 x1)]) (N := 25) Try.func20 rfl rfl (Nat.le_of_ble_eq_true rfl) (argsL_cons rfl (argsL_cons rfl argsL_nil)) ?_
  refine CM_seq ?_
  refine CM_region ?_
  refine WM_val (fun W hm => rv_assign rfl) (Wd_none rfl) rfl (by decide) ?_
  refine WM_nil ?_
  refine QM_then ?_
  refine CM_seq ?_
  refine CM_region ?_
  refine WM_build0 (E := tyGroup) Try.underlying26 Try.type80 (Wd_none rfl) (by decide) (fun p7 => ?_)
  refine WM_val (fun W hm => rv_assign rfl) (Wd_none rfl) rfl (by decide) ?_
  refine WM_nil ?_
  refine QM_then ?_
  refine CM_seq ?_
  refine CM_seq ?_
  refine CM_region ?_
  refine WM_val (fun W hm => rv_move rfl) (Wd_none rfl) rfl (by decide) ?_
  refine WM_val (fun W hm => rv_len Try.underlying26 rfl) (Wd_none rfl) rfl (by decide) ?_
  refine WM_val (fun W hm => rv_move rfl) (Wd_none rfl) rfl (by decide) ?_
  refine WM_nil ?_
  refine QM_then ?_
  refine CM_block ?_
  refine CM_loop (σ := Nat × ((List DGroup)) × (Option Addr × Nat)) (fun s => [(1, .int .i64 x1), (5, .slice s.2.2.1 s.2.1.length s.2.2.2), (9, .slice A2 x0.length c3), (10, .int .i64 ((x0.length : Nat) : Int)), (11, .int .i64 ((s.1 : Nat) : Int))]) (fun s => [iOwn (tSl tyGroup 80) [.slice s.2.2.1 s.2.1.length s.2.2.2] s.2.1]) (fun s => s.1 ≤ x0.length ∧ rng (R := (List DGroup)) (fun k (s : (List DGroup)) => impl_GroupsOf_b1 x0 x1 k s) (x0.length - s.1) s.1 s.2.1 = rng (R := (List DGroup)) (fun k (s : (List DGroup)) => impl_GroupsOf_b1 x0 x1 k s) (x0.length - 0) 0 [] ∧ s.2.1.length ≤ 0 + s.1) (fun s => x0.length - s.1) (0, [], ((some ⟨p7, 0, none⟩), 0)) (subL_cons rfl (subL_cons rfl (subL_cons rfl (subL_cons rfl (subL_cons rfl subL_nil))))) (fun W hm => hm) ⟨(by omega), rfl, Nat.le_refl _⟩ ?_
  rintro ⟨k9, d10, ⟨A11, c12⟩⟩ H15
  obtain ⟨hk13, hF14, hi16⟩ : k9 ≤ x0.length ∧ rng (R := (List DGroup)) (fun k (s : (List DGroup)) => impl_GroupsOf_b1 x0 x1 k s) (x0.length - k9) k9 d10 = rng (R := (List DGroup)) (fun k (s : (List DGroup)) => impl_GroupsOf_b1 x0 x1 k s) (x0.length - 0) 0 [] ∧ d10.length ≤ 0 + k9 := H15
  show CM Try.prog 25 _ _ _ _ [(1, .int .i64 x1), (5, .slice A11 d10.length c12), (9, .slice A2 x0.length c3), (10, .int .i64 ((x0.length : Nat) : Int)), (11, .int .i64 ((k9 : Nat) : Int))] [iOwn (tSl tyGroup 80) [.slice A11 d10.length c12] d10]
  refine CM_seq ?_
  refine CM_region ?_
  refine WM_val (fun W hm => rv_lss rfl rfl) (Wd_none rfl) rfl (by decide) ?_
  refine WM_nil ?_
  refine QM_then ?_
  refine CM_seq ?_
  by_cases hl17 : k9 < x0.length
  · have g18 : (decide (((k9 : Nat) : Int) < ((x0.length : Nat) : Int))) = true := decide_eq_true (by omega)
    refine CM_condT rfl g18 ?_
    refine CM_skip ?_
    refine QM_then ?_
    refine CM_seq ?_
    refine CM_block ?_
    refine CM_seq ?_
    refine CM_region ?_
    obtain ⟨a19, rfl, hb20, he21⟩ := q4 (by omega)
    refine WM_val (fun W hm => rv_index (sz := 4) (k := k9) Try.underlying26 Try.type80 rfl rfl rfl (by omega)) (Wd_none rfl) rfl (by decide) ?_
    obtain ⟨_, e23, hc22⟩ := he21 k9 _ (gt_some (show k9 < x0.length from by omega))
    obtain rfl := tyGroup_rd e23
    refine WM_val (fun W hm => rv_loadN (cs := [.int .i64 ((gt x0 k9).Query), .int .i64 ((gt x0 k9).Value), .int .i64 ((gt x0 k9).Count), .int .i64 ((gt x0 k9).Sum)]) Try.underlying80 Try.type80 rfl rfl (hm.elCells (show (a19.add (k9 * 4)).block < w.heap.size from by rw [add_block]; exact hb20) hc22)) (Wd_none rfl) rfl (by decide) ?_
    refine WM_alloc Try.type80 rfl (Wd_none rfl) (by decide) (fun p24 => ?_)
    refine WM_storeBox (p := p24) (o := 0) (cs := [.int .i64 0, .int .i64 0, .int .i64 0, .int .i64 0]) (cs' := [.int .i64 ((gt x0 k9).Query), .int .i64 ((gt x0 k9).Value), .int .i64 ((gt x0 k9).Count), .int .i64 ((gt x0 k9).Sum)]) (fun w hm => hm.front (n := 0) rfl) Try.type80 rfl (Nat.le_of_ble_eq_true rfl) rfl rfl rfl rfl (Wd_none rfl) ?_
    refine WM_nil ?_
    refine QM_then ?_
    refine CM_seq ?_
    refine CM_region ?_
    refine WM_val (fun W hm => rv_field Try.underlying80 rfl Try.type3 (by decide) rfl rfl) (Wd_none rfl) rfl (by decide) ?_
    refine WM_val (fun W hm => rv_load Try.underlying3 rfl rfl (hm.boxCell (n := 0) (o := 0) rfl rfl)) (Wd_none rfl) rfl (by decide) ?_
    refine WM_val (fun W hm => rv_move rfl) (Wd_none rfl) rfl (by decide) ?_
    refine WM_val (fun W hm => rv_eql rfl rfl) (Wd_none rfl) rfl (by decide) ?_
    refine WM_nil ?_
    refine QM_then ?_
    by_cases h25 : ((gt x0 k9).Query) = x1
    · have g26 : (((gt x0 k9).Query) == x1) = true := beq_iff_eq.2 h25
      refine CM_condT rfl g26 ?_
      refine CM_region ?_
      refine WM_val (fun W hm => rv_move rfl) (Wd_none rfl) rfl (by decide) ?_
      refine WM_val (fun W hm => rv_loadN (cs := [.int .i64 ((gt x0 k9).Query), .int .i64 ((gt x0 k9).Value), .int .i64 ((gt x0 k9).Count), .int .i64 ((gt x0 k9).Sum)]) Try.underlying80 Try.type80 rfl rfl (hm.boxCells (n := 0) rfl)) (Wd_none rfl) rfl (by decide) ?_
      refine WM_build (cs := [.int .i64 ((gt x0 k9).Query), .int .i64 ((gt x0 k9).Value), .int .i64 ((gt x0 k9).Count), .int .i64 ((gt x0 k9).Sum)]) Try.underlying26 Try.type80 rfl (by decide) (by decide) rfl (by kernel_rfl) (Wd_none rfl) (by decide) (fun p27 => ?_)
      refine WM_append (E := tyGroup) (e := 80) (v := .slice A11 d10.length c12) (p := p27) (q := 1) (xs := d10) (ys := [(gt x0 k9)]) (eis := []) (js := [iBox p24 80 [.int .i64 ((gt x0 k9).Query), .int .i64 ((gt x0 k9).Value), .int .i64 ((gt x0 k9).Count), .int .i64 ((gt x0 k9).Sum)]]) (news := [.int .i64 ((gt x0 k9).Query), .int .i64 ((gt x0 k9).Value), .int .i64 ((gt x0 k9).Count), .int .i64 ((gt x0 k9).Sum)]) (fun W hm => ((hm.front (n := 2) rfl).front (n := 1) rfl)) (fun _ _ hs => by cases (Sep.nil hs); exact (els_cons (tyGroup_join (x := (gt x0 k9)) (L := []) rfl) els_nil)) Try.underlying26 Try.type80 rfl rfl rfl (by decide) rfl rfl rfl (show (d10.length + 1) * 32 ≤ 140737488355328 from by omega) (show d10.length + 1 ≤ 9223372036854775807 from by omega) (Wd_none rfl) (by decide) (fun v28 => ?_)
      refine WM_form (n := 0) rfl ?_
      rintro A29 c30 rfl m31
      refine WM_val (fun W hm => rv_assign rfl) (Wd_none rfl) rfl (by decide) ?_
      refine WM_nil ?_
      refine QM_block_normal ?_
      refine QM_then ?_
      refine CM_region ?_
      refine WM_val (fun W hm => rv_addN (p := k9) (q := 1) rfl rfl (by omega)) (Wd_none rfl) rfl (by decide) ?_
      refine WM_val (fun W hm => rv_move rfl) (Wd_none rfl) rfl (by decide) ?_
      refine WM_nil ?_
      have hn33 := rng_next (R := (List DGroup)) (body := (fun k (s : (List DGroup)) => impl_GroupsOf_b1 x0 x1 k s)) (k := k9) (s := d10) (s' := (d10 ++ [(gt x0 k9)])) (show k9 < x0.length from by omega) (show impl_GroupsOf_b1 x0 x1 k9 d10 = Sum.inr (d10 ++ [(gt x0 k9)]) from by unfold impl_GroupsOf_b1; exact cond_t g26 (rfl)) hF14
      exact QM_round (k9 + 1, (d10 ++ [(gt x0 k9)]), (A29, c30)) (subL_cons rfl (subL_cons rfl (subL_cons rfl (subL_cons rfl (subL_cons rfl subL_nil))))) (fun W hm => ((hm.front (n := 0) rfl).front (n := 1) rfl).tail) ⟨(by omega), hn33, (show (d10 ++ [(gt x0 k9)]).length ≤ 0 + (k9 + 1) from by first | omega | (simp only [List.length_append, List.length_cons, List.length_nil] at *; omega))⟩ (show x0.length - (k9 + 1) < x0.length - k9 from by omega)
    · have g26 : (((gt x0 k9).Query) == x1) = false := beq_eq_false_iff_ne.2 h25
      refine CM_condF rfl g26 ?_
      refine CM_skip ?_
      refine QM_block_normal ?_
      refine QM_then ?_
      refine CM_region ?_
      refine WM_val (fun W hm => rv_addN (p := k9) (q := 1) rfl rfl (by omega)) (Wd_none rfl) rfl (by decide) ?_
      refine WM_val (fun W hm => rv_move rfl) (Wd_none rfl) rfl (by decide) ?_
      refine WM_nil ?_
      have hn34 := rng_next (R := (List DGroup)) (body := (fun k (s : (List DGroup)) => impl_GroupsOf_b1 x0 x1 k s)) (k := k9) (s := d10) (s' := d10) (show k9 < x0.length from by omega) (show impl_GroupsOf_b1 x0 x1 k9 d10 = Sum.inr d10 from by unfold impl_GroupsOf_b1; exact cond_f g26 (rfl)) hF14
      exact QM_round (k9 + 1, d10, (A11, c12)) (subL_cons rfl (subL_cons rfl (subL_cons rfl (subL_cons rfl (subL_cons rfl subL_nil))))) (fun W hm => ((hm.front (n := 1) rfl).front (n := 1) rfl).tail) ⟨(by omega), hn34, (show d10.length ≤ 0 + (k9 + 1) from by first | omega | (simp only [List.length_append, List.length_cons, List.length_nil] at *; omega))⟩ (show x0.length - (k9 + 1) < x0.length - k9 from by omega)
  · have g18 : (decide (((k9 : Nat) : Int) < ((x0.length : Nat) : Int))) = false := decide_eq_false (by omega)
    refine CM_condF rfl g18 ?_
    refine CM_exit ?_
    refine QM_then_exit ?_
    refine QM_then_exit ?_
    have hE35 : rng (R := (List DGroup)) (fun k (s : (List DGroup)) => impl_GroupsOf_b1 x0 x1 k s) (x0.length - 0) 0 [] = Sum.inr d10 := rng_end hl17 hF14
    refine QM_block_hit ?_
    refine QM_then ?_
    refine CM_seq ?_
    refine CM_region ?_
    refine WM_val (fun W hm => rv_move rfl) (Wd_none rfl) rfl (by decide) ?_
    refine WM_val (fun W hm => rv_assign rfl) (Wd_none rfl) rfl (by decide) ?_
    refine WM_nil ?_
    refine QM_then ?_
    refine CM_ret ?_
    refine QM_r1 rfl (RR_tmp rfl) (fun W hm => ⟨.slice A11 d10.length c12, ?_, ?_⟩)
    · first | rw [(show impl_GroupsOf_m x0 x1 = d10 from by unfold impl_GroupsOf_m; exact fin_inr hE35 (rfl))] | rfl
    · rw [(show impl_GroupsOf_m x0 x1 = d10 from by unfold impl_GroupsOf_m; exact fin_inr hE35 (rfl))]; exact (hm.front (n := 0) rfl)

def laws_eqGroup_m (x0 : DGroup) (x1 : DGroup) : Bool :=
  cond (x0.Query != x1.Query) false (cond (x0.Value != x1.Value) false (cond (x0.Count != x1.Count) false (cond (x0.Sum != x1.Sum) false true)))
theorem cb64 : Cb Try.prog 64 := ⟨Try.f64, _, Try.func64, rfl, by decide⟩
set_option maxRecDepth 10000 in
theorem laws_eqGroup_c (w : World) (z0 : List Value) (x0 : DGroup) (z1 : List Value) (x1 : DGroup) (r_0 : tyGroup.rd w w.heap.size z0 x0) (r_1 : tyGroup.rd w w.heap.size z1 x1) :
    Calls Try.prog 64 #[.agg z0.toArray, .agg z1.toArray] w fun e w' => e = .returned (.bool (laws_eqGroup_m x0 x1)) ∧ Below w.heap.size w w' := by
  obtain rfl := tyGroup_rd r_0
  obtain rfl := tyGroup_rd r_1
  refine call_enterM (L := [(0, .agg #[.int .i64 x0.Query, .int .i64 x0.Value, .int .i64 x0.Count, .int .i64 x0.Sum]), (1, .agg #[.int .i64 x1.Query, .int .i64 x1.Value, .int .i64 x1.Count, .int .i64 x1.Sum])]) (N := 25) Try.func64 rfl rfl (Nat.le_of_ble_eq_true rfl) (argsL_cons rfl (argsL_cons rfl argsL_nil)) ?_
  refine CM_seq ?_
  refine CM_region ?_
  refine WM_box rfl (Wd_none rfl) (by decide) (fun p1 => ?_)
  refine WM_box rfl (Wd_none rfl) (by decide) (fun p2 => ?_)
  refine WM_val (fun W hm => rv_assign rfl) (Wd_none rfl) rfl (by decide) ?_
  refine WM_nil ?_
  refine QM_then ?_
  refine CM_seq ?_
  refine CM_seq ?_
  refine CM_region ?_
  refine WM_val (fun W hm => rv_field Try.underlying80 rfl Try.type3 (by decide) rfl rfl) (Wd_none rfl) rfl (by decide) ?_
  refine WM_val (fun W hm => rv_load Try.underlying3 rfl rfl (hm.boxCell (n := 1) (o := 0) rfl rfl)) (Wd_none rfl) rfl (by decide) ?_
  refine WM_val (fun W hm => rv_field Try.underlying80 rfl Try.type3 (by decide) rfl rfl) (Wd_none rfl) rfl (by decide) ?_
  refine WM_val (fun W hm => rv_load Try.underlying3 rfl rfl (hm.boxCell (n := 0) (o := 0) rfl rfl)) (Wd_none rfl) rfl (by decide) ?_
  refine WM_val (fun W hm => rv_neq rfl rfl) (Wd_none rfl) rfl (by decide) ?_
  refine WM_nil ?_
  refine QM_then ?_
  by_cases h3 : x0.Query = x1.Query
  · have g4 : (x0.Query != x1.Query) = false := by rw [h3]; exact bne_self_eq_false _
    refine CM_condF rfl g4 ?_
    refine CM_skip ?_
    refine QM_then ?_
    refine CM_seq ?_
    refine CM_seq ?_
    refine CM_region ?_
    refine WM_val (fun W hm => rv_field Try.underlying80 rfl Try.type3 (by decide) rfl rfl) (Wd_none rfl) rfl (by decide) ?_
    refine WM_val (fun W hm => rv_load Try.underlying3 rfl rfl (hm.boxCell (n := 1) (o := 1) rfl rfl)) (Wd_none rfl) rfl (by decide) ?_
    refine WM_val (fun W hm => rv_field Try.underlying80 rfl Try.type3 (by decide) rfl rfl) (Wd_none rfl) rfl (by decide) ?_
    refine WM_val (fun W hm => rv_load Try.underlying3 rfl rfl (hm.boxCell (n := 0) (o := 1) rfl rfl)) (Wd_none rfl) rfl (by decide) ?_
    refine WM_val (fun W hm => rv_neq rfl rfl) (Wd_none rfl) rfl (by decide) ?_
    refine WM_nil ?_
    refine QM_then ?_
    by_cases h5 : x0.Value = x1.Value
    · have g6 : (x0.Value != x1.Value) = false := by rw [h5]; exact bne_self_eq_false _
      refine CM_condF rfl g6 ?_
      refine CM_skip ?_
      refine QM_then ?_
      refine CM_seq ?_
      refine CM_seq ?_
      refine CM_region ?_
      refine WM_val (fun W hm => rv_field Try.underlying80 rfl Try.type3 (by decide) rfl rfl) (Wd_none rfl) rfl (by decide) ?_
      refine WM_val (fun W hm => rv_load Try.underlying3 rfl rfl (hm.boxCell (n := 1) (o := 2) rfl rfl)) (Wd_none rfl) rfl (by decide) ?_
      refine WM_val (fun W hm => rv_field Try.underlying80 rfl Try.type3 (by decide) rfl rfl) (Wd_none rfl) rfl (by decide) ?_
      refine WM_val (fun W hm => rv_load Try.underlying3 rfl rfl (hm.boxCell (n := 0) (o := 2) rfl rfl)) (Wd_none rfl) rfl (by decide) ?_
      refine WM_val (fun W hm => rv_neq rfl rfl) (Wd_none rfl) rfl (by decide) ?_
      refine WM_nil ?_
      refine QM_then ?_
      by_cases h7 : x0.Count = x1.Count
      · have g8 : (x0.Count != x1.Count) = false := by rw [h7]; exact bne_self_eq_false _
        refine CM_condF rfl g8 ?_
        refine CM_skip ?_
        refine QM_then ?_
        refine CM_seq ?_
        refine CM_seq ?_
        refine CM_region ?_
        refine WM_val (fun W hm => rv_field Try.underlying80 rfl Try.type3 (by decide) rfl rfl) (Wd_none rfl) rfl (by decide) ?_
        refine WM_val (fun W hm => rv_load Try.underlying3 rfl rfl (hm.boxCell (n := 1) (o := 3) rfl rfl)) (Wd_none rfl) rfl (by decide) ?_
        refine WM_val (fun W hm => rv_field Try.underlying80 rfl Try.type3 (by decide) rfl rfl) (Wd_none rfl) rfl (by decide) ?_
        refine WM_val (fun W hm => rv_load Try.underlying3 rfl rfl (hm.boxCell (n := 0) (o := 3) rfl rfl)) (Wd_none rfl) rfl (by decide) ?_
        refine WM_val (fun W hm => rv_neq rfl rfl) (Wd_none rfl) rfl (by decide) ?_
        refine WM_nil ?_
        refine QM_then ?_
        by_cases h9 : x0.Sum = x1.Sum
        · have g10 : (x0.Sum != x1.Sum) = false := by rw [h9]; exact bne_self_eq_false _
          refine CM_condF rfl g10 ?_
          refine CM_skip ?_
          refine QM_then ?_
          refine CM_seq ?_
          refine CM_region ?_
          refine WM_val (fun W hm => rv_assign rfl) (Wd_none rfl) rfl (by decide) ?_
          refine WM_nil ?_
          refine QM_then ?_
          refine CM_ret ?_
          exact QM_ret1 rfl rfl (fun W hm => ⟨ret_b (show laws_eqGroup_m x0 x1 = true from by unfold laws_eqGroup_m; exact cond_f g4 (cond_f g6 (cond_f g8 (cond_f g10 (rfl))))), hm.below⟩)
        · have g10 : (x0.Sum != x1.Sum) = true := bne_iff_ne.2 h9
          refine CM_condT rfl g10 ?_
          refine CM_seq ?_
          refine CM_region ?_
          refine WM_val (fun W hm => rv_assign rfl) (Wd_none rfl) rfl (by decide) ?_
          refine WM_nil ?_
          refine QM_then ?_
          refine CM_ret ?_
          refine QM_then_ret ?_
          exact QM_ret1 rfl rfl (fun W hm => ⟨ret_b (show laws_eqGroup_m x0 x1 = false from by unfold laws_eqGroup_m; exact cond_f g4 (cond_f g6 (cond_f g8 (cond_t g10 (rfl))))), hm.below⟩)
      · have g8 : (x0.Count != x1.Count) = true := bne_iff_ne.2 h7
        refine CM_condT rfl g8 ?_
        refine CM_seq ?_
        refine CM_region ?_
        refine WM_val (fun W hm => rv_assign rfl) (Wd_none rfl) rfl (by decide) ?_
        refine WM_nil ?_
        refine QM_then ?_
        refine CM_ret ?_
        refine QM_then_ret ?_
        exact QM_ret1 rfl rfl (fun W hm => ⟨ret_b (show laws_eqGroup_m x0 x1 = false from by unfold laws_eqGroup_m; exact cond_f g4 (cond_f g6 (cond_t g8 (rfl)))), hm.below⟩)
    · have g6 : (x0.Value != x1.Value) = true := bne_iff_ne.2 h5
      refine CM_condT rfl g6 ?_
      refine CM_seq ?_
      refine CM_region ?_
      refine WM_val (fun W hm => rv_assign rfl) (Wd_none rfl) rfl (by decide) ?_
      refine WM_nil ?_
      refine QM_then ?_
      refine CM_ret ?_
      refine QM_then_ret ?_
      exact QM_ret1 rfl rfl (fun W hm => ⟨ret_b (show laws_eqGroup_m x0 x1 = false from by unfold laws_eqGroup_m; exact cond_f g4 (cond_t g6 (rfl))), hm.below⟩)
  · have g4 : (x0.Query != x1.Query) = true := bne_iff_ne.2 h3
    refine CM_condT rfl g4 ?_
    refine CM_seq ?_
    refine CM_region ?_
    refine WM_val (fun W hm => rv_assign rfl) (Wd_none rfl) rfl (by decide) ?_
    refine WM_nil ?_
    refine QM_then ?_
    refine CM_ret ?_
    refine QM_then_ret ?_
    exact QM_ret1 rfl rfl (fun W hm => ⟨ret_b (show laws_eqGroup_m x0 x1 = false from by unfold laws_eqGroup_m; exact cond_t g4 (rfl)), hm.below⟩)

def laws_eqGroupS_b1 (x0 : (List DGroup)) (x1 : (List DGroup)) (k13 : Nat) : Bool ⊕ (Unit) :=
  cond (laws_eqGroup_m (gt x0 k13) (gt x1 k13)) (Sum.inr ()) (Sum.inl false)
def laws_eqGroupS_m (x0 : (List DGroup)) (x1 : (List DGroup)) : Bool :=
  cond (((x0.length : Nat) : Int) != ((x1.length : Nat) : Int)) false (Sum.elim id (fun (s : Unit) => true) (rng (R := Bool) (fun k (_ : Unit) => laws_eqGroupS_b1 x0 x1 k) (x0.length - 0) 0 ()))
theorem cb21 : Cb Try.prog 21 := ⟨Try.f21, _, Try.func21, rfl, by decide⟩
set_option maxRecDepth 10000 in
theorem laws_eqGroupS_c (w : World) (z0 : Value) (x0 : (List DGroup)) (z1 : Value) (x1 : (List DGroup)) (r_0 : rdS tyGroup w w.heap.size z0 x0) (r_1 : rdS tyGroup w w.heap.size z1 x1) :
    Calls Try.prog 21 #[z0, z1] w fun e w' => e = .returned (.bool (laws_eqGroupS_m x0 x1)) ∧ Below w.heap.size w w' := by
  have r5 := r_0
  obtain ⟨m1, A2, c3, rfl, q4⟩ := r_0
  have r10 := r_1
  obtain ⟨m6, A7, c8, rfl, q9⟩ := r_1
  refine call_enterM (L := [(0, .slice A2 x0.length c3), (1, .slice A7 x1.length c8)]) (N := 27) Try.func21 rfl rfl (Nat.le_of_ble_eq_true rfl) (argsL_cons rfl (argsL_cons rfl argsL_nil)) ?_
  refine CM_seq ?_
  refine CM_region ?_
  refine WM_val (fun W hm => rv_assign rfl) (Wd_none rfl) rfl (by decide) ?_
  refine WM_nil ?_
  refine QM_then ?_
  refine CM_seq ?_
  refine CM_seq ?_
  refine CM_region ?_
  refine WM_val (fun W hm => rv_move rfl) (Wd_none rfl) rfl (by decide) ?_
  refine WM_val (fun W hm => rv_len Try.underlying26 rfl) (Wd_none rfl) rfl (by decide) ?_
  refine WM_val (fun W hm => rv_move rfl) (Wd_none rfl) rfl (by decide) ?_
  refine WM_val (fun W hm => rv_len Try.underlying26 rfl) (Wd_none rfl) rfl (by decide) ?_
  refine WM_val (fun W hm => rv_neq rfl rfl) (Wd_none rfl) rfl (by decide) ?_
  refine WM_nil ?_
  refine QM_then ?_
  by_cases h11 : ((x0.length : Nat) : Int) = ((x1.length : Nat) : Int)
  · have g12 : (((x0.length : Nat) : Int) != ((x1.length : Nat) : Int)) = false := by rw [h11]; exact bne_self_eq_false _
    refine CM_condF rfl g12 ?_
    refine CM_skip ?_
    refine QM_then ?_
    refine CM_seq ?_
    refine CM_seq ?_
    refine CM_region ?_
    refine WM_val (fun W hm => rv_assign rfl) (Wd_none rfl) rfl (by decide) ?_
    refine WM_nil ?_
    refine QM_then ?_
    refine CM_block ?_
    refine CM_loop (σ := Nat × (Unit) × (Unit)) (fun s => [(0, .slice A2 x0.length c3), (1, .slice A7 x1.length c8), (5, .int .i64 ((s.1 : Nat) : Int))]) (fun s => []) (fun s => s.1 ≤ x0.length ∧ rng (R := Bool) (fun k (_ : Unit) => laws_eqGroupS_b1 x0 x1 k) (x0.length - s.1) s.1 s.2.1 = rng (R := Bool) (fun k (_ : Unit) => laws_eqGroupS_b1 x0 x1 k) (x0.length - 0) 0 ()) (fun s => x0.length - s.1) (0, (), ()) (subL_cons rfl (subL_cons rfl (subL_cons rfl subL_nil))) (fun W hm => hm) ⟨(by omega), rfl⟩ ?_
    rintro ⟨k13, ⟨⟩, ⟨⟩⟩ H16
    obtain ⟨hk14, hF15⟩ : k13 ≤ x0.length ∧ rng (R := Bool) (fun k (_ : Unit) => laws_eqGroupS_b1 x0 x1 k) (x0.length - k13) k13 () = rng (R := Bool) (fun k (_ : Unit) => laws_eqGroupS_b1 x0 x1 k) (x0.length - 0) 0 () := H16
    show CM Try.prog 27 _ _ _ _ [(0, .slice A2 x0.length c3), (1, .slice A7 x1.length c8), (5, .int .i64 ((k13 : Nat) : Int))] []
    refine CM_seq ?_
    refine CM_seq ?_
    refine CM_region ?_
    refine WM_val (fun W hm => rv_move rfl) (Wd_none rfl) rfl (by decide) ?_
    refine WM_val (fun W hm => rv_move rfl) (Wd_none rfl) rfl (by decide) ?_
    refine WM_val (fun W hm => rv_len Try.underlying26 rfl) (Wd_none rfl) rfl (by decide) ?_
    refine WM_val (fun W hm => rv_lss rfl rfl) (Wd_none rfl) rfl (by decide) ?_
    refine WM_nil ?_
    refine QM_then ?_
    by_cases hl17 : k13 < x0.length
    · have g18 : (decide (((k13 : Nat) : Int) < ((x0.length : Nat) : Int))) = true := decide_eq_true (by omega)
      refine CM_condT rfl g18 ?_
      refine CM_skip ?_
      refine QM_then ?_
      refine CM_seq ?_
      refine CM_block ?_
      refine CM_seq ?_
      refine CM_regionD (by kernel_rfl) (by kernel_rfl) ?_
      refine QR_val (fun W hm => rv_move rfl) (Wd_none rfl) rfl (by decide) ?_
      refine QR_val (fun W hm => rv_move rfl) (Wd_none rfl) rfl (by decide) ?_
      obtain ⟨a19, rfl, hb20, he21⟩ := q4 (by omega)
      refine QR_val (fun W hm => rv_index (sz := 4) (k := k13) Try.underlying26 Try.type80 rfl rfl rfl (by omega)) (Wd_none rfl) rfl (by decide) ?_
      obtain ⟨_, e23, hc22⟩ := he21 k13 _ (gt_some (show k13 < x0.length from by omega))
      obtain rfl := tyGroup_rd e23
      refine QR_val (fun W hm => rv_loadN (cs := [.int .i64 ((gt x0 k13).Query), .int .i64 ((gt x0 k13).Value), .int .i64 ((gt x0 k13).Count), .int .i64 ((gt x0 k13).Sum)]) Try.underlying80 Try.type80 rfl rfl (hm.elCells (show (a19.add (k13 * 4)).block < w.heap.size from by rw [add_block]; exact hb20) hc22)) (Wd_none rfl) rfl (by decide) ?_
      refine QR_val (fun W hm => rv_move rfl) (Wd_none rfl) rfl (by decide) ?_
      refine QR_val (fun W hm => rv_move rfl) (Wd_none rfl) rfl (by decide) ?_
      obtain ⟨a24, rfl, hb25, he26⟩ := q9 (by omega)
      refine QR_val (fun W hm => rv_index (sz := 4) (k := k13) Try.underlying26 Try.type80 rfl rfl rfl (by omega)) (Wd_none rfl) rfl (by decide) ?_
      obtain ⟨_, e28, hc27⟩ := he26 k13 _ (gt_some (show k13 < x1.length from by omega))
      obtain rfl := tyGroup_rd e28
      refine QR_val (fun W hm => rv_loadN (cs := [.int .i64 ((gt x1 k13).Query), .int .i64 ((gt x1 k13).Value), .int .i64 ((gt x1 k13).Count), .int .i64 ((gt x1 k13).Sum)]) Try.underlying80 Try.type80 rfl rfl (hm.elCells (show (a24.add (k13 * 4)).block < w.heap.size from by rw [add_block]; exact hb25) hc27)) (Wd_none rfl) rfl (by decide) ?_
      refine QR_callV cb64 rfl (fun W hm => laws_eqGroup_c W _ (gt x0 k13) _ (gt x1 k13) tyGroup_mk tyGroup_mk) (Wd_none rfl) (by decide) ?_
      refine QR_val (fun W hm => rv_not rfl) (Wd_none rfl) rfl (by decide) ?_
      refine QR_nil ?_
      refine QM_then ?_
      rcases Bool.eq_false_or_eq_true (laws_eqGroup_m (gt x0 k13) (gt x1 k13)) with g30 | g30
      ·
        refine CM_condF rfl (nt g30) ?_
        refine CM_skip ?_
        refine QM_block_normal ?_
        refine QM_then ?_
        refine CM_region ?_
        refine WM_val (fun W hm => rv_move rfl) (Wd_none rfl) rfl (by decide) ?_
        refine WM_val (fun W hm => rv_addN (p := k13) (q := 1) rfl rfl (by omega)) (Wd_none rfl) rfl (by decide) ?_
        refine WM_val (fun W hm => rv_assign rfl) (Wd_none rfl) rfl (by decide) ?_
        refine WM_nil ?_
        have hn31 := rng_next (R := Bool) (body := (fun k (_ : Unit) => laws_eqGroupS_b1 x0 x1 k)) (k := k13) (s := ()) (s' := ()) (show k13 < x0.length from by omega) (show laws_eqGroupS_b1 x0 x1 k13 = Sum.inr () from by unfold laws_eqGroupS_b1; exact cond_t g30 (rfl)) hF15
        exact QM_round (k13 + 1, (), ()) (subL_cons rfl (subL_cons rfl (subL_cons rfl subL_nil))) (fun W hm => hm) ⟨(by omega), hn31⟩ (show x0.length - (k13 + 1) < x0.length - k13 from by omega)
      ·
        refine CM_condT rfl (nf g30) ?_
        refine CM_seq ?_
        refine CM_region ?_
        refine WM_val (fun W hm => rv_assign rfl) (Wd_none rfl) rfl (by decide) ?_
        refine WM_nil ?_
        refine QM_then ?_
        refine CM_ret ?_
        refine QM_block_ret ?_
        refine QM_then_ret ?_
        refine QM_then_ret ?_
        refine QM_block_ret ?_
        refine QM_then_ret ?_
        exact QM_ret1 rfl rfl (fun W hm => ⟨ret_b (show laws_eqGroupS_m x0 x1 = false from by unfold laws_eqGroupS_m; exact cond_f g12 (fin_inl (rng_ret (body := (fun k (_ : Unit) => laws_eqGroupS_b1 x0 x1 k)) (k := k13) (s := ()) (show k13 < x0.length from by omega) (show laws_eqGroupS_b1 x0 x1 k13 = Sum.inl false from by unfold laws_eqGroupS_b1; exact cond_f g30 (rfl)) hF15) rfl)), hm.below⟩)
    · have g18 : (decide (((k13 : Nat) : Int) < ((x0.length : Nat) : Int))) = false := decide_eq_false (by omega)
      refine CM_condF rfl g18 ?_
      refine CM_exit ?_
      refine QM_then_exit ?_
      refine QM_then_exit ?_
      have hE32 : rng (R := Bool) (fun k (_ : Unit) => laws_eqGroupS_b1 x0 x1 k) (x0.length - 0) 0 () = Sum.inr () := rng_end hl17 hF15
      refine QM_block_hit ?_
      refine QM_then ?_
      refine CM_seq ?_
      refine CM_region ?_
      refine WM_val (fun W hm => rv_assign rfl) (Wd_none rfl) rfl (by decide) ?_
      refine WM_nil ?_
      refine QM_then ?_
      refine CM_ret ?_
      exact QM_ret1 rfl rfl (fun W hm => ⟨ret_b (show laws_eqGroupS_m x0 x1 = true from by unfold laws_eqGroupS_m; exact cond_f g12 (fin_inr hE32 (rfl))), hm.below⟩)
  · have g12 : (((x0.length : Nat) : Int) != ((x1.length : Nat) : Int)) = true := bne_iff_ne.2 h11
    refine CM_condT rfl g12 ?_
    refine CM_seq ?_
    refine CM_region ?_
    refine WM_val (fun W hm => rv_assign rfl) (Wd_none rfl) rfl (by decide) ?_
    refine WM_nil ?_
    refine QM_then ?_
    refine CM_ret ?_
    refine QM_then_ret ?_
    exact QM_ret1 rfl rfl (fun W hm => ⟨ret_b (show laws_eqGroupS_m x0 x1 = false from by unfold laws_eqGroupS_m; exact cond_t g12 (rfl)), hm.below⟩)

def laws_markGroupS_b1 (k5 : Nat) (s6 : Int) (d7 : (List DGroup)) : (Int × (List DGroup)) ⊕ (Int × (List DGroup)) :=
  Sum.inr ((IntKind.i64.wrap ((IntKind.i64.wrap ((IntKind.i64.wrap ((IntKind.i64.wrap (s6 + 1)) + 1)) + 1)) + 1)), (d7.set k5 ⟨s6, (IntKind.i64.wrap (s6 + 1)), (IntKind.i64.wrap ((IntKind.i64.wrap (s6 + 1)) + 1)), (IntKind.i64.wrap ((IntKind.i64.wrap ((IntKind.i64.wrap (s6 + 1)) + 1)) + 1))⟩))
def laws_markGroupS_m (x0 : (List DGroup)) (x1 : Int) : (Int × (List DGroup)) :=
  Sum.elim id (fun (s : Int × (List DGroup)) => (s.1, s.2)) (rng (R := (Int × (List DGroup))) (fun k (s : Int × (List DGroup)) => laws_markGroupS_b1 k s.1 s.2) (x0.length - 0) 0 (x1, x0))
theorem cb22 : Cb Try.prog 22 := ⟨Try.f22, _, Try.func22, rfl, by decide⟩
set_option maxRecDepth 10000 in
theorem laws_markGroupS_c (B : Nat) (w0 : World) (is : List It) (w : World) (z0 : Value) (x0 : (List DGroup)) (x1 : Int) (hm : Mem B w0 (iOwn (tSl tyGroup 80) [z0] x0 :: is) w) :
    Calls Try.prog 22 #[z0, .int .i64 x1] w fun e w' => e = .returned (.int .i64 (laws_markGroupS_m x0 x1).1) ∧ Mem B w0 (iOwn (tSl tyGroup 80) [z0] (laws_markGroupS_m x0 x1).2 :: is) w' := by
  refine call_enterW (L := [(0, z0), (1, .int .i64 x1)]) (N := 41) Try.func22 rfl rfl (Nat.le_of_ble_eq_true rfl) (argsL_cons rfl (argsL_cons rfl argsL_nil)) hm ?_
  refine CM_form (n := 0) rfl ?_
  rintro A1 c2 rfl m3
  refine CM_seq ?_
  refine CM_region ?_
  refine WM_val (fun W hm => rv_assign rfl) (Wd_none rfl) rfl (by decide) ?_
  refine WM_nil ?_
  refine QM_then ?_
  refine CM_seq ?_
  refine CM_seq ?_
  refine CM_region ?_
  refine WM_val (fun W hm => rv_assign rfl) (Wd_none rfl) rfl (by decide) ?_
  refine WM_nil ?_
  refine QM_then ?_
  refine CM_block ?_
  refine CM_loop (σ := Nat × (Int × (List DGroup)) × (Unit)) (fun s => [(0, .slice A1 x0.length c2), (1, .int .i64 s.2.1.1), (5, .int .i64 ((s.1 : Nat) : Int))]) (fun s => (iOwn (tSl tyGroup 80) [.slice A1 x0.length c2] s.2.1.2 :: is)) (fun s => s.1 ≤ x0.length ∧ rng (R := (Int × (List DGroup))) (fun k (s : Int × (List DGroup)) => laws_markGroupS_b1 k s.1 s.2) (x0.length - s.1) s.1 s.2.1 = rng (R := (Int × (List DGroup))) (fun k (s : Int × (List DGroup)) => laws_markGroupS_b1 k s.1 s.2) (x0.length - 0) 0 (x1, x0)) (fun s => x0.length - s.1) (0, (x1, x0), ()) (subL_cons rfl (subL_cons rfl (subL_cons rfl subL_nil))) (fun W hm => hm) ⟨(by omega), rfl⟩ ?_
  rintro ⟨k5, ⟨s6, d7⟩, ⟨⟩⟩ H10
  obtain ⟨hk8, hF9⟩ : k5 ≤ x0.length ∧ rng (R := (Int × (List DGroup))) (fun k (s : Int × (List DGroup)) => laws_markGroupS_b1 k s.1 s.2) (x0.length - k5) k5 (s6, d7) = rng (R := (Int × (List DGroup))) (fun k (s : Int × (List DGroup)) => laws_markGroupS_b1 k s.1 s.2) (x0.length - 0) 0 (x1, x0) := H10
  show CM Try.prog 41 _ _ _ _ [(0, .slice A1 x0.length c2), (1, .int .i64 s6), (5, .int .i64 ((k5 : Nat) : Int))] (iOwn (tSl tyGroup 80) [.slice A1 x0.length c2] d7 :: is)
  refine CM_seq ?_
  refine CM_seq ?_
  refine CM_region ?_
  refine WM_val (fun W hm => rv_move rfl) (Wd_none rfl) rfl (by decide) ?_
  refine WM_val (fun W hm => rv_move rfl) (Wd_none rfl) rfl (by decide) ?_
  refine WM_val (fun W hm => rv_len Try.underlying26 rfl) (Wd_none rfl) rfl (by decide) ?_
  refine WM_val (fun W hm => rv_lss rfl rfl) (Wd_none rfl) rfl (by decide) ?_
  refine WM_nil ?_
  refine QM_then ?_
  by_cases hl11 : k5 < x0.length
  · have g12 : (decide (((k5 : Nat) : Int) < ((x0.length : Nat) : Int))) = true := decide_eq_true (by omega)
    refine CM_condT rfl g12 ?_
    refine CM_skip ?_
    refine QM_then ?_
    refine CM_seq ?_
    refine CM_block ?_
    refine CM_seq ?_
    refine CM_region ?_
    refine WM_val (fun W hm => rv_move rfl) (Wd_none rfl) rfl (by decide) ?_
    refine WM_val (fun W hm => rv_move rfl) (Wd_none rfl) rfl (by decide) ?_
    refine WM_val (fun W hm => rv_move rfl) (Wd_none rfl) rfl (by decide) ?_
    refine WM_formO (n := 0) rfl (by omega) ?_
    rintro g13 rfl
    refine WM_val (fun W hm => rv_index (sz := 4) (k := k5) Try.underlying26 Try.type80 rfl rfl rfl (by omega)) (Wd_none rfl) rfl (by decide) ?_
    refine WM_val (fun W hm => rv_field Try.underlying80 rfl Try.type3 (by decide) rfl rfl) (Wd_none rfl) rfl (by decide) ?_
    refine WM_focus (E := tyGroup) (e := 80) (A := (some ⟨g13, 0, none⟩)) (n := x0.length) (c := c2) (xs := d7) (k := k5) (js := (is)) (by omega) (fun W hm => (hm.front (n := 0) rfl)) (fun ck14 => ?_)
    refine WM_split (γ := Unit) (js := fun _ => []) (C := fun _ => ck14 = [.int .i64 ((gt d7 k5).Query), .int .i64 ((gt d7 k5).Value), .int .i64 ((gt d7 k5).Count), .int .i64 ((gt d7 k5).Sum)]) (fun _ _ h => tyGroup_split h) ?_
    rintro ⟨⟩ rfl
    refine WM_storeFoc (E := tyGroup) (e := 80) (g := g13) (n := x0.length) (c := c2) (k := k5) (s := 4) (o := 0) (xs := d7) (ck := [.int .i64 ((gt d7 k5).Query), .int .i64 ((gt d7 k5).Value), .int .i64 ((gt d7 k5).Count), .int .i64 ((gt d7 k5).Sum)]) (ck' := [.int .i64 s6, .int .i64 ((gt d7 k5).Value), .int .i64 ((gt d7 k5).Count), .int .i64 ((gt d7 k5).Sum)]) (js := (is)) (fun W hm => (hm.front (n := 0) rfl)) rfl rfl Try.type3 rfl (Nat.le_of_ble_eq_true rfl) rfl rfl rfl rfl (Wd_none rfl) ?_
    refine WM_nil ?_
    refine QM_then ?_
    refine CM_seq ?_
    refine CM_region ?_
    refine WM_val (fun W hm => rv_move rfl) (Wd_none rfl) rfl (by decide) ?_
    refine WM_val (fun W hm => rv_add rfl rfl) (Wd_none rfl) rfl (by decide) ?_
    refine WM_val (fun W hm => rv_assign rfl) (Wd_none rfl) rfl (by decide) ?_
    refine WM_nil ?_
    refine QM_then ?_
    refine CM_seq ?_
    refine CM_region ?_
    refine WM_val (fun W hm => rv_move rfl) (Wd_none rfl) rfl (by decide) ?_
    refine WM_val (fun W hm => rv_move rfl) (Wd_none rfl) rfl (by decide) ?_
    refine WM_val (fun W hm => rv_move rfl) (Wd_none rfl) rfl (by decide) ?_
    refine WM_val (fun W hm => rv_index (sz := 4) (k := k5) Try.underlying26 Try.type80 rfl rfl rfl (by omega)) (Wd_none rfl) rfl (by decide) ?_
    refine WM_val (fun W hm => rv_field Try.underlying80 rfl Try.type3 (by decide) rfl rfl) (Wd_none rfl) rfl (by decide) ?_
    refine WM_storeFoc (E := tyGroup) (e := 80) (g := g13) (n := x0.length) (c := c2) (k := k5) (s := 4) (o := 1) (xs := d7) (ck := [.int .i64 s6, .int .i64 ((gt d7 k5).Value), .int .i64 ((gt d7 k5).Count), .int .i64 ((gt d7 k5).Sum)]) (ck' := [.int .i64 s6, .int .i64 (IntKind.i64.wrap (s6 + 1)), .int .i64 ((gt d7 k5).Count), .int .i64 ((gt d7 k5).Sum)]) (js := (is)) (fun W hm => (hm.front (n := 0) rfl)) rfl rfl Try.type3 rfl (Nat.le_of_ble_eq_true rfl) rfl rfl rfl rfl (Wd_none rfl) ?_
    refine WM_nil ?_
    refine QM_then ?_
    refine CM_seq ?_
    refine CM_region ?_
    refine WM_val (fun W hm => rv_move rfl) (Wd_none rfl) rfl (by decide) ?_
    refine WM_val (fun W hm => rv_add rfl rfl) (Wd_none rfl) rfl (by decide) ?_
    refine WM_val (fun W hm => rv_assign rfl) (Wd_none rfl) rfl (by decide) ?_
    refine WM_nil ?_
    refine QM_then ?_
    refine CM_seq ?_
    refine CM_region ?_
    refine WM_val (fun W hm => rv_move rfl) (Wd_none rfl) rfl (by decide) ?_
    refine WM_val (fun W hm => rv_move rfl) (Wd_none rfl) rfl (by decide) ?_
    refine WM_val (fun W hm => rv_move rfl) (Wd_none rfl) rfl (by decide) ?_
    refine WM_val (fun W hm => rv_index (sz := 4) (k := k5) Try.underlying26 Try.type80 rfl rfl rfl (by omega)) (Wd_none rfl) rfl (by decide) ?_
    refine WM_val (fun W hm => rv_field Try.underlying80 rfl Try.type3 (by decide) rfl rfl) (Wd_none rfl) rfl (by decide) ?_
    refine WM_storeFoc (E := tyGroup) (e := 80) (g := g13) (n := x0.length) (c := c2) (k := k5) (s := 4) (o := 2) (xs := d7) (ck := [.int .i64 s6, .int .i64 (IntKind.i64.wrap (s6 + 1)), .int .i64 ((gt d7 k5).Count), .int .i64 ((gt d7 k5).Sum)]) (ck' := [.int .i64 s6, .int .i64 (IntKind.i64.wrap (s6 + 1)), .int .i64 (IntKind.i64.wrap ((IntKind.i64.wrap (s6 + 1)) + 1)), .int .i64 ((gt d7 k5).Sum)]) (js := (is)) (fun W hm => (hm.front (n := 0) rfl)) rfl rfl Try.type3 rfl (Nat.le_of_ble_eq_true rfl) rfl rfl rfl rfl (Wd_none rfl) ?_
    refine WM_nil ?_
    refine QM_then ?_
    refine CM_seq ?_
    refine CM_region ?_
    refine WM_val (fun W hm => rv_move rfl) (Wd_none rfl) rfl (by decide) ?_
    refine WM_val (fun W hm => rv_add rfl rfl) (Wd_none rfl) rfl (by decide) ?_
    refine WM_val (fun W hm => rv_assign rfl) (Wd_none rfl) rfl (by decide) ?_
    refine WM_nil ?_
    refine QM_then ?_
    refine CM_seq ?_
    refine CM_region ?_
    refine WM_val (fun W hm => rv_move rfl) (Wd_none rfl) rfl (by decide) ?_
    refine WM_val (fun W hm => rv_move rfl) (Wd_none rfl) rfl (by decide) ?_
    refine WM_val (fun W hm => rv_move rfl) (Wd_none rfl) rfl (by decide) ?_
    refine WM_val (fun W hm => rv_index (sz := 4) (k := k5) Try.underlying26 Try.type80 rfl rfl rfl (by omega)) (Wd_none rfl) rfl (by decide) ?_
    refine WM_val (fun W hm => rv_field Try.underlying80 rfl Try.type3 (by decide) rfl rfl) (Wd_none rfl) rfl (by decide) ?_
    refine WM_storeFoc (E := tyGroup) (e := 80) (g := g13) (n := x0.length) (c := c2) (k := k5) (s := 4) (o := 3) (xs := d7) (ck := [.int .i64 s6, .int .i64 (IntKind.i64.wrap (s6 + 1)), .int .i64 (IntKind.i64.wrap ((IntKind.i64.wrap (s6 + 1)) + 1)), .int .i64 ((gt d7 k5).Sum)]) (ck' := [.int .i64 s6, .int .i64 (IntKind.i64.wrap (s6 + 1)), .int .i64 (IntKind.i64.wrap ((IntKind.i64.wrap (s6 + 1)) + 1)), .int .i64 (IntKind.i64.wrap ((IntKind.i64.wrap ((IntKind.i64.wrap (s6 + 1)) + 1)) + 1))]) (js := (is)) (fun W hm => (hm.front (n := 0) rfl)) rfl rfl Try.type3 rfl (Nat.le_of_ble_eq_true rfl) rfl rfl rfl rfl (Wd_none rfl) ?_
    refine WM_nil ?_
    refine QM_then ?_
    refine CM_region ?_
    refine WM_val (fun W hm => rv_move rfl) (Wd_none rfl) rfl (by decide) ?_
    refine WM_val (fun W hm => rv_add rfl rfl) (Wd_none rfl) rfl (by decide) ?_
    refine WM_val (fun W hm => rv_assign rfl) (Wd_none rfl) rfl (by decide) ?_
    refine WM_nil ?_
    refine QM_block_normal ?_
    refine QM_then ?_
    refine CM_region ?_
    refine WM_val (fun W hm => rv_move rfl) (Wd_none rfl) rfl (by decide) ?_
    refine WM_val (fun W hm => rv_addN (p := k5) (q := 1) rfl rfl (by omega)) (Wd_none rfl) rfl (by decide) ?_
    refine WM_val (fun W hm => rv_assign rfl) (Wd_none rfl) rfl (by decide) ?_
    refine WM_nil ?_
    refine QM_items (fun W hm => Mem.unfocus (Mem.join (is := []) (js := (iFoc tyGroup 80 (some ⟨g13, 0, none⟩) x0.length c2 d7 k5 [.int .i64 s6, .int .i64 (IntKind.i64.wrap (s6 + 1)), .int .i64 (IntKind.i64.wrap ((IntKind.i64.wrap (s6 + 1)) + 1)), .int .i64 (IntKind.i64.wrap ((IntKind.i64.wrap ((IntKind.i64.wrap (s6 + 1)) + 1)) + 1))] :: (is))) (fun _ _ hs => tyGroup_join (x := (⟨s6, (IntKind.i64.wrap (s6 + 1)), (IntKind.i64.wrap ((IntKind.i64.wrap (s6 + 1)) + 1)), (IntKind.i64.wrap ((IntKind.i64.wrap ((IntKind.i64.wrap (s6 + 1)) + 1)) + 1))⟩ : DGroup)) hs) (hm.front (n := 0) rfl))) ?_
    have hn15 := rng_next (R := (Int × (List DGroup))) (body := (fun k (s : Int × (List DGroup)) => laws_markGroupS_b1 k s.1 s.2)) (k := k5) (s := (s6, d7)) (s' := ((IntKind.i64.wrap ((IntKind.i64.wrap ((IntKind.i64.wrap ((IntKind.i64.wrap (s6 + 1)) + 1)) + 1)) + 1)), (d7.set k5 ⟨s6, (IntKind.i64.wrap (s6 + 1)), (IntKind.i64.wrap ((IntKind.i64.wrap (s6 + 1)) + 1)), (IntKind.i64.wrap ((IntKind.i64.wrap ((IntKind.i64.wrap (s6 + 1)) + 1)) + 1))⟩))) (show k5 < x0.length from by omega) (show laws_markGroupS_b1 k5 s6 d7 = Sum.inr ((IntKind.i64.wrap ((IntKind.i64.wrap ((IntKind.i64.wrap ((IntKind.i64.wrap (s6 + 1)) + 1)) + 1)) + 1)), (d7.set k5 ⟨s6, (IntKind.i64.wrap (s6 + 1)), (IntKind.i64.wrap ((IntKind.i64.wrap (s6 + 1)) + 1)), (IntKind.i64.wrap ((IntKind.i64.wrap ((IntKind.i64.wrap (s6 + 1)) + 1)) + 1))⟩)) from by unfold laws_markGroupS_b1; exact rfl) hF9
    exact QM_round (k5 + 1, ((IntKind.i64.wrap ((IntKind.i64.wrap ((IntKind.i64.wrap ((IntKind.i64.wrap (s6 + 1)) + 1)) + 1)) + 1)), (d7.set k5 ⟨s6, (IntKind.i64.wrap (s6 + 1)), (IntKind.i64.wrap ((IntKind.i64.wrap (s6 + 1)) + 1)), (IntKind.i64.wrap ((IntKind.i64.wrap ((IntKind.i64.wrap (s6 + 1)) + 1)) + 1))⟩)), ()) (subL_cons rfl (subL_cons rfl (subL_cons rfl subL_nil))) (fun W hm => (hm.front (n := 0) rfl)) ⟨(by omega), hn15⟩ (show x0.length - (k5 + 1) < x0.length - k5 from by omega)
  · have g12 : (decide (((k5 : Nat) : Int) < ((x0.length : Nat) : Int))) = false := decide_eq_false (by omega)
    refine CM_condF rfl g12 ?_
    refine CM_exit ?_
    refine QM_then_exit ?_
    refine QM_then_exit ?_
    have hE16 : rng (R := (Int × (List DGroup))) (fun k (s : Int × (List DGroup)) => laws_markGroupS_b1 k s.1 s.2) (x0.length - 0) 0 (x1, x0) = Sum.inr (s6, d7) := rng_end hl11 hF9
    refine QM_block_hit ?_
    refine QM_then ?_
    refine CM_seq ?_
    refine CM_region ?_
    refine WM_val (fun W hm => rv_move rfl) (Wd_none rfl) rfl (by decide) ?_
    refine WM_val (fun W hm => rv_assign rfl) (Wd_none rfl) rfl (by decide) ?_
    refine WM_nil ?_
    refine QM_then ?_
    refine CM_ret ?_
    refine QM_rW rfl rfl (fun W hm => ⟨?_, ?_⟩)
    · rw [(show laws_markGroupS_m x0 x1 = (s6, d7) from by unfold laws_markGroupS_m; exact fin_inr hE16 (rfl))]
    · rw [(show laws_markGroupS_m x0 x1 = (s6, d7) from by unfold laws_markGroupS_m; exact fin_inr hE16 (rfl))]; exact (hm.front (n := 0) rfl)

def laws_heldGroupS_b1 (x0 : (List DGroup)) (k6 : Nat) (s7 : Int) : Int ⊕ (Int) :=
  cond (((gt x0 k6).Query) != s7) (Sum.inl (-1)) (cond (((gt x0 k6).Value) != (IntKind.i64.wrap (s7 + 1))) (Sum.inl (-1)) (cond (((gt x0 k6).Count) != (IntKind.i64.wrap ((IntKind.i64.wrap (s7 + 1)) + 1))) (Sum.inl (-1)) (cond (((gt x0 k6).Sum) != (IntKind.i64.wrap ((IntKind.i64.wrap ((IntKind.i64.wrap (s7 + 1)) + 1)) + 1))) (Sum.inl (-1)) (Sum.inr (IntKind.i64.wrap ((IntKind.i64.wrap ((IntKind.i64.wrap ((IntKind.i64.wrap (s7 + 1)) + 1)) + 1)) + 1))))))
def laws_heldGroupS_m (x0 : (List DGroup)) (x1 : Int) : Int :=
  Sum.elim id (fun (s : Int) => s) (rng (R := Int) (fun k (s : Int) => laws_heldGroupS_b1 x0 k s) (x0.length - 0) 0 x1)
theorem cb23 : Cb Try.prog 23 := ⟨Try.f23, _, Try.func23, rfl, by decide⟩
set_option maxRecDepth 10000 in
theorem laws_heldGroupS_c (w : World) (z0 : Value) (x0 : (List DGroup)) (x1 : Int) (r_0 : rdS tyGroup w w.heap.size z0 x0) :
    Calls Try.prog 23 #[z0, .int .i64 x1] w fun e w' => e = .returned (.int .i64 (laws_heldGroupS_m x0 x1)) ∧ Below w.heap.size w w' := by
  have r5 := r_0
  obtain ⟨m1, A2, c3, rfl, q4⟩ := r_0
  refine call_enterM (L := [(0, .slice A2 x0.length c3), (1, .int .i64 x1)]) (N := 49) Try.func23 rfl rfl (Nat.le_of_ble_eq_true rfl) (argsL_cons rfl (argsL_cons rfl argsL_nil)) ?_
  refine CM_seq ?_
  refine CM_region ?_
  refine WM_val (fun W hm => rv_assign rfl) (Wd_none rfl) rfl (by decide) ?_
  refine WM_nil ?_
  refine QM_then ?_
  refine CM_seq ?_
  refine CM_seq ?_
  refine CM_region ?_
  refine WM_val (fun W hm => rv_assign rfl) (Wd_none rfl) rfl (by decide) ?_
  refine WM_nil ?_
  refine QM_then ?_
  refine CM_block ?_
  refine CM_loop (σ := Nat × (Int) × (Unit)) (fun s => [(0, .slice A2 x0.length c3), (1, .int .i64 s.2.1), (5, .int .i64 ((s.1 : Nat) : Int))]) (fun s => []) (fun s => s.1 ≤ x0.length ∧ rng (R := Int) (fun k (s : Int) => laws_heldGroupS_b1 x0 k s) (x0.length - s.1) s.1 s.2.1 = rng (R := Int) (fun k (s : Int) => laws_heldGroupS_b1 x0 k s) (x0.length - 0) 0 x1) (fun s => x0.length - s.1) (0, x1, ()) (subL_cons rfl (subL_cons rfl (subL_cons rfl subL_nil))) (fun W hm => hm) ⟨(by omega), rfl⟩ ?_
  rintro ⟨k6, s7, ⟨⟩⟩ H10
  obtain ⟨hk8, hF9⟩ : k6 ≤ x0.length ∧ rng (R := Int) (fun k (s : Int) => laws_heldGroupS_b1 x0 k s) (x0.length - k6) k6 s7 = rng (R := Int) (fun k (s : Int) => laws_heldGroupS_b1 x0 k s) (x0.length - 0) 0 x1 := H10
  show CM Try.prog 49 _ _ _ _ [(0, .slice A2 x0.length c3), (1, .int .i64 s7), (5, .int .i64 ((k6 : Nat) : Int))] []
  refine CM_seq ?_
  refine CM_seq ?_
  refine CM_region ?_
  refine WM_val (fun W hm => rv_move rfl) (Wd_none rfl) rfl (by decide) ?_
  refine WM_val (fun W hm => rv_move rfl) (Wd_none rfl) rfl (by decide) ?_
  refine WM_val (fun W hm => rv_len Try.underlying26 rfl) (Wd_none rfl) rfl (by decide) ?_
  refine WM_val (fun W hm => rv_lss rfl rfl) (Wd_none rfl) rfl (by decide) ?_
  refine WM_nil ?_
  refine QM_then ?_
  by_cases hl11 : k6 < x0.length
  · have g12 : (decide (((k6 : Nat) : Int) < ((x0.length : Nat) : Int))) = true := decide_eq_true (by omega)
    refine CM_condT rfl g12 ?_
    refine CM_skip ?_
    refine QM_then ?_
    refine CM_seq ?_
    refine CM_block ?_
    refine CM_seq ?_
    refine CM_seq ?_
    refine CM_region ?_
    refine WM_val (fun W hm => rv_move rfl) (Wd_none rfl) rfl (by decide) ?_
    refine WM_val (fun W hm => rv_move rfl) (Wd_none rfl) rfl (by decide) ?_
    obtain ⟨a13, rfl, hb14, he15⟩ := q4 (by omega)
    refine WM_val (fun W hm => rv_index (sz := 4) (k := k6) Try.underlying26 Try.type80 rfl rfl rfl (by omega)) (Wd_none rfl) rfl (by decide) ?_
    refine WM_val (fun W hm => rv_field Try.underlying80 rfl Try.type3 (by decide) rfl rfl) (Wd_none rfl) rfl (by decide) ?_
    obtain ⟨_, e17, hc16⟩ := he15 k6 _ (gt_some (show k6 < x0.length from by omega))
    obtain rfl := tyGroup_rd e17
    refine WM_val (fun W hm => rv_load Try.underlying3 rfl rfl ((hm.cell0 (show ((a13.add (k6 * 4)).add 0).block < w.heap.size from by rw [add_block, add_block]; exact hb14)).trans (hc16 0 _ rfl))) (Wd_none rfl) rfl (by decide) ?_
    refine WM_val (fun W hm => rv_move rfl) (Wd_none rfl) rfl (by decide) ?_
    refine WM_val (fun W hm => rv_neq rfl rfl) (Wd_none rfl) rfl (by decide) ?_
    refine WM_nil ?_
    refine QM_then ?_
    by_cases h18 : ((gt x0 k6).Query) = s7
    · have g19 : (((gt x0 k6).Query) != s7) = false := by rw [h18]; exact bne_self_eq_false _
      refine CM_condF rfl g19 ?_
      refine CM_skip ?_
      refine QM_then ?_
      refine CM_seq ?_
      refine CM_region ?_
      refine WM_val (fun W hm => rv_move rfl) (Wd_none rfl) rfl (by decide) ?_
      refine WM_val (fun W hm => rv_add rfl rfl) (Wd_none rfl) rfl (by decide) ?_
      refine WM_val (fun W hm => rv_assign rfl) (Wd_none rfl) rfl (by decide) ?_
      refine WM_nil ?_
      refine QM_then ?_
      refine CM_seq ?_
      refine CM_seq ?_
      refine CM_region ?_
      refine WM_val (fun W hm => rv_move rfl) (Wd_none rfl) rfl (by decide) ?_
      refine WM_val (fun W hm => rv_move rfl) (Wd_none rfl) rfl (by decide) ?_
      refine WM_val (fun W hm => rv_index (sz := 4) (k := k6) Try.underlying26 Try.type80 rfl rfl rfl (by omega)) (Wd_none rfl) rfl (by decide) ?_
      refine WM_val (fun W hm => rv_field Try.underlying80 rfl Try.type3 (by decide) rfl rfl) (Wd_none rfl) rfl (by decide) ?_
      refine WM_val (fun W hm => rv_load Try.underlying3 rfl rfl ((hm.cell0 (show ((a13.add (k6 * 4)).add 1).block < w.heap.size from by rw [add_block, add_block]; exact hb14)).trans (hc16 1 _ rfl))) (Wd_none rfl) rfl (by decide) ?_
      refine WM_val (fun W hm => rv_move rfl) (Wd_none rfl) rfl (by decide) ?_
      refine WM_val (fun W hm => rv_neq rfl rfl) (Wd_none rfl) rfl (by decide) ?_
      refine WM_nil ?_
      refine QM_then ?_
      by_cases h20 : ((gt x0 k6).Value) = (IntKind.i64.wrap (s7 + 1))
      · have g21 : (((gt x0 k6).Value) != (IntKind.i64.wrap (s7 + 1))) = false := by rw [h20]; exact bne_self_eq_false _
        refine CM_condF rfl g21 ?_
        refine CM_skip ?_
        refine QM_then ?_
        refine CM_seq ?_
        refine CM_region ?_
        refine WM_val (fun W hm => rv_move rfl) (Wd_none rfl) rfl (by decide) ?_
        refine WM_val (fun W hm => rv_add rfl rfl) (Wd_none rfl) rfl (by decide) ?_
        refine WM_val (fun W hm => rv_assign rfl) (Wd_none rfl) rfl (by decide) ?_
        refine WM_nil ?_
        refine QM_then ?_
        refine CM_seq ?_
        refine CM_seq ?_
        refine CM_region ?_
        refine WM_val (fun W hm => rv_move rfl) (Wd_none rfl) rfl (by decide) ?_
        refine WM_val (fun W hm => rv_move rfl) (Wd_none rfl) rfl (by decide) ?_
        refine WM_val (fun W hm => rv_index (sz := 4) (k := k6) Try.underlying26 Try.type80 rfl rfl rfl (by omega)) (Wd_none rfl) rfl (by decide) ?_
        refine WM_val (fun W hm => rv_field Try.underlying80 rfl Try.type3 (by decide) rfl rfl) (Wd_none rfl) rfl (by decide) ?_
        refine WM_val (fun W hm => rv_load Try.underlying3 rfl rfl ((hm.cell0 (show ((a13.add (k6 * 4)).add 2).block < w.heap.size from by rw [add_block, add_block]; exact hb14)).trans (hc16 2 _ rfl))) (Wd_none rfl) rfl (by decide) ?_
        refine WM_val (fun W hm => rv_move rfl) (Wd_none rfl) rfl (by decide) ?_
        refine WM_val (fun W hm => rv_neq rfl rfl) (Wd_none rfl) rfl (by decide) ?_
        refine WM_nil ?_
        refine QM_then ?_
        by_cases h22 : ((gt x0 k6).Count) = (IntKind.i64.wrap ((IntKind.i64.wrap (s7 + 1)) + 1))
        · have g23 : (((gt x0 k6).Count) != (IntKind.i64.wrap ((IntKind.i64.wrap (s7 + 1)) + 1))) = false := by rw [h22]; exact bne_self_eq_false _
          refine CM_condF rfl g23 ?_
          refine CM_skip ?_
          refine QM_then ?_
          refine CM_seq ?_
          refine CM_region ?_
          refine WM_val (fun W hm => rv_move rfl) (Wd_none rfl) rfl (by decide) ?_
          refine WM_val (fun W hm => rv_add rfl rfl) (Wd_none rfl) rfl (by decide) ?_
          refine WM_val (fun W hm => rv_assign rfl) (Wd_none rfl) rfl (by decide) ?_
          refine WM_nil ?_
          refine QM_then ?_
          refine CM_seq ?_
          refine CM_seq ?_
          refine CM_region ?_
          refine WM_val (fun W hm => rv_move rfl) (Wd_none rfl) rfl (by decide) ?_
          refine WM_val (fun W hm => rv_move rfl) (Wd_none rfl) rfl (by decide) ?_
          refine WM_val (fun W hm => rv_index (sz := 4) (k := k6) Try.underlying26 Try.type80 rfl rfl rfl (by omega)) (Wd_none rfl) rfl (by decide) ?_
          refine WM_val (fun W hm => rv_field Try.underlying80 rfl Try.type3 (by decide) rfl rfl) (Wd_none rfl) rfl (by decide) ?_
          refine WM_val (fun W hm => rv_load Try.underlying3 rfl rfl ((hm.cell0 (show ((a13.add (k6 * 4)).add 3).block < w.heap.size from by rw [add_block, add_block]; exact hb14)).trans (hc16 3 _ rfl))) (Wd_none rfl) rfl (by decide) ?_
          refine WM_val (fun W hm => rv_move rfl) (Wd_none rfl) rfl (by decide) ?_
          refine WM_val (fun W hm => rv_neq rfl rfl) (Wd_none rfl) rfl (by decide) ?_
          refine WM_nil ?_
          refine QM_then ?_
          by_cases h24 : ((gt x0 k6).Sum) = (IntKind.i64.wrap ((IntKind.i64.wrap ((IntKind.i64.wrap (s7 + 1)) + 1)) + 1))
          · have g25 : (((gt x0 k6).Sum) != (IntKind.i64.wrap ((IntKind.i64.wrap ((IntKind.i64.wrap (s7 + 1)) + 1)) + 1))) = false := by rw [h24]; exact bne_self_eq_false _
            refine CM_condF rfl g25 ?_
            refine CM_skip ?_
            refine QM_then ?_
            refine CM_region ?_
            refine WM_val (fun W hm => rv_move rfl) (Wd_none rfl) rfl (by decide) ?_
            refine WM_val (fun W hm => rv_add rfl rfl) (Wd_none rfl) rfl (by decide) ?_
            refine WM_val (fun W hm => rv_assign rfl) (Wd_none rfl) rfl (by decide) ?_
            refine WM_nil ?_
            refine QM_block_normal ?_
            refine QM_then ?_
            refine CM_region ?_
            refine WM_val (fun W hm => rv_move rfl) (Wd_none rfl) rfl (by decide) ?_
            refine WM_val (fun W hm => rv_addN (p := k6) (q := 1) rfl rfl (by omega)) (Wd_none rfl) rfl (by decide) ?_
            refine WM_val (fun W hm => rv_assign rfl) (Wd_none rfl) rfl (by decide) ?_
            refine WM_nil ?_
            have hn26 := rng_next (R := Int) (body := (fun k (s : Int) => laws_heldGroupS_b1 x0 k s)) (k := k6) (s := s7) (s' := (IntKind.i64.wrap ((IntKind.i64.wrap ((IntKind.i64.wrap ((IntKind.i64.wrap (s7 + 1)) + 1)) + 1)) + 1))) (show k6 < x0.length from by omega) (show laws_heldGroupS_b1 x0 k6 s7 = Sum.inr (IntKind.i64.wrap ((IntKind.i64.wrap ((IntKind.i64.wrap ((IntKind.i64.wrap (s7 + 1)) + 1)) + 1)) + 1)) from by unfold laws_heldGroupS_b1; exact cond_f g19 (cond_f g21 (cond_f g23 (cond_f g25 (rfl))))) hF9
            exact QM_round (k6 + 1, (IntKind.i64.wrap ((IntKind.i64.wrap ((IntKind.i64.wrap ((IntKind.i64.wrap (s7 + 1)) + 1)) + 1)) + 1)), ()) (subL_cons rfl (subL_cons rfl (subL_cons rfl subL_nil))) (fun W hm => hm) ⟨(by omega), hn26⟩ (show x0.length - (k6 + 1) < x0.length - k6 from by omega)
          · have g25 : (((gt x0 k6).Sum) != (IntKind.i64.wrap ((IntKind.i64.wrap ((IntKind.i64.wrap (s7 + 1)) + 1)) + 1))) = true := bne_iff_ne.2 h24
            refine CM_condT rfl g25 ?_
            refine CM_seq ?_
            refine CM_region ?_
            refine WM_val (fun W hm => rv_assign rfl) (Wd_none rfl) rfl (by decide) ?_
            refine WM_nil ?_
            refine QM_then ?_
            refine CM_ret ?_
            refine QM_then_ret ?_
            refine QM_block_ret ?_
            refine QM_then_ret ?_
            refine QM_then_ret ?_
            refine QM_block_ret ?_
            refine QM_then_ret ?_
            exact QM_ret1 rfl rfl (fun W hm => ⟨ret_i (show laws_heldGroupS_m x0 x1 = (-1) from by unfold laws_heldGroupS_m; exact fin_inl (rng_ret (body := (fun k (s : Int) => laws_heldGroupS_b1 x0 k s)) (k := k6) (s := s7) (show k6 < x0.length from by omega) (show laws_heldGroupS_b1 x0 k6 s7 = Sum.inl (-1) from by unfold laws_heldGroupS_b1; exact cond_f g19 (cond_f g21 (cond_f g23 (cond_t g25 (rfl))))) hF9) rfl), hm.below⟩)
        · have g23 : (((gt x0 k6).Count) != (IntKind.i64.wrap ((IntKind.i64.wrap (s7 + 1)) + 1))) = true := bne_iff_ne.2 h22
          refine CM_condT rfl g23 ?_
          refine CM_seq ?_
          refine CM_region ?_
          refine WM_val (fun W hm => rv_assign rfl) (Wd_none rfl) rfl (by decide) ?_
          refine WM_nil ?_
          refine QM_then ?_
          refine CM_ret ?_
          refine QM_then_ret ?_
          refine QM_block_ret ?_
          refine QM_then_ret ?_
          refine QM_then_ret ?_
          refine QM_block_ret ?_
          refine QM_then_ret ?_
          exact QM_ret1 rfl rfl (fun W hm => ⟨ret_i (show laws_heldGroupS_m x0 x1 = (-1) from by unfold laws_heldGroupS_m; exact fin_inl (rng_ret (body := (fun k (s : Int) => laws_heldGroupS_b1 x0 k s)) (k := k6) (s := s7) (show k6 < x0.length from by omega) (show laws_heldGroupS_b1 x0 k6 s7 = Sum.inl (-1) from by unfold laws_heldGroupS_b1; exact cond_f g19 (cond_f g21 (cond_t g23 (rfl)))) hF9) rfl), hm.below⟩)
      · have g21 : (((gt x0 k6).Value) != (IntKind.i64.wrap (s7 + 1))) = true := bne_iff_ne.2 h20
        refine CM_condT rfl g21 ?_
        refine CM_seq ?_
        refine CM_region ?_
        refine WM_val (fun W hm => rv_assign rfl) (Wd_none rfl) rfl (by decide) ?_
        refine WM_nil ?_
        refine QM_then ?_
        refine CM_ret ?_
        refine QM_then_ret ?_
        refine QM_block_ret ?_
        refine QM_then_ret ?_
        refine QM_then_ret ?_
        refine QM_block_ret ?_
        refine QM_then_ret ?_
        exact QM_ret1 rfl rfl (fun W hm => ⟨ret_i (show laws_heldGroupS_m x0 x1 = (-1) from by unfold laws_heldGroupS_m; exact fin_inl (rng_ret (body := (fun k (s : Int) => laws_heldGroupS_b1 x0 k s)) (k := k6) (s := s7) (show k6 < x0.length from by omega) (show laws_heldGroupS_b1 x0 k6 s7 = Sum.inl (-1) from by unfold laws_heldGroupS_b1; exact cond_f g19 (cond_t g21 (rfl))) hF9) rfl), hm.below⟩)
    · have g19 : (((gt x0 k6).Query) != s7) = true := bne_iff_ne.2 h18
      refine CM_condT rfl g19 ?_
      refine CM_seq ?_
      refine CM_region ?_
      refine WM_val (fun W hm => rv_assign rfl) (Wd_none rfl) rfl (by decide) ?_
      refine WM_nil ?_
      refine QM_then ?_
      refine CM_ret ?_
      refine QM_then_ret ?_
      refine QM_block_ret ?_
      refine QM_then_ret ?_
      refine QM_then_ret ?_
      refine QM_block_ret ?_
      refine QM_then_ret ?_
      exact QM_ret1 rfl rfl (fun W hm => ⟨ret_i (show laws_heldGroupS_m x0 x1 = (-1) from by unfold laws_heldGroupS_m; exact fin_inl (rng_ret (body := (fun k (s : Int) => laws_heldGroupS_b1 x0 k s)) (k := k6) (s := s7) (show k6 < x0.length from by omega) (show laws_heldGroupS_b1 x0 k6 s7 = Sum.inl (-1) from by unfold laws_heldGroupS_b1; exact cond_t g19 (rfl)) hF9) rfl), hm.below⟩)
  · have g12 : (decide (((k6 : Nat) : Int) < ((x0.length : Nat) : Int))) = false := decide_eq_false (by omega)
    refine CM_condF rfl g12 ?_
    refine CM_exit ?_
    refine QM_then_exit ?_
    refine QM_then_exit ?_
    have hE27 : rng (R := Int) (fun k (s : Int) => laws_heldGroupS_b1 x0 k s) (x0.length - 0) 0 x1 = Sum.inr s7 := rng_end hl11 hF9
    refine QM_block_hit ?_
    refine QM_then ?_
    refine CM_seq ?_
    refine CM_region ?_
    refine WM_val (fun W hm => rv_move rfl) (Wd_none rfl) rfl (by decide) ?_
    refine WM_val (fun W hm => rv_assign rfl) (Wd_none rfl) rfl (by decide) ?_
    refine WM_nil ?_
    refine QM_then ?_
    refine CM_ret ?_
    exact QM_ret1 rfl rfl (fun W hm => ⟨ret_i (show laws_heldGroupS_m x0 x1 = s7 from by unfold laws_heldGroupS_m; exact fin_inr hE27 (rfl)), hm.below⟩)

end Go.Proofs.Ytlpgopanikikkaa
