/-
  Contracts of functions, printed by a program of ours.
-/
import Derived.Test.YtlpgopanikikkaaDat
namespace Go.Proofs.Ytlpgopanikikkaa
open Go.RowKit
def laws_szIntS_m (x0 : (List Int)) (x1 : Int) : Int :=
  cond (decide ((IntKind.i64.wrap (x1 - ((x0.length : Nat) : Int))) < 0)) (-1) (IntKind.i64.wrap (x1 - ((x0.length : Nat) : Int)))
theorem cb65 : Cb Try.prog 65 := ⟨Try.f65, _, Try.func65, rfl, by decide⟩
set_option maxRecDepth 10000 in
set_option maxHeartbeats 4000000 in
theorem laws_szIntS_c (w : World) (z0 : Value) (x0 : (List Int)) (x1 : Int) (r_0 : rdS tInt w w.heap.size z0 x0) :
    Calls Try.prog 65 #[z0, .int .i64 x1] w fun e w' => e = .returned (.int .i64 (laws_szIntS_m x0 x1)) ∧ Below w.heap.size w w' := by
  have r5 := r_0
  obtain ⟨m1, A2, c3, rfl, q4⟩ := r_0
  refine call_enterM (L := [(0, .slice A2 x0.length c3), (1, .int .i64 x1)]) (N := 12) Try.func65 rfl rfl (Nat.le_of_ble_eq_true rfl) (argsL_cons rfl (argsL_cons rfl argsL_nil)) ?_
  refine CM_seq ?_
  refine CM_region ?_
  refine WM_val (fun W hm => rv_assign rfl) (Wd_none rfl) rfl (by decide) ?_
  refine WM_nil ?_
  refine QM_then ?_
  refine CM_seq ?_
  refine CM_region ?_
  refine WM_val (fun W hm => rv_move rfl) (Wd_none rfl) rfl (by decide) ?_
  refine WM_val (fun W hm => rv_move rfl) (Wd_none rfl) rfl (by decide) ?_
  refine WM_val (fun W hm => rv_len Try.underlying32 rfl) (Wd_none rfl) rfl (by decide) ?_
  refine WM_val (fun W hm => rv_sub rfl rfl) (Wd_none rfl) rfl (by decide) ?_
  refine WM_val (fun W hm => rv_assign rfl) (Wd_none rfl) rfl (by decide) ?_
  refine WM_nil ?_
  refine QM_then ?_
  refine CM_seq ?_
  refine CM_seq ?_
  refine CM_region ?_
  refine WM_val (fun W hm => rv_move rfl) (Wd_none rfl) rfl (by decide) ?_
  refine WM_val (fun W hm => rv_lss rfl rfl) (Wd_none rfl) rfl (by decide) ?_
  refine WM_nil ?_
  refine QM_then ?_
  by_cases h6 : (IntKind.i64.wrap (x1 - ((x0.length : Nat) : Int))) < 0
  · have g7 : (decide ((IntKind.i64.wrap (x1 - ((x0.length : Nat) : Int))) < 0)) = true := decide_eq_true h6
    refine CM_condT rfl g7 ?_
    refine CM_seq ?_
    refine CM_region ?_
    refine WM_val (fun W hm => rv_assign rfl) (Wd_none rfl) rfl (by decide) ?_
    refine WM_nil ?_
    refine QM_then ?_
    refine CM_ret ?_
    refine QM_then_ret ?_
    exact QM_ret1 rfl rfl (fun W hm => ⟨ret_i (show laws_szIntS_m x0 x1 = (-1) from by unfold laws_szIntS_m; exact cond_t g7 (rfl)), hm.below⟩)
  · have g7 : (decide ((IntKind.i64.wrap (x1 - ((x0.length : Nat) : Int))) < 0)) = false := decide_eq_false h6
    refine CM_condF rfl g7 ?_
    refine CM_skip ?_
    refine QM_then ?_
    refine CM_seq ?_
    refine CM_region ?_
    refine WM_val (fun W hm => rv_move rfl) (Wd_none rfl) rfl (by decide) ?_
    refine WM_val (fun W hm => rv_assign rfl) (Wd_none rfl) rfl (by decide) ?_
    refine WM_nil ?_
    refine QM_then ?_
    refine CM_ret ?_
    exact QM_ret1 rfl rfl (fun W hm => ⟨ret_i (show laws_szIntS_m x0 x1 = (IntKind.i64.wrap (x1 - ((x0.length : Nat) : Int))) from by unfold laws_szIntS_m; exact cond_f g7 (rfl)), hm.below⟩)

def laws_szRow_m (x0 : DRow) (x1 : Int) : Int :=
  cond (decide ((laws_szIntS_m x0.Values x1) < 0)) (-1) (laws_szIntS_m x0.Values x1)
theorem cb71 : Cb Try.prog 71 := ⟨Try.f71, _, Try.func71, rfl, by decide⟩
set_option maxRecDepth 10000 in
set_option maxHeartbeats 4000000 in
theorem laws_szRow_c (w : World) (z0 : List Value) (x0 : DRow) (x1 : Int) (r_0 : tyLRow.rd w w.heap.size z0 x0) :
    Calls Try.prog 71 #[.agg z0.toArray, .int .i64 x1] w fun e w' => e = .returned (.int .i64 (laws_szRow_m x0 x1)) ∧ Below w.heap.size w w' := by
  obtain ⟨v1, rfl, r2⟩ := tyLRow_rd r_0
  have r7 := r2
  obtain ⟨m3, A4, c5, rfl, q6⟩ := r2
  refine call_enterM (L := [(0, .agg #[.int .i64 x0.Id, .slice A4 x0.Values.length c5]), (1, .int .i64 x1)]) (N := 12) Try.func71 rfl rfl (Nat.le_of_ble_eq_true rfl) (argsL_cons rfl (argsL_cons rfl argsL_nil)) ?_
  refine CM_seq ?_
  refine CM_region ?_
  refine WM_box rfl (Wd_none rfl) (by decide) (fun p8 => ?_)
  refine WM_val (fun W hm => rv_assign rfl) (Wd_none rfl) rfl (by decide) ?_
  refine WM_nil ?_
  refine QM_then ?_
  refine CM_seq ?_
  refine CM_region ?_
  refine WM_val (fun W hm => rv_field Try.underlying49 rfl Try.type32 (by decide) rfl rfl) (Wd_none rfl) rfl (by decide) ?_
  refine WM_val (fun W hm => rv_load Try.underlying32 rfl rfl (hm.boxCell (n := 0) (o := 1) rfl rfl)) (Wd_none rfl) rfl (by decide) ?_
  refine WM_val (fun W hm => rv_move rfl) (Wd_none rfl) rfl (by decide) ?_
  refine WM_callV (cl_fn cb65 rfl) (fun W hm => laws_szIntS_c W _ x0.Values x1 (hm.rdS0 r7)) (Wd_none rfl) (by decide) ?_
  refine WM_val (fun W hm => rv_assign rfl) (Wd_none rfl) rfl (by decide) ?_
  refine WM_nil ?_
  refine QM_then ?_
  refine CM_seq ?_
  refine CM_seq ?_
  refine CM_region ?_
  refine WM_val (fun W hm => rv_move rfl) (Wd_none rfl) rfl (by decide) ?_
  refine WM_val (fun W hm => rv_lss rfl rfl) (Wd_none rfl) rfl (by decide) ?_
  refine WM_nil ?_
  refine QM_then ?_
  by_cases h9 : (laws_szIntS_m x0.Values x1) < 0
  · have g10 : (decide ((laws_szIntS_m x0.Values x1) < 0)) = true := decide_eq_true h9
    refine CM_condT rfl g10 ?_
    refine CM_seq ?_
    refine CM_region ?_
    refine WM_val (fun W hm => rv_assign rfl) (Wd_none rfl) rfl (by decide) ?_
    refine WM_nil ?_
    refine QM_then ?_
    refine CM_ret ?_
    refine QM_then_ret ?_
    exact QM_ret1 rfl rfl (fun W hm => ⟨ret_i (show laws_szRow_m x0 x1 = (-1) from by unfold laws_szRow_m; exact cond_t g10 (rfl)), hm.below⟩)
  · have g10 : (decide ((laws_szIntS_m x0.Values x1) < 0)) = false := decide_eq_false h9
    refine CM_condF rfl g10 ?_
    refine CM_skip ?_
    refine QM_then ?_
    refine CM_seq ?_
    refine CM_region ?_
    refine WM_val (fun W hm => rv_move rfl) (Wd_none rfl) rfl (by decide) ?_
    refine WM_val (fun W hm => rv_assign rfl) (Wd_none rfl) rfl (by decide) ?_
    refine WM_nil ?_
    refine QM_then ?_
    refine CM_ret ?_
    exact QM_ret1 rfl rfl (fun W hm => ⟨ret_i (show laws_szRow_m x0 x1 = (laws_szIntS_m x0.Values x1) from by unfold laws_szRow_m; exact cond_f g10 (rfl)), hm.below⟩)

def laws_szUpdate_m (x0 : DUpdate) (x1 : Int) : Int :=
  cond (decide ((laws_szRow_m x0.Row x1) < 0)) (-1) (laws_szRow_m x0.Row x1)
theorem cb34 : Cb Try.prog 34 := ⟨Try.f34, _, Try.func34, rfl, by decide⟩
set_option maxRecDepth 10000 in
set_option maxHeartbeats 4000000 in
theorem laws_szUpdate_c (w : World) (z0 : List Value) (x0 : DUpdate) (x1 : Int) (r_0 : tyLUpdate.rd w w.heap.size z0 x0) :
    Calls Try.prog 34 #[.agg z0.toArray, .int .i64 x1] w fun e w' => e = .returned (.int .i64 (laws_szUpdate_m x0 x1)) ∧ Below w.heap.size w w' := by
  obtain ⟨v1, rfl, r2⟩ := tyLUpdate_rd r_0
  have r7 := r2
  obtain ⟨m3, A4, c5, rfl, q6⟩ := r2
  refine call_enterM (L := [(0, .agg #[.int .i64 x0.Kind, .int .i64 x0.Row.Id, .slice A4 x0.Row.Values.length c5, .int .i64 x0.Field, .int .i64 x0.Value]), (1, .int .i64 x1)]) (N := 12) Try.func34 rfl rfl (Nat.le_of_ble_eq_true rfl) (argsL_cons rfl (argsL_cons rfl argsL_nil)) ?_
  refine CM_seq ?_
  refine CM_region ?_
  refine WM_box rfl (Wd_none rfl) (by decide) (fun p8 => ?_)
  refine WM_val (fun W hm => rv_assign rfl) (Wd_none rfl) rfl (by decide) ?_
  refine WM_nil ?_
  refine QM_then ?_
  refine CM_seq ?_
  refine CM_region ?_
  refine WM_val (fun W hm => rv_field Try.underlying51 rfl Try.type49 (by decide) rfl rfl) (Wd_none rfl) rfl (by decide) ?_
  refine WM_val (fun W hm => rv_loadN (cs := [.int .i64 x0.Row.Id, .slice A4 x0.Row.Values.length c5]) Try.underlying49 Try.type49 rfl rfl (hm.boxPart (n := 0) rfl rfl)) (Wd_none rfl) rfl (by decide) ?_
  refine WM_val (fun W hm => rv_move rfl) (Wd_none rfl) rfl (by decide) ?_
  refine WM_callV (cl_fn cb71 rfl) (fun W hm => laws_szRow_c W _ x0.Row x1 (tyLRow_mk (hm.rdS0 r7))) (Wd_none rfl) (by decide) ?_
  refine WM_val (fun W hm => rv_assign rfl) (Wd_none rfl) rfl (by decide) ?_
  refine WM_nil ?_
  refine QM_then ?_
  refine CM_seq ?_
  refine CM_seq ?_
  refine CM_region ?_
  refine WM_val (fun W hm => rv_move rfl) (Wd_none rfl) rfl (by decide) ?_
  refine WM_val (fun W hm => rv_lss rfl rfl) (Wd_none rfl) rfl (by decide) ?_
  refine WM_nil ?_
  refine QM_then ?_
  by_cases h9 : (laws_szRow_m x0.Row x1) < 0
  · have g10 : (decide ((laws_szRow_m x0.Row x1) < 0)) = true := decide_eq_true h9
    refine CM_condT rfl g10 ?_
    refine CM_seq ?_
    refine CM_region ?_
    refine WM_val (fun W hm => rv_assign rfl) (Wd_none rfl) rfl (by decide) ?_
    refine WM_nil ?_
    refine QM_then ?_
    refine CM_ret ?_
    refine QM_then_ret ?_
    exact QM_ret1 rfl rfl (fun W hm => ⟨ret_i (show laws_szUpdate_m x0 x1 = (-1) from by unfold laws_szUpdate_m; exact cond_t g10 (rfl)), hm.below⟩)
  · have g10 : (decide ((laws_szRow_m x0.Row x1) < 0)) = false := decide_eq_false h9
    refine CM_condF rfl g10 ?_
    refine CM_skip ?_
    refine QM_then ?_
    refine CM_seq ?_
    refine CM_region ?_
    refine WM_val (fun W hm => rv_move rfl) (Wd_none rfl) rfl (by decide) ?_
    refine WM_val (fun W hm => rv_assign rfl) (Wd_none rfl) rfl (by decide) ?_
    refine WM_nil ?_
    refine QM_then ?_
    refine CM_ret ?_
    exact QM_ret1 rfl rfl (fun W hm => ⟨ret_i (show laws_szUpdate_m x0 x1 = (laws_szRow_m x0.Row x1) from by unfold laws_szUpdate_m; exact cond_f g10 (rfl)), hm.below⟩)

def laws_toIntS_b1 (x0 : (List Int)) (k9 : Nat) (d10 : (List Int)) : (List Int) ⊕ ((List Int)) :=
  Sum.inr (d10.set k9 (gt x0 k9))
def laws_toIntS_m (x0 : (List Int)) : (List Int) :=
  Sum.elim id (fun (s : (List Int)) => s) (rng (R := (List Int)) (fun k (s : (List Int)) => laws_toIntS_b1 x0 k s) (x0.length - 0) 0 (List.replicate x0.length (0 : Int)))
theorem cb59 : Cb Try.prog 59 := ⟨Try.f59, _, Try.func59, rfl, by decide⟩
set_option maxRecDepth 10000 in
set_option maxHeartbeats 4000000 in
theorem laws_toIntS_c (w : World) (z0 : Value) (x0 : (List Int)) (r_0 : rdS tInt w w.heap.size z0 x0) (s_0 : x0.length ≤ 68719476736) :
    Calls Try.prog 59 #[z0] w fun e w' => ∃ v : Value, e = .returned (v) ∧ Mem w.heap.size w [iOwn (tSl tInt 3) [v] (laws_toIntS_m x0)] w' := by
  have r5 := r_0
  obtain ⟨m1, A2, c3, rfl, q4⟩ := r_0
  have l6 : x0.length ≤ 68719476736 := s_0
  refine call_enterM (L := [(0, .slice A2 x0.length c3)]) (N := 22) Try.func59 rfl rfl (Nat.le_of_ble_eq_true rfl) (argsL_cons rfl argsL_nil) ?_
  refine CM_seq ?_
  refine CM_region ?_
  refine WM_val (fun W hm => rv_assign rfl) (Wd_none rfl) rfl (by decide) ?_
  refine WM_nil ?_
  refine QM_then ?_
  refine CM_seq ?_
  refine CM_region ?_
  refine WM_val (fun W hm => rv_move rfl) (Wd_none rfl) rfl (by decide) ?_
  refine WM_val (fun W hm => rv_len Try.underlying32 rfl) (Wd_none rfl) rfl (by decide) ?_
  refine WM_make (E := tInt) (n := x0.length) (x0 := (0 : Int)) Try.underlying32 Try.type3 rfl rfl rfl (fun _ => tInt_own) rfl rfl (show x0.length * 8 ≤ 281474976710656 from by omega) (by omega) (Wd_none rfl) (by decide) (fun p7 => ?_)
  refine WM_val (fun W hm => rv_assign rfl) (Wd_none rfl) rfl (by decide) ?_
  refine WM_nil ?_
  refine QM_then ?_
  refine CM_seq ?_
  refine CM_seq ?_
  refine CM_region ?_
  refine WM_val (fun W hm => rv_assign rfl) (Wd_none rfl) rfl (by decide) ?_
  refine WM_nil ?_
  refine QM_then ?_
  refine CM_block ?_
  refine CM_loop (σ := Nat × ((List Int)) × (Unit)) (fun s => [(0, .slice A2 x0.length c3), (3, .slice (some ⟨p7, 0, none⟩) x0.length x0.length), (4, .int .i64 ((s.1 : Nat) : Int))]) (fun s => [iOwn (tSl tInt 3) [.slice (some ⟨p7, 0, none⟩) x0.length x0.length] s.2.1]) (fun s => s.1 ≤ x0.length ∧ rng (R := (List Int)) (fun k (s : (List Int)) => laws_toIntS_b1 x0 k s) (x0.length - s.1) s.1 s.2.1 = rng (R := (List Int)) (fun k (s : (List Int)) => laws_toIntS_b1 x0 k s) (x0.length - 0) 0 (List.replicate x0.length (0 : Int))) (fun s => x0.length - s.1) (0, (List.replicate x0.length (0 : Int)), ()) (subL_cons rfl (subL_cons rfl (subL_cons rfl subL_nil))) (fun W hm => hm) ⟨(by omega), rfl⟩ ?_
  rintro ⟨k9, d10, ⟨⟩⟩ H13
  obtain ⟨hk11, hF12⟩ : k9 ≤ x0.length ∧ rng (R := (List Int)) (fun k (s : (List Int)) => laws_toIntS_b1 x0 k s) (x0.length - k9) k9 d10 = rng (R := (List Int)) (fun k (s : (List Int)) => laws_toIntS_b1 x0 k s) (x0.length - 0) 0 (List.replicate x0.length (0 : Int)) := H13
  show CM Try.prog 22 _ _ _ _ [(0, .slice A2 x0.length c3), (3, .slice (some ⟨p7, 0, none⟩) x0.length x0.length), (4, .int .i64 ((k9 : Nat) : Int))] [iOwn (tSl tInt 3) [.slice (some ⟨p7, 0, none⟩) x0.length x0.length] d10]
  refine CM_seq ?_
  refine CM_seq ?_
  refine CM_region ?_
  refine WM_val (fun W hm => rv_move rfl) (Wd_none rfl) rfl (by decide) ?_
  refine WM_val (fun W hm => rv_move rfl) (Wd_none rfl) rfl (by decide) ?_
  refine WM_val (fun W hm => rv_len Try.underlying32 rfl) (Wd_none rfl) rfl (by decide) ?_
  refine WM_val (fun W hm => rv_lss rfl rfl) (Wd_none rfl) rfl (by decide) ?_
  refine WM_nil ?_
  refine QM_then ?_
  by_cases hl14 : k9 < x0.length
  · have g15 : (decide (((k9 : Nat) : Int) < ((x0.length : Nat) : Int))) = true := decide_eq_true (by omega)
    refine CM_condT rfl g15 ?_
    refine CM_skip ?_
    refine QM_then ?_
    refine CM_seq ?_
    refine CM_block ?_
    refine CM_region ?_
    refine WM_val (fun W hm => rv_move rfl) (Wd_none rfl) rfl (by decide) ?_
    refine WM_val (fun W hm => rv_move rfl) (Wd_none rfl) rfl (by decide) ?_
    refine WM_val (fun W hm => rv_move rfl) (Wd_none rfl) rfl (by decide) ?_
    refine WM_val (fun W hm => rv_move rfl) (Wd_none rfl) rfl (by decide) ?_
    obtain ⟨a16, rfl, hb17, he18⟩ := q4 (by omega)
    refine WM_val (fun W hm => rv_index (sz := 1) (k := k9) Try.underlying32 Try.type3 rfl rfl rfl (by omega)) (Wd_none rfl) rfl (by decide) ?_
    refine WM_val (fun W hm => rv_load Try.underlying3 rfl rfl ((hm.cell0 (show (a16.add (k9 * 1)).block < w.heap.size from by rw [add_block]; exact hb17)).trans (rdS_int he18 k9 (by omega)))) (Wd_none rfl) rfl (by decide) ?_
    refine WM_val (fun W hm => rv_index (sz := 1) (k := k9) Try.underlying32 Try.type3 rfl rfl rfl (by omega)) (Wd_none rfl) rfl (by decide) ?_
    refine WM_setEl (E := tInt) (e := 3) (u := .int .i64 (gt x0 k9)) (k := k9) (p := p7) (n := x0.length) (xs := d10) (eis := []) (js := []) (yv := (gt x0 k9)) (fun W hm => (hm.front (n := 0) rfl)) (fun _ _ hs => (Sep.nil hs ▸ tInt_own)) rfl Try.type3 rfl (by omega) rfl rfl (Wd_none rfl) ?_
    refine WM_nil ?_
    refine QM_block_normal ?_
    refine QM_then ?_
    refine CM_region ?_
    refine WM_val (fun W hm => rv_move rfl) (Wd_none rfl) rfl (by decide) ?_
    refine WM_val (fun W hm => rv_addN (p := k9) (q := 1) rfl rfl (by omega)) (Wd_none rfl) rfl (by decide) ?_
    refine WM_val (fun W hm => rv_assign rfl) (Wd_none rfl) rfl (by decide) ?_
    refine WM_nil ?_
    have hn19 := rng_next (R := (List Int)) (body := (fun k (s : (List Int)) => laws_toIntS_b1 x0 k s)) (k := k9) (s := d10) (s' := (d10.set k9 (gt x0 k9))) (show k9 < x0.length from by omega) (show laws_toIntS_b1 x0 k9 d10 = Sum.inr (d10.set k9 (gt x0 k9)) from by unfold laws_toIntS_b1; exact rfl) hF12
    exact QM_round (k9 + 1, (d10.set k9 (gt x0 k9)), ()) (subL_cons rfl (subL_cons rfl (subL_cons rfl subL_nil))) (fun W hm => (hm.front (n := 0) rfl)) ⟨(by omega), hn19⟩ (show x0.length - (k9 + 1) < x0.length - k9 from by omega)
  · have g15 : (decide (((k9 : Nat) : Int) < ((x0.length : Nat) : Int))) = false := decide_eq_false (by omega)
    refine CM_condF rfl g15 ?_
    refine CM_exit ?_
    refine QM_then_exit ?_
    refine QM_then_exit ?_
    have hE20 : rng (R := (List Int)) (fun k (s : (List Int)) => laws_toIntS_b1 x0 k s) (x0.length - 0) 0 (List.replicate x0.length (0 : Int)) = Sum.inr d10 := rng_end hl14 hF12
    refine QM_block_hit ?_
    refine QM_then ?_
    refine CM_seq ?_
    refine CM_region ?_
    refine WM_val (fun W hm => rv_move rfl) (Wd_none rfl) rfl (by decide) ?_
    refine WM_val (fun W hm => rv_assign rfl) (Wd_none rfl) rfl (by decide) ?_
    refine WM_nil ?_
    refine QM_then ?_
    refine CM_ret ?_
    refine QM_r1 rfl (RR_tmp rfl) (fun W hm => ⟨.slice (some ⟨p7, 0, none⟩) x0.length x0.length, ?_, ?_⟩)
    · first | rw [(show laws_toIntS_m x0 = d10 from by unfold laws_toIntS_m; exact fin_inr hE20 (rfl))] | rfl
    · rw [(show laws_toIntS_m x0 = d10 from by unfold laws_toIntS_m; exact fin_inr hE20 (rfl))]; exact (hm.front (n := 0) rfl)

def laws_toRow_m (x0 : DRow) : DRow :=
  ⟨x0.Id, (laws_toIntS_m x0.Values)⟩
theorem cb73 : Cb Try.prog 73 := ⟨Try.f73, _, Try.func73, rfl, by decide⟩
set_option maxRecDepth 10000 in
set_option maxHeartbeats 4000000 in
theorem laws_toRow_c (w : World) (z0 : List Value) (x0 : DRow) (r_0 : tyLRow.rd w w.heap.size z0 x0) (s_0 : smRow 68719476736 x0) :
    Calls Try.prog 73 #[.agg z0.toArray] w fun e w' => ∃ v : List Value, e = .returned (.agg v.toArray) ∧ Mem w.heap.size w [iOwn tyRow v (laws_toRow_m x0)] w' := by
  obtain ⟨v1, rfl, r2⟩ := tyLRow_rd r_0
  have r7 := r2
  obtain ⟨m3, A4, c5, rfl, q6⟩ := r2
  have l8 : x0.Values.length ≤ 68719476736 := s_0
  refine call_enterM (L := [(0, .agg #[.int .i64 x0.Id, .slice A4 x0.Values.length c5])]) (N := 12) Try.func73 rfl rfl (Nat.le_of_ble_eq_true rfl) (argsL_cons rfl argsL_nil) ?_
  refine CM_seq ?_
  refine CM_region ?_
  refine WM_box rfl (Wd_none rfl) (by decide) (fun p9 => ?_)
  refine WM_alloc Try.type54 rfl (Wd_none rfl) (by decide) (fun p10 => ?_)
  refine WM_nil ?_
  refine QM_then ?_
  refine CM_seq ?_
  refine CM_region ?_
  refine WM_alloc Try.type54 rfl (Wd_none rfl) (by decide) (fun p11 => ?_)
  refine WM_nil ?_
  refine QM_then ?_
  refine CM_seq ?_
  refine CM_region ?_
  refine WM_val (fun W hm => rv_field Try.underlying49 rfl Try.type3 (by decide) rfl rfl) (Wd_none rfl) rfl (by decide) ?_
  refine WM_val (fun W hm => rv_load Try.underlying3 rfl rfl (hm.boxCell (n := 2) (o := 0) rfl rfl)) (Wd_none rfl) rfl (by decide) ?_
  refine WM_val (fun W hm => rv_field Try.underlying54 rfl Try.type3 (by decide) rfl rfl) (Wd_none rfl) rfl (by decide) ?_
  refine WM_storeBox (p := p11) (o := 0) (cs := [.int .i64 0, .slice none 0 0]) (cs' := [.int .i64 x0.Id, .slice none 0 0]) (fun w hm => hm.front (n := 0) rfl) Try.type3 rfl (Nat.le_of_ble_eq_true rfl) rfl rfl rfl rfl (Wd_none rfl) ?_
  refine WM_nil ?_
  refine QM_then ?_
  refine CM_seq ?_
  refine CM_region ?_
  refine WM_val (fun W hm => rv_field Try.underlying49 rfl Try.type32 (by decide) rfl rfl) (Wd_none rfl) rfl (by decide) ?_
  refine WM_val (fun W hm => rv_load Try.underlying32 rfl rfl (hm.boxCell (n := 2) (o := 1) rfl rfl)) (Wd_none rfl) rfl (by decide) ?_
  refine WM_call (χ := Value) (val := fun x => x) (js := fun x => [iOwn (tSl tInt 3) [x] (laws_toIntS_m x0.Values)]) (cl_fn cb59 rfl) (fun W hm => laws_toIntS_c W _ x0.Values (hm.rdS0 r7) s_0) (Wd_none rfl) (by decide) (fun z12 => ?_)
  refine WM_form (n := 0) rfl ?_
  rintro A13 c14 rfl m15
  refine WM_val (fun W hm => rv_field Try.underlying54 rfl Try.type32 (by decide) rfl rfl) (Wd_none rfl) rfl (by decide) ?_
  refine WM_storeBox (p := p11) (o := 1) (cs := [.int .i64 x0.Id, .slice none 0 0]) (cs' := [.int .i64 x0.Id, .slice A13 (laws_toIntS_m x0.Values).length c14]) (fun w hm => hm.front (n := 1) rfl) Try.type32 rfl (Nat.le_of_ble_eq_true rfl) rfl rfl rfl rfl (Wd_none rfl) ?_
  refine WM_nil ?_
  refine QM_then ?_
  refine CM_seq ?_
  refine CM_region ?_
  refine WM_val (fun W hm => rv_loadN (cs := [.int .i64 x0.Id, .slice A13 (laws_toIntS_m x0.Values).length c14]) Try.underlying54 Try.type54 rfl rfl (hm.boxCells (n := 0) rfl)) (Wd_none rfl) rfl (by decide) ?_
  refine WM_storeBox (p := p10) (o := 0) (cs := [.int .i64 0, .slice none 0 0]) (cs' := [.int .i64 x0.Id, .slice A13 (laws_toIntS_m x0.Values).length c14]) (fun w hm => hm.front (n := 2) rfl) Try.type54 rfl (Nat.le_of_ble_eq_true rfl) rfl rfl rfl rfl (Wd_none rfl) ?_
  refine WM_nil ?_
  refine QM_then ?_
  refine CM_ret ?_
  refine QM_r1 rfl (RR_cell (n := 0) rfl rfl Try.underlying54 Try.type54 rfl) (fun W hm => ⟨[.int .i64 x0.Id, .slice A13 (laws_toIntS_m x0.Values).length c14], ?_, ?_⟩)
  · first | rw [(show laws_toRow_m x0 = ⟨x0.Id, (laws_toIntS_m x0.Values)⟩ from by unfold laws_toRow_m; exact rfl)] | rfl
  · rw [(show laws_toRow_m x0 = ⟨x0.Id, (laws_toIntS_m x0.Values)⟩ from by unfold laws_toRow_m; exact rfl)]; exact Mem.join (is := [iOwn (tSl tInt 3) [.slice A13 (laws_toIntS_m x0.Values).length c14] (laws_toIntS_m x0.Values)]) (js := []) (fun _ _ hs => tyRow_join (x := (⟨x0.Id, (laws_toIntS_m x0.Values)⟩ : DRow)) hs) ((((hm.front (n := 2) rfl).front (n := 1) rfl).tail.front (n := 1) rfl).tail.front (n := 1) rfl).tail

def laws_toUpdate_m (x0 : DUpdate) : DUpdate :=
  ⟨x0.Kind, (laws_toRow_m x0.Row), x0.Field, x0.Value⟩
theorem cb36 : Cb Try.prog 36 := ⟨Try.f36, _, Try.func36, rfl, by decide⟩
set_option maxRecDepth 10000 in
set_option maxHeartbeats 4000000 in
theorem laws_toUpdate_c (w : World) (z0 : List Value) (x0 : DUpdate) (r_0 : tyLUpdate.rd w w.heap.size z0 x0) (s_0 : smUpdate 68719476736 x0) :
    Calls Try.prog 36 #[.agg z0.toArray] w fun e w' => ∃ v : List Value, e = .returned (.agg v.toArray) ∧ Mem w.heap.size w [iOwn tyUpdate v (laws_toUpdate_m x0)] w' := by
  obtain ⟨v1, rfl, r2⟩ := tyLUpdate_rd r_0
  have r7 := r2
  obtain ⟨m3, A4, c5, rfl, q6⟩ := r2
  have l8 : x0.Row.Values.length ≤ 68719476736 := s_0
  refine call_enterM (L := [(0, .agg #[.int .i64 x0.Kind, .int .i64 x0.Row.Id, .slice A4 x0.Row.Values.length c5, .int .i64 x0.Field, .int .i64 x0.Value])]) (N := 18) Try.func36 rfl rfl (Nat.le_of_ble_eq_true rfl) (argsL_cons rfl argsL_nil) ?_
  refine CM_seq ?_
  refine CM_region ?_
  refine WM_box rfl (Wd_none rfl) (by decide) (fun p9 => ?_)
  refine WM_alloc Try.type56 rfl (Wd_none rfl) (by decide) (fun p10 => ?_)
  refine WM_nil ?_
  refine QM_then ?_
  refine CM_seq ?_
  refine CM_region ?_
  refine WM_alloc Try.type56 rfl (Wd_none rfl) (by decide) (fun p11 => ?_)
  refine WM_nil ?_
  refine QM_then ?_
  refine CM_seq ?_
  refine CM_region ?_
  refine WM_val (fun W hm => rv_field Try.underlying51 rfl Try.type3 (by decide) rfl rfl) (Wd_none rfl) rfl (by decide) ?_
  refine WM_val (fun W hm => rv_load Try.underlying3 rfl rfl (hm.boxCell (n := 2) (o := 0) rfl rfl)) (Wd_none rfl) rfl (by decide) ?_
  refine WM_val (fun W hm => rv_field Try.underlying56 rfl Try.type3 (by decide) rfl rfl) (Wd_none rfl) rfl (by decide) ?_
  refine WM_storeBox (p := p11) (o := 0) (cs := [.int .i64 0, .int .i64 0, .slice none 0 0, .int .i64 0, .int .i64 0]) (cs' := [.int .i64 x0.Kind, .int .i64 0, .slice none 0 0, .int .i64 0, .int .i64 0]) (fun w hm => hm.front (n := 0) rfl) Try.type3 rfl (Nat.le_of_ble_eq_true rfl) rfl rfl rfl rfl (Wd_none rfl) ?_
  refine WM_nil ?_
  refine QM_then ?_
  refine CM_seq ?_
  refine CM_region ?_
  refine WM_val (fun W hm => rv_field Try.underlying51 rfl Try.type49 (by decide) rfl rfl) (Wd_none rfl) rfl (by decide) ?_
  refine WM_val (fun W hm => rv_loadN (cs := [.int .i64 x0.Row.Id, .slice A4 x0.Row.Values.length c5]) Try.underlying49 Try.type49 rfl rfl (hm.boxPart (n := 2) rfl rfl)) (Wd_none rfl) rfl (by decide) ?_
  refine WM_call (χ := List Value) (val := fun x => .agg x.toArray) (js := fun x => [iOwn tyRow x (laws_toRow_m x0.Row)]) (cl_fn cb73 rfl) (fun W hm => laws_toRow_c W _ x0.Row (tyLRow_mk (hm.rdS0 r7)) s_0) (Wd_none rfl) (by decide) (fun z12 => ?_)
  refine WM_split (γ := Value) (js := fun g => [iOwn (tSl tInt 3) [g] ((laws_toRow_m x0.Row).Values)]) (C := fun g => z12 = [.int .i64 ((laws_toRow_m x0.Row).Id), g]) (fun _ _ h => tyRow_split h) ?_
  rintro v13 rfl
  refine WM_form (n := 0) rfl ?_
  rintro A14 c15 rfl m16
  refine WM_val (fun W hm => rv_field Try.underlying56 rfl Try.type54 (by decide) rfl rfl) (Wd_none rfl) rfl (by decide) ?_
  refine WM_storeBox (p := p11) (o := 1) (cs := [.int .i64 x0.Kind, .int .i64 0, .slice none 0 0, .int .i64 0, .int .i64 0]) (cs' := [.int .i64 x0.Kind, .int .i64 ((laws_toRow_m x0.Row).Id), .slice A14 ((laws_toRow_m x0.Row).Values).length c15, .int .i64 0, .int .i64 0]) (fun w hm => hm.front (n := 1) rfl) Try.type54 rfl (Nat.le_of_ble_eq_true rfl) rfl rfl rfl rfl (Wd_none rfl) ?_
  refine WM_nil ?_
  refine QM_then ?_
  refine CM_seq ?_
  refine CM_region ?_
  refine WM_val (fun W hm => rv_field Try.underlying51 rfl Try.type3 (by decide) rfl rfl) (Wd_none rfl) rfl (by decide) ?_
  refine WM_val (fun W hm => rv_load Try.underlying3 rfl rfl (hm.boxCell (n := 3) (o := 3) rfl rfl)) (Wd_none rfl) rfl (by decide) ?_
  refine WM_val (fun W hm => rv_field Try.underlying56 rfl Try.type3 (by decide) rfl rfl) (Wd_none rfl) rfl (by decide) ?_
  refine WM_storeBox (p := p11) (o := 3) (cs := [.int .i64 x0.Kind, .int .i64 ((laws_toRow_m x0.Row).Id), .slice A14 ((laws_toRow_m x0.Row).Values).length c15, .int .i64 0, .int .i64 0]) (cs' := [.int .i64 x0.Kind, .int .i64 ((laws_toRow_m x0.Row).Id), .slice A14 ((laws_toRow_m x0.Row).Values).length c15, .int .i64 x0.Field, .int .i64 0]) (fun w hm => hm.front (n := 0) rfl) Try.type3 rfl (Nat.le_of_ble_eq_true rfl) rfl rfl rfl rfl (Wd_none rfl) ?_
  refine WM_nil ?_
  refine QM_then ?_
  refine CM_seq ?_
  refine CM_region ?_
  refine WM_val (fun W hm => rv_field Try.underlying51 rfl Try.type3 (by decide) rfl rfl) (Wd_none rfl) rfl (by decide) ?_
  refine WM_val (fun W hm => rv_load Try.underlying3 rfl rfl (hm.boxCell (n := 3) (o := 4) rfl rfl)) (Wd_none rfl) rfl (by decide) ?_
  refine WM_val (fun W hm => rv_field Try.underlying56 rfl Try.type3 (by decide) rfl rfl) (Wd_none rfl) rfl (by decide) ?_
  refine WM_storeBox (p := p11) (o := 4) (cs := [.int .i64 x0.Kind, .int .i64 ((laws_toRow_m x0.Row).Id), .slice A14 ((laws_toRow_m x0.Row).Values).length c15, .int .i64 x0.Field, .int .i64 0]) (cs' := [.int .i64 x0.Kind, .int .i64 ((laws_toRow_m x0.Row).Id), .slice A14 ((laws_toRow_m x0.Row).Values).length c15, .int .i64 x0.Field, .int .i64 x0.Value]) (fun w hm => hm.front (n := 0) rfl) Try.type3 rfl (Nat.le_of_ble_eq_true rfl) rfl rfl rfl rfl (Wd_none rfl) ?_
  refine WM_nil ?_
  refine QM_then ?_
  refine CM_seq ?_
  refine CM_region ?_
  refine WM_val (fun W hm => rv_loadN (cs := [.int .i64 x0.Kind, .int .i64 ((laws_toRow_m x0.Row).Id), .slice A14 ((laws_toRow_m x0.Row).Values).length c15, .int .i64 x0.Field, .int .i64 x0.Value]) Try.underlying56 Try.type56 rfl rfl (hm.boxCells (n := 0) rfl)) (Wd_none rfl) rfl (by decide) ?_
  refine WM_storeBox (p := p10) (o := 0) (cs := [.int .i64 0, .int .i64 0, .slice none 0 0, .int .i64 0, .int .i64 0]) (cs' := [.int .i64 x0.Kind, .int .i64 ((laws_toRow_m x0.Row).Id), .slice A14 ((laws_toRow_m x0.Row).Values).length c15, .int .i64 x0.Field, .int .i64 x0.Value]) (fun w hm => hm.front (n := 2) rfl) Try.type56 rfl (Nat.le_of_ble_eq_true rfl) rfl rfl rfl rfl (Wd_none rfl) ?_
  refine WM_nil ?_
  refine QM_then ?_
  refine CM_ret ?_
  refine QM_r1 rfl (RR_cell (n := 0) rfl rfl Try.underlying56 Try.type56 rfl) (fun W hm => ⟨[.int .i64 x0.Kind, .int .i64 ((laws_toRow_m x0.Row).Id), .slice A14 ((laws_toRow_m x0.Row).Values).length c15, .int .i64 x0.Field, .int .i64 x0.Value], ?_, ?_⟩)
  · first | rw [(show laws_toUpdate_m x0 = ⟨x0.Kind, (laws_toRow_m x0.Row), x0.Field, x0.Value⟩ from by unfold laws_toUpdate_m; exact rfl)] | rfl
  · rw [(show laws_toUpdate_m x0 = ⟨x0.Kind, (laws_toRow_m x0.Row), x0.Field, x0.Value⟩ from by unfold laws_toUpdate_m; exact rfl)]; exact Mem.join (is := [iOwn (tSl tInt 3) [.slice A14 ((laws_toRow_m x0.Row).Values).length c15] ((laws_toRow_m x0.Row).Values)]) (js := []) (fun _ _ hs => tyUpdate_join (x := (⟨x0.Kind, (laws_toRow_m x0.Row), x0.Field, x0.Value⟩ : DUpdate)) hs) ((((hm.front (n := 2) rfl).front (n := 1) rfl).tail.front (n := 1) rfl).tail.front (n := 1) rfl).tail

def spec_l1In_m (x0 : Int) (x1 : Int) (x2 : Int) : Bool :=
  cond (decide (x1 ≤ x0)) (decide (x0 ≤ x2)) false
theorem cb61 : Cb Try.prog 61 := ⟨Try.f61, _, Try.func61, rfl, by decide⟩
set_option maxRecDepth 10000 in
set_option maxHeartbeats 4000000 in
theorem spec_l1In_c (w : World) (x0 : Int) (x1 : Int) (x2 : Int) :
    Calls Try.prog 61 #[.int .i64 x0, .int .i64 x1, .int .i64 x2] w fun e w' => e = .returned (.bool (spec_l1In_m x0 x1 x2)) ∧ Below w.heap.size w w' := by
  refine call_enterM (L := [(0, .int .i64 x0), (1, .int .i64 x1), (2, .int .i64 x2)]) (N := 15) Try.func61 rfl rfl (Nat.le_of_ble_eq_true rfl) (argsL_cons rfl (argsL_cons rfl (argsL_cons rfl argsL_nil))) ?_
  refine CM_seq ?_
  refine CM_region ?_
  refine WM_val (fun W hm => rv_assign rfl) (Wd_none rfl) rfl (by decide) ?_
  refine WM_nil ?_
  refine QM_then ?_
  refine CM_seq ?_
  refine CM_region ?_
  refine WM_val (fun W hm => rv_move rfl) (Wd_none rfl) rfl (by decide) ?_
  refine WM_val (fun W hm => rv_move rfl) (Wd_none rfl) rfl (by decide) ?_
  refine WM_val (fun W hm => rv_geq rfl rfl) (Wd_none rfl) rfl (by decide) ?_
  refine WM_val (fun W hm => rv_move rfl) (Wd_none rfl) rfl (by decide) ?_
  by_cases h1 : x1 ≤ x0
  · have g2 : (decide (x1 ≤ x0)) = true := decide_eq_true h1
    refine WM_val (fun W hm => rv_move rfl) (Wd_some rfl rfl rfl (bw g2 rfl)) rfl (by decide) ?_
    refine WM_val (fun W hm => rv_move rfl) (Wd_some rfl rfl rfl (bw g2 rfl)) rfl (by decide) ?_
    refine WM_val (fun W hm => rv_leq rfl rfl) (Wd_some rfl rfl rfl (bw g2 rfl)) rfl (by decide) ?_
    refine WM_val (fun W hm => rv_pickT rfl g2 rfl) (Wd_none rfl) rfl (by decide) ?_
    refine WM_val (fun W hm => rv_assign rfl) (Wd_none rfl) rfl (by decide) ?_
    refine WM_nil ?_
    refine QM_then ?_
    refine CM_ret ?_
    exact QM_ret1 rfl rfl (fun W hm => ⟨ret_b (show spec_l1In_m x0 x1 x2 = (decide (x0 ≤ x2)) from by unfold spec_l1In_m; exact cond_t g2 (rfl)), hm.below⟩)
  · have g2 : (decide (x1 ≤ x0)) = false := decide_eq_false h1
    refine WM_skip (Wd_some rfl rfl rfl (bw g2 rfl)) rfl (by decide) ?_
    refine WM_skip (Wd_some rfl rfl rfl (bw g2 rfl)) rfl (by decide) ?_
    refine WM_skip (Wd_some rfl rfl rfl (bw g2 rfl)) rfl (by decide) ?_
    refine WM_val (fun W hm => rv_pickF rfl g2 rfl) (Wd_none rfl) rfl (by decide) ?_
    refine WM_val (fun W hm => rv_assign rfl) (Wd_none rfl) rfl (by decide) ?_
    refine WM_nil ?_
    refine QM_then ?_
    refine CM_ret ?_
    exact QM_ret1 rfl rfl (fun W hm => ⟨ret_b (show spec_l1In_m x0 x1 x2 = false from by unfold spec_l1In_m; exact cond_f g2 (rfl)), hm.below⟩)

def spec_IsRow_b1 (x0 : DRow) (k9 : Nat) : Bool ⊕ (Unit) :=
  cond (spec_l1In_m (gt x0.Values k9) 0 99) (Sum.inr ()) (Sum.inl false)
def spec_IsRow_m (x0 : DRow) : Bool :=
  Sum.elim id (fun (s : Unit) => cond (spec_l1In_m x0.Id 0 999) (((x0.Values.length : Nat) : Int) == 3) false) (rng (R := Bool) (fun k (_ : Unit) => spec_IsRow_b1 x0 k) (x0.Values.length - 0) 0 ())
theorem cb72 : Cb Try.prog 72 := ⟨Try.f72, _, Try.func72, rfl, by decide⟩
set_option maxRecDepth 10000 in
set_option maxHeartbeats 4000000 in
theorem spec_IsRow_c (w : World) (z0 : List Value) (x0 : DRow) (r_0 : tyRow.rd w w.heap.size z0 x0) :
    Calls Try.prog 72 #[.agg z0.toArray] w fun e w' => e = .returned (.bool (spec_IsRow_m x0)) ∧ Below w.heap.size w w' := by
  obtain ⟨v1, rfl, r2⟩ := tyRow_rd r_0
  have r7 := r2
  obtain ⟨m3, A4, c5, rfl, q6⟩ := r2
  refine call_enterM (L := [(0, .agg #[.int .i64 x0.Id, .slice A4 x0.Values.length c5])]) (N := 27) Try.func72 rfl rfl (Nat.le_of_ble_eq_true rfl) (argsL_cons rfl argsL_nil) ?_
  refine CM_seq ?_
  refine CM_region ?_
  refine WM_box rfl (Wd_none rfl) (by decide) (fun p8 => ?_)
  refine WM_val (fun W hm => rv_assign rfl) (Wd_none rfl) rfl (by decide) ?_
  refine WM_nil ?_
  refine QM_then ?_
  refine CM_seq ?_
  refine CM_seq ?_
  refine CM_region ?_
  refine WM_val (fun W hm => rv_assign rfl) (Wd_none rfl) rfl (by decide) ?_
  refine WM_nil ?_
  refine QM_then ?_
  refine CM_block ?_
  refine CM_loop (σ := Nat × (Unit) × (Unit)) (fun s => [(1, .pointer (some (⟨p8, 0, none⟩ : Addr))), (3, .int .i64 ((s.1 : Nat) : Int))]) (fun s => [iBox p8 54 [.int .i64 x0.Id, .slice A4 x0.Values.length c5]]) (fun s => s.1 ≤ x0.Values.length ∧ rng (R := Bool) (fun k (_ : Unit) => spec_IsRow_b1 x0 k) (x0.Values.length - s.1) s.1 s.2.1 = rng (R := Bool) (fun k (_ : Unit) => spec_IsRow_b1 x0 k) (x0.Values.length - 0) 0 ()) (fun s => x0.Values.length - s.1) (0, (), ()) (subL_cons rfl (subL_cons rfl subL_nil)) (fun W hm => hm) ⟨(by omega), rfl⟩ ?_
  rintro ⟨k9, ⟨⟩, ⟨⟩⟩ H12
  obtain ⟨hk10, hF11⟩ : k9 ≤ x0.Values.length ∧ rng (R := Bool) (fun k (_ : Unit) => spec_IsRow_b1 x0 k) (x0.Values.length - k9) k9 () = rng (R := Bool) (fun k (_ : Unit) => spec_IsRow_b1 x0 k) (x0.Values.length - 0) 0 () := H12
  show CM Try.prog 27 _ _ _ _ [(1, .pointer (some (⟨p8, 0, none⟩ : Addr))), (3, .int .i64 ((k9 : Nat) : Int))] [iBox p8 54 [.int .i64 x0.Id, .slice A4 x0.Values.length c5]]
  refine CM_seq ?_
  refine CM_seq ?_
  refine CM_region ?_
  refine WM_val (fun W hm => rv_move rfl) (Wd_none rfl) rfl (by decide) ?_
  refine WM_val (fun W hm => rv_field Try.underlying54 rfl Try.type32 (by decide) rfl rfl) (Wd_none rfl) rfl (by decide) ?_
  refine WM_val (fun W hm => rv_load Try.underlying32 rfl rfl (hm.boxCell (n := 0) (o := 1) rfl rfl)) (Wd_none rfl) rfl (by decide) ?_
  refine WM_val (fun W hm => rv_len Try.underlying32 rfl) (Wd_none rfl) rfl (by decide) ?_
  refine WM_val (fun W hm => rv_lss rfl rfl) (Wd_none rfl) rfl (by decide) ?_
  refine WM_nil ?_
  refine QM_then ?_
  by_cases hl13 : k9 < x0.Values.length
  · have g14 : (decide (((k9 : Nat) : Int) < ((x0.Values.length : Nat) : Int))) = true := decide_eq_true (by omega)
    refine CM_condT rfl g14 ?_
    refine CM_skip ?_
    refine QM_then ?_
    refine CM_seq ?_
    refine CM_block ?_
    refine CM_seq ?_
    refine CM_region ?_
    refine WM_val (fun W hm => rv_field Try.underlying54 rfl Try.type32 (by decide) rfl rfl) (Wd_none rfl) rfl (by decide) ?_
    refine WM_val (fun W hm => rv_load Try.underlying32 rfl rfl (hm.boxCell (n := 0) (o := 1) rfl rfl)) (Wd_none rfl) rfl (by decide) ?_
    refine WM_val (fun W hm => rv_move rfl) (Wd_none rfl) rfl (by decide) ?_
    obtain ⟨a15, rfl, hb16, he17⟩ := q6 (by omega)
    refine WM_val (fun W hm => rv_index (sz := 1) (k := k9) Try.underlying32 Try.type3 rfl rfl rfl (by omega)) (Wd_none rfl) rfl (by decide) ?_
    refine WM_val (fun W hm => rv_load Try.underlying3 rfl rfl ((hm.cell0 (show (a15.add (k9 * 1)).block < w.heap.size from by rw [add_block]; exact hb16)).trans (rdS_int he17 k9 (by omega)))) (Wd_none rfl) rfl (by decide) ?_
    refine WM_callV (cl_fn cb61 rfl) (fun W hm => spec_l1In_c W (gt x0.Values k9) 0 99) (Wd_none rfl) (by decide) ?_
    refine WM_val (fun W hm => rv_not rfl) (Wd_none rfl) rfl (by decide) ?_
    refine WM_nil ?_
    refine QM_then ?_
    rcases Bool.eq_false_or_eq_true (spec_l1In_m (gt x0.Values k9) 0 99) with g19 | g19
    ·
      refine CM_condF rfl (nt g19) ?_
      refine CM_skip ?_
      refine QM_block_normal ?_
      refine QM_then ?_
      refine CM_region ?_
      refine WM_val (fun W hm => rv_move rfl) (Wd_none rfl) rfl (by decide) ?_
      refine WM_val (fun W hm => rv_addN (p := k9) (q := 1) rfl rfl (by omega)) (Wd_none rfl) rfl (by decide) ?_
      refine WM_val (fun W hm => rv_assign rfl) (Wd_none rfl) rfl (by decide) ?_
      refine WM_nil ?_
      have hn20 := rng_next (R := Bool) (body := (fun k (_ : Unit) => spec_IsRow_b1 x0 k)) (k := k9) (s := ()) (s' := ()) (show k9 < x0.Values.length from by omega) (show spec_IsRow_b1 x0 k9 = Sum.inr () from by unfold spec_IsRow_b1; exact cond_t g19 (rfl)) hF11
      exact QM_round (k9 + 1, (), ()) (subL_cons rfl (subL_cons rfl subL_nil)) (fun W hm => (hm.front (n := 0) rfl)) ⟨(by omega), hn20⟩ (show x0.Values.length - (k9 + 1) < x0.Values.length - k9 from by omega)
    ·
      refine CM_condT rfl (nf g19) ?_
      refine CM_seq ?_
      refine CM_region ?_
      refine WM_val (fun W hm => rv_assign rfl) (Wd_none rfl) rfl (by decide) ?_
      refine WM_nil ?_
      refine QM_then ?_
      refine CM_ret ?_
      refine QM_block_ret ?_
      refine QM_then_ret ?_
      refine QM_then_ret ?_
      refine QM_block_ret ?_
      refine QM_then_ret ?_
      exact QM_ret1 rfl rfl (fun W hm => ⟨ret_b (show spec_IsRow_m x0 = false from by unfold spec_IsRow_m; exact fin_inl (rng_ret (body := (fun k (_ : Unit) => spec_IsRow_b1 x0 k)) (k := k9) (s := ()) (show k9 < x0.Values.length from by omega) (show spec_IsRow_b1 x0 k9 = Sum.inl false from by unfold spec_IsRow_b1; exact cond_f g19 (rfl)) hF11) rfl), hm.below⟩)
  · have g14 : (decide (((k9 : Nat) : Int) < ((x0.Values.length : Nat) : Int))) = false := decide_eq_false (by omega)
    refine CM_condF rfl g14 ?_
    refine CM_exit ?_
    refine QM_then_exit ?_
    refine QM_then_exit ?_
    have hE21 : rng (R := Bool) (fun k (_ : Unit) => spec_IsRow_b1 x0 k) (x0.Values.length - 0) 0 () = Sum.inr () := rng_end hl13 hF11
    refine QM_block_hit ?_
    refine QM_then ?_
    refine CM_seq ?_
    refine CM_region ?_
    refine WM_val (fun W hm => rv_field Try.underlying54 rfl Try.type3 (by decide) rfl rfl) (Wd_none rfl) rfl (by decide) ?_
    refine WM_val (fun W hm => rv_load Try.underlying3 rfl rfl (hm.boxCell (n := 0) (o := 0) rfl rfl)) (Wd_none rfl) rfl (by decide) ?_
    refine WM_callV (cl_fn cb61 rfl) (fun W hm => spec_l1In_c W x0.Id 0 999) (Wd_none rfl) (by decide) ?_
    refine WM_val (fun W hm => rv_move rfl) (Wd_none rfl) rfl (by decide) ?_
    rcases Bool.eq_false_or_eq_true (spec_l1In_m x0.Id 0 999) with g23 | g23
    ·
      refine WM_val (fun W hm => rv_field Try.underlying54 rfl Try.type32 (by decide) rfl rfl) (Wd_some rfl rfl rfl (bw g23 rfl)) rfl (by decide) ?_
      refine WM_val (fun W hm => rv_load Try.underlying32 rfl rfl (hm.boxCell (n := 0) (o := 1) rfl rfl)) (Wd_some rfl rfl rfl (bw g23 rfl)) rfl (by decide) ?_
      refine WM_val (fun W hm => rv_len Try.underlying32 rfl) (Wd_some rfl rfl rfl (bw g23 rfl)) rfl (by decide) ?_
      refine WM_val (fun W hm => rv_eql rfl rfl) (Wd_some rfl rfl rfl (bw g23 rfl)) rfl (by decide) ?_
      refine WM_val (fun W hm => rv_pickT rfl g23 rfl) (Wd_none rfl) rfl (by decide) ?_
      refine WM_val (fun W hm => rv_assign rfl) (Wd_none rfl) rfl (by decide) ?_
      refine WM_nil ?_
      refine QM_then ?_
      refine CM_ret ?_
      exact QM_ret1 rfl rfl (fun W hm => ⟨ret_b (show spec_IsRow_m x0 = (((x0.Values.length : Nat) : Int) == 3) from by unfold spec_IsRow_m; exact fin_inr hE21 (cond_t g23 (rfl))), hm.below⟩)
    ·
      refine WM_skip (Wd_some rfl rfl rfl (bw g23 rfl)) rfl (by decide) ?_
      refine WM_skip (Wd_some rfl rfl rfl (bw g23 rfl)) rfl (by decide) ?_
      refine WM_skip (Wd_some rfl rfl rfl (bw g23 rfl)) rfl (by decide) ?_
      refine WM_skip (Wd_some rfl rfl rfl (bw g23 rfl)) rfl (by decide) ?_
      refine WM_val (fun W hm => rv_pickF rfl g23 rfl) (Wd_none rfl) rfl (by decide) ?_
      refine WM_val (fun W hm => rv_assign rfl) (Wd_none rfl) rfl (by decide) ?_
      refine WM_nil ?_
      refine QM_then ?_
      refine CM_ret ?_
      exact QM_ret1 rfl rfl (fun W hm => ⟨ret_b (show spec_IsRow_m x0 = false from by unfold spec_IsRow_m; exact fin_inr hE21 (cond_f g23 (rfl))), hm.below⟩)

def spec_IsUpdate_m (x0 : DUpdate) : Bool :=
  cond (x0.Kind == 1) (cond (spec_IsRow_m x0.Row) (cond (x0.Field == 0) (x0.Value == 0) false) false) (cond (x0.Kind == 2) (cond (spec_l1In_m x0.Row.Id 0 999) (cond (((x0.Row.Values.length : Nat) : Int) == 0) (cond (x0.Field == 0) (x0.Value == 0) false) false) false) (cond (x0.Kind == 3) (cond (spec_l1In_m x0.Row.Id 0 999) (cond (((x0.Row.Values.length : Nat) : Int) == 0) (cond (spec_l1In_m x0.Field 0 2) (spec_l1In_m x0.Value 0 99) false) false) false) false))
theorem cb35 : Cb Try.prog 35 := ⟨Try.f35, _, Try.func35, rfl, by decide⟩
set_option maxRecDepth 10000 in
set_option maxHeartbeats 4000000 in
theorem spec_IsUpdate_c (w : World) (z0 : List Value) (x0 : DUpdate) (r_0 : tyUpdate.rd w w.heap.size z0 x0) :
    Calls Try.prog 35 #[.agg z0.toArray] w fun e w' => e = .returned (.bool (spec_IsUpdate_m x0)) ∧ Below w.heap.size w w' := by
  obtain ⟨v1, rfl, r2⟩ := tyUpdate_rd r_0
  have r7 := r2
  obtain ⟨m3, A4, c5, rfl, q6⟩ := r2
  refine call_enterM (L := [(0, .agg #[.int .i64 x0.Kind, .int .i64 x0.Row.Id, .slice A4 x0.Row.Values.length c5, .int .i64 x0.Field, .int .i64 x0.Value])]) (N := 66) Try.func35 rfl rfl (Nat.le_of_ble_eq_true rfl) (argsL_cons rfl argsL_nil) ?_
  refine CM_seq ?_
  refine CM_region ?_
  refine WM_box rfl (Wd_none rfl) (by decide) (fun p8 => ?_)
  refine WM_val (fun W hm => rv_assign rfl) (Wd_none rfl) rfl (by decide) ?_
  refine WM_nil ?_
  refine QM_then ?_
  refine CM_seq ?_
  refine CM_seq ?_
  refine CM_region ?_
  refine WM_val (fun W hm => rv_field Try.underlying56 rfl Try.type3 (by decide) rfl rfl) (Wd_none rfl) rfl (by decide) ?_
  refine WM_val (fun W hm => rv_load Try.underlying3 rfl rfl (hm.boxCell (n := 0) (o := 0) rfl rfl)) (Wd_none rfl) rfl (by decide) ?_
  refine WM_nil ?_
  refine QM_then ?_
  refine CM_block ?_
  refine CM_seq ?_
  refine CM_region ?_
  refine WM_val (fun W hm => rv_eql rfl rfl) (Wd_none rfl) rfl (by decide) ?_
  refine WM_val (fun W hm => rv_assign rfl) (Wd_none rfl) rfl (by decide) ?_
  refine WM_nil ?_
  refine QM_then ?_
  by_cases h9 : x0.Kind = 1
  · have g10 : (x0.Kind == 1) = true := beq_iff_eq.2 h9
    refine CM_condT rfl g10 ?_
    refine CM_seq ?_
    refine CM_region ?_
    refine WM_val (fun W hm => rv_field Try.underlying56 rfl Try.type54 (by decide) rfl rfl) (Wd_none rfl) rfl (by decide) ?_
    refine WM_val (fun W hm => rv_loadN (cs := [.int .i64 x0.Row.Id, .slice A4 x0.Row.Values.length c5]) Try.underlying54 Try.type54 rfl rfl (hm.boxPart (n := 0) rfl rfl)) (Wd_none rfl) rfl (by decide) ?_
    refine WM_callV (cl_fn cb72 rfl) (fun W hm => spec_IsRow_c W _ x0.Row (tyRow_mk (hm.rdS0 r7))) (Wd_none rfl) (by decide) ?_
    refine WM_val (fun W hm => rv_move rfl) (Wd_none rfl) rfl (by decide) ?_
    rcases Bool.eq_false_or_eq_true (spec_IsRow_m x0.Row) with g12 | g12
    ·
      refine WM_val (fun W hm => rv_field Try.underlying56 rfl Try.type3 (by decide) rfl rfl) (Wd_some rfl rfl rfl (bw g12 rfl)) rfl (by decide) ?_
      refine WM_val (fun W hm => rv_load Try.underlying3 rfl rfl (hm.boxCell (n := 0) (o := 3) rfl rfl)) (Wd_some rfl rfl rfl (bw g12 rfl)) rfl (by decide) ?_
      refine WM_val (fun W hm => rv_eql rfl rfl) (Wd_some rfl rfl rfl (bw g12 rfl)) rfl (by decide) ?_
      refine WM_val (fun W hm => rv_pickT rfl g12 rfl) (Wd_none rfl) rfl (by decide) ?_
      refine WM_val (fun W hm => rv_move rfl) (Wd_none rfl) rfl (by decide) ?_
      by_cases h13 : x0.Field = 0
      · have g14 : (x0.Field == 0) = true := beq_iff_eq.2 h13
        refine WM_val (fun W hm => rv_field Try.underlying56 rfl Try.type3 (by decide) rfl rfl) (Wd_some rfl rfl rfl (bw g14 rfl)) rfl (by decide) ?_
        refine WM_val (fun W hm => rv_load Try.underlying3 rfl rfl (hm.boxCell (n := 0) (o := 4) rfl rfl)) (Wd_some rfl rfl rfl (bw g14 rfl)) rfl (by decide) ?_
        refine WM_val (fun W hm => rv_eql rfl rfl) (Wd_some rfl rfl rfl (bw g14 rfl)) rfl (by decide) ?_
        refine WM_val (fun W hm => rv_pickT rfl g14 rfl) (Wd_none rfl) rfl (by decide) ?_
        refine WM_val (fun W hm => rv_assign rfl) (Wd_none rfl) rfl (by decide) ?_
        refine WM_nil ?_
        refine QM_then ?_
        refine CM_ret ?_
        refine QM_block_ret ?_
        refine QM_then_ret ?_
        exact QM_ret1 rfl rfl (fun W hm => ⟨ret_b (show spec_IsUpdate_m x0 = (x0.Value == 0) from by unfold spec_IsUpdate_m; exact cond_t g10 (cond_t g12 (cond_t g14 (rfl)))), hm.below⟩)
      · have g14 : (x0.Field == 0) = false := beq_eq_false_iff_ne.2 h13
        refine WM_skip (Wd_some rfl rfl rfl (bw g14 rfl)) rfl (by decide) ?_
        refine WM_skip (Wd_some rfl rfl rfl (bw g14 rfl)) rfl (by decide) ?_
        refine WM_skip (Wd_some rfl rfl rfl (bw g14 rfl)) rfl (by decide) ?_
        refine WM_val (fun W hm => rv_pickF rfl g14 rfl) (Wd_none rfl) rfl (by decide) ?_
        refine WM_val (fun W hm => rv_assign rfl) (Wd_none rfl) rfl (by decide) ?_
        refine WM_nil ?_
        refine QM_then ?_
        refine CM_ret ?_
        refine QM_block_ret ?_
        refine QM_then_ret ?_
        exact QM_ret1 rfl rfl (fun W hm => ⟨ret_b (show spec_IsUpdate_m x0 = false from by unfold spec_IsUpdate_m; exact cond_t g10 (cond_t g12 (cond_f g14 (rfl)))), hm.below⟩)
    ·
      refine WM_skip (Wd_some rfl rfl rfl (bw g12 rfl)) rfl (by decide) ?_
      refine WM_skip (Wd_some rfl rfl rfl (bw g12 rfl)) rfl (by decide) ?_
      refine WM_skip (Wd_some rfl rfl rfl (bw g12 rfl)) rfl (by decide) ?_
      refine WM_val (fun W hm => rv_pickF rfl g12 rfl) (Wd_none rfl) rfl (by decide) ?_
      refine WM_val (fun W hm => rv_move rfl) (Wd_none rfl) rfl (by decide) ?_
      refine WM_skip (Wd_some rfl rfl rfl rfl) rfl (by decide) ?_
      refine WM_skip (Wd_some rfl rfl rfl rfl) rfl (by decide) ?_
      refine WM_skip (Wd_some rfl rfl rfl rfl) rfl (by decide) ?_
      refine WM_val (fun W hm => rv_pickF rfl rfl rfl) (Wd_none rfl) rfl (by decide) ?_
      refine WM_val (fun W hm => rv_assign rfl) (Wd_none rfl) rfl (by decide) ?_
      refine WM_nil ?_
      refine QM_then ?_
      refine CM_ret ?_
      refine QM_block_ret ?_
      refine QM_then_ret ?_
      exact QM_ret1 rfl rfl (fun W hm => ⟨ret_b (show spec_IsUpdate_m x0 = false from by unfold spec_IsUpdate_m; exact cond_t g10 (cond_f g12 (rfl))), hm.below⟩)
  · have g10 : (x0.Kind == 1) = false := beq_eq_false_iff_ne.2 h9
    refine CM_condF rfl g10 ?_
    refine CM_seq ?_
    refine CM_region ?_
    refine WM_val (fun W hm => rv_eql rfl rfl) (Wd_none rfl) rfl (by decide) ?_
    refine WM_val (fun W hm => rv_assign rfl) (Wd_none rfl) rfl (by decide) ?_
    refine WM_nil ?_
    refine QM_then ?_
    by_cases h15 : x0.Kind = 2
    · have g16 : (x0.Kind == 2) = true := beq_iff_eq.2 h15
      refine CM_condT rfl g16 ?_
      refine CM_seq ?_
      refine CM_region ?_
      refine WM_val (fun W hm => rv_field Try.underlying56 rfl Try.type54 (by decide) rfl rfl) (Wd_none rfl) rfl (by decide) ?_
      refine WM_val (fun W hm => rv_fieldA (o := 1) Try.underlying54 rfl Try.type3 (by decide) rfl rfl) (Wd_none rfl) rfl (by decide) ?_
      refine WM_val (fun W hm => rv_load Try.underlying3 rfl rfl (hm.boxCell (n := 0) (o := 1) rfl rfl)) (Wd_none rfl) rfl (by decide) ?_
      refine WM_callV (cl_fn cb61 rfl) (fun W hm => spec_l1In_c W x0.Row.Id 0 999) (Wd_none rfl) (by decide) ?_
      refine WM_val (fun W hm => rv_move rfl) (Wd_none rfl) rfl (by decide) ?_
      rcases Bool.eq_false_or_eq_true (spec_l1In_m x0.Row.Id 0 999) with g18 | g18
      ·
        refine WM_val (fun W hm => rv_field Try.underlying56 rfl Try.type54 (by decide) rfl rfl) (Wd_some rfl rfl rfl (bw g18 rfl)) rfl (by decide) ?_
        refine WM_val (fun W hm => rv_fieldA (o := 2) Try.underlying54 rfl Try.type32 (by decide) rfl rfl) (Wd_some rfl rfl rfl (bw g18 rfl)) rfl (by decide) ?_
        refine WM_val (fun W hm => rv_load Try.underlying32 rfl rfl (hm.boxCell (n := 0) (o := 2) rfl rfl)) (Wd_some rfl rfl rfl (bw g18 rfl)) rfl (by decide) ?_
        refine WM_val (fun W hm => rv_len Try.underlying32 rfl) (Wd_some rfl rfl rfl (bw g18 rfl)) rfl (by decide) ?_
        refine WM_val (fun W hm => rv_eql rfl rfl) (Wd_some rfl rfl rfl (bw g18 rfl)) rfl (by decide) ?_
        refine WM_val (fun W hm => rv_pickT rfl g18 rfl) (Wd_none rfl) rfl (by decide) ?_
        refine WM_val (fun W hm => rv_move rfl) (Wd_none rfl) rfl (by decide) ?_
        by_cases h19 : ((x0.Row.Values.length : Nat) : Int) = 0
        · have g20 : (((x0.Row.Values.length : Nat) : Int) == 0) = true := beq_iff_eq.2 h19
          refine WM_val (fun W hm => rv_field Try.underlying56 rfl Try.type3 (by decide) rfl rfl) (Wd_some rfl rfl rfl (bw g20 rfl)) rfl (by decide) ?_
          refine WM_val (fun W hm => rv_load Try.underlying3 rfl rfl (hm.boxCell (n := 0) (o := 3) rfl rfl)) (Wd_some rfl rfl rfl (bw g20 rfl)) rfl (by decide) ?_
          refine WM_val (fun W hm => rv_eql rfl rfl) (Wd_some rfl rfl rfl (bw g20 rfl)) rfl (by decide) ?_
          refine WM_val (fun W hm => rv_pickT rfl g20 rfl) (Wd_none rfl) rfl (by decide) ?_
          refine WM_val (fun W hm => rv_move rfl) (Wd_none rfl) rfl (by decide) ?_
          by_cases h21 : x0.Field = 0
          · have g22 : (x0.Field == 0) = true := beq_iff_eq.2 h21
            refine WM_val (fun W hm => rv_field Try.underlying56 rfl Try.type3 (by decide) rfl rfl) (Wd_some rfl rfl rfl (bw g22 rfl)) rfl (by decide) ?_
            refine WM_val (fun W hm => rv_load Try.underlying3 rfl rfl (hm.boxCell (n := 0) (o := 4) rfl rfl)) (Wd_some rfl rfl rfl (bw g22 rfl)) rfl (by decide) ?_
            refine WM_val (fun W hm => rv_eql rfl rfl) (Wd_some rfl rfl rfl (bw g22 rfl)) rfl (by decide) ?_
            refine WM_val (fun W hm => rv_pickT rfl g22 rfl) (Wd_none rfl) rfl (by decide) ?_
            refine WM_val (fun W hm => rv_assign rfl) (Wd_none rfl) rfl (by decide) ?_
            refine WM_nil ?_
            refine QM_then ?_
            refine CM_ret ?_
            refine QM_block_ret ?_
            refine QM_then_ret ?_
            exact QM_ret1 rfl rfl (fun W hm => ⟨ret_b (show spec_IsUpdate_m x0 = (x0.Value == 0) from by unfold spec_IsUpdate_m; exact cond_f g10 (cond_t g16 (cond_t g18 (cond_t g20 (cond_t g22 (rfl)))))), hm.below⟩)
          · have g22 : (x0.Field == 0) = false := beq_eq_false_iff_ne.2 h21
            refine WM_skip (Wd_some rfl rfl rfl (bw g22 rfl)) rfl (by decide) ?_
            refine WM_skip (Wd_some rfl rfl rfl (bw g22 rfl)) rfl (by decide) ?_
            refine WM_skip (Wd_some rfl rfl rfl (bw g22 rfl)) rfl (by decide) ?_
            refine WM_val (fun W hm => rv_pickF rfl g22 rfl) (Wd_none rfl) rfl (by decide) ?_
            refine WM_val (fun W hm => rv_assign rfl) (Wd_none rfl) rfl (by decide) ?_
            refine WM_nil ?_
            refine QM_then ?_
            refine CM_ret ?_
            refine QM_block_ret ?_
            refine QM_then_ret ?_
            exact QM_ret1 rfl rfl (fun W hm => ⟨ret_b (show spec_IsUpdate_m x0 = false from by unfold spec_IsUpdate_m; exact cond_f g10 (cond_t g16 (cond_t g18 (cond_t g20 (cond_f g22 (rfl)))))), hm.below⟩)
        · have g20 : (((x0.Row.Values.length : Nat) : Int) == 0) = false := beq_eq_false_iff_ne.2 h19
          refine WM_skip (Wd_some rfl rfl rfl (bw g20 rfl)) rfl (by decide) ?_
          refine WM_skip (Wd_some rfl rfl rfl (bw g20 rfl)) rfl (by decide) ?_
          refine WM_skip (Wd_some rfl rfl rfl (bw g20 rfl)) rfl (by decide) ?_
          refine WM_val (fun W hm => rv_pickF rfl g20 rfl) (Wd_none rfl) rfl (by decide) ?_
          refine WM_val (fun W hm => rv_move rfl) (Wd_none rfl) rfl (by decide) ?_
          refine WM_skip (Wd_some rfl rfl rfl rfl) rfl (by decide) ?_
          refine WM_skip (Wd_some rfl rfl rfl rfl) rfl (by decide) ?_
          refine WM_skip (Wd_some rfl rfl rfl rfl) rfl (by decide) ?_
          refine WM_val (fun W hm => rv_pickF rfl rfl rfl) (Wd_none rfl) rfl (by decide) ?_
          refine WM_val (fun W hm => rv_assign rfl) (Wd_none rfl) rfl (by decide) ?_
          refine WM_nil ?_
          refine QM_then ?_
          refine CM_ret ?_
          refine QM_block_ret ?_
          refine QM_then_ret ?_
          exact QM_ret1 rfl rfl (fun W hm => ⟨ret_b (show spec_IsUpdate_m x0 = false from by unfold spec_IsUpdate_m; exact cond_f g10 (cond_t g16 (cond_t g18 (cond_f g20 (rfl))))), hm.below⟩)
      ·
        refine WM_skip (Wd_some rfl rfl rfl (bw g18 rfl)) rfl (by decide) ?_
        refine WM_skip (Wd_some rfl rfl rfl (bw g18 rfl)) rfl (by decide) ?_
        refine WM_skip (Wd_some rfl rfl rfl (bw g18 rfl)) rfl (by decide) ?_
        refine WM_skip (Wd_some rfl rfl rfl (bw g18 rfl)) rfl (by decide) ?_
        refine WM_skip (Wd_some rfl rfl rfl (bw g18 rfl)) rfl (by decide) ?_
        refine WM_val (fun W hm => rv_pickF rfl g18 rfl) (Wd_none rfl) rfl (by decide) ?_
        refine WM_val (fun W hm => rv_move rfl) (Wd_none rfl) rfl (by decide) ?_
        refine WM_skip (Wd_some rfl rfl rfl rfl) rfl (by decide) ?_
        refine WM_skip (Wd_some rfl rfl rfl rfl) rfl (by decide) ?_
        refine WM_skip (Wd_some rfl rfl rfl rfl) rfl (by decide) ?_
        refine WM_val (fun W hm => rv_pickF rfl rfl rfl) (Wd_none rfl) rfl (by decide) ?_
        refine WM_val (fun W hm => rv_move rfl) (Wd_none rfl) rfl (by decide) ?_
        refine WM_skip (Wd_some rfl rfl rfl rfl) rfl (by decide) ?_
        refine WM_skip (Wd_some rfl rfl rfl rfl) rfl (by decide) ?_
        refine WM_skip (Wd_some rfl rfl rfl rfl) rfl (by decide) ?_
        refine WM_val (fun W hm => rv_pickF rfl rfl rfl) (Wd_none rfl) rfl (by decide) ?_
        refine WM_val (fun W hm => rv_assign rfl) (Wd_none rfl) rfl (by decide) ?_
        refine WM_nil ?_
        refine QM_then ?_
        refine CM_ret ?_
        refine QM_block_ret ?_
        refine QM_then_ret ?_
        exact QM_ret1 rfl rfl (fun W hm => ⟨ret_b (show spec_IsUpdate_m x0 = false from by unfold spec_IsUpdate_m; exact cond_f g10 (cond_t g16 (cond_f g18 (rfl)))), hm.below⟩)
    · have g16 : (x0.Kind == 2) = false := beq_eq_false_iff_ne.2 h15
      refine CM_condF rfl g16 ?_
      refine CM_seq ?_
      refine CM_region ?_
      refine WM_val (fun W hm => rv_eql rfl rfl) (Wd_none rfl) rfl (by decide) ?_
      refine WM_val (fun W hm => rv_assign rfl) (Wd_none rfl) rfl (by decide) ?_
      refine WM_nil ?_
      refine QM_then ?_
      by_cases h23 : x0.Kind = 3
      · have g24 : (x0.Kind == 3) = true := beq_iff_eq.2 h23
        refine CM_condT rfl g24 ?_
        refine CM_seq ?_
        refine CM_region ?_
        refine WM_val (fun W hm => rv_field Try.underlying56 rfl Try.type54 (by decide) rfl rfl) (Wd_none rfl) rfl (by decide) ?_
        refine WM_val (fun W hm => rv_fieldA (o := 1) Try.underlying54 rfl Try.type3 (by decide) rfl rfl) (Wd_none rfl) rfl (by decide) ?_
        refine WM_val (fun W hm => rv_load Try.underlying3 rfl rfl (hm.boxCell (n := 0) (o := 1) rfl rfl)) (Wd_none rfl) rfl (by decide) ?_
        refine WM_callV (cl_fn cb61 rfl) (fun W hm => spec_l1In_c W x0.Row.Id 0 999) (Wd_none rfl) (by decide) ?_
        refine WM_val (fun W hm => rv_move rfl) (Wd_none rfl) rfl (by decide) ?_
        rcases Bool.eq_false_or_eq_true (spec_l1In_m x0.Row.Id 0 999) with g26 | g26
        ·
          refine WM_val (fun W hm => rv_field Try.underlying56 rfl Try.type54 (by decide) rfl rfl) (Wd_some rfl rfl rfl (bw g26 rfl)) rfl (by decide) ?_
          refine WM_val (fun W hm => rv_fieldA (o := 2) Try.underlying54 rfl Try.type32 (by decide) rfl rfl) (Wd_some rfl rfl rfl (bw g26 rfl)) rfl (by decide) ?_
          refine WM_val (fun W hm => rv_load Try.underlying32 rfl rfl (hm.boxCell (n := 0) (o := 2) rfl rfl)) (Wd_some rfl rfl rfl (bw g26 rfl)) rfl (by decide) ?_
          refine WM_val (fun W hm => rv_len Try.underlying32 rfl) (Wd_some rfl rfl rfl (bw g26 rfl)) rfl (by decide) ?_
          refine WM_val (fun W hm => rv_eql rfl rfl) (Wd_some rfl rfl rfl (bw g26 rfl)) rfl (by decide) ?_
          refine WM_val (fun W hm => rv_pickT rfl g26 rfl) (Wd_none rfl) rfl (by decide) ?_
          refine WM_val (fun W hm => rv_move rfl) (Wd_none rfl) rfl (by decide) ?_
          by_cases h27 : ((x0.Row.Values.length : Nat) : Int) = 0
          · have g28 : (((x0.Row.Values.length : Nat) : Int) == 0) = true := beq_iff_eq.2 h27
            refine WM_val (fun W hm => rv_field Try.underlying56 rfl Try.type3 (by decide) rfl rfl) (Wd_some rfl rfl rfl (bw g28 rfl)) rfl (by decide) ?_
            refine WM_val (fun W hm => rv_load Try.underlying3 rfl rfl (hm.boxCell (n := 0) (o := 3) rfl rfl)) (Wd_some rfl rfl rfl (bw g28 rfl)) rfl (by decide) ?_
            refine WM_callV (cl_fn cb61 rfl) (fun W hm => spec_l1In_c W x0.Field 0 2) (Wd_some rfl rfl rfl (bw g28 rfl)) (by decide) ?_
            refine WM_val (fun W hm => rv_pickT rfl g28 rfl) (Wd_none rfl) rfl (by decide) ?_
            refine WM_val (fun W hm => rv_move rfl) (Wd_none rfl) rfl (by decide) ?_
            rcases Bool.eq_false_or_eq_true (spec_l1In_m x0.Field 0 2) with g30 | g30
            ·
              refine WM_val (fun W hm => rv_field Try.underlying56 rfl Try.type3 (by decide) rfl rfl) (Wd_some rfl rfl rfl (bw g30 rfl)) rfl (by decide) ?_
              refine WM_val (fun W hm => rv_load Try.underlying3 rfl rfl (hm.boxCell (n := 0) (o := 4) rfl rfl)) (Wd_some rfl rfl rfl (bw g30 rfl)) rfl (by decide) ?_
              refine WM_callV (cl_fn cb61 rfl) (fun W hm => spec_l1In_c W x0.Value 0 99) (Wd_some rfl rfl rfl (bw g30 rfl)) (by decide) ?_
              refine WM_val (fun W hm => rv_pickT rfl g30 rfl) (Wd_none rfl) rfl (by decide) ?_
              refine WM_val (fun W hm => rv_assign rfl) (Wd_none rfl) rfl (by decide) ?_
              refine WM_nil ?_
              refine QM_then ?_
              refine CM_ret ?_
              refine QM_block_ret ?_
              refine QM_then_ret ?_
              exact QM_ret1 rfl rfl (fun W hm => ⟨ret_b (show spec_IsUpdate_m x0 = (spec_l1In_m x0.Value 0 99) from by unfold spec_IsUpdate_m; exact cond_f g10 (cond_f g16 (cond_t g24 (cond_t g26 (cond_t g28 (cond_t g30 (rfl))))))), hm.below⟩)
            ·
              refine WM_skip (Wd_some rfl rfl rfl (bw g30 rfl)) rfl (by decide) ?_
              refine WM_skip (Wd_some rfl rfl rfl (bw g30 rfl)) rfl (by decide) ?_
              refine WM_skip (Wd_some rfl rfl rfl (bw g30 rfl)) rfl (by decide) ?_
              refine WM_val (fun W hm => rv_pickF rfl g30 rfl) (Wd_none rfl) rfl (by decide) ?_
              refine WM_val (fun W hm => rv_assign rfl) (Wd_none rfl) rfl (by decide) ?_
              refine WM_nil ?_
              refine QM_then ?_
              refine CM_ret ?_
              refine QM_block_ret ?_
              refine QM_then_ret ?_
              exact QM_ret1 rfl rfl (fun W hm => ⟨ret_b (show spec_IsUpdate_m x0 = false from by unfold spec_IsUpdate_m; exact cond_f g10 (cond_f g16 (cond_t g24 (cond_t g26 (cond_t g28 (cond_f g30 (rfl))))))), hm.below⟩)
          · have g28 : (((x0.Row.Values.length : Nat) : Int) == 0) = false := beq_eq_false_iff_ne.2 h27
            refine WM_skip (Wd_some rfl rfl rfl (bw g28 rfl)) rfl (by decide) ?_
            refine WM_skip (Wd_some rfl rfl rfl (bw g28 rfl)) rfl (by decide) ?_
            refine WM_skip (Wd_some rfl rfl rfl (bw g28 rfl)) rfl (by decide) ?_
            refine WM_val (fun W hm => rv_pickF rfl g28 rfl) (Wd_none rfl) rfl (by decide) ?_
            refine WM_val (fun W hm => rv_move rfl) (Wd_none rfl) rfl (by decide) ?_
            refine WM_skip (Wd_some rfl rfl rfl rfl) rfl (by decide) ?_
            refine WM_skip (Wd_some rfl rfl rfl rfl) rfl (by decide) ?_
            refine WM_skip (Wd_some rfl rfl rfl rfl) rfl (by decide) ?_
            refine WM_val (fun W hm => rv_pickF rfl rfl rfl) (Wd_none rfl) rfl (by decide) ?_
            refine WM_val (fun W hm => rv_assign rfl) (Wd_none rfl) rfl (by decide) ?_
            refine WM_nil ?_
            refine QM_then ?_
            refine CM_ret ?_
            refine QM_block_ret ?_
            refine QM_then_ret ?_
            exact QM_ret1 rfl rfl (fun W hm => ⟨ret_b (show spec_IsUpdate_m x0 = false from by unfold spec_IsUpdate_m; exact cond_f g10 (cond_f g16 (cond_t g24 (cond_t g26 (cond_f g28 (rfl)))))), hm.below⟩)
        ·
          refine WM_skip (Wd_some rfl rfl rfl (bw g26 rfl)) rfl (by decide) ?_
          refine WM_skip (Wd_some rfl rfl rfl (bw g26 rfl)) rfl (by decide) ?_
          refine WM_skip (Wd_some rfl rfl rfl (bw g26 rfl)) rfl (by decide) ?_
          refine WM_skip (Wd_some rfl rfl rfl (bw g26 rfl)) rfl (by decide) ?_
          refine WM_skip (Wd_some rfl rfl rfl (bw g26 rfl)) rfl (by decide) ?_
          refine WM_val (fun W hm => rv_pickF rfl g26 rfl) (Wd_none rfl) rfl (by decide) ?_
          refine WM_val (fun W hm => rv_move rfl) (Wd_none rfl) rfl (by decide) ?_
          refine WM_skip (Wd_some rfl rfl rfl rfl) rfl (by decide) ?_
          refine WM_skip (Wd_some rfl rfl rfl rfl) rfl (by decide) ?_
          refine WM_skip (Wd_some rfl rfl rfl rfl) rfl (by decide) ?_
          refine WM_val (fun W hm => rv_pickF rfl rfl rfl) (Wd_none rfl) rfl (by decide) ?_
          refine WM_val (fun W hm => rv_move rfl) (Wd_none rfl) rfl (by decide) ?_
          refine WM_skip (Wd_some rfl rfl rfl rfl) rfl (by decide) ?_
          refine WM_skip (Wd_some rfl rfl rfl rfl) rfl (by decide) ?_
          refine WM_skip (Wd_some rfl rfl rfl rfl) rfl (by decide) ?_
          refine WM_val (fun W hm => rv_pickF rfl rfl rfl) (Wd_none rfl) rfl (by decide) ?_
          refine WM_val (fun W hm => rv_assign rfl) (Wd_none rfl) rfl (by decide) ?_
          refine WM_nil ?_
          refine QM_then ?_
          refine CM_ret ?_
          refine QM_block_ret ?_
          refine QM_then_ret ?_
          exact QM_ret1 rfl rfl (fun W hm => ⟨ret_b (show spec_IsUpdate_m x0 = false from by unfold spec_IsUpdate_m; exact cond_f g10 (cond_f g16 (cond_t g24 (cond_f g26 (rfl))))), hm.below⟩)
      · have g24 : (x0.Kind == 3) = false := beq_eq_false_iff_ne.2 h23
        refine CM_condF rfl g24 ?_
        refine CM_skip ?_
        refine QM_block_normal ?_
        refine QM_then ?_
        refine CM_seq ?_
        refine CM_region ?_
        refine WM_val (fun W hm => rv_assign rfl) (Wd_none rfl) rfl (by decide) ?_
        refine WM_nil ?_
        refine QM_then ?_
        refine CM_ret ?_
        exact QM_ret1 rfl rfl (fun W hm => ⟨ret_b (show spec_IsUpdate_m x0 = false from by unfold spec_IsUpdate_m; exact cond_f g10 (cond_f g16 (cond_f g24 (rfl)))), hm.below⟩)

def impl_within_m (x0 : Int) (x1 : Int) (x2 : Int) : Bool :=
  cond (decide (x1 ≤ x0)) (decide (x0 ≤ x2)) false
theorem cb62 : Cb Try.prog 62 := ⟨Try.f62, _, Try.func62, rfl, by decide⟩
set_option maxRecDepth 10000 in
set_option maxHeartbeats 4000000 in
theorem impl_within_c (w : World) (x0 : Int) (x1 : Int) (x2 : Int) :
    Calls Try.prog 62 #[.int .i64 x0, .int .i64 x1, .int .i64 x2] w fun e w' => e = .returned (.bool (impl_within_m x0 x1 x2)) ∧ Below w.heap.size w w' := by
  refine call_enterM (L := [(0, .int .i64 x0), (1, .int .i64 x1), (2, .int .i64 x2)]) (N := 15) Try.func62 rfl rfl (Nat.le_of_ble_eq_true rfl) (argsL_cons rfl (argsL_cons rfl (argsL_cons rfl argsL_nil))) ?_
  refine CM_seq ?_
  refine CM_region ?_
  refine WM_val (fun W hm => rv_assign rfl) (Wd_none rfl) rfl (by decide) ?_
  refine WM_nil ?_
  refine QM_then ?_
  refine CM_seq ?_
  refine CM_region ?_
  refine WM_val (fun W hm => rv_move rfl) (Wd_none rfl) rfl (by decide) ?_
  refine WM_val (fun W hm => rv_move rfl) (Wd_none rfl) rfl (by decide) ?_
  refine WM_val (fun W hm => rv_geq rfl rfl) (Wd_none rfl) rfl (by decide) ?_
  refine WM_val (fun W hm => rv_move rfl) (Wd_none rfl) rfl (by decide) ?_
  by_cases h1 : x1 ≤ x0
  · have g2 : (decide (x1 ≤ x0)) = true := decide_eq_true h1
    refine WM_val (fun W hm => rv_move rfl) (Wd_some rfl rfl rfl (bw g2 rfl)) rfl (by decide) ?_
    refine WM_val (fun W hm => rv_move rfl) (Wd_some rfl rfl rfl (bw g2 rfl)) rfl (by decide) ?_
    refine WM_val (fun W hm => rv_leq rfl rfl) (Wd_some rfl rfl rfl (bw g2 rfl)) rfl (by decide) ?_
    refine WM_val (fun W hm => rv_pickT rfl g2 rfl) (Wd_none rfl) rfl (by decide) ?_
    refine WM_val (fun W hm => rv_assign rfl) (Wd_none rfl) rfl (by decide) ?_
    refine WM_nil ?_
    refine QM_then ?_
    refine CM_ret ?_
    exact QM_ret1 rfl rfl (fun W hm => ⟨ret_b (show impl_within_m x0 x1 x2 = (decide (x0 ≤ x2)) from by unfold impl_within_m; exact cond_t g2 (rfl)), hm.below⟩)
  · have g2 : (decide (x1 ≤ x0)) = false := decide_eq_false h1
    refine WM_skip (Wd_some rfl rfl rfl (bw g2 rfl)) rfl (by decide) ?_
    refine WM_skip (Wd_some rfl rfl rfl (bw g2 rfl)) rfl (by decide) ?_
    refine WM_skip (Wd_some rfl rfl rfl (bw g2 rfl)) rfl (by decide) ?_
    refine WM_val (fun W hm => rv_pickF rfl g2 rfl) (Wd_none rfl) rfl (by decide) ?_
    refine WM_val (fun W hm => rv_assign rfl) (Wd_none rfl) rfl (by decide) ?_
    refine WM_nil ?_
    refine QM_then ?_
    refine CM_ret ?_
    exact QM_ret1 rfl rfl (fun W hm => ⟨ret_b (show impl_within_m x0 x1 x2 = false from by unfold impl_within_m; exact cond_f g2 (rfl)), hm.below⟩)

def impl_IsRow_b1 (x0 : DRow) (k9 : Nat) : Bool ⊕ (Unit) :=
  cond (impl_within_m (gt x0.Values k9) 0 99) (Sum.inr ()) (Sum.inl false)
def impl_IsRow_m (x0 : DRow) : Bool :=
  Sum.elim id (fun (s : Unit) => cond (impl_within_m x0.Id 0 999) (((x0.Values.length : Nat) : Int) == 3) false) (rng (R := Bool) (fun k (_ : Unit) => impl_IsRow_b1 x0 k) (x0.Values.length - 0) 0 ())
theorem cb74 : Cb Try.prog 74 := ⟨Try.f74, _, Try.func74, rfl, by decide⟩
set_option maxRecDepth 10000 in
set_option maxHeartbeats 4000000 in
theorem impl_IsRow_c (w : World) (z0 : List Value) (x0 : DRow) (r_0 : tyRow.rd w w.heap.size z0 x0) :
    Calls Try.prog 74 #[.agg z0.toArray] w fun e w' => e = .returned (.bool (impl_IsRow_m x0)) ∧ Below w.heap.size w w' := by
  obtain ⟨v1, rfl, r2⟩ := tyRow_rd r_0
  have r7 := r2
  obtain ⟨m3, A4, c5, rfl, q6⟩ := r2
  refine call_enterM (L := [(0, .agg #[.int .i64 x0.Id, .slice A4 x0.Values.length c5])]) (N := 25) Try.func74 rfl rfl (Nat.le_of_ble_eq_true rfl) (argsL_cons rfl argsL_nil) ?_
  refine CM_seq ?_
  refine CM_region ?_
  refine WM_box rfl (Wd_none rfl) (by decide) (fun p8 => ?_)
  refine WM_val (fun W hm => rv_assign rfl) (Wd_none rfl) rfl (by decide) ?_
  refine WM_nil ?_
  refine QM_then ?_
  refine CM_seq ?_
  refine CM_seq ?_
  refine CM_region ?_
  refine WM_val (fun W hm => rv_field Try.underlying54 rfl Try.type32 (by decide) rfl rfl) (Wd_none rfl) rfl (by decide) ?_
  refine WM_val (fun W hm => rv_load Try.underlying32 rfl rfl (hm.boxCell (n := 0) (o := 1) rfl rfl)) (Wd_none rfl) rfl (by decide) ?_
  refine WM_val (fun W hm => rv_len Try.underlying32 rfl) (Wd_none rfl) rfl (by decide) ?_
  refine WM_val (fun W hm => rv_move rfl) (Wd_none rfl) rfl (by decide) ?_
  refine WM_nil ?_
  refine QM_then ?_
  refine CM_block ?_
  refine CM_loop (σ := Nat × (Unit) × (Unit)) (fun s => [(1, .pointer (some (⟨p8, 0, none⟩ : Addr))), (6, .slice A4 x0.Values.length c5), (7, .int .i64 ((x0.Values.length : Nat) : Int)), (8, .int .i64 ((s.1 : Nat) : Int))]) (fun s => [iBox p8 54 [.int .i64 x0.Id, .slice A4 x0.Values.length c5]]) (fun s => s.1 ≤ x0.Values.length ∧ rng (R := Bool) (fun k (_ : Unit) => impl_IsRow_b1 x0 k) (x0.Values.length - s.1) s.1 s.2.1 = rng (R := Bool) (fun k (_ : Unit) => impl_IsRow_b1 x0 k) (x0.Values.length - 0) 0 ()) (fun s => x0.Values.length - s.1) (0, (), ()) (subL_cons rfl (subL_cons rfl (subL_cons rfl (subL_cons rfl subL_nil)))) (fun W hm => hm) ⟨(by omega), rfl⟩ ?_
  rintro ⟨k9, ⟨⟩, ⟨⟩⟩ H12
  obtain ⟨hk10, hF11⟩ : k9 ≤ x0.Values.length ∧ rng (R := Bool) (fun k (_ : Unit) => impl_IsRow_b1 x0 k) (x0.Values.length - k9) k9 () = rng (R := Bool) (fun k (_ : Unit) => impl_IsRow_b1 x0 k) (x0.Values.length - 0) 0 () := H12
  show CM Try.prog 25 _ _ _ _ [(1, .pointer (some (⟨p8, 0, none⟩ : Addr))), (6, .slice A4 x0.Values.length c5), (7, .int .i64 ((x0.Values.length : Nat) : Int)), (8, .int .i64 ((k9 : Nat) : Int))] [iBox p8 54 [.int .i64 x0.Id, .slice A4 x0.Values.length c5]]
  refine CM_seq ?_
  refine CM_region ?_
  refine WM_val (fun W hm => rv_lss rfl rfl) (Wd_none rfl) rfl (by decide) ?_
  refine WM_nil ?_
  refine QM_then ?_
  refine CM_seq ?_
  by_cases hl13 : k9 < x0.Values.length
  · have g14 : (decide (((k9 : Nat) : Int) < ((x0.Values.length : Nat) : Int))) = true := decide_eq_true (by omega)
    refine CM_condT rfl g14 ?_
    refine CM_skip ?_
    refine QM_then ?_
    refine CM_seq ?_
    refine CM_block ?_
    refine CM_seq ?_
    refine CM_region ?_
    obtain ⟨a15, rfl, hb16, he17⟩ := q6 (by omega)
    refine WM_val (fun W hm => rv_index (sz := 1) (k := k9) Try.underlying32 Try.type3 rfl rfl rfl (by omega)) (Wd_none rfl) rfl (by decide) ?_
    refine WM_val (fun W hm => rv_load Try.underlying3 rfl rfl ((hm.cell0 (show (a15.add (k9 * 1)).block < w.heap.size from by rw [add_block]; exact hb16)).trans (rdS_int he17 k9 (by omega)))) (Wd_none rfl) rfl (by decide) ?_
    refine WM_val (fun W hm => rv_assign rfl) (Wd_none rfl) rfl (by decide) ?_
    refine WM_nil ?_
    refine QM_then ?_
    refine CM_seq ?_
    refine CM_region ?_
    refine WM_val (fun W hm => rv_move rfl) (Wd_none rfl) rfl (by decide) ?_
    refine WM_callV (cl_fn cb62 rfl) (fun W hm => impl_within_c W (gt x0.Values k9) 0 99) (Wd_none rfl) (by decide) ?_
    refine WM_val (fun W hm => rv_not rfl) (Wd_none rfl) rfl (by decide) ?_
    refine WM_nil ?_
    refine QM_then ?_
    rcases Bool.eq_false_or_eq_true (impl_within_m (gt x0.Values k9) 0 99) with g19 | g19
    ·
      refine CM_condF rfl (nt g19) ?_
      refine CM_skip ?_
      refine QM_block_normal ?_
      refine QM_then ?_
      refine CM_region ?_
      refine WM_val (fun W hm => rv_addN (p := k9) (q := 1) rfl rfl (by omega)) (Wd_none rfl) rfl (by decide) ?_
      refine WM_val (fun W hm => rv_move rfl) (Wd_none rfl) rfl (by decide) ?_
      refine WM_nil ?_
      have hn20 := rng_next (R := Bool) (body := (fun k (_ : Unit) => impl_IsRow_b1 x0 k)) (k := k9) (s := ()) (s' := ()) (show k9 < x0.Values.length from by omega) (show impl_IsRow_b1 x0 k9 = Sum.inr () from by unfold impl_IsRow_b1; exact cond_t g19 (rfl)) hF11
      exact QM_round (k9 + 1, (), ()) (subL_cons rfl (subL_cons rfl (subL_cons rfl (subL_cons rfl subL_nil)))) (fun W hm => (hm.front (n := 0) rfl)) ⟨(by omega), hn20⟩ (show x0.Values.length - (k9 + 1) < x0.Values.length - k9 from by omega)
    ·
      refine CM_condT rfl (nf g19) ?_
      refine CM_seq ?_
      refine CM_region ?_
      refine WM_val (fun W hm => rv_assign rfl) (Wd_none rfl) rfl (by decide) ?_
      refine WM_nil ?_
      refine QM_then ?_
      refine CM_ret ?_
      refine QM_block_ret ?_
      refine QM_then_ret ?_
      refine QM_then_ret ?_
      refine QM_block_ret ?_
      refine QM_then_ret ?_
      exact QM_ret1 rfl rfl (fun W hm => ⟨ret_b (show impl_IsRow_m x0 = false from by unfold impl_IsRow_m; exact fin_inl (rng_ret (body := (fun k (_ : Unit) => impl_IsRow_b1 x0 k)) (k := k9) (s := ()) (show k9 < x0.Values.length from by omega) (show impl_IsRow_b1 x0 k9 = Sum.inl false from by unfold impl_IsRow_b1; exact cond_f g19 (rfl)) hF11) rfl), hm.below⟩)
  · have g14 : (decide (((k9 : Nat) : Int) < ((x0.Values.length : Nat) : Int))) = false := decide_eq_false (by omega)
    refine CM_condF rfl g14 ?_
    refine CM_exit ?_
    refine QM_then_exit ?_
    refine QM_then_exit ?_
    have hE21 : rng (R := Bool) (fun k (_ : Unit) => impl_IsRow_b1 x0 k) (x0.Values.length - 0) 0 () = Sum.inr () := rng_end hl13 hF11
    refine QM_block_hit ?_
    refine QM_then ?_
    refine CM_seq ?_
    refine CM_region ?_
    refine WM_val (fun W hm => rv_field Try.underlying54 rfl Try.type3 (by decide) rfl rfl) (Wd_none rfl) rfl (by decide) ?_
    refine WM_val (fun W hm => rv_load Try.underlying3 rfl rfl (hm.boxCell (n := 0) (o := 0) rfl rfl)) (Wd_none rfl) rfl (by decide) ?_
    refine WM_callV (cl_fn cb62 rfl) (fun W hm => impl_within_c W x0.Id 0 999) (Wd_none rfl) (by decide) ?_
    refine WM_val (fun W hm => rv_move rfl) (Wd_none rfl) rfl (by decide) ?_
    rcases Bool.eq_false_or_eq_true (impl_within_m x0.Id 0 999) with g23 | g23
    ·
      refine WM_val (fun W hm => rv_field Try.underlying54 rfl Try.type32 (by decide) rfl rfl) (Wd_some rfl rfl rfl (bw g23 rfl)) rfl (by decide) ?_
      refine WM_val (fun W hm => rv_load Try.underlying32 rfl rfl (hm.boxCell (n := 0) (o := 1) rfl rfl)) (Wd_some rfl rfl rfl (bw g23 rfl)) rfl (by decide) ?_
      refine WM_val (fun W hm => rv_len Try.underlying32 rfl) (Wd_some rfl rfl rfl (bw g23 rfl)) rfl (by decide) ?_
      refine WM_val (fun W hm => rv_eql rfl rfl) (Wd_some rfl rfl rfl (bw g23 rfl)) rfl (by decide) ?_
      refine WM_val (fun W hm => rv_pickT rfl g23 rfl) (Wd_none rfl) rfl (by decide) ?_
      refine WM_val (fun W hm => rv_assign rfl) (Wd_none rfl) rfl (by decide) ?_
      refine WM_nil ?_
      refine QM_then ?_
      refine CM_ret ?_
      exact QM_ret1 rfl rfl (fun W hm => ⟨ret_b (show impl_IsRow_m x0 = (((x0.Values.length : Nat) : Int) == 3) from by unfold impl_IsRow_m; exact fin_inr hE21 (cond_t g23 (rfl))), hm.below⟩)
    ·
      refine WM_skip (Wd_some rfl rfl rfl (bw g23 rfl)) rfl (by decide) ?_
      refine WM_skip (Wd_some rfl rfl rfl (bw g23 rfl)) rfl (by decide) ?_
      refine WM_skip (Wd_some rfl rfl rfl (bw g23 rfl)) rfl (by decide) ?_
      refine WM_skip (Wd_some rfl rfl rfl (bw g23 rfl)) rfl (by decide) ?_
      refine WM_val (fun W hm => rv_pickF rfl g23 rfl) (Wd_none rfl) rfl (by decide) ?_
      refine WM_val (fun W hm => rv_assign rfl) (Wd_none rfl) rfl (by decide) ?_
      refine WM_nil ?_
      refine QM_then ?_
      refine CM_ret ?_
      exact QM_ret1 rfl rfl (fun W hm => ⟨ret_b (show impl_IsRow_m x0 = false from by unfold impl_IsRow_m; exact fin_inr hE21 (cond_f g23 (rfl))), hm.below⟩)

def impl_isField_m (x0 : Int) : Bool :=
  (impl_within_m x0 0 2)
theorem cb75 : Cb Try.prog 75 := ⟨Try.f75, _, Try.func75, rfl, by decide⟩
set_option maxRecDepth 10000 in
set_option maxHeartbeats 4000000 in
theorem impl_isField_c (w : World) (x0 : Int) :
    Calls Try.prog 75 #[.int .i64 x0] w fun e w' => e = .returned (.bool (impl_isField_m x0)) ∧ Below w.heap.size w w' := by
  refine call_enterM (L := [(0, .int .i64 x0)]) (N := 5) Try.func75 rfl rfl (Nat.le_of_ble_eq_true rfl) (argsL_cons rfl argsL_nil) ?_
  refine CM_seq ?_
  refine CM_region ?_
  refine WM_val (fun W hm => rv_assign rfl) (Wd_none rfl) rfl (by decide) ?_
  refine WM_nil ?_
  refine QM_then ?_
  refine CM_seq ?_
  refine CM_region ?_
  refine WM_val (fun W hm => rv_move rfl) (Wd_none rfl) rfl (by decide) ?_
  refine WM_callV (cl_fn cb62 rfl) (fun W hm => impl_within_c W x0 0 2) (Wd_none rfl) (by decide) ?_
  refine WM_val (fun W hm => rv_assign rfl) (Wd_none rfl) rfl (by decide) ?_
  refine WM_nil ?_
  refine QM_then ?_
  refine CM_ret ?_
  exact QM_ret1 rfl rfl (fun W hm => ⟨ret_b (show impl_isField_m x0 = (impl_within_m x0 0 2) from by unfold impl_isField_m; exact rfl), hm.below⟩)

def impl_IsUpdate_m (x0 : DUpdate) : Bool :=
  cond (impl_within_m x0.Row.Id 0 999) (cond (x0.Kind == 1) (cond (impl_IsRow_m x0.Row) (cond (x0.Field == 0) (x0.Value == 0) false) false) (cond (x0.Kind == 2) (cond (((x0.Row.Values.length : Nat) : Int) == 0) (cond (x0.Field == 0) (x0.Value == 0) false) false) (cond (x0.Kind == 3) (cond (((x0.Row.Values.length : Nat) : Int) == 0) (cond (impl_isField_m x0.Field) (impl_within_m x0.Value 0 99) false) false) false))) (cond (x0.Kind == 1) (cond (impl_IsRow_m x0.Row) (cond (x0.Field == 0) (x0.Value == 0) false) false) (cond (x0.Kind == 2) false (cond (x0.Kind == 3) false false)))
theorem cb37 : Cb Try.prog 37 := ⟨Try.f37, _, Try.func37, rfl, by decide⟩
set_option maxRecDepth 10000 in
set_option maxHeartbeats 4000000 in
theorem impl_IsUpdate_c (w : World) (z0 : List Value) (x0 : DUpdate) (r_0 : tyUpdate.rd w w.heap.size z0 x0) :
    Calls Try.prog 37 #[.agg z0.toArray] w fun e w' => e = .returned (.bool (impl_IsUpdate_m x0)) ∧ Below w.heap.size w w' := by
  obtain ⟨v1, rfl, r2⟩ := tyUpdate_rd r_0
  have r7 := r2
  obtain ⟨m3, A4, c5, rfl, q6⟩ := r2
  refine call_enterM (L := [(0, .agg #[.int .i64 x0.Kind, .int .i64 x0.Row.Id, .slice A4 x0.Row.Values.length c5, .int .i64 x0.Field, .int .i64 x0.Value])]) (N := 58) Try.func37 rfl rfl (Nat.le_of_ble_eq_true rfl) (argsL_cons rfl argsL_nil) ?_
  refine CM_seq ?_
  refine CM_region ?_
  refine WM_box rfl (Wd_none rfl) (by decide) (fun p8 => ?_)
  refine WM_val (fun W hm => rv_assign rfl) (Wd_none rfl) rfl (by decide) ?_
  refine WM_nil ?_
  refine QM_then ?_
  refine CM_seq ?_
  refine CM_region ?_
  refine WM_val (fun W hm => rv_field Try.underlying56 rfl Try.type54 (by decide) rfl rfl) (Wd_none rfl) rfl (by decide) ?_
  refine WM_val (fun W hm => rv_fieldA (o := 1) Try.underlying54 rfl Try.type3 (by decide) rfl rfl) (Wd_none rfl) rfl (by decide) ?_
  refine WM_val (fun W hm => rv_load Try.underlying3 rfl rfl (hm.boxCell (n := 0) (o := 1) rfl rfl)) (Wd_none rfl) rfl (by decide) ?_
  refine WM_callV (cl_fn cb62 rfl) (fun W hm => impl_within_c W x0.Row.Id 0 999) (Wd_none rfl) (by decide) ?_
  refine WM_val (fun W hm => rv_move rfl) (Wd_none rfl) rfl (by decide) ?_
  rcases Bool.eq_false_or_eq_true (impl_within_m x0.Row.Id 0 999) with g10 | g10
  ·
    refine WM_val (fun W hm => rv_field Try.underlying56 rfl Try.type54 (by decide) rfl rfl) (Wd_some rfl rfl rfl (bw g10 rfl)) rfl (by decide) ?_
    refine WM_val (fun W hm => rv_fieldA (o := 2) Try.underlying54 rfl Try.type32 (by decide) rfl rfl) (Wd_some rfl rfl rfl (bw g10 rfl)) rfl (by decide) ?_
    refine WM_val (fun W hm => rv_load Try.underlying32 rfl rfl (hm.boxCell (n := 0) (o := 2) rfl rfl)) (Wd_some rfl rfl rfl (bw g10 rfl)) rfl (by decide) ?_
    refine WM_val (fun W hm => rv_len Try.underlying32 rfl) (Wd_some rfl rfl rfl (bw g10 rfl)) rfl (by decide) ?_
    refine WM_val (fun W hm => rv_eql rfl rfl) (Wd_some rfl rfl rfl (bw g10 rfl)) rfl (by decide) ?_
    refine WM_val (fun W hm => rv_pickT rfl g10 rfl) (Wd_none rfl) rfl (by decide) ?_
    refine WM_val (fun W hm => rv_assign rfl) (Wd_none rfl) rfl (by decide) ?_
    refine WM_nil ?_
    refine QM_then ?_
    refine CM_seq ?_
    refine CM_seq ?_
    refine CM_region ?_
    refine WM_val (fun W hm => rv_field Try.underlying56 rfl Try.type3 (by decide) rfl rfl) (Wd_none rfl) rfl (by decide) ?_
    refine WM_val (fun W hm => rv_load Try.underlying3 rfl rfl (hm.boxCell (n := 0) (o := 0) rfl rfl)) (Wd_none rfl) rfl (by decide) ?_
    refine WM_nil ?_
    refine QM_then ?_
    refine CM_block ?_
    refine CM_seq ?_
    refine CM_region ?_
    refine WM_val (fun W hm => rv_eql rfl rfl) (Wd_none rfl) rfl (by decide) ?_
    refine WM_val (fun W hm => rv_assign rfl) (Wd_none rfl) rfl (by decide) ?_
    refine WM_nil ?_
    refine QM_then ?_
    by_cases h11 : x0.Kind = 1
    · have g12 : (x0.Kind == 1) = true := beq_iff_eq.2 h11
      refine CM_condT rfl g12 ?_
      refine CM_seq ?_
      refine CM_region ?_
      refine WM_val (fun W hm => rv_field Try.underlying56 rfl Try.type54 (by decide) rfl rfl) (Wd_none rfl) rfl (by decide) ?_
      refine WM_val (fun W hm => rv_loadN (cs := [.int .i64 x0.Row.Id, .slice A4 x0.Row.Values.length c5]) Try.underlying54 Try.type54 rfl rfl (hm.boxPart (n := 0) rfl rfl)) (Wd_none rfl) rfl (by decide) ?_
      refine WM_callV (cl_fn cb74 rfl) (fun W hm => impl_IsRow_c W _ x0.Row (tyRow_mk (hm.rdS0 r7))) (Wd_none rfl) (by decide) ?_
      refine WM_val (fun W hm => rv_move rfl) (Wd_none rfl) rfl (by decide) ?_
      rcases Bool.eq_false_or_eq_true (impl_IsRow_m x0.Row) with g14 | g14
      ·
        refine WM_val (fun W hm => rv_field Try.underlying56 rfl Try.type3 (by decide) rfl rfl) (Wd_some rfl rfl rfl (bw g14 rfl)) rfl (by decide) ?_
        refine WM_val (fun W hm => rv_load Try.underlying3 rfl rfl (hm.boxCell (n := 0) (o := 3) rfl rfl)) (Wd_some rfl rfl rfl (bw g14 rfl)) rfl (by decide) ?_
        refine WM_val (fun W hm => rv_eql rfl rfl) (Wd_some rfl rfl rfl (bw g14 rfl)) rfl (by decide) ?_
        refine WM_val (fun W hm => rv_pickT rfl g14 rfl) (Wd_none rfl) rfl (by decide) ?_
        refine WM_val (fun W hm => rv_move rfl) (Wd_none rfl) rfl (by decide) ?_
        by_cases h15 : x0.Field = 0
        · have g16 : (x0.Field == 0) = true := beq_iff_eq.2 h15
          refine WM_val (fun W hm => rv_field Try.underlying56 rfl Try.type3 (by decide) rfl rfl) (Wd_some rfl rfl rfl (bw g16 rfl)) rfl (by decide) ?_
          refine WM_val (fun W hm => rv_load Try.underlying3 rfl rfl (hm.boxCell (n := 0) (o := 4) rfl rfl)) (Wd_some rfl rfl rfl (bw g16 rfl)) rfl (by decide) ?_
          refine WM_val (fun W hm => rv_eql rfl rfl) (Wd_some rfl rfl rfl (bw g16 rfl)) rfl (by decide) ?_
          refine WM_val (fun W hm => rv_pickT rfl g16 rfl) (Wd_none rfl) rfl (by decide) ?_
          refine WM_val (fun W hm => rv_assign rfl) (Wd_none rfl) rfl (by decide) ?_
          refine WM_nil ?_
          refine QM_then ?_
          refine CM_ret ?_
          refine QM_block_ret ?_
          refine QM_then_ret ?_
          exact QM_ret1 rfl rfl (fun W hm => ⟨ret_b (show impl_IsUpdate_m x0 = (x0.Value == 0) from by unfold impl_IsUpdate_m; exact cond_t g10 (cond_t g12 (cond_t g14 (cond_t g16 (rfl))))), hm.below⟩)
        · have g16 : (x0.Field == 0) = false := beq_eq_false_iff_ne.2 h15
          refine WM_skip (Wd_some rfl rfl rfl (bw g16 rfl)) rfl (by decide) ?_
          refine WM_skip (Wd_some rfl rfl rfl (bw g16 rfl)) rfl (by decide) ?_
          refine WM_skip (Wd_some rfl rfl rfl (bw g16 rfl)) rfl (by decide) ?_
          refine WM_val (fun W hm => rv_pickF rfl g16 rfl) (Wd_none rfl) rfl (by decide) ?_
          refine WM_val (fun W hm => rv_assign rfl) (Wd_none rfl) rfl (by decide) ?_
          refine WM_nil ?_
          refine QM_then ?_
          refine CM_ret ?_
          refine QM_block_ret ?_
          refine QM_then_ret ?_
          exact QM_ret1 rfl rfl (fun W hm => ⟨ret_b (show impl_IsUpdate_m x0 = false from by unfold impl_IsUpdate_m; exact cond_t g10 (cond_t g12 (cond_t g14 (cond_f g16 (rfl))))), hm.below⟩)
      ·
        refine WM_skip (Wd_some rfl rfl rfl (bw g14 rfl)) rfl (by decide) ?_
        refine WM_skip (Wd_some rfl rfl rfl (bw g14 rfl)) rfl (by decide) ?_
        refine WM_skip (Wd_some rfl rfl rfl (bw g14 rfl)) rfl (by decide) ?_
        refine WM_val (fun W hm => rv_pickF rfl g14 rfl) (Wd_none rfl) rfl (by decide) ?_
        refine WM_val (fun W hm => rv_move rfl) (Wd_none rfl) rfl (by decide) ?_
        refine WM_skip (Wd_some rfl rfl rfl rfl) rfl (by decide) ?_
        refine WM_skip (Wd_some rfl rfl rfl rfl) rfl (by decide) ?_
        refine WM_skip (Wd_some rfl rfl rfl rfl) rfl (by decide) ?_
        refine WM_val (fun W hm => rv_pickF rfl rfl rfl) (Wd_none rfl) rfl (by decide) ?_
        refine WM_val (fun W hm => rv_assign rfl) (Wd_none rfl) rfl (by decide) ?_
        refine WM_nil ?_
        refine QM_then ?_
        refine CM_ret ?_
        refine QM_block_ret ?_
        refine QM_then_ret ?_
        exact QM_ret1 rfl rfl (fun W hm => ⟨ret_b (show impl_IsUpdate_m x0 = false from by unfold impl_IsUpdate_m; exact cond_t g10 (cond_t g12 (cond_f g14 (rfl)))), hm.below⟩)
    · have g12 : (x0.Kind == 1) = false := beq_eq_false_iff_ne.2 h11
      refine CM_condF rfl g12 ?_
      refine CM_seq ?_
      refine CM_region ?_
      refine WM_val (fun W hm => rv_eql rfl rfl) (Wd_none rfl) rfl (by decide) ?_
      refine WM_val (fun W hm => rv_assign rfl) (Wd_none rfl) rfl (by decide) ?_
      refine WM_nil ?_
      refine QM_then ?_
      by_cases h17 : x0.Kind = 2
      · have g18 : (x0.Kind == 2) = true := beq_iff_eq.2 h17
        refine CM_condT rfl g18 ?_
        refine CM_seq ?_
        refine CM_region ?_
        refine WM_val (fun W hm => rv_move rfl) (Wd_none rfl) rfl (by decide) ?_
        refine WM_val (fun W hm => rv_move rfl) (Wd_none rfl) rfl (by decide) ?_
        by_cases h19 : ((x0.Row.Values.length : Nat) : Int) = 0
        · have g20 : (((x0.Row.Values.length : Nat) : Int) == 0) = true := beq_iff_eq.2 h19
          refine WM_val (fun W hm => rv_field Try.underlying56 rfl Try.type3 (by decide) rfl rfl) (Wd_some rfl rfl rfl (bw g20 rfl)) rfl (by decide) ?_
          refine WM_val (fun W hm => rv_load Try.underlying3 rfl rfl (hm.boxCell (n := 0) (o := 3) rfl rfl)) (Wd_some rfl rfl rfl (bw g20 rfl)) rfl (by decide) ?_
          refine WM_val (fun W hm => rv_eql rfl rfl) (Wd_some rfl rfl rfl (bw g20 rfl)) rfl (by decide) ?_
          refine WM_val (fun W hm => rv_pickT rfl g20 rfl) (Wd_none rfl) rfl (by decide) ?_
          refine WM_val (fun W hm => rv_move rfl) (Wd_none rfl) rfl (by decide) ?_
          by_cases h21 : x0.Field = 0
          · have g22 : (x0.Field == 0) = true := beq_iff_eq.2 h21
            refine WM_val (fun W hm => rv_field Try.underlying56 rfl Try.type3 (by decide) rfl rfl) (Wd_some rfl rfl rfl (bw g22 rfl)) rfl (by decide) ?_
            refine WM_val (fun W hm => rv_load Try.underlying3 rfl rfl (hm.boxCell (n := 0) (o := 4) rfl rfl)) (Wd_some rfl rfl rfl (bw g22 rfl)) rfl (by decide) ?_
            refine WM_val (fun W hm => rv_eql rfl rfl) (Wd_some rfl rfl rfl (bw g22 rfl)) rfl (by decide) ?_
            refine WM_val (fun W hm => rv_pickT rfl g22 rfl) (Wd_none rfl) rfl (by decide) ?_
            refine WM_val (fun W hm => rv_assign rfl) (Wd_none rfl) rfl (by decide) ?_
            refine WM_nil ?_
            refine QM_then ?_
            refine CM_ret ?_
            refine QM_block_ret ?_
            refine QM_then_ret ?_
            exact QM_ret1 rfl rfl (fun W hm => ⟨ret_b (show impl_IsUpdate_m x0 = (x0.Value == 0) from by unfold impl_IsUpdate_m; exact cond_t g10 (cond_f g12 (cond_t g18 (cond_t g20 (cond_t g22 (rfl)))))), hm.below⟩)
          · have g22 : (x0.Field == 0) = false := beq_eq_false_iff_ne.2 h21
            refine WM_skip (Wd_some rfl rfl rfl (bw g22 rfl)) rfl (by decide) ?_
            refine WM_skip (Wd_some rfl rfl rfl (bw g22 rfl)) rfl (by decide) ?_
            refine WM_skip (Wd_some rfl rfl rfl (bw g22 rfl)) rfl (by decide) ?_
            refine WM_val (fun W hm => rv_pickF rfl g22 rfl) (Wd_none rfl) rfl (by decide) ?_
            refine WM_val (fun W hm => rv_assign rfl) (Wd_none rfl) rfl (by decide) ?_
            refine WM_nil ?_
            refine QM_then ?_
            refine CM_ret ?_
            refine QM_block_ret ?_
            refine QM_then_ret ?_
            exact QM_ret1 rfl rfl (fun W hm => ⟨ret_b (show impl_IsUpdate_m x0 = false from by unfold impl_IsUpdate_m; exact cond_t g10 (cond_f g12 (cond_t g18 (cond_t g20 (cond_f g22 (rfl)))))), hm.below⟩)
        · have g20 : (((x0.Row.Values.length : Nat) : Int) == 0) = false := beq_eq_false_iff_ne.2 h19
          refine WM_skip (Wd_some rfl rfl rfl (bw g20 rfl)) rfl (by decide) ?_
          refine WM_skip (Wd_some rfl rfl rfl (bw g20 rfl)) rfl (by decide) ?_
          refine WM_skip (Wd_some rfl rfl rfl (bw g20 rfl)) rfl (by decide) ?_
          refine WM_val (fun W hm => rv_pickF rfl g20 rfl) (Wd_none rfl) rfl (by decide) ?_
          refine WM_val (fun W hm => rv_move rfl) (Wd_none rfl) rfl (by decide) ?_
          refine WM_skip (Wd_some rfl rfl rfl rfl) rfl (by decide) ?_
          refine WM_skip (Wd_some rfl rfl rfl rfl) rfl (by decide) ?_
          refine WM_skip (Wd_some rfl rfl rfl rfl) rfl (by decide) ?_
          refine WM_val (fun W hm => rv_pickF rfl rfl rfl) (Wd_none rfl) rfl (by decide) ?_
          refine WM_val (fun W hm => rv_assign rfl) (Wd_none rfl) rfl (by decide) ?_
          refine WM_nil ?_
          refine QM_then ?_
          refine CM_ret ?_
          refine QM_block_ret ?_
          refine QM_then_ret ?_
          exact QM_ret1 rfl rfl (fun W hm => ⟨ret_b (show impl_IsUpdate_m x0 = false from by unfold impl_IsUpdate_m; exact cond_t g10 (cond_f g12 (cond_t g18 (cond_f g20 (rfl))))), hm.below⟩)
      · have g18 : (x0.Kind == 2) = false := beq_eq_false_iff_ne.2 h17
        refine CM_condF rfl g18 ?_
        refine CM_seq ?_
        refine CM_region ?_
        refine WM_val (fun W hm => rv_eql rfl rfl) (Wd_none rfl) rfl (by decide) ?_
        refine WM_val (fun W hm => rv_assign rfl) (Wd_none rfl) rfl (by decide) ?_
        refine WM_nil ?_
        refine QM_then ?_
        by_cases h23 : x0.Kind = 3
        · have g24 : (x0.Kind == 3) = true := beq_iff_eq.2 h23
          refine CM_condT rfl g24 ?_
          refine CM_seq ?_
          refine CM_region ?_
          refine WM_val (fun W hm => rv_move rfl) (Wd_none rfl) rfl (by decide) ?_
          refine WM_val (fun W hm => rv_move rfl) (Wd_none rfl) rfl (by decide) ?_
          by_cases h25 : ((x0.Row.Values.length : Nat) : Int) = 0
          · have g26 : (((x0.Row.Values.length : Nat) : Int) == 0) = true := beq_iff_eq.2 h25
            refine WM_val (fun W hm => rv_field Try.underlying56 rfl Try.type3 (by decide) rfl rfl) (Wd_some rfl rfl rfl (bw g26 rfl)) rfl (by decide) ?_
            refine WM_val (fun W hm => rv_load Try.underlying3 rfl rfl (hm.boxCell (n := 0) (o := 3) rfl rfl)) (Wd_some rfl rfl rfl (bw g26 rfl)) rfl (by decide) ?_
            refine WM_callV (cl_fn cb75 rfl) (fun W hm => impl_isField_c W x0.Field) (Wd_some rfl rfl rfl (bw g26 rfl)) (by decide) ?_
            refine WM_val (fun W hm => rv_pickT rfl g26 rfl) (Wd_none rfl) rfl (by decide) ?_
            refine WM_val (fun W hm => rv_move rfl) (Wd_none rfl) rfl (by decide) ?_
            rcases Bool.eq_false_or_eq_true (impl_isField_m x0.Field) with g28 | g28
            ·
              refine WM_val (fun W hm => rv_field Try.underlying56 rfl Try.type3 (by decide) rfl rfl) (Wd_some rfl rfl rfl (bw g28 rfl)) rfl (by decide) ?_
              refine WM_val (fun W hm => rv_load Try.underlying3 rfl rfl (hm.boxCell (n := 0) (o := 4) rfl rfl)) (Wd_some rfl rfl rfl (bw g28 rfl)) rfl (by decide) ?_
              refine WM_callV (cl_fn cb62 rfl) (fun W hm => impl_within_c W x0.Value 0 99) (Wd_some rfl rfl rfl (bw g28 rfl)) (by decide) ?_
              refine WM_val (fun W hm => rv_pickT rfl g28 rfl) (Wd_none rfl) rfl (by decide) ?_
              refine WM_val (fun W hm => rv_assign rfl) (Wd_none rfl) rfl (by decide) ?_
              refine WM_nil ?_
              refine QM_then ?_
              refine CM_ret ?_
              refine QM_block_ret ?_
              refine QM_then_ret ?_
              exact QM_ret1 rfl rfl (fun W hm => ⟨ret_b (show impl_IsUpdate_m x0 = (impl_within_m x0.Value 0 99) from by unfold impl_IsUpdate_m; exact cond_t g10 (cond_f g12 (cond_f g18 (cond_t g24 (cond_t g26 (cond_t g28 (rfl))))))), hm.below⟩)
            ·
              refine WM_skip (Wd_some rfl rfl rfl (bw g28 rfl)) rfl (by decide) ?_
              refine WM_skip (Wd_some rfl rfl rfl (bw g28 rfl)) rfl (by decide) ?_
              refine WM_skip (Wd_some rfl rfl rfl (bw g28 rfl)) rfl (by decide) ?_
              refine WM_val (fun W hm => rv_pickF rfl g28 rfl) (Wd_none rfl) rfl (by decide) ?_
              refine WM_val (fun W hm => rv_assign rfl) (Wd_none rfl) rfl (by decide) ?_
              refine WM_nil ?_
              refine QM_then ?_
              refine CM_ret ?_
              refine QM_block_ret ?_
              refine QM_then_ret ?_
              exact QM_ret1 rfl rfl (fun W hm => ⟨ret_b (show impl_IsUpdate_m x0 = false from by unfold impl_IsUpdate_m; exact cond_t g10 (cond_f g12 (cond_f g18 (cond_t g24 (cond_t g26 (cond_f g28 (rfl))))))), hm.below⟩)
          · have g26 : (((x0.Row.Values.length : Nat) : Int) == 0) = false := beq_eq_false_iff_ne.2 h25
            refine WM_skip (Wd_some rfl rfl rfl (bw g26 rfl)) rfl (by decide) ?_
            refine WM_skip (Wd_some rfl rfl rfl (bw g26 rfl)) rfl (by decide) ?_
            refine WM_skip (Wd_some rfl rfl rfl (bw g26 rfl)) rfl (by decide) ?_
            refine WM_val (fun W hm => rv_pickF rfl g26 rfl) (Wd_none rfl) rfl (by decide) ?_
            refine WM_val (fun W hm => rv_move rfl) (Wd_none rfl) rfl (by decide) ?_
            refine WM_skip (Wd_some rfl rfl rfl rfl) rfl (by decide) ?_
            refine WM_skip (Wd_some rfl rfl rfl rfl) rfl (by decide) ?_
            refine WM_skip (Wd_some rfl rfl rfl rfl) rfl (by decide) ?_
            refine WM_val (fun W hm => rv_pickF rfl rfl rfl) (Wd_none rfl) rfl (by decide) ?_
            refine WM_val (fun W hm => rv_assign rfl) (Wd_none rfl) rfl (by decide) ?_
            refine WM_nil ?_
            refine QM_then ?_
            refine CM_ret ?_
            refine QM_block_ret ?_
            refine QM_then_ret ?_
            exact QM_ret1 rfl rfl (fun W hm => ⟨ret_b (show impl_IsUpdate_m x0 = false from by unfold impl_IsUpdate_m; exact cond_t g10 (cond_f g12 (cond_f g18 (cond_t g24 (cond_f g26 (rfl)))))), hm.below⟩)
        · have g24 : (x0.Kind == 3) = false := beq_eq_false_iff_ne.2 h23
          refine CM_condF rfl g24 ?_
          refine CM_skip ?_
          refine QM_block_normal ?_
          refine QM_then ?_
          refine CM_seq ?_
          refine CM_region ?_
          refine WM_val (fun W hm => rv_assign rfl) (Wd_none rfl) rfl (by decide) ?_
          refine WM_nil ?_
          refine QM_then ?_
          refine CM_ret ?_
          exact QM_ret1 rfl rfl (fun W hm => ⟨ret_b (show impl_IsUpdate_m x0 = false from by unfold impl_IsUpdate_m; exact cond_t g10 (cond_f g12 (cond_f g18 (cond_f g24 (rfl))))), hm.below⟩)
  ·
    refine WM_skip (Wd_some rfl rfl rfl (bw g10 rfl)) rfl (by decide) ?_
    refine WM_skip (Wd_some rfl rfl rfl (bw g10 rfl)) rfl (by decide) ?_
    refine WM_skip (Wd_some rfl rfl rfl (bw g10 rfl)) rfl (by decide) ?_
    refine WM_skip (Wd_some rfl rfl rfl (bw g10 rfl)) rfl (by decide) ?_
    refine WM_skip (Wd_some rfl rfl rfl (bw g10 rfl)) rfl (by decide) ?_
    refine WM_val (fun W hm => rv_pickF rfl g10 rfl) (Wd_none rfl) rfl (by decide) ?_
    refine WM_val (fun W hm => rv_assign rfl) (Wd_none rfl) rfl (by decide) ?_
    refine WM_nil ?_
    refine QM_then ?_
    refine CM_seq ?_
    refine CM_seq ?_
    refine CM_region ?_
    refine WM_val (fun W hm => rv_field Try.underlying56 rfl Try.type3 (by decide) rfl rfl) (Wd_none rfl) rfl (by decide) ?_
    refine WM_val (fun W hm => rv_load Try.underlying3 rfl rfl (hm.boxCell (n := 0) (o := 0) rfl rfl)) (Wd_none rfl) rfl (by decide) ?_
    refine WM_nil ?_
    refine QM_then ?_
    refine CM_block ?_
    refine CM_seq ?_
    refine CM_region ?_
    refine WM_val (fun W hm => rv_eql rfl rfl) (Wd_none rfl) rfl (by decide) ?_
    refine WM_val (fun W hm => rv_assign rfl) (Wd_none rfl) rfl (by decide) ?_
    refine WM_nil ?_
    refine QM_then ?_
    by_cases h29 : x0.Kind = 1
    · have g30 : (x0.Kind == 1) = true := beq_iff_eq.2 h29
      refine CM_condT rfl g30 ?_
      refine CM_seq ?_
      refine CM_region ?_
      refine WM_val (fun W hm => rv_field Try.underlying56 rfl Try.type54 (by decide) rfl rfl) (Wd_none rfl) rfl (by decide) ?_
      refine WM_val (fun W hm => rv_loadN (cs := [.int .i64 x0.Row.Id, .slice A4 x0.Row.Values.length c5]) Try.underlying54 Try.type54 rfl rfl (hm.boxPart (n := 0) rfl rfl)) (Wd_none rfl) rfl (by decide) ?_
      refine WM_callV (cl_fn cb74 rfl) (fun W hm => impl_IsRow_c W _ x0.Row (tyRow_mk (hm.rdS0 r7))) (Wd_none rfl) (by decide) ?_
      refine WM_val (fun W hm => rv_move rfl) (Wd_none rfl) rfl (by decide) ?_
      rcases Bool.eq_false_or_eq_true (impl_IsRow_m x0.Row) with g32 | g32
      ·
        refine WM_val (fun W hm => rv_field Try.underlying56 rfl Try.type3 (by decide) rfl rfl) (Wd_some rfl rfl rfl (bw g32 rfl)) rfl (by decide) ?_
        refine WM_val (fun W hm => rv_load Try.underlying3 rfl rfl (hm.boxCell (n := 0) (o := 3) rfl rfl)) (Wd_some rfl rfl rfl (bw g32 rfl)) rfl (by decide) ?_
        refine WM_val (fun W hm => rv_eql rfl rfl) (Wd_some rfl rfl rfl (bw g32 rfl)) rfl (by decide) ?_
        refine WM_val (fun W hm => rv_pickT rfl g32 rfl) (Wd_none rfl) rfl (by decide) ?_
        refine WM_val (fun W hm => rv_move rfl) (Wd_none rfl) rfl (by decide) ?_
        by_cases h33 : x0.Field = 0
        · have g34 : (x0.Field == 0) = true := beq_iff_eq.2 h33
          refine WM_val (fun W hm => rv_field Try.underlying56 rfl Try.type3 (by decide) rfl rfl) (Wd_some rfl rfl rfl (bw g34 rfl)) rfl (by decide) ?_
          refine WM_val (fun W hm => rv_load Try.underlying3 rfl rfl (hm.boxCell (n := 0) (o := 4) rfl rfl)) (Wd_some rfl rfl rfl (bw g34 rfl)) rfl (by decide) ?_
          refine WM_val (fun W hm => rv_eql rfl rfl) (Wd_some rfl rfl rfl (bw g34 rfl)) rfl (by decide) ?_
          refine WM_val (fun W hm => rv_pickT rfl g34 rfl) (Wd_none rfl) rfl (by decide) ?_
          refine WM_val (fun W hm => rv_assign rfl) (Wd_none rfl) rfl (by decide) ?_
          refine WM_nil ?_
          refine QM_then ?_
          refine CM_ret ?_
          refine QM_block_ret ?_
          refine QM_then_ret ?_
          exact QM_ret1 rfl rfl (fun W hm => ⟨ret_b (show impl_IsUpdate_m x0 = (x0.Value == 0) from by unfold impl_IsUpdate_m; exact cond_f g10 (cond_t g30 (cond_t g32 (cond_t g34 (rfl))))), hm.below⟩)
        · have g34 : (x0.Field == 0) = false := beq_eq_false_iff_ne.2 h33
          refine WM_skip (Wd_some rfl rfl rfl (bw g34 rfl)) rfl (by decide) ?_
          refine WM_skip (Wd_some rfl rfl rfl (bw g34 rfl)) rfl (by decide) ?_
          refine WM_skip (Wd_some rfl rfl rfl (bw g34 rfl)) rfl (by decide) ?_
          refine WM_val (fun W hm => rv_pickF rfl g34 rfl) (Wd_none rfl) rfl (by decide) ?_
          refine WM_val (fun W hm => rv_assign rfl) (Wd_none rfl) rfl (by decide) ?_
          refine WM_nil ?_
          refine QM_then ?_
          refine CM_ret ?_
          refine QM_block_ret ?_
          refine QM_then_ret ?_
          exact QM_ret1 rfl rfl (fun W hm => ⟨ret_b (show impl_IsUpdate_m x0 = false from by unfold impl_IsUpdate_m; exact cond_f g10 (cond_t g30 (cond_t g32 (cond_f g34 (rfl))))), hm.below⟩)
      ·
        refine WM_skip (Wd_some rfl rfl rfl (bw g32 rfl)) rfl (by decide) ?_
        refine WM_skip (Wd_some rfl rfl rfl (bw g32 rfl)) rfl (by decide) ?_
        refine WM_skip (Wd_some rfl rfl rfl (bw g32 rfl)) rfl (by decide) ?_
        refine WM_val (fun W hm => rv_pickF rfl g32 rfl) (Wd_none rfl) rfl (by decide) ?_
        refine WM_val (fun W hm => rv_move rfl) (Wd_none rfl) rfl (by decide) ?_
        refine WM_skip (Wd_some rfl rfl rfl rfl) rfl (by decide) ?_
        refine WM_skip (Wd_some rfl rfl rfl rfl) rfl (by decide) ?_
        refine WM_skip (Wd_some rfl rfl rfl rfl) rfl (by decide) ?_
        refine WM_val (fun W hm => rv_pickF rfl rfl rfl) (Wd_none rfl) rfl (by decide) ?_
        refine WM_val (fun W hm => rv_assign rfl) (Wd_none rfl) rfl (by decide) ?_
        refine WM_nil ?_
        refine QM_then ?_
        refine CM_ret ?_
        refine QM_block_ret ?_
        refine QM_then_ret ?_
        exact QM_ret1 rfl rfl (fun W hm => ⟨ret_b (show impl_IsUpdate_m x0 = false from by unfold impl_IsUpdate_m; exact cond_f g10 (cond_t g30 (cond_f g32 (rfl)))), hm.below⟩)
    · have g30 : (x0.Kind == 1) = false := beq_eq_false_iff_ne.2 h29
      refine CM_condF rfl g30 ?_
      refine CM_seq ?_
      refine CM_region ?_
      refine WM_val (fun W hm => rv_eql rfl rfl) (Wd_none rfl) rfl (by decide) ?_
      refine WM_val (fun W hm => rv_assign rfl) (Wd_none rfl) rfl (by decide) ?_
      refine WM_nil ?_
      refine QM_then ?_
      by_cases h35 : x0.Kind = 2
      · have g36 : (x0.Kind == 2) = true := beq_iff_eq.2 h35
        refine CM_condT rfl g36 ?_
        refine CM_seq ?_
        refine CM_region ?_
        refine WM_val (fun W hm => rv_move rfl) (Wd_none rfl) rfl (by decide) ?_
        refine WM_val (fun W hm => rv_move rfl) (Wd_none rfl) rfl (by decide) ?_
        refine WM_skip (Wd_some rfl rfl rfl rfl) rfl (by decide) ?_
        refine WM_skip (Wd_some rfl rfl rfl rfl) rfl (by decide) ?_
        refine WM_skip (Wd_some rfl rfl rfl rfl) rfl (by decide) ?_
        refine WM_val (fun W hm => rv_pickF rfl rfl rfl) (Wd_none rfl) rfl (by decide) ?_
        refine WM_val (fun W hm => rv_move rfl) (Wd_none rfl) rfl (by decide) ?_
        refine WM_skip (Wd_some rfl rfl rfl rfl) rfl (by decide) ?_
        refine WM_skip (Wd_some rfl rfl rfl rfl) rfl (by decide) ?_
        refine WM_skip (Wd_some rfl rfl rfl rfl) rfl (by decide) ?_
        refine WM_val (fun W hm => rv_pickF rfl rfl rfl) (Wd_none rfl) rfl (by decide) ?_
        refine WM_val (fun W hm => rv_assign rfl) (Wd_none rfl) rfl (by decide) ?_
        refine WM_nil ?_
        refine QM_then ?_
        refine CM_ret ?_
        refine QM_block_ret ?_
        refine QM_then_ret ?_
        exact QM_ret1 rfl rfl (fun W hm => ⟨ret_b (show impl_IsUpdate_m x0 = false from by unfold impl_IsUpdate_m; exact cond_f g10 (cond_f g30 (cond_t g36 (rfl)))), hm.below⟩)
      · have g36 : (x0.Kind == 2) = false := beq_eq_false_iff_ne.2 h35
        refine CM_condF rfl g36 ?_
        refine CM_seq ?_
        refine CM_region ?_
        refine WM_val (fun W hm => rv_eql rfl rfl) (Wd_none rfl) rfl (by decide) ?_
        refine WM_val (fun W hm => rv_assign rfl) (Wd_none rfl) rfl (by decide) ?_
        refine WM_nil ?_
        refine QM_then ?_
        by_cases h37 : x0.Kind = 3
        · have g38 : (x0.Kind == 3) = true := beq_iff_eq.2 h37
          refine CM_condT rfl g38 ?_
          refine CM_seq ?_
          refine CM_region ?_
          refine WM_val (fun W hm => rv_move rfl) (Wd_none rfl) rfl (by decide) ?_
          refine WM_val (fun W hm => rv_move rfl) (Wd_none rfl) rfl (by decide) ?_
          refine WM_skip (Wd_some rfl rfl rfl rfl) rfl (by decide) ?_
          refine WM_skip (Wd_some rfl rfl rfl rfl) rfl (by decide) ?_
          refine WM_skip (Wd_some rfl rfl rfl rfl) rfl (by decide) ?_
          refine WM_val (fun W hm => rv_pickF rfl rfl rfl) (Wd_none rfl) rfl (by decide) ?_
          refine WM_val (fun W hm => rv_move rfl) (Wd_none rfl) rfl (by decide) ?_
          refine WM_skip (Wd_some rfl rfl rfl rfl) rfl (by decide) ?_
          refine WM_skip (Wd_some rfl rfl rfl rfl) rfl (by decide) ?_
          refine WM_skip (Wd_some rfl rfl rfl rfl) rfl (by decide) ?_
          refine WM_val (fun W hm => rv_pickF rfl rfl rfl) (Wd_none rfl) rfl (by decide) ?_
          refine WM_val (fun W hm => rv_assign rfl) (Wd_none rfl) rfl (by decide) ?_
          refine WM_nil ?_
          refine QM_then ?_
          refine CM_ret ?_
          refine QM_block_ret ?_
          refine QM_then_ret ?_
          exact QM_ret1 rfl rfl (fun W hm => ⟨ret_b (show impl_IsUpdate_m x0 = false from by unfold impl_IsUpdate_m; exact cond_f g10 (cond_f g30 (cond_f g36 (cond_t g38 (rfl))))), hm.below⟩)
        · have g38 : (x0.Kind == 3) = false := beq_eq_false_iff_ne.2 h37
          refine CM_condF rfl g38 ?_
          refine CM_skip ?_
          refine QM_block_normal ?_
          refine QM_then ?_
          refine CM_seq ?_
          refine CM_region ?_
          refine WM_val (fun W hm => rv_assign rfl) (Wd_none rfl) rfl (by decide) ?_
          refine WM_nil ?_
          refine QM_then ?_
          refine CM_ret ?_
          exact QM_ret1 rfl rfl (fun W hm => ⟨ret_b (show impl_IsUpdate_m x0 = false from by unfold impl_IsUpdate_m; exact cond_f g10 (cond_f g30 (cond_f g36 (cond_f g38 (rfl))))), hm.below⟩)

def laws_eqIntS_b1 (x0 : (List Int)) (x1 : (List Int)) (k13 : Nat) : Bool ⊕ (Unit) :=
  cond ((gt x0 k13) != (gt x1 k13)) (Sum.inl false) (Sum.inr ())
def laws_eqIntS_m (x0 : (List Int)) (x1 : (List Int)) : Bool :=
  cond (((x0.length : Nat) : Int) != ((x1.length : Nat) : Int)) false (Sum.elim id (fun (s : Unit) => true) (rng (R := Bool) (fun k (_ : Unit) => laws_eqIntS_b1 x0 x1 k) (x0.length - 0) 0 ()))
theorem cb45 : Cb Try.prog 45 := ⟨Try.f45, _, Try.func45, rfl, by decide⟩
set_option maxRecDepth 10000 in
set_option maxHeartbeats 4000000 in
theorem laws_eqIntS_c (w : World) (z0 : Value) (x0 : (List Int)) (z1 : Value) (x1 : (List Int)) (r_0 : rdS tInt w w.heap.size z0 x0) (r_1 : rdS tInt w w.heap.size z1 x1) :
    Calls Try.prog 45 #[z0, z1] w fun e w' => e = .returned (.bool (laws_eqIntS_m x0 x1)) ∧ Below w.heap.size w w' := by
  have r5 := r_0
  obtain ⟨m1, A2, c3, rfl, q4⟩ := r_0
  have r10 := r_1
  obtain ⟨m6, A7, c8, rfl, q9⟩ := r_1
  refine call_enterM (L := [(0, .slice A2 x0.length c3), (1, .slice A7 x1.length c8)]) (N := 26) Try.func45 rfl rfl (Nat.le_of_ble_eq_true rfl) (argsL_cons rfl (argsL_cons rfl argsL_nil)) ?_
  refine CM_seq ?_
  refine CM_region ?_
  refine WM_val (fun W hm => rv_assign rfl) (Wd_none rfl) rfl (by decide) ?_
  refine WM_nil ?_
  refine QM_then ?_
  refine CM_seq ?_
  refine CM_seq ?_
  refine CM_region ?_
  refine WM_val (fun W hm => rv_move rfl) (Wd_none rfl) rfl (by decide) ?_
  refine WM_val (fun W hm => rv_len Try.underlying32 rfl) (Wd_none rfl) rfl (by decide) ?_
  refine WM_val (fun W hm => rv_move rfl) (Wd_none rfl) rfl (by decide) ?_
  refine WM_val (fun W hm => rv_len Try.underlying32 rfl) (Wd_none rfl) rfl (by decide) ?_
  refine WM_val (fun W hm => rv_neq rfl rfl) (Wd_none rfl) rfl (by decide) ?_
  refine WM_nil ?_
  refine QM_then ?_
  by_cases h11 : ((x0.length : Nat) : Int) = ((x1.length : Nat) : Int)
  · have g12 : (((x0.length : Nat) : Int) != ((x1.length : Nat) : Int)) = false := by rw [h11]; exact bne_self_eq_false _
    refine CM_condF rfl g12 ?_
    refine CM_skip ?_
    refine QM_then ?_
    refine CM_seq ?_
    refine CM_seq ?_
    refine CM_region ?_
    refine WM_val (fun W hm => rv_assign rfl) (Wd_none rfl) rfl (by decide) ?_
    refine WM_nil ?_
    refine QM_then ?_
    refine CM_block ?_
    refine CM_loop (σ := Nat × (Unit) × (Unit)) (fun s => [(0, .slice A2 x0.length c3), (1, .slice A7 x1.length c8), (5, .int .i64 ((s.1 : Nat) : Int))]) (fun s => []) (fun s => s.1 ≤ x0.length ∧ rng (R := Bool) (fun k (_ : Unit) => laws_eqIntS_b1 x0 x1 k) (x0.length - s.1) s.1 s.2.1 = rng (R := Bool) (fun k (_ : Unit) => laws_eqIntS_b1 x0 x1 k) (x0.length - 0) 0 ()) (fun s => x0.length - s.1) (0, (), ()) (subL_cons rfl (subL_cons rfl (subL_cons rfl subL_nil))) (fun W hm => hm) ⟨(by omega), rfl⟩ ?_
    rintro ⟨k13, ⟨⟩, ⟨⟩⟩ H16
    obtain ⟨hk14, hF15⟩ : k13 ≤ x0.length ∧ rng (R := Bool) (fun k (_ : Unit) => laws_eqIntS_b1 x0 x1 k) (x0.length - k13) k13 () = rng (R := Bool) (fun k (_ : Unit) => laws_eqIntS_b1 x0 x1 k) (x0.length - 0) 0 () := H16
    show CM Try.prog 26 _ _ _ _ [(0, .slice A2 x0.length c3), (1, .slice A7 x1.length c8), (5, .int .i64 ((k13 : Nat) : Int))] []
    refine CM_seq ?_
    refine CM_seq ?_
    refine CM_region ?_
    refine WM_val (fun W hm => rv_move rfl) (Wd_none rfl) rfl (by decide) ?_
    refine WM_val (fun W hm => rv_move rfl) (Wd_none rfl) rfl (by decide) ?_
    refine WM_val (fun W hm => rv_len Try.underlying32 rfl) (Wd_none rfl) rfl (by decide) ?_
    refine WM_val (fun W hm => rv_lss rfl rfl) (Wd_none rfl) rfl (by decide) ?_
    refine WM_nil ?_
    refine QM_then ?_
    by_cases hl17 : k13 < x0.length
    · have g18 : (decide (((k13 : Nat) : Int) < ((x0.length : Nat) : Int))) = true := decide_eq_true (by omega)
      refine CM_condT rfl g18 ?_
      refine CM_skip ?_
      refine QM_then ?_
      refine CM_seq ?_
      refine CM_block ?_
      refine CM_seq ?_
      refine CM_regionD (by kernel_rfl) (by kernel_rfl) ?_
      refine QR_val (fun W hm => rv_move rfl) (Wd_none rfl) rfl (by decide) ?_
      refine QR_val (fun W hm => rv_move rfl) (Wd_none rfl) rfl (by decide) ?_
      obtain ⟨a19, rfl, hb20, he21⟩ := q4 (by omega)
      refine QR_val (fun W hm => rv_index (sz := 1) (k := k13) Try.underlying32 Try.type3 rfl rfl rfl (by omega)) (Wd_none rfl) rfl (by decide) ?_
      refine QR_val (fun W hm => rv_load Try.underlying3 rfl rfl ((hm.cell0 (show (a19.add (k13 * 1)).block < w.heap.size from by rw [add_block]; exact hb20)).trans (rdS_int he21 k13 (by omega)))) (Wd_none rfl) rfl (by decide) ?_
      refine QR_val (fun W hm => rv_move rfl) (Wd_none rfl) rfl (by decide) ?_
      refine QR_val (fun W hm => rv_move rfl) (Wd_none rfl) rfl (by decide) ?_
      obtain ⟨a22, rfl, hb23, he24⟩ := q9 (by omega)
      refine QR_val (fun W hm => rv_index (sz := 1) (k := k13) Try.underlying32 Try.type3 rfl rfl rfl (by omega)) (Wd_none rfl) rfl (by decide) ?_
      refine QR_val (fun W hm => rv_load Try.underlying3 rfl rfl ((hm.cell0 (show (a22.add (k13 * 1)).block < w.heap.size from by rw [add_block]; exact hb23)).trans (rdS_int he24 k13 (by omega)))) (Wd_none rfl) rfl (by decide) ?_
      refine QR_val (fun W hm => rv_neq rfl rfl) (Wd_none rfl) rfl (by decide) ?_
      refine QR_nil ?_
      refine QM_then ?_
      by_cases h25 : (gt x0 k13) = (gt x1 k13)
      · have g26 : ((gt x0 k13) != (gt x1 k13)) = false := by rw [h25]; exact bne_self_eq_false _
        refine CM_condF rfl g26 ?_
        refine CM_skip ?_
        refine QM_block_normal ?_
        refine QM_then ?_
        refine CM_region ?_
        refine WM_val (fun W hm => rv_move rfl) (Wd_none rfl) rfl (by decide) ?_
        refine WM_val (fun W hm => rv_addN (p := k13) (q := 1) rfl rfl (by omega)) (Wd_none rfl) rfl (by decide) ?_
        refine WM_val (fun W hm => rv_assign rfl) (Wd_none rfl) rfl (by decide) ?_
        refine WM_nil ?_
        have hn27 := rng_next (R := Bool) (body := (fun k (_ : Unit) => laws_eqIntS_b1 x0 x1 k)) (k := k13) (s := ()) (s' := ()) (show k13 < x0.length from by omega) (show laws_eqIntS_b1 x0 x1 k13 = Sum.inr () from by unfold laws_eqIntS_b1; exact cond_f g26 (rfl)) hF15
        exact QM_round (k13 + 1, (), ()) (subL_cons rfl (subL_cons rfl (subL_cons rfl subL_nil))) (fun W hm => hm) ⟨(by omega), hn27⟩ (show x0.length - (k13 + 1) < x0.length - k13 from by omega)
      · have g26 : ((gt x0 k13) != (gt x1 k13)) = true := bne_iff_ne.2 h25
        refine CM_condT rfl g26 ?_
        refine CM_seq ?_
        refine CM_region ?_
        refine WM_val (fun W hm => rv_assign rfl) (Wd_none rfl) rfl (by decide) ?_
        refine WM_nil ?_
        refine QM_then ?_
        refine CM_ret ?_
        refine QM_block_ret ?_
        refine QM_then_ret ?_
        refine QM_then_ret ?_
        refine QM_block_ret ?_
        refine QM_then_ret ?_
        exact QM_ret1 rfl rfl (fun W hm => ⟨ret_b (show laws_eqIntS_m x0 x1 = false from by unfold laws_eqIntS_m; exact cond_f g12 (fin_inl (rng_ret (body := (fun k (_ : Unit) => laws_eqIntS_b1 x0 x1 k)) (k := k13) (s := ()) (show k13 < x0.length from by omega) (show laws_eqIntS_b1 x0 x1 k13 = Sum.inl false from by unfold laws_eqIntS_b1; exact cond_t g26 (rfl)) hF15) rfl)), hm.below⟩)
    · have g18 : (decide (((k13 : Nat) : Int) < ((x0.length : Nat) : Int))) = false := decide_eq_false (by omega)
      refine CM_condF rfl g18 ?_
      refine CM_exit ?_
      refine QM_then_exit ?_
      refine QM_then_exit ?_
      have hE28 : rng (R := Bool) (fun k (_ : Unit) => laws_eqIntS_b1 x0 x1 k) (x0.length - 0) 0 () = Sum.inr () := rng_end hl17 hF15
      refine QM_block_hit ?_
      refine QM_then ?_
      refine CM_seq ?_
      refine CM_region ?_
      refine WM_val (fun W hm => rv_assign rfl) (Wd_none rfl) rfl (by decide) ?_
      refine WM_nil ?_
      refine QM_then ?_
      refine CM_ret ?_
      exact QM_ret1 rfl rfl (fun W hm => ⟨ret_b (show laws_eqIntS_m x0 x1 = true from by unfold laws_eqIntS_m; exact cond_f g12 (fin_inr hE28 (rfl))), hm.below⟩)
  · have g12 : (((x0.length : Nat) : Int) != ((x1.length : Nat) : Int)) = true := bne_iff_ne.2 h11
    refine CM_condT rfl g12 ?_
    refine CM_seq ?_
    refine CM_region ?_
    refine WM_val (fun W hm => rv_assign rfl) (Wd_none rfl) rfl (by decide) ?_
    refine WM_nil ?_
    refine QM_then ?_
    refine CM_ret ?_
    refine QM_then_ret ?_
    exact QM_ret1 rfl rfl (fun W hm => ⟨ret_b (show laws_eqIntS_m x0 x1 = false from by unfold laws_eqIntS_m; exact cond_t g12 (rfl)), hm.below⟩)

def laws_eqRow_m (x0 : DRow) (x1 : DRow) : Bool :=
  cond (x0.Id != x1.Id) false (cond (laws_eqIntS_m x0.Values x1.Values) true false)
theorem cb76 : Cb Try.prog 76 := ⟨Try.f76, _, Try.func76, rfl, by decide⟩
set_option maxRecDepth 10000 in
set_option maxHeartbeats 4000000 in
theorem laws_eqRow_c (w : World) (z0 : List Value) (x0 : DRow) (z1 : List Value) (x1 : DRow) (r_0 : tyRow.rd w w.heap.size z0 x0) (r_1 : tyRow.rd w w.heap.size z1 x1) :
    Calls Try.prog 76 #[.agg z0.toArray, .agg z1.toArray] w fun e w' => e = .returned (.bool (laws_eqRow_m x0 x1)) ∧ Below w.heap.size w w' := by
  obtain ⟨v1, rfl, r2⟩ := tyRow_rd r_0
  have r7 := r2
  obtain ⟨m3, A4, c5, rfl, q6⟩ := r2
  obtain ⟨v8, rfl, r9⟩ := tyRow_rd r_1
  have r14 := r9
  obtain ⟨m10, A11, c12, rfl, q13⟩ := r9
  refine call_enterM (L := [(0, .agg #[.int .i64 x0.Id, .slice A4 x0.Values.length c5]), (1, .agg #[.int .i64 x1.Id, .slice A11 x1.Values.length c12])]) (N := 16) Try.func76 rfl rfl (Nat.le_of_ble_eq_true rfl) (argsL_cons rfl (argsL_cons rfl argsL_nil)) ?_
  refine CM_seq ?_
  refine CM_region ?_
  refine WM_box rfl (Wd_none rfl) (by decide) (fun p15 => ?_)
  refine WM_box rfl (Wd_none rfl) (by decide) (fun p16 => ?_)
  refine WM_val (fun W hm => rv_assign rfl) (Wd_none rfl) rfl (by decide) ?_
  refine WM_nil ?_
  refine QM_then ?_
  refine CM_seq ?_
  refine CM_seq ?_
  refine CM_region ?_
  refine WM_val (fun W hm => rv_field Try.underlying54 rfl Try.type3 (by decide) rfl rfl) (Wd_none rfl) rfl (by decide) ?_
  refine WM_val (fun W hm => rv_load Try.underlying3 rfl rfl (hm.boxCell (n := 1) (o := 0) rfl rfl)) (Wd_none rfl) rfl (by decide) ?_
  refine WM_val (fun W hm => rv_field Try.underlying54 rfl Try.type3 (by decide) rfl rfl) (Wd_none rfl) rfl (by decide) ?_
  refine WM_val (fun W hm => rv_load Try.underlying3 rfl rfl (hm.boxCell (n := 0) (o := 0) rfl rfl)) (Wd_none rfl) rfl (by decide) ?_
  refine WM_val (fun W hm => rv_neq rfl rfl) (Wd_none rfl) rfl (by decide) ?_
  refine WM_nil ?_
  refine QM_then ?_
  by_cases h17 : x0.Id = x1.Id
  · have g18 : (x0.Id != x1.Id) = false := by rw [h17]; exact bne_self_eq_false _
    refine CM_condF rfl g18 ?_
    refine CM_skip ?_
    refine QM_then ?_
    refine CM_seq ?_
    refine CM_seq ?_
    refine CM_region ?_
    refine WM_val (fun W hm => rv_field Try.underlying54 rfl Try.type32 (by decide) rfl rfl) (Wd_none rfl) rfl (by decide) ?_
    refine WM_val (fun W hm => rv_load Try.underlying32 rfl rfl (hm.boxCell (n := 1) (o := 1) rfl rfl)) (Wd_none rfl) rfl (by decide) ?_
    refine WM_val (fun W hm => rv_field Try.underlying54 rfl Try.type32 (by decide) rfl rfl) (Wd_none rfl) rfl (by decide) ?_
    refine WM_val (fun W hm => rv_load Try.underlying32 rfl rfl (hm.boxCell (n := 0) (o := 1) rfl rfl)) (Wd_none rfl) rfl (by decide) ?_
    refine WM_callV (cl_fn cb45 rfl) (fun W hm => laws_eqIntS_c W _ x0.Values _ x1.Values (hm.rdS0 r7) (hm.rdS0 r14)) (Wd_none rfl) (by decide) ?_
    refine WM_val (fun W hm => rv_not rfl) (Wd_none rfl) rfl (by decide) ?_
    refine WM_nil ?_
    refine QM_then ?_
    rcases Bool.eq_false_or_eq_true (laws_eqIntS_m x0.Values x1.Values) with g20 | g20
    ·
      refine CM_condF rfl (nt g20) ?_
      refine CM_skip ?_
      refine QM_then ?_
      refine CM_seq ?_
      refine CM_region ?_
      refine WM_val (fun W hm => rv_assign rfl) (Wd_none rfl) rfl (by decide) ?_
      refine WM_nil ?_
      refine QM_then ?_
      refine CM_ret ?_
      exact QM_ret1 rfl rfl (fun W hm => ⟨ret_b (show laws_eqRow_m x0 x1 = true from by unfold laws_eqRow_m; exact cond_f g18 (cond_t g20 (rfl))), hm.below⟩)
    ·
      refine CM_condT rfl (nf g20) ?_
      refine CM_seq ?_
      refine CM_region ?_
      refine WM_val (fun W hm => rv_assign rfl) (Wd_none rfl) rfl (by decide) ?_
      refine WM_nil ?_
      refine QM_then ?_
      refine CM_ret ?_
      refine QM_then_ret ?_
      exact QM_ret1 rfl rfl (fun W hm => ⟨ret_b (show laws_eqRow_m x0 x1 = false from by unfold laws_eqRow_m; exact cond_f g18 (cond_f g20 (rfl))), hm.below⟩)
  · have g18 : (x0.Id != x1.Id) = true := bne_iff_ne.2 h17
    refine CM_condT rfl g18 ?_
    refine CM_seq ?_
    refine CM_region ?_
    refine WM_val (fun W hm => rv_assign rfl) (Wd_none rfl) rfl (by decide) ?_
    refine WM_nil ?_
    refine QM_then ?_
    refine CM_ret ?_
    refine QM_then_ret ?_
    exact QM_ret1 rfl rfl (fun W hm => ⟨ret_b (show laws_eqRow_m x0 x1 = false from by unfold laws_eqRow_m; exact cond_t g18 (rfl)), hm.below⟩)

def laws_eqUpdate_m (x0 : DUpdate) (x1 : DUpdate) : Bool :=
  cond (x0.Kind != x1.Kind) false (cond (laws_eqRow_m x0.Row x1.Row) (cond (x0.Field != x1.Field) false (cond (x0.Value != x1.Value) false true)) false)
theorem cb38 : Cb Try.prog 38 := ⟨Try.f38, _, Try.func38, rfl, by decide⟩
set_option maxRecDepth 10000 in
set_option maxHeartbeats 4000000 in
theorem laws_eqUpdate_c (w : World) (z0 : List Value) (x0 : DUpdate) (z1 : List Value) (x1 : DUpdate) (r_0 : tyUpdate.rd w w.heap.size z0 x0) (r_1 : tyUpdate.rd w w.heap.size z1 x1) :
    Calls Try.prog 38 #[.agg z0.toArray, .agg z1.toArray] w fun e w' => e = .returned (.bool (laws_eqUpdate_m x0 x1)) ∧ Below w.heap.size w w' := by
  obtain ⟨v1, rfl, r2⟩ := tyUpdate_rd r_0
  have r7 := r2
  obtain ⟨m3, A4, c5, rfl, q6⟩ := r2
  obtain ⟨v8, rfl, r9⟩ := tyUpdate_rd r_1
  have r14 := r9
  obtain ⟨m10, A11, c12, rfl, q13⟩ := r9
  refine call_enterM (L := [(0, .agg #[.int .i64 x0.Kind, .int .i64 x0.Row.Id, .slice A4 x0.Row.Values.length c5, .int .i64 x0.Field, .int .i64 x0.Value]), (1, .agg #[.int .i64 x1.Kind, .int .i64 x1.Row.Id, .slice A11 x1.Row.Values.length c12, .int .i64 x1.Field, .int .i64 x1.Value])]) (N := 26) Try.func38 rfl rfl (Nat.le_of_ble_eq_true rfl) (argsL_cons rfl (argsL_cons rfl argsL_nil)) ?_
  refine CM_seq ?_
  refine CM_region ?_
  refine WM_box rfl (Wd_none rfl) (by decide) (fun p15 => ?_)
  refine WM_box rfl (Wd_none rfl) (by decide) (fun p16 => ?_)
  refine WM_val (fun W hm => rv_assign rfl) (Wd_none rfl) rfl (by decide) ?_
  refine WM_nil ?_
  refine QM_then ?_
  refine CM_seq ?_
  refine CM_seq ?_
  refine CM_region ?_
  refine WM_val (fun W hm => rv_field Try.underlying56 rfl Try.type3 (by decide) rfl rfl) (Wd_none rfl) rfl (by decide) ?_
  refine WM_val (fun W hm => rv_load Try.underlying3 rfl rfl (hm.boxCell (n := 1) (o := 0) rfl rfl)) (Wd_none rfl) rfl (by decide) ?_
  refine WM_val (fun W hm => rv_field Try.underlying56 rfl Try.type3 (by decide) rfl rfl) (Wd_none rfl) rfl (by decide) ?_
  refine WM_val (fun W hm => rv_load Try.underlying3 rfl rfl (hm.boxCell (n := 0) (o := 0) rfl rfl)) (Wd_none rfl) rfl (by decide) ?_
  refine WM_val (fun W hm => rv_neq rfl rfl) (Wd_none rfl) rfl (by decide) ?_
  refine WM_nil ?_
  refine QM_then ?_
  by_cases h17 : x0.Kind = x1.Kind
  · have g18 : (x0.Kind != x1.Kind) = false := by rw [h17]; exact bne_self_eq_false _
    refine CM_condF rfl g18 ?_
    refine CM_skip ?_
    refine QM_then ?_
    refine CM_seq ?_
    refine CM_seq ?_
    refine CM_region ?_
    refine WM_val (fun W hm => rv_field Try.underlying56 rfl Try.type54 (by decide) rfl rfl) (Wd_none rfl) rfl (by decide) ?_
    refine WM_val (fun W hm => rv_loadN (cs := [.int .i64 x0.Row.Id, .slice A4 x0.Row.Values.length c5]) Try.underlying54 Try.type54 rfl rfl (hm.boxPart (n := 1) rfl rfl)) (Wd_none rfl) rfl (by decide) ?_
    refine WM_val (fun W hm => rv_field Try.underlying56 rfl Try.type54 (by decide) rfl rfl) (Wd_none rfl) rfl (by decide) ?_
    refine WM_val (fun W hm => rv_loadN (cs := [.int .i64 x1.Row.Id, .slice A11 x1.Row.Values.length c12]) Try.underlying54 Try.type54 rfl rfl (hm.boxPart (n := 0) rfl rfl)) (Wd_none rfl) rfl (by decide) ?_
    refine WM_callV (cl_fn cb76 rfl) (fun W hm => laws_eqRow_c W _ x0.Row _ x1.Row (tyRow_mk (hm.rdS0 r7)) (tyRow_mk (hm.rdS0 r14))) (Wd_none rfl) (by decide) ?_
    refine WM_val (fun W hm => rv_not rfl) (Wd_none rfl) rfl (by decide) ?_
    refine WM_nil ?_
    refine QM_then ?_
    rcases Bool.eq_false_or_eq_true (laws_eqRow_m x0.Row x1.Row) with g20 | g20
    ·
      refine CM_condF rfl (nt g20) ?_
      refine CM_skip ?_
      refine QM_then ?_
      refine CM_seq ?_
      refine CM_seq ?_
      refine CM_region ?_
      refine WM_val (fun W hm => rv_field Try.underlying56 rfl Try.type3 (by decide) rfl rfl) (Wd_none rfl) rfl (by decide) ?_
      refine WM_val (fun W hm => rv_load Try.underlying3 rfl rfl (hm.boxCell (n := 1) (o := 3) rfl rfl)) (Wd_none rfl) rfl (by decide) ?_
      refine WM_val (fun W hm => rv_field Try.underlying56 rfl Try.type3 (by decide) rfl rfl) (Wd_none rfl) rfl (by decide) ?_
      refine WM_val (fun W hm => rv_load Try.underlying3 rfl rfl (hm.boxCell (n := 0) (o := 3) rfl rfl)) (Wd_none rfl) rfl (by decide) ?_
      refine WM_val (fun W hm => rv_neq rfl rfl) (Wd_none rfl) rfl (by decide) ?_
      refine WM_nil ?_
      refine QM_then ?_
      by_cases h21 : x0.Field = x1.Field
      · have g22 : (x0.Field != x1.Field) = false := by rw [h21]; exact bne_self_eq_false _
        refine CM_condF rfl g22 ?_
        refine CM_skip ?_
        refine QM_then ?_
        refine CM_seq ?_
        refine CM_seq ?_
        refine CM_region ?_
        refine WM_val (fun W hm => rv_field Try.underlying56 rfl Try.type3 (by decide) rfl rfl) (Wd_none rfl) rfl (by decide) ?_
        refine WM_val (fun W hm => rv_load Try.underlying3 rfl rfl (hm.boxCell (n := 1) (o := 4) rfl rfl)) (Wd_none rfl) rfl (by decide) ?_
        refine WM_val (fun W hm => rv_field Try.underlying56 rfl Try.type3 (by decide) rfl rfl) (Wd_none rfl) rfl (by decide) ?_
        refine WM_val (fun W hm => rv_load Try.underlying3 rfl rfl (hm.boxCell (n := 0) (o := 4) rfl rfl)) (Wd_none rfl) rfl (by decide) ?_
        refine WM_val (fun W hm => rv_neq rfl rfl) (Wd_none rfl) rfl (by decide) ?_
        refine WM_nil ?_
        refine QM_then ?_
        by_cases h23 : x0.Value = x1.Value
        · have g24 : (x0.Value != x1.Value) = false := by rw [h23]; exact bne_self_eq_false _
          refine CM_condF rfl g24 ?_
          refine CM_skip ?_
          refine QM_then ?_
          refine CM_seq ?_
          refine CM_region ?_
          refine WM_val (fun W hm => rv_assign rfl) (Wd_none rfl) rfl (by decide) ?_
          refine WM_nil ?_
          refine QM_then ?_
          refine CM_ret ?_
          exact QM_ret1 rfl rfl (fun W hm => ⟨ret_b (show laws_eqUpdate_m x0 x1 = true from by unfold laws_eqUpdate_m; exact cond_f g18 (cond_t g20 (cond_f g22 (cond_f g24 (rfl))))), hm.below⟩)
        · have g24 : (x0.Value != x1.Value) = true := bne_iff_ne.2 h23
          refine CM_condT rfl g24 ?_
          refine CM_seq ?_
          refine CM_region ?_
          refine WM_val (fun W hm => rv_assign rfl) (Wd_none rfl) rfl (by decide) ?_
          refine WM_nil ?_
          refine QM_then ?_
          refine CM_ret ?_
          refine QM_then_ret ?_
          exact QM_ret1 rfl rfl (fun W hm => ⟨ret_b (show laws_eqUpdate_m x0 x1 = false from by unfold laws_eqUpdate_m; exact cond_f g18 (cond_t g20 (cond_f g22 (cond_t g24 (rfl))))), hm.below⟩)
      · have g22 : (x0.Field != x1.Field) = true := bne_iff_ne.2 h21
        refine CM_condT rfl g22 ?_
        refine CM_seq ?_
        refine CM_region ?_
        refine WM_val (fun W hm => rv_assign rfl) (Wd_none rfl) rfl (by decide) ?_
        refine WM_nil ?_
        refine QM_then ?_
        refine CM_ret ?_
        refine QM_then_ret ?_
        exact QM_ret1 rfl rfl (fun W hm => ⟨ret_b (show laws_eqUpdate_m x0 x1 = false from by unfold laws_eqUpdate_m; exact cond_f g18 (cond_t g20 (cond_t g22 (rfl)))), hm.below⟩)
    ·
      refine CM_condT rfl (nf g20) ?_
      refine CM_seq ?_
      refine CM_region ?_
      refine WM_val (fun W hm => rv_assign rfl) (Wd_none rfl) rfl (by decide) ?_
      refine WM_nil ?_
      refine QM_then ?_
      refine CM_ret ?_
      refine QM_then_ret ?_
      exact QM_ret1 rfl rfl (fun W hm => ⟨ret_b (show laws_eqUpdate_m x0 x1 = false from by unfold laws_eqUpdate_m; exact cond_f g18 (cond_f g20 (rfl))), hm.below⟩)
  · have g18 : (x0.Kind != x1.Kind) = true := bne_iff_ne.2 h17
    refine CM_condT rfl g18 ?_
    refine CM_seq ?_
    refine CM_region ?_
    refine WM_val (fun W hm => rv_assign rfl) (Wd_none rfl) rfl (by decide) ?_
    refine WM_nil ?_
    refine QM_then ?_
    refine CM_ret ?_
    refine QM_then_ret ?_
    exact QM_ret1 rfl rfl (fun W hm => ⟨ret_b (show laws_eqUpdate_m x0 x1 = false from by unfold laws_eqUpdate_m; exact cond_t g18 (rfl)), hm.below⟩)

end Go.Proofs.Ytlpgopanikikkaa
