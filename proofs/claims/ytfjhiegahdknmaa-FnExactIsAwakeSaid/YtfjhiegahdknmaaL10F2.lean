/-
  Contracts of functions, printed by a program of ours.
-/
import Derived.Test.YtfjhiegahdknmaaL10F1
namespace Go.Proofs.Ytfjhiegahdknmaa
open Go.RowKit
def laws_toEngine_m (x0 : DEngine) : DEngine :=
  (⟨(laws_toStore_m x0.Store), x0.Cursor, (laws_toIntS_m x0.Order), (laws_toActiveS_m x0.Active), (laws_toFinishedS_m x0.Done), (laws_toChargeS_m x0.Ledger), x0.Steps⟩ : DEngine)
set_option maxRecDepth 100000 in
theorem cb44 : Cb Try.prog 44 := ⟨Try.f44, _, Try.func44, rfl, by decide⟩
set_option maxRecDepth 10000 in
set_option maxHeartbeats 4000000 in
theorem laws_toEngine_c (w : World) (z0 : List Value) (x0 : DEngine) (r_0 : tyLEngine.rd w w.heap.size z0 x0) (s_0 : smEngine 68719476736 x0) :
    Calls Try.prog 44 #[.agg z0.toArray] w fun e w' => ∃ v : List Value, e = .returned (.agg v.toArray) ∧ Mem w.heap.size w [iOwn tyEngine v (laws_toEngine_m x0)] w' := by
  obtain ⟨v1, v3, v5, v7, v9, rfl, r2, r4, r6, r8, r10⟩ := tyLEngine_rd r_0
  have r15 := r2
  obtain ⟨m11, A12, c13, rfl, q14⟩ := r2
  have r20 := r4
  obtain ⟨m16, A17, c18, rfl, q19⟩ := r4
  have r25 := r6
  obtain ⟨m21, A22, c23, rfl, q24⟩ := r6
  have r30 := r8
  obtain ⟨m26, A27, c28, rfl, q29⟩ := r8
  have r35 := r10
  obtain ⟨m31, A32, c33, rfl, q34⟩ := r10
  have l36 : x0.Store.Segments.length ≤ 68719476736 := s_0.1.1
  have l37 : x0.Order.length ≤ 68719476736 := s_0.2.1
  have l38 : x0.Active.length ≤ 68719476736 := s_0.2.2.1.1
  have l39 : x0.Done.length ≤ 68719476736 := s_0.2.2.2.1.1
  have l40 : x0.Ledger.length ≤ 68719476736 := s_0.2.2.2.2.1
  refine call_enterM (L := [(0, .agg #[.slice A12 x0.Store.Segments.length c13, .int .i64 x0.Store.Now, .int .i64 x0.Cursor, .slice A17 x0.Order.length c18, .slice A22 x0.Active.length c23, .slice A27 x0.Done.length c28, .slice A32 x0.Ledger.length c33, .int .i64 x0.Steps])]) (N := 31) Try.func44 rfl rfl (Nat.le_of_ble_eq_true rfl) (argsL_cons rfl argsL_nil) ?_
  refine sr ?_
  refine WM_box rfl (Wd_none rfl) (by decide) (fun p41 => ?_)
  refine WM_alloc Try.type77 rfl (Wd_none rfl) (by decide) (fun p42 => ?_)
  refine nt' ?_
  refine sr ?_
  refine WM_alloc Try.type77 rfl (Wd_none rfl) (by decide) (fun p43 => ?_)
  refine nt' ?_
  refine sr ?_
  refine wv (fun W hm => rv_field Try.underlying70 rfl Try.type65 (by decide) rfl rfl) ?_
  refine wv (fun W hm => rv_loadN (cs := [.slice A12 x0.Store.Segments.length c13, .int .i64 x0.Store.Now]) Try.underlying65 Try.type65 rfl rfl (hm.boxPart (n := 2) rfl rfl)) ?_
  refine WM_call (χ := List Value) (val := fun x => .agg x.toArray) (js := fun x => [iOwn tyStore x (laws_toStore_m x0.Store)]) (cl_fn cb51 rfl) (fun W hm => laws_toStore_c W _ x0.Store (tyLStore_mk (x := x0.Store) (hm.rdS0 r15)) s_0.1) (Wd_none rfl) (by decide) (fun z44 => ?_)
  refine WM_split (γ := Value) (js := fun g => [iOwn (tSl (tSl tyVersion 51) 102) [g] ((laws_toStore_m x0.Store).Segments)]) (C := fun g => z44 = [g, .int .i64 ((laws_toStore_m x0.Store).Now)]) (fun _ _ h => tyStore_split h) ?_
  rintro v45 rfl
  refine WM_form (n := 0) rfl ?_
  rintro A46 c47 rfl m48
  refine wv (fun W hm => rv_field Try.underlying77 rfl Try.type26 (by decide) rfl rfl) ?_
  refine WM_storeBox (p := p43) (o := 0) (cs := [.slice none 0 0, .int .i64 0, .int .i64 0, .slice none 0 0, .slice none 0 0, .slice none 0 0, .slice none 0 0, .int .i64 0]) (cs' := [.slice A46 ((laws_toStore_m x0.Store).Segments).length c47, .int .i64 ((laws_toStore_m x0.Store).Now), .int .i64 0, .slice none 0 0, .slice none 0 0, .slice none 0 0, .slice none 0 0, .int .i64 0]) (js := [iOwn (tSl (tSl tyVersion 51) 102) [.slice A46 ((laws_toStore_m x0.Store).Segments).length c47] ((laws_toStore_m x0.Store).Segments), iBox p42 77 [.slice none 0 0, .int .i64 0, .int .i64 0, .slice none 0 0, .slice none 0 0, .slice none 0 0, .slice none 0 0, .int .i64 0], iBox p41 70 [.slice A12 x0.Store.Segments.length c13, .int .i64 x0.Store.Now, .int .i64 x0.Cursor, .slice A17 x0.Order.length c18, .slice A22 x0.Active.length c23, .slice A27 x0.Done.length c28, .slice A32 x0.Ledger.length c33, .int .i64 x0.Steps]]) (fun W hm => (hm.pick [1, 0, 2, 3] (by decide))) Try.type26 rfl (Nat.le_of_ble_eq_true rfl) rfl rfl rfl rfl (Wd_none rfl) ?_
  refine nt' ?_
  refine sr ?_
  refine wv (fun W hm => rv_field Try.underlying70 rfl Try.type3 (by decide) rfl rfl) ?_
  refine wv (fun W hm => rv_load Try.underlying3 rfl rfl (hm.boxCell (n := 3) (o := 2) rfl rfl)) ?_
  refine wv (fun W hm => rv_field Try.underlying77 rfl Try.type3 (by decide) rfl rfl) ?_
  refine WM_storeBox (p := p43) (o := 2) (cs := [.slice A46 ((laws_toStore_m x0.Store).Segments).length c47, .int .i64 ((laws_toStore_m x0.Store).Now), .int .i64 0, .slice none 0 0, .slice none 0 0, .slice none 0 0, .slice none 0 0, .int .i64 0]) (cs' := [.slice A46 ((laws_toStore_m x0.Store).Segments).length c47, .int .i64 ((laws_toStore_m x0.Store).Now), .int .i64 x0.Cursor, .slice none 0 0, .slice none 0 0, .slice none 0 0, .slice none 0 0, .int .i64 0]) (js := [iOwn (tSl (tSl tyVersion 51) 102) [.slice A46 ((laws_toStore_m x0.Store).Segments).length c47] ((laws_toStore_m x0.Store).Segments), iBox p42 77 [.slice none 0 0, .int .i64 0, .int .i64 0, .slice none 0 0, .slice none 0 0, .slice none 0 0, .slice none 0 0, .int .i64 0], iBox p41 70 [.slice A12 x0.Store.Segments.length c13, .int .i64 x0.Store.Now, .int .i64 x0.Cursor, .slice A17 x0.Order.length c18, .slice A22 x0.Active.length c23, .slice A27 x0.Done.length c28, .slice A32 x0.Ledger.length c33, .int .i64 x0.Steps]]) (fun W hm => hm) Try.type3 rfl (Nat.le_of_ble_eq_true rfl) rfl rfl rfl rfl (Wd_none rfl) ?_
  refine nt' ?_
  refine sr ?_
  refine wv (fun W hm => rv_field Try.underlying70 rfl Try.type27 (by decide) rfl rfl) ?_
  refine wv (fun W hm => rv_load Try.underlying27 rfl rfl (hm.boxCell (n := 3) (o := 3) rfl rfl)) ?_
  refine WM_call (χ := Value) (val := fun x => x) (js := fun x => [iOwn (tSl tInt 3) [x] (laws_toIntS_m x0.Order)]) (cl_fn cb109 rfl) (fun W hm => laws_toIntS_c W _ x0.Order (hm.rdS0 r20) s_0.2.1) (Wd_none rfl) (by decide) (fun z50 => ?_)
  refine WM_form (n := 0) rfl ?_
  rintro A51 c52 rfl m53
  refine wv (fun W hm => rv_field Try.underlying77 rfl Try.type27 (by decide) rfl rfl) ?_
  refine WM_storeBox (p := p43) (o := 3) (cs := [.slice A46 ((laws_toStore_m x0.Store).Segments).length c47, .int .i64 ((laws_toStore_m x0.Store).Now), .int .i64 x0.Cursor, .slice none 0 0, .slice none 0 0, .slice none 0 0, .slice none 0 0, .int .i64 0]) (cs' := [.slice A46 ((laws_toStore_m x0.Store).Segments).length c47, .int .i64 ((laws_toStore_m x0.Store).Now), .int .i64 x0.Cursor, .slice A51 (laws_toIntS_m x0.Order).length c52, .slice none 0 0, .slice none 0 0, .slice none 0 0, .int .i64 0]) (js := [iOwn (tSl tInt 3) [.slice A51 (laws_toIntS_m x0.Order).length c52] (laws_toIntS_m x0.Order), iOwn (tSl (tSl tyVersion 51) 102) [.slice A46 ((laws_toStore_m x0.Store).Segments).length c47] ((laws_toStore_m x0.Store).Segments), iBox p42 77 [.slice none 0 0, .int .i64 0, .int .i64 0, .slice none 0 0, .slice none 0 0, .slice none 0 0, .slice none 0 0, .int .i64 0], iBox p41 70 [.slice A12 x0.Store.Segments.length c13, .int .i64 x0.Store.Now, .int .i64 x0.Cursor, .slice A17 x0.Order.length c18, .slice A22 x0.Active.length c23, .slice A27 x0.Done.length c28, .slice A32 x0.Ledger.length c33, .int .i64 x0.Steps]]) (fun W hm => (hm.pick [1, 0, 2, 3, 4] (by decide))) Try.type27 rfl (Nat.le_of_ble_eq_true rfl) rfl rfl rfl rfl (Wd_none rfl) ?_
  refine nt' ?_
  refine sr ?_
  refine wv (fun W hm => rv_field Try.underlying70 rfl Try.type66 (by decide) rfl rfl) ?_
  refine wv (fun W hm => rv_load Try.underlying66 rfl rfl (hm.boxCell (n := 4) (o := 4) rfl rfl)) ?_
  refine WM_call (χ := Value) (val := fun x => x) (js := fun x => [iOwn (tSl tyActive 127) [x] (laws_toActiveS_m x0.Active)]) (cl_fn cb110 rfl) (fun W hm => laws_toActiveS_c W _ x0.Active (hm.rdS0 r25) s_0.2.2.1) (Wd_none rfl) (by decide) (fun z55 => ?_)
  refine WM_form (n := 0) rfl ?_
  rintro A56 c57 rfl m58
  refine wv (fun W hm => rv_field Try.underlying77 rfl Try.type73 (by decide) rfl rfl) ?_
  refine WM_storeBox (p := p43) (o := 4) (cs := [.slice A46 ((laws_toStore_m x0.Store).Segments).length c47, .int .i64 ((laws_toStore_m x0.Store).Now), .int .i64 x0.Cursor, .slice A51 (laws_toIntS_m x0.Order).length c52, .slice none 0 0, .slice none 0 0, .slice none 0 0, .int .i64 0]) (cs' := [.slice A46 ((laws_toStore_m x0.Store).Segments).length c47, .int .i64 ((laws_toStore_m x0.Store).Now), .int .i64 x0.Cursor, .slice A51 (laws_toIntS_m x0.Order).length c52, .slice A56 (laws_toActiveS_m x0.Active).length c57, .slice none 0 0, .slice none 0 0, .int .i64 0]) (js := [iOwn (tSl tyActive 127) [.slice A56 (laws_toActiveS_m x0.Active).length c57] (laws_toActiveS_m x0.Active), iOwn (tSl tInt 3) [.slice A51 (laws_toIntS_m x0.Order).length c52] (laws_toIntS_m x0.Order), iOwn (tSl (tSl tyVersion 51) 102) [.slice A46 ((laws_toStore_m x0.Store).Segments).length c47] ((laws_toStore_m x0.Store).Segments), iBox p42 77 [.slice none 0 0, .int .i64 0, .int .i64 0, .slice none 0 0, .slice none 0 0, .slice none 0 0, .slice none 0 0, .int .i64 0], iBox p41 70 [.slice A12 x0.Store.Segments.length c13, .int .i64 x0.Store.Now, .int .i64 x0.Cursor, .slice A17 x0.Order.length c18, .slice A22 x0.Active.length c23, .slice A27 x0.Done.length c28, .slice A32 x0.Ledger.length c33, .int .i64 x0.Steps]]) (fun W hm => (hm.pick [1, 0, 2, 3, 4, 5] (by decide))) Try.type73 rfl (Nat.le_of_ble_eq_true rfl) rfl rfl rfl rfl (Wd_none rfl) ?_
  refine nt' ?_
  refine sr ?_
  refine wv (fun W hm => rv_field Try.underlying70 rfl Try.type67 (by decide) rfl rfl) ?_
  refine wv (fun W hm => rv_load Try.underlying67 rfl rfl (hm.boxCell (n := 5) (o := 5) rfl rfl)) ?_
  refine WM_call (χ := Value) (val := fun x => x) (js := fun x => [iOwn (tSl tyFinished 136) [x] (laws_toFinishedS_m x0.Done)]) (cl_fn cb111 rfl) (fun W hm => laws_toFinishedS_c W _ x0.Done (hm.rdS0 r30) s_0.2.2.2.1) (Wd_none rfl) (by decide) (fun z60 => ?_)
  refine WM_form (n := 0) rfl ?_
  rintro A61 c62 rfl m63
  refine wv (fun W hm => rv_field Try.underlying77 rfl Try.type74 (by decide) rfl rfl) ?_
  refine WM_storeBox (p := p43) (o := 5) (cs := [.slice A46 ((laws_toStore_m x0.Store).Segments).length c47, .int .i64 ((laws_toStore_m x0.Store).Now), .int .i64 x0.Cursor, .slice A51 (laws_toIntS_m x0.Order).length c52, .slice A56 (laws_toActiveS_m x0.Active).length c57, .slice none 0 0, .slice none 0 0, .int .i64 0]) (cs' := [.slice A46 ((laws_toStore_m x0.Store).Segments).length c47, .int .i64 ((laws_toStore_m x0.Store).Now), .int .i64 x0.Cursor, .slice A51 (laws_toIntS_m x0.Order).length c52, .slice A56 (laws_toActiveS_m x0.Active).length c57, .slice A61 (laws_toFinishedS_m x0.Done).length c62, .slice none 0 0, .int .i64 0]) (js := [iOwn (tSl tyFinished 136) [.slice A61 (laws_toFinishedS_m x0.Done).length c62] (laws_toFinishedS_m x0.Done), iOwn (tSl tyActive 127) [.slice A56 (laws_toActiveS_m x0.Active).length c57] (laws_toActiveS_m x0.Active), iOwn (tSl tInt 3) [.slice A51 (laws_toIntS_m x0.Order).length c52] (laws_toIntS_m x0.Order), iOwn (tSl (tSl tyVersion 51) 102) [.slice A46 ((laws_toStore_m x0.Store).Segments).length c47] ((laws_toStore_m x0.Store).Segments), iBox p42 77 [.slice none 0 0, .int .i64 0, .int .i64 0, .slice none 0 0, .slice none 0 0, .slice none 0 0, .slice none 0 0, .int .i64 0], iBox p41 70 [.slice A12 x0.Store.Segments.length c13, .int .i64 x0.Store.Now, .int .i64 x0.Cursor, .slice A17 x0.Order.length c18, .slice A22 x0.Active.length c23, .slice A27 x0.Done.length c28, .slice A32 x0.Ledger.length c33, .int .i64 x0.Steps]]) (fun W hm => (hm.pick [1, 0, 2, 3, 4, 5, 6] (by decide))) Try.type74 rfl (Nat.le_of_ble_eq_true rfl) rfl rfl rfl rfl (Wd_none rfl) ?_
  refine nt' ?_
  refine sr ?_
  refine wv (fun W hm => rv_field Try.underlying70 rfl Try.type68 (by decide) rfl rfl) ?_
  refine wv (fun W hm => rv_load Try.underlying68 rfl rfl (hm.boxCell (n := 6) (o := 6) rfl rfl)) ?_
  refine WM_call (χ := Value) (val := fun x => x) (js := fun x => [iOwn (tSl tyCharge 140) [x] (laws_toChargeS_m x0.Ledger)]) (cl_fn cb112 rfl) (fun W hm => laws_toChargeS_c W _ x0.Ledger (hm.rdS0 r35) s_0.2.2.2.2) (Wd_none rfl) (by decide) (fun z65 => ?_)
  refine WM_form (n := 0) rfl ?_
  rintro A66 c67 rfl m68
  refine wv (fun W hm => rv_field Try.underlying77 rfl Try.type75 (by decide) rfl rfl) ?_
  refine WM_storeBox (p := p43) (o := 6) (cs := [.slice A46 ((laws_toStore_m x0.Store).Segments).length c47, .int .i64 ((laws_toStore_m x0.Store).Now), .int .i64 x0.Cursor, .slice A51 (laws_toIntS_m x0.Order).length c52, .slice A56 (laws_toActiveS_m x0.Active).length c57, .slice A61 (laws_toFinishedS_m x0.Done).length c62, .slice none 0 0, .int .i64 0]) (cs' := [.slice A46 ((laws_toStore_m x0.Store).Segments).length c47, .int .i64 ((laws_toStore_m x0.Store).Now), .int .i64 x0.Cursor, .slice A51 (laws_toIntS_m x0.Order).length c52, .slice A56 (laws_toActiveS_m x0.Active).length c57, .slice A61 (laws_toFinishedS_m x0.Done).length c62, .slice A66 (laws_toChargeS_m x0.Ledger).length c67, .int .i64 0]) (js := [iOwn (tSl tyCharge 140) [.slice A66 (laws_toChargeS_m x0.Ledger).length c67] (laws_toChargeS_m x0.Ledger), iOwn (tSl tyFinished 136) [.slice A61 (laws_toFinishedS_m x0.Done).length c62] (laws_toFinishedS_m x0.Done), iOwn (tSl tyActive 127) [.slice A56 (laws_toActiveS_m x0.Active).length c57] (laws_toActiveS_m x0.Active), iOwn (tSl tInt 3) [.slice A51 (laws_toIntS_m x0.Order).length c52] (laws_toIntS_m x0.Order), iOwn (tSl (tSl tyVersion 51) 102) [.slice A46 ((laws_toStore_m x0.Store).Segments).length c47] ((laws_toStore_m x0.Store).Segments), iBox p42 77 [.slice none 0 0, .int .i64 0, .int .i64 0, .slice none 0 0, .slice none 0 0, .slice none 0 0, .slice none 0 0, .int .i64 0], iBox p41 70 [.slice A12 x0.Store.Segments.length c13, .int .i64 x0.Store.Now, .int .i64 x0.Cursor, .slice A17 x0.Order.length c18, .slice A22 x0.Active.length c23, .slice A27 x0.Done.length c28, .slice A32 x0.Ledger.length c33, .int .i64 x0.Steps]]) (fun W hm => (hm.pick [1, 0, 2, 3, 4, 5, 6, 7] (by decide))) Try.type75 rfl (Nat.le_of_ble_eq_true rfl) rfl rfl rfl rfl (Wd_none rfl) ?_
  refine nt' ?_
  refine sr ?_
  refine wv (fun W hm => rv_field Try.underlying70 rfl Try.type3 (by decide) rfl rfl) ?_
  refine wv (fun W hm => rv_load Try.underlying3 rfl rfl (hm.boxCell (n := 7) (o := 7) rfl rfl)) ?_
  refine wv (fun W hm => rv_field Try.underlying77 rfl Try.type3 (by decide) rfl rfl) ?_
  refine WM_storeBox (p := p43) (o := 7) (cs := [.slice A46 ((laws_toStore_m x0.Store).Segments).length c47, .int .i64 ((laws_toStore_m x0.Store).Now), .int .i64 x0.Cursor, .slice A51 (laws_toIntS_m x0.Order).length c52, .slice A56 (laws_toActiveS_m x0.Active).length c57, .slice A61 (laws_toFinishedS_m x0.Done).length c62, .slice A66 (laws_toChargeS_m x0.Ledger).length c67, .int .i64 0]) (cs' := [.slice A46 ((laws_toStore_m x0.Store).Segments).length c47, .int .i64 ((laws_toStore_m x0.Store).Now), .int .i64 x0.Cursor, .slice A51 (laws_toIntS_m x0.Order).length c52, .slice A56 (laws_toActiveS_m x0.Active).length c57, .slice A61 (laws_toFinishedS_m x0.Done).length c62, .slice A66 (laws_toChargeS_m x0.Ledger).length c67, .int .i64 x0.Steps]) (js := [iOwn (tSl tyCharge 140) [.slice A66 (laws_toChargeS_m x0.Ledger).length c67] (laws_toChargeS_m x0.Ledger), iOwn (tSl tyFinished 136) [.slice A61 (laws_toFinishedS_m x0.Done).length c62] (laws_toFinishedS_m x0.Done), iOwn (tSl tyActive 127) [.slice A56 (laws_toActiveS_m x0.Active).length c57] (laws_toActiveS_m x0.Active), iOwn (tSl tInt 3) [.slice A51 (laws_toIntS_m x0.Order).length c52] (laws_toIntS_m x0.Order), iOwn (tSl (tSl tyVersion 51) 102) [.slice A46 ((laws_toStore_m x0.Store).Segments).length c47] ((laws_toStore_m x0.Store).Segments), iBox p42 77 [.slice none 0 0, .int .i64 0, .int .i64 0, .slice none 0 0, .slice none 0 0, .slice none 0 0, .slice none 0 0, .int .i64 0], iBox p41 70 [.slice A12 x0.Store.Segments.length c13, .int .i64 x0.Store.Now, .int .i64 x0.Cursor, .slice A17 x0.Order.length c18, .slice A22 x0.Active.length c23, .slice A27 x0.Done.length c28, .slice A32 x0.Ledger.length c33, .int .i64 x0.Steps]]) (fun W hm => hm) Try.type3 rfl (Nat.le_of_ble_eq_true rfl) rfl rfl rfl rfl (Wd_none rfl) ?_
  refine nt' ?_
  refine sr ?_
  refine wv (fun W hm => rv_loadN (cs := [.slice A46 ((laws_toStore_m x0.Store).Segments).length c47, .int .i64 ((laws_toStore_m x0.Store).Now), .int .i64 x0.Cursor, .slice A51 (laws_toIntS_m x0.Order).length c52, .slice A56 (laws_toActiveS_m x0.Active).length c57, .slice A61 (laws_toFinishedS_m x0.Done).length c62, .slice A66 (laws_toChargeS_m x0.Ledger).length c67, .int .i64 x0.Steps]) Try.underlying77 Try.type77 rfl rfl (hm.boxCells (n := 0) rfl)) ?_
  refine WM_storeBox (p := p42) (o := 0) (cs := [.slice none 0 0, .int .i64 0, .int .i64 0, .slice none 0 0, .slice none 0 0, .slice none 0 0, .slice none 0 0, .int .i64 0]) (cs' := [.slice A46 ((laws_toStore_m x0.Store).Segments).length c47, .int .i64 ((laws_toStore_m x0.Store).Now), .int .i64 x0.Cursor, .slice A51 (laws_toIntS_m x0.Order).length c52, .slice A56 (laws_toActiveS_m x0.Active).length c57, .slice A61 (laws_toFinishedS_m x0.Done).length c62, .slice A66 (laws_toChargeS_m x0.Ledger).length c67, .int .i64 x0.Steps]) (js := [iBox p43 77 [.slice A46 ((laws_toStore_m x0.Store).Segments).length c47, .int .i64 ((laws_toStore_m x0.Store).Now), .int .i64 x0.Cursor, .slice A51 (laws_toIntS_m x0.Order).length c52, .slice A56 (laws_toActiveS_m x0.Active).length c57, .slice A61 (laws_toFinishedS_m x0.Done).length c62, .slice A66 (laws_toChargeS_m x0.Ledger).length c67, .int .i64 x0.Steps], iOwn (tSl tyCharge 140) [.slice A66 (laws_toChargeS_m x0.Ledger).length c67] (laws_toChargeS_m x0.Ledger), iOwn (tSl tyFinished 136) [.slice A61 (laws_toFinishedS_m x0.Done).length c62] (laws_toFinishedS_m x0.Done), iOwn (tSl tyActive 127) [.slice A56 (laws_toActiveS_m x0.Active).length c57] (laws_toActiveS_m x0.Active), iOwn (tSl tInt 3) [.slice A51 (laws_toIntS_m x0.Order).length c52] (laws_toIntS_m x0.Order), iOwn (tSl (tSl tyVersion 51) 102) [.slice A46 ((laws_toStore_m x0.Store).Segments).length c47] ((laws_toStore_m x0.Store).Segments), iBox p41 70 [.slice A12 x0.Store.Segments.length c13, .int .i64 x0.Store.Now, .int .i64 x0.Cursor, .slice A17 x0.Order.length c18, .slice A22 x0.Active.length c23, .slice A27 x0.Done.length c28, .slice A32 x0.Ledger.length c33, .int .i64 x0.Steps]]) (fun W hm => (hm.pick [6, 0, 1, 2, 3, 4, 5, 7] (by decide))) Try.type77 rfl (Nat.le_of_ble_eq_true rfl) rfl rfl rfl rfl (Wd_none rfl) ?_
  refine nt' ?_
  refine CM_ret ?_
  refine QM_r1 rfl (RR_cell (n := 0) rfl rfl Try.underlying77 Try.type77 rfl) (fun W hm => ⟨[.slice A46 ((laws_toStore_m x0.Store).Segments).length c47, .int .i64 ((laws_toStore_m x0.Store).Now), .int .i64 x0.Cursor, .slice A51 (laws_toIntS_m x0.Order).length c52, .slice A56 (laws_toActiveS_m x0.Active).length c57, .slice A61 (laws_toFinishedS_m x0.Done).length c62, .slice A66 (laws_toChargeS_m x0.Ledger).length c67, .int .i64 x0.Steps], ?_, ?_⟩)
  · first | rw [(show laws_toEngine_m x0 = (⟨(laws_toStore_m x0.Store), x0.Cursor, (laws_toIntS_m x0.Order), (laws_toActiveS_m x0.Active), (laws_toFinishedS_m x0.Done), (laws_toChargeS_m x0.Ledger), x0.Steps⟩ : DEngine) from by unfold laws_toEngine_m; exact rfl)] | rfl
  · rw [(show laws_toEngine_m x0 = (⟨(laws_toStore_m x0.Store), x0.Cursor, (laws_toIntS_m x0.Order), (laws_toActiveS_m x0.Active), (laws_toFinishedS_m x0.Done), (laws_toChargeS_m x0.Ledger), x0.Steps⟩ : DEngine) from by unfold laws_toEngine_m; exact rfl)]; exact Mem.join (is := [iOwn (tSl (tSl tyVersion 51) 102) [.slice A46 ((laws_toStore_m x0.Store).Segments).length c47] ((laws_toStore_m x0.Store).Segments), iOwn (tSl tInt 3) [.slice A51 (laws_toIntS_m x0.Order).length c52] (laws_toIntS_m x0.Order), iOwn (tSl tyActive 127) [.slice A56 (laws_toActiveS_m x0.Active).length c57] (laws_toActiveS_m x0.Active), iOwn (tSl tyFinished 136) [.slice A61 (laws_toFinishedS_m x0.Done).length c62] (laws_toFinishedS_m x0.Done), iOwn (tSl tyCharge 140) [.slice A66 (laws_toChargeS_m x0.Ledger).length c67] (laws_toChargeS_m x0.Ledger)]) (js := []) (fun _ _ hs => tyEngine_join (x := (⟨(laws_toStore_m x0.Store), x0.Cursor, (laws_toIntS_m x0.Order), (laws_toActiveS_m x0.Active), (laws_toFinishedS_m x0.Done), (laws_toChargeS_m x0.Ledger), x0.Steps⟩ : DEngine)) hs) (hm.pick [6, 5, 4, 3, 2] (by decide))

def spec_l1In_m (x0 : Int) (x1 : Int) (x2 : Int) : Bool :=
  cond (decide (x1 ≤ x0)) (decide (x0 ≤ x2)) false
set_option maxRecDepth 100000 in
theorem cb86 : Cb Try.prog 86 := ⟨Try.f86, _, Try.func86, rfl, by decide⟩
set_option maxRecDepth 10000 in
set_option maxHeartbeats 4000000 in
theorem spec_l1In_c (w : World) (x0 : Int) (x1 : Int) (x2 : Int) :
    Calls Try.prog 86 #[.int .i64 x0, .int .i64 x1, .int .i64 x2] w fun e w' => e = .returned (.bool (spec_l1In_m x0 x1 x2)) ∧ Below w.heap.size w w' := by
  refine call_enterM (L := [(0, .int .i64 x0), (1, .int .i64 x1), (2, .int .i64 x2)]) (N := 15) Try.func86 rfl rfl (Nat.le_of_ble_eq_true rfl) (argsL_cons rfl (argsL_cons rfl (argsL_cons rfl argsL_nil))) ?_
  refine sr ?_
  refine wa ?_
  refine nt' ?_
  refine sr ?_
  refine wm ?_
  refine wm ?_
  refine wv (fun W hm => rv_geq rfl rfl) ?_
  refine wm ?_
  by_cases h1 : x1 ≤ x0
  · have g2 : (decide (x1 ≤ x0)) = true := decide_eq_true h1
    refine wg (fun W hm => rv_move rfl) g2 ?_
    refine wg (fun W hm => rv_move rfl) g2 ?_
    refine wg (fun W hm => rv_leq rfl rfl) g2 ?_
    refine wv (fun W hm => rv_pickT rfl g2 rfl) ?_
    refine wa ?_
    refine nt' ?_
    refine CM_ret ?_
    exact QM_ret1 rfl rfl (fun W hm => ⟨ret_b (show spec_l1In_m x0 x1 x2 = (decide (x0 ≤ x2)) from by unfold spec_l1In_m; exact cond_t g2 (rfl)), hm.below⟩)
  · have g2 : (decide (x1 ≤ x0)) = false := decide_eq_false h1
    refine ws g2 ?_
    refine ws g2 ?_
    refine ws g2 ?_
    refine wv (fun W hm => rv_pickF rfl g2 rfl) ?_
    refine wa ?_
    refine nt' ?_
    refine CM_ret ?_
    exact QM_ret1 rfl rfl (fun W hm => ⟨ret_b (show spec_l1In_m x0 x1 x2 = false from by unfold spec_l1In_m; exact cond_f g2 (rfl)), hm.below⟩)

theorem spec_l1In_fact {x a b : Int} (h : spec_l1In_m x a b = true) : a ≤ x ∧ x ≤ b := by
  unfold spec_l1In_m at h
  by_cases h1 : a ≤ x
  · rw [decide_eq_true h1] at h
    exact ⟨h1, of_decide_eq_true h⟩
  · rw [decide_eq_false h1] at h
    cases h
theorem spec_l1In_iff (x a b : Int) : spec_l1In_m x a b = decide (a ≤ x ∧ x ≤ b) := by
  unfold spec_l1In_m
  by_cases h1 : a ≤ x
  · by_cases h2 : x ≤ b
    · simp [h1, h2]
    · simp [h1, h2]
  · simp [h1]

def spec_l7All_b1 (x0 : DStore) (k12 : Nat) (d13 : (List DVersion)) : (List DVersion) ⊕ ((List DVersion)) :=
  Sum.inr (d13 ++ (gt x0.Segments k12))
def spec_l7All_m (x0 : DStore) : (List DVersion) :=
  Sum.elim id (fun (s : (List DVersion)) => s) (rng (R := (List DVersion)) (fun k (s : (List DVersion)) => spec_l7All_b1 x0 k s) (x0.Segments.length - 0) 0 [])
set_option maxRecDepth 100000 in
theorem cb87 : Cb Try.prog 87 := ⟨Try.f87, _, Try.func87, rfl, by decide⟩
set_option maxRecDepth 10000 in
set_option maxHeartbeats 4000000 in
theorem spec_l7All_c (B : Nat) (w0 : World) (is : List It) (w : World) (z0 : List Value) (x0 : DStore) (r_0 : tyStore.rd w0 B z0 x0) (s_0 : smStore 68719476736 x0) (hq : (x0.Segments.map List.length).sum ≤ 68719476736) (hm : Mem B w0 is w) :
    Calls Try.prog 87 #[.agg z0.toArray] w fun e w' => ∃ v : Value, e = .returned (v) ∧ Mem B w0 (iOwn (tSl (tBor tyVersion w0 B) 51) [v] (spec_l7All_m x0) :: is) w' := by
  obtain ⟨v1, rfl, r2⟩ := tyStore_rd r_0
  have r7 := r2
  obtain ⟨m3, A4, c5, rfl, q6⟩ := r2
  have l8 : x0.Segments.length ≤ 68719476736 := s_0.1
  refine call_enterW (L := [(0, .agg #[.slice A4 x0.Segments.length c5, .int .i64 x0.Now])]) (N := 21) Try.func87 rfl rfl (Nat.le_of_ble_eq_true rfl) (argsL_cons rfl argsL_nil) hm ?_
  refine sr ?_
  refine WM_box rfl (Wd_none rfl) (by decide) (fun p9 => ?_)
  refine wa ?_
  refine nt' ?_
  refine sr ?_
  refine WM_build0 (E := (tBor tyVersion w0 B)) Try.underlying102 Try.type51 (Wd_none rfl) (by decide) (fun p10 => ?_)
  refine wa ?_
  refine nt' ?_
  refine CM_seq ?_
  refine sr ?_
  refine wa ?_
  refine nt' ?_
  refine CM_block ?_
  refine CM_loop (σ := Nat × ((List DVersion)) × (Option Addr × Nat)) (fun s => [(1, .pointer (some (⟨p9, 0, none⟩ : Addr))), (3, .slice s.2.2.1 s.2.1.length s.2.2.2), (4, .int .i64 ((s.1 : Nat) : Int))]) (fun s => (iOwn (tSl (tBor tyVersion w0 B) 51) [.slice s.2.2.1 s.2.1.length s.2.2.2] s.2.1 :: iBox p9 26 [.slice A4 x0.Segments.length c5, .int .i64 x0.Now] :: is)) (fun s => s.1 ≤ x0.Segments.length ∧ rng (R := (List DVersion)) (fun k (s : (List DVersion)) => spec_l7All_b1 x0 k s) (x0.Segments.length - s.1) s.1 s.2.1 = rng (R := (List DVersion)) (fun k (s : (List DVersion)) => spec_l7All_b1 x0 k s) (x0.Segments.length - 0) 0 [] ∧ s.2.1.length ≤ ((x0.Segments.take s.1).map List.length).sum) (fun s => x0.Segments.length - s.1) (0, [], ((some ⟨p10, 0, none⟩), 0)) (subL_cons rfl (subL_cons rfl (subL_cons rfl subL_nil))) (fun W hm => hm) ⟨(by omega), rfl, Nat.zero_le _⟩ ?_
  rintro ⟨k12, d13, ⟨A14, c15⟩⟩ H18
  obtain ⟨hk16, hF17, hi19⟩ : k12 ≤ x0.Segments.length ∧ rng (R := (List DVersion)) (fun k (s : (List DVersion)) => spec_l7All_b1 x0 k s) (x0.Segments.length - k12) k12 d13 = rng (R := (List DVersion)) (fun k (s : (List DVersion)) => spec_l7All_b1 x0 k s) (x0.Segments.length - 0) 0 [] ∧ d13.length ≤ ((x0.Segments.take k12).map List.length).sum := H18
  show CM Try.prog 21 _ _ _ _ [(1, .pointer (some (⟨p9, 0, none⟩ : Addr))), (3, .slice A14 d13.length c15), (4, .int .i64 ((k12 : Nat) : Int))] (iOwn (tSl (tBor tyVersion w0 B) 51) [.slice A14 d13.length c15] d13 :: iBox p9 26 [.slice A4 x0.Segments.length c5, .int .i64 x0.Now] :: is)
  refine CM_seq ?_
  refine sr ?_
  refine wm ?_
  refine wv (fun W hm => rv_field Try.underlying26 rfl Try.type24 (by decide) rfl rfl) ?_
  refine wv (fun W hm => rv_load Try.underlying24 rfl rfl (hm.boxCell (n := 1) (o := 0) rfl rfl)) ?_
  refine wv (fun W hm => rv_len Try.underlying24 rfl) ?_
  refine wv (fun W hm => rv_lss rfl rfl) ?_
  refine nt' ?_
  by_cases hl20 : k12 < x0.Segments.length
  · have g21 : (decide (((k12 : Nat) : Int) < ((x0.Segments.length : Nat) : Int))) = true := decide_eq_true (by omega)
    refine CM_condT rfl g21 ?_
    refine CM_skip ?_
    refine QM_then ?_
    refine CM_seq ?_
    refine CM_block ?_
    refine CM_region ?_
    refine wm ?_
    refine wv (fun W hm => rv_field Try.underlying26 rfl Try.type24 (by decide) rfl rfl) ?_
    refine wv (fun W hm => rv_load Try.underlying24 rfl rfl (hm.boxCell (n := 1) (o := 0) rfl rfl)) ?_
    refine wm ?_
    obtain ⟨a22, rfl, hb23, he24⟩ := q6 (by omega)
    refine wv (fun W hm => rv_index (sz := 1) (k := k12) Try.underlying24 Try.type102 rfl rfl rfl (by omega)) ?_
    obtain ⟨_, e26, hc25⟩ := he24 k12 _ (gt_some (show k12 < x0.Segments.length from by omega))
    have l27 : (gt x0.Segments k12).length ≤ 68719476736 := (s_0.2 _ (gt_mem (show k12 < x0.Segments.length from by omega))).1
    obtain ⟨v28, rfl, r29⟩ := e26
    have r34 := r29
    obtain ⟨m30, A31, c32, rfl, q33⟩ := r29
    refine wv (fun W hm => rv_load Try.underlying102 rfl rfl ((hm.cell0 (show (a22.add (k12 * 1)).block < B from by rw [add_block]; exact hb23.1)).trans (hc25 0 _ rfl))) ?_
    refine WM_appendR (F := (tBor tyVersion w0 B)) (E := tyVersion) (e := 51) (v := .slice A14 d13.length c15) (xs := d13) (ys := (gt x0.Segments k12)) (js := (iBox p9 26 [.slice (some a22) x0.Segments.length c5, .int .i64 x0.Now] :: is)) (fun W hm => (hm.front (n := 0) rfl)) (fun W hm => src_bor hm r34) Try.underlying102 Try.type51 rfl rfl rfl (Nat.le_of_ble_eq_true rfl) rfl rfl (show (d13.length + (gt x0.Segments k12).length) * 48 ≤ 140737488355328 from by have h1 := sum_take_succ (w := List.length) (xs := x0.Segments) (j := k12) (by omega); have h2 := sum_take_le (w := List.length) (xs := x0.Segments) (k12 + 1); omega) (show d13.length + (gt x0.Segments k12).length ≤ 9223372036854775807 from by have h1 := sum_take_succ (w := List.length) (xs := x0.Segments) (j := k12) (by omega); have h2 := sum_take_le (w := List.length) (xs := x0.Segments) (k12 + 1); omega) (Wd_none rfl) (by decide) (fun v35 => ?_)
    refine WM_form (n := 0) rfl ?_
    rintro A36 c37 rfl m38
    refine wa ?_
    refine WM_nil ?_
    refine QM_block_normal ?_
    refine QM_then ?_
    refine CM_region ?_
    refine wm ?_
    refine wv (fun W hm => rv_addN (p := k12) (q := 1) rfl rfl (by omega)) ?_
    refine wa ?_
    refine WM_nil ?_
    have hn40 := rng_next (R := (List DVersion)) (body := (fun k (s : (List DVersion)) => spec_l7All_b1 x0 k s)) (k := k12) (s := d13) (s' := (d13 ++ (gt x0.Segments k12))) (show k12 < x0.Segments.length from by omega) (show spec_l7All_b1 x0 k12 d13 = Sum.inr (d13 ++ (gt x0.Segments k12)) from by unfold spec_l7All_b1; exact rfl) hF17
    exact QM_round (k12 + 1, (d13 ++ (gt x0.Segments k12)), (A36, c37)) (subL_cons rfl (subL_cons rfl (subL_cons rfl subL_nil))) (fun W hm => hm) ⟨(by omega), hn40, (show (d13 ++ (gt x0.Segments k12)).length ≤ ((x0.Segments.take (k12 + 1)).map List.length).sum from by rw [List.length_append, sum_take_succ (by omega)]; omega)⟩ (show x0.Segments.length - (k12 + 1) < x0.Segments.length - k12 from by omega)
  · have g21 : (decide (((k12 : Nat) : Int) < ((x0.Segments.length : Nat) : Int))) = false := decide_eq_false (by omega)
    refine CM_condF rfl g21 ?_
    refine CM_exit ?_
    refine QM_then_exit ?_
    refine QM_then_exit ?_
    have hE41 : rng (R := (List DVersion)) (fun k (s : (List DVersion)) => spec_l7All_b1 x0 k s) (x0.Segments.length - 0) 0 [] = Sum.inr d13 := rng_end hl20 hF17
    refine QM_block_hit ?_
    refine QM_then ?_
    refine sr ?_
    refine wm ?_
    refine wa ?_
    refine nt' ?_
    refine CM_ret ?_
    refine QM_r1 rfl (RR_tmp rfl) (fun W hm => ⟨.slice A14 d13.length c15, ?_, ?_⟩)
    · first | rw [(show spec_l7All_m x0 = d13 from by unfold spec_l7All_m; exact fin_inr hE41 (rfl))] | rfl
    · rw [(show spec_l7All_m x0 = d13 from by unfold spec_l7All_m; exact fin_inr hE41 (rfl))]; exact ((hm.front (n := 0) rfl).front (n := 1) rfl).tail

def spec_IsRow_b1 (x0 : DRow) (k9 : Nat) : Bool ⊕ (Unit) :=
  cond (spec_l1In_m (gt x0.Values k9) 0 99) (Sum.inr ()) (Sum.inl false)
def spec_IsRow_m (x0 : DRow) : Bool :=
  Sum.elim id (fun (s : Unit) => cond (spec_l1In_m x0.Id 0 999) (((x0.Values.length : Nat) : Int) == 3) false) (rng (R := Bool) (fun k (_ : Unit) => spec_IsRow_b1 x0 k) (x0.Values.length - 0) 0 ())
set_option maxRecDepth 100000 in
theorem cb154 : Cb Try.prog 154 := ⟨Try.f154, _, Try.func154, rfl, by decide⟩
set_option maxRecDepth 10000 in
set_option maxHeartbeats 4000000 in
theorem spec_IsRow_c (w : World) (z0 : List Value) (x0 : DRow) (r_0 : tyRow.rd w w.heap.size z0 x0) :
    Calls Try.prog 154 #[.agg z0.toArray] w fun e w' => e = .returned (.bool (spec_IsRow_m x0)) ∧ Below w.heap.size w w' := by
  obtain ⟨v1, rfl, r2⟩ := tyRow_rd r_0
  have r7 := r2
  obtain ⟨m3, A4, c5, rfl, q6⟩ := r2
  refine call_enterM (L := [(0, .agg #[.int .i64 x0.Id, .slice A4 x0.Values.length c5])]) (N := 27) Try.func154 rfl rfl (Nat.le_of_ble_eq_true rfl) (argsL_cons rfl argsL_nil) ?_
  refine sr ?_
  refine WM_box rfl (Wd_none rfl) (by decide) (fun p8 => ?_)
  refine wa ?_
  refine nt' ?_
  refine CM_seq ?_
  refine sr ?_
  refine wa ?_
  refine nt' ?_
  refine CM_block ?_
  refine CM_loop (σ := Nat × (Unit) × (Unit)) (fun s => [(1, .pointer (some (⟨p8, 0, none⟩ : Addr))), (3, .int .i64 ((s.1 : Nat) : Int))]) (fun s => [iBox p8 29 [.int .i64 x0.Id, .slice A4 x0.Values.length c5]]) (fun s => s.1 ≤ x0.Values.length ∧ rng (R := Bool) (fun k (_ : Unit) => spec_IsRow_b1 x0 k) (x0.Values.length - s.1) s.1 s.2.1 = rng (R := Bool) (fun k (_ : Unit) => spec_IsRow_b1 x0 k) (x0.Values.length - 0) 0 ()) (fun s => x0.Values.length - s.1) (0, (), ()) (subL_cons rfl (subL_cons rfl subL_nil)) (fun W hm => hm) ⟨(by omega), rfl⟩ ?_
  rintro ⟨k9, ⟨⟩, ⟨⟩⟩ H12
  obtain ⟨hk10, hF11⟩ : k9 ≤ x0.Values.length ∧ rng (R := Bool) (fun k (_ : Unit) => spec_IsRow_b1 x0 k) (x0.Values.length - k9) k9 () = rng (R := Bool) (fun k (_ : Unit) => spec_IsRow_b1 x0 k) (x0.Values.length - 0) 0 () := H12
  show CM Try.prog 27 _ _ _ _ [(1, .pointer (some (⟨p8, 0, none⟩ : Addr))), (3, .int .i64 ((k9 : Nat) : Int))] [iBox p8 29 [.int .i64 x0.Id, .slice A4 x0.Values.length c5]]
  refine CM_seq ?_
  refine sr ?_
  refine wm ?_
  refine wv (fun W hm => rv_field Try.underlying29 rfl Try.type27 (by decide) rfl rfl) ?_
  refine wv (fun W hm => rv_load Try.underlying27 rfl rfl (hm.boxCell (n := 0) (o := 1) rfl rfl)) ?_
  refine wv (fun W hm => rv_len Try.underlying27 rfl) ?_
  refine wv (fun W hm => rv_lss rfl rfl) ?_
  refine nt' ?_
  by_cases hl13 : k9 < x0.Values.length
  · have g14 : (decide (((k9 : Nat) : Int) < ((x0.Values.length : Nat) : Int))) = true := decide_eq_true (by omega)
    refine CM_condT rfl g14 ?_
    refine CM_skip ?_
    refine QM_then ?_
    refine CM_seq ?_
    refine CM_block ?_
    refine sr ?_
    refine wv (fun W hm => rv_field Try.underlying29 rfl Try.type27 (by decide) rfl rfl) ?_
    refine wv (fun W hm => rv_load Try.underlying27 rfl rfl (hm.boxCell (n := 0) (o := 1) rfl rfl)) ?_
    refine wm ?_
    obtain ⟨a15, rfl, hb16, he17⟩ := q6 (by omega)
    refine wv (fun W hm => rv_index (sz := 1) (k := k9) Try.underlying27 Try.type3 rfl rfl rfl (by omega)) ?_
    refine wv (fun W hm => rv_load Try.underlying3 rfl rfl ((hm.cell0 (show (a15.add (k9 * 1)).block < w.heap.size from by rw [add_block]; exact hb16.1)).trans (rdS_int he17 k9 (by omega)))) ?_
    refine WM_callV (cl_fn cb86 rfl) (fun W hm => spec_l1In_c W (gt x0.Values k9) 0 99) (Wd_none rfl) (by decide) ?_
    refine wv (fun W hm => rv_not rfl) ?_
    refine nt' ?_
    rcases Bool.eq_false_or_eq_true (spec_l1In_m (gt x0.Values k9) 0 99) with g19 | g19
    ·
      have hw := spec_l1In_fact g19
      refine CM_condF rfl (nt g19) ?_
      refine CM_skip ?_
      refine QM_block_normal ?_
      refine QM_then ?_
      refine CM_region ?_
      refine wm ?_
      refine wv (fun W hm => rv_addN (p := k9) (q := 1) rfl rfl (by omega)) ?_
      refine wa ?_
      refine WM_nil ?_
      have hn20 := rng_next (R := Bool) (body := (fun k (_ : Unit) => spec_IsRow_b1 x0 k)) (k := k9) (s := ()) (s' := ()) (show k9 < x0.Values.length from by omega) (show spec_IsRow_b1 x0 k9 = Sum.inr () from by unfold spec_IsRow_b1; exact cond_t g19 (rfl)) hF11
      exact QM_round (k9 + 1, (), ()) (subL_cons rfl (subL_cons rfl subL_nil)) (fun W hm => hm) ⟨(by omega), hn20⟩ (show x0.Values.length - (k9 + 1) < x0.Values.length - k9 from by omega)
    ·
      refine CM_condT rfl (nf g19) ?_
      refine sr ?_
      refine wa ?_
      refine nt' ?_
      refine CM_ret ?_
      refine QM_block_ret ?_
      refine QM_then_ret ?_
      refine QM_then_ret ?_
      refine QM_block_ret ?_
      refine QM_then_ret ?_
      exact QM_ret1 rfl rfl (fun W hm => ⟨ret_b (show spec_IsRow_m x0 = false from by unfold spec_IsRow_m; exact fin_inl (rng_ret (body := (fun k (_ : Unit) => spec_IsRow_b1 x0 k)) (k := k9) (s := ()) (show k9 < x0.Values.length from by omega) (show spec_IsRow_b1 x0 k9 = Sum.inl false from by unfold spec_IsRow_b1; exact cond_f g19 (rfl)) hF11) rfl), hm.below⟩)
  · have g14 : (decide (((k9 : Nat) : Int) < ((x0.Values.length : Nat) : Int))) = false := decide_eq_false (by omega)
    refine CM_condF rfl g14 ?_
    refine CM_exit ?_
    refine QM_then_exit ?_
    refine QM_then_exit ?_
    have hE21 : rng (R := Bool) (fun k (_ : Unit) => spec_IsRow_b1 x0 k) (x0.Values.length - 0) 0 () = Sum.inr () := rng_end hl13 hF11
    refine QM_block_hit ?_
    refine QM_then ?_
    refine sr ?_
    refine wv (fun W hm => rv_field Try.underlying29 rfl Try.type3 (by decide) rfl rfl) ?_
    refine wv (fun W hm => rv_load Try.underlying3 rfl rfl (hm.boxCell (n := 0) (o := 0) rfl rfl)) ?_
    refine WM_callV (cl_fn cb86 rfl) (fun W hm => spec_l1In_c W x0.Id 0 999) (Wd_none rfl) (by decide) ?_
    refine wm ?_
    rcases Bool.eq_false_or_eq_true (spec_l1In_m x0.Id 0 999) with g23 | g23
    ·
      have hw := spec_l1In_fact g23
      refine wg (fun W hm => rv_field Try.underlying29 rfl Try.type27 (by decide) rfl rfl) g23 ?_
      refine wg (fun W hm => rv_load Try.underlying27 rfl rfl (hm.boxCell (n := 0) (o := 1) rfl rfl)) g23 ?_
      refine wg (fun W hm => rv_len Try.underlying27 rfl) g23 ?_
      refine wg (fun W hm => rv_eql rfl rfl) g23 ?_
      refine wv (fun W hm => rv_pickT rfl g23 rfl) ?_
      refine wa ?_
      refine nt' ?_
      refine CM_ret ?_
      exact QM_ret1 rfl rfl (fun W hm => ⟨ret_b (show spec_IsRow_m x0 = (((x0.Values.length : Nat) : Int) == 3) from by unfold spec_IsRow_m; exact fin_inr hE21 (cond_t g23 (rfl))), hm.below⟩)
    ·
      refine ws g23 ?_
      refine ws g23 ?_
      refine ws g23 ?_
      refine ws g23 ?_
      refine wv (fun W hm => rv_pickF rfl g23 rfl) ?_
      refine wa ?_
      refine nt' ?_
      refine CM_ret ?_
      exact QM_ret1 rfl rfl (fun W hm => ⟨ret_b (show spec_IsRow_m x0 = false from by unfold spec_IsRow_m; exact fin_inr hE21 (cond_f g23 (rfl))), hm.below⟩)

def spec_l7Version_m (x0 : DVersion) (x1 : Int) : Bool :=
  cond (spec_IsRow_m (⟨x0.Id, x0.Values⟩ : DRow)) (cond (spec_l1In_m x0.Born 0 x1) (cond (x0.Died == (-1)) true (spec_l1In_m x0.Died (IntKind.i64.wrap (x0.Born + 1)) x1)) false) false
set_option maxRecDepth 100000 in
theorem cb88 : Cb Try.prog 88 := ⟨Try.f88, _, Try.func88, rfl, by decide⟩
set_option maxRecDepth 10000 in
set_option maxHeartbeats 4000000 in
theorem spec_l7Version_c (w : World) (z0 : List Value) (x0 : DVersion) (x1 : Int) (r_0 : tyVersion.rd w w.heap.size z0 x0) :
    Calls Try.prog 88 #[.agg z0.toArray, .int .i64 x1] w fun e w' => e = .returned (.bool (spec_l7Version_m x0 x1)) ∧ Below w.heap.size w w' := by
  obtain ⟨v1, rfl, r2⟩ := tyVersion_rd r_0
  have r7 := r2
  obtain ⟨m3, A4, c5, rfl, q6⟩ := r2
  refine call_enterM (L := [(0, .agg #[.int .i64 x0.Id, .slice A4 x0.Values.length c5, .int .i64 x0.Born, .int .i64 x0.Died]), (1, .int .i64 x1)]) (N := 31) Try.func88 rfl rfl (Nat.le_of_ble_eq_true rfl) (argsL_cons rfl (argsL_cons rfl argsL_nil)) ?_
  refine sr ?_
  refine WM_box rfl (Wd_none rfl) (by decide) (fun p8 => ?_)
  refine wa ?_
  refine nt' ?_
  refine sr ?_
  refine wv (fun W hm => rv_field Try.underlying51 rfl Try.type3 (by decide) rfl rfl) ?_
  refine wv (fun W hm => rv_load Try.underlying3 rfl rfl (hm.boxCell (n := 0) (o := 0) rfl rfl)) ?_
  refine wv (fun W hm => rv_field Try.underlying51 rfl Try.type27 (by decide) rfl rfl) ?_
  refine wv (fun W hm => rv_load Try.underlying27 rfl rfl (hm.boxCell (n := 0) (o := 1) rfl rfl)) ?_
  refine wv (fun W hm => rv_build (cs := [.int .i64 x0.Id, .slice A4 x0.Values.length c5]) rfl (by kernel_rfl)) ?_
  refine WM_callV (cl_fn cb154 rfl) (fun W hm => spec_IsRow_c W _ (⟨x0.Id, x0.Values⟩ : DRow) (tyRow_mk (x := (⟨x0.Id, x0.Values⟩ : DRow)) (hm.rdS0 r7))) (Wd_none rfl) (by decide) ?_
  refine wm ?_
  rcases Bool.eq_false_or_eq_true (spec_IsRow_m (⟨x0.Id, x0.Values⟩ : DRow)) with g10 | g10
  ·
    refine wg (fun W hm => rv_field Try.underlying51 rfl Try.type3 (by decide) rfl rfl) g10 ?_
    refine wg (fun W hm => rv_load Try.underlying3 rfl rfl (hm.boxCell (n := 0) (o := 2) rfl rfl)) g10 ?_
    refine wg (fun W hm => rv_move rfl) g10 ?_
    refine WM_callV (cl_fn cb86 rfl) (fun W hm => spec_l1In_c W x0.Born 0 x1) (Wd_some rfl rfl rfl (bw g10 rfl)) (by decide) ?_
    refine wv (fun W hm => rv_pickT rfl g10 rfl) ?_
    refine wm ?_
    rcases Bool.eq_false_or_eq_true (spec_l1In_m x0.Born 0 x1) with g12 | g12
    ·
      have hw := spec_l1In_fact g12
      refine wg (fun W hm => rv_field Try.underlying51 rfl Try.type3 (by decide) rfl rfl) g12 ?_
      refine wg (fun W hm => rv_load Try.underlying3 rfl rfl (hm.boxCell (n := 0) (o := 3) rfl rfl)) g12 ?_
      refine wg (fun W hm => rv_eql rfl rfl) g12 ?_
      refine wg (fun W hm => rv_move rfl) g12 ?_
      by_cases h13 : x0.Died = (-1)
      · have g14 : (x0.Died == (-1)) = true := beq_iff_eq.2 h13
        refine ws g14 ?_
        refine ws g14 ?_
        refine ws g14 ?_
        refine ws g14 ?_
        refine ws g14 ?_
        refine ws g14 ?_
        refine ws g14 ?_
        refine wg (fun W hm => rv_pickT rfl g14 rfl) g12 ?_
        refine wv (fun W hm => rv_pickT rfl g12 rfl) ?_
        refine wa ?_
        refine nt' ?_
        refine CM_ret ?_
        exact QM_ret1 rfl rfl (fun W hm => ⟨ret_b (show spec_l7Version_m x0 x1 = true from by unfold spec_l7Version_m; exact cond_t g10 (cond_t g12 (cond_t g14 (rfl)))), hm.below⟩)
      · have g14 : (x0.Died == (-1)) = false := beq_eq_false_iff_ne.2 h13
        refine wg (fun W hm => rv_field Try.underlying51 rfl Try.type3 (by decide) rfl rfl) g14 ?_
        refine wg (fun W hm => rv_load Try.underlying3 rfl rfl (hm.boxCell (n := 0) (o := 3) rfl rfl)) g14 ?_
        refine wg (fun W hm => rv_field Try.underlying51 rfl Try.type3 (by decide) rfl rfl) g14 ?_
        refine wg (fun W hm => rv_load Try.underlying3 rfl rfl (hm.boxCell (n := 0) (o := 2) rfl rfl)) g14 ?_
        refine wg (fun W hm => rv_add rfl rfl) g14 ?_
        refine wg (fun W hm => rv_move rfl) g14 ?_
        refine WM_callV (cl_fn cb86 rfl) (fun W hm => spec_l1In_c W x0.Died (IntKind.i64.wrap (x0.Born + 1)) x1) (Wd_some rfl rfl rfl (bw g14 rfl)) (by decide) ?_
        refine wg (fun W hm => rv_pickF rfl g14 rfl) g12 ?_
        refine wv (fun W hm => rv_pickT rfl g12 rfl) ?_
        refine wa ?_
        refine nt' ?_
        refine CM_ret ?_
        exact QM_ret1 rfl rfl (fun W hm => ⟨ret_b (show spec_l7Version_m x0 x1 = (spec_l1In_m x0.Died (IntKind.i64.wrap (x0.Born + 1)) x1) from by unfold spec_l7Version_m; exact cond_t g10 (cond_t g12 (cond_f g14 (rfl)))), hm.below⟩)
    ·
      refine ws g12 ?_
      refine ws g12 ?_
      refine ws g12 ?_
      refine ws g12 ?_
      refine wu ?_
      refine wu ?_
      refine wu ?_
      refine wu ?_
      refine wu ?_
      refine wu ?_
      refine wu ?_
      refine ws g12 ?_
      refine wv (fun W hm => rv_pickF rfl g12 rfl) ?_
      refine wa ?_
      refine nt' ?_
      refine CM_ret ?_
      exact QM_ret1 rfl rfl (fun W hm => ⟨ret_b (show spec_l7Version_m x0 x1 = false from by unfold spec_l7Version_m; exact cond_t g10 (cond_f g12 (rfl))), hm.below⟩)
  ·
    refine ws g10 ?_
    refine ws g10 ?_
    refine ws g10 ?_
    refine ws g10 ?_
    refine wv (fun W hm => rv_pickF rfl g10 rfl) ?_
    refine wm ?_
    refine WM_skip (Wd_some rfl rfl rfl rfl) rfl (by decide) ?_
    refine WM_skip (Wd_some rfl rfl rfl rfl) rfl (by decide) ?_
    refine WM_skip (Wd_some rfl rfl rfl rfl) rfl (by decide) ?_
    refine WM_skip (Wd_some rfl rfl rfl rfl) rfl (by decide) ?_
    refine wu ?_
    refine wu ?_
    refine wu ?_
    refine wu ?_
    refine wu ?_
    refine wu ?_
    refine wu ?_
    refine WM_skip (Wd_some rfl rfl rfl rfl) rfl (by decide) ?_
    refine wv (fun W hm => rv_pickF rfl rfl rfl) ?_
    refine wa ?_
    refine nt' ?_
    refine CM_ret ?_
    exact QM_ret1 rfl rfl (fun W hm => ⟨ret_b (show spec_l7Version_m x0 x1 = false from by unfold spec_l7Version_m; exact cond_f g10 (rfl)), hm.below⟩)

def spec_l7Apart_m (x0 : DVersion) (x1 : DVersion) : Bool :=
  cond (x0.Id != x1.Id) true (cond (x0.Died != (-1)) (cond (decide (x0.Died ≤ x1.Born)) true (cond (x1.Died != (-1)) (decide (x1.Died ≤ x0.Born)) false)) (cond (x1.Died != (-1)) (decide (x1.Died ≤ x0.Born)) false))
set_option maxRecDepth 100000 in
theorem cb89 : Cb Try.prog 89 := ⟨Try.f89, _, Try.func89, rfl, by decide⟩
set_option maxRecDepth 10000 in
set_option maxHeartbeats 4000000 in
theorem spec_l7Apart_c (w : World) (z0 : List Value) (x0 : DVersion) (z1 : List Value) (x1 : DVersion) (r_0 : tyVersion.rd w w.heap.size z0 x0) (r_1 : tyVersion.rd w w.heap.size z1 x1) :
    Calls Try.prog 89 #[.agg z0.toArray, .agg z1.toArray] w fun e w' => e = .returned (.bool (spec_l7Apart_m x0 x1)) ∧ Below w.heap.size w w' := by
  obtain ⟨v1, rfl, r2⟩ := tyVersion_rd r_0
  have r7 := r2
  obtain ⟨m3, A4, c5, rfl, q6⟩ := r2
  obtain ⟨v8, rfl, r9⟩ := tyVersion_rd r_1
  have r14 := r9
  obtain ⟨m10, A11, c12, rfl, q13⟩ := r9
  refine call_enterM (L := [(0, .agg #[.int .i64 x0.Id, .slice A4 x0.Values.length c5, .int .i64 x0.Born, .int .i64 x0.Died]), (1, .agg #[.int .i64 x1.Id, .slice A11 x1.Values.length c12, .int .i64 x1.Born, .int .i64 x1.Died])]) (N := 34) Try.func89 rfl rfl (Nat.le_of_ble_eq_true rfl) (argsL_cons rfl (argsL_cons rfl argsL_nil)) ?_
  refine sr ?_
  refine WM_box rfl (Wd_none rfl) (by decide) (fun p15 => ?_)
  refine WM_box rfl (Wd_none rfl) (by decide) (fun p16 => ?_)
  refine wa ?_
  refine nt' ?_
  refine sr ?_
  refine wv (fun W hm => rv_field Try.underlying51 rfl Try.type3 (by decide) rfl rfl) ?_
  refine wv (fun W hm => rv_load Try.underlying3 rfl rfl (hm.boxCell (n := 1) (o := 0) rfl rfl)) ?_
  refine wv (fun W hm => rv_field Try.underlying51 rfl Try.type3 (by decide) rfl rfl) ?_
  refine wv (fun W hm => rv_load Try.underlying3 rfl rfl (hm.boxCell (n := 0) (o := 0) rfl rfl)) ?_
  refine wv (fun W hm => rv_neq rfl rfl) ?_
  refine wm ?_
  by_cases h17 : x0.Id = x1.Id
  · have g18 : (x0.Id != x1.Id) = false := by rw [h17]; exact bne_self_eq_false _
    refine wg (fun W hm => rv_field Try.underlying51 rfl Try.type3 (by decide) rfl rfl) g18 ?_
    refine wg (fun W hm => rv_load Try.underlying3 rfl rfl (hm.boxCell (n := 1) (o := 3) rfl rfl)) g18 ?_
    refine wg (fun W hm => rv_neq rfl rfl) g18 ?_
    refine wg (fun W hm => rv_move rfl) g18 ?_
    by_cases h19 : x0.Died = (-1)
    · have g20 : (x0.Died != (-1)) = false := by rw [h19]; exact bne_self_eq_false _
      refine ws g20 ?_
      refine ws g20 ?_
      refine ws g20 ?_
      refine ws g20 ?_
      refine ws g20 ?_
      refine wg (fun W hm => rv_pickF rfl g20 rfl) g18 ?_
      refine wv (fun W hm => rv_pickF rfl g18 rfl) ?_
      refine wm ?_
      refine WM_val (fun W hm => rv_field Try.underlying51 rfl Try.type3 (by decide) rfl rfl) (Wd_some rfl rfl rfl rfl) rfl (by decide) ?_
      refine WM_val (fun W hm => rv_load Try.underlying3 rfl rfl (hm.boxCell (n := 0) (o := 3) rfl rfl)) (Wd_some rfl rfl rfl rfl) rfl (by decide) ?_
      refine WM_val (fun W hm => rv_neq rfl rfl) (Wd_some rfl rfl rfl rfl) rfl (by decide) ?_
      refine WM_val (fun W hm => rv_move rfl) (Wd_some rfl rfl rfl rfl) rfl (by decide) ?_
      by_cases h21 : x1.Died = (-1)
      · have g22 : (x1.Died != (-1)) = false := by rw [h21]; exact bne_self_eq_false _
        refine ws g22 ?_
        refine ws g22 ?_
        refine ws g22 ?_
        refine ws g22 ?_
        refine ws g22 ?_
        refine WM_val (fun W hm => rv_pickF rfl g22 rfl) (Wd_some rfl rfl rfl rfl) rfl (by decide) ?_
        refine wv (fun W hm => rv_pickF rfl rfl rfl) ?_
        refine wa ?_
        refine nt' ?_
        refine CM_ret ?_
        exact QM_ret1 rfl rfl (fun W hm => ⟨ret_b (show spec_l7Apart_m x0 x1 = false from by unfold spec_l7Apart_m; exact cond_f g18 (cond_f g20 (cond_f g22 (rfl)))), hm.below⟩)
      · have g22 : (x1.Died != (-1)) = true := bne_iff_ne.2 h21
        refine wg (fun W hm => rv_field Try.underlying51 rfl Try.type3 (by decide) rfl rfl) g22 ?_
        refine wg (fun W hm => rv_load Try.underlying3 rfl rfl (hm.boxCell (n := 0) (o := 3) rfl rfl)) g22 ?_
        refine wg (fun W hm => rv_field Try.underlying51 rfl Try.type3 (by decide) rfl rfl) g22 ?_
        refine wg (fun W hm => rv_load Try.underlying3 rfl rfl (hm.boxCell (n := 1) (o := 2) rfl rfl)) g22 ?_
        refine wg (fun W hm => rv_leq rfl rfl) g22 ?_
        refine WM_val (fun W hm => rv_pickT rfl g22 rfl) (Wd_some rfl rfl rfl rfl) rfl (by decide) ?_
        refine wv (fun W hm => rv_pickF rfl rfl rfl) ?_
        refine wa ?_
        refine nt' ?_
        refine CM_ret ?_
        exact QM_ret1 rfl rfl (fun W hm => ⟨ret_b (show spec_l7Apart_m x0 x1 = (decide (x1.Died ≤ x0.Born)) from by unfold spec_l7Apart_m; exact cond_f g18 (cond_f g20 (cond_t g22 (rfl)))), hm.below⟩)
    · have g20 : (x0.Died != (-1)) = true := bne_iff_ne.2 h19
      refine wg (fun W hm => rv_field Try.underlying51 rfl Try.type3 (by decide) rfl rfl) g20 ?_
      refine wg (fun W hm => rv_load Try.underlying3 rfl rfl (hm.boxCell (n := 1) (o := 3) rfl rfl)) g20 ?_
      refine wg (fun W hm => rv_field Try.underlying51 rfl Try.type3 (by decide) rfl rfl) g20 ?_
      refine wg (fun W hm => rv_load Try.underlying3 rfl rfl (hm.boxCell (n := 0) (o := 2) rfl rfl)) g20 ?_
      refine wg (fun W hm => rv_leq rfl rfl) g20 ?_
      refine wg (fun W hm => rv_pickT rfl g20 rfl) g18 ?_
      refine wv (fun W hm => rv_pickF rfl g18 rfl) ?_
      refine wm ?_
      by_cases h23 : x0.Died ≤ x1.Born
      · have g24 : (decide (x0.Died ≤ x1.Born)) = true := decide_eq_true h23
        refine ws g24 ?_
        refine ws g24 ?_
        refine ws g24 ?_
        refine ws g24 ?_
        refine wu ?_
        refine wu ?_
        refine wu ?_
        refine wu ?_
        refine wu ?_
        refine ws g24 ?_
        refine wv (fun W hm => rv_pickT rfl g24 rfl) ?_
        refine wa ?_
        refine nt' ?_
        refine CM_ret ?_
        exact QM_ret1 rfl rfl (fun W hm => ⟨ret_b (show spec_l7Apart_m x0 x1 = true from by unfold spec_l7Apart_m; exact cond_f g18 (cond_t g20 (cond_t g24 (rfl)))), hm.below⟩)
      · have g24 : (decide (x0.Died ≤ x1.Born)) = false := decide_eq_false h23
        refine wg (fun W hm => rv_field Try.underlying51 rfl Try.type3 (by decide) rfl rfl) g24 ?_
        refine wg (fun W hm => rv_load Try.underlying3 rfl rfl (hm.boxCell (n := 0) (o := 3) rfl rfl)) g24 ?_
        refine wg (fun W hm => rv_neq rfl rfl) g24 ?_
        refine wg (fun W hm => rv_move rfl) g24 ?_
        by_cases h25 : x1.Died = (-1)
        · have g26 : (x1.Died != (-1)) = false := by rw [h25]; exact bne_self_eq_false _
          refine ws g26 ?_
          refine ws g26 ?_
          refine ws g26 ?_
          refine ws g26 ?_
          refine ws g26 ?_
          refine wg (fun W hm => rv_pickF rfl g26 rfl) g24 ?_
          refine wv (fun W hm => rv_pickF rfl g24 rfl) ?_
          refine wa ?_
          refine nt' ?_
          refine CM_ret ?_
          exact QM_ret1 rfl rfl (fun W hm => ⟨ret_b (show spec_l7Apart_m x0 x1 = false from by unfold spec_l7Apart_m; exact cond_f g18 (cond_t g20 (cond_f g24 (cond_f g26 (rfl))))), hm.below⟩)
        · have g26 : (x1.Died != (-1)) = true := bne_iff_ne.2 h25
          refine wg (fun W hm => rv_field Try.underlying51 rfl Try.type3 (by decide) rfl rfl) g26 ?_
          refine wg (fun W hm => rv_load Try.underlying3 rfl rfl (hm.boxCell (n := 0) (o := 3) rfl rfl)) g26 ?_
          refine wg (fun W hm => rv_field Try.underlying51 rfl Try.type3 (by decide) rfl rfl) g26 ?_
          refine wg (fun W hm => rv_load Try.underlying3 rfl rfl (hm.boxCell (n := 1) (o := 2) rfl rfl)) g26 ?_
          refine wg (fun W hm => rv_leq rfl rfl) g26 ?_
          refine wg (fun W hm => rv_pickT rfl g26 rfl) g24 ?_
          refine wv (fun W hm => rv_pickF rfl g24 rfl) ?_
          refine wa ?_
          refine nt' ?_
          refine CM_ret ?_
          exact QM_ret1 rfl rfl (fun W hm => ⟨ret_b (show spec_l7Apart_m x0 x1 = (decide (x1.Died ≤ x0.Born)) from by unfold spec_l7Apart_m; exact cond_f g18 (cond_t g20 (cond_f g24 (cond_t g26 (rfl))))), hm.below⟩)
  · have g18 : (x0.Id != x1.Id) = true := bne_iff_ne.2 h17
    refine ws g18 ?_
    refine ws g18 ?_
    refine ws g18 ?_
    refine ws g18 ?_
    refine wu ?_
    refine wu ?_
    refine wu ?_
    refine wu ?_
    refine wu ?_
    refine ws g18 ?_
    refine wv (fun W hm => rv_pickT rfl g18 rfl) ?_
    refine wm ?_
    refine WM_skip (Wd_some rfl rfl rfl rfl) rfl (by decide) ?_
    refine WM_skip (Wd_some rfl rfl rfl rfl) rfl (by decide) ?_
    refine WM_skip (Wd_some rfl rfl rfl rfl) rfl (by decide) ?_
    refine WM_skip (Wd_some rfl rfl rfl rfl) rfl (by decide) ?_
    refine wu ?_
    refine wu ?_
    refine wu ?_
    refine wu ?_
    refine wu ?_
    refine WM_skip (Wd_some rfl rfl rfl rfl) rfl (by decide) ?_
    refine wv (fun W hm => rv_pickT rfl rfl rfl) ?_
    refine wa ?_
    refine nt' ?_
    refine CM_ret ?_
    exact QM_ret1 rfl rfl (fun W hm => ⟨ret_b (show spec_l7Apart_m x0 x1 = true from by unfold spec_l7Apart_m; exact cond_t g18 (rfl)), hm.below⟩)

def spec_IsStore_b3 (x0 : DStore) (k42 : Nat) (k62 : Nat) : Bool ⊕ (Unit) :=
  cond (spec_l7Apart_m (gt (spec_l7All_m x0) k42) (gt (spec_l7All_m x0) k62)) (Sum.inr ()) (Sum.inl false)
def spec_IsStore_b2 (x0 : DStore) (k42 : Nat) : Bool ⊕ (Unit) :=
  cond (spec_l7Version_m (gt (spec_l7All_m x0) k42) x0.Now) (Sum.elim Sum.inl (fun (s : Unit) => Sum.inr ()) (rng (R := Bool) (fun k (_ : Unit) => spec_IsStore_b3 x0 k42 k) (k42 - 0) 0 ())) (Sum.inl false)
def spec_IsStore_b1 (x0 : DStore) (k14 : Nat) : Bool ⊕ (Unit) :=
  cond (decide (4 < ((((gt x0.Segments k14)).length : Nat) : Int))) (Sum.inl false) (Sum.inr ())
def spec_IsStore_m (x0 : DStore) : Bool :=
  cond (spec_l1In_m ((x0.Segments.length : Nat) : Int) 1 8) (cond (spec_l1In_m x0.Now 0 100000) (Sum.elim id (fun (s : Unit) => Sum.elim id (fun (s : Unit) => true) (rng (R := Bool) (fun k (_ : Unit) => spec_IsStore_b2 x0 k) ((spec_l7All_m x0).length - 0) 0 ())) (rng (R := Bool) (fun k (_ : Unit) => spec_IsStore_b1 x0 k) (x0.Segments.length - 0) 0 ())) false) false
theorem spec_IsStore_hq {x0 : DStore} (h : ((x0.Segments.length : Nat) : Int) ≤ 8) (hE : rng (R := Bool) (fun k (_ : Unit) => spec_IsStore_b1 x0 k) (x0.Segments.length - 0) 0 () = .inr ()) : (x0.Segments.map List.length).sum ≤ 68719476736 := by
  have h1 := sum_le_mul (w := List.length) (c := 4) (xs := x0.Segments) fun j hj => by
    have h2 := rng_noneU _ _ hE j (Nat.zero_le _) (by omega)
    unfold spec_IsStore_b1 at h2
    by_cases h3 : 4 < ((gt x0.Segments j).length : Int)
    · rw [decide_eq_true h3] at h2; cases h2
    · omega
  omega
set_option maxRecDepth 100000 in
theorem cb20 : Cb Try.prog 20 := ⟨Try.f20, _, Try.func20, rfl, by decide⟩
set_option maxRecDepth 10000 in
set_option maxHeartbeats 4000000 in
theorem spec_IsStore_c (w : World) (z0 : List Value) (x0 : DStore) (r_0 : tyStore.rd w w.heap.size z0 x0) (s_0 : smStore 68719476736 x0) :
    Calls Try.prog 20 #[.agg z0.toArray] w fun e w' => e = .returned (.bool (spec_IsStore_m x0)) ∧ Below w.heap.size w w' := by
  obtain ⟨v1, rfl, r2⟩ := tyStore_rd r_0
  have r7 := r2
  obtain ⟨m3, A4, c5, rfl, q6⟩ := r2
  have l8 : x0.Segments.length ≤ 68719476736 := s_0.1
  refine call_enterM (L := [(0, .agg #[.slice A4 x0.Segments.length c5, .int .i64 x0.Now])]) (N := 63) Try.func20 rfl rfl (Nat.le_of_ble_eq_true rfl) (argsL_cons rfl argsL_nil) ?_
  refine sr ?_
  refine WM_box rfl (Wd_none rfl) (by decide) (fun p9 => ?_)
  refine wa ?_
  refine nt' ?_
  refine CM_seq ?_
  refine sr ?_
  refine wv (fun W hm => rv_field Try.underlying26 rfl Try.type24 (by decide) rfl rfl) ?_
  refine wv (fun W hm => rv_load Try.underlying24 rfl rfl (hm.boxCell (n := 0) (o := 0) rfl rfl)) ?_
  refine wv (fun W hm => rv_len Try.underlying24 rfl) ?_
  refine WM_callV (cl_fn cb86 rfl) (fun W hm => spec_l1In_c W ((x0.Segments.length : Nat) : Int) 1 8) (Wd_none rfl) (by decide) ?_
  refine wv (fun W hm => rv_not rfl) ?_
  refine wm ?_
  rcases Bool.eq_false_or_eq_true (spec_l1In_m ((x0.Segments.length : Nat) : Int) 1 8) with g11 | g11
  ·
    have hw := spec_l1In_fact g11
    refine wg (fun W hm => rv_field Try.underlying26 rfl Try.type3 (by decide) rfl rfl) (nt g11) ?_
    refine wg (fun W hm => rv_load Try.underlying3 rfl rfl (hm.boxCell (n := 0) (o := 1) rfl rfl)) (nt g11) ?_
    refine WM_callV (cl_fn cb86 rfl) (fun W hm => spec_l1In_c W x0.Now 0 100000) (Wd_some rfl rfl rfl (bw (nt g11) rfl)) (by decide) ?_
    refine wg (fun W hm => rv_not rfl) (nt g11) ?_
    refine wv (fun W hm => rv_pickF rfl (nt g11) rfl) ?_
    refine nt' ?_
    rcases Bool.eq_false_or_eq_true (spec_l1In_m x0.Now 0 100000) with g13 | g13
    ·
      have hw := spec_l1In_fact g13
      refine CM_condF rfl (nt g13) ?_
      refine CM_skip ?_
      refine QM_then ?_
      refine CM_seq ?_
      refine sr ?_
      refine wa ?_
      refine nt' ?_
      refine CM_block ?_
      refine CM_loop (σ := Nat × (Unit) × (Unit)) (fun s => [(1, .pointer (some (⟨p9, 0, none⟩ : Addr))), (3, .int .i64 ((s.1 : Nat) : Int))]) (fun s => [iBox p9 26 [.slice A4 x0.Segments.length c5, .int .i64 x0.Now]]) (fun s => s.1 ≤ x0.Segments.length ∧ rng (R := Bool) (fun k (_ : Unit) => spec_IsStore_b1 x0 k) (x0.Segments.length - s.1) s.1 s.2.1 = rng (R := Bool) (fun k (_ : Unit) => spec_IsStore_b1 x0 k) (x0.Segments.length - 0) 0 ()) (fun s => x0.Segments.length - s.1) (0, (), ()) (subL_cons rfl (subL_cons rfl subL_nil)) (fun W hm => hm) ⟨(by omega), rfl⟩ ?_
      rintro ⟨k14, ⟨⟩, ⟨⟩⟩ H17
      obtain ⟨hk15, hF16⟩ : k14 ≤ x0.Segments.length ∧ rng (R := Bool) (fun k (_ : Unit) => spec_IsStore_b1 x0 k) (x0.Segments.length - k14) k14 () = rng (R := Bool) (fun k (_ : Unit) => spec_IsStore_b1 x0 k) (x0.Segments.length - 0) 0 () := H17
      show CM Try.prog 63 _ _ _ _ [(1, .pointer (some (⟨p9, 0, none⟩ : Addr))), (3, .int .i64 ((k14 : Nat) : Int))] [iBox p9 26 [.slice A4 x0.Segments.length c5, .int .i64 x0.Now]]
      refine CM_seq ?_
      refine sr ?_
      refine wm ?_
      refine wv (fun W hm => rv_field Try.underlying26 rfl Try.type24 (by decide) rfl rfl) ?_
      refine wv (fun W hm => rv_load Try.underlying24 rfl rfl (hm.boxCell (n := 0) (o := 0) rfl rfl)) ?_
      refine wv (fun W hm => rv_len Try.underlying24 rfl) ?_
      refine wv (fun W hm => rv_lss rfl rfl) ?_
      refine nt' ?_
      by_cases hl18 : k14 < x0.Segments.length
      · have g19 : (decide (((k14 : Nat) : Int) < ((x0.Segments.length : Nat) : Int))) = true := decide_eq_true (by omega)
        refine CM_condT rfl g19 ?_
        refine CM_skip ?_
        refine QM_then ?_
        refine CM_seq ?_
        refine CM_block ?_
        refine sr ?_
        refine wv (fun W hm => rv_field Try.underlying26 rfl Try.type24 (by decide) rfl rfl) ?_
        refine wv (fun W hm => rv_load Try.underlying24 rfl rfl (hm.boxCell (n := 0) (o := 0) rfl rfl)) ?_
        refine wm ?_
        obtain ⟨a20, rfl, hb21, he22⟩ := q6 (by omega)
        refine wv (fun W hm => rv_index (sz := 1) (k := k14) Try.underlying24 Try.type102 rfl rfl rfl (by omega)) ?_
        obtain ⟨_, e24, hc23⟩ := he22 k14 _ (gt_some (show k14 < x0.Segments.length from by omega))
        have l25 : (gt x0.Segments k14).length ≤ 68719476736 := (s_0.2 _ (gt_mem (show k14 < x0.Segments.length from by omega))).1
        obtain ⟨v26, rfl, r27⟩ := e24
        have r32 := r27
        obtain ⟨m28, A29, c30, rfl, q31⟩ := r27
        refine wv (fun W hm => rv_load Try.underlying102 rfl rfl ((hm.cell0 (show (a20.add (k14 * 1)).block < w.heap.size from by rw [add_block]; exact hb21.1)).trans (hc23 0 _ rfl))) ?_
        refine wv (fun W hm => rv_len Try.underlying102 rfl) ?_
        refine wv (fun W hm => rv_gtr rfl rfl) ?_
        refine nt' ?_
        by_cases h33 : 4 < ((((gt x0.Segments k14)).length : Nat) : Int)
        · have g34 : (decide (4 < ((((gt x0.Segments k14)).length : Nat) : Int))) = true := decide_eq_true h33
          refine CM_condT rfl g34 ?_
          refine sr ?_
          refine wa ?_
          refine nt' ?_
          refine CM_ret ?_
          refine QM_block_ret ?_
          refine QM_then_ret ?_
          refine QM_then_ret ?_
          refine QM_block_ret ?_
          refine QM_then_ret ?_
          exact QM_ret1 rfl rfl (fun W hm => ⟨ret_b (show spec_IsStore_m x0 = false from by unfold spec_IsStore_m; exact cond_t g11 (cond_t g13 (fin_inl (rng_ret (body := (fun k (_ : Unit) => spec_IsStore_b1 x0 k)) (k := k14) (s := ()) (show k14 < x0.Segments.length from by omega) (show spec_IsStore_b1 x0 k14 = Sum.inl false from by unfold spec_IsStore_b1; exact cond_t g34 (rfl)) hF16) rfl))), hm.below⟩)
        · have g34 : (decide (4 < ((((gt x0.Segments k14)).length : Nat) : Int))) = false := decide_eq_false h33
          refine CM_condF rfl g34 ?_
          refine CM_skip ?_
          refine QM_block_normal ?_
          refine QM_then ?_
          refine CM_region ?_
          refine wm ?_
          refine wv (fun W hm => rv_addN (p := k14) (q := 1) rfl rfl (by omega)) ?_
          refine wa ?_
          refine WM_nil ?_
          have hn35 := rng_next (R := Bool) (body := (fun k (_ : Unit) => spec_IsStore_b1 x0 k)) (k := k14) (s := ()) (s' := ()) (show k14 < x0.Segments.length from by omega) (show spec_IsStore_b1 x0 k14 = Sum.inr () from by unfold spec_IsStore_b1; exact cond_f g34 (rfl)) hF16
          exact QM_round (k14 + 1, (), ()) (subL_cons rfl (subL_cons rfl subL_nil)) (fun W hm => hm) ⟨(by omega), hn35⟩ (show x0.Segments.length - (k14 + 1) < x0.Segments.length - k14 from by omega)
      · have g19 : (decide (((k14 : Nat) : Int) < ((x0.Segments.length : Nat) : Int))) = false := decide_eq_false (by omega)
        refine CM_condF rfl g19 ?_
        refine CM_exit ?_
        refine QM_then_exit ?_
        refine QM_then_exit ?_
        have hE36 : rng (R := Bool) (fun k (_ : Unit) => spec_IsStore_b1 x0 k) (x0.Segments.length - 0) 0 () = Sum.inr () := rng_end hl18 hF16
        have HQ := spec_IsStore_hq (by omega) hE36
        refine QM_block_hit ?_
        refine QM_then ?_
        refine sr ?_
        refine wv (fun W hm => rv_loadN (cs := [.slice A4 x0.Segments.length c5, .int .i64 x0.Now]) Try.underlying26 Try.type26 rfl rfl (hm.boxCells (n := 0) rfl)) ?_
        refine WM_callW (χ := Value) (val := fun x => x) (js := fun x => (iOwn (tSl (tBor tyVersion w w.heap.size) 51) [x] (spec_l7All_m x0) :: [iBox p9 26 [.slice A4 x0.Segments.length c5, .int .i64 x0.Now]])) (cl_fn cb87 rfl) (fun W hm => spec_l7All_c w.heap.size w [iBox p9 26 [.slice A4 x0.Segments.length c5, .int .i64 x0.Now]] W _ x0 (tyStore_mk r7) s_0 (HQ) hm) (Wd_none rfl) (by decide) (fun v37 => ?_)
        refine WM_form (n := 0) rfl ?_
        rintro A38 c39 rfl m40
        refine wa ?_
        refine nt' ?_
        refine CM_seq ?_
        refine sr ?_
        refine wa ?_
        refine nt' ?_
        refine CM_block ?_
        refine CM_loop (σ := Nat × (Unit) × (Unit)) (fun s => [(1, .pointer (some (⟨p9, 0, none⟩ : Addr))), (4, .slice A38 (spec_l7All_m x0).length c39), (5, .int .i64 ((s.1 : Nat) : Int))]) (fun s => [iOwn (tSl (tBor tyVersion w w.heap.size) 51) [.slice A38 (spec_l7All_m x0).length c39] (spec_l7All_m x0), iBox p9 26 [.slice A4 x0.Segments.length c5, .int .i64 x0.Now]]) (fun s => s.1 ≤ (spec_l7All_m x0).length ∧ rng (R := Bool) (fun k (_ : Unit) => spec_IsStore_b2 x0 k) ((spec_l7All_m x0).length - s.1) s.1 s.2.1 = rng (R := Bool) (fun k (_ : Unit) => spec_IsStore_b2 x0 k) ((spec_l7All_m x0).length - 0) 0 ()) (fun s => (spec_l7All_m x0).length - s.1) (0, (), ()) (subL_cons rfl (subL_cons rfl (subL_cons rfl subL_nil))) (fun W hm => hm) ⟨(by omega), rfl⟩ ?_
        rintro ⟨k42, ⟨⟩, ⟨⟩⟩ H45
        obtain ⟨hk43, hF44⟩ : k42 ≤ (spec_l7All_m x0).length ∧ rng (R := Bool) (fun k (_ : Unit) => spec_IsStore_b2 x0 k) ((spec_l7All_m x0).length - k42) k42 () = rng (R := Bool) (fun k (_ : Unit) => spec_IsStore_b2 x0 k) ((spec_l7All_m x0).length - 0) 0 () := H45
        show CM Try.prog 63 _ _ _ _ [(1, .pointer (some (⟨p9, 0, none⟩ : Addr))), (4, .slice A38 (spec_l7All_m x0).length c39), (5, .int .i64 ((k42 : Nat) : Int))] [iOwn (tSl (tBor tyVersion w w.heap.size) 51) [.slice A38 (spec_l7All_m x0).length c39] (spec_l7All_m x0), iBox p9 26 [.slice A4 x0.Segments.length c5, .int .i64 x0.Now]]
        refine CM_seq ?_
        refine sr ?_
        refine wm ?_
        refine wm ?_
        refine wv (fun W hm => rv_len Try.underlying102 rfl) ?_
        refine wv (fun W hm => rv_lss rfl rfl) ?_
        refine nt' ?_
        by_cases hl46 : k42 < (spec_l7All_m x0).length
        · have g47 : (decide (((k42 : Nat) : Int) < (((spec_l7All_m x0).length : Nat) : Int))) = true := decide_eq_true (by omega)
          refine CM_condT rfl g47 ?_
          refine CM_skip ?_
          refine QM_then ?_
          refine CM_seq ?_
          refine CM_block ?_
          refine CM_seq ?_
          refine CM_seq ?_
          refine CM_formO (n := 0) rfl (by omega) ?_
          rintro g48 rfl
          refine CM_expose (T := tyVersion) (wb := w) (Bb := w.heap.size) (e := 51) (g := g48) (n := (spec_l7All_m x0).length) (c := c39) (xs := (spec_l7All_m x0)) (js := [iBox p9 26 [.slice A4 x0.Segments.length c5, .int .i64 x0.Now]]) (fun W hm => hm) ?_
          rintro ck49 rk50
          refine CM_regionD (by kernel_rfl) (by kernel_rfl) ?_
          refine qm ?_
          refine qm ?_
          refine qv (fun W hm => rv_index (sz := 4) (k := k42) Try.underlying102 Try.type51 rfl rfl rfl (by omega)) ?_
          obtain ⟨_, e51, hc52⟩ := rk50.get (j := k42) (by omega)
          obtain ⟨v53, rfl, r54⟩ := tyVersion_rd e51
          have r59 := r54
          obtain ⟨m55, A56, c57, rfl, q58⟩ := r54
          refine qv (fun W hm => rv_loadN (cs := [.int .i64 ((gt (spec_l7All_m x0) k42).Id), .slice A56 ((gt (spec_l7All_m x0) k42).Values).length c57, .int .i64 ((gt (spec_l7All_m x0) k42).Born), .int .i64 ((gt (spec_l7All_m x0) k42).Died)]) Try.underlying51 Try.type51 rfl rfl (hm.rowCells (i := 0) rfl hc52)) ?_
          refine qv (fun W hm => rv_field Try.underlying26 rfl Try.type3 (by decide) rfl rfl) ?_
          refine qv (fun W hm => rv_load Try.underlying3 rfl rfl (hm.boxCell (n := 1) (o := 1) rfl rfl)) ?_
          refine QR_callV (cl_fn cb88 rfl) (fun W hm => spec_l7Version_c W _ (gt (spec_l7All_m x0) k42) x0.Now (tyVersion_mk (x := (gt (spec_l7All_m x0) k42)) (hm.rdS0 r59))) (Wd_none rfl) (by decide) ?_
          refine qv (fun W hm => rv_not rfl) ?_
          refine nq' ?_
          rcases Bool.eq_false_or_eq_true (spec_l7Version_m (gt (spec_l7All_m x0) k42) x0.Now) with g61 | g61
          ·
            refine CM_condF rfl (nt g61) ?_
            refine CM_skip ?_
            refine QM_then ?_
            refine sr ?_
            refine wa ?_
            refine nt' ?_
            refine CM_block ?_
            refine CM_items (fun W hm => Mem.hide rk50 hm) ?_
            refine CM_loop (σ := Nat × (Unit) × (Unit)) (fun s => [(1, .pointer (some (⟨p9, 0, none⟩ : Addr))), (4, .slice (some ⟨g48, 0, none⟩) (spec_l7All_m x0).length c39), (5, .int .i64 ((k42 : Nat) : Int)), (6, .int .i64 ((s.1 : Nat) : Int))]) (fun s => [iOwn (tSl (tBor tyVersion w w.heap.size) 51) [.slice (some ⟨g48, 0, none⟩) (spec_l7All_m x0).length c39] (spec_l7All_m x0), iBox p9 26 [.slice A4 x0.Segments.length c5, .int .i64 x0.Now]]) (fun s => s.1 ≤ k42 ∧ rng (R := Bool) (fun k (_ : Unit) => spec_IsStore_b3 x0 k42 k) (k42 - s.1) s.1 s.2.1 = rng (R := Bool) (fun k (_ : Unit) => spec_IsStore_b3 x0 k42 k) (k42 - 0) 0 ()) (fun s => k42 - s.1) (0, (), ()) (subL_cons rfl (subL_cons rfl (subL_cons rfl (subL_cons rfl subL_nil)))) (fun W hm => hm) ⟨(by omega), rfl⟩ ?_
            rintro ⟨k62, ⟨⟩, ⟨⟩⟩ H65
            obtain ⟨hk63, hF64⟩ : k62 ≤ k42 ∧ rng (R := Bool) (fun k (_ : Unit) => spec_IsStore_b3 x0 k42 k) (k42 - k62) k62 () = rng (R := Bool) (fun k (_ : Unit) => spec_IsStore_b3 x0 k42 k) (k42 - 0) 0 () := H65
            show CM Try.prog 63 _ _ _ _ [(1, .pointer (some (⟨p9, 0, none⟩ : Addr))), (4, .slice (some ⟨g48, 0, none⟩) (spec_l7All_m x0).length c39), (5, .int .i64 ((k42 : Nat) : Int)), (6, .int .i64 ((k62 : Nat) : Int))] [iOwn (tSl (tBor tyVersion w w.heap.size) 51) [.slice (some ⟨g48, 0, none⟩) (spec_l7All_m x0).length c39] (spec_l7All_m x0), iBox p9 26 [.slice A4 x0.Segments.length c5, .int .i64 x0.Now]]
            refine CM_seq ?_
            refine sr ?_
            refine wm ?_
            refine wm ?_
            refine wv (fun W hm => rv_lss rfl rfl) ?_
            refine nt' ?_
            by_cases hl66 : k62 < k42
            · have g67 : (decide (((k62 : Nat) : Int) < ((k42 : Nat) : Int))) = true := decide_eq_true (by omega)
              refine CM_condT rfl g67 ?_
              refine CM_skip ?_
              refine QM_then ?_
              refine CM_seq ?_
              refine CM_block ?_
              refine CM_seq ?_
              refine CM_expose (T := tyVersion) (wb := w) (Bb := w.heap.size) (e := 51) (g := g48) (n := (spec_l7All_m x0).length) (c := c39) (xs := (spec_l7All_m x0)) (js := [iBox p9 26 [.slice A4 x0.Segments.length c5, .int .i64 x0.Now]]) (fun W hm => hm) ?_
              rintro ck68 rk69
              refine CM_regionD (by kernel_rfl) (by kernel_rfl) ?_
              refine qm ?_
              refine qm ?_
              refine qv (fun W hm => rv_index (sz := 4) (k := k42) Try.underlying102 Try.type51 rfl rfl rfl (by omega)) ?_
              obtain ⟨_, e70, hc71⟩ := rk69.get (j := k42) (by omega)
              obtain ⟨v72, rfl, r73⟩ := tyVersion_rd e70
              have r78 := r73
              obtain ⟨m74, A75, c76, rfl, q77⟩ := r73
              refine qv (fun W hm => rv_loadN (cs := [.int .i64 ((gt (spec_l7All_m x0) k42).Id), .slice A75 ((gt (spec_l7All_m x0) k42).Values).length c76, .int .i64 ((gt (spec_l7All_m x0) k42).Born), .int .i64 ((gt (spec_l7All_m x0) k42).Died)]) Try.underlying51 Try.type51 rfl rfl (hm.rowCells (i := 0) rfl hc71)) ?_
              refine qm ?_
              refine qm ?_
              refine qv (fun W hm => rv_index (sz := 4) (k := k62) Try.underlying102 Try.type51 rfl rfl rfl (by omega)) ?_
              obtain ⟨_, e79, hc80⟩ := rk69.get (j := k62) (by omega)
              obtain ⟨v81, rfl, r82⟩ := tyVersion_rd e79
              have r87 := r82
              obtain ⟨m83, A84, c85, rfl, q86⟩ := r82
              refine qv (fun W hm => rv_loadN (cs := [.int .i64 ((gt (spec_l7All_m x0) k62).Id), .slice A84 ((gt (spec_l7All_m x0) k62).Values).length c85, .int .i64 ((gt (spec_l7All_m x0) k62).Born), .int .i64 ((gt (spec_l7All_m x0) k62).Died)]) Try.underlying51 Try.type51 rfl rfl (hm.rowCells (i := 0) rfl hc80)) ?_
              refine QR_callV (cl_fn cb89 rfl) (fun W hm => spec_l7Apart_c W _ (gt (spec_l7All_m x0) k42) _ (gt (spec_l7All_m x0) k62) (tyVersion_mk (x := (gt (spec_l7All_m x0) k42)) (hm.rdS0 r78)) (tyVersion_mk (x := (gt (spec_l7All_m x0) k62)) (hm.rdS0 r87))) (Wd_none rfl) (by decide) ?_
              refine qv (fun W hm => rv_not rfl) ?_
              refine nq' ?_
              rcases Bool.eq_false_or_eq_true (spec_l7Apart_m (gt (spec_l7All_m x0) k42) (gt (spec_l7All_m x0) k62)) with g89 | g89
              ·
                refine CM_condF rfl (nt g89) ?_
                refine CM_skip ?_
                refine QM_block_normal ?_
                refine QM_then ?_
                refine CM_region ?_
                refine wm ?_
                refine wv (fun W hm => rv_addN (p := k62) (q := 1) rfl rfl (by omega)) ?_
                refine wa ?_
                refine WM_nil ?_
                refine QM_items (fun W hm => Mem.hide rk69 hm) ?_
                have hn90 := rng_next (R := Bool) (body := (fun k (_ : Unit) => spec_IsStore_b3 x0 k42 k)) (k := k62) (s := ()) (s' := ()) (show k62 < k42 from by omega) (show spec_IsStore_b3 x0 k42 k62 = Sum.inr () from by unfold spec_IsStore_b3; exact cond_t g89 (rfl)) hF64
                exact QM_round (k62 + 1, (), ()) (subL_cons rfl (subL_cons rfl (subL_cons rfl (subL_cons rfl subL_nil)))) (fun W hm => hm) ⟨(by omega), hn90⟩ (show k42 - (k62 + 1) < k42 - k62 from by omega)
              ·
                refine CM_condT rfl (nf g89) ?_
                refine sr ?_
                refine wa ?_
                refine nt' ?_
                refine CM_ret ?_
                refine QM_block_ret ?_
                refine QM_then_ret ?_
                refine QM_then_ret ?_
                refine QM_block_ret ?_
                refine QM_block_ret ?_
                refine QM_then_ret ?_
                refine QM_then_ret ?_
                refine QM_block_ret ?_
                refine QM_then_ret ?_
                refine QM_items (fun W hm => Mem.hide rk69 hm) ?_
                exact QM_ret1 rfl rfl (fun W hm => ⟨ret_b (show spec_IsStore_m x0 = false from by unfold spec_IsStore_m; exact cond_t g11 (cond_t g13 (fin_inr hE36 (fin_inl (rng_ret (body := (fun k (_ : Unit) => spec_IsStore_b2 x0 k)) (k := k42) (s := ()) (show k42 < (spec_l7All_m x0).length from by omega) (show spec_IsStore_b2 x0 k42 = Sum.inl false from by unfold spec_IsStore_b2; exact cond_t g61 (fin_inl (rng_ret (body := (fun k (_ : Unit) => spec_IsStore_b3 x0 k42 k)) (k := k62) (s := ()) (show k62 < k42 from by omega) (show spec_IsStore_b3 x0 k42 k62 = Sum.inl false from by unfold spec_IsStore_b3; exact cond_f g89 (rfl)) hF64) rfl)) hF44) rfl)))), hm.below⟩)
            · have g67 : (decide (((k62 : Nat) : Int) < ((k42 : Nat) : Int))) = false := decide_eq_false (by omega)
              refine CM_condF rfl g67 ?_
              refine CM_exit ?_
              refine QM_then_exit ?_
              refine QM_then_exit ?_
              have hE91 : rng (R := Bool) (fun k (_ : Unit) => spec_IsStore_b3 x0 k42 k) (k42 - 0) 0 () = Sum.inr () := rng_end hl66 hF64
              refine QM_block_hit ?_
              refine QM_block_normal ?_
              refine QM_then ?_
              refine CM_region ?_
              refine wm ?_
              refine wv (fun W hm => rv_addN (p := k42) (q := 1) rfl rfl (by omega)) ?_
              refine wa ?_
              refine WM_nil ?_
              have hn92 := rng_next (R := Bool) (body := (fun k (_ : Unit) => spec_IsStore_b2 x0 k)) (k := k42) (s := ()) (s' := ()) (show k42 < (spec_l7All_m x0).length from by omega) (show spec_IsStore_b2 x0 k42 = Sum.inr () from by unfold spec_IsStore_b2; exact cond_t g61 (fin_inr hE91 (rfl))) hF44
              exact QM_round (k42 + 1, (), ()) (subL_cons rfl (subL_cons rfl (subL_cons rfl subL_nil))) (fun W hm => hm) ⟨(by omega), hn92⟩ (show (spec_l7All_m x0).length - (k42 + 1) < (spec_l7All_m x0).length - k42 from by omega)
          ·
            refine CM_condT rfl (nf g61) ?_
            refine sr ?_
            refine wa ?_
            refine nt' ?_
            refine CM_ret ?_
            refine QM_then_ret ?_
            refine QM_block_ret ?_
            refine QM_then_ret ?_
            refine QM_then_ret ?_
            refine QM_block_ret ?_
            refine QM_then_ret ?_
            refine QM_items (fun W hm => Mem.hide rk50 hm) ?_
            exact QM_ret1 rfl rfl (fun W hm => ⟨ret_b (show spec_IsStore_m x0 = false from by unfold spec_IsStore_m; exact cond_t g11 (cond_t g13 (fin_inr hE36 (fin_inl (rng_ret (body := (fun k (_ : Unit) => spec_IsStore_b2 x0 k)) (k := k42) (s := ()) (show k42 < (spec_l7All_m x0).length from by omega) (show spec_IsStore_b2 x0 k42 = Sum.inl false from by unfold spec_IsStore_b2; exact cond_f g61 (rfl)) hF44) rfl)))), hm.below⟩)
        · have g47 : (decide (((k42 : Nat) : Int) < (((spec_l7All_m x0).length : Nat) : Int))) = false := decide_eq_false (by omega)
          refine CM_condF rfl g47 ?_
          refine CM_exit ?_
          refine QM_then_exit ?_
          refine QM_then_exit ?_
          have hE93 : rng (R := Bool) (fun k (_ : Unit) => spec_IsStore_b2 x0 k) ((spec_l7All_m x0).length - 0) 0 () = Sum.inr () := rng_end hl46 hF44
          refine QM_block_hit ?_
          refine QM_then ?_
          refine sr ?_
          refine wa ?_
          refine nt' ?_
          refine CM_ret ?_
          exact QM_ret1 rfl rfl (fun W hm => ⟨ret_b (show spec_IsStore_m x0 = true from by unfold spec_IsStore_m; exact cond_t g11 (cond_t g13 (fin_inr hE36 (fin_inr hE93 (rfl))))), hm.below⟩)
    ·
      refine CM_condT rfl (nf g13) ?_
      refine sr ?_
      refine wa ?_
      refine nt' ?_
      refine CM_ret ?_
      refine QM_then_ret ?_
      exact QM_ret1 rfl rfl (fun W hm => ⟨ret_b (show spec_IsStore_m x0 = false from by unfold spec_IsStore_m; exact cond_t g11 (cond_f g13 (rfl))), hm.below⟩)
  ·
    refine ws (nf g11) ?_
    refine ws (nf g11) ?_
    refine ws (nf g11) ?_
    refine ws (nf g11) ?_
    refine wv (fun W hm => rv_pickT rfl (nf g11) rfl) ?_
    refine nt' ?_
    refine CM_condT rfl rfl ?_
    refine sr ?_
    refine wa ?_
    refine nt' ?_
    refine CM_ret ?_
    refine QM_then_ret ?_
    exact QM_ret1 rfl rfl (fun W hm => ⟨ret_b (show spec_IsStore_m x0 = false from by unfold spec_IsStore_m; exact cond_f g11 (rfl)), hm.below⟩)

def spec_HasMember_b1 (x0 : (List Int)) (x1 : Int) (k6 : Nat) : Bool ⊕ (Unit) :=
  cond ((gt x0 k6) == x1) (Sum.inl true) (Sum.inr ())
def spec_HasMember_m (x0 : (List Int)) (x1 : Int) : Bool :=
  Sum.elim id (fun (s : Unit) => false) (rng (R := Bool) (fun k (_ : Unit) => spec_HasMember_b1 x0 x1 k) (x0.length - 0) 0 ())
set_option maxRecDepth 100000 in
theorem cb148 : Cb Try.prog 148 := ⟨Try.f148, _, Try.func148, rfl, by decide⟩
set_option maxRecDepth 10000 in
set_option maxHeartbeats 4000000 in
theorem spec_HasMember_c (w : World) (z0 : Value) (x0 : (List Int)) (x1 : Int) (r_0 : rdS tInt w w.heap.size z0 x0) :
    Calls Try.prog 148 #[z0, .int .i64 x1] w fun e w' => e = .returned (.bool (spec_HasMember_m x0 x1)) ∧ Below w.heap.size w w' := by
  have r5 := r_0
  obtain ⟨m1, A2, c3, rfl, q4⟩ := r_0
  refine call_enterM (L := [(0, .slice A2 x0.length c3), (1, .int .i64 x1)]) (N := 18) Try.func148 rfl rfl (Nat.le_of_ble_eq_true rfl) (argsL_cons rfl (argsL_cons rfl argsL_nil)) ?_
  refine sr ?_
  refine wa ?_
  refine nt' ?_
  refine CM_seq ?_
  refine sr ?_
  refine wa ?_
  refine nt' ?_
  refine CM_block ?_
  refine CM_loop (σ := Nat × (Unit) × (Unit)) (fun s => [(0, .slice A2 x0.length c3), (1, .int .i64 x1), (5, .int .i64 ((s.1 : Nat) : Int))]) (fun s => []) (fun s => s.1 ≤ x0.length ∧ rng (R := Bool) (fun k (_ : Unit) => spec_HasMember_b1 x0 x1 k) (x0.length - s.1) s.1 s.2.1 = rng (R := Bool) (fun k (_ : Unit) => spec_HasMember_b1 x0 x1 k) (x0.length - 0) 0 ()) (fun s => x0.length - s.1) (0, (), ()) (subL_cons rfl (subL_cons rfl (subL_cons rfl subL_nil))) (fun W hm => hm) ⟨(by omega), rfl⟩ ?_
  rintro ⟨k6, ⟨⟩, ⟨⟩⟩ H9
  obtain ⟨hk7, hF8⟩ : k6 ≤ x0.length ∧ rng (R := Bool) (fun k (_ : Unit) => spec_HasMember_b1 x0 x1 k) (x0.length - k6) k6 () = rng (R := Bool) (fun k (_ : Unit) => spec_HasMember_b1 x0 x1 k) (x0.length - 0) 0 () := H9
  show CM Try.prog 18 _ _ _ _ [(0, .slice A2 x0.length c3), (1, .int .i64 x1), (5, .int .i64 ((k6 : Nat) : Int))] []
  refine CM_seq ?_
  refine sr ?_
  refine wm ?_
  refine wm ?_
  refine wv (fun W hm => rv_len Try.underlying27 rfl) ?_
  refine wv (fun W hm => rv_lss rfl rfl) ?_
  refine nt' ?_
  by_cases hl10 : k6 < x0.length
  · have g11 : (decide (((k6 : Nat) : Int) < ((x0.length : Nat) : Int))) = true := decide_eq_true (by omega)
    refine CM_condT rfl g11 ?_
    refine CM_skip ?_
    refine QM_then ?_
    refine CM_seq ?_
    refine CM_block ?_
    refine sr ?_
    refine wm ?_
    refine wm ?_
    obtain ⟨a12, rfl, hb13, he14⟩ := q4 (by omega)
    refine wv (fun W hm => rv_index (sz := 1) (k := k6) Try.underlying27 Try.type3 rfl rfl rfl (by omega)) ?_
    refine wv (fun W hm => rv_load Try.underlying3 rfl rfl ((hm.cell0 (show (a12.add (k6 * 1)).block < w.heap.size from by rw [add_block]; exact hb13.1)).trans (rdS_int he14 k6 (by omega)))) ?_
    refine wm ?_
    refine wv (fun W hm => rv_eql rfl rfl) ?_
    refine nt' ?_
    by_cases h15 : (gt x0 k6) = x1
    · have g16 : ((gt x0 k6) == x1) = true := beq_iff_eq.2 h15
      refine CM_condT rfl g16 ?_
      refine sr ?_
      refine wa ?_
      refine nt' ?_
      refine CM_ret ?_
      refine QM_block_ret ?_
      refine QM_then_ret ?_
      refine QM_then_ret ?_
      refine QM_block_ret ?_
      refine QM_then_ret ?_
      exact QM_ret1 rfl rfl (fun W hm => ⟨ret_b (show spec_HasMember_m x0 x1 = true from by unfold spec_HasMember_m; exact fin_inl (rng_ret (body := (fun k (_ : Unit) => spec_HasMember_b1 x0 x1 k)) (k := k6) (s := ()) (show k6 < x0.length from by omega) (show spec_HasMember_b1 x0 x1 k6 = Sum.inl true from by unfold spec_HasMember_b1; exact cond_t g16 (rfl)) hF8) rfl), hm.below⟩)
    · have g16 : ((gt x0 k6) == x1) = false := beq_eq_false_iff_ne.2 h15
      refine CM_condF rfl g16 ?_
      refine CM_skip ?_
      refine QM_block_normal ?_
      refine QM_then ?_
      refine CM_region ?_
      refine wm ?_
      refine wv (fun W hm => rv_addN (p := k6) (q := 1) rfl rfl (by omega)) ?_
      refine wa ?_
      refine WM_nil ?_
      have hn17 := rng_next (R := Bool) (body := (fun k (_ : Unit) => spec_HasMember_b1 x0 x1 k)) (k := k6) (s := ()) (s' := ()) (show k6 < x0.length from by omega) (show spec_HasMember_b1 x0 x1 k6 = Sum.inr () from by unfold spec_HasMember_b1; exact cond_f g16 (rfl)) hF8
      exact QM_round (k6 + 1, (), ()) (subL_cons rfl (subL_cons rfl (subL_cons rfl subL_nil))) (fun W hm => hm) ⟨(by omega), hn17⟩ (show x0.length - (k6 + 1) < x0.length - k6 from by omega)
  · have g11 : (decide (((k6 : Nat) : Int) < ((x0.length : Nat) : Int))) = false := decide_eq_false (by omega)
    refine CM_condF rfl g11 ?_
    refine CM_exit ?_
    refine QM_then_exit ?_
    refine QM_then_exit ?_
    have hE18 : rng (R := Bool) (fun k (_ : Unit) => spec_HasMember_b1 x0 x1 k) (x0.length - 0) 0 () = Sum.inr () := rng_end hl10 hF8
    refine QM_block_hit ?_
    refine QM_then ?_
    refine sr ?_
    refine wa ?_
    refine nt' ?_
    refine CM_ret ?_
    exact QM_ret1 rfl rfl (fun W hm => ⟨ret_b (show spec_HasMember_m x0 x1 = false from by unfold spec_HasMember_m; exact fin_inr hE18 (rfl)), hm.below⟩)

def spec_l6Order_b1 (x0 : (List Int)) (k8 : Nat) : Bool ⊕ (Unit) :=
  cond (spec_l1In_m (gt x0 k8) 0 2) (cond (spec_HasMember_m (List.take k8 x0) (gt x0 k8)) (Sum.inl false) (Sum.inr ())) (Sum.inl false)
def spec_l6Order_m (x0 : (List Int)) : Bool :=
  cond (((x0.length : Nat) : Int) != 3) false (Sum.elim id (fun (s : Unit) => true) (rng (R := Bool) (fun k (_ : Unit) => spec_l6Order_b1 x0 k) (x0.length - 0) 0 ()))
set_option maxRecDepth 100000 in
theorem cb137 : Cb Try.prog 137 := ⟨Try.f137, _, Try.func137, rfl, by decide⟩
set_option maxRecDepth 10000 in
set_option maxHeartbeats 4000000 in
theorem spec_l6Order_c (w : World) (z0 : Value) (x0 : (List Int)) (r_0 : rdS tInt w w.heap.size z0 x0) :
    Calls Try.prog 137 #[z0] w fun e w' => e = .returned (.bool (spec_l6Order_m x0)) ∧ Below w.heap.size w w' := by
  have r5 := r_0
  obtain ⟨m1, A2, c3, rfl, q4⟩ := r_0
  refine call_enterM (L := [(0, .slice A2 x0.length c3)]) (N := 29) Try.func137 rfl rfl (Nat.le_of_ble_eq_true rfl) (argsL_cons rfl argsL_nil) ?_
  refine sr ?_
  refine wa ?_
  refine nt' ?_
  refine CM_seq ?_
  refine sr ?_
  refine wm ?_
  refine wv (fun W hm => rv_len Try.underlying27 rfl) ?_
  refine wv (fun W hm => rv_neq rfl rfl) ?_
  refine nt' ?_
  by_cases h6 : ((x0.length : Nat) : Int) = 3
  · have g7 : (((x0.length : Nat) : Int) != 3) = false := by rw [h6]; exact bne_self_eq_false _
    refine CM_condF rfl g7 ?_
    refine CM_skip ?_
    refine QM_then ?_
    refine CM_seq ?_
    refine sr ?_
    refine wa ?_
    refine nt' ?_
    refine CM_block ?_
    refine CM_loop (σ := Nat × (Unit) × (Unit)) (fun s => [(0, .slice A2 x0.length c3), (3, .int .i64 ((s.1 : Nat) : Int))]) (fun s => []) (fun s => s.1 ≤ x0.length ∧ rng (R := Bool) (fun k (_ : Unit) => spec_l6Order_b1 x0 k) (x0.length - s.1) s.1 s.2.1 = rng (R := Bool) (fun k (_ : Unit) => spec_l6Order_b1 x0 k) (x0.length - 0) 0 ()) (fun s => x0.length - s.1) (0, (), ()) (subL_cons rfl (subL_cons rfl subL_nil)) (fun W hm => hm) ⟨(by omega), rfl⟩ ?_
    rintro ⟨k8, ⟨⟩, ⟨⟩⟩ H11
    obtain ⟨hk9, hF10⟩ : k8 ≤ x0.length ∧ rng (R := Bool) (fun k (_ : Unit) => spec_l6Order_b1 x0 k) (x0.length - k8) k8 () = rng (R := Bool) (fun k (_ : Unit) => spec_l6Order_b1 x0 k) (x0.length - 0) 0 () := H11
    show CM Try.prog 29 _ _ _ _ [(0, .slice A2 x0.length c3), (3, .int .i64 ((k8 : Nat) : Int))] []
    refine CM_seq ?_
    refine sr ?_
    refine wm ?_
    refine wm ?_
    refine wv (fun W hm => rv_len Try.underlying27 rfl) ?_
    refine wv (fun W hm => rv_lss rfl rfl) ?_
    refine nt' ?_
    by_cases hl12 : k8 < x0.length
    · have g13 : (decide (((k8 : Nat) : Int) < ((x0.length : Nat) : Int))) = true := decide_eq_true (by omega)
      refine CM_condT rfl g13 ?_
      refine CM_skip ?_
      refine QM_then ?_
      refine CM_seq ?_
      refine CM_block ?_
      refine CM_seq ?_
      refine CM_regionD (by kernel_rfl) (by kernel_rfl) ?_
      refine qm ?_
      refine qm ?_
      obtain ⟨a14, rfl, hb15, he16⟩ := q4 (by omega)
      refine qv (fun W hm => rv_index (sz := 1) (k := k8) Try.underlying27 Try.type3 rfl rfl rfl (by omega)) ?_
      refine qv (fun W hm => rv_load Try.underlying3 rfl rfl ((hm.cell0 (show (a14.add (k8 * 1)).block < w.heap.size from by rw [add_block]; exact hb15.1)).trans (rdS_int he16 k8 (by omega)))) ?_
      refine QR_callV (cl_fn cb86 rfl) (fun W hm => spec_l1In_c W (gt x0 k8) 0 2) (Wd_none rfl) (by decide) ?_
      refine qv (fun W hm => rv_not rfl) ?_
      refine qm ?_
      rcases Bool.eq_false_or_eq_true (spec_l1In_m (gt x0 k8) 0 2) with g18 | g18
      ·
        have hw := spec_l1In_fact g18
        refine qg (fun W hm => rv_move rfl) (nt g18) ?_
        refine qg (fun W hm => rv_move rfl) (nt g18) ?_
        have hc21 := rdS_cap r5
        have r19 := rdS_take (k := k8) (by omega) r5
        refine qg (fun W hm => rv_sliceHi (k := k8) Try.underlying27 Try.type3 rfl rfl (by omega)) (nt g18) ?_
        refine qg (fun W hm => rv_move rfl) (nt g18) ?_
        refine qg (fun W hm => rv_move rfl) (nt g18) ?_
        refine qg (fun W hm => rv_index (sz := 1) (k := k8) Try.underlying27 Try.type3 rfl rfl rfl (by omega)) (nt g18) ?_
        refine qg (fun W hm => rv_load Try.underlying3 rfl rfl ((hm.cell0 (show (a14.add (k8 * 1)).block < w.heap.size from by rw [add_block]; exact hb15.1)).trans (rdS_int he16 k8 (by omega)))) (nt g18) ?_
        refine QR_callV (cl_fn cb148 rfl) (fun W hm => spec_HasMember_c W _ (List.take k8 x0) (gt x0 k8) (hm.rdS0 r19)) (Wd_some rfl rfl rfl (bw (nt g18) rfl)) (by decide) ?_
        refine qv (fun W hm => rv_pickF rfl (nt g18) rfl) ?_
        refine nq' ?_
        rcases Bool.eq_false_or_eq_true (spec_HasMember_m (List.take k8 x0) (gt x0 k8)) with g23 | g23
        ·
          refine CM_condT rfl g23 ?_
          refine sr ?_
          refine wa ?_
          refine nt' ?_
          refine CM_ret ?_
          refine QM_block_ret ?_
          refine QM_then_ret ?_
          refine QM_then_ret ?_
          refine QM_block_ret ?_
          refine QM_then_ret ?_
          exact QM_ret1 rfl rfl (fun W hm => ⟨ret_b (show spec_l6Order_m x0 = false from by unfold spec_l6Order_m; exact cond_f g7 (fin_inl (rng_ret (body := (fun k (_ : Unit) => spec_l6Order_b1 x0 k)) (k := k8) (s := ()) (show k8 < x0.length from by omega) (show spec_l6Order_b1 x0 k8 = Sum.inl false from by unfold spec_l6Order_b1; exact cond_t g18 (cond_t g23 (rfl))) hF10) rfl)), hm.below⟩)
        ·
          refine CM_condF rfl g23 ?_
          refine CM_skip ?_
          refine QM_block_normal ?_
          refine QM_then ?_
          refine CM_region ?_
          refine wm ?_
          refine wv (fun W hm => rv_addN (p := k8) (q := 1) rfl rfl (by omega)) ?_
          refine wa ?_
          refine WM_nil ?_
          have hn24 := rng_next (R := Bool) (body := (fun k (_ : Unit) => spec_l6Order_b1 x0 k)) (k := k8) (s := ()) (s' := ()) (show k8 < x0.length from by omega) (show spec_l6Order_b1 x0 k8 = Sum.inr () from by unfold spec_l6Order_b1; exact cond_t g18 (cond_f g23 (rfl))) hF10
          exact QM_round (k8 + 1, (), ()) (subL_cons rfl (subL_cons rfl subL_nil)) (fun W hm => hm) ⟨(by omega), hn24⟩ (show x0.length - (k8 + 1) < x0.length - k8 from by omega)
      ·
        refine qs (nf g18) ?_
        refine qs (nf g18) ?_
        refine qs (nf g18) ?_
        refine qs (nf g18) ?_
        refine qs (nf g18) ?_
        refine qs (nf g18) ?_
        refine qs (nf g18) ?_
        refine qs (nf g18) ?_
        refine qv (fun W hm => rv_pickT rfl (nf g18) rfl) ?_
        refine nq' ?_
        refine CM_condT rfl rfl ?_
        refine sr ?_
        refine wa ?_
        refine nt' ?_
        refine CM_ret ?_
        refine QM_block_ret ?_
        refine QM_then_ret ?_
        refine QM_then_ret ?_
        refine QM_block_ret ?_
        refine QM_then_ret ?_
        exact QM_ret1 rfl rfl (fun W hm => ⟨ret_b (show spec_l6Order_m x0 = false from by unfold spec_l6Order_m; exact cond_f g7 (fin_inl (rng_ret (body := (fun k (_ : Unit) => spec_l6Order_b1 x0 k)) (k := k8) (s := ()) (show k8 < x0.length from by omega) (show spec_l6Order_b1 x0 k8 = Sum.inl false from by unfold spec_l6Order_b1; exact cond_f g18 (rfl)) hF10) rfl)), hm.below⟩)
    · have g13 : (decide (((k8 : Nat) : Int) < ((x0.length : Nat) : Int))) = false := decide_eq_false (by omega)
      refine CM_condF rfl g13 ?_
      refine CM_exit ?_
      refine QM_then_exit ?_
      refine QM_then_exit ?_
      have hE25 : rng (R := Bool) (fun k (_ : Unit) => spec_l6Order_b1 x0 k) (x0.length - 0) 0 () = Sum.inr () := rng_end hl12 hF10
      refine QM_block_hit ?_
      refine QM_then ?_
      refine sr ?_
      refine wa ?_
      refine nt' ?_
      refine CM_ret ?_
      exact QM_ret1 rfl rfl (fun W hm => ⟨ret_b (show spec_l6Order_m x0 = true from by unfold spec_l6Order_m; exact cond_f g7 (fin_inr hE25 (rfl))), hm.below⟩)
  · have g7 : (((x0.length : Nat) : Int) != 3) = true := bne_iff_ne.2 h6
    refine CM_condT rfl g7 ?_
    refine sr ?_
    refine wa ?_
    refine nt' ?_
    refine CM_ret ?_
    refine QM_then_ret ?_
    exact QM_ret1 rfl rfl (fun W hm => ⟨ret_b (show spec_l6Order_m x0 = false from by unfold spec_l6Order_m; exact cond_t g7 (rfl)), hm.below⟩)

def spec_IsCond_m (x0 : DCond) : Bool :=
  cond (spec_l1In_m x0.Field 0 2) (cond (spec_l1In_m x0.Low 0 x0.High) (decide (x0.High ≤ 99)) false) false
set_option maxRecDepth 100000 in
theorem cb188 : Cb Try.prog 188 := ⟨Try.f188, _, Try.func188, rfl, by decide⟩
set_option maxRecDepth 10000 in
set_option maxHeartbeats 4000000 in
theorem spec_IsCond_c (w : World) (z0 : List Value) (x0 : DCond) (r_0 : tyCond.rd w w.heap.size z0 x0) :
    Calls Try.prog 188 #[.agg z0.toArray] w fun e w' => e = .returned (.bool (spec_IsCond_m x0)) ∧ Below w.heap.size w w' := by
  obtain rfl := tyCond_rd r_0
  refine call_enterM (L := [(0, .agg #[.int .i64 x0.Field, .int .i64 x0.Low, .int .i64 x0.High])]) (N := 18) Try.func188 rfl rfl (Nat.le_of_ble_eq_true rfl) (argsL_cons rfl argsL_nil) ?_
  refine sr ?_
  refine WM_box rfl (Wd_none rfl) (by decide) (fun p1 => ?_)
  refine wa ?_
  refine nt' ?_
  refine sr ?_
  refine wv (fun W hm => rv_field Try.underlying183 rfl Try.type3 (by decide) rfl rfl) ?_
  refine wv (fun W hm => rv_load Try.underlying3 rfl rfl (hm.boxCell (n := 0) (o := 0) rfl rfl)) ?_
  refine WM_callV (cl_fn cb86 rfl) (fun W hm => spec_l1In_c W x0.Field 0 2) (Wd_none rfl) (by decide) ?_
  refine wm ?_
  rcases Bool.eq_false_or_eq_true (spec_l1In_m x0.Field 0 2) with g3 | g3
  ·
    have hw := spec_l1In_fact g3
    refine wg (fun W hm => rv_field Try.underlying183 rfl Try.type3 (by decide) rfl rfl) g3 ?_
    refine wg (fun W hm => rv_load Try.underlying3 rfl rfl (hm.boxCell (n := 0) (o := 1) rfl rfl)) g3 ?_
    refine wg (fun W hm => rv_field Try.underlying183 rfl Try.type3 (by decide) rfl rfl) g3 ?_
    refine wg (fun W hm => rv_load Try.underlying3 rfl rfl (hm.boxCell (n := 0) (o := 2) rfl rfl)) g3 ?_
    refine WM_callV (cl_fn cb86 rfl) (fun W hm => spec_l1In_c W x0.Low 0 x0.High) (Wd_some rfl rfl rfl (bw g3 rfl)) (by decide) ?_
    refine wv (fun W hm => rv_pickT rfl g3 rfl) ?_
    refine wm ?_
    rcases Bool.eq_false_or_eq_true (spec_l1In_m x0.Low 0 x0.High) with g5 | g5
    ·
      have hw := spec_l1In_fact g5
      refine wg (fun W hm => rv_field Try.underlying183 rfl Try.type3 (by decide) rfl rfl) g5 ?_
      refine wg (fun W hm => rv_load Try.underlying3 rfl rfl (hm.boxCell (n := 0) (o := 2) rfl rfl)) g5 ?_
      refine wg (fun W hm => rv_leq rfl rfl) g5 ?_
      refine wv (fun W hm => rv_pickT rfl g5 rfl) ?_
      refine wa ?_
      refine nt' ?_
      refine CM_ret ?_
      exact QM_ret1 rfl rfl (fun W hm => ⟨ret_b (show spec_IsCond_m x0 = (decide (x0.High ≤ 99)) from by unfold spec_IsCond_m; exact cond_t g3 (cond_t g5 (rfl))), hm.below⟩)
    ·
      refine ws g5 ?_
      refine ws g5 ?_
      refine ws g5 ?_
      refine wv (fun W hm => rv_pickF rfl g5 rfl) ?_
      refine wa ?_
      refine nt' ?_
      refine CM_ret ?_
      exact QM_ret1 rfl rfl (fun W hm => ⟨ret_b (show spec_IsCond_m x0 = false from by unfold spec_IsCond_m; exact cond_t g3 (cond_f g5 (rfl))), hm.below⟩)
  ·
    refine ws g3 ?_
    refine ws g3 ?_
    refine ws g3 ?_
    refine ws g3 ?_
    refine ws g3 ?_
    refine wv (fun W hm => rv_pickF rfl g3 rfl) ?_
    refine wm ?_
    refine WM_skip (Wd_some rfl rfl rfl rfl) rfl (by decide) ?_
    refine WM_skip (Wd_some rfl rfl rfl rfl) rfl (by decide) ?_
    refine WM_skip (Wd_some rfl rfl rfl rfl) rfl (by decide) ?_
    refine wv (fun W hm => rv_pickF rfl rfl rfl) ?_
    refine wa ?_
    refine nt' ?_
    refine CM_ret ?_
    exact QM_ret1 rfl rfl (fun W hm => ⟨ret_b (show spec_IsCond_m x0 = false from by unfold spec_IsCond_m; exact cond_f g3 (rfl)), hm.below⟩)

def spec_l4Fields_b1 (x0 : (List Int)) (k6 : Nat) : Bool ⊕ (Unit) :=
  cond (spec_l1In_m (gt x0 k6) 0 2) (Sum.inr ()) (Sum.inl false)
def spec_l4Fields_m (x0 : (List Int)) : Bool :=
  Sum.elim id (fun (s : Unit) => (spec_l1In_m ((x0.length : Nat) : Int) 1 3)) (rng (R := Bool) (fun k (_ : Unit) => spec_l4Fields_b1 x0 k) (x0.length - 0) 0 ())
set_option maxRecDepth 100000 in
theorem cb189 : Cb Try.prog 189 := ⟨Try.f189, _, Try.func189, rfl, by decide⟩
set_option maxRecDepth 10000 in
set_option maxHeartbeats 4000000 in
theorem spec_l4Fields_c (w : World) (z0 : Value) (x0 : (List Int)) (r_0 : rdS tInt w w.heap.size z0 x0) :
    Calls Try.prog 189 #[z0] w fun e w' => e = .returned (.bool (spec_l4Fields_m x0)) ∧ Below w.heap.size w w' := by
  have r5 := r_0
  obtain ⟨m1, A2, c3, rfl, q4⟩ := r_0
  refine call_enterM (L := [(0, .slice A2 x0.length c3)]) (N := 19) Try.func189 rfl rfl (Nat.le_of_ble_eq_true rfl) (argsL_cons rfl argsL_nil) ?_
  refine sr ?_
  refine wa ?_
  refine nt' ?_
  refine CM_seq ?_
  refine sr ?_
  refine wa ?_
  refine nt' ?_
  refine CM_block ?_
  refine CM_loop (σ := Nat × (Unit) × (Unit)) (fun s => [(0, .slice A2 x0.length c3), (3, .int .i64 ((s.1 : Nat) : Int))]) (fun s => []) (fun s => s.1 ≤ x0.length ∧ rng (R := Bool) (fun k (_ : Unit) => spec_l4Fields_b1 x0 k) (x0.length - s.1) s.1 s.2.1 = rng (R := Bool) (fun k (_ : Unit) => spec_l4Fields_b1 x0 k) (x0.length - 0) 0 ()) (fun s => x0.length - s.1) (0, (), ()) (subL_cons rfl (subL_cons rfl subL_nil)) (fun W hm => hm) ⟨(by omega), rfl⟩ ?_
  rintro ⟨k6, ⟨⟩, ⟨⟩⟩ H9
  obtain ⟨hk7, hF8⟩ : k6 ≤ x0.length ∧ rng (R := Bool) (fun k (_ : Unit) => spec_l4Fields_b1 x0 k) (x0.length - k6) k6 () = rng (R := Bool) (fun k (_ : Unit) => spec_l4Fields_b1 x0 k) (x0.length - 0) 0 () := H9
  show CM Try.prog 19 _ _ _ _ [(0, .slice A2 x0.length c3), (3, .int .i64 ((k6 : Nat) : Int))] []
  refine CM_seq ?_
  refine sr ?_
  refine wm ?_
  refine wm ?_
  refine wv (fun W hm => rv_len Try.underlying27 rfl) ?_
  refine wv (fun W hm => rv_lss rfl rfl) ?_
  refine nt' ?_
  by_cases hl10 : k6 < x0.length
  · have g11 : (decide (((k6 : Nat) : Int) < ((x0.length : Nat) : Int))) = true := decide_eq_true (by omega)
    refine CM_condT rfl g11 ?_
    refine CM_skip ?_
    refine QM_then ?_
    refine CM_seq ?_
    refine CM_block ?_
    refine sr ?_
    refine wm ?_
    refine wm ?_
    obtain ⟨a12, rfl, hb13, he14⟩ := q4 (by omega)
    refine wv (fun W hm => rv_index (sz := 1) (k := k6) Try.underlying27 Try.type3 rfl rfl rfl (by omega)) ?_
    refine wv (fun W hm => rv_load Try.underlying3 rfl rfl ((hm.cell0 (show (a12.add (k6 * 1)).block < w.heap.size from by rw [add_block]; exact hb13.1)).trans (rdS_int he14 k6 (by omega)))) ?_
    refine WM_callV (cl_fn cb86 rfl) (fun W hm => spec_l1In_c W (gt x0 k6) 0 2) (Wd_none rfl) (by decide) ?_
    refine wv (fun W hm => rv_not rfl) ?_
    refine nt' ?_
    rcases Bool.eq_false_or_eq_true (spec_l1In_m (gt x0 k6) 0 2) with g16 | g16
    ·
      have hw := spec_l1In_fact g16
      refine CM_condF rfl (nt g16) ?_
      refine CM_skip ?_
      refine QM_block_normal ?_
      refine QM_then ?_
      refine CM_region ?_
      refine wm ?_
      refine wv (fun W hm => rv_addN (p := k6) (q := 1) rfl rfl (by omega)) ?_
      refine wa ?_
      refine WM_nil ?_
      have hn17 := rng_next (R := Bool) (body := (fun k (_ : Unit) => spec_l4Fields_b1 x0 k)) (k := k6) (s := ()) (s' := ()) (show k6 < x0.length from by omega) (show spec_l4Fields_b1 x0 k6 = Sum.inr () from by unfold spec_l4Fields_b1; exact cond_t g16 (rfl)) hF8
      exact QM_round (k6 + 1, (), ()) (subL_cons rfl (subL_cons rfl subL_nil)) (fun W hm => hm) ⟨(by omega), hn17⟩ (show x0.length - (k6 + 1) < x0.length - k6 from by omega)
    ·
      refine CM_condT rfl (nf g16) ?_
      refine sr ?_
      refine wa ?_
      refine nt' ?_
      refine CM_ret ?_
      refine QM_block_ret ?_
      refine QM_then_ret ?_
      refine QM_then_ret ?_
      refine QM_block_ret ?_
      refine QM_then_ret ?_
      exact QM_ret1 rfl rfl (fun W hm => ⟨ret_b (show spec_l4Fields_m x0 = false from by unfold spec_l4Fields_m; exact fin_inl (rng_ret (body := (fun k (_ : Unit) => spec_l4Fields_b1 x0 k)) (k := k6) (s := ()) (show k6 < x0.length from by omega) (show spec_l4Fields_b1 x0 k6 = Sum.inl false from by unfold spec_l4Fields_b1; exact cond_f g16 (rfl)) hF8) rfl), hm.below⟩)
  · have g11 : (decide (((k6 : Nat) : Int) < ((x0.length : Nat) : Int))) = false := decide_eq_false (by omega)
    refine CM_condF rfl g11 ?_
    refine CM_exit ?_
    refine QM_then_exit ?_
    refine QM_then_exit ?_
    have hE18 : rng (R := Bool) (fun k (_ : Unit) => spec_l4Fields_b1 x0 k) (x0.length - 0) 0 () = Sum.inr () := rng_end hl10 hF8
    refine QM_block_hit ?_
    refine QM_then ?_
    refine sr ?_
    refine wm ?_
    refine wv (fun W hm => rv_len Try.underlying27 rfl) ?_
    refine WM_callV (cl_fn cb86 rfl) (fun W hm => spec_l1In_c W ((x0.length : Nat) : Int) 1 3) (Wd_none rfl) (by decide) ?_
    refine wa ?_
    refine nt' ?_
    refine CM_ret ?_
    exact QM_ret1 rfl rfl (fun W hm => ⟨ret_b (show spec_l4Fields_m x0 = (spec_l1In_m ((x0.length : Nat) : Int) 1 3) from by unfold spec_l4Fields_m; exact fin_inr hE18 (rfl)), hm.below⟩)

def spec_IsQuery_b1 (x0 : DQuery) (k16 : Nat) : Bool ⊕ (Unit) :=
  cond (spec_IsCond_m (gt x0.Conds k16)) (cond (decide (0 < ((k16 : Nat) : Int))) (cond (decide (((gt x0.Conds k16).Field) ≤ ((gt x0.Conds (k16 - 1)).Field))) (Sum.inl false) (Sum.inr ())) (Sum.inr ())) (Sum.inl false)
def spec_IsQuery_m (x0 : DQuery) : Bool :=
  Sum.elim id (fun (s : Unit) => cond (spec_l1In_m x0.Id 0 23) (cond (spec_l1In_m x0.Tenant 0 3) (cond (decide (((x0.Conds.length : Nat) : Int) ≤ 3)) (spec_l4Fields_m x0.Out) false) false) false) (rng (R := Bool) (fun k (_ : Unit) => spec_IsQuery_b1 x0 k) (x0.Conds.length - 0) 0 ())
set_option maxRecDepth 100000 in
theorem cb139 : Cb Try.prog 139 := ⟨Try.f139, _, Try.func139, rfl, by decide⟩
set_option maxRecDepth 10000 in
set_option maxHeartbeats 4000000 in
theorem spec_IsQuery_c (w : World) (z0 : List Value) (x0 : DQuery) (r_0 : tyQuery.rd w w.heap.size z0 x0) :
    Calls Try.prog 139 #[.agg z0.toArray] w fun e w' => e = .returned (.bool (spec_IsQuery_m x0)) ∧ Below w.heap.size w w' := by
  obtain ⟨v1, v3, rfl, r2, r4⟩ := tyQuery_rd r_0
  have r9 := r2
  obtain ⟨m5, A6, c7, rfl, q8⟩ := r2
  have r14 := r4
  obtain ⟨m10, A11, c12, rfl, q13⟩ := r4
  refine call_enterM (L := [(0, .agg #[.int .i64 x0.Id, .int .i64 x0.Tenant, .slice A6 x0.Conds.length c7, .slice A11 x0.Out.length c12])]) (N := 57) Try.func139 rfl rfl (Nat.le_of_ble_eq_true rfl) (argsL_cons rfl argsL_nil) ?_
  refine sr ?_
  refine WM_box rfl (Wd_none rfl) (by decide) (fun p15 => ?_)
  refine wa ?_
  refine nt' ?_
  refine CM_seq ?_
  refine sr ?_
  refine wa ?_
  refine nt' ?_
  refine CM_block ?_
  refine CM_loop (σ := Nat × (Unit) × (Unit)) (fun s => [(1, .pointer (some (⟨p15, 0, none⟩ : Addr))), (3, .int .i64 ((s.1 : Nat) : Int))]) (fun s => [iBox p15 125 [.int .i64 x0.Id, .int .i64 x0.Tenant, .slice A6 x0.Conds.length c7, .slice A11 x0.Out.length c12]]) (fun s => s.1 ≤ x0.Conds.length ∧ rng (R := Bool) (fun k (_ : Unit) => spec_IsQuery_b1 x0 k) (x0.Conds.length - s.1) s.1 s.2.1 = rng (R := Bool) (fun k (_ : Unit) => spec_IsQuery_b1 x0 k) (x0.Conds.length - 0) 0 ()) (fun s => x0.Conds.length - s.1) (0, (), ()) (subL_cons rfl (subL_cons rfl subL_nil)) (fun W hm => hm) ⟨(by omega), rfl⟩ ?_
  rintro ⟨k16, ⟨⟩, ⟨⟩⟩ H19
  obtain ⟨hk17, hF18⟩ : k16 ≤ x0.Conds.length ∧ rng (R := Bool) (fun k (_ : Unit) => spec_IsQuery_b1 x0 k) (x0.Conds.length - k16) k16 () = rng (R := Bool) (fun k (_ : Unit) => spec_IsQuery_b1 x0 k) (x0.Conds.length - 0) 0 () := H19
  show CM Try.prog 57 _ _ _ _ [(1, .pointer (some (⟨p15, 0, none⟩ : Addr))), (3, .int .i64 ((k16 : Nat) : Int))] [iBox p15 125 [.int .i64 x0.Id, .int .i64 x0.Tenant, .slice A6 x0.Conds.length c7, .slice A11 x0.Out.length c12]]
  refine CM_seq ?_
  refine sr ?_
  refine wm ?_
  refine wv (fun W hm => rv_field Try.underlying125 rfl Try.type123 (by decide) rfl rfl) ?_
  refine wv (fun W hm => rv_load Try.underlying123 rfl rfl (hm.boxCell (n := 0) (o := 2) rfl rfl)) ?_
  refine wv (fun W hm => rv_len Try.underlying123 rfl) ?_
  refine wv (fun W hm => rv_lss rfl rfl) ?_
  refine nt' ?_
  by_cases hl20 : k16 < x0.Conds.length
  · have g21 : (decide (((k16 : Nat) : Int) < ((x0.Conds.length : Nat) : Int))) = true := decide_eq_true (by omega)
    refine CM_condT rfl g21 ?_
    refine CM_skip ?_
    refine QM_then ?_
    refine CM_seq ?_
    refine CM_block ?_
    refine CM_seq ?_
    refine CM_regionD (by kernel_rfl) (by kernel_rfl) ?_
    refine qv (fun W hm => rv_field Try.underlying125 rfl Try.type123 (by decide) rfl rfl) ?_
    refine qv (fun W hm => rv_load Try.underlying123 rfl rfl (hm.boxCell (n := 0) (o := 2) rfl rfl)) ?_
    refine qm ?_
    obtain ⟨a22, rfl, hb23, he24⟩ := q8 (by omega)
    refine qv (fun W hm => rv_index (sz := 3) (k := k16) Try.underlying123 Try.type183 rfl rfl rfl (by omega)) ?_
    obtain ⟨_, e26, hc25⟩ := he24 k16 _ (gt_some (show k16 < x0.Conds.length from by omega))
    obtain rfl := tyCond_rd e26
    refine qv (fun W hm => rv_loadN (cs := [.int .i64 ((gt x0.Conds k16).Field), .int .i64 ((gt x0.Conds k16).Low), .int .i64 ((gt x0.Conds k16).High)]) Try.underlying183 Try.type183 rfl rfl (hm.elCells (show (a22.add (k16 * 3)).block < w.heap.size from by rw [add_block]; exact hb23.1) hc25)) ?_
    refine QR_callV (cl_fn cb188 rfl) (fun W hm => spec_IsCond_c W _ (gt x0.Conds k16) (tyCond_mk (x := (gt x0.Conds k16)))) (Wd_none rfl) (by decide) ?_
    refine qv (fun W hm => rv_not rfl) ?_
    refine qm ?_
    rcases Bool.eq_false_or_eq_true (spec_IsCond_m (gt x0.Conds k16)) with g28 | g28
    ·
      refine qg (fun W hm => rv_move rfl) (nt g28) ?_
      refine qg (fun W hm => rv_gtr rfl rfl) (nt g28) ?_
      refine qg (fun W hm => rv_move rfl) (nt g28) ?_
      by_cases h29 : 0 < ((k16 : Nat) : Int)
      · have g30 : (decide (0 < ((k16 : Nat) : Int))) = true := decide_eq_true h29
        refine qg (fun W hm => rv_field Try.underlying125 rfl Try.type123 (by decide) rfl rfl) g30 ?_
        refine qg (fun W hm => rv_load Try.underlying123 rfl rfl (hm.boxCell (n := 0) (o := 2) rfl rfl)) g30 ?_
        refine qg (fun W hm => rv_move rfl) g30 ?_
        refine qg (fun W hm => rv_index (sz := 3) (k := k16) Try.underlying123 Try.type183 rfl rfl rfl (by omega)) g30 ?_
        refine qg (fun W hm => rv_field Try.underlying183 rfl Try.type3 (by decide) rfl rfl) g30 ?_
        refine qg (fun W hm => rv_load Try.underlying3 rfl rfl ((hm.cell0 (show ((a22.add (k16 * 3)).add 0).block < w.heap.size from by rw [add_block, add_block]; exact hb23.1)).trans (hc25 0 _ rfl))) g30 ?_
        refine qg (fun W hm => rv_field Try.underlying125 rfl Try.type123 (by decide) rfl rfl) g30 ?_
        refine qg (fun W hm => rv_load Try.underlying123 rfl rfl (hm.boxCell (n := 0) (o := 2) rfl rfl)) g30 ?_
        refine qg (fun W hm => rv_move rfl) g30 ?_
        refine qg (fun W hm => rv_subN (p := k16) (q := 1) rfl rfl (by omega) (by omega)) g30 ?_
        refine qg (fun W hm => rv_index (sz := 3) (k := k16 - 1) Try.underlying123 Try.type183 rfl rfl rfl (by omega)) g30 ?_
        refine qg (fun W hm => rv_field Try.underlying183 rfl Try.type3 (by decide) rfl rfl) g30 ?_
        obtain ⟨_, e32, hc31⟩ := he24 (k16 - 1) _ (gt_some (show (k16 - 1) < x0.Conds.length from by omega))
        obtain rfl := tyCond_rd e32
        refine qg (fun W hm => rv_load Try.underlying3 rfl rfl ((hm.cell0 (show ((a22.add ((k16 - 1) * 3)).add 0).block < w.heap.size from by rw [add_block, add_block]; exact hb23.1)).trans (hc31 0 _ rfl))) g30 ?_
        refine qg (fun W hm => rv_leq rfl rfl) g30 ?_
        refine qg (fun W hm => rv_pickT rfl g30 rfl) (nt g28) ?_
        refine qv (fun W hm => rv_pickF rfl (nt g28) rfl) ?_
        refine nq' ?_
        by_cases h33 : ((gt x0.Conds k16).Field) ≤ ((gt x0.Conds (k16 - 1)).Field)
        · have g34 : (decide (((gt x0.Conds k16).Field) ≤ ((gt x0.Conds (k16 - 1)).Field))) = true := decide_eq_true h33
          refine CM_condT rfl g34 ?_
          refine sr ?_
          refine wa ?_
          refine nt' ?_
          refine CM_ret ?_
          refine QM_block_ret ?_
          refine QM_then_ret ?_
          refine QM_then_ret ?_
          refine QM_block_ret ?_
          refine QM_then_ret ?_
          exact QM_ret1 rfl rfl (fun W hm => ⟨ret_b (show spec_IsQuery_m x0 = false from by unfold spec_IsQuery_m; exact fin_inl (rng_ret (body := (fun k (_ : Unit) => spec_IsQuery_b1 x0 k)) (k := k16) (s := ()) (show k16 < x0.Conds.length from by omega) (show spec_IsQuery_b1 x0 k16 = Sum.inl false from by unfold spec_IsQuery_b1; exact cond_t g28 (cond_t g30 (cond_t g34 (rfl)))) hF18) rfl), hm.below⟩)
        · have g34 : (decide (((gt x0.Conds k16).Field) ≤ ((gt x0.Conds (k16 - 1)).Field))) = false := decide_eq_false h33
          refine CM_condF rfl g34 ?_
          refine CM_skip ?_
          refine QM_block_normal ?_
          refine QM_then ?_
          refine CM_region ?_
          refine wm ?_
          refine wv (fun W hm => rv_addN (p := k16) (q := 1) rfl rfl (by omega)) ?_
          refine wa ?_
          refine WM_nil ?_
          have hn35 := rng_next (R := Bool) (body := (fun k (_ : Unit) => spec_IsQuery_b1 x0 k)) (k := k16) (s := ()) (s' := ()) (show k16 < x0.Conds.length from by omega) (show spec_IsQuery_b1 x0 k16 = Sum.inr () from by unfold spec_IsQuery_b1; exact cond_t g28 (cond_t g30 (cond_f g34 (rfl)))) hF18
          exact QM_round (k16 + 1, (), ()) (subL_cons rfl (subL_cons rfl subL_nil)) (fun W hm => hm) ⟨(by omega), hn35⟩ (show x0.Conds.length - (k16 + 1) < x0.Conds.length - k16 from by omega)
      · have g30 : (decide (0 < ((k16 : Nat) : Int))) = false := decide_eq_false h29
        refine qs g30 ?_
        refine qs g30 ?_
        refine qs g30 ?_
        refine qs g30 ?_
        refine qs g30 ?_
        refine qs g30 ?_
        refine qs g30 ?_
        refine qs g30 ?_
        refine qs g30 ?_
        refine qs g30 ?_
        refine qs g30 ?_
        refine qs g30 ?_
        refine qs g30 ?_
        refine qs g30 ?_
        refine qg (fun W hm => rv_pickF rfl g30 rfl) (nt g28) ?_
        refine qv (fun W hm => rv_pickF rfl (nt g28) rfl) ?_
        refine nq' ?_
        refine CM_condF rfl rfl ?_
        refine CM_skip ?_
        refine QM_block_normal ?_
        refine QM_then ?_
        refine CM_region ?_
        refine wm ?_
        refine wv (fun W hm => rv_addN (p := k16) (q := 1) rfl rfl (by omega)) ?_
        refine wa ?_
        refine WM_nil ?_
        have hn36 := rng_next (R := Bool) (body := (fun k (_ : Unit) => spec_IsQuery_b1 x0 k)) (k := k16) (s := ()) (s' := ()) (show k16 < x0.Conds.length from by omega) (show spec_IsQuery_b1 x0 k16 = Sum.inr () from by unfold spec_IsQuery_b1; exact cond_t g28 (cond_f g30 (rfl))) hF18
        exact QM_round (k16 + 1, (), ()) (subL_cons rfl (subL_cons rfl subL_nil)) (fun W hm => hm) ⟨(by omega), hn36⟩ (show x0.Conds.length - (k16 + 1) < x0.Conds.length - k16 from by omega)
    ·
      refine qs (nf g28) ?_
      refine qs (nf g28) ?_
      refine qs (nf g28) ?_
      refine qu ?_
      refine qu ?_
      refine qu ?_
      refine qu ?_
      refine qu ?_
      refine qu ?_
      refine qu ?_
      refine qu ?_
      refine qu ?_
      refine qu ?_
      refine qu ?_
      refine qu ?_
      refine qu ?_
      refine qu ?_
      refine qs (nf g28) ?_
      refine qv (fun W hm => rv_pickT rfl (nf g28) rfl) ?_
      refine nq' ?_
      refine CM_condT rfl rfl ?_
      refine sr ?_
      refine wa ?_
      refine nt' ?_
      refine CM_ret ?_
      refine QM_block_ret ?_
      refine QM_then_ret ?_
      refine QM_then_ret ?_
      refine QM_block_ret ?_
      refine QM_then_ret ?_
      exact QM_ret1 rfl rfl (fun W hm => ⟨ret_b (show spec_IsQuery_m x0 = false from by unfold spec_IsQuery_m; exact fin_inl (rng_ret (body := (fun k (_ : Unit) => spec_IsQuery_b1 x0 k)) (k := k16) (s := ()) (show k16 < x0.Conds.length from by omega) (show spec_IsQuery_b1 x0 k16 = Sum.inl false from by unfold spec_IsQuery_b1; exact cond_f g28 (rfl)) hF18) rfl), hm.below⟩)
  · have g21 : (decide (((k16 : Nat) : Int) < ((x0.Conds.length : Nat) : Int))) = false := decide_eq_false (by omega)
    refine CM_condF rfl g21 ?_
    refine CM_exit ?_
    refine QM_then_exit ?_
    refine QM_then_exit ?_
    have hE37 : rng (R := Bool) (fun k (_ : Unit) => spec_IsQuery_b1 x0 k) (x0.Conds.length - 0) 0 () = Sum.inr () := rng_end hl20 hF18
    refine QM_block_hit ?_
    refine QM_then ?_
    refine sr ?_
    refine wv (fun W hm => rv_field Try.underlying125 rfl Try.type3 (by decide) rfl rfl) ?_
    refine wv (fun W hm => rv_load Try.underlying3 rfl rfl (hm.boxCell (n := 0) (o := 0) rfl rfl)) ?_
    refine WM_callV (cl_fn cb86 rfl) (fun W hm => spec_l1In_c W x0.Id 0 23) (Wd_none rfl) (by decide) ?_
    refine wm ?_
    rcases Bool.eq_false_or_eq_true (spec_l1In_m x0.Id 0 23) with g39 | g39
    ·
      have hw := spec_l1In_fact g39
      refine wg (fun W hm => rv_field Try.underlying125 rfl Try.type3 (by decide) rfl rfl) g39 ?_
      refine wg (fun W hm => rv_load Try.underlying3 rfl rfl (hm.boxCell (n := 0) (o := 1) rfl rfl)) g39 ?_
      refine WM_callV (cl_fn cb86 rfl) (fun W hm => spec_l1In_c W x0.Tenant 0 3) (Wd_some rfl rfl rfl (bw g39 rfl)) (by decide) ?_
      refine wv (fun W hm => rv_pickT rfl g39 rfl) ?_
      refine wm ?_
      rcases Bool.eq_false_or_eq_true (spec_l1In_m x0.Tenant 0 3) with g41 | g41
      ·
        have hw := spec_l1In_fact g41
        refine wg (fun W hm => rv_field Try.underlying125 rfl Try.type123 (by decide) rfl rfl) g41 ?_
        refine wg (fun W hm => rv_load Try.underlying123 rfl rfl (hm.boxCell (n := 0) (o := 2) rfl rfl)) g41 ?_
        refine wg (fun W hm => rv_len Try.underlying123 rfl) g41 ?_
        refine wg (fun W hm => rv_leq rfl rfl) g41 ?_
        refine wv (fun W hm => rv_pickT rfl g41 rfl) ?_
        refine wm ?_
        by_cases h42 : ((x0.Conds.length : Nat) : Int) ≤ 3
        · have g43 : (decide (((x0.Conds.length : Nat) : Int) ≤ 3)) = true := decide_eq_true h42
          refine wg (fun W hm => rv_field Try.underlying125 rfl Try.type27 (by decide) rfl rfl) g43 ?_
          refine wg (fun W hm => rv_load Try.underlying27 rfl rfl (hm.boxCell (n := 0) (o := 3) rfl rfl)) g43 ?_
          refine WM_callV (cl_fn cb189 rfl) (fun W hm => spec_l4Fields_c W _ x0.Out (hm.rdS0 r14)) (Wd_some rfl rfl rfl (bw g43 rfl)) (by decide) ?_
          refine wv (fun W hm => rv_pickT rfl g43 rfl) ?_
          refine wa ?_
          refine nt' ?_
          refine CM_ret ?_
          exact QM_ret1 rfl rfl (fun W hm => ⟨ret_b (show spec_IsQuery_m x0 = (spec_l4Fields_m x0.Out) from by unfold spec_IsQuery_m; exact fin_inr hE37 (cond_t g39 (cond_t g41 (cond_t g43 (rfl))))), hm.below⟩)
        · have g43 : (decide (((x0.Conds.length : Nat) : Int) ≤ 3)) = false := decide_eq_false h42
          refine ws g43 ?_
          refine ws g43 ?_
          refine ws g43 ?_
          refine wv (fun W hm => rv_pickF rfl g43 rfl) ?_
          refine wa ?_
          refine nt' ?_
          refine CM_ret ?_
          exact QM_ret1 rfl rfl (fun W hm => ⟨ret_b (show spec_IsQuery_m x0 = false from by unfold spec_IsQuery_m; exact fin_inr hE37 (cond_t g39 (cond_t g41 (cond_f g43 (rfl))))), hm.below⟩)
      ·
        refine ws g41 ?_
        refine ws g41 ?_
        refine ws g41 ?_
        refine ws g41 ?_
        refine wv (fun W hm => rv_pickF rfl g41 rfl) ?_
        refine wm ?_
        refine WM_skip (Wd_some rfl rfl rfl rfl) rfl (by decide) ?_
        refine WM_skip (Wd_some rfl rfl rfl rfl) rfl (by decide) ?_
        refine WM_skip (Wd_some rfl rfl rfl rfl) rfl (by decide) ?_
        refine wv (fun W hm => rv_pickF rfl rfl rfl) ?_
        refine wa ?_
        refine nt' ?_
        refine CM_ret ?_
        exact QM_ret1 rfl rfl (fun W hm => ⟨ret_b (show spec_IsQuery_m x0 = false from by unfold spec_IsQuery_m; exact fin_inr hE37 (cond_t g39 (cond_f g41 (rfl)))), hm.below⟩)
    ·
      refine ws g39 ?_
      refine ws g39 ?_
      refine ws g39 ?_
      refine wv (fun W hm => rv_pickF rfl g39 rfl) ?_
      refine wm ?_
      refine WM_skip (Wd_some rfl rfl rfl rfl) rfl (by decide) ?_
      refine WM_skip (Wd_some rfl rfl rfl rfl) rfl (by decide) ?_
      refine WM_skip (Wd_some rfl rfl rfl rfl) rfl (by decide) ?_
      refine WM_skip (Wd_some rfl rfl rfl rfl) rfl (by decide) ?_
      refine wv (fun W hm => rv_pickF rfl rfl rfl) ?_
      refine wm ?_
      refine WM_skip (Wd_some rfl rfl rfl rfl) rfl (by decide) ?_
      refine WM_skip (Wd_some rfl rfl rfl rfl) rfl (by decide) ?_
      refine WM_skip (Wd_some rfl rfl rfl rfl) rfl (by decide) ?_
      refine wv (fun W hm => rv_pickF rfl rfl rfl) ?_
      refine wa ?_
      refine nt' ?_
      refine CM_ret ?_
      exact QM_ret1 rfl rfl (fun W hm => ⟨ret_b (show spec_IsQuery_m x0 = false from by unfold spec_IsQuery_m; exact fin_inr hE37 (cond_f g39 (rfl))), hm.below⟩)

def spec_l9Todo_b1 (x0 : (List Int)) (x1 : Int) (k6 : Nat) : Bool ⊕ (Unit) :=
  cond (spec_l1In_m (gt x0 k6) 0 (IntKind.i64.wrap (x1 - 1))) (cond (decide (0 < ((k6 : Nat) : Int))) (cond (decide ((gt x0 k6) ≤ (gt x0 (k6 - 1)))) (Sum.inl false) (Sum.inr ())) (Sum.inr ())) (Sum.inl false)
def spec_l9Todo_m (x0 : (List Int)) (x1 : Int) : Bool :=
  Sum.elim id (fun (s : Unit) => (decide (0 < ((x0.length : Nat) : Int)))) (rng (R := Bool) (fun k (_ : Unit) => spec_l9Todo_b1 x0 x1 k) (x0.length - 0) 0 ())
set_option maxRecDepth 100000 in
theorem cb187 : Cb Try.prog 187 := ⟨Try.f187, _, Try.func187, rfl, by decide⟩
set_option maxRecDepth 10000 in
set_option maxHeartbeats 4000000 in
theorem spec_l9Todo_c (w : World) (z0 : Value) (x0 : (List Int)) (x1 : Int) (r_0 : rdS tInt w w.heap.size z0 x0) :
    Calls Try.prog 187 #[z0, .int .i64 x1] w fun e w' => e = .returned (.bool (spec_l9Todo_m x0 x1)) ∧ Below w.heap.size w w' := by
  have r5 := r_0
  obtain ⟨m1, A2, c3, rfl, q4⟩ := r_0
  refine call_enterM (L := [(0, .slice A2 x0.length c3), (1, .int .i64 x1)]) (N := 39) Try.func187 rfl rfl (Nat.le_of_ble_eq_true rfl) (argsL_cons rfl (argsL_cons rfl argsL_nil)) ?_
  refine sr ?_
  refine wa ?_
  refine nt' ?_
  refine CM_seq ?_
  refine sr ?_
  refine wa ?_
  refine nt' ?_
  refine CM_block ?_
  refine CM_loop (σ := Nat × (Unit) × (Unit)) (fun s => [(0, .slice A2 x0.length c3), (1, .int .i64 x1), (5, .int .i64 ((s.1 : Nat) : Int))]) (fun s => []) (fun s => s.1 ≤ x0.length ∧ rng (R := Bool) (fun k (_ : Unit) => spec_l9Todo_b1 x0 x1 k) (x0.length - s.1) s.1 s.2.1 = rng (R := Bool) (fun k (_ : Unit) => spec_l9Todo_b1 x0 x1 k) (x0.length - 0) 0 ()) (fun s => x0.length - s.1) (0, (), ()) (subL_cons rfl (subL_cons rfl (subL_cons rfl subL_nil))) (fun W hm => hm) ⟨(by omega), rfl⟩ ?_
  rintro ⟨k6, ⟨⟩, ⟨⟩⟩ H9
  obtain ⟨hk7, hF8⟩ : k6 ≤ x0.length ∧ rng (R := Bool) (fun k (_ : Unit) => spec_l9Todo_b1 x0 x1 k) (x0.length - k6) k6 () = rng (R := Bool) (fun k (_ : Unit) => spec_l9Todo_b1 x0 x1 k) (x0.length - 0) 0 () := H9
  show CM Try.prog 39 _ _ _ _ [(0, .slice A2 x0.length c3), (1, .int .i64 x1), (5, .int .i64 ((k6 : Nat) : Int))] []
  refine CM_seq ?_
  refine sr ?_
  refine wm ?_
  refine wm ?_
  refine wv (fun W hm => rv_len Try.underlying27 rfl) ?_
  refine wv (fun W hm => rv_lss rfl rfl) ?_
  refine nt' ?_
  by_cases hl10 : k6 < x0.length
  · have g11 : (decide (((k6 : Nat) : Int) < ((x0.length : Nat) : Int))) = true := decide_eq_true (by omega)
    refine CM_condT rfl g11 ?_
    refine CM_skip ?_
    refine QM_then ?_
    refine CM_seq ?_
    refine CM_block ?_
    refine CM_seq ?_
    refine CM_regionD (by kernel_rfl) (by kernel_rfl) ?_
    refine qm ?_
    refine qm ?_
    obtain ⟨a12, rfl, hb13, he14⟩ := q4 (by omega)
    refine qv (fun W hm => rv_index (sz := 1) (k := k6) Try.underlying27 Try.type3 rfl rfl rfl (by omega)) ?_
    refine qv (fun W hm => rv_load Try.underlying3 rfl rfl ((hm.cell0 (show (a12.add (k6 * 1)).block < w.heap.size from by rw [add_block]; exact hb13.1)).trans (rdS_int he14 k6 (by omega)))) ?_
    refine qm ?_
    refine qv (fun W hm => rv_sub rfl rfl) ?_
    refine QR_callV (cl_fn cb86 rfl) (fun W hm => spec_l1In_c W (gt x0 k6) 0 (IntKind.i64.wrap (x1 - 1))) (Wd_none rfl) (by decide) ?_
    refine qv (fun W hm => rv_not rfl) ?_
    refine qm ?_
    rcases Bool.eq_false_or_eq_true (spec_l1In_m (gt x0 k6) 0 (IntKind.i64.wrap (x1 - 1))) with g16 | g16
    ·
      have hw := spec_l1In_fact g16
      refine qg (fun W hm => rv_move rfl) (nt g16) ?_
      refine qg (fun W hm => rv_gtr rfl rfl) (nt g16) ?_
      refine qg (fun W hm => rv_move rfl) (nt g16) ?_
      by_cases h17 : 0 < ((k6 : Nat) : Int)
      · have g18 : (decide (0 < ((k6 : Nat) : Int))) = true := decide_eq_true h17
        refine qg (fun W hm => rv_move rfl) g18 ?_
        refine qg (fun W hm => rv_move rfl) g18 ?_
        refine qg (fun W hm => rv_index (sz := 1) (k := k6) Try.underlying27 Try.type3 rfl rfl rfl (by omega)) g18 ?_
        refine qg (fun W hm => rv_load Try.underlying3 rfl rfl ((hm.cell0 (show (a12.add (k6 * 1)).block < w.heap.size from by rw [add_block]; exact hb13.1)).trans (rdS_int he14 k6 (by omega)))) g18 ?_
        refine qg (fun W hm => rv_move rfl) g18 ?_
        refine qg (fun W hm => rv_move rfl) g18 ?_
        refine qg (fun W hm => rv_subN (p := k6) (q := 1) rfl rfl (by omega) (by omega)) g18 ?_
        refine qg (fun W hm => rv_index (sz := 1) (k := k6 - 1) Try.underlying27 Try.type3 rfl rfl rfl (by omega)) g18 ?_
        refine qg (fun W hm => rv_load Try.underlying3 rfl rfl ((hm.cell0 (show (a12.add ((k6 - 1) * 1)).block < w.heap.size from by rw [add_block]; exact hb13.1)).trans (rdS_int he14 (k6 - 1) (by omega)))) g18 ?_
        refine qg (fun W hm => rv_leq rfl rfl) g18 ?_
        refine qg (fun W hm => rv_pickT rfl g18 rfl) (nt g16) ?_
        refine qv (fun W hm => rv_pickF rfl (nt g16) rfl) ?_
        refine nq' ?_
        by_cases h19 : (gt x0 k6) ≤ (gt x0 (k6 - 1))
        · have g20 : (decide ((gt x0 k6) ≤ (gt x0 (k6 - 1)))) = true := decide_eq_true h19
          refine CM_condT rfl g20 ?_
          refine sr ?_
          refine wa ?_
          refine nt' ?_
          refine CM_ret ?_
          refine QM_block_ret ?_
          refine QM_then_ret ?_
          refine QM_then_ret ?_
          refine QM_block_ret ?_
          refine QM_then_ret ?_
          exact QM_ret1 rfl rfl (fun W hm => ⟨ret_b (show spec_l9Todo_m x0 x1 = false from by unfold spec_l9Todo_m; exact fin_inl (rng_ret (body := (fun k (_ : Unit) => spec_l9Todo_b1 x0 x1 k)) (k := k6) (s := ()) (show k6 < x0.length from by omega) (show spec_l9Todo_b1 x0 x1 k6 = Sum.inl false from by unfold spec_l9Todo_b1; exact cond_t g16 (cond_t g18 (cond_t g20 (rfl)))) hF8) rfl), hm.below⟩)
        · have g20 : (decide ((gt x0 k6) ≤ (gt x0 (k6 - 1)))) = false := decide_eq_false h19
          refine CM_condF rfl g20 ?_
          refine CM_skip ?_
          refine QM_block_normal ?_
          refine QM_then ?_
          refine CM_region ?_
          refine wm ?_
          refine wv (fun W hm => rv_addN (p := k6) (q := 1) rfl rfl (by omega)) ?_
          refine wa ?_
          refine WM_nil ?_
          have hn21 := rng_next (R := Bool) (body := (fun k (_ : Unit) => spec_l9Todo_b1 x0 x1 k)) (k := k6) (s := ()) (s' := ()) (show k6 < x0.length from by omega) (show spec_l9Todo_b1 x0 x1 k6 = Sum.inr () from by unfold spec_l9Todo_b1; exact cond_t g16 (cond_t g18 (cond_f g20 (rfl)))) hF8
          exact QM_round (k6 + 1, (), ()) (subL_cons rfl (subL_cons rfl (subL_cons rfl subL_nil))) (fun W hm => hm) ⟨(by omega), hn21⟩ (show x0.length - (k6 + 1) < x0.length - k6 from by omega)
      · have g18 : (decide (0 < ((k6 : Nat) : Int))) = false := decide_eq_false h17
        refine qs g18 ?_
        refine qs g18 ?_
        refine qs g18 ?_
        refine qs g18 ?_
        refine qs g18 ?_
        refine qs g18 ?_
        refine qs g18 ?_
        refine qs g18 ?_
        refine qs g18 ?_
        refine qs g18 ?_
        refine qg (fun W hm => rv_pickF rfl g18 rfl) (nt g16) ?_
        refine qv (fun W hm => rv_pickF rfl (nt g16) rfl) ?_
        refine nq' ?_
        refine CM_condF rfl rfl ?_
        refine CM_skip ?_
        refine QM_block_normal ?_
        refine QM_then ?_
        refine CM_region ?_
        refine wm ?_
        refine wv (fun W hm => rv_addN (p := k6) (q := 1) rfl rfl (by omega)) ?_
        refine wa ?_
        refine WM_nil ?_
        have hn22 := rng_next (R := Bool) (body := (fun k (_ : Unit) => spec_l9Todo_b1 x0 x1 k)) (k := k6) (s := ()) (s' := ()) (show k6 < x0.length from by omega) (show spec_l9Todo_b1 x0 x1 k6 = Sum.inr () from by unfold spec_l9Todo_b1; exact cond_t g16 (cond_f g18 (rfl))) hF8
        exact QM_round (k6 + 1, (), ()) (subL_cons rfl (subL_cons rfl (subL_cons rfl subL_nil))) (fun W hm => hm) ⟨(by omega), hn22⟩ (show x0.length - (k6 + 1) < x0.length - k6 from by omega)
    ·
      refine qs (nf g16) ?_
      refine qs (nf g16) ?_
      refine qs (nf g16) ?_
      refine qu ?_
      refine qu ?_
      refine qu ?_
      refine qu ?_
      refine qu ?_
      refine qu ?_
      refine qu ?_
      refine qu ?_
      refine qu ?_
      refine qu ?_
      refine qs (nf g16) ?_
      refine qv (fun W hm => rv_pickT rfl (nf g16) rfl) ?_
      refine nq' ?_
      refine CM_condT rfl rfl ?_
      refine sr ?_
      refine wa ?_
      refine nt' ?_
      refine CM_ret ?_
      refine QM_block_ret ?_
      refine QM_then_ret ?_
      refine QM_then_ret ?_
      refine QM_block_ret ?_
      refine QM_then_ret ?_
      exact QM_ret1 rfl rfl (fun W hm => ⟨ret_b (show spec_l9Todo_m x0 x1 = false from by unfold spec_l9Todo_m; exact fin_inl (rng_ret (body := (fun k (_ : Unit) => spec_l9Todo_b1 x0 x1 k)) (k := k6) (s := ()) (show k6 < x0.length from by omega) (show spec_l9Todo_b1 x0 x1 k6 = Sum.inl false from by unfold spec_l9Todo_b1; exact cond_f g16 (rfl)) hF8) rfl), hm.below⟩)
  · have g11 : (decide (((k6 : Nat) : Int) < ((x0.length : Nat) : Int))) = false := decide_eq_false (by omega)
    refine CM_condF rfl g11 ?_
    refine CM_exit ?_
    refine QM_then_exit ?_
    refine QM_then_exit ?_
    have hE23 : rng (R := Bool) (fun k (_ : Unit) => spec_l9Todo_b1 x0 x1 k) (x0.length - 0) 0 () = Sum.inr () := rng_end hl10 hF8
    refine QM_block_hit ?_
    refine QM_then ?_
    refine sr ?_
    refine wm ?_
    refine wv (fun W hm => rv_len Try.underlying27 rfl) ?_
    refine wv (fun W hm => rv_gtr rfl rfl) ?_
    refine wa ?_
    refine nt' ?_
    refine CM_ret ?_
    exact QM_ret1 rfl rfl (fun W hm => ⟨ret_b (show spec_l9Todo_m x0 x1 = (decide (0 < ((x0.length : Nat) : Int))) from by unfold spec_l9Todo_m; exact fin_inr hE23 (rfl)), hm.below⟩)

def spec_l9List_b1 (x0 : (List DRow)) (k6 : Nat) : Bool ⊕ (Unit) :=
  cond (spec_IsRow_m (gt x0 k6)) (Sum.inr ()) (Sum.inl false)
def spec_l9List_m (x0 : (List DRow)) : Bool :=
  Sum.elim id (fun (s : Unit) => (decide (((x0.length : Nat) : Int) ≤ 1000))) (rng (R := Bool) (fun k (_ : Unit) => spec_l9List_b1 x0 k) (x0.length - 0) 0 ())
set_option maxRecDepth 100000 in
theorem cb140 : Cb Try.prog 140 := ⟨Try.f140, _, Try.func140, rfl, by decide⟩
set_option maxRecDepth 10000 in
set_option maxHeartbeats 4000000 in
theorem spec_l9List_c (w : World) (z0 : Value) (x0 : (List DRow)) (r_0 : rdS tyRow w w.heap.size z0 x0) :
    Calls Try.prog 140 #[z0] w fun e w' => e = .returned (.bool (spec_l9List_m x0)) ∧ Below w.heap.size w w' := by
  have r5 := r_0
  obtain ⟨m1, A2, c3, rfl, q4⟩ := r_0
  refine call_enterM (L := [(0, .slice A2 x0.length c3)]) (N := 19) Try.func140 rfl rfl (Nat.le_of_ble_eq_true rfl) (argsL_cons rfl argsL_nil) ?_
  refine sr ?_
  refine wa ?_
  refine nt' ?_
  refine CM_seq ?_
  refine sr ?_
  refine wa ?_
  refine nt' ?_
  refine CM_block ?_
  refine CM_loop (σ := Nat × (Unit) × (Unit)) (fun s => [(0, .slice A2 x0.length c3), (3, .int .i64 ((s.1 : Nat) : Int))]) (fun s => []) (fun s => s.1 ≤ x0.length ∧ rng (R := Bool) (fun k (_ : Unit) => spec_l9List_b1 x0 k) (x0.length - s.1) s.1 s.2.1 = rng (R := Bool) (fun k (_ : Unit) => spec_l9List_b1 x0 k) (x0.length - 0) 0 ()) (fun s => x0.length - s.1) (0, (), ()) (subL_cons rfl (subL_cons rfl subL_nil)) (fun W hm => hm) ⟨(by omega), rfl⟩ ?_
  rintro ⟨k6, ⟨⟩, ⟨⟩⟩ H9
  obtain ⟨hk7, hF8⟩ : k6 ≤ x0.length ∧ rng (R := Bool) (fun k (_ : Unit) => spec_l9List_b1 x0 k) (x0.length - k6) k6 () = rng (R := Bool) (fun k (_ : Unit) => spec_l9List_b1 x0 k) (x0.length - 0) 0 () := H9
  show CM Try.prog 19 _ _ _ _ [(0, .slice A2 x0.length c3), (3, .int .i64 ((k6 : Nat) : Int))] []
  refine CM_seq ?_
  refine sr ?_
  refine wm ?_
  refine wm ?_
  refine wv (fun W hm => rv_len Try.underlying39 rfl) ?_
  refine wv (fun W hm => rv_lss rfl rfl) ?_
  refine nt' ?_
  by_cases hl10 : k6 < x0.length
  · have g11 : (decide (((k6 : Nat) : Int) < ((x0.length : Nat) : Int))) = true := decide_eq_true (by omega)
    refine CM_condT rfl g11 ?_
    refine CM_skip ?_
    refine QM_then ?_
    refine CM_seq ?_
    refine CM_block ?_
    refine sr ?_
    refine wm ?_
    refine wm ?_
    obtain ⟨a12, rfl, hb13, he14⟩ := q4 (by omega)
    refine wv (fun W hm => rv_index (sz := 2) (k := k6) Try.underlying39 Try.type29 rfl rfl rfl (by omega)) ?_
    obtain ⟨_, e18, hc15⟩ := he14 k6 _ (gt_some (show k6 < x0.length from by omega))
    obtain ⟨v16, rfl, r17⟩ := tyRow_rd e18
    have r23 := r17
    obtain ⟨m19, A20, c21, rfl, q22⟩ := r17
    refine wv (fun W hm => rv_loadN (cs := [.int .i64 ((gt x0 k6).Id), .slice A20 ((gt x0 k6).Values).length c21]) Try.underlying29 Try.type29 rfl rfl (hm.elCells (show (a12.add (k6 * 2)).block < w.heap.size from by rw [add_block]; exact hb13.1) hc15)) ?_
    refine WM_callV (cl_fn cb154 rfl) (fun W hm => spec_IsRow_c W _ (gt x0 k6) (tyRow_mk (x := (gt x0 k6)) (hm.rdS0 r23))) (Wd_none rfl) (by decide) ?_
    refine wv (fun W hm => rv_not rfl) ?_
    refine nt' ?_
    rcases Bool.eq_false_or_eq_true (spec_IsRow_m (gt x0 k6)) with g25 | g25
    ·
      refine CM_condF rfl (nt g25) ?_
      refine CM_skip ?_
      refine QM_block_normal ?_
      refine QM_then ?_
      refine CM_region ?_
      refine wm ?_
      refine wv (fun W hm => rv_addN (p := k6) (q := 1) rfl rfl (by omega)) ?_
      refine wa ?_
      refine WM_nil ?_
      have hn26 := rng_next (R := Bool) (body := (fun k (_ : Unit) => spec_l9List_b1 x0 k)) (k := k6) (s := ()) (s' := ()) (show k6 < x0.length from by omega) (show spec_l9List_b1 x0 k6 = Sum.inr () from by unfold spec_l9List_b1; exact cond_t g25 (rfl)) hF8
      exact QM_round (k6 + 1, (), ()) (subL_cons rfl (subL_cons rfl subL_nil)) (fun W hm => hm) ⟨(by omega), hn26⟩ (show x0.length - (k6 + 1) < x0.length - k6 from by omega)
    ·
      refine CM_condT rfl (nf g25) ?_
      refine sr ?_
      refine wa ?_
      refine nt' ?_
      refine CM_ret ?_
      refine QM_block_ret ?_
      refine QM_then_ret ?_
      refine QM_then_ret ?_
      refine QM_block_ret ?_
      refine QM_then_ret ?_
      exact QM_ret1 rfl rfl (fun W hm => ⟨ret_b (show spec_l9List_m x0 = false from by unfold spec_l9List_m; exact fin_inl (rng_ret (body := (fun k (_ : Unit) => spec_l9List_b1 x0 k)) (k := k6) (s := ()) (show k6 < x0.length from by omega) (show spec_l9List_b1 x0 k6 = Sum.inl false from by unfold spec_l9List_b1; exact cond_f g25 (rfl)) hF8) rfl), hm.below⟩)
  · have g11 : (decide (((k6 : Nat) : Int) < ((x0.length : Nat) : Int))) = false := decide_eq_false (by omega)
    refine CM_condF rfl g11 ?_
    refine CM_exit ?_
    refine QM_then_exit ?_
    refine QM_then_exit ?_
    have hE27 : rng (R := Bool) (fun k (_ : Unit) => spec_l9List_b1 x0 k) (x0.length - 0) 0 () = Sum.inr () := rng_end hl10 hF8
    refine QM_block_hit ?_
    refine QM_then ?_
    refine sr ?_
    refine wm ?_
    refine wv (fun W hm => rv_len Try.underlying39 rfl) ?_
    refine wv (fun W hm => rv_leq rfl rfl) ?_
    refine wa ?_
    refine nt' ?_
    refine CM_ret ?_
    exact QM_ret1 rfl rfl (fun W hm => ⟨ret_b (show spec_l9List_m x0 = (decide (((x0.length : Nat) : Int) ≤ 1000)) from by unfold spec_l9List_m; exact fin_inr hE27 (rfl)), hm.below⟩)

def spec_l9Active_m (x0 : DEngine) (x1 : DActive) : Bool :=
  cond (spec_IsQuery_m x1.Query) (cond (spec_l1In_m x1.Time 0 x0.Store.Now) (cond (spec_l9Todo_m x1.Todo ((x0.Store.Segments.length : Nat) : Int)) (cond (spec_l1In_m x1.Age 0 100000) (cond (spec_l1In_m x1.Sent 0 1000) (cond (spec_l1In_m x1.Cap 0 32) (spec_l9List_m x1.Rows) false) false) false) false) false) false
set_option maxRecDepth 100000 in
theorem cb138 : Cb Try.prog 138 := ⟨Try.f138, _, Try.func138, rfl, by decide⟩
set_option maxRecDepth 10000 in
set_option maxHeartbeats 4000000 in
theorem spec_l9Active_c (w : World) (z0 : List Value) (x0 : DEngine) (z1 : List Value) (x1 : DActive) (r_0 : tyEngine.rd w w.heap.size z0 x0) (r_1 : tyActive.rd w w.heap.size z1 x1) :
    Calls Try.prog 138 #[.agg z0.toArray, .agg z1.toArray] w fun e w' => e = .returned (.bool (spec_l9Active_m x0 x1)) ∧ Below w.heap.size w w' := by
  obtain ⟨v1, v3, v5, v7, v9, rfl, r2, r4, r6, r8, r10⟩ := tyEngine_rd r_0
  have r15 := r2
  obtain ⟨m11, A12, c13, rfl, q14⟩ := r2
  have r20 := r4
  obtain ⟨m16, A17, c18, rfl, q19⟩ := r4
  have r25 := r6
  obtain ⟨m21, A22, c23, rfl, q24⟩ := r6
  have r30 := r8
  obtain ⟨m26, A27, c28, rfl, q29⟩ := r8
  have r35 := r10
  obtain ⟨m31, A32, c33, rfl, q34⟩ := r10
  obtain ⟨v36, v38, v40, v42, rfl, r37, r39, r41, r43⟩ := tyActive_rd r_1
  have r48 := r37
  obtain ⟨m44, A45, c46, rfl, q47⟩ := r37
  have r53 := r39
  obtain ⟨m49, A50, c51, rfl, q52⟩ := r39
  have r58 := r41
  obtain ⟨m54, A55, c56, rfl, q57⟩ := r41
  have r63 := r43
  obtain ⟨m59, A60, c61, rfl, q62⟩ := r43
  refine call_enterM (L := [(0, .agg #[.slice A12 x0.Store.Segments.length c13, .int .i64 x0.Store.Now, .int .i64 x0.Cursor, .slice A17 x0.Order.length c18, .slice A22 x0.Active.length c23, .slice A27 x0.Done.length c28, .slice A32 x0.Ledger.length c33, .int .i64 x0.Steps]), (1, .agg #[.int .i64 x1.Query.Id, .int .i64 x1.Query.Tenant, .slice A45 x1.Query.Conds.length c46, .slice A50 x1.Query.Out.length c51, .int .i64 x1.Time, .slice A55 x1.Todo.length c56, .int .i64 x1.Age, .int .i64 x1.Sent, .int .i64 x1.Cap, .slice A60 x1.Rows.length c61])]) (N := 45) Try.func138 rfl rfl (Nat.le_of_ble_eq_true rfl) (argsL_cons rfl (argsL_cons rfl argsL_nil)) ?_
  refine sr ?_
  refine WM_box rfl (Wd_none rfl) (by decide) (fun p64 => ?_)
  refine WM_box rfl (Wd_none rfl) (by decide) (fun p65 => ?_)
  refine wa ?_
  refine nt' ?_
  refine sr ?_
  refine wv (fun W hm => rv_field Try.underlying127 rfl Try.type125 (by decide) rfl rfl) ?_
  refine wv (fun W hm => rv_loadN (cs := [.int .i64 x1.Query.Id, .int .i64 x1.Query.Tenant, .slice A45 x1.Query.Conds.length c46, .slice A50 x1.Query.Out.length c51]) Try.underlying125 Try.type125 rfl rfl (hm.boxPart (n := 0) rfl rfl)) ?_
  refine WM_callV (cl_fn cb139 rfl) (fun W hm => spec_IsQuery_c W _ x1.Query (tyQuery_mk (x := x1.Query) (hm.rdS0 r48) (hm.rdS0 r53))) (Wd_none rfl) (by decide) ?_
  refine wm ?_
  rcases Bool.eq_false_or_eq_true (spec_IsQuery_m x1.Query) with g67 | g67
  ·
    refine wg (fun W hm => rv_field Try.underlying127 rfl Try.type3 (by decide) rfl rfl) g67 ?_
    refine wg (fun W hm => rv_load Try.underlying3 rfl rfl (hm.boxCell (n := 0) (o := 4) rfl rfl)) g67 ?_
    refine wg (fun W hm => rv_field Try.underlying77 rfl Try.type26 (by decide) rfl rfl) g67 ?_
    refine wg (fun W hm => rv_fieldA (o := 1) Try.underlying26 rfl Try.type3 (by decide) rfl rfl) g67 ?_
    refine wg (fun W hm => rv_load Try.underlying3 rfl rfl (hm.boxCell (n := 1) (o := 1) rfl rfl)) g67 ?_
    refine WM_callV (cl_fn cb86 rfl) (fun W hm => spec_l1In_c W x1.Time 0 x0.Store.Now) (Wd_some rfl rfl rfl (bw g67 rfl)) (by decide) ?_
    refine wv (fun W hm => rv_pickT rfl g67 rfl) ?_
    refine wm ?_
    rcases Bool.eq_false_or_eq_true (spec_l1In_m x1.Time 0 x0.Store.Now) with g69 | g69
    ·
      have hw := spec_l1In_fact g69
      refine wg (fun W hm => rv_field Try.underlying127 rfl Try.type27 (by decide) rfl rfl) g69 ?_
      refine wg (fun W hm => rv_load Try.underlying27 rfl rfl (hm.boxCell (n := 0) (o := 5) rfl rfl)) g69 ?_
      refine wg (fun W hm => rv_field Try.underlying77 rfl Try.type26 (by decide) rfl rfl) g69 ?_
      refine wg (fun W hm => rv_fieldA (o := 0) Try.underlying26 rfl Try.type24 (by decide) rfl rfl) g69 ?_
      refine wg (fun W hm => rv_load Try.underlying24 rfl rfl (hm.boxCell (n := 1) (o := 0) rfl rfl)) g69 ?_
      refine wg (fun W hm => rv_len Try.underlying24 rfl) g69 ?_
      refine WM_callV (cl_fn cb187 rfl) (fun W hm => spec_l9Todo_c W _ x1.Todo ((x0.Store.Segments.length : Nat) : Int) (hm.rdS0 r58)) (Wd_some rfl rfl rfl (bw g69 rfl)) (by decide) ?_
      refine wv (fun W hm => rv_pickT rfl g69 rfl) ?_
      refine wm ?_
      rcases Bool.eq_false_or_eq_true (spec_l9Todo_m x1.Todo ((x0.Store.Segments.length : Nat) : Int)) with g71 | g71
      ·
        refine wg (fun W hm => rv_field Try.underlying127 rfl Try.type3 (by decide) rfl rfl) g71 ?_
        refine wg (fun W hm => rv_load Try.underlying3 rfl rfl (hm.boxCell (n := 0) (o := 6) rfl rfl)) g71 ?_
        refine WM_callV (cl_fn cb86 rfl) (fun W hm => spec_l1In_c W x1.Age 0 100000) (Wd_some rfl rfl rfl (bw g71 rfl)) (by decide) ?_
        refine wv (fun W hm => rv_pickT rfl g71 rfl) ?_
        refine wm ?_
        rcases Bool.eq_false_or_eq_true (spec_l1In_m x1.Age 0 100000) with g73 | g73
        ·
          have hw := spec_l1In_fact g73
          refine wg (fun W hm => rv_field Try.underlying127 rfl Try.type3 (by decide) rfl rfl) g73 ?_
          refine wg (fun W hm => rv_load Try.underlying3 rfl rfl (hm.boxCell (n := 0) (o := 7) rfl rfl)) g73 ?_
          refine WM_callV (cl_fn cb86 rfl) (fun W hm => spec_l1In_c W x1.Sent 0 1000) (Wd_some rfl rfl rfl (bw g73 rfl)) (by decide) ?_
          refine wv (fun W hm => rv_pickT rfl g73 rfl) ?_
          refine wm ?_
          rcases Bool.eq_false_or_eq_true (spec_l1In_m x1.Sent 0 1000) with g75 | g75
          ·
            have hw := spec_l1In_fact g75
            refine wg (fun W hm => rv_field Try.underlying127 rfl Try.type3 (by decide) rfl rfl) g75 ?_
            refine wg (fun W hm => rv_load Try.underlying3 rfl rfl (hm.boxCell (n := 0) (o := 8) rfl rfl)) g75 ?_
            refine WM_callV (cl_fn cb86 rfl) (fun W hm => spec_l1In_c W x1.Cap 0 32) (Wd_some rfl rfl rfl (bw g75 rfl)) (by decide) ?_
            refine wv (fun W hm => rv_pickT rfl g75 rfl) ?_
            refine wm ?_
            rcases Bool.eq_false_or_eq_true (spec_l1In_m x1.Cap 0 32) with g77 | g77
            ·
              have hw := spec_l1In_fact g77
              refine wg (fun W hm => rv_field Try.underlying127 rfl Try.type39 (by decide) rfl rfl) g77 ?_
              refine wg (fun W hm => rv_load Try.underlying39 rfl rfl (hm.boxCell (n := 0) (o := 9) rfl rfl)) g77 ?_
              refine WM_callV (cl_fn cb140 rfl) (fun W hm => spec_l9List_c W _ x1.Rows (hm.rdS0 r63)) (Wd_some rfl rfl rfl (bw g77 rfl)) (by decide) ?_
              refine wv (fun W hm => rv_pickT rfl g77 rfl) ?_
              refine wa ?_
              refine nt' ?_
              refine CM_ret ?_
              exact QM_ret1 rfl rfl (fun W hm => ⟨ret_b (show spec_l9Active_m x0 x1 = (spec_l9List_m x1.Rows) from by unfold spec_l9Active_m; exact cond_t g67 (cond_t g69 (cond_t g71 (cond_t g73 (cond_t g75 (cond_t g77 (rfl))))))), hm.below⟩)
            ·
              refine ws g77 ?_
              refine ws g77 ?_
              refine ws g77 ?_
              refine wv (fun W hm => rv_pickF rfl g77 rfl) ?_
              refine wa ?_
              refine nt' ?_
              refine CM_ret ?_
              exact QM_ret1 rfl rfl (fun W hm => ⟨ret_b (show spec_l9Active_m x0 x1 = false from by unfold spec_l9Active_m; exact cond_t g67 (cond_t g69 (cond_t g71 (cond_t g73 (cond_t g75 (cond_f g77 (rfl))))))), hm.below⟩)
          ·
            refine ws g75 ?_
            refine ws g75 ?_
            refine ws g75 ?_
            refine wv (fun W hm => rv_pickF rfl g75 rfl) ?_
            refine wm ?_
            refine WM_skip (Wd_some rfl rfl rfl rfl) rfl (by decide) ?_
            refine WM_skip (Wd_some rfl rfl rfl rfl) rfl (by decide) ?_
            refine WM_skip (Wd_some rfl rfl rfl rfl) rfl (by decide) ?_
            refine wv (fun W hm => rv_pickF rfl rfl rfl) ?_
            refine wa ?_
            refine nt' ?_
            refine CM_ret ?_
            exact QM_ret1 rfl rfl (fun W hm => ⟨ret_b (show spec_l9Active_m x0 x1 = false from by unfold spec_l9Active_m; exact cond_t g67 (cond_t g69 (cond_t g71 (cond_t g73 (cond_f g75 (rfl)))))), hm.below⟩)
        ·
          refine ws g73 ?_
          refine ws g73 ?_
          refine ws g73 ?_
          refine wv (fun W hm => rv_pickF rfl g73 rfl) ?_
          refine wm ?_
          refine WM_skip (Wd_some rfl rfl rfl rfl) rfl (by decide) ?_
          refine WM_skip (Wd_some rfl rfl rfl rfl) rfl (by decide) ?_
          refine WM_skip (Wd_some rfl rfl rfl rfl) rfl (by decide) ?_
          refine wv (fun W hm => rv_pickF rfl rfl rfl) ?_
          refine wm ?_
          refine WM_skip (Wd_some rfl rfl rfl rfl) rfl (by decide) ?_
          refine WM_skip (Wd_some rfl rfl rfl rfl) rfl (by decide) ?_
          refine WM_skip (Wd_some rfl rfl rfl rfl) rfl (by decide) ?_
          refine wv (fun W hm => rv_pickF rfl rfl rfl) ?_
          refine wa ?_
          refine nt' ?_
          refine CM_ret ?_
          exact QM_ret1 rfl rfl (fun W hm => ⟨ret_b (show spec_l9Active_m x0 x1 = false from by unfold spec_l9Active_m; exact cond_t g67 (cond_t g69 (cond_t g71 (cond_f g73 (rfl))))), hm.below⟩)
      ·
        refine ws g71 ?_
        refine ws g71 ?_
        refine ws g71 ?_
        refine wv (fun W hm => rv_pickF rfl g71 rfl) ?_
        refine wm ?_
        refine WM_skip (Wd_some rfl rfl rfl rfl) rfl (by decide) ?_
        refine WM_skip (Wd_some rfl rfl rfl rfl) rfl (by decide) ?_
        refine WM_skip (Wd_some rfl rfl rfl rfl) rfl (by decide) ?_
        refine wv (fun W hm => rv_pickF rfl rfl rfl) ?_
        refine wm ?_
        refine WM_skip (Wd_some rfl rfl rfl rfl) rfl (by decide) ?_
        refine WM_skip (Wd_some rfl rfl rfl rfl) rfl (by decide) ?_
        refine WM_skip (Wd_some rfl rfl rfl rfl) rfl (by decide) ?_
        refine wv (fun W hm => rv_pickF rfl rfl rfl) ?_
        refine wm ?_
        refine WM_skip (Wd_some rfl rfl rfl rfl) rfl (by decide) ?_
        refine WM_skip (Wd_some rfl rfl rfl rfl) rfl (by decide) ?_
        refine WM_skip (Wd_some rfl rfl rfl rfl) rfl (by decide) ?_
        refine wv (fun W hm => rv_pickF rfl rfl rfl) ?_
        refine wa ?_
        refine nt' ?_
        refine CM_ret ?_
        exact QM_ret1 rfl rfl (fun W hm => ⟨ret_b (show spec_l9Active_m x0 x1 = false from by unfold spec_l9Active_m; exact cond_t g67 (cond_t g69 (cond_f g71 (rfl)))), hm.below⟩)
    ·
      refine ws g69 ?_
      refine ws g69 ?_
      refine ws g69 ?_
      refine ws g69 ?_
      refine ws g69 ?_
      refine ws g69 ?_
      refine ws g69 ?_
      refine wv (fun W hm => rv_pickF rfl g69 rfl) ?_
      refine wm ?_
      refine WM_skip (Wd_some rfl rfl rfl rfl) rfl (by decide) ?_
      refine WM_skip (Wd_some rfl rfl rfl rfl) rfl (by decide) ?_
      refine WM_skip (Wd_some rfl rfl rfl rfl) rfl (by decide) ?_
      refine wv (fun W hm => rv_pickF rfl rfl rfl) ?_
      refine wm ?_
      refine WM_skip (Wd_some rfl rfl rfl rfl) rfl (by decide) ?_
      refine WM_skip (Wd_some rfl rfl rfl rfl) rfl (by decide) ?_
      refine WM_skip (Wd_some rfl rfl rfl rfl) rfl (by decide) ?_
      refine wv (fun W hm => rv_pickF rfl rfl rfl) ?_
      refine wm ?_
      refine WM_skip (Wd_some rfl rfl rfl rfl) rfl (by decide) ?_
      refine WM_skip (Wd_some rfl rfl rfl rfl) rfl (by decide) ?_
      refine WM_skip (Wd_some rfl rfl rfl rfl) rfl (by decide) ?_
      refine wv (fun W hm => rv_pickF rfl rfl rfl) ?_
      refine wm ?_
      refine WM_skip (Wd_some rfl rfl rfl rfl) rfl (by decide) ?_
      refine WM_skip (Wd_some rfl rfl rfl rfl) rfl (by decide) ?_
      refine WM_skip (Wd_some rfl rfl rfl rfl) rfl (by decide) ?_
      refine wv (fun W hm => rv_pickF rfl rfl rfl) ?_
      refine wa ?_
      refine nt' ?_
      refine CM_ret ?_
      exact QM_ret1 rfl rfl (fun W hm => ⟨ret_b (show spec_l9Active_m x0 x1 = false from by unfold spec_l9Active_m; exact cond_t g67 (cond_f g69 (rfl))), hm.below⟩)
  ·
    refine ws g67 ?_
    refine ws g67 ?_
    refine ws g67 ?_
    refine ws g67 ?_
    refine ws g67 ?_
    refine ws g67 ?_
    refine wv (fun W hm => rv_pickF rfl g67 rfl) ?_
    refine wm ?_
    refine WM_skip (Wd_some rfl rfl rfl rfl) rfl (by decide) ?_
    refine WM_skip (Wd_some rfl rfl rfl rfl) rfl (by decide) ?_
    refine WM_skip (Wd_some rfl rfl rfl rfl) rfl (by decide) ?_
    refine WM_skip (Wd_some rfl rfl rfl rfl) rfl (by decide) ?_
    refine WM_skip (Wd_some rfl rfl rfl rfl) rfl (by decide) ?_
    refine WM_skip (Wd_some rfl rfl rfl rfl) rfl (by decide) ?_
    refine WM_skip (Wd_some rfl rfl rfl rfl) rfl (by decide) ?_
    refine wv (fun W hm => rv_pickF rfl rfl rfl) ?_
    refine wm ?_
    refine WM_skip (Wd_some rfl rfl rfl rfl) rfl (by decide) ?_
    refine WM_skip (Wd_some rfl rfl rfl rfl) rfl (by decide) ?_
    refine WM_skip (Wd_some rfl rfl rfl rfl) rfl (by decide) ?_
    refine wv (fun W hm => rv_pickF rfl rfl rfl) ?_
    refine wm ?_
    refine WM_skip (Wd_some rfl rfl rfl rfl) rfl (by decide) ?_
    refine WM_skip (Wd_some rfl rfl rfl rfl) rfl (by decide) ?_
    refine WM_skip (Wd_some rfl rfl rfl rfl) rfl (by decide) ?_
    refine wv (fun W hm => rv_pickF rfl rfl rfl) ?_
    refine wm ?_
    refine WM_skip (Wd_some rfl rfl rfl rfl) rfl (by decide) ?_
    refine WM_skip (Wd_some rfl rfl rfl rfl) rfl (by decide) ?_
    refine WM_skip (Wd_some rfl rfl rfl rfl) rfl (by decide) ?_
    refine wv (fun W hm => rv_pickF rfl rfl rfl) ?_
    refine wm ?_
    refine WM_skip (Wd_some rfl rfl rfl rfl) rfl (by decide) ?_
    refine WM_skip (Wd_some rfl rfl rfl rfl) rfl (by decide) ?_
    refine WM_skip (Wd_some rfl rfl rfl rfl) rfl (by decide) ?_
    refine wv (fun W hm => rv_pickF rfl rfl rfl) ?_
    refine wa ?_
    refine nt' ?_
    refine CM_ret ?_
    exact QM_ret1 rfl rfl (fun W hm => ⟨ret_b (show spec_l9Active_m x0 x1 = false from by unfold spec_l9Active_m; exact cond_f g67 (rfl)), hm.below⟩)

def spec_IsSet_b1 (x0 : (List Int)) (k6 : Nat) : Bool ⊕ (Unit) :=
  cond (spec_l1In_m (gt x0 k6) 0 23) (cond (decide (0 < ((k6 : Nat) : Int))) (cond (decide ((gt x0 k6) ≤ (gt x0 (k6 - 1)))) (Sum.inl false) (Sum.inr ())) (Sum.inr ())) (Sum.inl false)
def spec_IsSet_m (x0 : (List Int)) : Bool :=
  Sum.elim id (fun (s : Unit) => true) (rng (R := Bool) (fun k (_ : Unit) => spec_IsSet_b1 x0 k) (x0.length - 0) 0 ())
set_option maxRecDepth 100000 in
theorem cb190 : Cb Try.prog 190 := ⟨Try.f190, _, Try.func190, rfl, by decide⟩
set_option maxRecDepth 10000 in
set_option maxHeartbeats 4000000 in
theorem spec_IsSet_c (w : World) (z0 : Value) (x0 : (List Int)) (r_0 : rdS tInt w w.heap.size z0 x0) :
    Calls Try.prog 190 #[z0] w fun e w' => e = .returned (.bool (spec_IsSet_m x0)) ∧ Below w.heap.size w w' := by
  have r5 := r_0
  obtain ⟨m1, A2, c3, rfl, q4⟩ := r_0
  refine call_enterM (L := [(0, .slice A2 x0.length c3)]) (N := 32) Try.func190 rfl rfl (Nat.le_of_ble_eq_true rfl) (argsL_cons rfl argsL_nil) ?_
  refine sr ?_
  refine wa ?_
  refine nt' ?_
  refine CM_seq ?_
  refine sr ?_
  refine wa ?_
  refine nt' ?_
  refine CM_block ?_
  refine CM_loop (σ := Nat × (Unit) × (Unit)) (fun s => [(0, .slice A2 x0.length c3), (3, .int .i64 ((s.1 : Nat) : Int))]) (fun s => []) (fun s => s.1 ≤ x0.length ∧ rng (R := Bool) (fun k (_ : Unit) => spec_IsSet_b1 x0 k) (x0.length - s.1) s.1 s.2.1 = rng (R := Bool) (fun k (_ : Unit) => spec_IsSet_b1 x0 k) (x0.length - 0) 0 ()) (fun s => x0.length - s.1) (0, (), ()) (subL_cons rfl (subL_cons rfl subL_nil)) (fun W hm => hm) ⟨(by omega), rfl⟩ ?_
  rintro ⟨k6, ⟨⟩, ⟨⟩⟩ H9
  obtain ⟨hk7, hF8⟩ : k6 ≤ x0.length ∧ rng (R := Bool) (fun k (_ : Unit) => spec_IsSet_b1 x0 k) (x0.length - k6) k6 () = rng (R := Bool) (fun k (_ : Unit) => spec_IsSet_b1 x0 k) (x0.length - 0) 0 () := H9
  show CM Try.prog 32 _ _ _ _ [(0, .slice A2 x0.length c3), (3, .int .i64 ((k6 : Nat) : Int))] []
  refine CM_seq ?_
  refine sr ?_
  refine wm ?_
  refine wm ?_
  refine wv (fun W hm => rv_len Try.underlying27 rfl) ?_
  refine wv (fun W hm => rv_lss rfl rfl) ?_
  refine nt' ?_
  by_cases hl10 : k6 < x0.length
  · have g11 : (decide (((k6 : Nat) : Int) < ((x0.length : Nat) : Int))) = true := decide_eq_true (by omega)
    refine CM_condT rfl g11 ?_
    refine CM_skip ?_
    refine QM_then ?_
    refine CM_seq ?_
    refine CM_block ?_
    refine CM_seq ?_
    refine CM_regionD (by kernel_rfl) (by kernel_rfl) ?_
    refine qm ?_
    refine qm ?_
    obtain ⟨a12, rfl, hb13, he14⟩ := q4 (by omega)
    refine qv (fun W hm => rv_index (sz := 1) (k := k6) Try.underlying27 Try.type3 rfl rfl rfl (by omega)) ?_
    refine qv (fun W hm => rv_load Try.underlying3 rfl rfl ((hm.cell0 (show (a12.add (k6 * 1)).block < w.heap.size from by rw [add_block]; exact hb13.1)).trans (rdS_int he14 k6 (by omega)))) ?_
    refine QR_callV (cl_fn cb86 rfl) (fun W hm => spec_l1In_c W (gt x0 k6) 0 23) (Wd_none rfl) (by decide) ?_
    refine qv (fun W hm => rv_not rfl) ?_
    refine qm ?_
    rcases Bool.eq_false_or_eq_true (spec_l1In_m (gt x0 k6) 0 23) with g16 | g16
    ·
      have hw := spec_l1In_fact g16
      refine qg (fun W hm => rv_move rfl) (nt g16) ?_
      refine qg (fun W hm => rv_gtr rfl rfl) (nt g16) ?_
      refine qg (fun W hm => rv_move rfl) (nt g16) ?_
      by_cases h17 : 0 < ((k6 : Nat) : Int)
      · have g18 : (decide (0 < ((k6 : Nat) : Int))) = true := decide_eq_true h17
        refine qg (fun W hm => rv_move rfl) g18 ?_
        refine qg (fun W hm => rv_move rfl) g18 ?_
        refine qg (fun W hm => rv_index (sz := 1) (k := k6) Try.underlying27 Try.type3 rfl rfl rfl (by omega)) g18 ?_
        refine qg (fun W hm => rv_load Try.underlying3 rfl rfl ((hm.cell0 (show (a12.add (k6 * 1)).block < w.heap.size from by rw [add_block]; exact hb13.1)).trans (rdS_int he14 k6 (by omega)))) g18 ?_
        refine qg (fun W hm => rv_move rfl) g18 ?_
        refine qg (fun W hm => rv_move rfl) g18 ?_
        refine qg (fun W hm => rv_subN (p := k6) (q := 1) rfl rfl (by omega) (by omega)) g18 ?_
        refine qg (fun W hm => rv_index (sz := 1) (k := k6 - 1) Try.underlying27 Try.type3 rfl rfl rfl (by omega)) g18 ?_
        refine qg (fun W hm => rv_load Try.underlying3 rfl rfl ((hm.cell0 (show (a12.add ((k6 - 1) * 1)).block < w.heap.size from by rw [add_block]; exact hb13.1)).trans (rdS_int he14 (k6 - 1) (by omega)))) g18 ?_
        refine qg (fun W hm => rv_leq rfl rfl) g18 ?_
        refine qg (fun W hm => rv_pickT rfl g18 rfl) (nt g16) ?_
        refine qv (fun W hm => rv_pickF rfl (nt g16) rfl) ?_
        refine nq' ?_
        by_cases h19 : (gt x0 k6) ≤ (gt x0 (k6 - 1))
        · have g20 : (decide ((gt x0 k6) ≤ (gt x0 (k6 - 1)))) = true := decide_eq_true h19
          refine CM_condT rfl g20 ?_
          refine sr ?_
          refine wa ?_
          refine nt' ?_
          refine CM_ret ?_
          refine QM_block_ret ?_
          refine QM_then_ret ?_
          refine QM_then_ret ?_
          refine QM_block_ret ?_
          refine QM_then_ret ?_
          exact QM_ret1 rfl rfl (fun W hm => ⟨ret_b (show spec_IsSet_m x0 = false from by unfold spec_IsSet_m; exact fin_inl (rng_ret (body := (fun k (_ : Unit) => spec_IsSet_b1 x0 k)) (k := k6) (s := ()) (show k6 < x0.length from by omega) (show spec_IsSet_b1 x0 k6 = Sum.inl false from by unfold spec_IsSet_b1; exact cond_t g16 (cond_t g18 (cond_t g20 (rfl)))) hF8) rfl), hm.below⟩)
        · have g20 : (decide ((gt x0 k6) ≤ (gt x0 (k6 - 1)))) = false := decide_eq_false h19
          refine CM_condF rfl g20 ?_
          refine CM_skip ?_
          refine QM_block_normal ?_
          refine QM_then ?_
          refine CM_region ?_
          refine wm ?_
          refine wv (fun W hm => rv_addN (p := k6) (q := 1) rfl rfl (by omega)) ?_
          refine wa ?_
          refine WM_nil ?_
          have hn21 := rng_next (R := Bool) (body := (fun k (_ : Unit) => spec_IsSet_b1 x0 k)) (k := k6) (s := ()) (s' := ()) (show k6 < x0.length from by omega) (show spec_IsSet_b1 x0 k6 = Sum.inr () from by unfold spec_IsSet_b1; exact cond_t g16 (cond_t g18 (cond_f g20 (rfl)))) hF8
          exact QM_round (k6 + 1, (), ()) (subL_cons rfl (subL_cons rfl subL_nil)) (fun W hm => hm) ⟨(by omega), hn21⟩ (show x0.length - (k6 + 1) < x0.length - k6 from by omega)
      · have g18 : (decide (0 < ((k6 : Nat) : Int))) = false := decide_eq_false h17
        refine qs g18 ?_
        refine qs g18 ?_
        refine qs g18 ?_
        refine qs g18 ?_
        refine qs g18 ?_
        refine qs g18 ?_
        refine qs g18 ?_
        refine qs g18 ?_
        refine qs g18 ?_
        refine qs g18 ?_
        refine qg (fun W hm => rv_pickF rfl g18 rfl) (nt g16) ?_
        refine qv (fun W hm => rv_pickF rfl (nt g16) rfl) ?_
        refine nq' ?_
        refine CM_condF rfl rfl ?_
        refine CM_skip ?_
        refine QM_block_normal ?_
        refine QM_then ?_
        refine CM_region ?_
        refine wm ?_
        refine wv (fun W hm => rv_addN (p := k6) (q := 1) rfl rfl (by omega)) ?_
        refine wa ?_
        refine WM_nil ?_
        have hn22 := rng_next (R := Bool) (body := (fun k (_ : Unit) => spec_IsSet_b1 x0 k)) (k := k6) (s := ()) (s' := ()) (show k6 < x0.length from by omega) (show spec_IsSet_b1 x0 k6 = Sum.inr () from by unfold spec_IsSet_b1; exact cond_t g16 (cond_f g18 (rfl))) hF8
        exact QM_round (k6 + 1, (), ()) (subL_cons rfl (subL_cons rfl subL_nil)) (fun W hm => hm) ⟨(by omega), hn22⟩ (show x0.length - (k6 + 1) < x0.length - k6 from by omega)
    ·
      refine qs (nf g16) ?_
      refine qs (nf g16) ?_
      refine qs (nf g16) ?_
      refine qu ?_
      refine qu ?_
      refine qu ?_
      refine qu ?_
      refine qu ?_
      refine qu ?_
      refine qu ?_
      refine qu ?_
      refine qu ?_
      refine qu ?_
      refine qs (nf g16) ?_
      refine qv (fun W hm => rv_pickT rfl (nf g16) rfl) ?_
      refine nq' ?_
      refine CM_condT rfl rfl ?_
      refine sr ?_
      refine wa ?_
      refine nt' ?_
      refine CM_ret ?_
      refine QM_block_ret ?_
      refine QM_then_ret ?_
      refine QM_then_ret ?_
      refine QM_block_ret ?_
      refine QM_then_ret ?_
      exact QM_ret1 rfl rfl (fun W hm => ⟨ret_b (show spec_IsSet_m x0 = false from by unfold spec_IsSet_m; exact fin_inl (rng_ret (body := (fun k (_ : Unit) => spec_IsSet_b1 x0 k)) (k := k6) (s := ()) (show k6 < x0.length from by omega) (show spec_IsSet_b1 x0 k6 = Sum.inl false from by unfold spec_IsSet_b1; exact cond_f g16 (rfl)) hF8) rfl), hm.below⟩)
  · have g11 : (decide (((k6 : Nat) : Int) < ((x0.length : Nat) : Int))) = false := decide_eq_false (by omega)
    refine CM_condF rfl g11 ?_
    refine CM_exit ?_
    refine QM_then_exit ?_
    refine QM_then_exit ?_
    have hE23 : rng (R := Bool) (fun k (_ : Unit) => spec_IsSet_b1 x0 k) (x0.length - 0) 0 () = Sum.inr () := rng_end hl10 hF8
    refine QM_block_hit ?_
    refine QM_then ?_
    refine sr ?_
    refine wa ?_
    refine nt' ?_
    refine CM_ret ?_
    exact QM_ret1 rfl rfl (fun W hm => ⟨ret_b (show spec_IsSet_m x0 = true from by unfold spec_IsSet_m; exact fin_inr hE23 (rfl)), hm.below⟩)

def spec_IsCharge_b1 (x0 : DCharge) (k37 : Nat) : Bool ⊕ (Unit) :=
  cond (spec_l1In_m (gt x0.Tenants k37) 0 3) (cond (spec_l1In_m (gt x0.Rows k37) 0 x0.Base) (Sum.inr ()) (Sum.inl false)) (Sum.inl false)
def spec_IsCharge_m (x0 : DCharge) : Bool :=
  cond (spec_IsSet_m x0.Ids) (cond (((x0.Ids.length : Nat) : Int) == 0) false (cond (decide (8 < ((x0.Ids.length : Nat) : Int))) false (cond (((x0.Tenants.length : Nat) : Int) != ((x0.Ids.length : Nat) : Int)) false (cond (((x0.Rows.length : Nat) : Int) != ((x0.Ids.length : Nat) : Int)) false (cond (spec_l1In_m x0.Segment 0 7) (cond (spec_l1In_m x0.Base 0 4) (Sum.elim id (fun (s : Unit) => true) (rng (R := Bool) (fun k (_ : Unit) => spec_IsCharge_b1 x0 k) (x0.Ids.length - 0) 0 ())) false) false))))) false
set_option maxRecDepth 100000 in
theorem cb141 : Cb Try.prog 141 := ⟨Try.f141, _, Try.func141, rfl, by decide⟩
set_option maxRecDepth 10000 in
set_option maxHeartbeats 4000000 in
theorem spec_IsCharge_c (w : World) (z0 : List Value) (x0 : DCharge) (r_0 : tyCharge.rd w w.heap.size z0 x0) :
    Calls Try.prog 141 #[.agg z0.toArray] w fun e w' => e = .returned (.bool (spec_IsCharge_m x0)) ∧ Below w.heap.size w w' := by
  obtain ⟨v1, v3, v5, rfl, r2, r4, r6⟩ := tyCharge_rd r_0
  have r11 := r2
  obtain ⟨m7, A8, c9, rfl, q10⟩ := r2
  have r16 := r4
  obtain ⟨m12, A13, c14, rfl, q15⟩ := r4
  have r21 := r6
  obtain ⟨m17, A18, c19, rfl, q20⟩ := r6
  refine call_enterM (L := [(0, .agg #[.int .i64 x0.Segment, .int .i64 x0.Base, .slice A8 x0.Ids.length c9, .slice A13 x0.Tenants.length c14, .slice A18 x0.Rows.length c19])]) (N := 69) Try.func141 rfl rfl (Nat.le_of_ble_eq_true rfl) (argsL_cons rfl argsL_nil) ?_
  refine sr ?_
  refine WM_box rfl (Wd_none rfl) (by decide) (fun p22 => ?_)
  refine wa ?_
  refine nt' ?_
  refine sr ?_
  refine wv (fun W hm => rv_field Try.underlying140 rfl Try.type27 (by decide) rfl rfl) ?_
  refine wv (fun W hm => rv_load Try.underlying27 rfl rfl (hm.boxCell (n := 0) (o := 2) rfl rfl)) ?_
  refine wv (fun W hm => rv_len Try.underlying27 rfl) ?_
  refine wa ?_
  refine nt' ?_
  refine CM_seq ?_
  refine sr ?_
  refine wv (fun W hm => rv_field Try.underlying140 rfl Try.type27 (by decide) rfl rfl) ?_
  refine wv (fun W hm => rv_load Try.underlying27 rfl rfl (hm.boxCell (n := 0) (o := 2) rfl rfl)) ?_
  refine WM_callV (cl_fn cb190 rfl) (fun W hm => spec_IsSet_c W _ x0.Ids (hm.rdS0 r11)) (Wd_none rfl) (by decide) ?_
  refine wv (fun W hm => rv_not rfl) ?_
  refine wm ?_
  rcases Bool.eq_false_or_eq_true (spec_IsSet_m x0.Ids) with g24 | g24
  ·
    refine wg (fun W hm => rv_move rfl) (nt g24) ?_
    refine wg (fun W hm => rv_eql rfl rfl) (nt g24) ?_
    refine wv (fun W hm => rv_pickF rfl (nt g24) rfl) ?_
    refine wm ?_
    by_cases h25 : ((x0.Ids.length : Nat) : Int) = 0
    · have g26 : (((x0.Ids.length : Nat) : Int) == 0) = true := beq_iff_eq.2 h25
      refine ws g26 ?_
      refine ws g26 ?_
      refine wv (fun W hm => rv_pickT rfl g26 rfl) ?_
      refine wm ?_
      refine WM_skip (Wd_some rfl rfl rfl rfl) rfl (by decide) ?_
      refine WM_skip (Wd_some rfl rfl rfl rfl) rfl (by decide) ?_
      refine WM_skip (Wd_some rfl rfl rfl rfl) rfl (by decide) ?_
      refine WM_skip (Wd_some rfl rfl rfl rfl) rfl (by decide) ?_
      refine WM_skip (Wd_some rfl rfl rfl rfl) rfl (by decide) ?_
      refine wv (fun W hm => rv_pickT rfl rfl rfl) ?_
      refine wm ?_
      refine WM_skip (Wd_some rfl rfl rfl rfl) rfl (by decide) ?_
      refine WM_skip (Wd_some rfl rfl rfl rfl) rfl (by decide) ?_
      refine WM_skip (Wd_some rfl rfl rfl rfl) rfl (by decide) ?_
      refine WM_skip (Wd_some rfl rfl rfl rfl) rfl (by decide) ?_
      refine WM_skip (Wd_some rfl rfl rfl rfl) rfl (by decide) ?_
      refine wv (fun W hm => rv_pickT rfl rfl rfl) ?_
      refine wm ?_
      refine WM_skip (Wd_some rfl rfl rfl rfl) rfl (by decide) ?_
      refine WM_skip (Wd_some rfl rfl rfl rfl) rfl (by decide) ?_
      refine WM_skip (Wd_some rfl rfl rfl rfl) rfl (by decide) ?_
      refine WM_skip (Wd_some rfl rfl rfl rfl) rfl (by decide) ?_
      refine wv (fun W hm => rv_pickT rfl rfl rfl) ?_
      refine wm ?_
      refine WM_skip (Wd_some rfl rfl rfl rfl) rfl (by decide) ?_
      refine WM_skip (Wd_some rfl rfl rfl rfl) rfl (by decide) ?_
      refine WM_skip (Wd_some rfl rfl rfl rfl) rfl (by decide) ?_
      refine WM_skip (Wd_some rfl rfl rfl rfl) rfl (by decide) ?_
      refine wv (fun W hm => rv_pickT rfl rfl rfl) ?_
      refine nt' ?_
      refine CM_condT rfl rfl ?_
      refine sr ?_
      refine wa ?_
      refine nt' ?_
      refine CM_ret ?_
      refine QM_then_ret ?_
      exact QM_ret1 rfl rfl (fun W hm => ⟨ret_b (show spec_IsCharge_m x0 = false from by unfold spec_IsCharge_m; exact cond_t g24 (cond_t g26 (rfl))), hm.below⟩)
    · have g26 : (((x0.Ids.length : Nat) : Int) == 0) = false := beq_eq_false_iff_ne.2 h25
      refine wg (fun W hm => rv_move rfl) g26 ?_
      refine wg (fun W hm => rv_gtr rfl rfl) g26 ?_
      refine wv (fun W hm => rv_pickF rfl g26 rfl) ?_
      refine wm ?_
      by_cases h27 : 8 < ((x0.Ids.length : Nat) : Int)
      · have g28 : (decide (8 < ((x0.Ids.length : Nat) : Int))) = true := decide_eq_true h27
        refine ws g28 ?_
        refine ws g28 ?_
        refine ws g28 ?_
        refine ws g28 ?_
        refine ws g28 ?_
        refine wv (fun W hm => rv_pickT rfl g28 rfl) ?_
        refine wm ?_
        refine WM_skip (Wd_some rfl rfl rfl rfl) rfl (by decide) ?_
        refine WM_skip (Wd_some rfl rfl rfl rfl) rfl (by decide) ?_
        refine WM_skip (Wd_some rfl rfl rfl rfl) rfl (by decide) ?_
        refine WM_skip (Wd_some rfl rfl rfl rfl) rfl (by decide) ?_
        refine WM_skip (Wd_some rfl rfl rfl rfl) rfl (by decide) ?_
        refine wv (fun W hm => rv_pickT rfl rfl rfl) ?_
        refine wm ?_
        refine WM_skip (Wd_some rfl rfl rfl rfl) rfl (by decide) ?_
        refine WM_skip (Wd_some rfl rfl rfl rfl) rfl (by decide) ?_
        refine WM_skip (Wd_some rfl rfl rfl rfl) rfl (by decide) ?_
        refine WM_skip (Wd_some rfl rfl rfl rfl) rfl (by decide) ?_
        refine wv (fun W hm => rv_pickT rfl rfl rfl) ?_
        refine wm ?_
        refine WM_skip (Wd_some rfl rfl rfl rfl) rfl (by decide) ?_
        refine WM_skip (Wd_some rfl rfl rfl rfl) rfl (by decide) ?_
        refine WM_skip (Wd_some rfl rfl rfl rfl) rfl (by decide) ?_
        refine WM_skip (Wd_some rfl rfl rfl rfl) rfl (by decide) ?_
        refine wv (fun W hm => rv_pickT rfl rfl rfl) ?_
        refine nt' ?_
        refine CM_condT rfl rfl ?_
        refine sr ?_
        refine wa ?_
        refine nt' ?_
        refine CM_ret ?_
        refine QM_then_ret ?_
        exact QM_ret1 rfl rfl (fun W hm => ⟨ret_b (show spec_IsCharge_m x0 = false from by unfold spec_IsCharge_m; exact cond_t g24 (cond_f g26 (cond_t g28 (rfl)))), hm.below⟩)
      · have g28 : (decide (8 < ((x0.Ids.length : Nat) : Int))) = false := decide_eq_false h27
        refine wg (fun W hm => rv_field Try.underlying140 rfl Try.type27 (by decide) rfl rfl) g28 ?_
        refine wg (fun W hm => rv_load Try.underlying27 rfl rfl (hm.boxCell (n := 0) (o := 3) rfl rfl)) g28 ?_
        refine wg (fun W hm => rv_len Try.underlying27 rfl) g28 ?_
        refine wg (fun W hm => rv_move rfl) g28 ?_
        refine wg (fun W hm => rv_neq rfl rfl) g28 ?_
        refine wv (fun W hm => rv_pickF rfl g28 rfl) ?_
        refine wm ?_
        by_cases h29 : ((x0.Tenants.length : Nat) : Int) = ((x0.Ids.length : Nat) : Int)
        · have g30 : (((x0.Tenants.length : Nat) : Int) != ((x0.Ids.length : Nat) : Int)) = false := by rw [h29]; exact bne_self_eq_false _
          refine wg (fun W hm => rv_field Try.underlying140 rfl Try.type27 (by decide) rfl rfl) g30 ?_
          refine wg (fun W hm => rv_load Try.underlying27 rfl rfl (hm.boxCell (n := 0) (o := 4) rfl rfl)) g30 ?_
          refine wg (fun W hm => rv_len Try.underlying27 rfl) g30 ?_
          refine wg (fun W hm => rv_move rfl) g30 ?_
          refine wg (fun W hm => rv_neq rfl rfl) g30 ?_
          refine wv (fun W hm => rv_pickF rfl g30 rfl) ?_
          refine wm ?_
          by_cases h31 : ((x0.Rows.length : Nat) : Int) = ((x0.Ids.length : Nat) : Int)
          · have g32 : (((x0.Rows.length : Nat) : Int) != ((x0.Ids.length : Nat) : Int)) = false := by rw [h31]; exact bne_self_eq_false _
            refine wg (fun W hm => rv_field Try.underlying140 rfl Try.type3 (by decide) rfl rfl) g32 ?_
            refine wg (fun W hm => rv_load Try.underlying3 rfl rfl (hm.boxCell (n := 0) (o := 0) rfl rfl)) g32 ?_
            refine WM_callV (cl_fn cb86 rfl) (fun W hm => spec_l1In_c W x0.Segment 0 7) (Wd_some rfl rfl rfl (bw g32 rfl)) (by decide) ?_
            refine wg (fun W hm => rv_not rfl) g32 ?_
            refine wv (fun W hm => rv_pickF rfl g32 rfl) ?_
            refine wm ?_
            rcases Bool.eq_false_or_eq_true (spec_l1In_m x0.Segment 0 7) with g34 | g34
            ·
              have hw := spec_l1In_fact g34
              refine wg (fun W hm => rv_field Try.underlying140 rfl Try.type3 (by decide) rfl rfl) (nt g34) ?_
              refine wg (fun W hm => rv_load Try.underlying3 rfl rfl (hm.boxCell (n := 0) (o := 1) rfl rfl)) (nt g34) ?_
              refine WM_callV (cl_fn cb86 rfl) (fun W hm => spec_l1In_c W x0.Base 0 4) (Wd_some rfl rfl rfl (bw (nt g34) rfl)) (by decide) ?_
              refine wg (fun W hm => rv_not rfl) (nt g34) ?_
              refine wv (fun W hm => rv_pickF rfl (nt g34) rfl) ?_
              refine nt' ?_
              rcases Bool.eq_false_or_eq_true (spec_l1In_m x0.Base 0 4) with g36 | g36
              ·
                have hw := spec_l1In_fact g36
                refine CM_condF rfl (nt g36) ?_
                refine CM_skip ?_
                refine QM_then ?_
                refine CM_seq ?_
                refine sr ?_
                refine wa ?_
                refine nt' ?_
                refine CM_block ?_
                refine CM_loop (σ := Nat × (Unit) × (Unit)) (fun s => [(1, .pointer (some (⟨p22, 0, none⟩ : Addr))), (3, .int .i64 ((x0.Ids.length : Nat) : Int)), (4, .int .i64 ((s.1 : Nat) : Int))]) (fun s => [iBox p22 140 [.int .i64 x0.Segment, .int .i64 x0.Base, .slice A8 x0.Ids.length c9, .slice A13 x0.Tenants.length c14, .slice A18 x0.Rows.length c19]]) (fun s => s.1 ≤ x0.Ids.length ∧ rng (R := Bool) (fun k (_ : Unit) => spec_IsCharge_b1 x0 k) (x0.Ids.length - s.1) s.1 s.2.1 = rng (R := Bool) (fun k (_ : Unit) => spec_IsCharge_b1 x0 k) (x0.Ids.length - 0) 0 ()) (fun s => x0.Ids.length - s.1) (0, (), ()) (subL_cons rfl (subL_cons rfl (subL_cons rfl subL_nil))) (fun W hm => hm) ⟨(by omega), rfl⟩ ?_
                rintro ⟨k37, ⟨⟩, ⟨⟩⟩ H40
                obtain ⟨hk38, hF39⟩ : k37 ≤ x0.Ids.length ∧ rng (R := Bool) (fun k (_ : Unit) => spec_IsCharge_b1 x0 k) (x0.Ids.length - k37) k37 () = rng (R := Bool) (fun k (_ : Unit) => spec_IsCharge_b1 x0 k) (x0.Ids.length - 0) 0 () := H40
                show CM Try.prog 69 _ _ _ _ [(1, .pointer (some (⟨p22, 0, none⟩ : Addr))), (3, .int .i64 ((x0.Ids.length : Nat) : Int)), (4, .int .i64 ((k37 : Nat) : Int))] [iBox p22 140 [.int .i64 x0.Segment, .int .i64 x0.Base, .slice A8 x0.Ids.length c9, .slice A13 x0.Tenants.length c14, .slice A18 x0.Rows.length c19]]
                refine CM_seq ?_
                refine sr ?_
                refine wm ?_
                refine wm ?_
                refine wv (fun W hm => rv_lss rfl rfl) ?_
                refine nt' ?_
                by_cases hl41 : k37 < x0.Ids.length
                · have g42 : (decide (((k37 : Nat) : Int) < ((x0.Ids.length : Nat) : Int))) = true := decide_eq_true (by omega)
                  refine CM_condT rfl g42 ?_
                  refine CM_skip ?_
                  refine QM_then ?_
                  refine CM_seq ?_
                  refine CM_block ?_
                  refine CM_seq ?_
                  refine CM_regionD (by kernel_rfl) (by kernel_rfl) ?_
                  refine qv (fun W hm => rv_field Try.underlying140 rfl Try.type27 (by decide) rfl rfl) ?_
                  refine qv (fun W hm => rv_load Try.underlying27 rfl rfl (hm.boxCell (n := 0) (o := 3) rfl rfl)) ?_
                  refine qm ?_
                  obtain ⟨a43, rfl, hb44, he45⟩ := q15 (by omega)
                  refine qv (fun W hm => rv_index (sz := 1) (k := k37) Try.underlying27 Try.type3 rfl rfl rfl (by omega)) ?_
                  refine qv (fun W hm => rv_load Try.underlying3 rfl rfl ((hm.cell0 (show (a43.add (k37 * 1)).block < w.heap.size from by rw [add_block]; exact hb44.1)).trans (rdS_int he45 k37 (by omega)))) ?_
                  refine QR_callV (cl_fn cb86 rfl) (fun W hm => spec_l1In_c W (gt x0.Tenants k37) 0 3) (Wd_none rfl) (by decide) ?_
                  refine qv (fun W hm => rv_not rfl) ?_
                  refine qm ?_
                  rcases Bool.eq_false_or_eq_true (spec_l1In_m (gt x0.Tenants k37) 0 3) with g47 | g47
                  ·
                    have hw := spec_l1In_fact g47
                    refine qg (fun W hm => rv_field Try.underlying140 rfl Try.type27 (by decide) rfl rfl) (nt g47) ?_
                    refine qg (fun W hm => rv_load Try.underlying27 rfl rfl (hm.boxCell (n := 0) (o := 4) rfl rfl)) (nt g47) ?_
                    refine qg (fun W hm => rv_move rfl) (nt g47) ?_
                    obtain ⟨a48, rfl, hb49, he50⟩ := q20 (by omega)
                    refine qg (fun W hm => rv_index (sz := 1) (k := k37) Try.underlying27 Try.type3 rfl rfl rfl (by omega)) (nt g47) ?_
                    refine qg (fun W hm => rv_load Try.underlying3 rfl rfl ((hm.cell0 (show (a48.add (k37 * 1)).block < w.heap.size from by rw [add_block]; exact hb49.1)).trans (rdS_int he50 k37 (by omega)))) (nt g47) ?_
                    refine qg (fun W hm => rv_field Try.underlying140 rfl Try.type3 (by decide) rfl rfl) (nt g47) ?_
                    refine qg (fun W hm => rv_load Try.underlying3 rfl rfl (hm.boxCell (n := 0) (o := 1) rfl rfl)) (nt g47) ?_
                    refine QR_callV (cl_fn cb86 rfl) (fun W hm => spec_l1In_c W (gt x0.Rows k37) 0 x0.Base) (Wd_some rfl rfl rfl (bw (nt g47) rfl)) (by decide) ?_
                    refine qg (fun W hm => rv_not rfl) (nt g47) ?_
                    refine qv (fun W hm => rv_pickF rfl (nt g47) rfl) ?_
                    refine nq' ?_
                    rcases Bool.eq_false_or_eq_true (spec_l1In_m (gt x0.Rows k37) 0 x0.Base) with g52 | g52
                    ·
                      have hw := spec_l1In_fact g52
                      refine CM_condF rfl (nt g52) ?_
                      refine CM_skip ?_
                      refine QM_block_normal ?_
                      refine QM_then ?_
                      refine CM_region ?_
                      refine wm ?_
                      refine wv (fun W hm => rv_addN (p := k37) (q := 1) rfl rfl (by omega)) ?_
                      refine wa ?_
                      refine WM_nil ?_
                      have hn53 := rng_next (R := Bool) (body := (fun k (_ : Unit) => spec_IsCharge_b1 x0 k)) (k := k37) (s := ()) (s' := ()) (show k37 < x0.Ids.length from by omega) (show spec_IsCharge_b1 x0 k37 = Sum.inr () from by unfold spec_IsCharge_b1; exact cond_t g47 (cond_t g52 (rfl))) hF39
                      exact QM_round (k37 + 1, (), ()) (subL_cons rfl (subL_cons rfl (subL_cons rfl subL_nil))) (fun W hm => hm) ⟨(by omega), hn53⟩ (show x0.Ids.length - (k37 + 1) < x0.Ids.length - k37 from by omega)
                    ·
                      refine CM_condT rfl (nf g52) ?_
                      refine sr ?_
                      refine wa ?_
                      refine nt' ?_
                      refine CM_ret ?_
                      refine QM_block_ret ?_
                      refine QM_then_ret ?_
                      refine QM_then_ret ?_
                      refine QM_block_ret ?_
                      refine QM_then_ret ?_
                      exact QM_ret1 rfl rfl (fun W hm => ⟨ret_b (show spec_IsCharge_m x0 = false from by unfold spec_IsCharge_m; exact cond_t g24 (cond_f g26 (cond_f g28 (cond_f g30 (cond_f g32 (cond_t g34 (cond_t g36 (fin_inl (rng_ret (body := (fun k (_ : Unit) => spec_IsCharge_b1 x0 k)) (k := k37) (s := ()) (show k37 < x0.Ids.length from by omega) (show spec_IsCharge_b1 x0 k37 = Sum.inl false from by unfold spec_IsCharge_b1; exact cond_t g47 (cond_f g52 (rfl))) hF39) rfl)))))))), hm.below⟩)
                  ·
                    refine qs (nf g47) ?_
                    refine qs (nf g47) ?_
                    refine qs (nf g47) ?_
                    refine qs (nf g47) ?_
                    refine qs (nf g47) ?_
                    refine qs (nf g47) ?_
                    refine qs (nf g47) ?_
                    refine qs (nf g47) ?_
                    refine qs (nf g47) ?_
                    refine qv (fun W hm => rv_pickT rfl (nf g47) rfl) ?_
                    refine nq' ?_
                    refine CM_condT rfl rfl ?_
                    refine sr ?_
                    refine wa ?_
                    refine nt' ?_
                    refine CM_ret ?_
                    refine QM_block_ret ?_
                    refine QM_then_ret ?_
                    refine QM_then_ret ?_
                    refine QM_block_ret ?_
                    refine QM_then_ret ?_
                    exact QM_ret1 rfl rfl (fun W hm => ⟨ret_b (show spec_IsCharge_m x0 = false from by unfold spec_IsCharge_m; exact cond_t g24 (cond_f g26 (cond_f g28 (cond_f g30 (cond_f g32 (cond_t g34 (cond_t g36 (fin_inl (rng_ret (body := (fun k (_ : Unit) => spec_IsCharge_b1 x0 k)) (k := k37) (s := ()) (show k37 < x0.Ids.length from by omega) (show spec_IsCharge_b1 x0 k37 = Sum.inl false from by unfold spec_IsCharge_b1; exact cond_f g47 (rfl)) hF39) rfl)))))))), hm.below⟩)
                · have g42 : (decide (((k37 : Nat) : Int) < ((x0.Ids.length : Nat) : Int))) = false := decide_eq_false (by omega)
                  refine CM_condF rfl g42 ?_
                  refine CM_exit ?_
                  refine QM_then_exit ?_
                  refine QM_then_exit ?_
                  have hE54 : rng (R := Bool) (fun k (_ : Unit) => spec_IsCharge_b1 x0 k) (x0.Ids.length - 0) 0 () = Sum.inr () := rng_end hl41 hF39
                  refine QM_block_hit ?_
                  refine QM_then ?_
                  refine sr ?_
                  refine wa ?_
                  refine nt' ?_
                  refine CM_ret ?_
                  exact QM_ret1 rfl rfl (fun W hm => ⟨ret_b (show spec_IsCharge_m x0 = true from by unfold spec_IsCharge_m; exact cond_t g24 (cond_f g26 (cond_f g28 (cond_f g30 (cond_f g32 (cond_t g34 (cond_t g36 (fin_inr hE54 (rfl))))))))), hm.below⟩)
              ·
                refine CM_condT rfl (nf g36) ?_
                refine sr ?_
                refine wa ?_
                refine nt' ?_
                refine CM_ret ?_
                refine QM_then_ret ?_
                exact QM_ret1 rfl rfl (fun W hm => ⟨ret_b (show spec_IsCharge_m x0 = false from by unfold spec_IsCharge_m; exact cond_t g24 (cond_f g26 (cond_f g28 (cond_f g30 (cond_f g32 (cond_t g34 (cond_f g36 (rfl)))))))), hm.below⟩)
            ·
              refine ws (nf g34) ?_
              refine ws (nf g34) ?_
              refine ws (nf g34) ?_
              refine ws (nf g34) ?_
              refine wv (fun W hm => rv_pickT rfl (nf g34) rfl) ?_
              refine nt' ?_
              refine CM_condT rfl rfl ?_
              refine sr ?_
              refine wa ?_
              refine nt' ?_
              refine CM_ret ?_
              refine QM_then_ret ?_
              exact QM_ret1 rfl rfl (fun W hm => ⟨ret_b (show spec_IsCharge_m x0 = false from by unfold spec_IsCharge_m; exact cond_t g24 (cond_f g26 (cond_f g28 (cond_f g30 (cond_f g32 (cond_f g34 (rfl))))))), hm.below⟩)
          · have g32 : (((x0.Rows.length : Nat) : Int) != ((x0.Ids.length : Nat) : Int)) = true := bne_iff_ne.2 h31
            refine ws g32 ?_
            refine ws g32 ?_
            refine ws g32 ?_
            refine ws g32 ?_
            refine wv (fun W hm => rv_pickT rfl g32 rfl) ?_
            refine wm ?_
            refine WM_skip (Wd_some rfl rfl rfl rfl) rfl (by decide) ?_
            refine WM_skip (Wd_some rfl rfl rfl rfl) rfl (by decide) ?_
            refine WM_skip (Wd_some rfl rfl rfl rfl) rfl (by decide) ?_
            refine WM_skip (Wd_some rfl rfl rfl rfl) rfl (by decide) ?_
            refine wv (fun W hm => rv_pickT rfl rfl rfl) ?_
            refine nt' ?_
            refine CM_condT rfl rfl ?_
            refine sr ?_
            refine wa ?_
            refine nt' ?_
            refine CM_ret ?_
            refine QM_then_ret ?_
            exact QM_ret1 rfl rfl (fun W hm => ⟨ret_b (show spec_IsCharge_m x0 = false from by unfold spec_IsCharge_m; exact cond_t g24 (cond_f g26 (cond_f g28 (cond_f g30 (cond_t g32 (rfl)))))), hm.below⟩)
        · have g30 : (((x0.Tenants.length : Nat) : Int) != ((x0.Ids.length : Nat) : Int)) = true := bne_iff_ne.2 h29
          refine ws g30 ?_
          refine ws g30 ?_
          refine ws g30 ?_
          refine ws g30 ?_
          refine ws g30 ?_
          refine wv (fun W hm => rv_pickT rfl g30 rfl) ?_
          refine wm ?_
          refine WM_skip (Wd_some rfl rfl rfl rfl) rfl (by decide) ?_
          refine WM_skip (Wd_some rfl rfl rfl rfl) rfl (by decide) ?_
          refine WM_skip (Wd_some rfl rfl rfl rfl) rfl (by decide) ?_
          refine WM_skip (Wd_some rfl rfl rfl rfl) rfl (by decide) ?_
          refine wv (fun W hm => rv_pickT rfl rfl rfl) ?_
          refine wm ?_
          refine WM_skip (Wd_some rfl rfl rfl rfl) rfl (by decide) ?_
          refine WM_skip (Wd_some rfl rfl rfl rfl) rfl (by decide) ?_
          refine WM_skip (Wd_some rfl rfl rfl rfl) rfl (by decide) ?_
          refine WM_skip (Wd_some rfl rfl rfl rfl) rfl (by decide) ?_
          refine wv (fun W hm => rv_pickT rfl rfl rfl) ?_
          refine nt' ?_
          refine CM_condT rfl rfl ?_
          refine sr ?_
          refine wa ?_
          refine nt' ?_
          refine CM_ret ?_
          refine QM_then_ret ?_
          exact QM_ret1 rfl rfl (fun W hm => ⟨ret_b (show spec_IsCharge_m x0 = false from by unfold spec_IsCharge_m; exact cond_t g24 (cond_f g26 (cond_f g28 (cond_t g30 (rfl))))), hm.below⟩)
  ·
    refine ws (nf g24) ?_
    refine ws (nf g24) ?_
    refine wv (fun W hm => rv_pickT rfl (nf g24) rfl) ?_
    refine wm ?_
    refine WM_skip (Wd_some rfl rfl rfl rfl) rfl (by decide) ?_
    refine WM_skip (Wd_some rfl rfl rfl rfl) rfl (by decide) ?_
    refine wv (fun W hm => rv_pickT rfl rfl rfl) ?_
    refine wm ?_
    refine WM_skip (Wd_some rfl rfl rfl rfl) rfl (by decide) ?_
    refine WM_skip (Wd_some rfl rfl rfl rfl) rfl (by decide) ?_
    refine WM_skip (Wd_some rfl rfl rfl rfl) rfl (by decide) ?_
    refine WM_skip (Wd_some rfl rfl rfl rfl) rfl (by decide) ?_
    refine WM_skip (Wd_some rfl rfl rfl rfl) rfl (by decide) ?_
    refine wv (fun W hm => rv_pickT rfl rfl rfl) ?_
    refine wm ?_
    refine WM_skip (Wd_some rfl rfl rfl rfl) rfl (by decide) ?_
    refine WM_skip (Wd_some rfl rfl rfl rfl) rfl (by decide) ?_
    refine WM_skip (Wd_some rfl rfl rfl rfl) rfl (by decide) ?_
    refine WM_skip (Wd_some rfl rfl rfl rfl) rfl (by decide) ?_
    refine WM_skip (Wd_some rfl rfl rfl rfl) rfl (by decide) ?_
    refine wv (fun W hm => rv_pickT rfl rfl rfl) ?_
    refine wm ?_
    refine WM_skip (Wd_some rfl rfl rfl rfl) rfl (by decide) ?_
    refine WM_skip (Wd_some rfl rfl rfl rfl) rfl (by decide) ?_
    refine WM_skip (Wd_some rfl rfl rfl rfl) rfl (by decide) ?_
    refine WM_skip (Wd_some rfl rfl rfl rfl) rfl (by decide) ?_
    refine wv (fun W hm => rv_pickT rfl rfl rfl) ?_
    refine wm ?_
    refine WM_skip (Wd_some rfl rfl rfl rfl) rfl (by decide) ?_
    refine WM_skip (Wd_some rfl rfl rfl rfl) rfl (by decide) ?_
    refine WM_skip (Wd_some rfl rfl rfl rfl) rfl (by decide) ?_
    refine WM_skip (Wd_some rfl rfl rfl rfl) rfl (by decide) ?_
    refine wv (fun W hm => rv_pickT rfl rfl rfl) ?_
    refine nt' ?_
    refine CM_condT rfl rfl ?_
    refine sr ?_
    refine wa ?_
    refine nt' ?_
    refine CM_ret ?_
    refine QM_then_ret ?_
    exact QM_ret1 rfl rfl (fun W hm => ⟨ret_b (show spec_IsCharge_m x0 = false from by unfold spec_IsCharge_m; exact cond_f g24 (rfl)), hm.below⟩)

theorem spec_IsCharge_fact {x : DCharge} (h : spec_IsCharge_m x = true) : 1 ≤ x.Ids.length ∧ x.Tenants.length = x.Ids.length ∧ x.Rows.length = x.Ids.length := by
  unfold spec_IsCharge_m at h
  cases h1 : spec_IsSet_m x.Ids <;> rw [h1] at h
  · cases h
  by_cases h2 : ((x.Ids.length : Nat) : Int) = 0
  · rw [beq_iff_eq.2 h2] at h
    cases h
  · by_cases h3 : ((x.Tenants.length : Nat) : Int) = ((x.Ids.length : Nat) : Int)
    · by_cases h4 : ((x.Rows.length : Nat) : Int) = ((x.Ids.length : Nat) : Int)
      · omega
      · rw [bne_iff_ne.2 h4] at h
        revert h
        cases (((x.Ids.length : Nat) : Int) == 0) <;> cases decide (8 < ((x.Ids.length : Nat) : Int)) <;> cases (((x.Tenants.length : Nat) : Int) != ((x.Ids.length : Nat) : Int)) <;> intro h <;> cases h
    · rw [bne_iff_ne.2 h3] at h
      revert h
      cases (((x.Ids.length : Nat) : Int) == 0) <;> cases decide (8 < ((x.Ids.length : Nat) : Int)) <;> intro h <;> cases h

def spec_IsEngine_b3 (x0 : DEngine) (k188 : Nat) : Bool ⊕ (Unit) :=
  cond (spec_IsCharge_m (gt x0.Ledger k188)) (Sum.inr ()) (Sum.inl false)
def spec_IsEngine_b2 (x0 : DEngine) (k142 : Nat) : Bool ⊕ (Unit) :=
  cond (spec_IsQuery_m ((gt x0.Done k142).Query)) (cond (spec_l1In_m ((gt x0.Done k142).Time) 0 x0.Store.Now) (cond (spec_l1In_m ((gt x0.Done k142).Steps) 0 100000) (cond (spec_l9List_m ((gt x0.Done k142).Rows)) (Sum.inr ()) (Sum.inl false)) (Sum.inl false)) (Sum.inl false)) (Sum.inl false)
def spec_IsEngine_b1 (x0 : DEngine) (k56 : Nat) : Bool ⊕ (Unit) :=
  cond (spec_l9Active_m x0 (gt x0.Active k56)) (cond (decide (0 < ((k56 : Nat) : Int))) (cond (decide (((gt x0.Active k56).Query.Id) ≤ ((gt x0.Active (k56 - 1)).Query.Id))) (Sum.inl false) (Sum.inr ())) (Sum.inr ())) (Sum.inl false)
def spec_IsEngine_m (x0 : DEngine) : Bool :=
  cond (spec_IsStore_m x0.Store) (cond (spec_l1In_m x0.Cursor 0 (IntKind.i64.wrap (((x0.Store.Segments.length : Nat) : Int) - 1))) (cond (spec_l6Order_m x0.Order) (cond (decide (8 < ((x0.Active.length : Nat) : Int))) false (cond (spec_l1In_m x0.Steps 0 100000) (cond (decide (1000 < ((x0.Done.length : Nat) : Int))) false (cond (decide (1000 < ((x0.Ledger.length : Nat) : Int))) false (Sum.elim id (fun (s : Unit) => Sum.elim id (fun (s : Unit) => Sum.elim id (fun (s : Unit) => true) (rng (R := Bool) (fun k (_ : Unit) => spec_IsEngine_b3 x0 k) (x0.Ledger.length - 0) 0 ())) (rng (R := Bool) (fun k (_ : Unit) => spec_IsEngine_b2 x0 k) (x0.Done.length - 0) 0 ())) (rng (R := Bool) (fun k (_ : Unit) => spec_IsEngine_b1 x0 k) (x0.Active.length - 0) 0 ())))) false)) false) false) false
set_option maxRecDepth 100000 in
theorem cb57 : Cb Try.prog 57 := ⟨Try.f57, _, Try.func57, rfl, by decide⟩
set_option maxRecDepth 10000 in
set_option maxHeartbeats 4000000 in
theorem spec_IsEngine_c (w : World) (z0 : List Value) (x0 : DEngine) (r_0 : tyEngine.rd w w.heap.size z0 x0) (s_0 : smEngine 68719476736 x0) :
    Calls Try.prog 57 #[.agg z0.toArray] w fun e w' => e = .returned (.bool (spec_IsEngine_m x0)) ∧ Below w.heap.size w w' := by
  obtain ⟨v1, v3, v5, v7, v9, rfl, r2, r4, r6, r8, r10⟩ := tyEngine_rd r_0
  have r15 := r2
  obtain ⟨m11, A12, c13, rfl, q14⟩ := r2
  have r20 := r4
  obtain ⟨m16, A17, c18, rfl, q19⟩ := r4
  have r25 := r6
  obtain ⟨m21, A22, c23, rfl, q24⟩ := r6
  have r30 := r8
  obtain ⟨m26, A27, c28, rfl, q29⟩ := r8
  have r35 := r10
  obtain ⟨m31, A32, c33, rfl, q34⟩ := r10
  have l36 : x0.Store.Segments.length ≤ 68719476736 := s_0.1.1
  have l37 : x0.Order.length ≤ 68719476736 := s_0.2.1
  have l38 : x0.Active.length ≤ 68719476736 := s_0.2.2.1.1
  have l39 : x0.Done.length ≤ 68719476736 := s_0.2.2.2.1.1
  have l40 : x0.Ledger.length ≤ 68719476736 := s_0.2.2.2.2.1
  refine call_enterM (L := [(0, .agg #[.slice A12 x0.Store.Segments.length c13, .int .i64 x0.Store.Now, .int .i64 x0.Cursor, .slice A17 x0.Order.length c18, .slice A22 x0.Active.length c23, .slice A27 x0.Done.length c28, .slice A32 x0.Ledger.length c33, .int .i64 x0.Steps])]) (N := 140) Try.func57 rfl rfl (Nat.le_of_ble_eq_true rfl) (argsL_cons rfl argsL_nil) ?_
  refine sr ?_
  refine WM_box rfl (Wd_none rfl) (by decide) (fun p41 => ?_)
  refine wa ?_
  refine nt' ?_
  refine CM_seq ?_
  refine sr ?_
  refine wv (fun W hm => rv_field Try.underlying77 rfl Try.type26 (by decide) rfl rfl) ?_
  refine wv (fun W hm => rv_loadN (cs := [.slice A12 x0.Store.Segments.length c13, .int .i64 x0.Store.Now]) Try.underlying26 Try.type26 rfl rfl (hm.boxPart (n := 0) rfl rfl)) ?_
  refine WM_callV (cl_fn cb20 rfl) (fun W hm => spec_IsStore_c W _ x0.Store (tyStore_mk (x := x0.Store) (hm.rdS0 r15)) s_0.1) (Wd_none rfl) (by decide) ?_
  refine wv (fun W hm => rv_not rfl) ?_
  refine wm ?_
  rcases Bool.eq_false_or_eq_true (spec_IsStore_m x0.Store) with g43 | g43
  ·
    refine wg (fun W hm => rv_field Try.underlying77 rfl Try.type3 (by decide) rfl rfl) (nt g43) ?_
    refine wg (fun W hm => rv_load Try.underlying3 rfl rfl (hm.boxCell (n := 0) (o := 2) rfl rfl)) (nt g43) ?_
    refine wg (fun W hm => rv_field Try.underlying77 rfl Try.type26 (by decide) rfl rfl) (nt g43) ?_
    refine wg (fun W hm => rv_fieldA (o := 0) Try.underlying26 rfl Try.type24 (by decide) rfl rfl) (nt g43) ?_
    refine wg (fun W hm => rv_load Try.underlying24 rfl rfl (hm.boxCell (n := 0) (o := 0) rfl rfl)) (nt g43) ?_
    refine wg (fun W hm => rv_len Try.underlying24 rfl) (nt g43) ?_
    refine wg (fun W hm => rv_sub rfl rfl) (nt g43) ?_
    refine WM_callV (cl_fn cb86 rfl) (fun W hm => spec_l1In_c W x0.Cursor 0 (IntKind.i64.wrap (((x0.Store.Segments.length : Nat) : Int) - 1))) (Wd_some rfl rfl rfl (bw (nt g43) rfl)) (by decide) ?_
    refine wg (fun W hm => rv_not rfl) (nt g43) ?_
    refine wv (fun W hm => rv_pickF rfl (nt g43) rfl) ?_
    refine wm ?_
    rcases Bool.eq_false_or_eq_true (spec_l1In_m x0.Cursor 0 (IntKind.i64.wrap (((x0.Store.Segments.length : Nat) : Int) - 1))) with g45 | g45
    ·
      have hw := spec_l1In_fact g45
      rw [wrap_pred (by omega)] at hw
      refine wg (fun W hm => rv_field Try.underlying77 rfl Try.type27 (by decide) rfl rfl) (nt g45) ?_
      refine wg (fun W hm => rv_load Try.underlying27 rfl rfl (hm.boxCell (n := 0) (o := 3) rfl rfl)) (nt g45) ?_
      refine WM_callV (cl_fn cb137 rfl) (fun W hm => spec_l6Order_c W _ x0.Order (hm.rdS0 r20)) (Wd_some rfl rfl rfl (bw (nt g45) rfl)) (by decide) ?_
      refine wg (fun W hm => rv_not rfl) (nt g45) ?_
      refine wv (fun W hm => rv_pickF rfl (nt g45) rfl) ?_
      refine wm ?_
      rcases Bool.eq_false_or_eq_true (spec_l6Order_m x0.Order) with g47 | g47
      ·
        refine wg (fun W hm => rv_field Try.underlying77 rfl Try.type73 (by decide) rfl rfl) (nt g47) ?_
        refine wg (fun W hm => rv_load Try.underlying73 rfl rfl (hm.boxCell (n := 0) (o := 4) rfl rfl)) (nt g47) ?_
        refine wg (fun W hm => rv_len Try.underlying73 rfl) (nt g47) ?_
        refine wg (fun W hm => rv_gtr rfl rfl) (nt g47) ?_
        refine wv (fun W hm => rv_pickF rfl (nt g47) rfl) ?_
        refine wm ?_
        by_cases h48 : 8 < ((x0.Active.length : Nat) : Int)
        · have g49 : (decide (8 < ((x0.Active.length : Nat) : Int))) = true := decide_eq_true h48
          refine ws g49 ?_
          refine ws g49 ?_
          refine ws g49 ?_
          refine ws g49 ?_
          refine wv (fun W hm => rv_pickT rfl g49 rfl) ?_
          refine wm ?_
          refine WM_skip (Wd_some rfl rfl rfl rfl) rfl (by decide) ?_
          refine WM_skip (Wd_some rfl rfl rfl rfl) rfl (by decide) ?_
          refine WM_skip (Wd_some rfl rfl rfl rfl) rfl (by decide) ?_
          refine WM_skip (Wd_some rfl rfl rfl rfl) rfl (by decide) ?_
          refine wv (fun W hm => rv_pickT rfl rfl rfl) ?_
          refine wm ?_
          refine WM_skip (Wd_some rfl rfl rfl rfl) rfl (by decide) ?_
          refine WM_skip (Wd_some rfl rfl rfl rfl) rfl (by decide) ?_
          refine WM_skip (Wd_some rfl rfl rfl rfl) rfl (by decide) ?_
          refine WM_skip (Wd_some rfl rfl rfl rfl) rfl (by decide) ?_
          refine wv (fun W hm => rv_pickT rfl rfl rfl) ?_
          refine nt' ?_
          refine CM_condT rfl rfl ?_
          refine sr ?_
          refine wa ?_
          refine nt' ?_
          refine CM_ret ?_
          refine QM_then_ret ?_
          exact QM_ret1 rfl rfl (fun W hm => ⟨ret_b (show spec_IsEngine_m x0 = false from by unfold spec_IsEngine_m; exact cond_t g43 (cond_t g45 (cond_t g47 (cond_t g49 (rfl))))), hm.below⟩)
        · have g49 : (decide (8 < ((x0.Active.length : Nat) : Int))) = false := decide_eq_false h48
          refine wg (fun W hm => rv_field Try.underlying77 rfl Try.type3 (by decide) rfl rfl) g49 ?_
          refine wg (fun W hm => rv_load Try.underlying3 rfl rfl (hm.boxCell (n := 0) (o := 7) rfl rfl)) g49 ?_
          refine WM_callV (cl_fn cb86 rfl) (fun W hm => spec_l1In_c W x0.Steps 0 100000) (Wd_some rfl rfl rfl (bw g49 rfl)) (by decide) ?_
          refine wg (fun W hm => rv_not rfl) g49 ?_
          refine wv (fun W hm => rv_pickF rfl g49 rfl) ?_
          refine wm ?_
          rcases Bool.eq_false_or_eq_true (spec_l1In_m x0.Steps 0 100000) with g51 | g51
          ·
            have hw := spec_l1In_fact g51
            refine wg (fun W hm => rv_field Try.underlying77 rfl Try.type74 (by decide) rfl rfl) (nt g51) ?_
            refine wg (fun W hm => rv_load Try.underlying74 rfl rfl (hm.boxCell (n := 0) (o := 5) rfl rfl)) (nt g51) ?_
            refine wg (fun W hm => rv_len Try.underlying74 rfl) (nt g51) ?_
            refine wg (fun W hm => rv_gtr rfl rfl) (nt g51) ?_
            refine wv (fun W hm => rv_pickF rfl (nt g51) rfl) ?_
            refine wm ?_
            by_cases h52 : 1000 < ((x0.Done.length : Nat) : Int)
            · have g53 : (decide (1000 < ((x0.Done.length : Nat) : Int))) = true := decide_eq_true h52
              refine ws g53 ?_
              refine ws g53 ?_
              refine ws g53 ?_
              refine ws g53 ?_
              refine wv (fun W hm => rv_pickT rfl g53 rfl) ?_
              refine nt' ?_
              refine CM_condT rfl rfl ?_
              refine sr ?_
              refine wa ?_
              refine nt' ?_
              refine CM_ret ?_
              refine QM_then_ret ?_
              exact QM_ret1 rfl rfl (fun W hm => ⟨ret_b (show spec_IsEngine_m x0 = false from by unfold spec_IsEngine_m; exact cond_t g43 (cond_t g45 (cond_t g47 (cond_f g49 (cond_t g51 (cond_t g53 (rfl))))))), hm.below⟩)
            · have g53 : (decide (1000 < ((x0.Done.length : Nat) : Int))) = false := decide_eq_false h52
              refine wg (fun W hm => rv_field Try.underlying77 rfl Try.type75 (by decide) rfl rfl) g53 ?_
              refine wg (fun W hm => rv_load Try.underlying75 rfl rfl (hm.boxCell (n := 0) (o := 6) rfl rfl)) g53 ?_
              refine wg (fun W hm => rv_len Try.underlying75 rfl) g53 ?_
              refine wg (fun W hm => rv_gtr rfl rfl) g53 ?_
              refine wv (fun W hm => rv_pickF rfl g53 rfl) ?_
              refine nt' ?_
              by_cases h54 : 1000 < ((x0.Ledger.length : Nat) : Int)
              · have g55 : (decide (1000 < ((x0.Ledger.length : Nat) : Int))) = true := decide_eq_true h54
                refine CM_condT rfl g55 ?_
                refine sr ?_
                refine wa ?_
                refine nt' ?_
                refine CM_ret ?_
                refine QM_then_ret ?_
                exact QM_ret1 rfl rfl (fun W hm => ⟨ret_b (show spec_IsEngine_m x0 = false from by unfold spec_IsEngine_m; exact cond_t g43 (cond_t g45 (cond_t g47 (cond_f g49 (cond_t g51 (cond_f g53 (cond_t g55 (rfl)))))))), hm.below⟩)
              · have g55 : (decide (1000 < ((x0.Ledger.length : Nat) : Int))) = false := decide_eq_false h54
                refine CM_condF rfl g55 ?_
                refine CM_skip ?_
                refine QM_then ?_
                refine CM_seq ?_
                refine sr ?_
                refine wa ?_
                refine nt' ?_
                refine CM_block ?_
                refine CM_loop (σ := Nat × (Unit) × (Unit)) (fun s => [(1, .pointer (some (⟨p41, 0, none⟩ : Addr))), (3, .int .i64 ((s.1 : Nat) : Int))]) (fun s => [iBox p41 77 [.slice A12 x0.Store.Segments.length c13, .int .i64 x0.Store.Now, .int .i64 x0.Cursor, .slice A17 x0.Order.length c18, .slice A22 x0.Active.length c23, .slice A27 x0.Done.length c28, .slice A32 x0.Ledger.length c33, .int .i64 x0.Steps]]) (fun s => s.1 ≤ x0.Active.length ∧ rng (R := Bool) (fun k (_ : Unit) => spec_IsEngine_b1 x0 k) (x0.Active.length - s.1) s.1 s.2.1 = rng (R := Bool) (fun k (_ : Unit) => spec_IsEngine_b1 x0 k) (x0.Active.length - 0) 0 ()) (fun s => x0.Active.length - s.1) (0, (), ()) (subL_cons rfl (subL_cons rfl subL_nil)) (fun W hm => hm) ⟨(by omega), rfl⟩ ?_
                rintro ⟨k56, ⟨⟩, ⟨⟩⟩ H59
                obtain ⟨hk57, hF58⟩ : k56 ≤ x0.Active.length ∧ rng (R := Bool) (fun k (_ : Unit) => spec_IsEngine_b1 x0 k) (x0.Active.length - k56) k56 () = rng (R := Bool) (fun k (_ : Unit) => spec_IsEngine_b1 x0 k) (x0.Active.length - 0) 0 () := H59
                show CM Try.prog 140 _ _ _ _ [(1, .pointer (some (⟨p41, 0, none⟩ : Addr))), (3, .int .i64 ((k56 : Nat) : Int))] [iBox p41 77 [.slice A12 x0.Store.Segments.length c13, .int .i64 x0.Store.Now, .int .i64 x0.Cursor, .slice A17 x0.Order.length c18, .slice A22 x0.Active.length c23, .slice A27 x0.Done.length c28, .slice A32 x0.Ledger.length c33, .int .i64 x0.Steps]]
                refine CM_seq ?_
                refine sr ?_
                refine wm ?_
                refine wv (fun W hm => rv_field Try.underlying77 rfl Try.type73 (by decide) rfl rfl) ?_
                refine wv (fun W hm => rv_load Try.underlying73 rfl rfl (hm.boxCell (n := 0) (o := 4) rfl rfl)) ?_
                refine wv (fun W hm => rv_len Try.underlying73 rfl) ?_
                refine wv (fun W hm => rv_lss rfl rfl) ?_
                refine nt' ?_
                by_cases hl60 : k56 < x0.Active.length
                · have g61 : (decide (((k56 : Nat) : Int) < ((x0.Active.length : Nat) : Int))) = true := decide_eq_true (by omega)
                  refine CM_condT rfl g61 ?_
                  refine CM_skip ?_
                  refine QM_then ?_
                  refine CM_seq ?_
                  refine CM_block ?_
                  refine CM_seq ?_
                  refine CM_regionD (by kernel_rfl) (by kernel_rfl) ?_
                  refine qv (fun W hm => rv_loadN (cs := [.slice A12 x0.Store.Segments.length c13, .int .i64 x0.Store.Now, .int .i64 x0.Cursor, .slice A17 x0.Order.length c18, .slice A22 x0.Active.length c23, .slice A27 x0.Done.length c28, .slice A32 x0.Ledger.length c33, .int .i64 x0.Steps]) Try.underlying77 Try.type77 rfl rfl (hm.boxCells (n := 0) rfl)) ?_
                  refine qv (fun W hm => rv_field Try.underlying77 rfl Try.type73 (by decide) rfl rfl) ?_
                  refine qv (fun W hm => rv_load Try.underlying73 rfl rfl (hm.boxCell (n := 0) (o := 4) rfl rfl)) ?_
                  refine qm ?_
                  obtain ⟨a62, rfl, hb63, he64⟩ := q24 (by omega)
                  refine qv (fun W hm => rv_index (sz := 10) (k := k56) Try.underlying73 Try.type127 rfl rfl rfl (by omega)) ?_
                  obtain ⟨_, e74, hc65⟩ := he64 k56 _ (gt_some (show k56 < x0.Active.length from by omega))
                  obtain ⟨v66, v68, v70, v72, rfl, r67, r69, r71, r73⟩ := tyActive_rd e74
                  have l75 : ((gt x0.Active k56).Query.Conds).length ≤ 68719476736 := (s_0.2.2.1.2 _ (gt_mem (show k56 < x0.Active.length from by omega))).1.1
                  have l76 : ((gt x0.Active k56).Query.Out).length ≤ 68719476736 := (s_0.2.2.1.2 _ (gt_mem (show k56 < x0.Active.length from by omega))).1.2
                  have l77 : ((gt x0.Active k56).Todo).length ≤ 68719476736 := (s_0.2.2.1.2 _ (gt_mem (show k56 < x0.Active.length from by omega))).2.1
                  have l78 : ((gt x0.Active k56).Rows).length ≤ 68719476736 := (s_0.2.2.1.2 _ (gt_mem (show k56 < x0.Active.length from by omega))).2.2.1
                  have r83 := r67
                  obtain ⟨m79, A80, c81, rfl, q82⟩ := r67
                  have r88 := r69
                  obtain ⟨m84, A85, c86, rfl, q87⟩ := r69
                  have r93 := r71
                  obtain ⟨m89, A90, c91, rfl, q92⟩ := r71
                  have r98 := r73
                  obtain ⟨m94, A95, c96, rfl, q97⟩ := r73
                  refine qv (fun W hm => rv_loadN (cs := [.int .i64 ((gt x0.Active k56).Query.Id), .int .i64 ((gt x0.Active k56).Query.Tenant), .slice A80 ((gt x0.Active k56).Query.Conds).length c81, .slice A85 ((gt x0.Active k56).Query.Out).length c86, .int .i64 ((gt x0.Active k56).Time), .slice A90 ((gt x0.Active k56).Todo).length c91, .int .i64 ((gt x0.Active k56).Age), .int .i64 ((gt x0.Active k56).Sent), .int .i64 ((gt x0.Active k56).Cap), .slice A95 ((gt x0.Active k56).Rows).length c96]) Try.underlying127 Try.type127 rfl rfl (hm.elCells (show (a62.add (k56 * 10)).block < w.heap.size from by rw [add_block]; exact hb63.1) hc65)) ?_
                  refine QR_callV (cl_fn cb138 rfl) (fun W hm => spec_l9Active_c W _ x0 _ (gt x0.Active k56) (tyEngine_mk (x := x0) (hm.rdS0 r15) (hm.rdS0 r20) (hm.rdS0 r25) (hm.rdS0 r30) (hm.rdS0 r35)) (tyActive_mk (x := (gt x0.Active k56)) (hm.rdS0 r83) (hm.rdS0 r88) (hm.rdS0 r93) (hm.rdS0 r98))) (Wd_none rfl) (by decide) ?_
                  refine qv (fun W hm => rv_not rfl) ?_
                  refine qm ?_
                  rcases Bool.eq_false_or_eq_true (spec_l9Active_m x0 (gt x0.Active k56)) with g100 | g100
                  ·
                    refine qg (fun W hm => rv_move rfl) (nt g100) ?_
                    refine qg (fun W hm => rv_gtr rfl rfl) (nt g100) ?_
                    refine qg (fun W hm => rv_move rfl) (nt g100) ?_
                    by_cases h101 : 0 < ((k56 : Nat) : Int)
                    · have g102 : (decide (0 < ((k56 : Nat) : Int))) = true := decide_eq_true h101
                      refine qg (fun W hm => rv_field Try.underlying77 rfl Try.type73 (by decide) rfl rfl) g102 ?_
                      refine qg (fun W hm => rv_load Try.underlying73 rfl rfl (hm.boxCell (n := 0) (o := 4) rfl rfl)) g102 ?_
                      refine qg (fun W hm => rv_move rfl) g102 ?_
                      refine qg (fun W hm => rv_index (sz := 10) (k := k56) Try.underlying73 Try.type127 rfl rfl rfl (by omega)) g102 ?_
                      refine qg (fun W hm => rv_field Try.underlying127 rfl Try.type125 (by decide) rfl rfl) g102 ?_
                      refine qg (fun W hm => rv_fieldA (o := 0) Try.underlying125 rfl Try.type3 (by decide) rfl rfl) g102 ?_
                      refine qg (fun W hm => rv_load Try.underlying3 rfl rfl ((hm.cell0 (show ((a62.add (k56 * 10)).add 0).block < w.heap.size from by rw [add_block, add_block]; exact hb63.1)).trans (hc65 0 _ rfl))) g102 ?_
                      refine qg (fun W hm => rv_field Try.underlying77 rfl Try.type73 (by decide) rfl rfl) g102 ?_
                      refine qg (fun W hm => rv_load Try.underlying73 rfl rfl (hm.boxCell (n := 0) (o := 4) rfl rfl)) g102 ?_
                      refine qg (fun W hm => rv_move rfl) g102 ?_
                      refine qg (fun W hm => rv_subN (p := k56) (q := 1) rfl rfl (by omega) (by omega)) g102 ?_
                      refine qg (fun W hm => rv_index (sz := 10) (k := k56 - 1) Try.underlying73 Try.type127 rfl rfl rfl (by omega)) g102 ?_
                      refine qg (fun W hm => rv_field Try.underlying127 rfl Try.type125 (by decide) rfl rfl) g102 ?_
                      refine qg (fun W hm => rv_fieldA (o := 0) Try.underlying125 rfl Try.type3 (by decide) rfl rfl) g102 ?_
                      obtain ⟨_, e112, hc103⟩ := he64 (k56 - 1) _ (gt_some (show (k56 - 1) < x0.Active.length from by omega))
                      obtain ⟨v104, v106, v108, v110, rfl, r105, r107, r109, r111⟩ := tyActive_rd e112
                      have l113 : ((gt x0.Active (k56 - 1)).Query.Conds).length ≤ 68719476736 := (s_0.2.2.1.2 _ (gt_mem (show (k56 - 1) < x0.Active.length from by omega))).1.1
                      have l114 : ((gt x0.Active (k56 - 1)).Query.Out).length ≤ 68719476736 := (s_0.2.2.1.2 _ (gt_mem (show (k56 - 1) < x0.Active.length from by omega))).1.2
                      have l115 : ((gt x0.Active (k56 - 1)).Todo).length ≤ 68719476736 := (s_0.2.2.1.2 _ (gt_mem (show (k56 - 1) < x0.Active.length from by omega))).2.1
                      have l116 : ((gt x0.Active (k56 - 1)).Rows).length ≤ 68719476736 := (s_0.2.2.1.2 _ (gt_mem (show (k56 - 1) < x0.Active.length from by omega))).2.2.1
                      have r121 := r105
                      obtain ⟨m117, A118, c119, rfl, q120⟩ := r105
                      have r126 := r107
                      obtain ⟨m122, A123, c124, rfl, q125⟩ := r107
                      have r131 := r109
                      obtain ⟨m127, A128, c129, rfl, q130⟩ := r109
                      have r136 := r111
                      obtain ⟨m132, A133, c134, rfl, q135⟩ := r111
                      refine qg (fun W hm => rv_load Try.underlying3 rfl rfl ((hm.cell0 (show ((a62.add ((k56 - 1) * 10)).add 0).block < w.heap.size from by rw [add_block, add_block]; exact hb63.1)).trans (hc103 0 _ rfl))) g102 ?_
                      refine qg (fun W hm => rv_leq rfl rfl) g102 ?_
                      refine qg (fun W hm => rv_pickT rfl g102 rfl) (nt g100) ?_
                      refine qv (fun W hm => rv_pickF rfl (nt g100) rfl) ?_
                      refine nq' ?_
                      by_cases h137 : ((gt x0.Active k56).Query.Id) ≤ ((gt x0.Active (k56 - 1)).Query.Id)
                      · have g138 : (decide (((gt x0.Active k56).Query.Id) ≤ ((gt x0.Active (k56 - 1)).Query.Id))) = true := decide_eq_true h137
                        refine CM_condT rfl g138 ?_
                        refine sr ?_
                        refine wa ?_
                        refine nt' ?_
                        refine CM_ret ?_
                        refine QM_block_ret ?_
                        refine QM_then_ret ?_
                        refine QM_then_ret ?_
                        refine QM_block_ret ?_
                        refine QM_then_ret ?_
                        exact QM_ret1 rfl rfl (fun W hm => ⟨ret_b (show spec_IsEngine_m x0 = false from by unfold spec_IsEngine_m; exact cond_t g43 (cond_t g45 (cond_t g47 (cond_f g49 (cond_t g51 (cond_f g53 (cond_f g55 (fin_inl (rng_ret (body := (fun k (_ : Unit) => spec_IsEngine_b1 x0 k)) (k := k56) (s := ()) (show k56 < x0.Active.length from by omega) (show spec_IsEngine_b1 x0 k56 = Sum.inl false from by unfold spec_IsEngine_b1; exact cond_t g100 (cond_t g102 (cond_t g138 (rfl)))) hF58) rfl)))))))), hm.below⟩)
                      · have g138 : (decide (((gt x0.Active k56).Query.Id) ≤ ((gt x0.Active (k56 - 1)).Query.Id))) = false := decide_eq_false h137
                        refine CM_condF rfl g138 ?_
                        refine CM_skip ?_
                        refine QM_block_normal ?_
                        refine QM_then ?_
                        refine CM_region ?_
                        refine wm ?_
                        refine wv (fun W hm => rv_addN (p := k56) (q := 1) rfl rfl (by omega)) ?_
                        refine wa ?_
                        refine WM_nil ?_
                        have hn139 := rng_next (R := Bool) (body := (fun k (_ : Unit) => spec_IsEngine_b1 x0 k)) (k := k56) (s := ()) (s' := ()) (show k56 < x0.Active.length from by omega) (show spec_IsEngine_b1 x0 k56 = Sum.inr () from by unfold spec_IsEngine_b1; exact cond_t g100 (cond_t g102 (cond_f g138 (rfl)))) hF58
                        exact QM_round (k56 + 1, (), ()) (subL_cons rfl (subL_cons rfl subL_nil)) (fun W hm => hm) ⟨(by omega), hn139⟩ (show x0.Active.length - (k56 + 1) < x0.Active.length - k56 from by omega)
                    · have g102 : (decide (0 < ((k56 : Nat) : Int))) = false := decide_eq_false h101
                      refine qs g102 ?_
                      refine qs g102 ?_
                      refine qs g102 ?_
                      refine qs g102 ?_
                      refine qs g102 ?_
                      refine qs g102 ?_
                      refine qs g102 ?_
                      refine qs g102 ?_
                      refine qs g102 ?_
                      refine qs g102 ?_
                      refine qs g102 ?_
                      refine qs g102 ?_
                      refine qs g102 ?_
                      refine qs g102 ?_
                      refine qs g102 ?_
                      refine qs g102 ?_
                      refine qg (fun W hm => rv_pickF rfl g102 rfl) (nt g100) ?_
                      refine qv (fun W hm => rv_pickF rfl (nt g100) rfl) ?_
                      refine nq' ?_
                      refine CM_condF rfl rfl ?_
                      refine CM_skip ?_
                      refine QM_block_normal ?_
                      refine QM_then ?_
                      refine CM_region ?_
                      refine wm ?_
                      refine wv (fun W hm => rv_addN (p := k56) (q := 1) rfl rfl (by omega)) ?_
                      refine wa ?_
                      refine WM_nil ?_
                      have hn140 := rng_next (R := Bool) (body := (fun k (_ : Unit) => spec_IsEngine_b1 x0 k)) (k := k56) (s := ()) (s' := ()) (show k56 < x0.Active.length from by omega) (show spec_IsEngine_b1 x0 k56 = Sum.inr () from by unfold spec_IsEngine_b1; exact cond_t g100 (cond_f g102 (rfl))) hF58
                      exact QM_round (k56 + 1, (), ()) (subL_cons rfl (subL_cons rfl subL_nil)) (fun W hm => hm) ⟨(by omega), hn140⟩ (show x0.Active.length - (k56 + 1) < x0.Active.length - k56 from by omega)
                  ·
                    refine qs (nf g100) ?_
                    refine qs (nf g100) ?_
                    refine qs (nf g100) ?_
                    refine qu ?_
                    refine qu ?_
                    refine qu ?_
                    refine qu ?_
                    refine qu ?_
                    refine qu ?_
                    refine qu ?_
                    refine qu ?_
                    refine qu ?_
                    refine qu ?_
                    refine qu ?_
                    refine qu ?_
                    refine qu ?_
                    refine qu ?_
                    refine qu ?_
                    refine qu ?_
                    refine qs (nf g100) ?_
                    refine qv (fun W hm => rv_pickT rfl (nf g100) rfl) ?_
                    refine nq' ?_
                    refine CM_condT rfl rfl ?_
                    refine sr ?_
                    refine wa ?_
                    refine nt' ?_
                    refine CM_ret ?_
                    refine QM_block_ret ?_
                    refine QM_then_ret ?_
                    refine QM_then_ret ?_
                    refine QM_block_ret ?_
                    refine QM_then_ret ?_
                    exact QM_ret1 rfl rfl (fun W hm => ⟨ret_b (show spec_IsEngine_m x0 = false from by unfold spec_IsEngine_m; exact cond_t g43 (cond_t g45 (cond_t g47 (cond_f g49 (cond_t g51 (cond_f g53 (cond_f g55 (fin_inl (rng_ret (body := (fun k (_ : Unit) => spec_IsEngine_b1 x0 k)) (k := k56) (s := ()) (show k56 < x0.Active.length from by omega) (show spec_IsEngine_b1 x0 k56 = Sum.inl false from by unfold spec_IsEngine_b1; exact cond_f g100 (rfl)) hF58) rfl)))))))), hm.below⟩)
                · have g61 : (decide (((k56 : Nat) : Int) < ((x0.Active.length : Nat) : Int))) = false := decide_eq_false (by omega)
                  refine CM_condF rfl g61 ?_
                  refine CM_exit ?_
                  refine QM_then_exit ?_
                  refine QM_then_exit ?_
                  have hE141 : rng (R := Bool) (fun k (_ : Unit) => spec_IsEngine_b1 x0 k) (x0.Active.length - 0) 0 () = Sum.inr () := rng_end hl60 hF58
                  refine QM_block_hit ?_
                  refine QM_then ?_
                  refine CM_seq ?_
                  refine sr ?_
                  refine wa ?_
                  refine nt' ?_
                  refine CM_block ?_
                  refine CM_loop (σ := Nat × (Unit) × (Unit)) (fun s => [(1, .pointer (some (⟨p41, 0, none⟩ : Addr))), (4, .int .i64 ((s.1 : Nat) : Int))]) (fun s => [iBox p41 77 [.slice A12 x0.Store.Segments.length c13, .int .i64 x0.Store.Now, .int .i64 x0.Cursor, .slice A17 x0.Order.length c18, .slice A22 x0.Active.length c23, .slice A27 x0.Done.length c28, .slice A32 x0.Ledger.length c33, .int .i64 x0.Steps]]) (fun s => s.1 ≤ x0.Done.length ∧ rng (R := Bool) (fun k (_ : Unit) => spec_IsEngine_b2 x0 k) (x0.Done.length - s.1) s.1 s.2.1 = rng (R := Bool) (fun k (_ : Unit) => spec_IsEngine_b2 x0 k) (x0.Done.length - 0) 0 ()) (fun s => x0.Done.length - s.1) (0, (), ()) (subL_cons rfl (subL_cons rfl subL_nil)) (fun W hm => hm) ⟨(by omega), rfl⟩ ?_
                  rintro ⟨k142, ⟨⟩, ⟨⟩⟩ H145
                  obtain ⟨hk143, hF144⟩ : k142 ≤ x0.Done.length ∧ rng (R := Bool) (fun k (_ : Unit) => spec_IsEngine_b2 x0 k) (x0.Done.length - k142) k142 () = rng (R := Bool) (fun k (_ : Unit) => spec_IsEngine_b2 x0 k) (x0.Done.length - 0) 0 () := H145
                  show CM Try.prog 140 _ _ _ _ [(1, .pointer (some (⟨p41, 0, none⟩ : Addr))), (4, .int .i64 ((k142 : Nat) : Int))] [iBox p41 77 [.slice A12 x0.Store.Segments.length c13, .int .i64 x0.Store.Now, .int .i64 x0.Cursor, .slice A17 x0.Order.length c18, .slice A22 x0.Active.length c23, .slice A27 x0.Done.length c28, .slice A32 x0.Ledger.length c33, .int .i64 x0.Steps]]
                  refine CM_seq ?_
                  refine sr ?_
                  refine wm ?_
                  refine wv (fun W hm => rv_field Try.underlying77 rfl Try.type74 (by decide) rfl rfl) ?_
                  refine wv (fun W hm => rv_load Try.underlying74 rfl rfl (hm.boxCell (n := 0) (o := 5) rfl rfl)) ?_
                  refine wv (fun W hm => rv_len Try.underlying74 rfl) ?_
                  refine wv (fun W hm => rv_lss rfl rfl) ?_
                  refine nt' ?_
                  by_cases hl146 : k142 < x0.Done.length
                  · have g147 : (decide (((k142 : Nat) : Int) < ((x0.Done.length : Nat) : Int))) = true := decide_eq_true (by omega)
                    refine CM_condT rfl g147 ?_
                    refine CM_skip ?_
                    refine QM_then ?_
                    refine CM_seq ?_
                    refine CM_block ?_
                    refine sr ?_
                    refine wv (fun W hm => rv_field Try.underlying77 rfl Try.type74 (by decide) rfl rfl) ?_
                    refine wv (fun W hm => rv_load Try.underlying74 rfl rfl (hm.boxCell (n := 0) (o := 5) rfl rfl)) ?_
                    refine wm ?_
                    obtain ⟨a148, rfl, hb149, he150⟩ := q29 (by omega)
                    refine wv (fun W hm => rv_index (sz := 7) (k := k142) Try.underlying74 Try.type136 rfl rfl rfl (by omega)) ?_
                    obtain ⟨_, e158, hc151⟩ := he150 k142 _ (gt_some (show k142 < x0.Done.length from by omega))
                    obtain ⟨v152, v154, v156, rfl, r153, r155, r157⟩ := tyFinished_rd e158
                    have l159 : ((gt x0.Done k142).Query.Conds).length ≤ 68719476736 := (s_0.2.2.2.1.2 _ (gt_mem (show k142 < x0.Done.length from by omega))).1.1
                    have l160 : ((gt x0.Done k142).Query.Out).length ≤ 68719476736 := (s_0.2.2.2.1.2 _ (gt_mem (show k142 < x0.Done.length from by omega))).1.2
                    have l161 : ((gt x0.Done k142).Rows).length ≤ 68719476736 := (s_0.2.2.2.1.2 _ (gt_mem (show k142 < x0.Done.length from by omega))).2.1
                    have r166 := r153
                    obtain ⟨m162, A163, c164, rfl, q165⟩ := r153
                    have r171 := r155
                    obtain ⟨m167, A168, c169, rfl, q170⟩ := r155
                    have r176 := r157
                    obtain ⟨m172, A173, c174, rfl, q175⟩ := r157
                    refine wv (fun W hm => rv_loadN (cs := [.int .i64 ((gt x0.Done k142).Query.Id), .int .i64 ((gt x0.Done k142).Query.Tenant), .slice A163 ((gt x0.Done k142).Query.Conds).length c164, .slice A168 ((gt x0.Done k142).Query.Out).length c169, .int .i64 ((gt x0.Done k142).Time), .int .i64 ((gt x0.Done k142).Steps), .slice A173 ((gt x0.Done k142).Rows).length c174]) Try.underlying136 Try.type136 rfl rfl (hm.elCells (show (a148.add (k142 * 7)).block < w.heap.size from by rw [add_block]; exact hb149.1) hc151)) ?_
                    refine WM_alloc Try.type136 rfl (Wd_none rfl) (by decide) (fun p177 => ?_)
                    refine WM_storeBox (p := p177) (o := 0) (cs := [.int .i64 0, .int .i64 0, .slice none 0 0, .slice none 0 0, .int .i64 0, .int .i64 0, .slice none 0 0]) (cs' := [.int .i64 ((gt x0.Done k142).Query.Id), .int .i64 ((gt x0.Done k142).Query.Tenant), .slice A163 ((gt x0.Done k142).Query.Conds).length c164, .slice A168 ((gt x0.Done k142).Query.Out).length c169, .int .i64 ((gt x0.Done k142).Time), .int .i64 ((gt x0.Done k142).Steps), .slice A173 ((gt x0.Done k142).Rows).length c174]) (js := [iBox p41 77 [.slice A12 x0.Store.Segments.length c13, .int .i64 x0.Store.Now, .int .i64 x0.Cursor, .slice A17 x0.Order.length c18, .slice A22 x0.Active.length c23, .slice (some a148) x0.Done.length c28, .slice A32 x0.Ledger.length c33, .int .i64 x0.Steps]]) (fun W hm => hm) Try.type136 rfl (Nat.le_of_ble_eq_true rfl) rfl rfl rfl rfl (Wd_none rfl) ?_
                    refine nt' ?_
                    refine sr ?_
                    refine wv (fun W hm => rv_field Try.underlying136 rfl Try.type125 (by decide) rfl rfl) ?_
                    refine wv (fun W hm => rv_loadN (cs := [.int .i64 ((gt x0.Done k142).Query.Id), .int .i64 ((gt x0.Done k142).Query.Tenant), .slice A163 ((gt x0.Done k142).Query.Conds).length c164, .slice A168 ((gt x0.Done k142).Query.Out).length c169]) Try.underlying125 Try.type125 rfl rfl (hm.boxPart (n := 0) rfl rfl)) ?_
                    refine WM_callV (cl_fn cb139 rfl) (fun W hm => spec_IsQuery_c W _ ((gt x0.Done k142).Query) (tyQuery_mk (x := ((gt x0.Done k142).Query)) (hm.rdS0 r166) (hm.rdS0 r171))) (Wd_none rfl) (by decide) ?_
                    refine wv (fun W hm => rv_not rfl) ?_
                    refine wm ?_
                    rcases Bool.eq_false_or_eq_true (spec_IsQuery_m ((gt x0.Done k142).Query)) with g179 | g179
                    ·
                      refine wg (fun W hm => rv_field Try.underlying136 rfl Try.type3 (by decide) rfl rfl) (nt g179) ?_
                      refine wg (fun W hm => rv_load Try.underlying3 rfl rfl (hm.boxCell (n := 0) (o := 4) rfl rfl)) (nt g179) ?_
                      refine wg (fun W hm => rv_field Try.underlying77 rfl Try.type26 (by decide) rfl rfl) (nt g179) ?_
                      refine wg (fun W hm => rv_fieldA (o := 1) Try.underlying26 rfl Try.type3 (by decide) rfl rfl) (nt g179) ?_
                      refine wg (fun W hm => rv_load Try.underlying3 rfl rfl (hm.boxCell (n := 1) (o := 1) rfl rfl)) (nt g179) ?_
                      refine WM_callV (cl_fn cb86 rfl) (fun W hm => spec_l1In_c W ((gt x0.Done k142).Time) 0 x0.Store.Now) (Wd_some rfl rfl rfl (bw (nt g179) rfl)) (by decide) ?_
                      refine wg (fun W hm => rv_not rfl) (nt g179) ?_
                      refine wv (fun W hm => rv_pickF rfl (nt g179) rfl) ?_
                      refine wm ?_
                      rcases Bool.eq_false_or_eq_true (spec_l1In_m ((gt x0.Done k142).Time) 0 x0.Store.Now) with g181 | g181
                      ·
                        have hw := spec_l1In_fact g181
                        refine wg (fun W hm => rv_field Try.underlying136 rfl Try.type3 (by decide) rfl rfl) (nt g181) ?_
                        refine wg (fun W hm => rv_load Try.underlying3 rfl rfl (hm.boxCell (n := 0) (o := 5) rfl rfl)) (nt g181) ?_
                        refine WM_callV (cl_fn cb86 rfl) (fun W hm => spec_l1In_c W ((gt x0.Done k142).Steps) 0 100000) (Wd_some rfl rfl rfl (bw (nt g181) rfl)) (by decide) ?_
                        refine wg (fun W hm => rv_not rfl) (nt g181) ?_
                        refine wv (fun W hm => rv_pickF rfl (nt g181) rfl) ?_
                        refine wm ?_
                        rcases Bool.eq_false_or_eq_true (spec_l1In_m ((gt x0.Done k142).Steps) 0 100000) with g183 | g183
                        ·
                          have hw := spec_l1In_fact g183
                          refine wg (fun W hm => rv_field Try.underlying136 rfl Try.type39 (by decide) rfl rfl) (nt g183) ?_
                          refine wg (fun W hm => rv_load Try.underlying39 rfl rfl (hm.boxCell (n := 0) (o := 6) rfl rfl)) (nt g183) ?_
                          refine WM_callV (cl_fn cb140 rfl) (fun W hm => spec_l9List_c W _ ((gt x0.Done k142).Rows) (hm.rdS0 r176)) (Wd_some rfl rfl rfl (bw (nt g183) rfl)) (by decide) ?_
                          refine wg (fun W hm => rv_not rfl) (nt g183) ?_
                          refine wv (fun W hm => rv_pickF rfl (nt g183) rfl) ?_
                          refine nt' ?_
                          rcases Bool.eq_false_or_eq_true (spec_l9List_m ((gt x0.Done k142).Rows)) with g185 | g185
                          ·
                            refine CM_condF rfl (nt g185) ?_
                            refine CM_skip ?_
                            refine QM_block_normal ?_
                            refine QM_then ?_
                            refine CM_region ?_
                            refine wm ?_
                            refine wv (fun W hm => rv_addN (p := k142) (q := 1) rfl rfl (by omega)) ?_
                            refine wa ?_
                            refine WM_nil ?_
                            have hn186 := rng_next (R := Bool) (body := (fun k (_ : Unit) => spec_IsEngine_b2 x0 k)) (k := k142) (s := ()) (s' := ()) (show k142 < x0.Done.length from by omega) (show spec_IsEngine_b2 x0 k142 = Sum.inr () from by unfold spec_IsEngine_b2; exact cond_t g179 (cond_t g181 (cond_t g183 (cond_t g185 (rfl))))) hF144
                            exact QM_round (k142 + 1, (), ()) (subL_cons rfl (subL_cons rfl subL_nil)) (fun W hm => (hm.pick [1] (by decide))) ⟨(by omega), hn186⟩ (show x0.Done.length - (k142 + 1) < x0.Done.length - k142 from by omega)
                          ·
                            refine CM_condT rfl (nf g185) ?_
                            refine sr ?_
                            refine wa ?_
                            refine nt' ?_
                            refine CM_ret ?_
                            refine QM_block_ret ?_
                            refine QM_then_ret ?_
                            refine QM_then_ret ?_
                            refine QM_block_ret ?_
                            refine QM_then_ret ?_
                            exact QM_ret1 rfl rfl (fun W hm => ⟨ret_b (show spec_IsEngine_m x0 = false from by unfold spec_IsEngine_m; exact cond_t g43 (cond_t g45 (cond_t g47 (cond_f g49 (cond_t g51 (cond_f g53 (cond_f g55 (fin_inr hE141 (fin_inl (rng_ret (body := (fun k (_ : Unit) => spec_IsEngine_b2 x0 k)) (k := k142) (s := ()) (show k142 < x0.Done.length from by omega) (show spec_IsEngine_b2 x0 k142 = Sum.inl false from by unfold spec_IsEngine_b2; exact cond_t g179 (cond_t g181 (cond_t g183 (cond_f g185 (rfl))))) hF144) rfl))))))))), hm.below⟩)
                        ·
                          refine ws (nf g183) ?_
                          refine ws (nf g183) ?_
                          refine ws (nf g183) ?_
                          refine ws (nf g183) ?_
                          refine wv (fun W hm => rv_pickT rfl (nf g183) rfl) ?_
                          refine nt' ?_
                          refine CM_condT rfl rfl ?_
                          refine sr ?_
                          refine wa ?_
                          refine nt' ?_
                          refine CM_ret ?_
                          refine QM_block_ret ?_
                          refine QM_then_ret ?_
                          refine QM_then_ret ?_
                          refine QM_block_ret ?_
                          refine QM_then_ret ?_
                          exact QM_ret1 rfl rfl (fun W hm => ⟨ret_b (show spec_IsEngine_m x0 = false from by unfold spec_IsEngine_m; exact cond_t g43 (cond_t g45 (cond_t g47 (cond_f g49 (cond_t g51 (cond_f g53 (cond_f g55 (fin_inr hE141 (fin_inl (rng_ret (body := (fun k (_ : Unit) => spec_IsEngine_b2 x0 k)) (k := k142) (s := ()) (show k142 < x0.Done.length from by omega) (show spec_IsEngine_b2 x0 k142 = Sum.inl false from by unfold spec_IsEngine_b2; exact cond_t g179 (cond_t g181 (cond_f g183 (rfl)))) hF144) rfl))))))))), hm.below⟩)
                      ·
                        refine ws (nf g181) ?_
                        refine ws (nf g181) ?_
                        refine ws (nf g181) ?_
                        refine ws (nf g181) ?_
                        refine wv (fun W hm => rv_pickT rfl (nf g181) rfl) ?_
                        refine wm ?_
                        refine WM_skip (Wd_some rfl rfl rfl rfl) rfl (by decide) ?_
                        refine WM_skip (Wd_some rfl rfl rfl rfl) rfl (by decide) ?_
                        refine WM_skip (Wd_some rfl rfl rfl rfl) rfl (by decide) ?_
                        refine WM_skip (Wd_some rfl rfl rfl rfl) rfl (by decide) ?_
                        refine wv (fun W hm => rv_pickT rfl rfl rfl) ?_
                        refine nt' ?_
                        refine CM_condT rfl rfl ?_
                        refine sr ?_
                        refine wa ?_
                        refine nt' ?_
                        refine CM_ret ?_
                        refine QM_block_ret ?_
                        refine QM_then_ret ?_
                        refine QM_then_ret ?_
                        refine QM_block_ret ?_
                        refine QM_then_ret ?_
                        exact QM_ret1 rfl rfl (fun W hm => ⟨ret_b (show spec_IsEngine_m x0 = false from by unfold spec_IsEngine_m; exact cond_t g43 (cond_t g45 (cond_t g47 (cond_f g49 (cond_t g51 (cond_f g53 (cond_f g55 (fin_inr hE141 (fin_inl (rng_ret (body := (fun k (_ : Unit) => spec_IsEngine_b2 x0 k)) (k := k142) (s := ()) (show k142 < x0.Done.length from by omega) (show spec_IsEngine_b2 x0 k142 = Sum.inl false from by unfold spec_IsEngine_b2; exact cond_t g179 (cond_f g181 (rfl))) hF144) rfl))))))))), hm.below⟩)
                    ·
                      refine ws (nf g179) ?_
                      refine ws (nf g179) ?_
                      refine ws (nf g179) ?_
                      refine ws (nf g179) ?_
                      refine ws (nf g179) ?_
                      refine ws (nf g179) ?_
                      refine ws (nf g179) ?_
                      refine wv (fun W hm => rv_pickT rfl (nf g179) rfl) ?_
                      refine wm ?_
                      refine WM_skip (Wd_some rfl rfl rfl rfl) rfl (by decide) ?_
                      refine WM_skip (Wd_some rfl rfl rfl rfl) rfl (by decide) ?_
                      refine WM_skip (Wd_some rfl rfl rfl rfl) rfl (by decide) ?_
                      refine WM_skip (Wd_some rfl rfl rfl rfl) rfl (by decide) ?_
                      refine wv (fun W hm => rv_pickT rfl rfl rfl) ?_
                      refine wm ?_
                      refine WM_skip (Wd_some rfl rfl rfl rfl) rfl (by decide) ?_
                      refine WM_skip (Wd_some rfl rfl rfl rfl) rfl (by decide) ?_
                      refine WM_skip (Wd_some rfl rfl rfl rfl) rfl (by decide) ?_
                      refine WM_skip (Wd_some rfl rfl rfl rfl) rfl (by decide) ?_
                      refine wv (fun W hm => rv_pickT rfl rfl rfl) ?_
                      refine nt' ?_
                      refine CM_condT rfl rfl ?_
                      refine sr ?_
                      refine wa ?_
                      refine nt' ?_
                      refine CM_ret ?_
                      refine QM_block_ret ?_
                      refine QM_then_ret ?_
                      refine QM_then_ret ?_
                      refine QM_block_ret ?_
                      refine QM_then_ret ?_
                      exact QM_ret1 rfl rfl (fun W hm => ⟨ret_b (show spec_IsEngine_m x0 = false from by unfold spec_IsEngine_m; exact cond_t g43 (cond_t g45 (cond_t g47 (cond_f g49 (cond_t g51 (cond_f g53 (cond_f g55 (fin_inr hE141 (fin_inl (rng_ret (body := (fun k (_ : Unit) => spec_IsEngine_b2 x0 k)) (k := k142) (s := ()) (show k142 < x0.Done.length from by omega) (show spec_IsEngine_b2 x0 k142 = Sum.inl false from by unfold spec_IsEngine_b2; exact cond_f g179 (rfl)) hF144) rfl))))))))), hm.below⟩)
                  · have g147 : (decide (((k142 : Nat) : Int) < ((x0.Done.length : Nat) : Int))) = false := decide_eq_false (by omega)
                    refine CM_condF rfl g147 ?_
                    refine CM_exit ?_
                    refine QM_then_exit ?_
                    refine QM_then_exit ?_
                    have hE187 : rng (R := Bool) (fun k (_ : Unit) => spec_IsEngine_b2 x0 k) (x0.Done.length - 0) 0 () = Sum.inr () := rng_end hl146 hF144
                    refine QM_block_hit ?_
                    refine QM_then ?_
                    refine CM_seq ?_
                    refine sr ?_
                    refine wa ?_
                    refine nt' ?_
                    refine CM_block ?_
                    refine CM_loop (σ := Nat × (Unit) × (Unit)) (fun s => [(1, .pointer (some (⟨p41, 0, none⟩ : Addr))), (6, .int .i64 ((s.1 : Nat) : Int))]) (fun s => [iBox p41 77 [.slice A12 x0.Store.Segments.length c13, .int .i64 x0.Store.Now, .int .i64 x0.Cursor, .slice A17 x0.Order.length c18, .slice A22 x0.Active.length c23, .slice A27 x0.Done.length c28, .slice A32 x0.Ledger.length c33, .int .i64 x0.Steps]]) (fun s => s.1 ≤ x0.Ledger.length ∧ rng (R := Bool) (fun k (_ : Unit) => spec_IsEngine_b3 x0 k) (x0.Ledger.length - s.1) s.1 s.2.1 = rng (R := Bool) (fun k (_ : Unit) => spec_IsEngine_b3 x0 k) (x0.Ledger.length - 0) 0 ()) (fun s => x0.Ledger.length - s.1) (0, (), ()) (subL_cons rfl (subL_cons rfl subL_nil)) (fun W hm => hm) ⟨(by omega), rfl⟩ ?_
                    rintro ⟨k188, ⟨⟩, ⟨⟩⟩ H191
                    obtain ⟨hk189, hF190⟩ : k188 ≤ x0.Ledger.length ∧ rng (R := Bool) (fun k (_ : Unit) => spec_IsEngine_b3 x0 k) (x0.Ledger.length - k188) k188 () = rng (R := Bool) (fun k (_ : Unit) => spec_IsEngine_b3 x0 k) (x0.Ledger.length - 0) 0 () := H191
                    show CM Try.prog 140 _ _ _ _ [(1, .pointer (some (⟨p41, 0, none⟩ : Addr))), (6, .int .i64 ((k188 : Nat) : Int))] [iBox p41 77 [.slice A12 x0.Store.Segments.length c13, .int .i64 x0.Store.Now, .int .i64 x0.Cursor, .slice A17 x0.Order.length c18, .slice A22 x0.Active.length c23, .slice A27 x0.Done.length c28, .slice A32 x0.Ledger.length c33, .int .i64 x0.Steps]]
                    refine CM_seq ?_
                    refine sr ?_
                    refine wm ?_
                    refine wv (fun W hm => rv_field Try.underlying77 rfl Try.type75 (by decide) rfl rfl) ?_
                    refine wv (fun W hm => rv_load Try.underlying75 rfl rfl (hm.boxCell (n := 0) (o := 6) rfl rfl)) ?_
                    refine wv (fun W hm => rv_len Try.underlying75 rfl) ?_
                    refine wv (fun W hm => rv_lss rfl rfl) ?_
                    refine nt' ?_
                    by_cases hl192 : k188 < x0.Ledger.length
                    · have g193 : (decide (((k188 : Nat) : Int) < ((x0.Ledger.length : Nat) : Int))) = true := decide_eq_true (by omega)
                      refine CM_condT rfl g193 ?_
                      refine CM_skip ?_
                      refine QM_then ?_
                      refine CM_seq ?_
                      refine CM_block ?_
                      refine sr ?_
                      refine wv (fun W hm => rv_field Try.underlying77 rfl Try.type75 (by decide) rfl rfl) ?_
                      refine wv (fun W hm => rv_load Try.underlying75 rfl rfl (hm.boxCell (n := 0) (o := 6) rfl rfl)) ?_
                      refine wm ?_
                      obtain ⟨a194, rfl, hb195, he196⟩ := q34 (by omega)
                      refine wv (fun W hm => rv_index (sz := 5) (k := k188) Try.underlying75 Try.type140 rfl rfl rfl (by omega)) ?_
                      obtain ⟨_, e204, hc197⟩ := he196 k188 _ (gt_some (show k188 < x0.Ledger.length from by omega))
                      obtain ⟨v198, v200, v202, rfl, r199, r201, r203⟩ := tyCharge_rd e204
                      have l205 : ((gt x0.Ledger k188).Ids).length ≤ 68719476736 := (s_0.2.2.2.2.2 _ (gt_mem (show k188 < x0.Ledger.length from by omega))).1
                      have l206 : ((gt x0.Ledger k188).Tenants).length ≤ 68719476736 := (s_0.2.2.2.2.2 _ (gt_mem (show k188 < x0.Ledger.length from by omega))).2.1
                      have l207 : ((gt x0.Ledger k188).Rows).length ≤ 68719476736 := (s_0.2.2.2.2.2 _ (gt_mem (show k188 < x0.Ledger.length from by omega))).2.2
                      have r212 := r199
                      obtain ⟨m208, A209, c210, rfl, q211⟩ := r199
                      have r217 := r201
                      obtain ⟨m213, A214, c215, rfl, q216⟩ := r201
                      have r222 := r203
                      obtain ⟨m218, A219, c220, rfl, q221⟩ := r203
                      refine wv (fun W hm => rv_loadN (cs := [.int .i64 ((gt x0.Ledger k188).Segment), .int .i64 ((gt x0.Ledger k188).Base), .slice A209 ((gt x0.Ledger k188).Ids).length c210, .slice A214 ((gt x0.Ledger k188).Tenants).length c215, .slice A219 ((gt x0.Ledger k188).Rows).length c220]) Try.underlying140 Try.type140 rfl rfl (hm.elCells (show (a194.add (k188 * 5)).block < w.heap.size from by rw [add_block]; exact hb195.1) hc197)) ?_
                      refine WM_callV (cl_fn cb141 rfl) (fun W hm => spec_IsCharge_c W _ (gt x0.Ledger k188) (tyCharge_mk (x := (gt x0.Ledger k188)) (hm.rdS0 r212) (hm.rdS0 r217) (hm.rdS0 r222))) (Wd_none rfl) (by decide) ?_
                      refine wv (fun W hm => rv_not rfl) ?_
                      refine nt' ?_
                      rcases Bool.eq_false_or_eq_true (spec_IsCharge_m (gt x0.Ledger k188)) with g224 | g224
                      ·
                        refine CM_condF rfl (nt g224) ?_
                        refine CM_skip ?_
                        refine QM_block_normal ?_
                        refine QM_then ?_
                        refine CM_region ?_
                        refine wm ?_
                        refine wv (fun W hm => rv_addN (p := k188) (q := 1) rfl rfl (by omega)) ?_
                        refine wa ?_
                        refine WM_nil ?_
                        have hn225 := rng_next (R := Bool) (body := (fun k (_ : Unit) => spec_IsEngine_b3 x0 k)) (k := k188) (s := ()) (s' := ()) (show k188 < x0.Ledger.length from by omega) (show spec_IsEngine_b3 x0 k188 = Sum.inr () from by unfold spec_IsEngine_b3; exact cond_t g224 (rfl)) hF190
                        exact QM_round (k188 + 1, (), ()) (subL_cons rfl (subL_cons rfl subL_nil)) (fun W hm => hm) ⟨(by omega), hn225⟩ (show x0.Ledger.length - (k188 + 1) < x0.Ledger.length - k188 from by omega)
                      ·
                        refine CM_condT rfl (nf g224) ?_
                        refine sr ?_
                        refine wa ?_
                        refine nt' ?_
                        refine CM_ret ?_
                        refine QM_block_ret ?_
                        refine QM_then_ret ?_
                        refine QM_then_ret ?_
                        refine QM_block_ret ?_
                        refine QM_then_ret ?_
                        exact QM_ret1 rfl rfl (fun W hm => ⟨ret_b (show spec_IsEngine_m x0 = false from by unfold spec_IsEngine_m; exact cond_t g43 (cond_t g45 (cond_t g47 (cond_f g49 (cond_t g51 (cond_f g53 (cond_f g55 (fin_inr hE141 (fin_inr hE187 (fin_inl (rng_ret (body := (fun k (_ : Unit) => spec_IsEngine_b3 x0 k)) (k := k188) (s := ()) (show k188 < x0.Ledger.length from by omega) (show spec_IsEngine_b3 x0 k188 = Sum.inl false from by unfold spec_IsEngine_b3; exact cond_f g224 (rfl)) hF190) rfl)))))))))), hm.below⟩)
                    · have g193 : (decide (((k188 : Nat) : Int) < ((x0.Ledger.length : Nat) : Int))) = false := decide_eq_false (by omega)
                      refine CM_condF rfl g193 ?_
                      refine CM_exit ?_
                      refine QM_then_exit ?_
                      refine QM_then_exit ?_
                      have hE226 : rng (R := Bool) (fun k (_ : Unit) => spec_IsEngine_b3 x0 k) (x0.Ledger.length - 0) 0 () = Sum.inr () := rng_end hl192 hF190
                      refine QM_block_hit ?_
                      refine QM_then ?_
                      refine sr ?_
                      refine wa ?_
                      refine nt' ?_
                      refine CM_ret ?_
                      exact QM_ret1 rfl rfl (fun W hm => ⟨ret_b (show spec_IsEngine_m x0 = true from by unfold spec_IsEngine_m; exact cond_t g43 (cond_t g45 (cond_t g47 (cond_f g49 (cond_t g51 (cond_f g53 (cond_f g55 (fin_inr hE141 (fin_inr hE187 (fin_inr hE226 (rfl))))))))))), hm.below⟩)
          ·
            refine ws (nf g51) ?_
            refine ws (nf g51) ?_
            refine ws (nf g51) ?_
            refine ws (nf g51) ?_
            refine wv (fun W hm => rv_pickT rfl (nf g51) rfl) ?_
            refine wm ?_
            refine WM_skip (Wd_some rfl rfl rfl rfl) rfl (by decide) ?_
            refine WM_skip (Wd_some rfl rfl rfl rfl) rfl (by decide) ?_
            refine WM_skip (Wd_some rfl rfl rfl rfl) rfl (by decide) ?_
            refine WM_skip (Wd_some rfl rfl rfl rfl) rfl (by decide) ?_
            refine wv (fun W hm => rv_pickT rfl rfl rfl) ?_
            refine nt' ?_
            refine CM_condT rfl rfl ?_
            refine sr ?_
            refine wa ?_
            refine nt' ?_
            refine CM_ret ?_
            refine QM_then_ret ?_
            exact QM_ret1 rfl rfl (fun W hm => ⟨ret_b (show spec_IsEngine_m x0 = false from by unfold spec_IsEngine_m; exact cond_t g43 (cond_t g45 (cond_t g47 (cond_f g49 (cond_f g51 (rfl)))))), hm.below⟩)
      ·
        refine ws (nf g47) ?_
        refine ws (nf g47) ?_
        refine ws (nf g47) ?_
        refine ws (nf g47) ?_
        refine wv (fun W hm => rv_pickT rfl (nf g47) rfl) ?_
        refine wm ?_
        refine WM_skip (Wd_some rfl rfl rfl rfl) rfl (by decide) ?_
        refine WM_skip (Wd_some rfl rfl rfl rfl) rfl (by decide) ?_
        refine WM_skip (Wd_some rfl rfl rfl rfl) rfl (by decide) ?_
        refine WM_skip (Wd_some rfl rfl rfl rfl) rfl (by decide) ?_
        refine wv (fun W hm => rv_pickT rfl rfl rfl) ?_
        refine wm ?_
        refine WM_skip (Wd_some rfl rfl rfl rfl) rfl (by decide) ?_
        refine WM_skip (Wd_some rfl rfl rfl rfl) rfl (by decide) ?_
        refine WM_skip (Wd_some rfl rfl rfl rfl) rfl (by decide) ?_
        refine WM_skip (Wd_some rfl rfl rfl rfl) rfl (by decide) ?_
        refine wv (fun W hm => rv_pickT rfl rfl rfl) ?_
        refine wm ?_
        refine WM_skip (Wd_some rfl rfl rfl rfl) rfl (by decide) ?_
        refine WM_skip (Wd_some rfl rfl rfl rfl) rfl (by decide) ?_
        refine WM_skip (Wd_some rfl rfl rfl rfl) rfl (by decide) ?_
        refine WM_skip (Wd_some rfl rfl rfl rfl) rfl (by decide) ?_
        refine wv (fun W hm => rv_pickT rfl rfl rfl) ?_
        refine nt' ?_
        refine CM_condT rfl rfl ?_
        refine sr ?_
        refine wa ?_
        refine nt' ?_
        refine CM_ret ?_
        refine QM_then_ret ?_
        exact QM_ret1 rfl rfl (fun W hm => ⟨ret_b (show spec_IsEngine_m x0 = false from by unfold spec_IsEngine_m; exact cond_t g43 (cond_t g45 (cond_f g47 (rfl)))), hm.below⟩)
    ·
      refine ws (nf g45) ?_
      refine ws (nf g45) ?_
      refine ws (nf g45) ?_
      refine ws (nf g45) ?_
      refine wv (fun W hm => rv_pickT rfl (nf g45) rfl) ?_
      refine wm ?_
      refine WM_skip (Wd_some rfl rfl rfl rfl) rfl (by decide) ?_
      refine WM_skip (Wd_some rfl rfl rfl rfl) rfl (by decide) ?_
      refine WM_skip (Wd_some rfl rfl rfl rfl) rfl (by decide) ?_
      refine WM_skip (Wd_some rfl rfl rfl rfl) rfl (by decide) ?_
      refine wv (fun W hm => rv_pickT rfl rfl rfl) ?_
      refine wm ?_
      refine WM_skip (Wd_some rfl rfl rfl rfl) rfl (by decide) ?_
      refine WM_skip (Wd_some rfl rfl rfl rfl) rfl (by decide) ?_
      refine WM_skip (Wd_some rfl rfl rfl rfl) rfl (by decide) ?_
      refine WM_skip (Wd_some rfl rfl rfl rfl) rfl (by decide) ?_
      refine wv (fun W hm => rv_pickT rfl rfl rfl) ?_
      refine wm ?_
      refine WM_skip (Wd_some rfl rfl rfl rfl) rfl (by decide) ?_
      refine WM_skip (Wd_some rfl rfl rfl rfl) rfl (by decide) ?_
      refine WM_skip (Wd_some rfl rfl rfl rfl) rfl (by decide) ?_
      refine WM_skip (Wd_some rfl rfl rfl rfl) rfl (by decide) ?_
      refine wv (fun W hm => rv_pickT rfl rfl rfl) ?_
      refine wm ?_
      refine WM_skip (Wd_some rfl rfl rfl rfl) rfl (by decide) ?_
      refine WM_skip (Wd_some rfl rfl rfl rfl) rfl (by decide) ?_
      refine WM_skip (Wd_some rfl rfl rfl rfl) rfl (by decide) ?_
      refine WM_skip (Wd_some rfl rfl rfl rfl) rfl (by decide) ?_
      refine wv (fun W hm => rv_pickT rfl rfl rfl) ?_
      refine nt' ?_
      refine CM_condT rfl rfl ?_
      refine sr ?_
      refine wa ?_
      refine nt' ?_
      refine CM_ret ?_
      refine QM_then_ret ?_
      exact QM_ret1 rfl rfl (fun W hm => ⟨ret_b (show spec_IsEngine_m x0 = false from by unfold spec_IsEngine_m; exact cond_t g43 (cond_f g45 (rfl))), hm.below⟩)
  ·
    refine ws (nf g43) ?_
    refine ws (nf g43) ?_
    refine ws (nf g43) ?_
    refine ws (nf g43) ?_
    refine ws (nf g43) ?_
    refine ws (nf g43) ?_
    refine ws (nf g43) ?_
    refine ws (nf g43) ?_
    refine ws (nf g43) ?_
    refine wv (fun W hm => rv_pickT rfl (nf g43) rfl) ?_
    refine wm ?_
    refine WM_skip (Wd_some rfl rfl rfl rfl) rfl (by decide) ?_
    refine WM_skip (Wd_some rfl rfl rfl rfl) rfl (by decide) ?_
    refine WM_skip (Wd_some rfl rfl rfl rfl) rfl (by decide) ?_
    refine WM_skip (Wd_some rfl rfl rfl rfl) rfl (by decide) ?_
    refine wv (fun W hm => rv_pickT rfl rfl rfl) ?_
    refine wm ?_
    refine WM_skip (Wd_some rfl rfl rfl rfl) rfl (by decide) ?_
    refine WM_skip (Wd_some rfl rfl rfl rfl) rfl (by decide) ?_
    refine WM_skip (Wd_some rfl rfl rfl rfl) rfl (by decide) ?_
    refine WM_skip (Wd_some rfl rfl rfl rfl) rfl (by decide) ?_
    refine wv (fun W hm => rv_pickT rfl rfl rfl) ?_
    refine wm ?_
    refine WM_skip (Wd_some rfl rfl rfl rfl) rfl (by decide) ?_
    refine WM_skip (Wd_some rfl rfl rfl rfl) rfl (by decide) ?_
    refine WM_skip (Wd_some rfl rfl rfl rfl) rfl (by decide) ?_
    refine WM_skip (Wd_some rfl rfl rfl rfl) rfl (by decide) ?_
    refine wv (fun W hm => rv_pickT rfl rfl rfl) ?_
    refine wm ?_
    refine WM_skip (Wd_some rfl rfl rfl rfl) rfl (by decide) ?_
    refine WM_skip (Wd_some rfl rfl rfl rfl) rfl (by decide) ?_
    refine WM_skip (Wd_some rfl rfl rfl rfl) rfl (by decide) ?_
    refine WM_skip (Wd_some rfl rfl rfl rfl) rfl (by decide) ?_
    refine wv (fun W hm => rv_pickT rfl rfl rfl) ?_
    refine wm ?_
    refine WM_skip (Wd_some rfl rfl rfl rfl) rfl (by decide) ?_
    refine WM_skip (Wd_some rfl rfl rfl rfl) rfl (by decide) ?_
    refine WM_skip (Wd_some rfl rfl rfl rfl) rfl (by decide) ?_
    refine WM_skip (Wd_some rfl rfl rfl rfl) rfl (by decide) ?_
    refine wv (fun W hm => rv_pickT rfl rfl rfl) ?_
    refine nt' ?_
    refine CM_condT rfl rfl ?_
    refine sr ?_
    refine wa ?_
    refine nt' ?_
    refine CM_ret ?_
    refine QM_then_ret ?_
    exact QM_ret1 rfl rfl (fun W hm => ⟨ret_b (show spec_IsEngine_m x0 = false from by unfold spec_IsEngine_m; exact cond_f g43 (rfl)), hm.below⟩)

end Go.Proofs.Ytfjhiegahdknmaa
