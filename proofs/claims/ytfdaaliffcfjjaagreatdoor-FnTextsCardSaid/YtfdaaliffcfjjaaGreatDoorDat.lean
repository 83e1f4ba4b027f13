/-
  The data of the program as structures, and how they lie in memory.
-/
import Derived.Test.YtfdaaliffcfjjaaGreatDoorVcS
import Derived.Test.YtfdaaliffcfjjaaGreatDoorVcP
import Derived.Test.YtfdaaliffcfjjaaGreatDoorVcN
import Derived.Test.YtfdaaliffcfjjaaGreatDoorVcX
import Derived.Test.YtfdaaliffcfjjaaGreatDoorVcY
import Derived.Test.YtfdaaliffcfjjaaGreatDoorVcQ
namespace Go.Proofs.YtfdaaliffcfjjaaGreatDoor
open Go.RowKit
structure DRow where
  Id : Int
  Values : (List Int)
instance : Inhabited DRow := ⟨⟨default, default⟩⟩
def tyRow : Ty DRow := tMap (tPair tInt (tSl tInt 3)) (fun x => (x.Id, x.Values))
theorem tyRow_rd {w : World} {B : Nat} {cs : List Value} {x : DRow} (h : tyRow.rd w B cs x) : ∃ v0, cs = [.int .i64 x.Id, v0] ∧ rdS tInt w B v0 x.Values := by
  obtain ⟨_, _, rfl, ⟨_, rfl, rfl⟩, ⟨v0, rfl, h0⟩⟩ := h
  exact ⟨v0, rfl, h0⟩
theorem tyRow_mk {w : World} {B : Nat} {x : DRow} {v0 : Value} (h0 : rdS tInt w B v0 x.Values) : tyRow.rd w B [.int .i64 x.Id, v0] x := ⟨_, _, rfl, ⟨_, rfl, rfl⟩, ⟨_, rfl, h0⟩⟩
structure DUpdate where
  Kind : Int
  Row : DRow
  Field : Int
  Value : Int
instance : Inhabited DUpdate := ⟨⟨default, default, default, default⟩⟩
def tyUpdate : Ty DUpdate := tMap (tPair tInt (tPair tyRow (tPair tInt tInt))) (fun x => (x.Kind, x.Row, x.Field, x.Value))
theorem tyUpdate_rd {w : World} {B : Nat} {cs : List Value} {x : DUpdate} (h : tyUpdate.rd w B cs x) : ∃ v0, cs = [.int .i64 x.Kind, .int .i64 x.Row.Id, v0, .int .i64 x.Field, .int .i64 x.Value] ∧ rdS tInt w B v0 x.Row.Values := by
  obtain ⟨_, _, rfl, ⟨_, rfl, rfl⟩, ⟨_, _, rfl, ⟨_, _, rfl, ⟨_, rfl, rfl⟩, ⟨v0, rfl, h0⟩⟩, ⟨_, _, rfl, ⟨_, rfl, rfl⟩, ⟨_, rfl, rfl⟩⟩⟩⟩ := h
  exact ⟨v0, rfl, h0⟩
theorem tyUpdate_mk {w : World} {B : Nat} {x : DUpdate} {v0 : Value} (h0 : rdS tInt w B v0 x.Row.Values) : tyUpdate.rd w B [.int .i64 x.Kind, .int .i64 x.Row.Id, v0, .int .i64 x.Field, .int .i64 x.Value] x := ⟨_, _, rfl, ⟨_, rfl, rfl⟩, ⟨_, _, rfl, ⟨_, _, rfl, ⟨_, rfl, rfl⟩, ⟨_, rfl, h0⟩⟩, ⟨_, _, rfl, ⟨_, rfl, rfl⟩, ⟨_, rfl, rfl⟩⟩⟩⟩
structure Dl1Cur where
  i : Nat
  h : Int
instance : Inhabited Dl1Cur := ⟨⟨default, default⟩⟩
structure DVersion where
  Id : Int
  Values : (List Int)
  Born : Int
  Died : Int
instance : Inhabited DVersion := ⟨⟨default, default, default, default⟩⟩
def tyVersion : Ty DVersion := tMap (tPair tInt (tPair (tSl tInt 3) (tPair tInt tInt))) (fun x => (x.Id, x.Values, x.Born, x.Died))
theorem tyVersion_rd {w : World} {B : Nat} {cs : List Value} {x : DVersion} (h : tyVersion.rd w B cs x) : ∃ v0, cs = [.int .i64 x.Id, v0, .int .i64 x.Born, .int .i64 x.Died] ∧ rdS tInt w B v0 x.Values := by
  obtain ⟨_, _, rfl, ⟨_, rfl, rfl⟩, ⟨_, _, rfl, ⟨v0, rfl, h0⟩, ⟨_, _, rfl, ⟨_, rfl, rfl⟩, ⟨_, rfl, rfl⟩⟩⟩⟩ := h
  exact ⟨v0, rfl, h0⟩
theorem tyVersion_mk {w : World} {B : Nat} {x : DVersion} {v0 : Value} (h0 : rdS tInt w B v0 x.Values) : tyVersion.rd w B [.int .i64 x.Id, v0, .int .i64 x.Born, .int .i64 x.Died] x := ⟨_, _, rfl, ⟨_, rfl, rfl⟩, ⟨_, _, rfl, ⟨_, rfl, h0⟩, ⟨_, _, rfl, ⟨_, rfl, rfl⟩, ⟨_, rfl, rfl⟩⟩⟩⟩
structure DStore where
  Segments : (List (List DVersion))
  Now : Int
instance : Inhabited DStore := ⟨⟨default, default⟩⟩
def tyStore : Ty DStore := tMap (tPair (tSl (tSl tyVersion 121) 119) tInt) (fun x => (x.Segments, x.Now))
theorem tyStore_rd {w : World} {B : Nat} {cs : List Value} {x : DStore} (h : tyStore.rd w B cs x) : ∃ v0, cs = [v0, .int .i64 x.Now] ∧ rdS (tSl tyVersion 121) w B v0 x.Segments := by
  obtain ⟨_, _, rfl, ⟨v0, rfl, h0⟩, ⟨_, rfl, rfl⟩⟩ := h
  exact ⟨v0, rfl, h0⟩
theorem tyStore_mk {w : World} {B : Nat} {x : DStore} {v0 : Value} (h0 : rdS (tSl tyVersion 121) w B v0 x.Segments) : tyStore.rd w B [v0, .int .i64 x.Now] x := ⟨_, _, rfl, ⟨_, rfl, h0⟩, ⟨_, rfl, rfl⟩⟩
def smRow (B : Nat) (x : DRow) : Prop := x.Values.length ≤ B
theorem tyRow_split {w : World} {L : List Nat} {cs : List Value} {x : DRow} (h : tyRow.own w L cs x) : ∃ g : Value, cs = [.int .i64 x.Id, g] ∧ Sep [iOwn (tSl tInt 3) [g] x.Values] w L := by
  obtain ⟨_, _, _, _, rfl, rfl, ⟨rfl, _, rfl, rfl⟩, ⟨v0, rfl, h0⟩⟩ := h
  exact ⟨v0, rfl, Sep.cast (⟨_, [], (List.append_nil _).symm, ⟨_, rfl, h0⟩, rfl⟩) (by simp)⟩
theorem tyRow_sp {P : Program} {N B : Nat} {w0 : World} {Q : Exit → Act → World → Prop} {L : List (Nat × Value)} {is : List It} {ops : Array Oper} {l : List Oper} {z : List Value} {x : DRow} (h : ∀ g : Value, z = [.int .i64 x.Id, g] → WM P N B w0 ops Q l L (iOwn (tSl tInt 3) [g] x.Values :: is)) : WM P N B w0 ops Q l L (iOwn tyRow z x :: is) := WM_split (γ := Value) (js := fun g => [iOwn (tSl tInt 3) [g] x.Values]) (C := fun g => z = [.int .i64 x.Id, g]) (fun _ _ h => tyRow_split h) h
theorem tyRow_join {w : World} {L : List Nat} {x : DRow} {v0 : Value} (h : Sep [iOwn (tSl tInt 3) [v0] x.Values] w L) : tyRow.own w L [.int .i64 x.Id, v0] x := by
  obtain ⟨L0, K0, rfl, h0, s0⟩ := Sep.cons h
  cases (Sep.nil s0)
  exact own_cast (T := tyRow) (cs := [.int .i64 x.Id, v0]) (x := x) ⟨_, _, _, _, rfl, rfl, tInt_own, h0⟩ (by simp)
def smUpdate (B : Nat) (x : DUpdate) : Prop := smRow B x.Row
theorem tyUpdate_split {w : World} {L : List Nat} {cs : List Value} {x : DUpdate} (h : tyUpdate.own w L cs x) : ∃ g : Value, cs = [.int .i64 x.Kind, .int .i64 x.Row.Id, g, .int .i64 x.Field, .int .i64 x.Value] ∧ Sep [iOwn (tSl tInt 3) [g] x.Row.Values] w L := by
  obtain ⟨_, _, _, _, rfl, rfl, ⟨rfl, _, rfl, rfl⟩, ⟨_, _, _, _, rfl, rfl, ⟨_, _, _, _, rfl, rfl, ⟨rfl, _, rfl, rfl⟩, ⟨v0, rfl, h0⟩⟩, ⟨_, _, _, _, rfl, rfl, ⟨rfl, _, rfl, rfl⟩, ⟨rfl, _, rfl, rfl⟩⟩⟩⟩ := h
  exact ⟨v0, rfl, Sep.cast (⟨_, [], (List.append_nil _).symm, ⟨_, rfl, h0⟩, rfl⟩) (by simp)⟩
theorem tyUpdate_sp {P : Program} {N B : Nat} {w0 : World} {Q : Exit → Act → World → Prop} {L : List (Nat × Value)} {is : List It} {ops : Array Oper} {l : List Oper} {z : List Value} {x : DUpdate} (h : ∀ g : Value, z = [.int .i64 x.Kind, .int .i64 x.Row.Id, g, .int .i64 x.Field, .int .i64 x.Value] → WM P N B w0 ops Q l L (iOwn (tSl tInt 3) [g] x.Row.Values :: is)) : WM P N B w0 ops Q l L (iOwn tyUpdate z x :: is) := WM_split (γ := Value) (js := fun g => [iOwn (tSl tInt 3) [g] x.Row.Values]) (C := fun g => z = [.int .i64 x.Kind, .int .i64 x.Row.Id, g, .int .i64 x.Field, .int .i64 x.Value]) (fun _ _ h => tyUpdate_split h) h
theorem tyUpdate_join {w : World} {L : List Nat} {x : DUpdate} {v0 : Value} (h : Sep [iOwn (tSl tInt 3) [v0] x.Row.Values] w L) : tyUpdate.own w L [.int .i64 x.Kind, .int .i64 x.Row.Id, v0, .int .i64 x.Field, .int .i64 x.Value] x := by
  obtain ⟨L0, K0, rfl, h0, s0⟩ := Sep.cons h
  cases (Sep.nil s0)
  exact own_cast (T := tyUpdate) (cs := [.int .i64 x.Kind, .int .i64 x.Row.Id, v0, .int .i64 x.Field, .int .i64 x.Value]) (x := x) ⟨_, _, _, _, rfl, rfl, tInt_own, ⟨_, _, _, _, rfl, rfl, ⟨_, _, _, _, rfl, rfl, tInt_own, h0⟩, ⟨_, _, _, _, rfl, rfl, tInt_own, tInt_own⟩⟩⟩ (by simp)
def smVersion (B : Nat) (x : DVersion) : Prop := x.Values.length ≤ B
theorem tyVersion_split {w : World} {L : List Nat} {cs : List Value} {x : DVersion} (h : tyVersion.own w L cs x) : ∃ g : Value, cs = [.int .i64 x.Id, g, .int .i64 x.Born, .int .i64 x.Died] ∧ Sep [iOwn (tSl tInt 3) [g] x.Values] w L := by
  obtain ⟨_, _, _, _, rfl, rfl, ⟨rfl, _, rfl, rfl⟩, ⟨_, _, _, _, rfl, rfl, ⟨v0, rfl, h0⟩, ⟨_, _, _, _, rfl, rfl, ⟨rfl, _, rfl, rfl⟩, ⟨rfl, _, rfl, rfl⟩⟩⟩⟩ := h
  exact ⟨v0, rfl, Sep.cast (⟨_, [], (List.append_nil _).symm, ⟨_, rfl, h0⟩, rfl⟩) (by simp)⟩
theorem tyVersion_sp {P : Program} {N B : Nat} {w0 : World} {Q : Exit → Act → World → Prop} {L : List (Nat × Value)} {is : List It} {ops : Array Oper} {l : List Oper} {z : List Value} {x : DVersion} (h : ∀ g : Value, z = [.int .i64 x.Id, g, .int .i64 x.Born, .int .i64 x.Died] → WM P N B w0 ops Q l L (iOwn (tSl tInt 3) [g] x.Values :: is)) : WM P N B w0 ops Q l L (iOwn tyVersion z x :: is) := WM_split (γ := Value) (js := fun g => [iOwn (tSl tInt 3) [g] x.Values]) (C := fun g => z = [.int .i64 x.Id, g, .int .i64 x.Born, .int .i64 x.Died]) (fun _ _ h => tyVersion_split h) h
theorem tyVersion_join {w : World} {L : List Nat} {x : DVersion} {v0 : Value} (h : Sep [iOwn (tSl tInt 3) [v0] x.Values] w L) : tyVersion.own w L [.int .i64 x.Id, v0, .int .i64 x.Born, .int .i64 x.Died] x := by
  obtain ⟨L0, K0, rfl, h0, s0⟩ := Sep.cons h
  cases (Sep.nil s0)
  exact own_cast (T := tyVersion) (cs := [.int .i64 x.Id, v0, .int .i64 x.Born, .int .i64 x.Died]) (x := x) ⟨_, _, _, _, rfl, rfl, tInt_own, ⟨_, _, _, _, rfl, rfl, h0, ⟨_, _, _, _, rfl, rfl, tInt_own, tInt_own⟩⟩⟩ (by simp)
def smStore (B : Nat) (x : DStore) : Prop := (x.Segments.length ≤ B ∧ ∀ y ∈ x.Segments, (y.length ≤ B ∧ ∀ y1 ∈ y, smVersion B y1))
theorem tyStore_split {w : World} {L : List Nat} {cs : List Value} {x : DStore} (h : tyStore.own w L cs x) : ∃ g : Value, cs = [g, .int .i64 x.Now] ∧ Sep [iOwn (tSl (tSl tyVersion 121) 119) [g] x.Segments] w L := by
  obtain ⟨_, _, _, _, rfl, rfl, ⟨v0, rfl, h0⟩, ⟨rfl, _, rfl, rfl⟩⟩ := h
  exact ⟨v0, rfl, Sep.cast (⟨_, [], (List.append_nil _).symm, ⟨_, rfl, h0⟩, rfl⟩) (by simp)⟩
theorem tyStore_sp {P : Program} {N B : Nat} {w0 : World} {Q : Exit → Act → World → Prop} {L : List (Nat × Value)} {is : List It} {ops : Array Oper} {l : List Oper} {z : List Value} {x : DStore} (h : ∀ g : Value, z = [g, .int .i64 x.Now] → WM P N B w0 ops Q l L (iOwn (tSl (tSl tyVersion 121) 119) [g] x.Segments :: is)) : WM P N B w0 ops Q l L (iOwn tyStore z x :: is) := WM_split (γ := Value) (js := fun g => [iOwn (tSl (tSl tyVersion 121) 119) [g] x.Segments]) (C := fun g => z = [g, .int .i64 x.Now]) (fun _ _ h => tyStore_split h) h
theorem tyStore_join {w : World} {L : List Nat} {x : DStore} {v0 : Value} (h : Sep [iOwn (tSl (tSl tyVersion 121) 119) [v0] x.Segments] w L) : tyStore.own w L [v0, .int .i64 x.Now] x := by
  obtain ⟨L0, K0, rfl, h0, s0⟩ := Sep.cons h
  cases (Sep.nil s0)
  exact own_cast (T := tyStore) (cs := [v0, .int .i64 x.Now]) (x := x) ⟨_, _, _, _, rfl, rfl, h0, tInt_own⟩ (by simp)
end Go.Proofs.YtfdaaliffcfjjaaGreatDoor
