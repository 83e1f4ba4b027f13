/-
  The data of the program as structures, and how they lie in memory.
-/
import Derived.Test.YtfdaaliffcfjjaaDoorVcS
import Derived.Test.YtfdaaliffcfjjaaDoorVcP
import Derived.Test.YtfdaaliffcfjjaaDoorVcN
import Derived.Test.YtfdaaliffcfjjaaDoorVcX
import Derived.Test.YtfdaaliffcfjjaaDoorVcY
import Derived.Test.YtfdaaliffcfjjaaDoorVcQ
namespace Go.Proofs.YtfdaaliffcfjjaaDoor
open Go.RowKit
structure DRow where
  Id : Int
  Values : (List Int)
instance : Inhabited DRow := ⟨⟨default, default⟩⟩
def tyRow : Ty DRow := tMap (tPair tInt (tSl tInt 3)) (fun x => (x.Id, x.Values))
theorem tyRow_rd {w : World} {B : Nat} {cs : List Value} {x : DRow} (h : tyRow.rd w B cs x) : ∃ v0, cs = [.int .i64 x.Id, v0] ∧ rdS tInt w B v0 x.Values := by
  obtain ⟨_, _, rfl, ⟨_, rfl, rfl⟩, ⟨v0, rfl, h0⟩⟩ := h
  exact ⟨v0, rfl, h0⟩
theorem tyRow_mk {w : World} {B : Nat} {x : DRow} {v0 : Value} (h0 : rdS tInt w B v0 x.Values) : tyRow.rd w B [.int .i64 x.Id, v0] x := ⟨_, _, rfl, ⟨_, rfl, rfl⟩, ⟨_, rfl, h0⟩⟩
structure DUpdate where
  Kind : Int
  Row : DRow
  Field : Int
  Value : Int
instance : Inhabited DUpdate := ⟨⟨default, default, default, default⟩⟩
def tyUpdate : Ty DUpdate := tMap (tPair tInt (tPair tyRow (tPair tInt tInt))) (fun x => (x.Kind, x.Row, x.Field, x.Value))
theorem tyUpdate_rd {w : World} {B : Nat} {cs : List Value} {x : DUpdate} (h : tyUpdate.rd w B cs x) : ∃ v0, cs = [.int .i64 x.Kind, .int .i64 x.Row.Id, v0, .int .i64 x.Field, .int .i64 x.Value] ∧ rdS tInt w B v0 x.Row.Values := by
  obtain ⟨_, _, rfl, ⟨_, rfl, rfl⟩, ⟨_, _, rfl, ⟨_, _, rfl, ⟨_, rfl, rfl⟩, ⟨v0, rfl, h0⟩⟩, ⟨_, _, rfl, ⟨_, rfl, rfl⟩, ⟨_, rfl, rfl⟩⟩⟩⟩ := h
  exact ⟨v0, rfl, h0⟩
theorem tyUpdate_mk {w : World} {B : Nat} {x : DUpdate} {v0 : Value} (h0 : rdS tInt w B v0 x.Row.Values) : tyUpdate.rd w B [.int .i64 x.Kind, .int .i64 x.Row.Id, v0, .int .i64 x.Field, .int .i64 x.Value] x := ⟨_, _, rfl, ⟨_, rfl, rfl⟩, ⟨_, _, rfl, ⟨_, _, rfl, ⟨_, rfl, rfl⟩, ⟨_, rfl, h0⟩⟩, ⟨_, _, rfl, ⟨_, rfl, rfl⟩, ⟨_, rfl, rfl⟩⟩⟩⟩
def smRow (B : Nat) (x : DRow) : Prop := x.Values.length ≤ B
theorem tyRow_split {w : World} {L : List Nat} {cs : List Value} {x : DRow} (h : tyRow.own w L cs x) : ∃ g : Value, cs = [.int .i64 x.Id, g] ∧ Sep [iOwn (tSl tInt 3) [g] x.Values] w L := by
  obtain ⟨_, _, _, _, rfl, rfl, ⟨rfl, _, rfl, rfl⟩, ⟨v0, rfl, h0⟩⟩ := h
  exact ⟨v0, rfl, Sep.cast (⟨_, [], (List.append_nil _).symm, ⟨_, rfl, h0⟩, rfl⟩) (by simp)⟩
theorem tyRow_sp {P : Program} {N B : Nat} {w0 : World} {Q : Exit → Act → World → Prop} {L : List (Nat × Value)} {is : List It} {ops : Array Oper} {l : List Oper} {z : List Value} {x : DRow} (h : ∀ g : Value, z = [.int .i64 x.Id, g] → WM P N B w0 ops Q l L (iOwn (tSl tInt 3) [g] x.Values :: is)) : WM P N B w0 ops Q l L (iOwn tyRow z x :: is) := WM_split (γ := Value) (js := fun g => [iOwn (tSl tInt 3) [g] x.Values]) (C := fun g => z = [.int .i64 x.Id, g]) (fun _ _ h => tyRow_split h) h
theorem tyRow_join {w : World} {L : List Nat} {x : DRow} {v0 : Value} (h : Sep [iOwn (tSl tInt 3) [v0] x.Values] w L) : tyRow.own w L [.int .i64 x.Id, v0] x := by
  obtain ⟨L0, K0, rfl, h0, s0⟩ := Sep.cons h
  cases (Sep.nil s0)
  exact own_cast (T := tyRow) (cs := [.int .i64 x.Id, v0]) (x := x) ⟨_, _, _, _, rfl, rfl, tInt_own, h0⟩ (by simp)
def smUpdate (B : Nat) (x : DUpdate) : Prop := smRow B x.Row
theorem tyUpdate_split {w : World} {L : List Nat} {cs : List Value} {x : DUpdate} (h : tyUpdate.own w L cs x) : ∃ g : Value, cs = [.int .i64 x.Kind, .int .i64 x.Row.Id, g, .int .i64 x.Field, .int .i64 x.Value] ∧ Sep [iOwn (tSl tInt 3) [g] x.Row.Values] w L := by
  obtain ⟨_, _, _, _, rfl, rfl, ⟨rfl, _, rfl, rfl⟩, ⟨_, _, _, _, rfl, rfl, ⟨_, _, _, _, rfl, rfl, ⟨rfl, _, rfl, rfl⟩, ⟨v0, rfl, h0⟩⟩, ⟨_, _, _, _, rfl, rfl, ⟨rfl, _, rfl, rfl⟩, ⟨rfl, _, rfl, rfl⟩⟩⟩⟩ := h
  exact ⟨v0, rfl, Sep.cast (⟨_, [], (List.append_nil _).symm, ⟨_, rfl, h0⟩, rfl⟩) (by simp)⟩
theorem tyUpdate_sp {P : Program} {N B : Nat} {w0 : World} {Q : Exit → Act → World → Prop} {L : List (Nat × Value)} {is : List It} {ops : Array Oper} {l : List Oper} {z : List Value} {x : DUpdate} (h : ∀ g : Value, z = [.int .i64 x.Kind, .int .i64 x.Row.Id, g, .int .i64 x.Field, .int .i64 x.Value] → WM P N B w0 ops Q l L (iOwn (tSl tInt 3) [g] x.Row.Values :: is)) : WM P N B w0 ops Q l L (iOwn tyUpdate z x :: is) := WM_split (γ := Value) (js := fun g => [iOwn (tSl tInt 3) [g] x.Row.Values]) (C := fun g => z = [.int .i64 x.Kind, .int .i64 x.Row.Id, g, .int .i64 x.Field, .int .i64 x.Value]) (fun _ _ h => tyUpdate_split h) h
theorem tyUpdate_join {w : World} {L : List Nat} {x : DUpdate} {v0 : Value} (h : Sep [iOwn (tSl tInt 3) [v0] x.Row.Values] w L) : tyUpdate.own w L [.int .i64 x.Kind, .int .i64 x.Row.Id, v0, .int .i64 x.Field, .int .i64 x.Value] x := by
  obtain ⟨L0, K0, rfl, h0, s0⟩ := Sep.cons h
  cases (Sep.nil s0)
  exact own_cast (T := tyUpdate) (cs := [.int .i64 x.Kind, .int .i64 x.Row.Id, v0, .int .i64 x.Field, .int .i64 x.Value]) (x := x) ⟨_, _, _, _, rfl, rfl, tInt_own, ⟨_, _, _, _, rfl, rfl, ⟨_, _, _, _, rfl, rfl, tInt_own, h0⟩, ⟨_, _, _, _, rfl, rfl, tInt_own, tInt_own⟩⟩⟩ (by simp)
end Go.Proofs.YtfdaaliffcfjjaaDoor
