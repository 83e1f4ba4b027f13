/-
  The data of the program as structures, and how they lie in memory.
-/
import Derived.Test.YtjcdginailhfmaaVcS
import Derived.Test.YtjcdginailhfmaaVcP
import Derived.Test.YtjcdginailhfmaaVcX
namespace Go.Proofs.Ytjcdginailhfmaa
open Go.RowKit
structure DVersion where
  Id : Int
  Values : (List Int)
  Born : Int
  Died : Int
instance : Inhabited DVersion := ⟨⟨default, default, default, default⟩⟩
def tyLVersion : Ty DVersion := tMap (tPair tInt (tPair (tSl tInt 3) (tPair tInt tInt))) (fun x => (x.Id, x.Values, x.Born, x.Died))
theorem tyLVersion_rd {w : World} {B : Nat} {cs : List Value} {x : DVersion} (h : tyLVersion.rd w B cs x) : ∃ v0, cs = [.int .i64 x.Id, v0, .int .i64 x.Born, .int .i64 x.Died] ∧ rdS tInt w B v0 x.Values := by
  obtain ⟨_, _, rfl, ⟨_, rfl, rfl⟩, ⟨_, _, rfl, ⟨v0, rfl, h0⟩, ⟨_, _, rfl, ⟨_, rfl, rfl⟩, ⟨_, rfl, rfl⟩⟩⟩⟩ := h
  exact ⟨v0, rfl, h0⟩
theorem tyLVersion_mk {w : World} {B : Nat} {x : DVersion} {v0 : Value} (h0 : rdS tInt w B v0 x.Values) : tyLVersion.rd w B [.int .i64 x.Id, v0, .int .i64 x.Born, .int .i64 x.Died] x := ⟨_, _, rfl, ⟨_, rfl, rfl⟩, ⟨_, _, rfl, ⟨_, rfl, h0⟩, ⟨_, _, rfl, ⟨_, rfl, rfl⟩, ⟨_, rfl, rfl⟩⟩⟩⟩
structure DStore where
  Segments : (List (List DVersion))
  Now : Int
instance : Inhabited DStore := ⟨⟨default, default⟩⟩
def tyLStore : Ty DStore := tMap (tPair (tSl (tSl tyLVersion 146) 132) tInt) (fun x => (x.Segments, x.Now))
theorem tyLStore_rd {w : World} {B : Nat} {cs : List Value} {x : DStore} (h : tyLStore.rd w B cs x) : ∃ v0, cs = [v0, .int .i64 x.Now] ∧ rdS (tSl tyLVersion 146) w B v0 x.Segments := by
  obtain ⟨_, _, rfl, ⟨v0, rfl, h0⟩, ⟨_, rfl, rfl⟩⟩ := h
  exact ⟨v0, rfl, h0⟩
theorem tyLStore_mk {w : World} {B : Nat} {x : DStore} {v0 : Value} (h0 : rdS (tSl tyLVersion 146) w B v0 x.Segments) : tyLStore.rd w B [v0, .int .i64 x.Now] x := ⟨_, _, rfl, ⟨_, rfl, h0⟩, ⟨_, rfl, rfl⟩⟩
def tyVersion : Ty DVersion := tMap (tPair tInt (tPair (tSl tInt 3) (tPair tInt tInt))) (fun x => (x.Id, x.Values, x.Born, x.Died))
theorem tyVersion_rd {w : World} {B : Nat} {cs : List Value} {x : DVersion} (h : tyVersion.rd w B cs x) : ∃ v0, cs = [.int .i64 x.Id, v0, .int .i64 x.Born, .int .i64 x.Died] ∧ rdS tInt w B v0 x.Values := by
  obtain ⟨_, _, rfl, ⟨_, rfl, rfl⟩, ⟨_, _, rfl, ⟨v0, rfl, h0⟩, ⟨_, _, rfl, ⟨_, rfl, rfl⟩, ⟨_, rfl, rfl⟩⟩⟩⟩ := h
  exact ⟨v0, rfl, h0⟩
theorem tyVersion_mk {w : World} {B : Nat} {x : DVersion} {v0 : Value} (h0 : rdS tInt w B v0 x.Values) : tyVersion.rd w B [.int .i64 x.Id, v0, .int .i64 x.Born, .int .i64 x.Died] x := ⟨_, _, rfl, ⟨_, rfl, rfl⟩, ⟨_, _, rfl, ⟨_, rfl, h0⟩, ⟨_, _, rfl, ⟨_, rfl, rfl⟩, ⟨_, rfl, rfl⟩⟩⟩⟩
def tyStore : Ty DStore := tMap (tPair (tSl (tSl tyVersion 102) 100) tInt) (fun x => (x.Segments, x.Now))
theorem tyStore_rd {w : World} {B : Nat} {cs : List Value} {x : DStore} (h : tyStore.rd w B cs x) : ∃ v0, cs = [v0, .int .i64 x.Now] ∧ rdS (tSl tyVersion 102) w B v0 x.Segments := by
  obtain ⟨_, _, rfl, ⟨v0, rfl, h0⟩, ⟨_, rfl, rfl⟩⟩ := h
  exact ⟨v0, rfl, h0⟩
theorem tyStore_mk {w : World} {B : Nat} {x : DStore} {v0 : Value} (h0 : rdS (tSl tyVersion 102) w B v0 x.Segments) : tyStore.rd w B [v0, .int .i64 x.Now] x := ⟨_, _, rfl, ⟨_, rfl, h0⟩, ⟨_, rfl, rfl⟩⟩
structure DRow where
  Id : Int
  Values : (List Int)
instance : Inhabited DRow := ⟨⟨default, default⟩⟩
def tyLRow : Ty DRow := tMap (tPair tInt (tSl tInt 3)) (fun x => (x.Id, x.Values))
theorem tyLRow_rd {w : World} {B : Nat} {cs : List Value} {x : DRow} (h : tyLRow.rd w B cs x) : ∃ v0, cs = [.int .i64 x.Id, v0] ∧ rdS tInt w B v0 x.Values := by
  obtain ⟨_, _, rfl, ⟨_, rfl, rfl⟩, ⟨v0, rfl, h0⟩⟩ := h
  exact ⟨v0, rfl, h0⟩
theorem tyLRow_mk {w : World} {B : Nat} {x : DRow} {v0 : Value} (h0 : rdS tInt w B v0 x.Values) : tyLRow.rd w B [.int .i64 x.Id, v0] x := ⟨_, _, rfl, ⟨_, rfl, rfl⟩, ⟨_, rfl, h0⟩⟩
structure DUpdate where
  Kind : Int
  Row : DRow
  Field : Int
  Value : Int
instance : Inhabited DUpdate := ⟨⟨default, default, default, default⟩⟩
def tyLUpdate : Ty DUpdate := tMap (tPair tInt (tPair tyLRow (tPair tInt tInt))) (fun x => (x.Kind, x.Row, x.Field, x.Value))
theorem tyLUpdate_rd {w : World} {B : Nat} {cs : List Value} {x : DUpdate} (h : tyLUpdate.rd w B cs x) : ∃ v0, cs = [.int .i64 x.Kind, .int .i64 x.Row.Id, v0, .int .i64 x.Field, .int .i64 x.Value] ∧ rdS tInt w B v0 x.Row.Values := by
  obtain ⟨_, _, rfl, ⟨_, rfl, rfl⟩, ⟨_, _, rfl, ⟨_, _, rfl, ⟨_, rfl, rfl⟩, ⟨v0, rfl, h0⟩⟩, ⟨_, _, rfl, ⟨_, rfl, rfl⟩, ⟨_, rfl, rfl⟩⟩⟩⟩ := h
  exact ⟨v0, rfl, h0⟩
theorem tyLUpdate_mk {w : World} {B : Nat} {x : DUpdate} {v0 : Value} (h0 : rdS tInt w B v0 x.Row.Values) : tyLUpdate.rd w B [.int .i64 x.Kind, .int .i64 x.Row.Id, v0, .int .i64 x.Field, .int .i64 x.Value] x := ⟨_, _, rfl, ⟨_, rfl, rfl⟩, ⟨_, _, rfl, ⟨_, _, rfl, ⟨_, rfl, rfl⟩, ⟨_, rfl, h0⟩⟩, ⟨_, _, rfl, ⟨_, rfl, rfl⟩, ⟨_, rfl, rfl⟩⟩⟩⟩
def tyRow : Ty DRow := tMap (tPair tInt (tSl tInt 3)) (fun x => (x.Id, x.Values))
theorem tyRow_rd {w : World} {B : Nat} {cs : List Value} {x : DRow} (h : tyRow.rd w B cs x) : ∃ v0, cs = [.int .i64 x.Id, v0] ∧ rdS tInt w B v0 x.Values := by
  obtain ⟨_, _, rfl, ⟨_, rfl, rfl⟩, ⟨v0, rfl, h0⟩⟩ := h
  exact ⟨v0, rfl, h0⟩
theorem tyRow_mk {w : World} {B : Nat} {x : DRow} {v0 : Value} (h0 : rdS tInt w B v0 x.Values) : tyRow.rd w B [.int .i64 x.Id, v0] x := ⟨_, _, rfl, ⟨_, rfl, rfl⟩, ⟨_, rfl, h0⟩⟩
def tyUpdate : Ty DUpdate := tMap (tPair tInt (tPair tyRow (tPair tInt tInt))) (fun x => (x.Kind, x.Row, x.Field, x.Value))
theorem tyUpdate_rd {w : World} {B : Nat} {cs : List Value} {x : DUpdate} (h : tyUpdate.rd w B cs x) : ∃ v0, cs = [.int .i64 x.Kind, .int .i64 x.Row.Id, v0, .int .i64 x.Field, .int .i64 x.Value] ∧ rdS tInt w B v0 x.Row.Values := by
  obtain ⟨_, _, rfl, ⟨_, rfl, rfl⟩, ⟨_, _, rfl, ⟨_, _, rfl, ⟨_, rfl, rfl⟩, ⟨v0, rfl, h0⟩⟩, ⟨_, _, rfl, ⟨_, rfl, rfl⟩, ⟨_, rfl, rfl⟩⟩⟩⟩ := h
  exact ⟨v0, rfl, h0⟩
theorem tyUpdate_mk {w : World} {B : Nat} {x : DUpdate} {v0 : Value} (h0 : rdS tInt w B v0 x.Row.Values) : tyUpdate.rd w B [.int .i64 x.Kind, .int .i64 x.Row.Id, v0, .int .i64 x.Field, .int .i64 x.Value] x := ⟨_, _, rfl, ⟨_, rfl, rfl⟩, ⟨_, _, rfl, ⟨_, _, rfl, ⟨_, rfl, rfl⟩, ⟨_, rfl, h0⟩⟩, ⟨_, _, rfl, ⟨_, rfl, rfl⟩, ⟨_, rfl, rfl⟩⟩⟩⟩
structure DAnnotated where
  Row : DRow
  Set : (List Int)
instance : Inhabited DAnnotated := ⟨⟨default, default⟩⟩
def tyLAnnotated : Ty DAnnotated := tMap (tPair tyLRow (tSl tInt 3)) (fun x => (x.Row, x.Set))
theorem tyLAnnotated_rd {w : World} {B : Nat} {cs : List Value} {x : DAnnotated} (h : tyLAnnotated.rd w B cs x) : ∃ v0 v1, cs = [.int .i64 x.Row.Id, v0, v1] ∧ rdS tInt w B v0 x.Row.Values ∧ rdS tInt w B v1 x.Set := by
  obtain ⟨_, _, rfl, ⟨_, _, rfl, ⟨_, rfl, rfl⟩, ⟨v0, rfl, h0⟩⟩, ⟨v1, rfl, h1⟩⟩ := h
  exact ⟨v0, v1, rfl, h0, h1⟩
theorem tyLAnnotated_mk {w : World} {B : Nat} {x : DAnnotated} {v0 v1 : Value} (h0 : rdS tInt w B v0 x.Row.Values) (h1 : rdS tInt w B v1 x.Set) : tyLAnnotated.rd w B [.int .i64 x.Row.Id, v0, v1] x := ⟨_, _, rfl, ⟨_, _, rfl, ⟨_, rfl, rfl⟩, ⟨_, rfl, h0⟩⟩, ⟨_, rfl, h1⟩⟩
def tyAnnotated : Ty DAnnotated := tMap (tPair tyRow (tSl tInt 3)) (fun x => (x.Row, x.Set))
theorem tyAnnotated_rd {w : World} {B : Nat} {cs : List Value} {x : DAnnotated} (h : tyAnnotated.rd w B cs x) : ∃ v0 v1, cs = [.int .i64 x.Row.Id, v0, v1] ∧ rdS tInt w B v0 x.Row.Values ∧ rdS tInt w B v1 x.Set := by
  obtain ⟨_, _, rfl, ⟨_, _, rfl, ⟨_, rfl, rfl⟩, ⟨v0, rfl, h0⟩⟩, ⟨v1, rfl, h1⟩⟩ := h
  exact ⟨v0, v1, rfl, h0, h1⟩
theorem tyAnnotated_mk {w : World} {B : Nat} {x : DAnnotated} {v0 v1 : Value} (h0 : rdS tInt w B v0 x.Row.Values) (h1 : rdS tInt w B v1 x.Set) : tyAnnotated.rd w B [.int .i64 x.Row.Id, v0, v1] x := ⟨_, _, rfl, ⟨_, _, rfl, ⟨_, rfl, rfl⟩, ⟨_, rfl, h0⟩⟩, ⟨_, rfl, h1⟩⟩
structure DGroup where
  Query : Int
  Value : Int
  Count : Int
  Sum : Int
instance : Inhabited DGroup := ⟨⟨default, default, default, default⟩⟩
def tyGroup : Ty DGroup := tMap (tPair tInt (tPair tInt (tPair tInt tInt))) (fun x => (x.Query, x.Value, x.Count, x.Sum))
theorem tyGroup_rd {w : World} {B : Nat} {cs : List Value} {x : DGroup} (h : tyGroup.rd w B cs x) : cs = [.int .i64 x.Query, .int .i64 x.Value, .int .i64 x.Count, .int .i64 x.Sum] := by
  obtain ⟨_, _, rfl, ⟨_, rfl, rfl⟩, ⟨_, _, rfl, ⟨_, rfl, rfl⟩, ⟨_, _, rfl, ⟨_, rfl, rfl⟩, ⟨_, rfl, rfl⟩⟩⟩⟩ := h
  exact rfl
theorem tyGroup_mk {w : World} {B : Nat} {x : DGroup} : tyGroup.rd w B [.int .i64 x.Query, .int .i64 x.Value, .int .i64 x.Count, .int .i64 x.Sum] x := ⟨_, _, rfl, ⟨_, rfl, rfl⟩, ⟨_, _, rfl, ⟨_, rfl, rfl⟩, ⟨_, _, rfl, ⟨_, rfl, rfl⟩, ⟨_, rfl, rfl⟩⟩⟩⟩
theorem tyGroup_eql {a0 a1 a2 a3 b0 b1 b2 b3 : Int} (w : World) : (binOp .eql 117 (.agg #[.int .i64 a0, .int .i64 a1, .int .i64 a2, .int .i64 a3]) (.agg #[.int .i64 b0, .int .i64 b1, .int .i64 b2, .int .i64 b3])).run Try.prog w = .ok (.bool ((a0 == b0) && (a1 == b1) && (a2 == b2) && (a3 == b3))) w := by
  have fu3 := Try.underlying3; have fa3 := Try.isAgg3; have fz3 := Try.sizeOf3
  have hS : Try.prog.underlying 117 = some (.struct (Try.prog.fieldsOf 117)) := by kernel_rfl
  have hp : Try.prog.stoodInHeld 117 = false := by kernel_rfl
  rw [run_eql_struct, show (10000 : Nat) = 9999 + 1 from rfl, run_equalIn_agg w 9999 117 _ _ hS hp]
  simp only [Program.fieldsOf, Try.underlying117]
  go_simp
  by_cases h0 : a0 = b0 <;> by_cases h1 : a1 = b1 <;> by_cases h2 : a2 = b2 <;> by_cases h3 : a3 = b3 <;> simp [h0, h1, h2, h3]
theorem tyGroup_neq {a0 a1 a2 a3 b0 b1 b2 b3 : Int} (w : World) : (binOp .neq 117 (.agg #[.int .i64 a0, .int .i64 a1, .int .i64 a2, .int .i64 a3]) (.agg #[.int .i64 b0, .int .i64 b1, .int .i64 b2, .int .i64 b3])).run Try.prog w = .ok (.bool (!((a0 == b0) && (a1 == b1) && (a2 == b2) && (a3 == b3)))) w := by
  have fu3 := Try.underlying3; have fa3 := Try.isAgg3; have fz3 := Try.sizeOf3
  have hS : Try.prog.underlying 117 = some (.struct (Try.prog.fieldsOf 117)) := by kernel_rfl
  have hp : Try.prog.stoodInHeld 117 = false := by kernel_rfl
  rw [run_neq_struct, show (10000 : Nat) = 9999 + 1 from rfl, run_equalIn_agg w 9999 117 _ _ hS hp]
  simp only [Program.fieldsOf, Try.underlying117]
  go_simp
  by_cases h0 : a0 = b0 <;> by_cases h1 : a1 = b1 <;> by_cases h2 : a2 = b2 <;> by_cases h3 : a3 = b3 <;> simp [h0, h1, h2, h3]
def smVersion (B : Nat) (x : DVersion) : Prop := x.Values.length ≤ B
theorem tyLVersion_split {w : World} {L : List Nat} {cs : List Value} {x : DVersion} (h : tyLVersion.own w L cs x) : ∃ g : Value, cs = [.int .i64 x.Id, g, .int .i64 x.Born, .int .i64 x.Died] ∧ Sep [iOwn (tSl tInt 3) [g] x.Values] w L := by
  obtain ⟨_, _, _, _, rfl, rfl, ⟨rfl, _, rfl, rfl⟩, ⟨_, _, _, _, rfl, rfl, ⟨v0, rfl, h0⟩, ⟨_, _, _, _, rfl, rfl, ⟨rfl, _, rfl, rfl⟩, ⟨rfl, _, rfl, rfl⟩⟩⟩⟩ := h
  exact ⟨v0, rfl, Sep.cast (⟨_, [], (List.append_nil _).symm, ⟨_, rfl, h0⟩, rfl⟩) (by simp)⟩
theorem tyLVersion_join {w : World} {L : List Nat} {x : DVersion} {v0 : Value} (h : Sep [iOwn (tSl tInt 3) [v0] x.Values] w L) : tyLVersion.own w L [.int .i64 x.Id, v0, .int .i64 x.Born, .int .i64 x.Died] x := by
  obtain ⟨L0, K0, rfl, h0, s0⟩ := Sep.cons h
  cases (Sep.nil s0)
  exact own_cast (T := tyLVersion) (cs := [.int .i64 x.Id, v0, .int .i64 x.Born, .int .i64 x.Died]) (x := x) ⟨_, _, _, _, rfl, rfl, tInt_own, ⟨_, _, _, _, rfl, rfl, h0, ⟨_, _, _, _, rfl, rfl, tInt_own, tInt_own⟩⟩⟩ (by simp)
def smStore (B : Nat) (x : DStore) : Prop := (x.Segments.length ≤ B ∧ ∀ y ∈ x.Segments, (y.length ≤ B ∧ ∀ y1 ∈ y, smVersion B y1))
theorem tyLStore_split {w : World} {L : List Nat} {cs : List Value} {x : DStore} (h : tyLStore.own w L cs x) : ∃ g : Value, cs = [g, .int .i64 x.Now] ∧ Sep [iOwn (tSl (tSl tyLVersion 146) 132) [g] x.Segments] w L := by
  obtain ⟨_, _, _, _, rfl, rfl, ⟨v0, rfl, h0⟩, ⟨rfl, _, rfl, rfl⟩⟩ := h
  exact ⟨v0, rfl, Sep.cast (⟨_, [], (List.append_nil _).symm, ⟨_, rfl, h0⟩, rfl⟩) (by simp)⟩
theorem tyLStore_join {w : World} {L : List Nat} {x : DStore} {v0 : Value} (h : Sep [iOwn (tSl (tSl tyLVersion 146) 132) [v0] x.Segments] w L) : tyLStore.own w L [v0, .int .i64 x.Now] x := by
  obtain ⟨L0, K0, rfl, h0, s0⟩ := Sep.cons h
  cases (Sep.nil s0)
  exact own_cast (T := tyLStore) (cs := [v0, .int .i64 x.Now]) (x := x) ⟨_, _, _, _, rfl, rfl, h0, tInt_own⟩ (by simp)
theorem tyVersion_split {w : World} {L : List Nat} {cs : List Value} {x : DVersion} (h : tyVersion.own w L cs x) : ∃ g : Value, cs = [.int .i64 x.Id, g, .int .i64 x.Born, .int .i64 x.Died] ∧ Sep [iOwn (tSl tInt 3) [g] x.Values] w L := by
  obtain ⟨_, _, _, _, rfl, rfl, ⟨rfl, _, rfl, rfl⟩, ⟨_, _, _, _, rfl, rfl, ⟨v0, rfl, h0⟩, ⟨_, _, _, _, rfl, rfl, ⟨rfl, _, rfl, rfl⟩, ⟨rfl, _, rfl, rfl⟩⟩⟩⟩ := h
  exact ⟨v0, rfl, Sep.cast (⟨_, [], (List.append_nil _).symm, ⟨_, rfl, h0⟩, rfl⟩) (by simp)⟩
theorem tyVersion_join {w : World} {L : List Nat} {x : DVersion} {v0 : Value} (h : Sep [iOwn (tSl tInt 3) [v0] x.Values] w L) : tyVersion.own w L [.int .i64 x.Id, v0, .int .i64 x.Born, .int .i64 x.Died] x := by
  obtain ⟨L0, K0, rfl, h0, s0⟩ := Sep.cons h
  cases (Sep.nil s0)
  exact own_cast (T := tyVersion) (cs := [.int .i64 x.Id, v0, .int .i64 x.Born, .int .i64 x.Died]) (x := x) ⟨_, _, _, _, rfl, rfl, tInt_own, ⟨_, _, _, _, rfl, rfl, h0, ⟨_, _, _, _, rfl, rfl, tInt_own, tInt_own⟩⟩⟩ (by simp)
theorem tyStore_split {w : World} {L : List Nat} {cs : List Value} {x : DStore} (h : tyStore.own w L cs x) : ∃ g : Value, cs = [g, .int .i64 x.Now] ∧ Sep [iOwn (tSl (tSl tyVersion 102) 100) [g] x.Segments] w L := by
  obtain ⟨_, _, _, _, rfl, rfl, ⟨v0, rfl, h0⟩, ⟨rfl, _, rfl, rfl⟩⟩ := h
  exact ⟨v0, rfl, Sep.cast (⟨_, [], (List.append_nil _).symm, ⟨_, rfl, h0⟩, rfl⟩) (by simp)⟩
theorem tyStore_join {w : World} {L : List Nat} {x : DStore} {v0 : Value} (h : Sep [iOwn (tSl (tSl tyVersion 102) 100) [v0] x.Segments] w L) : tyStore.own w L [v0, .int .i64 x.Now] x := by
  obtain ⟨L0, K0, rfl, h0, s0⟩ := Sep.cons h
  cases (Sep.nil s0)
  exact own_cast (T := tyStore) (cs := [v0, .int .i64 x.Now]) (x := x) ⟨_, _, _, _, rfl, rfl, h0, tInt_own⟩ (by simp)
def smRow (B : Nat) (x : DRow) : Prop := x.Values.length ≤ B
theorem tyLRow_split {w : World} {L : List Nat} {cs : List Value} {x : DRow} (h : tyLRow.own w L cs x) : ∃ g : Value, cs = [.int .i64 x.Id, g] ∧ Sep [iOwn (tSl tInt 3) [g] x.Values] w L := by
  obtain ⟨_, _, _, _, rfl, rfl, ⟨rfl, _, rfl, rfl⟩, ⟨v0, rfl, h0⟩⟩ := h
  exact ⟨v0, rfl, Sep.cast (⟨_, [], (List.append_nil _).symm, ⟨_, rfl, h0⟩, rfl⟩) (by simp)⟩
theorem tyLRow_join {w : World} {L : List Nat} {x : DRow} {v0 : Value} (h : Sep [iOwn (tSl tInt 3) [v0] x.Values] w L) : tyLRow.own w L [.int .i64 x.Id, v0] x := by
  obtain ⟨L0, K0, rfl, h0, s0⟩ := Sep.cons h
  cases (Sep.nil s0)
  exact own_cast (T := tyLRow) (cs := [.int .i64 x.Id, v0]) (x := x) ⟨_, _, _, _, rfl, rfl, tInt_own, h0⟩ (by simp)
def smUpdate (B : Nat) (x : DUpdate) : Prop := smRow B x.Row
theorem tyLUpdate_split {w : World} {L : List Nat} {cs : List Value} {x : DUpdate} (h : tyLUpdate.own w L cs x) : ∃ g : Value, cs = [.int .i64 x.Kind, .int .i64 x.Row.Id, g, .int .i64 x.Field, .int .i64 x.Value] ∧ Sep [iOwn (tSl tInt 3) [g] x.Row.Values] w L := by
  obtain ⟨_, _, _, _, rfl, rfl, ⟨rfl, _, rfl, rfl⟩, ⟨_, _, _, _, rfl, rfl, ⟨_, _, _, _, rfl, rfl, ⟨rfl, _, rfl, rfl⟩, ⟨v0, rfl, h0⟩⟩, ⟨_, _, _, _, rfl, rfl, ⟨rfl, _, rfl, rfl⟩, ⟨rfl, _, rfl, rfl⟩⟩⟩⟩ := h
  exact ⟨v0, rfl, Sep.cast (⟨_, [], (List.append_nil _).symm, ⟨_, rfl, h0⟩, rfl⟩) (by simp)⟩
theorem tyLUpdate_join {w : World} {L : List Nat} {x : DUpdate} {v0 : Value} (h : Sep [iOwn (tSl tInt 3) [v0] x.Row.Values] w L) : tyLUpdate.own w L [.int .i64 x.Kind, .int .i64 x.Row.Id, v0, .int .i64 x.Field, .int .i64 x.Value] x := by
  obtain ⟨L0, K0, rfl, h0, s0⟩ := Sep.cons h
  cases (Sep.nil s0)
  exact own_cast (T := tyLUpdate) (cs := [.int .i64 x.Kind, .int .i64 x.Row.Id, v0, .int .i64 x.Field, .int .i64 x.Value]) (x := x) ⟨_, _, _, _, rfl, rfl, tInt_own, ⟨_, _, _, _, rfl, rfl, ⟨_, _, _, _, rfl, rfl, tInt_own, h0⟩, ⟨_, _, _, _, rfl, rfl, tInt_own, tInt_own⟩⟩⟩ (by simp)
theorem tyRow_split {w : World} {L : List Nat} {cs : List Value} {x : DRow} (h : tyRow.own w L cs x) : ∃ g : Value, cs = [.int .i64 x.Id, g] ∧ Sep [iOwn (tSl tInt 3) [g] x.Values] w L := by
  obtain ⟨_, _, _, _, rfl, rfl, ⟨rfl, _, rfl, rfl⟩, ⟨v0, rfl, h0⟩⟩ := h
  exact ⟨v0, rfl, Sep.cast (⟨_, [], (List.append_nil _).symm, ⟨_, rfl, h0⟩, rfl⟩) (by simp)⟩
theorem tyRow_join {w : World} {L : List Nat} {x : DRow} {v0 : Value} (h : Sep [iOwn (tSl tInt 3) [v0] x.Values] w L) : tyRow.own w L [.int .i64 x.Id, v0] x := by
  obtain ⟨L0, K0, rfl, h0, s0⟩ := Sep.cons h
  cases (Sep.nil s0)
  exact own_cast (T := tyRow) (cs := [.int .i64 x.Id, v0]) (x := x) ⟨_, _, _, _, rfl, rfl, tInt_own, h0⟩ (by simp)
theorem tyUpdate_split {w : World} {L : List Nat} {cs : List Value} {x : DUpdate} (h : tyUpdate.own w L cs x) : ∃ g : Value, cs = [.int .i64 x.Kind, .int .i64 x.Row.Id, g, .int .i64 x.Field, .int .i64 x.Value] ∧ Sep [iOwn (tSl tInt 3) [g] x.Row.Values] w L := by
  obtain ⟨_, _, _, _, rfl, rfl, ⟨rfl, _, rfl, rfl⟩, ⟨_, _, _, _, rfl, rfl, ⟨_, _, _, _, rfl, rfl, ⟨rfl, _, rfl, rfl⟩, ⟨v0, rfl, h0⟩⟩, ⟨_, _, _, _, rfl, rfl, ⟨rfl, _, rfl, rfl⟩, ⟨rfl, _, rfl, rfl⟩⟩⟩⟩ := h
  exact ⟨v0, rfl, Sep.cast (⟨_, [], (List.append_nil _).symm, ⟨_, rfl, h0⟩, rfl⟩) (by simp)⟩
theorem tyUpdate_join {w : World} {L : List Nat} {x : DUpdate} {v0 : Value} (h : Sep [iOwn (tSl tInt 3) [v0] x.Row.Values] w L) : tyUpdate.own w L [.int .i64 x.Kind, .int .i64 x.Row.Id, v0, .int .i64 x.Field, .int .i64 x.Value] x := by
  obtain ⟨L0, K0, rfl, h0, s0⟩ := Sep.cons h
  cases (Sep.nil s0)
  exact own_cast (T := tyUpdate) (cs := [.int .i64 x.Kind, .int .i64 x.Row.Id, v0, .int .i64 x.Field, .int .i64 x.Value]) (x := x) ⟨_, _, _, _, rfl, rfl, tInt_own, ⟨_, _, _, _, rfl, rfl, ⟨_, _, _, _, rfl, rfl, tInt_own, h0⟩, ⟨_, _, _, _, rfl, rfl, tInt_own, tInt_own⟩⟩⟩ (by simp)
def smAnnotated (B : Nat) (x : DAnnotated) : Prop := smRow B x.Row ∧ x.Set.length ≤ B
theorem tyLAnnotated_split {w : World} {L : List Nat} {cs : List Value} {x : DAnnotated} (h : tyLAnnotated.own w L cs x) : ∃ g : Value × Value, cs = [.int .i64 x.Row.Id, g.1, g.2] ∧ Sep [iOwn (tSl tInt 3) [g.1] x.Row.Values, iOwn (tSl tInt 3) [g.2] x.Set] w L := by
  obtain ⟨_, _, _, _, rfl, rfl, ⟨_, _, _, _, rfl, rfl, ⟨rfl, _, rfl, rfl⟩, ⟨v0, rfl, h0⟩⟩, ⟨v1, rfl, h1⟩⟩ := h
  exact ⟨(v0, v1), rfl, Sep.cast (⟨_, _, rfl, ⟨_, rfl, h0⟩, ⟨_, [], (List.append_nil _).symm, ⟨_, rfl, h1⟩, rfl⟩⟩) (by simp)⟩
theorem tyLAnnotated_join {w : World} {L : List Nat} {x : DAnnotated} {v0 v1 : Value} (h : Sep [iOwn (tSl tInt 3) [v0] x.Row.Values, iOwn (tSl tInt 3) [v1] x.Set] w L) : tyLAnnotated.own w L [.int .i64 x.Row.Id, v0, v1] x := by
  obtain ⟨L0, K0, rfl, h0, s0⟩ := Sep.cons h
  obtain ⟨L1, K1, rfl, h1, s1⟩ := Sep.cons s0
  cases (Sep.nil s1)
  exact own_cast (T := tyLAnnotated) (cs := [.int .i64 x.Row.Id, v0, v1]) (x := x) ⟨_, _, _, _, rfl, rfl, ⟨_, _, _, _, rfl, rfl, tInt_own, h0⟩, h1⟩ (by simp)
theorem tyAnnotated_split {w : World} {L : List Nat} {cs : List Value} {x : DAnnotated} (h : tyAnnotated.own w L cs x) : ∃ g : Value × Value, cs = [.int .i64 x.Row.Id, g.1, g.2] ∧ Sep [iOwn (tSl tInt 3) [g.1] x.Row.Values, iOwn (tSl tInt 3) [g.2] x.Set] w L := by
  obtain ⟨_, _, _, _, rfl, rfl, ⟨_, _, _, _, rfl, rfl, ⟨rfl, _, rfl, rfl⟩, ⟨v0, rfl, h0⟩⟩, ⟨v1, rfl, h1⟩⟩ := h
  exact ⟨(v0, v1), rfl, Sep.cast (⟨_, _, rfl, ⟨_, rfl, h0⟩, ⟨_, [], (List.append_nil _).symm, ⟨_, rfl, h1⟩, rfl⟩⟩) (by simp)⟩
theorem tyAnnotated_join {w : World} {L : List Nat} {x : DAnnotated} {v0 v1 : Value} (h : Sep [iOwn (tSl tInt 3) [v0] x.Row.Values, iOwn (tSl tInt 3) [v1] x.Set] w L) : tyAnnotated.own w L [.int .i64 x.Row.Id, v0, v1] x := by
  obtain ⟨L0, K0, rfl, h0, s0⟩ := Sep.cons h
  obtain ⟨L1, K1, rfl, h1, s1⟩ := Sep.cons s0
  cases (Sep.nil s1)
  exact own_cast (T := tyAnnotated) (cs := [.int .i64 x.Row.Id, v0, v1]) (x := x) ⟨_, _, _, _, rfl, rfl, ⟨_, _, _, _, rfl, rfl, tInt_own, h0⟩, h1⟩ (by simp)
theorem tyGroup_split {w : World} {L : List Nat} {cs : List Value} {x : DGroup} (h : tyGroup.own w L cs x) : ∃ _ : Unit, cs = [.int .i64 x.Query, .int .i64 x.Value, .int .i64 x.Count, .int .i64 x.Sum] ∧ Sep [] w L := by
  obtain ⟨_, _, _, _, rfl, rfl, ⟨rfl, _, rfl, rfl⟩, ⟨_, _, _, _, rfl, rfl, ⟨rfl, _, rfl, rfl⟩, ⟨_, _, _, _, rfl, rfl, ⟨rfl, _, rfl, rfl⟩, ⟨rfl, _, rfl, rfl⟩⟩⟩⟩ := h
  exact ⟨(), rfl, Sep.cast (rfl) (by simp)⟩
theorem tyGroup_join {w : World} {L : List Nat} {x : DGroup} (h : Sep [] w L) : tyGroup.own w L [.int .i64 x.Query, .int .i64 x.Value, .int .i64 x.Count, .int .i64 x.Sum] x := by
  cases (Sep.nil h)
  exact own_cast (T := tyGroup) (cs := [.int .i64 x.Query, .int .i64 x.Value, .int .i64 x.Count, .int .i64 x.Sum]) (x := x) ⟨_, _, _, _, rfl, rfl, tInt_own, ⟨_, _, _, _, rfl, rfl, tInt_own, ⟨_, _, _, _, rfl, rfl, tInt_own, tInt_own⟩⟩⟩ (by simp)
end Go.Proofs.Ytjcdginailhfmaa
