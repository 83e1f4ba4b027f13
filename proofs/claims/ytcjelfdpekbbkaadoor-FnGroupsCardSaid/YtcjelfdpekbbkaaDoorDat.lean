/-
  The data of the program as structures, and how they lie in memory.
-/
import Derived.Test.YtcjelfdpekbbkaaDoorVcS
import Derived.Test.YtcjelfdpekbbkaaDoorVcP
import Derived.Test.YtcjelfdpekbbkaaDoorVcN
import Derived.Test.YtcjelfdpekbbkaaDoorVcX
import Derived.Test.YtcjelfdpekbbkaaDoorVcY
import Derived.Test.YtcjelfdpekbbkaaDoorVcQ
namespace Go.Proofs.YtcjelfdpekbbkaaDoor
open Go.RowKit
structure DGroup where
  Query : Int
  Value : Int
  Count : Int
  Sum : Int
instance : Inhabited DGroup := ⟨⟨default, default, default, default⟩⟩
def tyLGroup : Ty DGroup := tMap (tPair tInt (tPair tInt (tPair tInt tInt))) (fun x => (x.Query, x.Value, x.Count, x.Sum))
theorem tyLGroup_rd {w : World} {B : Nat} {cs : List Value} {x : DGroup} (h : tyLGroup.rd w B cs x) : cs = [.int .i64 x.Query, .int .i64 x.Value, .int .i64 x.Count, .int .i64 x.Sum] := by
  obtain ⟨_, _, rfl, ⟨_, rfl, rfl⟩, ⟨_, _, rfl, ⟨_, rfl, rfl⟩, ⟨_, _, rfl, ⟨_, rfl, rfl⟩, ⟨_, rfl, rfl⟩⟩⟩⟩ := h
  exact rfl
theorem tyLGroup_mk {w : World} {B : Nat} {x : DGroup} : tyLGroup.rd w B [.int .i64 x.Query, .int .i64 x.Value, .int .i64 x.Count, .int .i64 x.Sum] x := ⟨_, _, rfl, ⟨_, rfl, rfl⟩, ⟨_, _, rfl, ⟨_, rfl, rfl⟩, ⟨_, _, rfl, ⟨_, rfl, rfl⟩, ⟨_, rfl, rfl⟩⟩⟩⟩
def tyGroup : Ty DGroup := tMap (tPair tInt (tPair tInt (tPair tInt tInt))) (fun x => (x.Query, x.Value, x.Count, x.Sum))
theorem tyGroup_rd {w : World} {B : Nat} {cs : List Value} {x : DGroup} (h : tyGroup.rd w B cs x) : cs = [.int .i64 x.Query, .int .i64 x.Value, .int .i64 x.Count, .int .i64 x.Sum] := by
  obtain ⟨_, _, rfl, ⟨_, rfl, rfl⟩, ⟨_, _, rfl, ⟨_, rfl, rfl⟩, ⟨_, _, rfl, ⟨_, rfl, rfl⟩, ⟨_, rfl, rfl⟩⟩⟩⟩ := h
  exact rfl
theorem tyGroup_mk {w : World} {B : Nat} {x : DGroup} : tyGroup.rd w B [.int .i64 x.Query, .int .i64 x.Value, .int .i64 x.Count, .int .i64 x.Sum] x := ⟨_, _, rfl, ⟨_, rfl, rfl⟩, ⟨_, _, rfl, ⟨_, rfl, rfl⟩, ⟨_, _, rfl, ⟨_, rfl, rfl⟩, ⟨_, rfl, rfl⟩⟩⟩⟩
structure DCharge where
  Segment : Int
  Base : Int
  Ids : (List Int)
  Tenants : (List Int)
  Rows : (List Int)
instance : Inhabited DCharge := ⟨⟨default, default, default, default, default⟩⟩
def tyLCharge : Ty DCharge := tMap (tPair tInt (tPair tInt (tPair (tSl tInt 3) (tPair (tSl tInt 3) (tSl tInt 3))))) (fun x => (x.Segment, x.Base, x.Ids, x.Tenants, x.Rows))
theorem tyLCharge_rd {w : World} {B : Nat} {cs : List Value} {x : DCharge} (h : tyLCharge.rd w B cs x) : ∃ v0 v1 v2, cs = [.int .i64 x.Segment, .int .i64 x.Base, v0, v1, v2] ∧ rdS tInt w B v0 x.Ids ∧ rdS tInt w B v1 x.Tenants ∧ rdS tInt w B v2 x.Rows := by
  obtain ⟨_, _, rfl, ⟨_, rfl, rfl⟩, ⟨_, _, rfl, ⟨_, rfl, rfl⟩, ⟨_, _, rfl, ⟨v0, rfl, h0⟩, ⟨_, _, rfl, ⟨v1, rfl, h1⟩, ⟨v2, rfl, h2⟩⟩⟩⟩⟩ := h
  exact ⟨v0, v1, v2, rfl, h0, h1, h2⟩
theorem tyLCharge_mk {w : World} {B : Nat} {x : DCharge} {v0 v1 v2 : Value} (h0 : rdS tInt w B v0 x.Ids) (h1 : rdS tInt w B v1 x.Tenants) (h2 : rdS tInt w B v2 x.Rows) : tyLCharge.rd w B [.int .i64 x.Segment, .int .i64 x.Base, v0, v1, v2] x := ⟨_, _, rfl, ⟨_, rfl, rfl⟩, ⟨_, _, rfl, ⟨_, rfl, rfl⟩, ⟨_, _, rfl, ⟨_, rfl, h0⟩, ⟨_, _, rfl, ⟨_, rfl, h1⟩, ⟨_, rfl, h2⟩⟩⟩⟩⟩
def tyCharge : Ty DCharge := tMap (tPair tInt (tPair tInt (tPair (tSl tInt 3) (tPair (tSl tInt 3) (tSl tInt 3))))) (fun x => (x.Segment, x.Base, x.Ids, x.Tenants, x.Rows))
theorem tyCharge_rd {w : World} {B : Nat} {cs : List Value} {x : DCharge} (h : tyCharge.rd w B cs x) : ∃ v0 v1 v2, cs = [.int .i64 x.Segment, .int .i64 x.Base, v0, v1, v2] ∧ rdS tInt w B v0 x.Ids ∧ rdS tInt w B v1 x.Tenants ∧ rdS tInt w B v2 x.Rows := by
  obtain ⟨_, _, rfl, ⟨_, rfl, rfl⟩, ⟨_, _, rfl, ⟨_, rfl, rfl⟩, ⟨_, _, rfl, ⟨v0, rfl, h0⟩, ⟨_, _, rfl, ⟨v1, rfl, h1⟩, ⟨v2, rfl, h2⟩⟩⟩⟩⟩ := h
  exact ⟨v0, v1, v2, rfl, h0, h1, h2⟩
theorem tyCharge_mk {w : World} {B : Nat} {x : DCharge} {v0 v1 v2 : Value} (h0 : rdS tInt w B v0 x.Ids) (h1 : rdS tInt w B v1 x.Tenants) (h2 : rdS tInt w B v2 x.Rows) : tyCharge.rd w B [.int .i64 x.Segment, .int .i64 x.Base, v0, v1, v2] x := ⟨_, _, rfl, ⟨_, rfl, rfl⟩, ⟨_, _, rfl, ⟨_, rfl, rfl⟩, ⟨_, _, rfl, ⟨_, rfl, h0⟩, ⟨_, _, rfl, ⟨_, rfl, h1⟩, ⟨_, rfl, h2⟩⟩⟩⟩⟩
structure DRow where
  Id : Int
  Values : (List Int)
instance : Inhabited DRow := ⟨⟨default, default⟩⟩
def tyLRow : Ty DRow := tMap (tPair tInt (tSl tInt 3)) (fun x => (x.Id, x.Values))
theorem tyLRow_rd {w : World} {B : Nat} {cs : List Value} {x : DRow} (h : tyLRow.rd w B cs x) : ∃ v0, cs = [.int .i64 x.Id, v0] ∧ rdS tInt w B v0 x.Values := by
  obtain ⟨_, _, rfl, ⟨_, rfl, rfl⟩, ⟨v0, rfl, h0⟩⟩ := h
  exact ⟨v0, rfl, h0⟩
theorem tyLRow_mk {w : World} {B : Nat} {x : DRow} {v0 : Value} (h0 : rdS tInt w B v0 x.Values) : tyLRow.rd w B [.int .i64 x.Id, v0] x := ⟨_, _, rfl, ⟨_, rfl, rfl⟩, ⟨_, rfl, h0⟩⟩
structure DUpdate where
  Kind : Int
  Row : DRow
  Field : Int
  Value : Int
instance : Inhabited DUpdate := ⟨⟨default, default, default, default⟩⟩
def tyLUpdate : Ty DUpdate := tMap (tPair tInt (tPair tyLRow (tPair tInt tInt))) (fun x => (x.Kind, x.Row, x.Field, x.Value))
theorem tyLUpdate_rd {w : World} {B : Nat} {cs : List Value} {x : DUpdate} (h : tyLUpdate.rd w B cs x) : ∃ v0, cs = [.int .i64 x.Kind, .int .i64 x.Row.Id, v0, .int .i64 x.Field, .int .i64 x.Value] ∧ rdS tInt w B v0 x.Row.Values := by
  obtain ⟨_, _, rfl, ⟨_, rfl, rfl⟩, ⟨_, _, rfl, ⟨_, _, rfl, ⟨_, rfl, rfl⟩, ⟨v0, rfl, h0⟩⟩, ⟨_, _, rfl, ⟨_, rfl, rfl⟩, ⟨_, rfl, rfl⟩⟩⟩⟩ := h
  exact ⟨v0, rfl, h0⟩
theorem tyLUpdate_mk {w : World} {B : Nat} {x : DUpdate} {v0 : Value} (h0 : rdS tInt w B v0 x.Row.Values) : tyLUpdate.rd w B [.int .i64 x.Kind, .int .i64 x.Row.Id, v0, .int .i64 x.Field, .int .i64 x.Value] x := ⟨_, _, rfl, ⟨_, rfl, rfl⟩, ⟨_, _, rfl, ⟨_, _, rfl, ⟨_, rfl, rfl⟩, ⟨_, rfl, h0⟩⟩, ⟨_, _, rfl, ⟨_, rfl, rfl⟩, ⟨_, rfl, rfl⟩⟩⟩⟩
def tyRow : Ty DRow := tMap (tPair tInt (tSl tInt 3)) (fun x => (x.Id, x.Values))
theorem tyRow_rd {w : World} {B : Nat} {cs : List Value} {x : DRow} (h : tyRow.rd w B cs x) : ∃ v0, cs = [.int .i64 x.Id, v0] ∧ rdS tInt w B v0 x.Values := by
  obtain ⟨_, _, rfl, ⟨_, rfl, rfl⟩, ⟨v0, rfl, h0⟩⟩ := h
  exact ⟨v0, rfl, h0⟩
theorem tyRow_mk {w : World} {B : Nat} {x : DRow} {v0 : Value} (h0 : rdS tInt w B v0 x.Values) : tyRow.rd w B [.int .i64 x.Id, v0] x := ⟨_, _, rfl, ⟨_, rfl, rfl⟩, ⟨_, rfl, h0⟩⟩
def tyUpdate : Ty DUpdate := tMap (tPair tInt (tPair tyRow (tPair tInt tInt))) (fun x => (x.Kind, x.Row, x.Field, x.Value))
theorem tyUpdate_rd {w : World} {B : Nat} {cs : List Value} {x : DUpdate} (h : tyUpdate.rd w B cs x) : ∃ v0, cs = [.int .i64 x.Kind, .int .i64 x.Row.Id, v0, .int .i64 x.Field, .int .i64 x.Value] ∧ rdS tInt w B v0 x.Row.Values := by
  obtain ⟨_, _, rfl, ⟨_, rfl, rfl⟩, ⟨_, _, rfl, ⟨_, _, rfl, ⟨_, rfl, rfl⟩, ⟨v0, rfl, h0⟩⟩, ⟨_, _, rfl, ⟨_, rfl, rfl⟩, ⟨_, rfl, rfl⟩⟩⟩⟩ := h
  exact ⟨v0, rfl, h0⟩
theorem tyUpdate_mk {w : World} {B : Nat} {x : DUpdate} {v0 : Value} (h0 : rdS tInt w B v0 x.Row.Values) : tyUpdate.rd w B [.int .i64 x.Kind, .int .i64 x.Row.Id, v0, .int .i64 x.Field, .int .i64 x.Value] x := ⟨_, _, rfl, ⟨_, rfl, rfl⟩, ⟨_, _, rfl, ⟨_, _, rfl, ⟨_, rfl, rfl⟩, ⟨_, rfl, h0⟩⟩, ⟨_, _, rfl, ⟨_, rfl, rfl⟩, ⟨_, rfl, rfl⟩⟩⟩⟩
structure DAnnotated where
  Row : DRow
  Set : (List Int)
instance : Inhabited DAnnotated := ⟨⟨default, default⟩⟩
def tyAnnotated : Ty DAnnotated := tMap (tPair tyRow (tSl tInt 3)) (fun x => (x.Row, x.Set))
theorem tyAnnotated_rd {w : World} {B : Nat} {cs : List Value} {x : DAnnotated} (h : tyAnnotated.rd w B cs x) : ∃ v0 v1, cs = [.int .i64 x.Row.Id, v0, v1] ∧ rdS tInt w B v0 x.Row.Values ∧ rdS tInt w B v1 x.Set := by
  obtain ⟨_, _, rfl, ⟨_, _, rfl, ⟨_, rfl, rfl⟩, ⟨v0, rfl, h0⟩⟩, ⟨v1, rfl, h1⟩⟩ := h
  exact ⟨v0, v1, rfl, h0, h1⟩
theorem tyAnnotated_mk {w : World} {B : Nat} {x : DAnnotated} {v0 v1 : Value} (h0 : rdS tInt w B v0 x.Row.Values) (h1 : rdS tInt w B v1 x.Set) : tyAnnotated.rd w B [.int .i64 x.Row.Id, v0, v1] x := ⟨_, _, rfl, ⟨_, _, rfl, ⟨_, rfl, rfl⟩, ⟨_, rfl, h0⟩⟩, ⟨_, rfl, h1⟩⟩
structure Dl1Cur where
  i : Nat
  h : Int
instance : Inhabited Dl1Cur := ⟨⟨default, default⟩⟩
structure DCond where
  Field : Int
  Low : Int
  High : Int
instance : Inhabited DCond := ⟨⟨default, default, default⟩⟩
def tyCond : Ty DCond := tMap (tPair tInt (tPair tInt tInt)) (fun x => (x.Field, x.Low, x.High))
theorem tyCond_rd {w : World} {B : Nat} {cs : List Value} {x : DCond} (h : tyCond.rd w B cs x) : cs = [.int .i64 x.Field, .int .i64 x.Low, .int .i64 x.High] := by
  obtain ⟨_, _, rfl, ⟨_, rfl, rfl⟩, ⟨_, _, rfl, ⟨_, rfl, rfl⟩, ⟨_, rfl, rfl⟩⟩⟩ := h
  exact rfl
theorem tyCond_mk {w : World} {B : Nat} {x : DCond} : tyCond.rd w B [.int .i64 x.Field, .int .i64 x.Low, .int .i64 x.High] x := ⟨_, _, rfl, ⟨_, rfl, rfl⟩, ⟨_, _, rfl, ⟨_, rfl, rfl⟩, ⟨_, rfl, rfl⟩⟩⟩
structure DQuery where
  Id : Int
  Tenant : Int
  Conds : (List DCond)
  Out : (List Int)
instance : Inhabited DQuery := ⟨⟨default, default, default, default⟩⟩
def tyQuery : Ty DQuery := tMap (tPair tInt (tPair tInt (tPair (tSl tyCond 165) (tSl tInt 3)))) (fun x => (x.Id, x.Tenant, x.Conds, x.Out))
theorem tyQuery_rd {w : World} {B : Nat} {cs : List Value} {x : DQuery} (h : tyQuery.rd w B cs x) : ∃ v0 v1, cs = [.int .i64 x.Id, .int .i64 x.Tenant, v0, v1] ∧ rdS tyCond w B v0 x.Conds ∧ rdS tInt w B v1 x.Out := by
  obtain ⟨_, _, rfl, ⟨_, rfl, rfl⟩, ⟨_, _, rfl, ⟨_, rfl, rfl⟩, ⟨_, _, rfl, ⟨v0, rfl, h0⟩, ⟨v1, rfl, h1⟩⟩⟩⟩ := h
  exact ⟨v0, v1, rfl, h0, h1⟩
theorem tyQuery_mk {w : World} {B : Nat} {x : DQuery} {v0 v1 : Value} (h0 : rdS tyCond w B v0 x.Conds) (h1 : rdS tInt w B v1 x.Out) : tyQuery.rd w B [.int .i64 x.Id, .int .i64 x.Tenant, v0, v1] x := ⟨_, _, rfl, ⟨_, rfl, rfl⟩, ⟨_, _, rfl, ⟨_, rfl, rfl⟩, ⟨_, _, rfl, ⟨_, rfl, h0⟩, ⟨_, rfl, h1⟩⟩⟩⟩
structure DSpan where
  From : Int
  To : Int
  Set : (List Int)
instance : Inhabited DSpan := ⟨⟨default, default, default⟩⟩
def tySpan : Ty DSpan := tMap (tPair tInt (tPair tInt (tSl tInt 3))) (fun x => (x.From, x.To, x.Set))
theorem tySpan_rd {w : World} {B : Nat} {cs : List Value} {x : DSpan} (h : tySpan.rd w B cs x) : ∃ v0, cs = [.int .i64 x.From, .int .i64 x.To, v0] ∧ rdS tInt w B v0 x.Set := by
  obtain ⟨_, _, rfl, ⟨_, rfl, rfl⟩, ⟨_, _, rfl, ⟨_, rfl, rfl⟩, ⟨v0, rfl, h0⟩⟩⟩ := h
  exact ⟨v0, rfl, h0⟩
theorem tySpan_mk {w : World} {B : Nat} {x : DSpan} {v0 : Value} (h0 : rdS tInt w B v0 x.Set) : tySpan.rd w B [.int .i64 x.From, .int .i64 x.To, v0] x := ⟨_, _, rfl, ⟨_, rfl, rfl⟩, ⟨_, _, rfl, ⟨_, rfl, rfl⟩, ⟨_, rfl, h0⟩⟩⟩
structure DIndex where
  Queries : (List DQuery)
  Fields : (List (List DSpan))
instance : Inhabited DIndex := ⟨⟨default, default⟩⟩
def tyIndex : Ty DIndex := tMap (tPair (tSl tyQuery 150) (tSl (tSl tySpan 173) 156)) (fun x => (x.Queries, x.Fields))
theorem tyIndex_rd {w : World} {B : Nat} {cs : List Value} {x : DIndex} (h : tyIndex.rd w B cs x) : ∃ v0 v1, cs = [v0, v1] ∧ rdS tyQuery w B v0 x.Queries ∧ rdS (tSl tySpan 173) w B v1 x.Fields := by
  obtain ⟨_, _, rfl, ⟨v0, rfl, h0⟩, ⟨v1, rfl, h1⟩⟩ := h
  exact ⟨v0, v1, rfl, h0, h1⟩
theorem tyIndex_mk {w : World} {B : Nat} {x : DIndex} {v0 v1 : Value} (h0 : rdS tyQuery w B v0 x.Queries) (h1 : rdS (tSl tySpan 173) w B v1 x.Fields) : tyIndex.rd w B [v0, v1] x := ⟨_, _, rfl, ⟨_, rfl, h0⟩, ⟨_, rfl, h1⟩⟩
theorem tyGroup_eql {a0 a1 a2 a3 b0 b1 b2 b3 : Int} (w : World) : (binOp .eql 25 (.agg #[.int .i64 a0, .int .i64 a1, .int .i64 a2, .int .i64 a3]) (.agg #[.int .i64 b0, .int .i64 b1, .int .i64 b2, .int .i64 b3])).run Tryd.prog w = .ok (.bool ((a0 == b0) && (a1 == b1) && (a2 == b2) && (a3 == b3))) w := by
  have fu3 := Tryd.underlying3; have fa3 := Tryd.isAgg3; have fz3 := Tryd.sizeOf3
  have hS : Tryd.prog.underlying 25 = some (.struct (Tryd.prog.fieldsOf 25)) := by kernel_rfl
  have hp : Tryd.prog.stoodInHeld 25 = false := by kernel_rfl
  rw [run_eql_struct, show (10000 : Nat) = 9999 + 1 from rfl, run_equalIn_agg w 9999 25 _ _ hS hp]
  simp only [Program.fieldsOf, Tryd.underlying25]
  go_simp
  by_cases h0 : a0 = b0 <;> by_cases h1 : a1 = b1 <;> by_cases h2 : a2 = b2 <;> by_cases h3 : a3 = b3 <;> simp [h0, h1, h2, h3]
theorem tyGroup_neq {a0 a1 a2 a3 b0 b1 b2 b3 : Int} (w : World) : (binOp .neq 25 (.agg #[.int .i64 a0, .int .i64 a1, .int .i64 a2, .int .i64 a3]) (.agg #[.int .i64 b0, .int .i64 b1, .int .i64 b2, .int .i64 b3])).run Tryd.prog w = .ok (.bool (!((a0 == b0) && (a1 == b1) && (a2 == b2) && (a3 == b3)))) w := by
  have fu3 := Tryd.underlying3; have fa3 := Tryd.isAgg3; have fz3 := Tryd.sizeOf3
  have hS : Tryd.prog.underlying 25 = some (.struct (Tryd.prog.fieldsOf 25)) := by kernel_rfl
  have hp : Tryd.prog.stoodInHeld 25 = false := by kernel_rfl
  rw [run_neq_struct, show (10000 : Nat) = 9999 + 1 from rfl, run_equalIn_agg w 9999 25 _ _ hS hp]
  simp only [Program.fieldsOf, Tryd.underlying25]
  go_simp
  by_cases h0 : a0 = b0 <;> by_cases h1 : a1 = b1 <;> by_cases h2 : a2 = b2 <;> by_cases h3 : a3 = b3 <;> simp [h0, h1, h2, h3]
theorem tyCond_eql {a0 a1 a2 b0 b1 b2 : Int} (w : World) : (binOp .eql 165 (.agg #[.int .i64 a0, .int .i64 a1, .int .i64 a2]) (.agg #[.int .i64 b0, .int .i64 b1, .int .i64 b2])).run Tryd.prog w = .ok (.bool ((a0 == b0) && (a1 == b1) && (a2 == b2))) w := by
  have fu3 := Tryd.underlying3; have fa3 := Tryd.isAgg3; have fz3 := Tryd.sizeOf3
  have hS : Tryd.prog.underlying 165 = some (.struct (Tryd.prog.fieldsOf 165)) := by kernel_rfl
  have hp : Tryd.prog.stoodInHeld 165 = false := by kernel_rfl
  rw [run_eql_struct, show (10000 : Nat) = 9999 + 1 from rfl, run_equalIn_agg w 9999 165 _ _ hS hp]
  simp only [Program.fieldsOf, Tryd.underlying165]
  go_simp
  by_cases h0 : a0 = b0 <;> by_cases h1 : a1 = b1 <;> by_cases h2 : a2 = b2 <;> simp [h0, h1, h2]
theorem tyCond_neq {a0 a1 a2 b0 b1 b2 : Int} (w : World) : (binOp .neq 165 (.agg #[.int .i64 a0, .int .i64 a1, .int .i64 a2]) (.agg #[.int .i64 b0, .int .i64 b1, .int .i64 b2])).run Tryd.prog w = .ok (.bool (!((a0 == b0) && (a1 == b1) && (a2 == b2)))) w := by
  have fu3 := Tryd.underlying3; have fa3 := Tryd.isAgg3; have fz3 := Tryd.sizeOf3
  have hS : Tryd.prog.underlying 165 = some (.struct (Tryd.prog.fieldsOf 165)) := by kernel_rfl
  have hp : Tryd.prog.stoodInHeld 165 = false := by kernel_rfl
  rw [run_neq_struct, show (10000 : Nat) = 9999 + 1 from rfl, run_equalIn_agg w 9999 165 _ _ hS hp]
  simp only [Program.fieldsOf, Tryd.underlying165]
  go_simp
  by_cases h0 : a0 = b0 <;> by_cases h1 : a1 = b1 <;> by_cases h2 : a2 = b2 <;> simp [h0, h1, h2]
theorem tyLGroup_split {w : World} {L : List Nat} {cs : List Value} {x : DGroup} (h : tyLGroup.own w L cs x) : ∃ _ : Unit, cs = [.int .i64 x.Query, .int .i64 x.Value, .int .i64 x.Count, .int .i64 x.Sum] ∧ Sep [] w L := by
  obtain ⟨_, _, _, _, rfl, rfl, ⟨rfl, _, rfl, rfl⟩, ⟨_, _, _, _, rfl, rfl, ⟨rfl, _, rfl, rfl⟩, ⟨_, _, _, _, rfl, rfl, ⟨rfl, _, rfl, rfl⟩, ⟨rfl, _, rfl, rfl⟩⟩⟩⟩ := h
  exact ⟨(), rfl, Sep.cast (rfl) (by simp)⟩
theorem tyLGroup_sp {P : Program} {N B : Nat} {w0 : World} {Q : Exit → Act → World → Prop} {L : List (Nat × Value)} {is : List It} {ops : Array Oper} {l : List Oper} {z : List Value} {x : DGroup} (h : ∀ _ : Unit, z = [.int .i64 x.Query, .int .i64 x.Value, .int .i64 x.Count, .int .i64 x.Sum] → WM P N B w0 ops Q l L (is)) : WM P N B w0 ops Q l L (iOwn tyLGroup z x :: is) := WM_split (γ := Unit) (js := fun _ => []) (C := fun _ => z = [.int .i64 x.Query, .int .i64 x.Value, .int .i64 x.Count, .int .i64 x.Sum]) (fun _ _ h => tyLGroup_split h) h
theorem tyLGroup_join {w : World} {L : List Nat} {x : DGroup} (h : Sep [] w L) : tyLGroup.own w L [.int .i64 x.Query, .int .i64 x.Value, .int .i64 x.Count, .int .i64 x.Sum] x := by
  cases (Sep.nil h)
  exact own_cast (T := tyLGroup) (cs := [.int .i64 x.Query, .int .i64 x.Value, .int .i64 x.Count, .int .i64 x.Sum]) (x := x) ⟨_, _, _, _, rfl, rfl, tInt_own, ⟨_, _, _, _, rfl, rfl, tInt_own, ⟨_, _, _, _, rfl, rfl, tInt_own, tInt_own⟩⟩⟩ (by simp)
theorem tyGroup_split {w : World} {L : List Nat} {cs : List Value} {x : DGroup} (h : tyGroup.own w L cs x) : ∃ _ : Unit, cs = [.int .i64 x.Query, .int .i64 x.Value, .int .i64 x.Count, .int .i64 x.Sum] ∧ Sep [] w L := by
  obtain ⟨_, _, _, _, rfl, rfl, ⟨rfl, _, rfl, rfl⟩, ⟨_, _, _, _, rfl, rfl, ⟨rfl, _, rfl, rfl⟩, ⟨_, _, _, _, rfl, rfl, ⟨rfl, _, rfl, rfl⟩, ⟨rfl, _, rfl, rfl⟩⟩⟩⟩ := h
  exact ⟨(), rfl, Sep.cast (rfl) (by simp)⟩
theorem tyGroup_sp {P : Program} {N B : Nat} {w0 : World} {Q : Exit → Act → World → Prop} {L : List (Nat × Value)} {is : List It} {ops : Array Oper} {l : List Oper} {z : List Value} {x : DGroup} (h : ∀ _ : Unit, z = [.int .i64 x.Query, .int .i64 x.Value, .int .i64 x.Count, .int .i64 x.Sum] → WM P N B w0 ops Q l L (is)) : WM P N B w0 ops Q l L (iOwn tyGroup z x :: is) := WM_split (γ := Unit) (js := fun _ => []) (C := fun _ => z = [.int .i64 x.Query, .int .i64 x.Value, .int .i64 x.Count, .int .i64 x.Sum]) (fun _ _ h => tyGroup_split h) h
theorem tyGroup_join {w : World} {L : List Nat} {x : DGroup} (h : Sep [] w L) : tyGroup.own w L [.int .i64 x.Query, .int .i64 x.Value, .int .i64 x.Count, .int .i64 x.Sum] x := by
  cases (Sep.nil h)
  exact own_cast (T := tyGroup) (cs := [.int .i64 x.Query, .int .i64 x.Value, .int .i64 x.Count, .int .i64 x.Sum]) (x := x) ⟨_, _, _, _, rfl, rfl, tInt_own, ⟨_, _, _, _, rfl, rfl, tInt_own, ⟨_, _, _, _, rfl, rfl, tInt_own, tInt_own⟩⟩⟩ (by simp)
def smCharge (B : Nat) (x : DCharge) : Prop := x.Ids.length ≤ B ∧ x.Tenants.length ≤ B ∧ x.Rows.length ≤ B
theorem tyLCharge_split {w : World} {L : List Nat} {cs : List Value} {x : DCharge} (h : tyLCharge.own w L cs x) : ∃ g : Value × Value × Value, cs = [.int .i64 x.Segment, .int .i64 x.Base, g.1, g.2.1, g.2.2] ∧ Sep [iOwn (tSl tInt 3) [g.1] x.Ids, iOwn (tSl tInt 3) [g.2.1] x.Tenants, iOwn (tSl tInt 3) [g.2.2] x.Rows] w L := by
  obtain ⟨_, _, _, _, rfl, rfl, ⟨rfl, _, rfl, rfl⟩, ⟨_, _, _, _, rfl, rfl, ⟨rfl, _, rfl, rfl⟩, ⟨_, _, _, _, rfl, rfl, ⟨v0, rfl, h0⟩, ⟨_, _, _, _, rfl, rfl, ⟨v1, rfl, h1⟩, ⟨v2, rfl, h2⟩⟩⟩⟩⟩ := h
  exact ⟨(v0, v1, v2), rfl, Sep.cast (⟨_, _, rfl, ⟨_, rfl, h0⟩, ⟨_, _, rfl, ⟨_, rfl, h1⟩, ⟨_, [], (List.append_nil _).symm, ⟨_, rfl, h2⟩, rfl⟩⟩⟩) (by simp)⟩
theorem tyLCharge_sp {P : Program} {N B : Nat} {w0 : World} {Q : Exit → Act → World → Prop} {L : List (Nat × Value)} {is : List It} {ops : Array Oper} {l : List Oper} {z : List Value} {x : DCharge} (h : ∀ g : Value × Value × Value, z = [.int .i64 x.Segment, .int .i64 x.Base, g.1, g.2.1, g.2.2] → WM P N B w0 ops Q l L (iOwn (tSl tInt 3) [g.1] x.Ids :: iOwn (tSl tInt 3) [g.2.1] x.Tenants :: iOwn (tSl tInt 3) [g.2.2] x.Rows :: is)) : WM P N B w0 ops Q l L (iOwn tyLCharge z x :: is) := WM_split (γ := Value × Value × Value) (js := fun g => [iOwn (tSl tInt 3) [g.1] x.Ids, iOwn (tSl tInt 3) [g.2.1] x.Tenants, iOwn (tSl tInt 3) [g.2.2] x.Rows]) (C := fun g => z = [.int .i64 x.Segment, .int .i64 x.Base, g.1, g.2.1, g.2.2]) (fun _ _ h => tyLCharge_split h) h
theorem tyLCharge_join {w : World} {L : List Nat} {x : DCharge} {v0 v1 v2 : Value} (h : Sep [iOwn (tSl tInt 3) [v0] x.Ids, iOwn (tSl tInt 3) [v1] x.Tenants, iOwn (tSl tInt 3) [v2] x.Rows] w L) : tyLCharge.own w L [.int .i64 x.Segment, .int .i64 x.Base, v0, v1, v2] x := by
  obtain ⟨L0, K0, rfl, h0, s0⟩ := Sep.cons h
  obtain ⟨L1, K1, rfl, h1, s1⟩ := Sep.cons s0
  obtain ⟨L2, K2, rfl, h2, s2⟩ := Sep.cons s1
  cases (Sep.nil s2)
  exact own_cast (T := tyLCharge) (cs := [.int .i64 x.Segment, .int .i64 x.Base, v0, v1, v2]) (x := x) ⟨_, _, _, _, rfl, rfl, tInt_own, ⟨_, _, _, _, rfl, rfl, tInt_own, ⟨_, _, _, _, rfl, rfl, h0, ⟨_, _, _, _, rfl, rfl, h1, h2⟩⟩⟩⟩ (by simp)
theorem tyCharge_split {w : World} {L : List Nat} {cs : List Value} {x : DCharge} (h : tyCharge.own w L cs x) : ∃ g : Value × Value × Value, cs = [.int .i64 x.Segment, .int .i64 x.Base, g.1, g.2.1, g.2.2] ∧ Sep [iOwn (tSl tInt 3) [g.1] x.Ids, iOwn (tSl tInt 3) [g.2.1] x.Tenants, iOwn (tSl tInt 3) [g.2.2] x.Rows] w L := by
  obtain ⟨_, _, _, _, rfl, rfl, ⟨rfl, _, rfl, rfl⟩, ⟨_, _, _, _, rfl, rfl, ⟨rfl, _, rfl, rfl⟩, ⟨_, _, _, _, rfl, rfl, ⟨v0, rfl, h0⟩, ⟨_, _, _, _, rfl, rfl, ⟨v1, rfl, h1⟩, ⟨v2, rfl, h2⟩⟩⟩⟩⟩ := h
  exact ⟨(v0, v1, v2), rfl, Sep.cast (⟨_, _, rfl, ⟨_, rfl, h0⟩, ⟨_, _, rfl, ⟨_, rfl, h1⟩, ⟨_, [], (List.append_nil _).symm, ⟨_, rfl, h2⟩, rfl⟩⟩⟩) (by simp)⟩
theorem tyCharge_sp {P : Program} {N B : Nat} {w0 : World} {Q : Exit → Act → World → Prop} {L : List (Nat × Value)} {is : List It} {ops : Array Oper} {l : List Oper} {z : List Value} {x : DCharge} (h : ∀ g : Value × Value × Value, z = [.int .i64 x.Segment, .int .i64 x.Base, g.1, g.2.1, g.2.2] → WM P N B w0 ops Q l L (iOwn (tSl tInt 3) [g.1] x.Ids :: iOwn (tSl tInt 3) [g.2.1] x.Tenants :: iOwn (tSl tInt 3) [g.2.2] x.Rows :: is)) : WM P N B w0 ops Q l L (iOwn tyCharge z x :: is) := WM_split (γ := Value × Value × Value) (js := fun g => [iOwn (tSl tInt 3) [g.1] x.Ids, iOwn (tSl tInt 3) [g.2.1] x.Tenants, iOwn (tSl tInt 3) [g.2.2] x.Rows]) (C := fun g => z = [.int .i64 x.Segment, .int .i64 x.Base, g.1, g.2.1, g.2.2]) (fun _ _ h => tyCharge_split h) h
theorem tyCharge_join {w : World} {L : List Nat} {x : DCharge} {v0 v1 v2 : Value} (h : Sep [iOwn (tSl tInt 3) [v0] x.Ids, iOwn (tSl tInt 3) [v1] x.Tenants, iOwn (tSl tInt 3) [v2] x.Rows] w L) : tyCharge.own w L [.int .i64 x.Segment, .int .i64 x.Base, v0, v1, v2] x := by
  obtain ⟨L0, K0, rfl, h0, s0⟩ := Sep.cons h
  obtain ⟨L1, K1, rfl, h1, s1⟩ := Sep.cons s0
  obtain ⟨L2, K2, rfl, h2, s2⟩ := Sep.cons s1
  cases (Sep.nil s2)
  exact own_cast (T := tyCharge) (cs := [.int .i64 x.Segment, .int .i64 x.Base, v0, v1, v2]) (x := x) ⟨_, _, _, _, rfl, rfl, tInt_own, ⟨_, _, _, _, rfl, rfl, tInt_own, ⟨_, _, _, _, rfl, rfl, h0, ⟨_, _, _, _, rfl, rfl, h1, h2⟩⟩⟩⟩ (by simp)
def smRow (B : Nat) (x : DRow) : Prop := x.Values.length ≤ B
theorem tyLRow_split {w : World} {L : List Nat} {cs : List Value} {x : DRow} (h : tyLRow.own w L cs x) : ∃ g : Value, cs = [.int .i64 x.Id, g] ∧ Sep [iOwn (tSl tInt 3) [g] x.Values] w L := by
  obtain ⟨_, _, _, _, rfl, rfl, ⟨rfl, _, rfl, rfl⟩, ⟨v0, rfl, h0⟩⟩ := h
  exact ⟨v0, rfl, Sep.cast (⟨_, [], (List.append_nil _).symm, ⟨_, rfl, h0⟩, rfl⟩) (by simp)⟩
theorem tyLRow_sp {P : Program} {N B : Nat} {w0 : World} {Q : Exit → Act → World → Prop} {L : List (Nat × Value)} {is : List It} {ops : Array Oper} {l : List Oper} {z : List Value} {x : DRow} (h : ∀ g : Value, z = [.int .i64 x.Id, g] → WM P N B w0 ops Q l L (iOwn (tSl tInt 3) [g] x.Values :: is)) : WM P N B w0 ops Q l L (iOwn tyLRow z x :: is) := WM_split (γ := Value) (js := fun g => [iOwn (tSl tInt 3) [g] x.Values]) (C := fun g => z = [.int .i64 x.Id, g]) (fun _ _ h => tyLRow_split h) h
theorem tyLRow_join {w : World} {L : List Nat} {x : DRow} {v0 : Value} (h : Sep [iOwn (tSl tInt 3) [v0] x.Values] w L) : tyLRow.own w L [.int .i64 x.Id, v0] x := by
  obtain ⟨L0, K0, rfl, h0, s0⟩ := Sep.cons h
  cases (Sep.nil s0)
  exact own_cast (T := tyLRow) (cs := [.int .i64 x.Id, v0]) (x := x) ⟨_, _, _, _, rfl, rfl, tInt_own, h0⟩ (by simp)
def smUpdate (B : Nat) (x : DUpdate) : Prop := smRow B x.Row
theorem tyLUpdate_split {w : World} {L : List Nat} {cs : List Value} {x : DUpdate} (h : tyLUpdate.own w L cs x) : ∃ g : Value, cs = [.int .i64 x.Kind, .int .i64 x.Row.Id, g, .int .i64 x.Field, .int .i64 x.Value] ∧ Sep [iOwn (tSl tInt 3) [g] x.Row.Values] w L := by
  obtain ⟨_, _, _, _, rfl, rfl, ⟨rfl, _, rfl, rfl⟩, ⟨_, _, _, _, rfl, rfl, ⟨_, _, _, _, rfl, rfl, ⟨rfl, _, rfl, rfl⟩, ⟨v0, rfl, h0⟩⟩, ⟨_, _, _, _, rfl, rfl, ⟨rfl, _, rfl, rfl⟩, ⟨rfl, _, rfl, rfl⟩⟩⟩⟩ := h
  exact ⟨v0, rfl, Sep.cast (⟨_, [], (List.append_nil _).symm, ⟨_, rfl, h0⟩, rfl⟩) (by simp)⟩
theorem tyLUpdate_sp {P : Program} {N B : Nat} {w0 : World} {Q : Exit → Act → World → Prop} {L : List (Nat × Value)} {is : List It} {ops : Array Oper} {l : List Oper} {z : List Value} {x : DUpdate} (h : ∀ g : Value, z = [.int .i64 x.Kind, .int .i64 x.Row.Id, g, .int .i64 x.Field, .int .i64 x.Value] → WM P N B w0 ops Q l L (iOwn (tSl tInt 3) [g] x.Row.Values :: is)) : WM P N B w0 ops Q l L (iOwn tyLUpdate z x :: is) := WM_split (γ := Value) (js := fun g => [iOwn (tSl tInt 3) [g] x.Row.Values]) (C := fun g => z = [.int .i64 x.Kind, .int .i64 x.Row.Id, g, .int .i64 x.Field, .int .i64 x.Value]) (fun _ _ h => tyLUpdate_split h) h
theorem tyLUpdate_join {w : World} {L : List Nat} {x : DUpdate} {v0 : Value} (h : Sep [iOwn (tSl tInt 3) [v0] x.Row.Values] w L) : tyLUpdate.own w L [.int .i64 x.Kind, .int .i64 x.Row.Id, v0, .int .i64 x.Field, .int .i64 x.Value] x := by
  obtain ⟨L0, K0, rfl, h0, s0⟩ := Sep.cons h
  cases (Sep.nil s0)
  exact own_cast (T := tyLUpdate) (cs := [.int .i64 x.Kind, .int .i64 x.Row.Id, v0, .int .i64 x.Field, .int .i64 x.Value]) (x := x) ⟨_, _, _, _, rfl, rfl, tInt_own, ⟨_, _, _, _, rfl, rfl, ⟨_, _, _, _, rfl, rfl, tInt_own, h0⟩, ⟨_, _, _, _, rfl, rfl, tInt_own, tInt_own⟩⟩⟩ (by simp)
theorem tyRow_split {w : World} {L : List Nat} {cs : List Value} {x : DRow} (h : tyRow.own w L cs x) : ∃ g : Value, cs = [.int .i64 x.Id, g] ∧ Sep [iOwn (tSl tInt 3) [g] x.Values] w L := by
  obtain ⟨_, _, _, _, rfl, rfl, ⟨rfl, _, rfl, rfl⟩, ⟨v0, rfl, h0⟩⟩ := h
  exact ⟨v0, rfl, Sep.cast (⟨_, [], (List.append_nil _).symm, ⟨_, rfl, h0⟩, rfl⟩) (by simp)⟩
theorem tyRow_sp {P : Program} {N B : Nat} {w0 : World} {Q : Exit → Act → World → Prop} {L : List (Nat × Value)} {is : List It} {ops : Array Oper} {l : List Oper} {z : List Value} {x : DRow} (h : ∀ g : Value, z = [.int .i64 x.Id, g] → WM P N B w0 ops Q l L (iOwn (tSl tInt 3) [g] x.Values :: is)) : WM P N B w0 ops Q l L (iOwn tyRow z x :: is) := WM_split (γ := Value) (js := fun g => [iOwn (tSl tInt 3) [g] x.Values]) (C := fun g => z = [.int .i64 x.Id, g]) (fun _ _ h => tyRow_split h) h
theorem tyRow_join {w : World} {L : List Nat} {x : DRow} {v0 : Value} (h : Sep [iOwn (tSl tInt 3) [v0] x.Values] w L) : tyRow.own w L [.int .i64 x.Id, v0] x := by
  obtain ⟨L0, K0, rfl, h0, s0⟩ := Sep.cons h
  cases (Sep.nil s0)
  exact own_cast (T := tyRow) (cs := [.int .i64 x.Id, v0]) (x := x) ⟨_, _, _, _, rfl, rfl, tInt_own, h0⟩ (by simp)
theorem tyUpdate_split {w : World} {L : List Nat} {cs : List Value} {x : DUpdate} (h : tyUpdate.own w L cs x) : ∃ g : Value, cs = [.int .i64 x.Kind, .int .i64 x.Row.Id, g, .int .i64 x.Field, .int .i64 x.Value] ∧ Sep [iOwn (tSl tInt 3) [g] x.Row.Values] w L := by
  obtain ⟨_, _, _, _, rfl, rfl, ⟨rfl, _, rfl, rfl⟩, ⟨_, _, _, _, rfl, rfl, ⟨_, _, _, _, rfl, rfl, ⟨rfl, _, rfl, rfl⟩, ⟨v0, rfl, h0⟩⟩, ⟨_, _, _, _, rfl, rfl, ⟨rfl, _, rfl, rfl⟩, ⟨rfl, _, rfl, rfl⟩⟩⟩⟩ := h
  exact ⟨v0, rfl, Sep.cast (⟨_, [], (List.append_nil _).symm, ⟨_, rfl, h0⟩, rfl⟩) (by simp)⟩
theorem tyUpdate_sp {P : Program} {N B : Nat} {w0 : World} {Q : Exit → Act → World → Prop} {L : List (Nat × Value)} {is : List It} {ops : Array Oper} {l : List Oper} {z : List Value} {x : DUpdate} (h : ∀ g : Value, z = [.int .i64 x.Kind, .int .i64 x.Row.Id, g, .int .i64 x.Field, .int .i64 x.Value] → WM P N B w0 ops Q l L (iOwn (tSl tInt 3) [g] x.Row.Values :: is)) : WM P N B w0 ops Q l L (iOwn tyUpdate z x :: is) := WM_split (γ := Value) (js := fun g => [iOwn (tSl tInt 3) [g] x.Row.Values]) (C := fun g => z = [.int .i64 x.Kind, .int .i64 x.Row.Id, g, .int .i64 x.Field, .int .i64 x.Value]) (fun _ _ h => tyUpdate_split h) h
theorem tyUpdate_join {w : World} {L : List Nat} {x : DUpdate} {v0 : Value} (h : Sep [iOwn (tSl tInt 3) [v0] x.Row.Values] w L) : tyUpdate.own w L [.int .i64 x.Kind, .int .i64 x.Row.Id, v0, .int .i64 x.Field, .int .i64 x.Value] x := by
  obtain ⟨L0, K0, rfl, h0, s0⟩ := Sep.cons h
  cases (Sep.nil s0)
  exact own_cast (T := tyUpdate) (cs := [.int .i64 x.Kind, .int .i64 x.Row.Id, v0, .int .i64 x.Field, .int .i64 x.Value]) (x := x) ⟨_, _, _, _, rfl, rfl, tInt_own, ⟨_, _, _, _, rfl, rfl, ⟨_, _, _, _, rfl, rfl, tInt_own, h0⟩, ⟨_, _, _, _, rfl, rfl, tInt_own, tInt_own⟩⟩⟩ (by simp)
def smAnnotated (B : Nat) (x : DAnnotated) : Prop := smRow B x.Row ∧ x.Set.length ≤ B
theorem tyAnnotated_split {w : World} {L : List Nat} {cs : List Value} {x : DAnnotated} (h : tyAnnotated.own w L cs x) : ∃ g : Value × Value, cs = [.int .i64 x.Row.Id, g.1, g.2] ∧ Sep [iOwn (tSl tInt 3) [g.1] x.Row.Values, iOwn (tSl tInt 3) [g.2] x.Set] w L := by
  obtain ⟨_, _, _, _, rfl, rfl, ⟨_, _, _, _, rfl, rfl, ⟨rfl, _, rfl, rfl⟩, ⟨v0, rfl, h0⟩⟩, ⟨v1, rfl, h1⟩⟩ := h
  exact ⟨(v0, v1), rfl, Sep.cast (⟨_, _, rfl, ⟨_, rfl, h0⟩, ⟨_, [], (List.append_nil _).symm, ⟨_, rfl, h1⟩, rfl⟩⟩) (by simp)⟩
theorem tyAnnotated_sp {P : Program} {N B : Nat} {w0 : World} {Q : Exit → Act → World → Prop} {L : List (Nat × Value)} {is : List It} {ops : Array Oper} {l : List Oper} {z : List Value} {x : DAnnotated} (h : ∀ g : Value × Value, z = [.int .i64 x.Row.Id, g.1, g.2] → WM P N B w0 ops Q l L (iOwn (tSl tInt 3) [g.1] x.Row.Values :: iOwn (tSl tInt 3) [g.2] x.Set :: is)) : WM P N B w0 ops Q l L (iOwn tyAnnotated z x :: is) := WM_split (γ := Value × Value) (js := fun g => [iOwn (tSl tInt 3) [g.1] x.Row.Values, iOwn (tSl tInt 3) [g.2] x.Set]) (C := fun g => z = [.int .i64 x.Row.Id, g.1, g.2]) (fun _ _ h => tyAnnotated_split h) h
theorem tyAnnotated_join {w : World} {L : List Nat} {x : DAnnotated} {v0 v1 : Value} (h : Sep [iOwn (tSl tInt 3) [v0] x.Row.Values, iOwn (tSl tInt 3) [v1] x.Set] w L) : tyAnnotated.own w L [.int .i64 x.Row.Id, v0, v1] x := by
  obtain ⟨L0, K0, rfl, h0, s0⟩ := Sep.cons h
  obtain ⟨L1, K1, rfl, h1, s1⟩ := Sep.cons s0
  cases (Sep.nil s1)
  exact own_cast (T := tyAnnotated) (cs := [.int .i64 x.Row.Id, v0, v1]) (x := x) ⟨_, _, _, _, rfl, rfl, ⟨_, _, _, _, rfl, rfl, tInt_own, h0⟩, h1⟩ (by simp)
theorem tyCond_split {w : World} {L : List Nat} {cs : List Value} {x : DCond} (h : tyCond.own w L cs x) : ∃ _ : Unit, cs = [.int .i64 x.Field, .int .i64 x.Low, .int .i64 x.High] ∧ Sep [] w L := by
  obtain ⟨_, _, _, _, rfl, rfl, ⟨rfl, _, rfl, rfl⟩, ⟨_, _, _, _, rfl, rfl, ⟨rfl, _, rfl, rfl⟩, ⟨rfl, _, rfl, rfl⟩⟩⟩ := h
  exact ⟨(), rfl, Sep.cast (rfl) (by simp)⟩
theorem tyCond_sp {P : Program} {N B : Nat} {w0 : World} {Q : Exit → Act → World → Prop} {L : List (Nat × Value)} {is : List It} {ops : Array Oper} {l : List Oper} {z : List Value} {x : DCond} (h : ∀ _ : Unit, z = [.int .i64 x.Field, .int .i64 x.Low, .int .i64 x.High] → WM P N B w0 ops Q l L (is)) : WM P N B w0 ops Q l L (iOwn tyCond z x :: is) := WM_split (γ := Unit) (js := fun _ => []) (C := fun _ => z = [.int .i64 x.Field, .int .i64 x.Low, .int .i64 x.High]) (fun _ _ h => tyCond_split h) h
theorem tyCond_join {w : World} {L : List Nat} {x : DCond} (h : Sep [] w L) : tyCond.own w L [.int .i64 x.Field, .int .i64 x.Low, .int .i64 x.High] x := by
  cases (Sep.nil h)
  exact own_cast (T := tyCond) (cs := [.int .i64 x.Field, .int .i64 x.Low, .int .i64 x.High]) (x := x) ⟨_, _, _, _, rfl, rfl, tInt_own, ⟨_, _, _, _, rfl, rfl, tInt_own, tInt_own⟩⟩ (by simp)
def smQuery (B : Nat) (x : DQuery) : Prop := x.Conds.length ≤ B ∧ x.Out.length ≤ B
theorem tyQuery_split {w : World} {L : List Nat} {cs : List Value} {x : DQuery} (h : tyQuery.own w L cs x) : ∃ g : Value × Value, cs = [.int .i64 x.Id, .int .i64 x.Tenant, g.1, g.2] ∧ Sep [iOwn (tSl tyCond 165) [g.1] x.Conds, iOwn (tSl tInt 3) [g.2] x.Out] w L := by
  obtain ⟨_, _, _, _, rfl, rfl, ⟨rfl, _, rfl, rfl⟩, ⟨_, _, _, _, rfl, rfl, ⟨rfl, _, rfl, rfl⟩, ⟨_, _, _, _, rfl, rfl, ⟨v0, rfl, h0⟩, ⟨v1, rfl, h1⟩⟩⟩⟩ := h
  exact ⟨(v0, v1), rfl, Sep.cast (⟨_, _, rfl, ⟨_, rfl, h0⟩, ⟨_, [], (List.append_nil _).symm, ⟨_, rfl, h1⟩, rfl⟩⟩) (by simp)⟩
theorem tyQuery_sp {P : Program} {N B : Nat} {w0 : World} {Q : Exit → Act → World → Prop} {L : List (Nat × Value)} {is : List It} {ops : Array Oper} {l : List Oper} {z : List Value} {x : DQuery} (h : ∀ g : Value × Value, z = [.int .i64 x.Id, .int .i64 x.Tenant, g.1, g.2] → WM P N B w0 ops Q l L (iOwn (tSl tyCond 165) [g.1] x.Conds :: iOwn (tSl tInt 3) [g.2] x.Out :: is)) : WM P N B w0 ops Q l L (iOwn tyQuery z x :: is) := WM_split (γ := Value × Value) (js := fun g => [iOwn (tSl tyCond 165) [g.1] x.Conds, iOwn (tSl tInt 3) [g.2] x.Out]) (C := fun g => z = [.int .i64 x.Id, .int .i64 x.Tenant, g.1, g.2]) (fun _ _ h => tyQuery_split h) h
theorem tyQuery_join {w : World} {L : List Nat} {x : DQuery} {v0 v1 : Value} (h : Sep [iOwn (tSl tyCond 165) [v0] x.Conds, iOwn (tSl tInt 3) [v1] x.Out] w L) : tyQuery.own w L [.int .i64 x.Id, .int .i64 x.Tenant, v0, v1] x := by
  obtain ⟨L0, K0, rfl, h0, s0⟩ := Sep.cons h
  obtain ⟨L1, K1, rfl, h1, s1⟩ := Sep.cons s0
  cases (Sep.nil s1)
  exact own_cast (T := tyQuery) (cs := [.int .i64 x.Id, .int .i64 x.Tenant, v0, v1]) (x := x) ⟨_, _, _, _, rfl, rfl, tInt_own, ⟨_, _, _, _, rfl, rfl, tInt_own, ⟨_, _, _, _, rfl, rfl, h0, h1⟩⟩⟩ (by simp)
def smSpan (B : Nat) (x : DSpan) : Prop := x.Set.length ≤ B
theorem tySpan_split {w : World} {L : List Nat} {cs : List Value} {x : DSpan} (h : tySpan.own w L cs x) : ∃ g : Value, cs = [.int .i64 x.From, .int .i64 x.To, g] ∧ Sep [iOwn (tSl tInt 3) [g] x.Set] w L := by
  obtain ⟨_, _, _, _, rfl, rfl, ⟨rfl, _, rfl, rfl⟩, ⟨_, _, _, _, rfl, rfl, ⟨rfl, _, rfl, rfl⟩, ⟨v0, rfl, h0⟩⟩⟩ := h
  exact ⟨v0, rfl, Sep.cast (⟨_, [], (List.append_nil _).symm, ⟨_, rfl, h0⟩, rfl⟩) (by simp)⟩
theorem tySpan_sp {P : Program} {N B : Nat} {w0 : World} {Q : Exit → Act → World → Prop} {L : List (Nat × Value)} {is : List It} {ops : Array Oper} {l : List Oper} {z : List Value} {x : DSpan} (h : ∀ g : Value, z = [.int .i64 x.From, .int .i64 x.To, g] → WM P N B w0 ops Q l L (iOwn (tSl tInt 3) [g] x.Set :: is)) : WM P N B w0 ops Q l L (iOwn tySpan z x :: is) := WM_split (γ := Value) (js := fun g => [iOwn (tSl tInt 3) [g] x.Set]) (C := fun g => z = [.int .i64 x.From, .int .i64 x.To, g]) (fun _ _ h => tySpan_split h) h
theorem tySpan_join {w : World} {L : List Nat} {x : DSpan} {v0 : Value} (h : Sep [iOwn (tSl tInt 3) [v0] x.Set] w L) : tySpan.own w L [.int .i64 x.From, .int .i64 x.To, v0] x := by
  obtain ⟨L0, K0, rfl, h0, s0⟩ := Sep.cons h
  cases (Sep.nil s0)
  exact own_cast (T := tySpan) (cs := [.int .i64 x.From, .int .i64 x.To, v0]) (x := x) ⟨_, _, _, _, rfl, rfl, tInt_own, ⟨_, _, _, _, rfl, rfl, tInt_own, h0⟩⟩ (by simp)
def smIndex (B : Nat) (x : DIndex) : Prop := (x.Queries.length ≤ B ∧ ∀ y ∈ x.Queries, smQuery B y) ∧ (x.Fields.length ≤ B ∧ ∀ y ∈ x.Fields, (y.length ≤ B ∧ ∀ y1 ∈ y, smSpan B y1))
theorem tyIndex_split {w : World} {L : List Nat} {cs : List Value} {x : DIndex} (h : tyIndex.own w L cs x) : ∃ g : Value × Value, cs = [g.1, g.2] ∧ Sep [iOwn (tSl tyQuery 150) [g.1] x.Queries, iOwn (tSl (tSl tySpan 173) 156) [g.2] x.Fields] w L := by
  obtain ⟨_, _, _, _, rfl, rfl, ⟨v0, rfl, h0⟩, ⟨v1, rfl, h1⟩⟩ := h
  exact ⟨(v0, v1), rfl, Sep.cast (⟨_, _, rfl, ⟨_, rfl, h0⟩, ⟨_, [], (List.append_nil _).symm, ⟨_, rfl, h1⟩, rfl⟩⟩) (by simp)⟩
theorem tyIndex_sp {P : Program} {N B : Nat} {w0 : World} {Q : Exit → Act → World → Prop} {L : List (Nat × Value)} {is : List It} {ops : Array Oper} {l : List Oper} {z : List Value} {x : DIndex} (h : ∀ g : Value × Value, z = [g.1, g.2] → WM P N B w0 ops Q l L (iOwn (tSl tyQuery 150) [g.1] x.Queries :: iOwn (tSl (tSl tySpan 173) 156) [g.2] x.Fields :: is)) : WM P N B w0 ops Q l L (iOwn tyIndex z x :: is) := WM_split (γ := Value × Value) (js := fun g => [iOwn (tSl tyQuery 150) [g.1] x.Queries, iOwn (tSl (tSl tySpan 173) 156) [g.2] x.Fields]) (C := fun g => z = [g.1, g.2]) (fun _ _ h => tyIndex_split h) h
theorem tyIndex_join {w : World} {L : List Nat} {x : DIndex} {v0 v1 : Value} (h : Sep [iOwn (tSl tyQuery 150) [v0] x.Queries, iOwn (tSl (tSl tySpan 173) 156) [v1] x.Fields] w L) : tyIndex.own w L [v0, v1] x := by
  obtain ⟨L0, K0, rfl, h0, s0⟩ := Sep.cons h
  obtain ⟨L1, K1, rfl, h1, s1⟩ := Sep.cons s0
  cases (Sep.nil s1)
  exact own_cast (T := tyIndex) (cs := [v0, v1]) (x := x) ⟨_, _, _, _, rfl, rfl, h0, h1⟩ (by simp)
end Go.Proofs.YtcjelfdpekbbkaaDoor
