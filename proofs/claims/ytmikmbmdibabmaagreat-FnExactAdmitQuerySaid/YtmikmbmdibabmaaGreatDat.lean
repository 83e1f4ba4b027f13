/-
  The data of the program as structures, and how they lie in memory.
-/
import Derived.Test.YtmikmbmdibabmaaGreatVcS
import Derived.Test.YtmikmbmdibabmaaGreatVcP
import Derived.Test.YtmikmbmdibabmaaGreatVcX
import Derived.Test.YtmikmbmdibabmaaGreatVcY
namespace Go.Proofs.YtmikmbmdibabmaaGreat
open Go.RowKit
structure DVersion where
  Id : Int
  Values : (List Int)
  Born : Int
  Died : Int
instance : Inhabited DVersion := ⟨⟨default, default, default, default⟩⟩
def tyLVersion : Ty DVersion := tMap (tPair tInt (tPair (tSl tInt 3) (tPair tInt tInt))) (fun x => (x.Id, x.Values, x.Born, x.Died))
theorem tyLVersion_rd {w : World} {B : Nat} {cs : List Value} {x : DVersion} (h : tyLVersion.rd w B cs x) : ∃ v0, cs = [.int .i64 x.Id, v0, .int .i64 x.Born, .int .i64 x.Died] ∧ rdS tInt w B v0 x.Values := by
  obtain ⟨_, _, rfl, ⟨_, rfl, rfl⟩, ⟨_, _, rfl, ⟨v0, rfl, h0⟩, ⟨_, _, rfl, ⟨_, rfl, rfl⟩, ⟨_, rfl, rfl⟩⟩⟩⟩ := h
  exact ⟨v0, rfl, h0⟩
theorem tyLVersion_mk {w : World} {B : Nat} {x : DVersion} {v0 : Value} (h0 : rdS tInt w B v0 x.Values) : tyLVersion.rd w B [.int .i64 x.Id, v0, .int .i64 x.Born, .int .i64 x.Died] x := ⟨_, _, rfl, ⟨_, rfl, rfl⟩, ⟨_, _, rfl, ⟨_, rfl, h0⟩, ⟨_, _, rfl, ⟨_, rfl, rfl⟩, ⟨_, rfl, rfl⟩⟩⟩⟩
structure DStore where
  Segments : (List (List DVersion))
  Now : Int
instance : Inhabited DStore := ⟨⟨default, default⟩⟩
def tyLStore : Ty DStore := tMap (tPair (tSl (tSl tyLVersion 239) 219) tInt) (fun x => (x.Segments, x.Now))
theorem tyLStore_rd {w : World} {B : Nat} {cs : List Value} {x : DStore} (h : tyLStore.rd w B cs x) : ∃ v0, cs = [v0, .int .i64 x.Now] ∧ rdS (tSl tyLVersion 239) w B v0 x.Segments := by
  obtain ⟨_, _, rfl, ⟨v0, rfl, h0⟩, ⟨_, rfl, rfl⟩⟩ := h
  exact ⟨v0, rfl, h0⟩
theorem tyLStore_mk {w : World} {B : Nat} {x : DStore} {v0 : Value} (h0 : rdS (tSl tyLVersion 239) w B v0 x.Segments) : tyLStore.rd w B [v0, .int .i64 x.Now] x := ⟨_, _, rfl, ⟨_, rfl, h0⟩, ⟨_, rfl, rfl⟩⟩
structure DCond where
  Field : Int
  Low : Int
  High : Int
instance : Inhabited DCond := ⟨⟨default, default, default⟩⟩
def tyLCond : Ty DCond := tMap (tPair tInt (tPair tInt tInt)) (fun x => (x.Field, x.Low, x.High))
theorem tyLCond_rd {w : World} {B : Nat} {cs : List Value} {x : DCond} (h : tyLCond.rd w B cs x) : cs = [.int .i64 x.Field, .int .i64 x.Low, .int .i64 x.High] := by
  obtain ⟨_, _, rfl, ⟨_, rfl, rfl⟩, ⟨_, _, rfl, ⟨_, rfl, rfl⟩, ⟨_, rfl, rfl⟩⟩⟩ := h
  exact rfl
theorem tyLCond_mk {w : World} {B : Nat} {x : DCond} : tyLCond.rd w B [.int .i64 x.Field, .int .i64 x.Low, .int .i64 x.High] x := ⟨_, _, rfl, ⟨_, rfl, rfl⟩, ⟨_, _, rfl, ⟨_, rfl, rfl⟩, ⟨_, rfl, rfl⟩⟩⟩
structure DQuery where
  Id : Int
  Tenant : Int
  Conds : (List DCond)
  Out : (List Int)
instance : Inhabited DQuery := ⟨⟨default, default, default, default⟩⟩
def tyLQuery : Ty DQuery := tMap (tPair tInt (tPair tInt (tPair (tSl tyLCond 215) (tSl tInt 3)))) (fun x => (x.Id, x.Tenant, x.Conds, x.Out))
theorem tyLQuery_rd {w : World} {B : Nat} {cs : List Value} {x : DQuery} (h : tyLQuery.rd w B cs x) : ∃ v0 v1, cs = [.int .i64 x.Id, .int .i64 x.Tenant, v0, v1] ∧ rdS tyLCond w B v0 x.Conds ∧ rdS tInt w B v1 x.Out := by
  obtain ⟨_, _, rfl, ⟨_, rfl, rfl⟩, ⟨_, _, rfl, ⟨_, rfl, rfl⟩, ⟨_, _, rfl, ⟨v0, rfl, h0⟩, ⟨v1, rfl, h1⟩⟩⟩⟩ := h
  exact ⟨v0, v1, rfl, h0, h1⟩
theorem tyLQuery_mk {w : World} {B : Nat} {x : DQuery} {v0 v1 : Value} (h0 : rdS tyLCond w B v0 x.Conds) (h1 : rdS tInt w B v1 x.Out) : tyLQuery.rd w B [.int .i64 x.Id, .int .i64 x.Tenant, v0, v1] x := ⟨_, _, rfl, ⟨_, rfl, rfl⟩, ⟨_, _, rfl, ⟨_, rfl, rfl⟩, ⟨_, _, rfl, ⟨_, rfl, h0⟩, ⟨_, rfl, h1⟩⟩⟩⟩
structure DRow where
  Id : Int
  Values : (List Int)
instance : Inhabited DRow := ⟨⟨default, default⟩⟩
def tyLRow : Ty DRow := tMap (tPair tInt (tSl tInt 3)) (fun x => (x.Id, x.Values))
theorem tyLRow_rd {w : World} {B : Nat} {cs : List Value} {x : DRow} (h : tyLRow.rd w B cs x) : ∃ v0, cs = [.int .i64 x.Id, v0] ∧ rdS tInt w B v0 x.Values := by
  obtain ⟨_, _, rfl, ⟨_, rfl, rfl⟩, ⟨v0, rfl, h0⟩⟩ := h
  exact ⟨v0, rfl, h0⟩
theorem tyLRow_mk {w : World} {B : Nat} {x : DRow} {v0 : Value} (h0 : rdS tInt w B v0 x.Values) : tyLRow.rd w B [.int .i64 x.Id, v0] x := ⟨_, _, rfl, ⟨_, rfl, rfl⟩, ⟨_, rfl, h0⟩⟩
structure DActive where
  Query : DQuery
  Time : Int
  Todo : (List Int)
  Age : Int
  Sent : Int
  Cap : Int
  Rows : (List DRow)
instance : Inhabited DActive := ⟨⟨default, default, default, default, default, default, default⟩⟩
def tyLActive : Ty DActive := tMap (tPair tyLQuery (tPair tInt (tPair (tSl tInt 3) (tPair tInt (tPair tInt (tPair tInt (tSl tyLRow 93))))))) (fun x => (x.Query, x.Time, x.Todo, x.Age, x.Sent, x.Cap, x.Rows))
theorem tyLActive_rd {w : World} {B : Nat} {cs : List Value} {x : DActive} (h : tyLActive.rd w B cs x) : ∃ v0 v1 v2 v3, cs = [.int .i64 x.Query.Id, .int .i64 x.Query.Tenant, v0, v1, .int .i64 x.Time, v2, .int .i64 x.Age, .int .i64 x.Sent, .int .i64 x.Cap, v3] ∧ rdS tyLCond w B v0 x.Query.Conds ∧ rdS tInt w B v1 x.Query.Out ∧ rdS tInt w B v2 x.Todo ∧ rdS tyLRow w B v3 x.Rows := by
  obtain ⟨_, _, rfl, ⟨_, _, rfl, ⟨_, rfl, rfl⟩, ⟨_, _, rfl, ⟨_, rfl, rfl⟩, ⟨_, _, rfl, ⟨v0, rfl, h0⟩, ⟨v1, rfl, h1⟩⟩⟩⟩, ⟨_, _, rfl, ⟨_, rfl, rfl⟩, ⟨_, _, rfl, ⟨v2, rfl, h2⟩, ⟨_, _, rfl, ⟨_, rfl, rfl⟩, ⟨_, _, rfl, ⟨_, rfl, rfl⟩, ⟨_, _, rfl, ⟨_, rfl, rfl⟩, ⟨v3, rfl, h3⟩⟩⟩⟩⟩⟩⟩ := h
  exact ⟨v0, v1, v2, v3, rfl, h0, h1, h2, h3⟩
theorem tyLActive_mk {w : World} {B : Nat} {x : DActive} {v0 v1 v2 v3 : Value} (h0 : rdS tyLCond w B v0 x.Query.Conds) (h1 : rdS tInt w B v1 x.Query.Out) (h2 : rdS tInt w B v2 x.Todo) (h3 : rdS tyLRow w B v3 x.Rows) : tyLActive.rd w B [.int .i64 x.Query.Id, .int .i64 x.Query.Tenant, v0, v1, .int .i64 x.Time, v2, .int .i64 x.Age, .int .i64 x.Sent, .int .i64 x.Cap, v3] x := ⟨_, _, rfl, ⟨_, _, rfl, ⟨_, rfl, rfl⟩, ⟨_, _, rfl, ⟨_, rfl, rfl⟩, ⟨_, _, rfl, ⟨_, rfl, h0⟩, ⟨_, rfl, h1⟩⟩⟩⟩, ⟨_, _, rfl, ⟨_, rfl, rfl⟩, ⟨_, _, rfl, ⟨_, rfl, h2⟩, ⟨_, _, rfl, ⟨_, rfl, rfl⟩, ⟨_, _, rfl, ⟨_, rfl, rfl⟩, ⟨_, _, rfl, ⟨_, rfl, rfl⟩, ⟨_, rfl, h3⟩⟩⟩⟩⟩⟩⟩
structure DFinished where
  Query : DQuery
  Time : Int
  Steps : Int
  Rows : (List DRow)
instance : Inhabited DFinished := ⟨⟨default, default, default, default⟩⟩
def tyLFinished : Ty DFinished := tMap (tPair tyLQuery (tPair tInt (tPair tInt (tSl tyLRow 93)))) (fun x => (x.Query, x.Time, x.Steps, x.Rows))
theorem tyLFinished_rd {w : World} {B : Nat} {cs : List Value} {x : DFinished} (h : tyLFinished.rd w B cs x) : ∃ v0 v1 v2, cs = [.int .i64 x.Query.Id, .int .i64 x.Query.Tenant, v0, v1, .int .i64 x.Time, .int .i64 x.Steps, v2] ∧ rdS tyLCond w B v0 x.Query.Conds ∧ rdS tInt w B v1 x.Query.Out ∧ rdS tyLRow w B v2 x.Rows := by
  obtain ⟨_, _, rfl, ⟨_, _, rfl, ⟨_, rfl, rfl⟩, ⟨_, _, rfl, ⟨_, rfl, rfl⟩, ⟨_, _, rfl, ⟨v0, rfl, h0⟩, ⟨v1, rfl, h1⟩⟩⟩⟩, ⟨_, _, rfl, ⟨_, rfl, rfl⟩, ⟨_, _, rfl, ⟨_, rfl, rfl⟩, ⟨v2, rfl, h2⟩⟩⟩⟩ := h
  exact ⟨v0, v1, v2, rfl, h0, h1, h2⟩
theorem tyLFinished_mk {w : World} {B : Nat} {x : DFinished} {v0 v1 v2 : Value} (h0 : rdS tyLCond w B v0 x.Query.Conds) (h1 : rdS tInt w B v1 x.Query.Out) (h2 : rdS tyLRow w B v2 x.Rows) : tyLFinished.rd w B [.int .i64 x.Query.Id, .int .i64 x.Query.Tenant, v0, v1, .int .i64 x.Time, .int .i64 x.Steps, v2] x := ⟨_, _, rfl, ⟨_, _, rfl, ⟨_, rfl, rfl⟩, ⟨_, _, rfl, ⟨_, rfl, rfl⟩, ⟨_, _, rfl, ⟨_, rfl, h0⟩, ⟨_, rfl, h1⟩⟩⟩⟩, ⟨_, _, rfl, ⟨_, rfl, rfl⟩, ⟨_, _, rfl, ⟨_, rfl, rfl⟩, ⟨_, rfl, h2⟩⟩⟩⟩
structure DCharge where
  Segment : Int
  Base : Int
  Ids : (List Int)
  Tenants : (List Int)
  Rows : (List Int)
instance : Inhabited DCharge := ⟨⟨default, default, default, default, default⟩⟩
def tyLCharge : Ty DCharge := tMap (tPair tInt (tPair tInt (tPair (tSl tInt 3) (tPair (tSl tInt 3) (tSl tInt 3))))) (fun x => (x.Segment, x.Base, x.Ids, x.Tenants, x.Rows))
theorem tyLCharge_rd {w : World} {B : Nat} {cs : List Value} {x : DCharge} (h : tyLCharge.rd w B cs x) : ∃ v0 v1 v2, cs = [.int .i64 x.Segment, .int .i64 x.Base, v0, v1, v2] ∧ rdS tInt w B v0 x.Ids ∧ rdS tInt w B v1 x.Tenants ∧ rdS tInt w B v2 x.Rows := by
  obtain ⟨_, _, rfl, ⟨_, rfl, rfl⟩, ⟨_, _, rfl, ⟨_, rfl, rfl⟩, ⟨_, _, rfl, ⟨v0, rfl, h0⟩, ⟨_, _, rfl, ⟨v1, rfl, h1⟩, ⟨v2, rfl, h2⟩⟩⟩⟩⟩ := h
  exact ⟨v0, v1, v2, rfl, h0, h1, h2⟩
theorem tyLCharge_mk {w : World} {B : Nat} {x : DCharge} {v0 v1 v2 : Value} (h0 : rdS tInt w B v0 x.Ids) (h1 : rdS tInt w B v1 x.Tenants) (h2 : rdS tInt w B v2 x.Rows) : tyLCharge.rd w B [.int .i64 x.Segment, .int .i64 x.Base, v0, v1, v2] x := ⟨_, _, rfl, ⟨_, rfl, rfl⟩, ⟨_, _, rfl, ⟨_, rfl, rfl⟩, ⟨_, _, rfl, ⟨_, rfl, h0⟩, ⟨_, _, rfl, ⟨_, rfl, h1⟩, ⟨_, rfl, h2⟩⟩⟩⟩⟩
structure DEngine where
  Store : DStore
  Cursor : Int
  Order : (List Int)
  Active : (List DActive)
  Done : (List DFinished)
  Ledger : (List DCharge)
  Steps : Int
instance : Inhabited DEngine := ⟨⟨default, default, default, default, default, default, default⟩⟩
def tyLEngine : Ty DEngine := tMap (tPair tyLStore (tPair tInt (tPair (tSl tInt 3) (tPair (tSl tyLActive 171) (tPair (tSl tyLFinished 174) (tPair (tSl tyLCharge 176) tInt)))))) (fun x => (x.Store, x.Cursor, x.Order, x.Active, x.Done, x.Ledger, x.Steps))
theorem tyLEngine_rd {w : World} {B : Nat} {cs : List Value} {x : DEngine} (h : tyLEngine.rd w B cs x) : ∃ v0 v1 v2 v3 v4, cs = [v0, .int .i64 x.Store.Now, .int .i64 x.Cursor, v1, v2, v3, v4, .int .i64 x.Steps] ∧ rdS (tSl tyLVersion 239) w B v0 x.Store.Segments ∧ rdS tInt w B v1 x.Order ∧ rdS tyLActive w B v2 x.Active ∧ rdS tyLFinished w B v3 x.Done ∧ rdS tyLCharge w B v4 x.Ledger := by
  obtain ⟨_, _, rfl, ⟨_, _, rfl, ⟨v0, rfl, h0⟩, ⟨_, rfl, rfl⟩⟩, ⟨_, _, rfl, ⟨_, rfl, rfl⟩, ⟨_, _, rfl, ⟨v1, rfl, h1⟩, ⟨_, _, rfl, ⟨v2, rfl, h2⟩, ⟨_, _, rfl, ⟨v3, rfl, h3⟩, ⟨_, _, rfl, ⟨v4, rfl, h4⟩, ⟨_, rfl, rfl⟩⟩⟩⟩⟩⟩⟩ := h
  exact ⟨v0, v1, v2, v3, v4, rfl, h0, h1, h2, h3, h4⟩
theorem tyLEngine_mk {w : World} {B : Nat} {x : DEngine} {v0 v1 v2 v3 v4 : Value} (h0 : rdS (tSl tyLVersion 239) w B v0 x.Store.Segments) (h1 : rdS tInt w B v1 x.Order) (h2 : rdS tyLActive w B v2 x.Active) (h3 : rdS tyLFinished w B v3 x.Done) (h4 : rdS tyLCharge w B v4 x.Ledger) : tyLEngine.rd w B [v0, .int .i64 x.Store.Now, .int .i64 x.Cursor, v1, v2, v3, v4, .int .i64 x.Steps] x := ⟨_, _, rfl, ⟨_, _, rfl, ⟨_, rfl, h0⟩, ⟨_, rfl, rfl⟩⟩, ⟨_, _, rfl, ⟨_, rfl, rfl⟩, ⟨_, _, rfl, ⟨_, rfl, h1⟩, ⟨_, _, rfl, ⟨_, rfl, h2⟩, ⟨_, _, rfl, ⟨_, rfl, h3⟩, ⟨_, _, rfl, ⟨_, rfl, h4⟩, ⟨_, rfl, rfl⟩⟩⟩⟩⟩⟩⟩
def tyCond : Ty DCond := tMap (tPair tInt (tPair tInt tInt)) (fun x => (x.Field, x.Low, x.High))
theorem tyCond_rd {w : World} {B : Nat} {cs : List Value} {x : DCond} (h : tyCond.rd w B cs x) : cs = [.int .i64 x.Field, .int .i64 x.Low, .int .i64 x.High] := by
  obtain ⟨_, _, rfl, ⟨_, rfl, rfl⟩, ⟨_, _, rfl, ⟨_, rfl, rfl⟩, ⟨_, rfl, rfl⟩⟩⟩ := h
  exact rfl
theorem tyCond_mk {w : World} {B : Nat} {x : DCond} : tyCond.rd w B [.int .i64 x.Field, .int .i64 x.Low, .int .i64 x.High] x := ⟨_, _, rfl, ⟨_, rfl, rfl⟩, ⟨_, _, rfl, ⟨_, rfl, rfl⟩, ⟨_, rfl, rfl⟩⟩⟩
def tyQuery : Ty DQuery := tMap (tPair tInt (tPair tInt (tPair (tSl tyCond 201) (tSl tInt 3)))) (fun x => (x.Id, x.Tenant, x.Conds, x.Out))
theorem tyQuery_rd {w : World} {B : Nat} {cs : List Value} {x : DQuery} (h : tyQuery.rd w B cs x) : ∃ v0 v1, cs = [.int .i64 x.Id, .int .i64 x.Tenant, v0, v1] ∧ rdS tyCond w B v0 x.Conds ∧ rdS tInt w B v1 x.Out := by
  obtain ⟨_, _, rfl, ⟨_, rfl, rfl⟩, ⟨_, _, rfl, ⟨_, rfl, rfl⟩, ⟨_, _, rfl, ⟨v0, rfl, h0⟩, ⟨v1, rfl, h1⟩⟩⟩⟩ := h
  exact ⟨v0, v1, rfl, h0, h1⟩
theorem tyQuery_mk {w : World} {B : Nat} {x : DQuery} {v0 v1 : Value} (h0 : rdS tyCond w B v0 x.Conds) (h1 : rdS tInt w B v1 x.Out) : tyQuery.rd w B [.int .i64 x.Id, .int .i64 x.Tenant, v0, v1] x := ⟨_, _, rfl, ⟨_, rfl, rfl⟩, ⟨_, _, rfl, ⟨_, rfl, rfl⟩, ⟨_, _, rfl, ⟨_, rfl, h0⟩, ⟨_, rfl, h1⟩⟩⟩⟩
def tyRow : Ty DRow := tMap (tPair tInt (tSl tInt 3)) (fun x => (x.Id, x.Values))
theorem tyRow_rd {w : World} {B : Nat} {cs : List Value} {x : DRow} (h : tyRow.rd w B cs x) : ∃ v0, cs = [.int .i64 x.Id, v0] ∧ rdS tInt w B v0 x.Values := by
  obtain ⟨_, _, rfl, ⟨_, rfl, rfl⟩, ⟨v0, rfl, h0⟩⟩ := h
  exact ⟨v0, rfl, h0⟩
theorem tyRow_mk {w : World} {B : Nat} {x : DRow} {v0 : Value} (h0 : rdS tInt w B v0 x.Values) : tyRow.rd w B [.int .i64 x.Id, v0] x := ⟨_, _, rfl, ⟨_, rfl, rfl⟩, ⟨_, rfl, h0⟩⟩
def tyFinished : Ty DFinished := tMap (tPair tyQuery (tPair tInt (tPair tInt (tSl tyRow 73)))) (fun x => (x.Query, x.Time, x.Steps, x.Rows))
theorem tyFinished_rd {w : World} {B : Nat} {cs : List Value} {x : DFinished} (h : tyFinished.rd w B cs x) : ∃ v0 v1 v2, cs = [.int .i64 x.Query.Id, .int .i64 x.Query.Tenant, v0, v1, .int .i64 x.Time, .int .i64 x.Steps, v2] ∧ rdS tyCond w B v0 x.Query.Conds ∧ rdS tInt w B v1 x.Query.Out ∧ rdS tyRow w B v2 x.Rows := by
  obtain ⟨_, _, rfl, ⟨_, _, rfl, ⟨_, rfl, rfl⟩, ⟨_, _, rfl, ⟨_, rfl, rfl⟩, ⟨_, _, rfl, ⟨v0, rfl, h0⟩, ⟨v1, rfl, h1⟩⟩⟩⟩, ⟨_, _, rfl, ⟨_, rfl, rfl⟩, ⟨_, _, rfl, ⟨_, rfl, rfl⟩, ⟨v2, rfl, h2⟩⟩⟩⟩ := h
  exact ⟨v0, v1, v2, rfl, h0, h1, h2⟩
theorem tyFinished_mk {w : World} {B : Nat} {x : DFinished} {v0 v1 v2 : Value} (h0 : rdS tyCond w B v0 x.Query.Conds) (h1 : rdS tInt w B v1 x.Query.Out) (h2 : rdS tyRow w B v2 x.Rows) : tyFinished.rd w B [.int .i64 x.Query.Id, .int .i64 x.Query.Tenant, v0, v1, .int .i64 x.Time, .int .i64 x.Steps, v2] x := ⟨_, _, rfl, ⟨_, _, rfl, ⟨_, rfl, rfl⟩, ⟨_, _, rfl, ⟨_, rfl, rfl⟩, ⟨_, _, rfl, ⟨_, rfl, h0⟩, ⟨_, rfl, h1⟩⟩⟩⟩, ⟨_, _, rfl, ⟨_, rfl, rfl⟩, ⟨_, _, rfl, ⟨_, rfl, rfl⟩, ⟨_, rfl, h2⟩⟩⟩⟩
def tyVersion : Ty DVersion := tMap (tPair tInt (tPair (tSl tInt 3) (tPair tInt tInt))) (fun x => (x.Id, x.Values, x.Born, x.Died))
theorem tyVersion_rd {w : World} {B : Nat} {cs : List Value} {x : DVersion} (h : tyVersion.rd w B cs x) : ∃ v0, cs = [.int .i64 x.Id, v0, .int .i64 x.Born, .int .i64 x.Died] ∧ rdS tInt w B v0 x.Values := by
  obtain ⟨_, _, rfl, ⟨_, rfl, rfl⟩, ⟨_, _, rfl, ⟨v0, rfl, h0⟩, ⟨_, _, rfl, ⟨_, rfl, rfl⟩, ⟨_, rfl, rfl⟩⟩⟩⟩ := h
  exact ⟨v0, rfl, h0⟩
theorem tyVersion_mk {w : World} {B : Nat} {x : DVersion} {v0 : Value} (h0 : rdS tInt w B v0 x.Values) : tyVersion.rd w B [.int .i64 x.Id, v0, .int .i64 x.Born, .int .i64 x.Died] x := ⟨_, _, rfl, ⟨_, rfl, rfl⟩, ⟨_, _, rfl, ⟨_, rfl, h0⟩, ⟨_, _, rfl, ⟨_, rfl, rfl⟩, ⟨_, rfl, rfl⟩⟩⟩⟩
def tyStore : Ty DStore := tMap (tPair (tSl (tSl tyVersion 191) 131) tInt) (fun x => (x.Segments, x.Now))
theorem tyStore_rd {w : World} {B : Nat} {cs : List Value} {x : DStore} (h : tyStore.rd w B cs x) : ∃ v0, cs = [v0, .int .i64 x.Now] ∧ rdS (tSl tyVersion 191) w B v0 x.Segments := by
  obtain ⟨_, _, rfl, ⟨v0, rfl, h0⟩, ⟨_, rfl, rfl⟩⟩ := h
  exact ⟨v0, rfl, h0⟩
theorem tyStore_mk {w : World} {B : Nat} {x : DStore} {v0 : Value} (h0 : rdS (tSl tyVersion 191) w B v0 x.Segments) : tyStore.rd w B [v0, .int .i64 x.Now] x := ⟨_, _, rfl, ⟨_, rfl, h0⟩, ⟨_, rfl, rfl⟩⟩
def tyActive : Ty DActive := tMap (tPair tyQuery (tPair tInt (tPair (tSl tInt 3) (tPair tInt (tPair tInt (tPair tInt (tSl tyRow 73))))))) (fun x => (x.Query, x.Time, x.Todo, x.Age, x.Sent, x.Cap, x.Rows))
theorem tyActive_rd {w : World} {B : Nat} {cs : List Value} {x : DActive} (h : tyActive.rd w B cs x) : ∃ v0 v1 v2 v3, cs = [.int .i64 x.Query.Id, .int .i64 x.Query.Tenant, v0, v1, .int .i64 x.Time, v2, .int .i64 x.Age, .int .i64 x.Sent, .int .i64 x.Cap, v3] ∧ rdS tyCond w B v0 x.Query.Conds ∧ rdS tInt w B v1 x.Query.Out ∧ rdS tInt w B v2 x.Todo ∧ rdS tyRow w B v3 x.Rows := by
  obtain ⟨_, _, rfl, ⟨_, _, rfl, ⟨_, rfl, rfl⟩, ⟨_, _, rfl, ⟨_, rfl, rfl⟩, ⟨_, _, rfl, ⟨v0, rfl, h0⟩, ⟨v1, rfl, h1⟩⟩⟩⟩, ⟨_, _, rfl, ⟨_, rfl, rfl⟩, ⟨_, _, rfl, ⟨v2, rfl, h2⟩, ⟨_, _, rfl, ⟨_, rfl, rfl⟩, ⟨_, _, rfl, ⟨_, rfl, rfl⟩, ⟨_, _, rfl, ⟨_, rfl, rfl⟩, ⟨v3, rfl, h3⟩⟩⟩⟩⟩⟩⟩ := h
  exact ⟨v0, v1, v2, v3, rfl, h0, h1, h2, h3⟩
theorem tyActive_mk {w : World} {B : Nat} {x : DActive} {v0 v1 v2 v3 : Value} (h0 : rdS tyCond w B v0 x.Query.Conds) (h1 : rdS tInt w B v1 x.Query.Out) (h2 : rdS tInt w B v2 x.Todo) (h3 : rdS tyRow w B v3 x.Rows) : tyActive.rd w B [.int .i64 x.Query.Id, .int .i64 x.Query.Tenant, v0, v1, .int .i64 x.Time, v2, .int .i64 x.Age, .int .i64 x.Sent, .int .i64 x.Cap, v3] x := ⟨_, _, rfl, ⟨_, _, rfl, ⟨_, rfl, rfl⟩, ⟨_, _, rfl, ⟨_, rfl, rfl⟩, ⟨_, _, rfl, ⟨_, rfl, h0⟩, ⟨_, rfl, h1⟩⟩⟩⟩, ⟨_, _, rfl, ⟨_, rfl, rfl⟩, ⟨_, _, rfl, ⟨_, rfl, h2⟩, ⟨_, _, rfl, ⟨_, rfl, rfl⟩, ⟨_, _, rfl, ⟨_, rfl, rfl⟩, ⟨_, _, rfl, ⟨_, rfl, rfl⟩, ⟨_, rfl, h3⟩⟩⟩⟩⟩⟩⟩
def tyCharge : Ty DCharge := tMap (tPair tInt (tPair tInt (tPair (tSl tInt 3) (tPair (tSl tInt 3) (tSl tInt 3))))) (fun x => (x.Segment, x.Base, x.Ids, x.Tenants, x.Rows))
theorem tyCharge_rd {w : World} {B : Nat} {cs : List Value} {x : DCharge} (h : tyCharge.rd w B cs x) : ∃ v0 v1 v2, cs = [.int .i64 x.Segment, .int .i64 x.Base, v0, v1, v2] ∧ rdS tInt w B v0 x.Ids ∧ rdS tInt w B v1 x.Tenants ∧ rdS tInt w B v2 x.Rows := by
  obtain ⟨_, _, rfl, ⟨_, rfl, rfl⟩, ⟨_, _, rfl, ⟨_, rfl, rfl⟩, ⟨_, _, rfl, ⟨v0, rfl, h0⟩, ⟨_, _, rfl, ⟨v1, rfl, h1⟩, ⟨v2, rfl, h2⟩⟩⟩⟩⟩ := h
  exact ⟨v0, v1, v2, rfl, h0, h1, h2⟩
theorem tyCharge_mk {w : World} {B : Nat} {x : DCharge} {v0 v1 v2 : Value} (h0 : rdS tInt w B v0 x.Ids) (h1 : rdS tInt w B v1 x.Tenants) (h2 : rdS tInt w B v2 x.Rows) : tyCharge.rd w B [.int .i64 x.Segment, .int .i64 x.Base, v0, v1, v2] x := ⟨_, _, rfl, ⟨_, rfl, rfl⟩, ⟨_, _, rfl, ⟨_, rfl, rfl⟩, ⟨_, _, rfl, ⟨_, rfl, h0⟩, ⟨_, _, rfl, ⟨_, rfl, h1⟩, ⟨_, rfl, h2⟩⟩⟩⟩⟩
def tyEngine : Ty DEngine := tMap (tPair tyStore (tPair tInt (tPair (tSl tInt 3) (tPair (tSl tyActive 64) (tPair (tSl tyFinished 37) (tPair (tSl tyCharge 133) tInt)))))) (fun x => (x.Store, x.Cursor, x.Order, x.Active, x.Done, x.Ledger, x.Steps))
theorem tyEngine_rd {w : World} {B : Nat} {cs : List Value} {x : DEngine} (h : tyEngine.rd w B cs x) : ∃ v0 v1 v2 v3 v4, cs = [v0, .int .i64 x.Store.Now, .int .i64 x.Cursor, v1, v2, v3, v4, .int .i64 x.Steps] ∧ rdS (tSl tyVersion 191) w B v0 x.Store.Segments ∧ rdS tInt w B v1 x.Order ∧ rdS tyActive w B v2 x.Active ∧ rdS tyFinished w B v3 x.Done ∧ rdS tyCharge w B v4 x.Ledger := by
  obtain ⟨_, _, rfl, ⟨_, _, rfl, ⟨v0, rfl, h0⟩, ⟨_, rfl, rfl⟩⟩, ⟨_, _, rfl, ⟨_, rfl, rfl⟩, ⟨_, _, rfl, ⟨v1, rfl, h1⟩, ⟨_, _, rfl, ⟨v2, rfl, h2⟩, ⟨_, _, rfl, ⟨v3, rfl, h3⟩, ⟨_, _, rfl, ⟨v4, rfl, h4⟩, ⟨_, rfl, rfl⟩⟩⟩⟩⟩⟩⟩ := h
  exact ⟨v0, v1, v2, v3, v4, rfl, h0, h1, h2, h3, h4⟩
theorem tyEngine_mk {w : World} {B : Nat} {x : DEngine} {v0 v1 v2 v3 v4 : Value} (h0 : rdS (tSl tyVersion 191) w B v0 x.Store.Segments) (h1 : rdS tInt w B v1 x.Order) (h2 : rdS tyActive w B v2 x.Active) (h3 : rdS tyFinished w B v3 x.Done) (h4 : rdS tyCharge w B v4 x.Ledger) : tyEngine.rd w B [v0, .int .i64 x.Store.Now, .int .i64 x.Cursor, v1, v2, v3, v4, .int .i64 x.Steps] x := ⟨_, _, rfl, ⟨_, _, rfl, ⟨_, rfl, h0⟩, ⟨_, rfl, rfl⟩⟩, ⟨_, _, rfl, ⟨_, rfl, rfl⟩, ⟨_, _, rfl, ⟨_, rfl, h1⟩, ⟨_, _, rfl, ⟨_, rfl, h2⟩, ⟨_, _, rfl, ⟨_, rfl, h3⟩, ⟨_, _, rfl, ⟨_, rfl, h4⟩, ⟨_, rfl, rfl⟩⟩⟩⟩⟩⟩⟩
structure DUpdate where
  Kind : Int
  Row : DRow
  Field : Int
  Value : Int
instance : Inhabited DUpdate := ⟨⟨default, default, default, default⟩⟩
structure Dl1Cur where
  i : Nat
  h : Int
instance : Inhabited Dl1Cur := ⟨⟨default, default⟩⟩
structure DSpan where
  From : Int
  To : Int
  Set : (List Int)
instance : Inhabited DSpan := ⟨⟨default, default, default⟩⟩
structure DIndex where
  Queries : (List DQuery)
  Fields : (List (List DSpan))
instance : Inhabited DIndex := ⟨⟨default, default⟩⟩
def smVersion (B : Nat) (x : DVersion) : Prop := x.Values.length ≤ B
def smStore (B : Nat) (x : DStore) : Prop := (x.Segments.length ≤ B ∧ ∀ y ∈ x.Segments, (y.length ≤ B ∧ ∀ y1 ∈ y, smVersion B y1))
def smQuery (B : Nat) (x : DQuery) : Prop := x.Conds.length ≤ B ∧ x.Out.length ≤ B
def smRow (B : Nat) (x : DRow) : Prop := x.Values.length ≤ B
def smActive (B : Nat) (x : DActive) : Prop := smQuery B x.Query ∧ x.Todo.length ≤ B ∧ (x.Rows.length ≤ B ∧ ∀ y ∈ x.Rows, smRow B y)
def smFinished (B : Nat) (x : DFinished) : Prop := smQuery B x.Query ∧ (x.Rows.length ≤ B ∧ ∀ y ∈ x.Rows, smRow B y)
def smCharge (B : Nat) (x : DCharge) : Prop := x.Ids.length ≤ B ∧ x.Tenants.length ≤ B ∧ x.Rows.length ≤ B
def smEngine (B : Nat) (x : DEngine) : Prop := smStore B x.Store ∧ x.Order.length ≤ B ∧ (x.Active.length ≤ B ∧ ∀ y ∈ x.Active, smActive B y) ∧ (x.Done.length ≤ B ∧ ∀ y ∈ x.Done, smFinished B y) ∧ (x.Ledger.length ≤ B ∧ ∀ y ∈ x.Ledger, smCharge B y)
theorem tyCond_split {w : World} {L : List Nat} {cs : List Value} {x : DCond} (h : tyCond.own w L cs x) : ∃ _ : Unit, cs = [.int .i64 x.Field, .int .i64 x.Low, .int .i64 x.High] ∧ Sep [] w L := by
  obtain ⟨_, _, _, _, rfl, rfl, ⟨rfl, _, rfl, rfl⟩, ⟨_, _, _, _, rfl, rfl, ⟨rfl, _, rfl, rfl⟩, ⟨rfl, _, rfl, rfl⟩⟩⟩ := h
  exact ⟨(), rfl, Sep.cast (rfl) (by simp)⟩
theorem tyCond_sp {P : Program} {N B : Nat} {w0 : World} {Q : Exit → Act → World → Prop} {L : List (Nat × Value)} {is : List It} {ops : Array Oper} {l : List Oper} {z : List Value} {x : DCond} (h : ∀ _ : Unit, z = [.int .i64 x.Field, .int .i64 x.Low, .int .i64 x.High] → WM P N B w0 ops Q l L (is)) : WM P N B w0 ops Q l L (iOwn tyCond z x :: is) := WM_split (γ := Unit) (js := fun _ => []) (C := fun _ => z = [.int .i64 x.Field, .int .i64 x.Low, .int .i64 x.High]) (fun _ _ h => tyCond_split h) h
theorem tyCond_join {w : World} {L : List Nat} {x : DCond} (h : Sep [] w L) : tyCond.own w L [.int .i64 x.Field, .int .i64 x.Low, .int .i64 x.High] x := by
  cases (Sep.nil h)
  exact own_cast (T := tyCond) (cs := [.int .i64 x.Field, .int .i64 x.Low, .int .i64 x.High]) (x := x) ⟨_, _, _, _, rfl, rfl, tInt_own, ⟨_, _, _, _, rfl, rfl, tInt_own, tInt_own⟩⟩ (by simp)
theorem tyQuery_split {w : World} {L : List Nat} {cs : List Value} {x : DQuery} (h : tyQuery.own w L cs x) : ∃ g : Value × Value, cs = [.int .i64 x.Id, .int .i64 x.Tenant, g.1, g.2] ∧ Sep [iOwn (tSl tyCond 201) [g.1] x.Conds, iOwn (tSl tInt 3) [g.2] x.Out] w L := by
  obtain ⟨_, _, _, _, rfl, rfl, ⟨rfl, _, rfl, rfl⟩, ⟨_, _, _, _, rfl, rfl, ⟨rfl, _, rfl, rfl⟩, ⟨_, _, _, _, rfl, rfl, ⟨v0, rfl, h0⟩, ⟨v1, rfl, h1⟩⟩⟩⟩ := h
  exact ⟨(v0, v1), rfl, Sep.cast (⟨_, _, rfl, ⟨_, rfl, h0⟩, ⟨_, [], (List.append_nil _).symm, ⟨_, rfl, h1⟩, rfl⟩⟩) (by simp)⟩
theorem tyQuery_sp {P : Program} {N B : Nat} {w0 : World} {Q : Exit → Act → World → Prop} {L : List (Nat × Value)} {is : List It} {ops : Array Oper} {l : List Oper} {z : List Value} {x : DQuery} (h : ∀ g : Value × Value, z = [.int .i64 x.Id, .int .i64 x.Tenant, g.1, g.2] → WM P N B w0 ops Q l L (iOwn (tSl tyCond 201) [g.1] x.Conds :: iOwn (tSl tInt 3) [g.2] x.Out :: is)) : WM P N B w0 ops Q l L (iOwn tyQuery z x :: is) := WM_split (γ := Value × Value) (js := fun g => [iOwn (tSl tyCond 201) [g.1] x.Conds, iOwn (tSl tInt 3) [g.2] x.Out]) (C := fun g => z = [.int .i64 x.Id, .int .i64 x.Tenant, g.1, g.2]) (fun _ _ h => tyQuery_split h) h
theorem tyQuery_join {w : World} {L : List Nat} {x : DQuery} {v0 v1 : Value} (h : Sep [iOwn (tSl tyCond 201) [v0] x.Conds, iOwn (tSl tInt 3) [v1] x.Out] w L) : tyQuery.own w L [.int .i64 x.Id, .int .i64 x.Tenant, v0, v1] x := by
  obtain ⟨L0, K0, rfl, h0, s0⟩ := Sep.cons h
  obtain ⟨L1, K1, rfl, h1, s1⟩ := Sep.cons s0
  cases (Sep.nil s1)
  exact own_cast (T := tyQuery) (cs := [.int .i64 x.Id, .int .i64 x.Tenant, v0, v1]) (x := x) ⟨_, _, _, _, rfl, rfl, tInt_own, ⟨_, _, _, _, rfl, rfl, tInt_own, ⟨_, _, _, _, rfl, rfl, h0, h1⟩⟩⟩ (by simp)
theorem tyRow_split {w : World} {L : List Nat} {cs : List Value} {x : DRow} (h : tyRow.own w L cs x) : ∃ g : Value, cs = [.int .i64 x.Id, g] ∧ Sep [iOwn (tSl tInt 3) [g] x.Values] w L := by
  obtain ⟨_, _, _, _, rfl, rfl, ⟨rfl, _, rfl, rfl⟩, ⟨v0, rfl, h0⟩⟩ := h
  exact ⟨v0, rfl, Sep.cast (⟨_, [], (List.append_nil _).symm, ⟨_, rfl, h0⟩, rfl⟩) (by simp)⟩
theorem tyRow_sp {P : Program} {N B : Nat} {w0 : World} {Q : Exit → Act → World → Prop} {L : List (Nat × Value)} {is : List It} {ops : Array Oper} {l : List Oper} {z : List Value} {x : DRow} (h : ∀ g : Value, z = [.int .i64 x.Id, g] → WM P N B w0 ops Q l L (iOwn (tSl tInt 3) [g] x.Values :: is)) : WM P N B w0 ops Q l L (iOwn tyRow z x :: is) := WM_split (γ := Value) (js := fun g => [iOwn (tSl tInt 3) [g] x.Values]) (C := fun g => z = [.int .i64 x.Id, g]) (fun _ _ h => tyRow_split h) h
theorem tyRow_join {w : World} {L : List Nat} {x : DRow} {v0 : Value} (h : Sep [iOwn (tSl tInt 3) [v0] x.Values] w L) : tyRow.own w L [.int .i64 x.Id, v0] x := by
  obtain ⟨L0, K0, rfl, h0, s0⟩ := Sep.cons h
  cases (Sep.nil s0)
  exact own_cast (T := tyRow) (cs := [.int .i64 x.Id, v0]) (x := x) ⟨_, _, _, _, rfl, rfl, tInt_own, h0⟩ (by simp)
theorem tyFinished_split {w : World} {L : List Nat} {cs : List Value} {x : DFinished} (h : tyFinished.own w L cs x) : ∃ g : Value × Value × Value, cs = [.int .i64 x.Query.Id, .int .i64 x.Query.Tenant, g.1, g.2.1, .int .i64 x.Time, .int .i64 x.Steps, g.2.2] ∧ Sep [iOwn (tSl tyCond 201) [g.1] x.Query.Conds, iOwn (tSl tInt 3) [g.2.1] x.Query.Out, iOwn (tSl tyRow 73) [g.2.2] x.Rows] w L := by
  obtain ⟨_, _, _, _, rfl, rfl, ⟨_, _, _, _, rfl, rfl, ⟨rfl, _, rfl, rfl⟩, ⟨_, _, _, _, rfl, rfl, ⟨rfl, _, rfl, rfl⟩, ⟨_, _, _, _, rfl, rfl, ⟨v0, rfl, h0⟩, ⟨v1, rfl, h1⟩⟩⟩⟩, ⟨_, _, _, _, rfl, rfl, ⟨rfl, _, rfl, rfl⟩, ⟨_, _, _, _, rfl, rfl, ⟨rfl, _, rfl, rfl⟩, ⟨v2, rfl, h2⟩⟩⟩⟩ := h
  exact ⟨(v0, v1, v2), rfl, Sep.cast (⟨_, _, rfl, ⟨_, rfl, h0⟩, ⟨_, _, rfl, ⟨_, rfl, h1⟩, ⟨_, [], (List.append_nil _).symm, ⟨_, rfl, h2⟩, rfl⟩⟩⟩) (by simp)⟩
theorem tyFinished_sp {P : Program} {N B : Nat} {w0 : World} {Q : Exit → Act → World → Prop} {L : List (Nat × Value)} {is : List It} {ops : Array Oper} {l : List Oper} {z : List Value} {x : DFinished} (h : ∀ g : Value × Value × Value, z = [.int .i64 x.Query.Id, .int .i64 x.Query.Tenant, g.1, g.2.1, .int .i64 x.Time, .int .i64 x.Steps, g.2.2] → WM P N B w0 ops Q l L (iOwn (tSl tyCond 201) [g.1] x.Query.Conds :: iOwn (tSl tInt 3) [g.2.1] x.Query.Out :: iOwn (tSl tyRow 73) [g.2.2] x.Rows :: is)) : WM P N B w0 ops Q l L (iOwn tyFinished z x :: is) := WM_split (γ := Value × Value × Value) (js := fun g => [iOwn (tSl tyCond 201) [g.1] x.Query.Conds, iOwn (tSl tInt 3) [g.2.1] x.Query.Out, iOwn (tSl tyRow 73) [g.2.2] x.Rows]) (C := fun g => z = [.int .i64 x.Query.Id, .int .i64 x.Query.Tenant, g.1, g.2.1, .int .i64 x.Time, .int .i64 x.Steps, g.2.2]) (fun _ _ h => tyFinished_split h) h
theorem tyFinished_join {w : World} {L : List Nat} {x : DFinished} {v0 v1 v2 : Value} (h : Sep [iOwn (tSl tyCond 201) [v0] x.Query.Conds, iOwn (tSl tInt 3) [v1] x.Query.Out, iOwn (tSl tyRow 73) [v2] x.Rows] w L) : tyFinished.own w L [.int .i64 x.Query.Id, .int .i64 x.Query.Tenant, v0, v1, .int .i64 x.Time, .int .i64 x.Steps, v2] x := by
  obtain ⟨L0, K0, rfl, h0, s0⟩ := Sep.cons h
  obtain ⟨L1, K1, rfl, h1, s1⟩ := Sep.cons s0
  obtain ⟨L2, K2, rfl, h2, s2⟩ := Sep.cons s1
  cases (Sep.nil s2)
  exact own_cast (T := tyFinished) (cs := [.int .i64 x.Query.Id, .int .i64 x.Query.Tenant, v0, v1, .int .i64 x.Time, .int .i64 x.Steps, v2]) (x := x) ⟨_, _, _, _, rfl, rfl, ⟨_, _, _, _, rfl, rfl, tInt_own, ⟨_, _, _, _, rfl, rfl, tInt_own, ⟨_, _, _, _, rfl, rfl, h0, h1⟩⟩⟩, ⟨_, _, _, _, rfl, rfl, tInt_own, ⟨_, _, _, _, rfl, rfl, tInt_own, h2⟩⟩⟩ (by simp)
theorem tyVersion_split {w : World} {L : List Nat} {cs : List Value} {x : DVersion} (h : tyVersion.own w L cs x) : ∃ g : Value, cs = [.int .i64 x.Id, g, .int .i64 x.Born, .int .i64 x.Died] ∧ Sep [iOwn (tSl tInt 3) [g] x.Values] w L := by
  obtain ⟨_, _, _, _, rfl, rfl, ⟨rfl, _, rfl, rfl⟩, ⟨_, _, _, _, rfl, rfl, ⟨v0, rfl, h0⟩, ⟨_, _, _, _, rfl, rfl, ⟨rfl, _, rfl, rfl⟩, ⟨rfl, _, rfl, rfl⟩⟩⟩⟩ := h
  exact ⟨v0, rfl, Sep.cast (⟨_, [], (List.append_nil _).symm, ⟨_, rfl, h0⟩, rfl⟩) (by simp)⟩
theorem tyVersion_sp {P : Program} {N B : Nat} {w0 : World} {Q : Exit → Act → World → Prop} {L : List (Nat × Value)} {is : List It} {ops : Array Oper} {l : List Oper} {z : List Value} {x : DVersion} (h : ∀ g : Value, z = [.int .i64 x.Id, g, .int .i64 x.Born, .int .i64 x.Died] → WM P N B w0 ops Q l L (iOwn (tSl tInt 3) [g] x.Values :: is)) : WM P N B w0 ops Q l L (iOwn tyVersion z x :: is) := WM_split (γ := Value) (js := fun g => [iOwn (tSl tInt 3) [g] x.Values]) (C := fun g => z = [.int .i64 x.Id, g, .int .i64 x.Born, .int .i64 x.Died]) (fun _ _ h => tyVersion_split h) h
theorem tyVersion_join {w : World} {L : List Nat} {x : DVersion} {v0 : Value} (h : Sep [iOwn (tSl tInt 3) [v0] x.Values] w L) : tyVersion.own w L [.int .i64 x.Id, v0, .int .i64 x.Born, .int .i64 x.Died] x := by
  obtain ⟨L0, K0, rfl, h0, s0⟩ := Sep.cons h
  cases (Sep.nil s0)
  exact own_cast (T := tyVersion) (cs := [.int .i64 x.Id, v0, .int .i64 x.Born, .int .i64 x.Died]) (x := x) ⟨_, _, _, _, rfl, rfl, tInt_own, ⟨_, _, _, _, rfl, rfl, h0, ⟨_, _, _, _, rfl, rfl, tInt_own, tInt_own⟩⟩⟩ (by simp)
theorem tyStore_split {w : World} {L : List Nat} {cs : List Value} {x : DStore} (h : tyStore.own w L cs x) : ∃ g : Value, cs = [g, .int .i64 x.Now] ∧ Sep [iOwn (tSl (tSl tyVersion 191) 131) [g] x.Segments] w L := by
  obtain ⟨_, _, _, _, rfl, rfl, ⟨v0, rfl, h0⟩, ⟨rfl, _, rfl, rfl⟩⟩ := h
  exact ⟨v0, rfl, Sep.cast (⟨_, [], (List.append_nil _).symm, ⟨_, rfl, h0⟩, rfl⟩) (by simp)⟩
theorem tyStore_sp {P : Program} {N B : Nat} {w0 : World} {Q : Exit → Act → World → Prop} {L : List (Nat × Value)} {is : List It} {ops : Array Oper} {l : List Oper} {z : List Value} {x : DStore} (h : ∀ g : Value, z = [g, .int .i64 x.Now] → WM P N B w0 ops Q l L (iOwn (tSl (tSl tyVersion 191) 131) [g] x.Segments :: is)) : WM P N B w0 ops Q l L (iOwn tyStore z x :: is) := WM_split (γ := Value) (js := fun g => [iOwn (tSl (tSl tyVersion 191) 131) [g] x.Segments]) (C := fun g => z = [g, .int .i64 x.Now]) (fun _ _ h => tyStore_split h) h
theorem tyStore_join {w : World} {L : List Nat} {x : DStore} {v0 : Value} (h : Sep [iOwn (tSl (tSl tyVersion 191) 131) [v0] x.Segments] w L) : tyStore.own w L [v0, .int .i64 x.Now] x := by
  obtain ⟨L0, K0, rfl, h0, s0⟩ := Sep.cons h
  cases (Sep.nil s0)
  exact own_cast (T := tyStore) (cs := [v0, .int .i64 x.Now]) (x := x) ⟨_, _, _, _, rfl, rfl, h0, tInt_own⟩ (by simp)
theorem tyActive_split {w : World} {L : List Nat} {cs : List Value} {x : DActive} (h : tyActive.own w L cs x) : ∃ g : Value × Value × Value × Value, cs = [.int .i64 x.Query.Id, .int .i64 x.Query.Tenant, g.1, g.2.1, .int .i64 x.Time, g.2.2.1, .int .i64 x.Age, .int .i64 x.Sent, .int .i64 x.Cap, g.2.2.2] ∧ Sep [iOwn (tSl tyCond 201) [g.1] x.Query.Conds, iOwn (tSl tInt 3) [g.2.1] x.Query.Out, iOwn (tSl tInt 3) [g.2.2.1] x.Todo, iOwn (tSl tyRow 73) [g.2.2.2] x.Rows] w L := by
  obtain ⟨_, _, _, _, rfl, rfl, ⟨_, _, _, _, rfl, rfl, ⟨rfl, _, rfl, rfl⟩, ⟨_, _, _, _, rfl, rfl, ⟨rfl, _, rfl, rfl⟩, ⟨_, _, _, _, rfl, rfl, ⟨v0, rfl, h0⟩, ⟨v1, rfl, h1⟩⟩⟩⟩, ⟨_, _, _, _, rfl, rfl, ⟨rfl, _, rfl, rfl⟩, ⟨_, _, _, _, rfl, rfl, ⟨v2, rfl, h2⟩, ⟨_, _, _, _, rfl, rfl, ⟨rfl, _, rfl, rfl⟩, ⟨_, _, _, _, rfl, rfl, ⟨rfl, _, rfl, rfl⟩, ⟨_, _, _, _, rfl, rfl, ⟨rfl, _, rfl, rfl⟩, ⟨v3, rfl, h3⟩⟩⟩⟩⟩⟩⟩ := h
  exact ⟨(v0, v1, v2, v3), rfl, Sep.cast (⟨_, _, rfl, ⟨_, rfl, h0⟩, ⟨_, _, rfl, ⟨_, rfl, h1⟩, ⟨_, _, rfl, ⟨_, rfl, h2⟩, ⟨_, [], (List.append_nil _).symm, ⟨_, rfl, h3⟩, rfl⟩⟩⟩⟩) (by simp)⟩
theorem tyActive_sp {P : Program} {N B : Nat} {w0 : World} {Q : Exit → Act → World → Prop} {L : List (Nat × Value)} {is : List It} {ops : Array Oper} {l : List Oper} {z : List Value} {x : DActive} (h : ∀ g : Value × Value × Value × Value, z = [.int .i64 x.Query.Id, .int .i64 x.Query.Tenant, g.1, g.2.1, .int .i64 x.Time, g.2.2.1, .int .i64 x.Age, .int .i64 x.Sent, .int .i64 x.Cap, g.2.2.2] → WM P N B w0 ops Q l L (iOwn (tSl tyCond 201) [g.1] x.Query.Conds :: iOwn (tSl tInt 3) [g.2.1] x.Query.Out :: iOwn (tSl tInt 3) [g.2.2.1] x.Todo :: iOwn (tSl tyRow 73) [g.2.2.2] x.Rows :: is)) : WM P N B w0 ops Q l L (iOwn tyActive z x :: is) := WM_split (γ := Value × Value × Value × Value) (js := fun g => [iOwn (tSl tyCond 201) [g.1] x.Query.Conds, iOwn (tSl tInt 3) [g.2.1] x.Query.Out, iOwn (tSl tInt 3) [g.2.2.1] x.Todo, iOwn (tSl tyRow 73) [g.2.2.2] x.Rows]) (C := fun g => z = [.int .i64 x.Query.Id, .int .i64 x.Query.Tenant, g.1, g.2.1, .int .i64 x.Time, g.2.2.1, .int .i64 x.Age, .int .i64 x.Sent, .int .i64 x.Cap, g.2.2.2]) (fun _ _ h => tyActive_split h) h
theorem tyActive_join {w : World} {L : List Nat} {x : DActive} {v0 v1 v2 v3 : Value} (h : Sep [iOwn (tSl tyCond 201) [v0] x.Query.Conds, iOwn (tSl tInt 3) [v1] x.Query.Out, iOwn (tSl tInt 3) [v2] x.Todo, iOwn (tSl tyRow 73) [v3] x.Rows] w L) : tyActive.own w L [.int .i64 x.Query.Id, .int .i64 x.Query.Tenant, v0, v1, .int .i64 x.Time, v2, .int .i64 x.Age, .int .i64 x.Sent, .int .i64 x.Cap, v3] x := by
  obtain ⟨L0, K0, rfl, h0, s0⟩ := Sep.cons h
  obtain ⟨L1, K1, rfl, h1, s1⟩ := Sep.cons s0
  obtain ⟨L2, K2, rfl, h2, s2⟩ := Sep.cons s1
  obtain ⟨L3, K3, rfl, h3, s3⟩ := Sep.cons s2
  cases (Sep.nil s3)
  exact own_cast (T := tyActive) (cs := [.int .i64 x.Query.Id, .int .i64 x.Query.Tenant, v0, v1, .int .i64 x.Time, v2, .int .i64 x.Age, .int .i64 x.Sent, .int .i64 x.Cap, v3]) (x := x) ⟨_, _, _, _, rfl, rfl, ⟨_, _, _, _, rfl, rfl, tInt_own, ⟨_, _, _, _, rfl, rfl, tInt_own, ⟨_, _, _, _, rfl, rfl, h0, h1⟩⟩⟩, ⟨_, _, _, _, rfl, rfl, tInt_own, ⟨_, _, _, _, rfl, rfl, h2, ⟨_, _, _, _, rfl, rfl, tInt_own, ⟨_, _, _, _, rfl, rfl, tInt_own, ⟨_, _, _, _, rfl, rfl, tInt_own, h3⟩⟩⟩⟩⟩⟩ (by simp)
theorem tyCharge_split {w : World} {L : List Nat} {cs : List Value} {x : DCharge} (h : tyCharge.own w L cs x) : ∃ g : Value × Value × Value, cs = [.int .i64 x.Segment, .int .i64 x.Base, g.1, g.2.1, g.2.2] ∧ Sep [iOwn (tSl tInt 3) [g.1] x.Ids, iOwn (tSl tInt 3) [g.2.1] x.Tenants, iOwn (tSl tInt 3) [g.2.2] x.Rows] w L := by
  obtain ⟨_, _, _, _, rfl, rfl, ⟨rfl, _, rfl, rfl⟩, ⟨_, _, _, _, rfl, rfl, ⟨rfl, _, rfl, rfl⟩, ⟨_, _, _, _, rfl, rfl, ⟨v0, rfl, h0⟩, ⟨_, _, _, _, rfl, rfl, ⟨v1, rfl, h1⟩, ⟨v2, rfl, h2⟩⟩⟩⟩⟩ := h
  exact ⟨(v0, v1, v2), rfl, Sep.cast (⟨_, _, rfl, ⟨_, rfl, h0⟩, ⟨_, _, rfl, ⟨_, rfl, h1⟩, ⟨_, [], (List.append_nil _).symm, ⟨_, rfl, h2⟩, rfl⟩⟩⟩) (by simp)⟩
theorem tyCharge_sp {P : Program} {N B : Nat} {w0 : World} {Q : Exit → Act → World → Prop} {L : List (Nat × Value)} {is : List It} {ops : Array Oper} {l : List Oper} {z : List Value} {x : DCharge} (h : ∀ g : Value × Value × Value, z = [.int .i64 x.Segment, .int .i64 x.Base, g.1, g.2.1, g.2.2] → WM P N B w0 ops Q l L (iOwn (tSl tInt 3) [g.1] x.Ids :: iOwn (tSl tInt 3) [g.2.1] x.Tenants :: iOwn (tSl tInt 3) [g.2.2] x.Rows :: is)) : WM P N B w0 ops Q l L (iOwn tyCharge z x :: is) := WM_split (γ := Value × Value × Value) (js := fun g => [iOwn (tSl tInt 3) [g.1] x.Ids, iOwn (tSl tInt 3) [g.2.1] x.Tenants, iOwn (tSl tInt 3) [g.2.2] x.Rows]) (C := fun g => z = [.int .i64 x.Segment, .int .i64 x.Base, g.1, g.2.1, g.2.2]) (fun _ _ h => tyCharge_split h) h
theorem tyCharge_join {w : World} {L : List Nat} {x : DCharge} {v0 v1 v2 : Value} (h : Sep [iOwn (tSl tInt 3) [v0] x.Ids, iOwn (tSl tInt 3) [v1] x.Tenants, iOwn (tSl tInt 3) [v2] x.Rows] w L) : tyCharge.own w L [.int .i64 x.Segment, .int .i64 x.Base, v0, v1, v2] x := by
  obtain ⟨L0, K0, rfl, h0, s0⟩ := Sep.cons h
  obtain ⟨L1, K1, rfl, h1, s1⟩ := Sep.cons s0
  obtain ⟨L2, K2, rfl, h2, s2⟩ := Sep.cons s1
  cases (Sep.nil s2)
  exact own_cast (T := tyCharge) (cs := [.int .i64 x.Segment, .int .i64 x.Base, v0, v1, v2]) (x := x) ⟨_, _, _, _, rfl, rfl, tInt_own, ⟨_, _, _, _, rfl, rfl, tInt_own, ⟨_, _, _, _, rfl, rfl, h0, ⟨_, _, _, _, rfl, rfl, h1, h2⟩⟩⟩⟩ (by simp)
theorem tyEngine_split {w : World} {L : List Nat} {cs : List Value} {x : DEngine} (h : tyEngine.own w L cs x) : ∃ g : Value × Value × Value × Value × Value, cs = [g.1, .int .i64 x.Store.Now, .int .i64 x.Cursor, g.2.1, g.2.2.1, g.2.2.2.1, g.2.2.2.2, .int .i64 x.Steps] ∧ Sep [iOwn (tSl (tSl tyVersion 191) 131) [g.1] x.Store.Segments, iOwn (tSl tInt 3) [g.2.1] x.Order, iOwn (tSl tyActive 64) [g.2.2.1] x.Active, iOwn (tSl tyFinished 37) [g.2.2.2.1] x.Done, iOwn (tSl tyCharge 133) [g.2.2.2.2] x.Ledger] w L := by
  obtain ⟨_, _, _, _, rfl, rfl, ⟨_, _, _, _, rfl, rfl, ⟨v0, rfl, h0⟩, ⟨rfl, _, rfl, rfl⟩⟩, ⟨_, _, _, _, rfl, rfl, ⟨rfl, _, rfl, rfl⟩, ⟨_, _, _, _, rfl, rfl, ⟨v1, rfl, h1⟩, ⟨_, _, _, _, rfl, rfl, ⟨v2, rfl, h2⟩, ⟨_, _, _, _, rfl, rfl, ⟨v3, rfl, h3⟩, ⟨_, _, _, _, rfl, rfl, ⟨v4, rfl, h4⟩, ⟨rfl, _, rfl, rfl⟩⟩⟩⟩⟩⟩⟩ := h
  exact ⟨(v0, v1, v2, v3, v4), rfl, Sep.cast (⟨_, _, rfl, ⟨_, rfl, h0⟩, ⟨_, _, rfl, ⟨_, rfl, h1⟩, ⟨_, _, rfl, ⟨_, rfl, h2⟩, ⟨_, _, rfl, ⟨_, rfl, h3⟩, ⟨_, [], (List.append_nil _).symm, ⟨_, rfl, h4⟩, rfl⟩⟩⟩⟩⟩) (by simp)⟩
theorem tyEngine_sp {P : Program} {N B : Nat} {w0 : World} {Q : Exit → Act → World → Prop} {L : List (Nat × Value)} {is : List It} {ops : Array Oper} {l : List Oper} {z : List Value} {x : DEngine} (h : ∀ g : Value × Value × Value × Value × Value, z = [g.1, .int .i64 x.Store.Now, .int .i64 x.Cursor, g.2.1, g.2.2.1, g.2.2.2.1, g.2.2.2.2, .int .i64 x.Steps] → WM P N B w0 ops Q l L (iOwn (tSl (tSl tyVersion 191) 131) [g.1] x.Store.Segments :: iOwn (tSl tInt 3) [g.2.1] x.Order :: iOwn (tSl tyActive 64) [g.2.2.1] x.Active :: iOwn (tSl tyFinished 37) [g.2.2.2.1] x.Done :: iOwn (tSl tyCharge 133) [g.2.2.2.2] x.Ledger :: is)) : WM P N B w0 ops Q l L (iOwn tyEngine z x :: is) := WM_split (γ := Value × Value × Value × Value × Value) (js := fun g => [iOwn (tSl (tSl tyVersion 191) 131) [g.1] x.Store.Segments, iOwn (tSl tInt 3) [g.2.1] x.Order, iOwn (tSl tyActive 64) [g.2.2.1] x.Active, iOwn (tSl tyFinished 37) [g.2.2.2.1] x.Done, iOwn (tSl tyCharge 133) [g.2.2.2.2] x.Ledger]) (C := fun g => z = [g.1, .int .i64 x.Store.Now, .int .i64 x.Cursor, g.2.1, g.2.2.1, g.2.2.2.1, g.2.2.2.2, .int .i64 x.Steps]) (fun _ _ h => tyEngine_split h) h
theorem tyEngine_join {w : World} {L : List Nat} {x : DEngine} {v0 v1 v2 v3 v4 : Value} (h : Sep [iOwn (tSl (tSl tyVersion 191) 131) [v0] x.Store.Segments, iOwn (tSl tInt 3) [v1] x.Order, iOwn (tSl tyActive 64) [v2] x.Active, iOwn (tSl tyFinished 37) [v3] x.Done, iOwn (tSl tyCharge 133) [v4] x.Ledger] w L) : tyEngine.own w L [v0, .int .i64 x.Store.Now, .int .i64 x.Cursor, v1, v2, v3, v4, .int .i64 x.Steps] x := by
  obtain ⟨L0, K0, rfl, h0, s0⟩ := Sep.cons h
  obtain ⟨L1, K1, rfl, h1, s1⟩ := Sep.cons s0
  obtain ⟨L2, K2, rfl, h2, s2⟩ := Sep.cons s1
  obtain ⟨L3, K3, rfl, h3, s3⟩ := Sep.cons s2
  obtain ⟨L4, K4, rfl, h4, s4⟩ := Sep.cons s3
  cases (Sep.nil s4)
  exact own_cast (T := tyEngine) (cs := [v0, .int .i64 x.Store.Now, .int .i64 x.Cursor, v1, v2, v3, v4, .int .i64 x.Steps]) (x := x) ⟨_, _, _, _, rfl, rfl, ⟨_, _, _, _, rfl, rfl, h0, tInt_own⟩, ⟨_, _, _, _, rfl, rfl, tInt_own, ⟨_, _, _, _, rfl, rfl, h1, ⟨_, _, _, _, rfl, rfl, h2, ⟨_, _, _, _, rfl, rfl, h3, ⟨_, _, _, _, rfl, rfl, h4, tInt_own⟩⟩⟩⟩⟩⟩ (by simp)
end Go.Proofs.YtmikmbmdibabmaaGreat

