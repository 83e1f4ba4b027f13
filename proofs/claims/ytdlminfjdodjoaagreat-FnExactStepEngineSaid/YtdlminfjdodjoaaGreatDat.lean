/-
  The data of the program as structures, and how they lie in memory.
-/
import Derived.Test.YtdlminfjdodjoaaGreatVcS
import Derived.Test.YtdlminfjdodjoaaGreatVcP
import Derived.Test.YtdlminfjdodjoaaGreatVcX
import Derived.Test.YtdlminfjdodjoaaGreatVcY
import Derived.Test.YtdlminfjdodjoaaGreatVcQ
import Derived.Test.YtdlminfjdodjoaaGreatVcR
namespace Go.Proofs.YtdlminfjdodjoaaGreat
open Go.RowKit
structure Qt where
  Id : Int
  Values : (List Int)
  Born : Int
  Died : Int
instance : Inhabited Qt := ⟨⟨default, default, default, default⟩⟩
def Qii : Ty Qt := Qgf (Qcl Qa (Qcl (tSl Qa 3) (Qcl Qa Qa))) (fun x => (x.Id, x.Values, x.Born, x.Died))
theorem Qwa {w : World} {B : Nat} {cs : List Value} {x : Qt} (h : Qii.rd w B cs x) : ∃ v0, cs = [.int .i64 x.Id, v0, .int .i64 x.Born, .int .i64 x.Died] ∧ rdS Qa w B v0 x.Values := by
  obtain ⟨_, _, rfl, ⟨_, rfl, rfl⟩, ⟨_, _, rfl, ⟨v0, rfl, h0⟩, ⟨_, _, rfl, ⟨_, rfl, rfl⟩, ⟨_, rfl, rfl⟩⟩⟩⟩ := h
  exact ⟨v0, rfl, h0⟩
theorem Qaip {w : World} {B : Nat} {x : Qt} {v0 : Value} (h0 : rdS Qa w B v0 x.Values) : Qii.rd w B [.int .i64 x.Id, v0, .int .i64 x.Born, .int .i64 x.Died] x := ⟨_, _, rfl, ⟨_, rfl, rfl⟩, ⟨_, _, rfl, ⟨_, rfl, h0⟩, ⟨_, _, rfl, ⟨_, rfl, rfl⟩, ⟨_, rfl, rfl⟩⟩⟩⟩
structure Qas where
  Segments : (List (List Qt))
  Now : Int
instance : Inhabited Qas := ⟨⟨default, default⟩⟩
def Qpb : Ty Qas := Qgf (Qcl (tSl (tSl Qii 218) 196) Qa) (fun x => (x.Segments, x.Now))
theorem Qaio {w : World} {B : Nat} {cs : List Value} {x : Qas} (h : Qpb.rd w B cs x) : ∃ v0, cs = [v0, .int .i64 x.Now] ∧ rdS (tSl Qii 218) w B v0 x.Segments := by
  obtain ⟨_, _, rfl, ⟨v0, rfl, h0⟩, ⟨_, rfl, rfl⟩⟩ := h
  exact ⟨v0, rfl, h0⟩
theorem Qain {w : World} {B : Nat} {x : Qas} {v0 : Value} (h0 : rdS (tSl Qii 218) w B v0 x.Segments) : Qpb.rd w B [v0, .int .i64 x.Now] x := ⟨_, _, rfl, ⟨_, rfl, h0⟩, ⟨_, rfl, rfl⟩⟩
structure Qcc where
  Field : Int
  Low : Int
  High : Int
instance : Inhabited Qcc := ⟨⟨default, default, default⟩⟩
def Qji : Ty Qcc := Qgf (Qcl Qa (Qcl Qa Qa)) (fun x => (x.Field, x.Low, x.High))
theorem Qaie {w : World} {B : Nat} {cs : List Value} {x : Qcc} (h : Qji.rd w B cs x) : cs = [.int .i64 x.Field, .int .i64 x.Low, .int .i64 x.High] := by
  obtain ⟨_, _, rfl, ⟨_, rfl, rfl⟩, ⟨_, _, rfl, ⟨_, rfl, rfl⟩, ⟨_, rfl, rfl⟩⟩⟩ := h
  exact rfl
theorem Qbcr {w : World} {B : Nat} {x : Qcc} : Qji.rd w B [.int .i64 x.Field, .int .i64 x.Low, .int .i64 x.High] x := ⟨_, _, rfl, ⟨_, rfl, rfl⟩, ⟨_, _, rfl, ⟨_, rfl, rfl⟩, ⟨_, rfl, rfl⟩⟩⟩
structure Qar where
  Id : Int
  Tenant : Int
  Conds : (List Qcc)
  Out : (List Int)
instance : Inhabited Qar := ⟨⟨default, default, default, default⟩⟩
def Qoe : Ty Qar := Qgf (Qcl Qa (Qcl Qa (Qcl (tSl Qji 240) (tSl Qa 3)))) (fun x => (x.Id, x.Tenant, x.Conds, x.Out))
theorem Qaii {w : World} {B : Nat} {cs : List Value} {x : Qar} (h : Qoe.rd w B cs x) : ∃ v0 v1, cs = [.int .i64 x.Id, .int .i64 x.Tenant, v0, v1] ∧ rdS Qji w B v0 x.Conds ∧ rdS Qa w B v1 x.Out := by
  obtain ⟨_, _, rfl, ⟨_, rfl, rfl⟩, ⟨_, _, rfl, ⟨_, rfl, rfl⟩, ⟨_, _, rfl, ⟨v0, rfl, h0⟩, ⟨v1, rfl, h1⟩⟩⟩⟩ := h
  exact ⟨v0, v1, rfl, h0, h1⟩
theorem Qvy {w : World} {B : Nat} {x : Qar} {v0 v1 : Value} (h0 : rdS Qji w B v0 x.Conds) (h1 : rdS Qa w B v1 x.Out) : Qoe.rd w B [.int .i64 x.Id, .int .i64 x.Tenant, v0, v1] x := ⟨_, _, rfl, ⟨_, rfl, rfl⟩, ⟨_, _, rfl, ⟨_, rfl, rfl⟩, ⟨_, _, rfl, ⟨_, rfl, h0⟩, ⟨_, rfl, h1⟩⟩⟩⟩
structure Qaa where
  Id : Int
  Values : (List Int)
instance : Inhabited Qaa := ⟨⟨default, default⟩⟩
def Qir : Ty Qaa := Qgf (Qcl Qa (tSl Qa 3)) (fun x => (x.Id, x.Values))
theorem Qvz {w : World} {B : Nat} {cs : List Value} {x : Qaa} (h : Qir.rd w B cs x) : ∃ v0, cs = [.int .i64 x.Id, v0] ∧ rdS Qa w B v0 x.Values := by
  obtain ⟨_, _, rfl, ⟨_, rfl, rfl⟩, ⟨v0, rfl, h0⟩⟩ := h
  exact ⟨v0, rfl, h0⟩
theorem Qail {w : World} {B : Nat} {x : Qaa} {v0 : Value} (h0 : rdS Qa w B v0 x.Values) : Qir.rd w B [.int .i64 x.Id, v0] x := ⟨_, _, rfl, ⟨_, rfl, rfl⟩, ⟨_, rfl, h0⟩⟩
structure Qw where
  Query : Qar
  Time : Int
  Todo : (List Int)
  Age : Int
  Sent : Int
  Cap : Int
  Rows : (List Qaa)
instance : Inhabited Qw := ⟨⟨default, default, default, default, default, default, default⟩⟩
def Qlc : Ty Qw := Qgf (Qcl Qoe (Qcl Qa (Qcl (tSl Qa 3) (Qcl Qa (Qcl Qa (Qcl Qa (tSl Qir 221))))))) (fun x => (x.Query, x.Time, x.Todo, x.Age, x.Sent, x.Cap, x.Rows))
theorem Qvv {w : World} {B : Nat} {cs : List Value} {x : Qw} (h : Qlc.rd w B cs x) : ∃ v0 v1 v2 v3, cs = [.int .i64 x.Query.Id, .int .i64 x.Query.Tenant, v0, v1, .int .i64 x.Time, v2, .int .i64 x.Age, .int .i64 x.Sent, .int .i64 x.Cap, v3] ∧ rdS Qji w B v0 x.Query.Conds ∧ rdS Qa w B v1 x.Query.Out ∧ rdS Qa w B v2 x.Todo ∧ rdS Qir w B v3 x.Rows := by
  obtain ⟨_, _, rfl, ⟨_, _, rfl, ⟨_, rfl, rfl⟩, ⟨_, _, rfl, ⟨_, rfl, rfl⟩, ⟨_, _, rfl, ⟨v0, rfl, h0⟩, ⟨v1, rfl, h1⟩⟩⟩⟩, ⟨_, _, rfl, ⟨_, rfl, rfl⟩, ⟨_, _, rfl, ⟨v2, rfl, h2⟩, ⟨_, _, rfl, ⟨_, rfl, rfl⟩, ⟨_, _, rfl, ⟨_, rfl, rfl⟩, ⟨_, _, rfl, ⟨_, rfl, rfl⟩, ⟨v3, rfl, h3⟩⟩⟩⟩⟩⟩⟩ := h
  exact ⟨v0, v1, v2, v3, rfl, h0, h1, h2, h3⟩
theorem Qaic {w : World} {B : Nat} {x : Qw} {v0 v1 v2 v3 : Value} (h0 : rdS Qji w B v0 x.Query.Conds) (h1 : rdS Qa w B v1 x.Query.Out) (h2 : rdS Qa w B v2 x.Todo) (h3 : rdS Qir w B v3 x.Rows) : Qlc.rd w B [.int .i64 x.Query.Id, .int .i64 x.Query.Tenant, v0, v1, .int .i64 x.Time, v2, .int .i64 x.Age, .int .i64 x.Sent, .int .i64 x.Cap, v3] x := ⟨_, _, rfl, ⟨_, _, rfl, ⟨_, rfl, rfl⟩, ⟨_, _, rfl, ⟨_, rfl, rfl⟩, ⟨_, _, rfl, ⟨_, rfl, h0⟩, ⟨_, rfl, h1⟩⟩⟩⟩, ⟨_, _, rfl, ⟨_, rfl, rfl⟩, ⟨_, _, rfl, ⟨_, rfl, h2⟩, ⟨_, _, rfl, ⟨_, rfl, rfl⟩, ⟨_, _, rfl, ⟨_, rfl, rfl⟩, ⟨_, _, rfl, ⟨_, rfl, rfl⟩, ⟨_, rfl, h3⟩⟩⟩⟩⟩⟩⟩
structure Qat where
  Query : Qar
  Time : Int
  Steps : Int
  Rows : (List Qaa)
instance : Inhabited Qat := ⟨⟨default, default, default, default⟩⟩
def Qle : Ty Qat := Qgf (Qcl Qoe (Qcl Qa (Qcl Qa (tSl Qir 221)))) (fun x => (x.Query, x.Time, x.Steps, x.Rows))
theorem Qvx {w : World} {B : Nat} {cs : List Value} {x : Qat} (h : Qle.rd w B cs x) : ∃ v0 v1 v2, cs = [.int .i64 x.Query.Id, .int .i64 x.Query.Tenant, v0, v1, .int .i64 x.Time, .int .i64 x.Steps, v2] ∧ rdS Qji w B v0 x.Query.Conds ∧ rdS Qa w B v1 x.Query.Out ∧ rdS Qir w B v2 x.Rows := by
  obtain ⟨_, _, rfl, ⟨_, _, rfl, ⟨_, rfl, rfl⟩, ⟨_, _, rfl, ⟨_, rfl, rfl⟩, ⟨_, _, rfl, ⟨v0, rfl, h0⟩, ⟨v1, rfl, h1⟩⟩⟩⟩, ⟨_, _, rfl, ⟨_, rfl, rfl⟩, ⟨_, _, rfl, ⟨_, rfl, rfl⟩, ⟨v2, rfl, h2⟩⟩⟩⟩ := h
  exact ⟨v0, v1, v2, rfl, h0, h1, h2⟩
theorem Qaig {w : World} {B : Nat} {x : Qat} {v0 v1 v2 : Value} (h0 : rdS Qji w B v0 x.Query.Conds) (h1 : rdS Qa w B v1 x.Query.Out) (h2 : rdS Qir w B v2 x.Rows) : Qle.rd w B [.int .i64 x.Query.Id, .int .i64 x.Query.Tenant, v0, v1, .int .i64 x.Time, .int .i64 x.Steps, v2] x := ⟨_, _, rfl, ⟨_, _, rfl, ⟨_, rfl, rfl⟩, ⟨_, _, rfl, ⟨_, rfl, rfl⟩, ⟨_, _, rfl, ⟨_, rfl, h0⟩, ⟨_, rfl, h1⟩⟩⟩⟩, ⟨_, _, rfl, ⟨_, rfl, rfl⟩, ⟨_, _, rfl, ⟨_, rfl, rfl⟩, ⟨_, rfl, h2⟩⟩⟩⟩
structure Qbb where
  Segment : Int
  Base : Int
  Ids : (List Int)
  Tenants : (List Int)
  Rows : (List Int)
instance : Inhabited Qbb := ⟨⟨default, default, default, default, default⟩⟩
def Qld : Ty Qbb := Qgf (Qcl Qa (Qcl Qa (Qcl (tSl Qa 3) (Qcl (tSl Qa 3) (tSl Qa 3))))) (fun x => (x.Segment, x.Base, x.Ids, x.Tenants, x.Rows))
theorem Qvw {w : World} {B : Nat} {cs : List Value} {x : Qbb} (h : Qld.rd w B cs x) : ∃ v0 v1 v2, cs = [.int .i64 x.Segment, .int .i64 x.Base, v0, v1, v2] ∧ rdS Qa w B v0 x.Ids ∧ rdS Qa w B v1 x.Tenants ∧ rdS Qa w B v2 x.Rows := by
  obtain ⟨_, _, rfl, ⟨_, rfl, rfl⟩, ⟨_, _, rfl, ⟨_, rfl, rfl⟩, ⟨_, _, rfl, ⟨v0, rfl, h0⟩, ⟨_, _, rfl, ⟨v1, rfl, h1⟩, ⟨v2, rfl, h2⟩⟩⟩⟩⟩ := h
  exact ⟨v0, v1, v2, rfl, h0, h1, h2⟩
theorem Qaid {w : World} {B : Nat} {x : Qbb} {v0 v1 v2 : Value} (h0 : rdS Qa w B v0 x.Ids) (h1 : rdS Qa w B v1 x.Tenants) (h2 : rdS Qa w B v2 x.Rows) : Qld.rd w B [.int .i64 x.Segment, .int .i64 x.Base, v0, v1, v2] x := ⟨_, _, rfl, ⟨_, rfl, rfl⟩, ⟨_, _, rfl, ⟨_, rfl, rfl⟩, ⟨_, _, rfl, ⟨_, rfl, h0⟩, ⟨_, _, rfl, ⟨_, rfl, h1⟩, ⟨_, rfl, h2⟩⟩⟩⟩⟩
structure Qr where
  Store : Qas
  Cursor : Int
  Order : (List Int)
  Active : (List Qw)
  Done : (List Qat)
  Ledger : (List Qbb)
  Steps : Int
instance : Inhabited Qr := ⟨⟨default, default, default, default, default, default, default⟩⟩
def Qpa : Ty Qr := Qgf (Qcl Qpb (Qcl Qa (Qcl (tSl Qa 3) (Qcl (tSl Qlc 147) (Qcl (tSl Qle 150) (Qcl (tSl Qld 152) Qa)))))) (fun x => (x.Store, x.Cursor, x.Order, x.Active, x.Done, x.Ledger, x.Steps))
theorem Qabk {w : World} {B : Nat} {cs : List Value} {x : Qr} (h : Qpa.rd w B cs x) : ∃ v0 v1 v2 v3 v4, cs = [v0, .int .i64 x.Store.Now, .int .i64 x.Cursor, v1, v2, v3, v4, .int .i64 x.Steps] ∧ rdS (tSl Qii 218) w B v0 x.Store.Segments ∧ rdS Qa w B v1 x.Order ∧ rdS Qlc w B v2 x.Active ∧ rdS Qle w B v3 x.Done ∧ rdS Qld w B v4 x.Ledger := by
  obtain ⟨_, _, rfl, ⟨_, _, rfl, ⟨v0, rfl, h0⟩, ⟨_, rfl, rfl⟩⟩, ⟨_, _, rfl, ⟨_, rfl, rfl⟩, ⟨_, _, rfl, ⟨v1, rfl, h1⟩, ⟨_, _, rfl, ⟨v2, rfl, h2⟩, ⟨_, _, rfl, ⟨v3, rfl, h3⟩, ⟨_, _, rfl, ⟨v4, rfl, h4⟩, ⟨_, rfl, rfl⟩⟩⟩⟩⟩⟩⟩ := h
  exact ⟨v0, v1, v2, v3, v4, rfl, h0, h1, h2, h3, h4⟩
theorem Qsz {w : World} {B : Nat} {x : Qr} {v0 v1 v2 v3 v4 : Value} (h0 : rdS (tSl Qii 218) w B v0 x.Store.Segments) (h1 : rdS Qa w B v1 x.Order) (h2 : rdS Qlc w B v2 x.Active) (h3 : rdS Qle w B v3 x.Done) (h4 : rdS Qld w B v4 x.Ledger) : Qpa.rd w B [v0, .int .i64 x.Store.Now, .int .i64 x.Cursor, v1, v2, v3, v4, .int .i64 x.Steps] x := ⟨_, _, rfl, ⟨_, _, rfl, ⟨_, rfl, h0⟩, ⟨_, rfl, rfl⟩⟩, ⟨_, _, rfl, ⟨_, rfl, rfl⟩, ⟨_, _, rfl, ⟨_, rfl, h1⟩, ⟨_, _, rfl, ⟨_, rfl, h2⟩, ⟨_, _, rfl, ⟨_, rfl, h3⟩, ⟨_, _, rfl, ⟨_, rfl, h4⟩, ⟨_, rfl, rfl⟩⟩⟩⟩⟩⟩⟩
def Qag : Ty Qt := Qgf (Qcl Qa (Qcl (tSl Qa 3) (Qcl Qa Qa))) (fun x => (x.Id, x.Values, x.Born, x.Died))
theorem Qfx {w : World} {B : Nat} {cs : List Value} {x : Qt} (h : Qag.rd w B cs x) : ∃ v0, cs = [.int .i64 x.Id, v0, .int .i64 x.Born, .int .i64 x.Died] ∧ rdS Qa w B v0 x.Values := by
  obtain ⟨_, _, rfl, ⟨_, rfl, rfl⟩, ⟨_, _, rfl, ⟨v0, rfl, h0⟩, ⟨_, _, rfl, ⟨_, rfl, rfl⟩, ⟨_, rfl, rfl⟩⟩⟩⟩ := h
  exact ⟨v0, rfl, h0⟩
theorem Qgu {w : World} {B : Nat} {x : Qt} {v0 : Value} (h0 : rdS Qa w B v0 x.Values) : Qag.rd w B [.int .i64 x.Id, v0, .int .i64 x.Born, .int .i64 x.Died] x := ⟨_, _, rfl, ⟨_, rfl, rfl⟩, ⟨_, _, rfl, ⟨_, rfl, h0⟩, ⟨_, _, rfl, ⟨_, rfl, rfl⟩, ⟨_, rfl, rfl⟩⟩⟩⟩
def Qdn : Ty Qas := Qgf (Qcl (tSl (tSl Qag 163) 100) Qa) (fun x => (x.Segments, x.Now))
theorem Qjl {w : World} {B : Nat} {cs : List Value} {x : Qas} (h : Qdn.rd w B cs x) : ∃ v0, cs = [v0, .int .i64 x.Now] ∧ rdS (tSl Qag 163) w B v0 x.Segments := by
  obtain ⟨_, _, rfl, ⟨v0, rfl, h0⟩, ⟨_, rfl, rfl⟩⟩ := h
  exact ⟨v0, rfl, h0⟩
theorem Qfw {w : World} {B : Nat} {x : Qas} {v0 : Value} (h0 : rdS (tSl Qag 163) w B v0 x.Segments) : Qdn.rd w B [v0, .int .i64 x.Now] x := ⟨_, _, rfl, ⟨_, rfl, h0⟩, ⟨_, rfl, rfl⟩⟩
def Qbk : Ty Qcc := Qgf (Qcl Qa (Qcl Qa Qa)) (fun x => (x.Field, x.Low, x.High))
theorem Qjh {w : World} {B : Nat} {cs : List Value} {x : Qcc} (h : Qbk.rd w B cs x) : cs = [.int .i64 x.Field, .int .i64 x.Low, .int .i64 x.High] := by
  obtain ⟨_, _, rfl, ⟨_, rfl, rfl⟩, ⟨_, _, rfl, ⟨_, rfl, rfl⟩, ⟨_, rfl, rfl⟩⟩⟩ := h
  exact rfl
theorem Qvu {w : World} {B : Nat} {x : Qcc} : Qbk.rd w B [.int .i64 x.Field, .int .i64 x.Low, .int .i64 x.High] x := ⟨_, _, rfl, ⟨_, rfl, rfl⟩, ⟨_, _, rfl, ⟨_, rfl, rfl⟩, ⟨_, rfl, rfl⟩⟩⟩
def Qcm : Ty Qar := Qgf (Qcl Qa (Qcl Qa (Qcl (tSl Qbk 180) (tSl Qa 3)))) (fun x => (x.Id, x.Tenant, x.Conds, x.Out))
theorem Qis {w : World} {B : Nat} {cs : List Value} {x : Qar} (h : Qcm.rd w B cs x) : ∃ v0 v1, cs = [.int .i64 x.Id, .int .i64 x.Tenant, v0, v1] ∧ rdS Qbk w B v0 x.Conds ∧ rdS Qa w B v1 x.Out := by
  obtain ⟨_, _, rfl, ⟨_, rfl, rfl⟩, ⟨_, _, rfl, ⟨_, rfl, rfl⟩, ⟨_, _, rfl, ⟨v0, rfl, h0⟩, ⟨v1, rfl, h1⟩⟩⟩⟩ := h
  exact ⟨v0, v1, rfl, h0, h1⟩
theorem Qhd {w : World} {B : Nat} {x : Qar} {v0 v1 : Value} (h0 : rdS Qbk w B v0 x.Conds) (h1 : rdS Qa w B v1 x.Out) : Qcm.rd w B [.int .i64 x.Id, .int .i64 x.Tenant, v0, v1] x := ⟨_, _, rfl, ⟨_, rfl, rfl⟩, ⟨_, _, rfl, ⟨_, rfl, rfl⟩, ⟨_, _, rfl, ⟨_, rfl, h0⟩, ⟨_, rfl, h1⟩⟩⟩⟩
def Qap : Ty Qaa := Qgf (Qcl Qa (tSl Qa 3)) (fun x => (x.Id, x.Values))
theorem Qij {w : World} {B : Nat} {cs : List Value} {x : Qaa} (h : Qap.rd w B cs x) : ∃ v0, cs = [.int .i64 x.Id, v0] ∧ rdS Qa w B v0 x.Values := by
  obtain ⟨_, _, rfl, ⟨_, rfl, rfl⟩, ⟨v0, rfl, h0⟩⟩ := h
  exact ⟨v0, rfl, h0⟩
theorem Qjk {w : World} {B : Nat} {x : Qaa} {v0 : Value} (h0 : rdS Qa w B v0 x.Values) : Qap.rd w B [.int .i64 x.Id, v0] x := ⟨_, _, rfl, ⟨_, rfl, rfl⟩, ⟨_, rfl, h0⟩⟩
def Qah : Ty Qw := Qgf (Qcl Qcm (Qcl Qa (Qcl (tSl Qa 3) (Qcl Qa (Qcl Qa (Qcl Qa (tSl Qap 70))))))) (fun x => (x.Query, x.Time, x.Todo, x.Age, x.Sent, x.Cap, x.Rows))
theorem Qgj {w : World} {B : Nat} {cs : List Value} {x : Qw} (h : Qah.rd w B cs x) : ∃ v0 v1 v2 v3, cs = [.int .i64 x.Query.Id, .int .i64 x.Query.Tenant, v0, v1, .int .i64 x.Time, v2, .int .i64 x.Age, .int .i64 x.Sent, .int .i64 x.Cap, v3] ∧ rdS Qbk w B v0 x.Query.Conds ∧ rdS Qa w B v1 x.Query.Out ∧ rdS Qa w B v2 x.Todo ∧ rdS Qap w B v3 x.Rows := by
  obtain ⟨_, _, rfl, ⟨_, _, rfl, ⟨_, rfl, rfl⟩, ⟨_, _, rfl, ⟨_, rfl, rfl⟩, ⟨_, _, rfl, ⟨v0, rfl, h0⟩, ⟨v1, rfl, h1⟩⟩⟩⟩, ⟨_, _, rfl, ⟨_, rfl, rfl⟩, ⟨_, _, rfl, ⟨v2, rfl, h2⟩, ⟨_, _, rfl, ⟨_, rfl, rfl⟩, ⟨_, _, rfl, ⟨_, rfl, rfl⟩, ⟨_, _, rfl, ⟨_, rfl, rfl⟩, ⟨v3, rfl, h3⟩⟩⟩⟩⟩⟩⟩ := h
  exact ⟨v0, v1, v2, v3, rfl, h0, h1, h2, h3⟩
theorem Qqv {w : World} {B : Nat} {x : Qw} {v0 v1 v2 v3 : Value} (h0 : rdS Qbk w B v0 x.Query.Conds) (h1 : rdS Qa w B v1 x.Query.Out) (h2 : rdS Qa w B v2 x.Todo) (h3 : rdS Qap w B v3 x.Rows) : Qah.rd w B [.int .i64 x.Query.Id, .int .i64 x.Query.Tenant, v0, v1, .int .i64 x.Time, v2, .int .i64 x.Age, .int .i64 x.Sent, .int .i64 x.Cap, v3] x := ⟨_, _, rfl, ⟨_, _, rfl, ⟨_, rfl, rfl⟩, ⟨_, _, rfl, ⟨_, rfl, rfl⟩, ⟨_, _, rfl, ⟨_, rfl, h0⟩, ⟨_, rfl, h1⟩⟩⟩⟩, ⟨_, _, rfl, ⟨_, rfl, rfl⟩, ⟨_, _, rfl, ⟨_, rfl, h2⟩, ⟨_, _, rfl, ⟨_, rfl, rfl⟩, ⟨_, _, rfl, ⟨_, rfl, rfl⟩, ⟨_, _, rfl, ⟨_, rfl, rfl⟩, ⟨_, rfl, h3⟩⟩⟩⟩⟩⟩⟩
def Qax : Ty Qat := Qgf (Qcl Qcm (Qcl Qa (Qcl Qa (tSl Qap 70)))) (fun x => (x.Query, x.Time, x.Steps, x.Rows))
theorem Qlu {w : World} {B : Nat} {cs : List Value} {x : Qat} (h : Qax.rd w B cs x) : ∃ v0 v1 v2, cs = [.int .i64 x.Query.Id, .int .i64 x.Query.Tenant, v0, v1, .int .i64 x.Time, .int .i64 x.Steps, v2] ∧ rdS Qbk w B v0 x.Query.Conds ∧ rdS Qa w B v1 x.Query.Out ∧ rdS Qap w B v2 x.Rows := by
  obtain ⟨_, _, rfl, ⟨_, _, rfl, ⟨_, rfl, rfl⟩, ⟨_, _, rfl, ⟨_, rfl, rfl⟩, ⟨_, _, rfl, ⟨v0, rfl, h0⟩, ⟨v1, rfl, h1⟩⟩⟩⟩, ⟨_, _, rfl, ⟨_, rfl, rfl⟩, ⟨_, _, rfl, ⟨_, rfl, rfl⟩, ⟨v2, rfl, h2⟩⟩⟩⟩ := h
  exact ⟨v0, v1, v2, rfl, h0, h1, h2⟩
theorem Qabi {w : World} {B : Nat} {x : Qat} {v0 v1 v2 : Value} (h0 : rdS Qbk w B v0 x.Query.Conds) (h1 : rdS Qa w B v1 x.Query.Out) (h2 : rdS Qap w B v2 x.Rows) : Qax.rd w B [.int .i64 x.Query.Id, .int .i64 x.Query.Tenant, v0, v1, .int .i64 x.Time, .int .i64 x.Steps, v2] x := ⟨_, _, rfl, ⟨_, _, rfl, ⟨_, rfl, rfl⟩, ⟨_, _, rfl, ⟨_, rfl, rfl⟩, ⟨_, _, rfl, ⟨_, rfl, h0⟩, ⟨_, rfl, h1⟩⟩⟩⟩, ⟨_, _, rfl, ⟨_, rfl, rfl⟩, ⟨_, _, rfl, ⟨_, rfl, rfl⟩, ⟨_, rfl, h2⟩⟩⟩⟩
def Qav : Ty Qbb := Qgf (Qcl Qa (Qcl Qa (Qcl (tSl Qa 3) (Qcl (tSl Qa 3) (tSl Qa 3))))) (fun x => (x.Segment, x.Base, x.Ids, x.Tenants, x.Rows))
theorem Qjg {w : World} {B : Nat} {cs : List Value} {x : Qbb} (h : Qav.rd w B cs x) : ∃ v0 v1 v2, cs = [.int .i64 x.Segment, .int .i64 x.Base, v0, v1, v2] ∧ rdS Qa w B v0 x.Ids ∧ rdS Qa w B v1 x.Tenants ∧ rdS Qa w B v2 x.Rows := by
  obtain ⟨_, _, rfl, ⟨_, rfl, rfl⟩, ⟨_, _, rfl, ⟨_, rfl, rfl⟩, ⟨_, _, rfl, ⟨v0, rfl, h0⟩, ⟨_, _, rfl, ⟨v1, rfl, h1⟩, ⟨v2, rfl, h2⟩⟩⟩⟩⟩ := h
  exact ⟨v0, v1, v2, rfl, h0, h1, h2⟩
theorem Qqw {w : World} {B : Nat} {x : Qbb} {v0 v1 v2 : Value} (h0 : rdS Qa w B v0 x.Ids) (h1 : rdS Qa w B v1 x.Tenants) (h2 : rdS Qa w B v2 x.Rows) : Qav.rd w B [.int .i64 x.Segment, .int .i64 x.Base, v0, v1, v2] x := ⟨_, _, rfl, ⟨_, rfl, rfl⟩, ⟨_, _, rfl, ⟨_, rfl, rfl⟩, ⟨_, _, rfl, ⟨_, rfl, h0⟩, ⟨_, _, rfl, ⟨_, rfl, h1⟩, ⟨_, rfl, h2⟩⟩⟩⟩⟩
def Qcf : Ty Qr := Qgf (Qcl Qdn (Qcl Qa (Qcl (tSl Qa 3) (Qcl (tSl Qah 61) (Qcl (tSl Qax 80) (Qcl (tSl Qav 102) Qa)))))) (fun x => (x.Store, x.Cursor, x.Order, x.Active, x.Done, x.Ledger, x.Steps))
theorem Qiq {w : World} {B : Nat} {cs : List Value} {x : Qr} (h : Qcf.rd w B cs x) : ∃ v0 v1 v2 v3 v4, cs = [v0, .int .i64 x.Store.Now, .int .i64 x.Cursor, v1, v2, v3, v4, .int .i64 x.Steps] ∧ rdS (tSl Qag 163) w B v0 x.Store.Segments ∧ rdS Qa w B v1 x.Order ∧ rdS Qah w B v2 x.Active ∧ rdS Qax w B v3 x.Done ∧ rdS Qav w B v4 x.Ledger := by
  obtain ⟨_, _, rfl, ⟨_, _, rfl, ⟨v0, rfl, h0⟩, ⟨_, rfl, rfl⟩⟩, ⟨_, _, rfl, ⟨_, rfl, rfl⟩, ⟨_, _, rfl, ⟨v1, rfl, h1⟩, ⟨_, _, rfl, ⟨v2, rfl, h2⟩, ⟨_, _, rfl, ⟨v3, rfl, h3⟩, ⟨_, _, rfl, ⟨v4, rfl, h4⟩, ⟨_, rfl, rfl⟩⟩⟩⟩⟩⟩⟩ := h
  exact ⟨v0, v1, v2, v3, v4, rfl, h0, h1, h2, h3, h4⟩
theorem Qff {w : World} {B : Nat} {x : Qr} {v0 v1 v2 v3 v4 : Value} (h0 : rdS (tSl Qag 163) w B v0 x.Store.Segments) (h1 : rdS Qa w B v1 x.Order) (h2 : rdS Qah w B v2 x.Active) (h3 : rdS Qax w B v3 x.Done) (h4 : rdS Qav w B v4 x.Ledger) : Qcf.rd w B [v0, .int .i64 x.Store.Now, .int .i64 x.Cursor, v1, v2, v3, v4, .int .i64 x.Steps] x := ⟨_, _, rfl, ⟨_, _, rfl, ⟨_, rfl, h0⟩, ⟨_, rfl, rfl⟩⟩, ⟨_, _, rfl, ⟨_, rfl, rfl⟩, ⟨_, _, rfl, ⟨_, rfl, h1⟩, ⟨_, _, rfl, ⟨_, rfl, h2⟩, ⟨_, _, rfl, ⟨_, rfl, h3⟩, ⟨_, _, rfl, ⟨_, rfl, h4⟩, ⟨_, rfl, rfl⟩⟩⟩⟩⟩⟩⟩
structure Qaju where
  Kind : Int
  Row : Qaa
  Field : Int
  Value : Int
instance : Inhabited Qaju := ⟨⟨default, default, default, default⟩⟩
structure Qajv where
  i : Nat
  h : Int
instance : Inhabited Qajv := ⟨⟨default, default⟩⟩
structure Qcp where
  From : Int
  To : Int
  Set : (List Int)
instance : Inhabited Qcp := ⟨⟨default, default, default⟩⟩
def Qeq : Ty Qcp := Qgf (Qcl Qa (Qcl Qa (tSl Qa 3))) (fun x => (x.From, x.To, x.Set))
theorem Qbdb {w : World} {B : Nat} {cs : List Value} {x : Qcp} (h : Qeq.rd w B cs x) : ∃ v0, cs = [.int .i64 x.From, .int .i64 x.To, v0] ∧ rdS Qa w B v0 x.Set := by
  obtain ⟨_, _, rfl, ⟨_, rfl, rfl⟩, ⟨_, _, rfl, ⟨_, rfl, rfl⟩, ⟨v0, rfl, h0⟩⟩⟩ := h
  exact ⟨v0, rfl, h0⟩
structure Qgk where
  Queries : (List Qar)
  Fields : (List (List Qcp))
instance : Inhabited Qgk := ⟨⟨default, default⟩⟩
def Qmq : Ty Qgk := Qgf (Qcl (tSl Qcm 58) (tSl (tSl Qeq 238) 225)) (fun x => (x.Queries, x.Fields))
theorem Qbcj {w : World} {B : Nat} {cs : List Value} {x : Qgk} (h : Qmq.rd w B cs x) : ∃ v0 v1, cs = [v0, v1] ∧ rdS Qcm w B v0 x.Queries ∧ rdS (tSl Qeq 238) w B v1 x.Fields := by
  obtain ⟨_, _, rfl, ⟨v0, rfl, h0⟩, ⟨v1, rfl, h1⟩⟩ := h
  exact ⟨v0, v1, rfl, h0, h1⟩
theorem Qbci {w : World} {B : Nat} {x : Qgk} {v0 v1 : Value} (h0 : rdS Qcm w B v0 x.Queries) (h1 : rdS (tSl Qeq 238) w B v1 x.Fields) : Qmq.rd w B [v0, v1] x := ⟨_, _, rfl, ⟨_, rfl, h0⟩, ⟨_, rfl, h1⟩⟩
def Qif (B : Nat) (x : Qt) : Prop := x.Values.length ≤ B
def Qgs (B : Nat) (x : Qas) : Prop := (x.Segments.length ≤ B ∧ ∀ y ∈ x.Segments, (y.length ≤ B ∧ ∀ y1 ∈ y, Qif B y1))
def Qft (B : Nat) (x : Qar) : Prop := x.Conds.length ≤ B ∧ x.Out.length ≤ B
def Qgr (B : Nat) (x : Qaa) : Prop := x.Values.length ≤ B
def Qjy (B : Nat) (x : Qw) : Prop := Qft B x.Query ∧ x.Todo.length ≤ B ∧ (x.Rows.length ≤ B ∧ ∀ y ∈ x.Rows, Qgr B y)
def Qjz (B : Nat) (x : Qat) : Prop := Qft B x.Query ∧ (x.Rows.length ≤ B ∧ ∀ y ∈ x.Rows, Qgr B y)
def Qip (B : Nat) (x : Qbb) : Prop := x.Ids.length ≤ B ∧ x.Tenants.length ≤ B ∧ x.Rows.length ≤ B
def Qgc (B : Nat) (x : Qr) : Prop := Qgs B x.Store ∧ x.Order.length ≤ B ∧ (x.Active.length ≤ B ∧ ∀ y ∈ x.Active, Qjy B y) ∧ (x.Done.length ≤ B ∧ ∀ y ∈ x.Done, Qjz B y) ∧ (x.Ledger.length ≤ B ∧ ∀ y ∈ x.Ledger, Qip B y)
theorem Qair {w : World} {L : List Nat} {cs : List Value} {x : Qt} (h : Qag.own w L cs x) : ∃ g : Value, cs = [.int .i64 x.Id, g, .int .i64 x.Born, .int .i64 x.Died] ∧ Sep [Qm (tSl Qa 3) [g] x.Values] w L := by
  obtain ⟨_, _, _, _, rfl, rfl, ⟨rfl, _, rfl, rfl⟩, ⟨_, _, _, _, rfl, rfl, ⟨v0, rfl, h0⟩, ⟨_, _, _, _, rfl, rfl, ⟨rfl, _, rfl, rfl⟩, ⟨rfl, _, rfl, rfl⟩⟩⟩⟩ := h
  exact ⟨v0, rfl, Sep.cast (⟨_, [], (List.append_nil _).symm, ⟨_, rfl, h0⟩, rfl⟩) (by simp)⟩
theorem Qta {P : Program} {N B : Nat} {w0 : World} {Q : Exit → Act → World → Prop} {L : List (Nat × Value)} {is : List It} {ops : Array Oper} {l : List Oper} {z : List Value} {x : Qt} (h : ∀ g : Value, z = [.int .i64 x.Id, g, .int .i64 x.Born, .int .i64 x.Died] → WM P N B w0 ops Q l L (Qm (tSl Qa 3) [g] x.Values :: is)) : WM P N B w0 ops Q l L (Qm Qag z x :: is) := Qit (γ := Value) (js := fun g => [Qm (tSl Qa 3) [g] x.Values]) (C := fun g => z = [.int .i64 x.Id, g, .int .i64 x.Born, .int .i64 x.Died]) (fun _ _ h => Qair h) h
theorem Qlf {w : World} {L : List Nat} {x : Qt} {v0 : Value} (h : Sep [Qm (tSl Qa 3) [v0] x.Values] w L) : Qag.own w L [.int .i64 x.Id, v0, .int .i64 x.Born, .int .i64 x.Died] x := by
  obtain ⟨L0, K0, rfl, h0, s0⟩ := Sep.cons h
  cases (Sep.nil s0)
  exact Qkw (T := Qag) (cs := [.int .i64 x.Id, v0, .int .i64 x.Born, .int .i64 x.Died]) (x := x) ⟨_, _, _, _, rfl, rfl, Qck, ⟨_, _, _, _, rfl, rfl, h0, ⟨_, _, _, _, rfl, rfl, Qck, Qck⟩⟩⟩ (by simp)
theorem Qaiq {w : World} {L : List Nat} {cs : List Value} {x : Qas} (h : Qdn.own w L cs x) : ∃ g : Value, cs = [g, .int .i64 x.Now] ∧ Sep [Qm (tSl (tSl Qag 163) 100) [g] x.Segments] w L := by
  obtain ⟨_, _, _, _, rfl, rfl, ⟨v0, rfl, h0⟩, ⟨rfl, _, rfl, rfl⟩⟩ := h
  exact ⟨v0, rfl, Sep.cast (⟨_, [], (List.append_nil _).symm, ⟨_, rfl, h0⟩, rfl⟩) (by simp)⟩
theorem Qjm {P : Program} {N B : Nat} {w0 : World} {Q : Exit → Act → World → Prop} {L : List (Nat × Value)} {is : List It} {ops : Array Oper} {l : List Oper} {z : List Value} {x : Qas} (h : ∀ g : Value, z = [g, .int .i64 x.Now] → WM P N B w0 ops Q l L (Qm (tSl (tSl Qag 163) 100) [g] x.Segments :: is)) : WM P N B w0 ops Q l L (Qm Qdn z x :: is) := Qit (γ := Value) (js := fun g => [Qm (tSl (tSl Qag 163) 100) [g] x.Segments]) (C := fun g => z = [g, .int .i64 x.Now]) (fun _ _ h => Qaiq h) h
theorem Qms {w : World} {L : List Nat} {x : Qas} {v0 : Value} (h : Sep [Qm (tSl (tSl Qag 163) 100) [v0] x.Segments] w L) : Qdn.own w L [v0, .int .i64 x.Now] x := by
  obtain ⟨L0, K0, rfl, h0, s0⟩ := Sep.cons h
  cases (Sep.nil s0)
  exact Qkw (T := Qdn) (cs := [v0, .int .i64 x.Now]) (x := x) ⟨_, _, _, _, rfl, rfl, h0, Qck⟩ (by simp)
theorem Qbcg {w : World} {L : List Nat} {cs : List Value} {x : Qcc} (h : Qbk.own w L cs x) : ∃ _ : Unit, cs = [.int .i64 x.Field, .int .i64 x.Low, .int .i64 x.High] ∧ Sep [] w L := by
  obtain ⟨_, _, _, _, rfl, rfl, ⟨rfl, _, rfl, rfl⟩, ⟨_, _, _, _, rfl, rfl, ⟨rfl, _, rfl, rfl⟩, ⟨rfl, _, rfl, rfl⟩⟩⟩ := h
  exact ⟨(), rfl, Sep.cast (rfl) (by simp)⟩
theorem Qaia {P : Program} {N B : Nat} {w0 : World} {Q : Exit → Act → World → Prop} {L : List (Nat × Value)} {is : List It} {ops : Array Oper} {l : List Oper} {z : List Value} {x : Qcc} (h : ∀ _ : Unit, z = [.int .i64 x.Field, .int .i64 x.Low, .int .i64 x.High] → WM P N B w0 ops Q l L (is)) : WM P N B w0 ops Q l L (Qm Qbk z x :: is) := Qit (γ := Unit) (js := fun _ => []) (C := fun _ => z = [.int .i64 x.Field, .int .i64 x.Low, .int .i64 x.High]) (fun _ _ h => Qbcg h) h
theorem Qabh {w : World} {L : List Nat} {x : Qcc} (h : Sep [] w L) : Qbk.own w L [.int .i64 x.Field, .int .i64 x.Low, .int .i64 x.High] x := by
  cases (Sep.nil h)
  exact Qkw (T := Qbk) (cs := [.int .i64 x.Field, .int .i64 x.Low, .int .i64 x.High]) (x := x) ⟨_, _, _, _, rfl, rfl, Qck, ⟨_, _, _, _, rfl, rfl, Qck, Qck⟩⟩ (by simp)
theorem Qbcz {w : World} {L : List Nat} {cs : List Value} {x : Qar} (h : Qcm.own w L cs x) : ∃ g : Value × Value, cs = [.int .i64 x.Id, .int .i64 x.Tenant, g.1, g.2] ∧ Sep [Qm (tSl Qbk 180) [g.1] x.Conds, Qm (tSl Qa 3) [g.2] x.Out] w L := by
  obtain ⟨_, _, _, _, rfl, rfl, ⟨rfl, _, rfl, rfl⟩, ⟨_, _, _, _, rfl, rfl, ⟨rfl, _, rfl, rfl⟩, ⟨_, _, _, _, rfl, rfl, ⟨v0, rfl, h0⟩, ⟨v1, rfl, h1⟩⟩⟩⟩ := h
  exact ⟨(v0, v1), rfl, Sep.cast (⟨_, _, rfl, ⟨_, rfl, h0⟩, ⟨_, [], (List.append_nil _).symm, ⟨_, rfl, h1⟩, rfl⟩⟩) (by simp)⟩
theorem Qpc {P : Program} {N B : Nat} {w0 : World} {Q : Exit → Act → World → Prop} {L : List (Nat × Value)} {is : List It} {ops : Array Oper} {l : List Oper} {z : List Value} {x : Qar} (h : ∀ g : Value × Value, z = [.int .i64 x.Id, .int .i64 x.Tenant, g.1, g.2] → WM P N B w0 ops Q l L (Qm (tSl Qbk 180) [g.1] x.Conds :: Qm (tSl Qa 3) [g.2] x.Out :: is)) : WM P N B w0 ops Q l L (Qm Qcm z x :: is) := Qit (γ := Value × Value) (js := fun g => [Qm (tSl Qbk 180) [g.1] x.Conds, Qm (tSl Qa 3) [g.2] x.Out]) (C := fun g => z = [.int .i64 x.Id, .int .i64 x.Tenant, g.1, g.2]) (fun _ _ h => Qbcz h) h
theorem Qwb {w : World} {L : List Nat} {x : Qar} {v0 v1 : Value} (h : Sep [Qm (tSl Qbk 180) [v0] x.Conds, Qm (tSl Qa 3) [v1] x.Out] w L) : Qcm.own w L [.int .i64 x.Id, .int .i64 x.Tenant, v0, v1] x := by
  obtain ⟨L0, K0, rfl, h0, s0⟩ := Sep.cons h
  obtain ⟨L1, K1, rfl, h1, s1⟩ := Sep.cons s0
  cases (Sep.nil s1)
  exact Qkw (T := Qcm) (cs := [.int .i64 x.Id, .int .i64 x.Tenant, v0, v1]) (x := x) ⟨_, _, _, _, rfl, rfl, Qck, ⟨_, _, _, _, rfl, rfl, Qck, ⟨_, _, _, _, rfl, rfl, h0, h1⟩⟩⟩ (by simp)
theorem Qbda {w : World} {L : List Nat} {cs : List Value} {x : Qaa} (h : Qap.own w L cs x) : ∃ g : Value, cs = [.int .i64 x.Id, g] ∧ Sep [Qm (tSl Qa 3) [g] x.Values] w L := by
  obtain ⟨_, _, _, _, rfl, rfl, ⟨rfl, _, rfl, rfl⟩, ⟨v0, rfl, h0⟩⟩ := h
  exact ⟨v0, rfl, Sep.cast (⟨_, [], (List.append_nil _).symm, ⟨_, rfl, h0⟩, rfl⟩) (by simp)⟩
theorem Qmr {P : Program} {N B : Nat} {w0 : World} {Q : Exit → Act → World → Prop} {L : List (Nat × Value)} {is : List It} {ops : Array Oper} {l : List Oper} {z : List Value} {x : Qaa} (h : ∀ g : Value, z = [.int .i64 x.Id, g] → WM P N B w0 ops Q l L (Qm (tSl Qa 3) [g] x.Values :: is)) : WM P N B w0 ops Q l L (Qm Qap z x :: is) := Qit (γ := Value) (js := fun g => [Qm (tSl Qa 3) [g] x.Values]) (C := fun g => z = [.int .i64 x.Id, g]) (fun _ _ h => Qbda h) h
theorem Qjj {w : World} {L : List Nat} {x : Qaa} {v0 : Value} (h : Sep [Qm (tSl Qa 3) [v0] x.Values] w L) : Qap.own w L [.int .i64 x.Id, v0] x := by
  obtain ⟨L0, K0, rfl, h0, s0⟩ := Sep.cons h
  cases (Sep.nil s0)
  exact Qkw (T := Qap) (cs := [.int .i64 x.Id, v0]) (x := x) ⟨_, _, _, _, rfl, rfl, Qck, h0⟩ (by simp)
theorem Qvs {w : World} {L : List Nat} {cs : List Value} {x : Qw} (h : Qah.own w L cs x) : ∃ g : Value × Value × Value × Value, cs = [.int .i64 x.Query.Id, .int .i64 x.Query.Tenant, g.1, g.2.1, .int .i64 x.Time, g.2.2.1, .int .i64 x.Age, .int .i64 x.Sent, .int .i64 x.Cap, g.2.2.2] ∧ Sep [Qm (tSl Qbk 180) [g.1] x.Query.Conds, Qm (tSl Qa 3) [g.2.1] x.Query.Out, Qm (tSl Qa 3) [g.2.2.1] x.Todo, Qm (tSl Qap 70) [g.2.2.2] x.Rows] w L := by
  obtain ⟨_, _, _, _, rfl, rfl, ⟨_, _, _, _, rfl, rfl, ⟨rfl, _, rfl, rfl⟩, ⟨_, _, _, _, rfl, rfl, ⟨rfl, _, rfl, rfl⟩, ⟨_, _, _, _, rfl, rfl, ⟨v0, rfl, h0⟩, ⟨v1, rfl, h1⟩⟩⟩⟩, ⟨_, _, _, _, rfl, rfl, ⟨rfl, _, rfl, rfl⟩, ⟨_, _, _, _, rfl, rfl, ⟨v2, rfl, h2⟩, ⟨_, _, _, _, rfl, rfl, ⟨rfl, _, rfl, rfl⟩, ⟨_, _, _, _, rfl, rfl, ⟨rfl, _, rfl, rfl⟩, ⟨_, _, _, _, rfl, rfl, ⟨rfl, _, rfl, rfl⟩, ⟨v3, rfl, h3⟩⟩⟩⟩⟩⟩⟩ := h
  exact ⟨(v0, v1, v2, v3), rfl, Sep.cast (⟨_, _, rfl, ⟨_, rfl, h0⟩, ⟨_, _, rfl, ⟨_, rfl, h1⟩, ⟨_, _, rfl, ⟨_, rfl, h2⟩, ⟨_, [], (List.append_nil _).symm, ⟨_, rfl, h3⟩, rfl⟩⟩⟩⟩) (by simp)⟩
theorem Qod {P : Program} {N B : Nat} {w0 : World} {Q : Exit → Act → World → Prop} {L : List (Nat × Value)} {is : List It} {ops : Array Oper} {l : List Oper} {z : List Value} {x : Qw} (h : ∀ g : Value × Value × Value × Value, z = [.int .i64 x.Query.Id, .int .i64 x.Query.Tenant, g.1, g.2.1, .int .i64 x.Time, g.2.2.1, .int .i64 x.Age, .int .i64 x.Sent, .int .i64 x.Cap, g.2.2.2] → WM P N B w0 ops Q l L (Qm (tSl Qbk 180) [g.1] x.Query.Conds :: Qm (tSl Qa 3) [g.2.1] x.Query.Out :: Qm (tSl Qa 3) [g.2.2.1] x.Todo :: Qm (tSl Qap 70) [g.2.2.2] x.Rows :: is)) : WM P N B w0 ops Q l L (Qm Qah z x :: is) := Qit (γ := Value × Value × Value × Value) (js := fun g => [Qm (tSl Qbk 180) [g.1] x.Query.Conds, Qm (tSl Qa 3) [g.2.1] x.Query.Out, Qm (tSl Qa 3) [g.2.2.1] x.Todo, Qm (tSl Qap 70) [g.2.2.2] x.Rows]) (C := fun g => z = [.int .i64 x.Query.Id, .int .i64 x.Query.Tenant, g.1, g.2.1, .int .i64 x.Time, g.2.2.1, .int .i64 x.Age, .int .i64 x.Sent, .int .i64 x.Cap, g.2.2.2]) (fun _ _ h => Qvs h) h
theorem Qhl {w : World} {L : List Nat} {x : Qw} {v0 v1 v2 v3 : Value} (h : Sep [Qm (tSl Qbk 180) [v0] x.Query.Conds, Qm (tSl Qa 3) [v1] x.Query.Out, Qm (tSl Qa 3) [v2] x.Todo, Qm (tSl Qap 70) [v3] x.Rows] w L) : Qah.own w L [.int .i64 x.Query.Id, .int .i64 x.Query.Tenant, v0, v1, .int .i64 x.Time, v2, .int .i64 x.Age, .int .i64 x.Sent, .int .i64 x.Cap, v3] x := by
  obtain ⟨L0, K0, rfl, h0, s0⟩ := Sep.cons h
  obtain ⟨L1, K1, rfl, h1, s1⟩ := Sep.cons s0
  obtain ⟨L2, K2, rfl, h2, s2⟩ := Sep.cons s1
  obtain ⟨L3, K3, rfl, h3, s3⟩ := Sep.cons s2
  cases (Sep.nil s3)
  exact Qkw (T := Qah) (cs := [.int .i64 x.Query.Id, .int .i64 x.Query.Tenant, v0, v1, .int .i64 x.Time, v2, .int .i64 x.Age, .int .i64 x.Sent, .int .i64 x.Cap, v3]) (x := x) ⟨_, _, _, _, rfl, rfl, ⟨_, _, _, _, rfl, rfl, Qck, ⟨_, _, _, _, rfl, rfl, Qck, ⟨_, _, _, _, rfl, rfl, h0, h1⟩⟩⟩, ⟨_, _, _, _, rfl, rfl, Qck, ⟨_, _, _, _, rfl, rfl, h2, ⟨_, _, _, _, rfl, rfl, Qck, ⟨_, _, _, _, rfl, rfl, Qck, ⟨_, _, _, _, rfl, rfl, Qck, h3⟩⟩⟩⟩⟩⟩ (by simp)
theorem Qbch {w : World} {L : List Nat} {cs : List Value} {x : Qat} (h : Qax.own w L cs x) : ∃ g : Value × Value × Value, cs = [.int .i64 x.Query.Id, .int .i64 x.Query.Tenant, g.1, g.2.1, .int .i64 x.Time, .int .i64 x.Steps, g.2.2] ∧ Sep [Qm (tSl Qbk 180) [g.1] x.Query.Conds, Qm (tSl Qa 3) [g.2.1] x.Query.Out, Qm (tSl Qap 70) [g.2.2] x.Rows] w L := by
  obtain ⟨_, _, _, _, rfl, rfl, ⟨_, _, _, _, rfl, rfl, ⟨rfl, _, rfl, rfl⟩, ⟨_, _, _, _, rfl, rfl, ⟨rfl, _, rfl, rfl⟩, ⟨_, _, _, _, rfl, rfl, ⟨v0, rfl, h0⟩, ⟨v1, rfl, h1⟩⟩⟩⟩, ⟨_, _, _, _, rfl, rfl, ⟨rfl, _, rfl, rfl⟩, ⟨_, _, _, _, rfl, rfl, ⟨rfl, _, rfl, rfl⟩, ⟨v2, rfl, h2⟩⟩⟩⟩ := h
  exact ⟨(v0, v1, v2), rfl, Sep.cast (⟨_, _, rfl, ⟨_, rfl, h0⟩, ⟨_, _, rfl, ⟨_, rfl, h1⟩, ⟨_, [], (List.append_nil _).symm, ⟨_, rfl, h2⟩, rfl⟩⟩⟩) (by simp)⟩
theorem Qabj {P : Program} {N B : Nat} {w0 : World} {Q : Exit → Act → World → Prop} {L : List (Nat × Value)} {is : List It} {ops : Array Oper} {l : List Oper} {z : List Value} {x : Qat} (h : ∀ g : Value × Value × Value, z = [.int .i64 x.Query.Id, .int .i64 x.Query.Tenant, g.1, g.2.1, .int .i64 x.Time, .int .i64 x.Steps, g.2.2] → WM P N B w0 ops Q l L (Qm (tSl Qbk 180) [g.1] x.Query.Conds :: Qm (tSl Qa 3) [g.2.1] x.Query.Out :: Qm (tSl Qap 70) [g.2.2] x.Rows :: is)) : WM P N B w0 ops Q l L (Qm Qax z x :: is) := Qit (γ := Value × Value × Value) (js := fun g => [Qm (tSl Qbk 180) [g.1] x.Query.Conds, Qm (tSl Qa 3) [g.2.1] x.Query.Out, Qm (tSl Qap 70) [g.2.2] x.Rows]) (C := fun g => z = [.int .i64 x.Query.Id, .int .i64 x.Query.Tenant, g.1, g.2.1, .int .i64 x.Time, .int .i64 x.Steps, g.2.2]) (fun _ _ h => Qbch h) h
theorem Qlt {w : World} {L : List Nat} {x : Qat} {v0 v1 v2 : Value} (h : Sep [Qm (tSl Qbk 180) [v0] x.Query.Conds, Qm (tSl Qa 3) [v1] x.Query.Out, Qm (tSl Qap 70) [v2] x.Rows] w L) : Qax.own w L [.int .i64 x.Query.Id, .int .i64 x.Query.Tenant, v0, v1, .int .i64 x.Time, .int .i64 x.Steps, v2] x := by
  obtain ⟨L0, K0, rfl, h0, s0⟩ := Sep.cons h
  obtain ⟨L1, K1, rfl, h1, s1⟩ := Sep.cons s0
  obtain ⟨L2, K2, rfl, h2, s2⟩ := Sep.cons s1
  cases (Sep.nil s2)
  exact Qkw (T := Qax) (cs := [.int .i64 x.Query.Id, .int .i64 x.Query.Tenant, v0, v1, .int .i64 x.Time, .int .i64 x.Steps, v2]) (x := x) ⟨_, _, _, _, rfl, rfl, ⟨_, _, _, _, rfl, rfl, Qck, ⟨_, _, _, _, rfl, rfl, Qck, ⟨_, _, _, _, rfl, rfl, h0, h1⟩⟩⟩, ⟨_, _, _, _, rfl, rfl, Qck, ⟨_, _, _, _, rfl, rfl, Qck, h2⟩⟩⟩ (by simp)
theorem Qbcf {w : World} {L : List Nat} {cs : List Value} {x : Qbb} (h : Qav.own w L cs x) : ∃ g : Value × Value × Value, cs = [.int .i64 x.Segment, .int .i64 x.Base, g.1, g.2.1, g.2.2] ∧ Sep [Qm (tSl Qa 3) [g.1] x.Ids, Qm (tSl Qa 3) [g.2.1] x.Tenants, Qm (tSl Qa 3) [g.2.2] x.Rows] w L := by
  obtain ⟨_, _, _, _, rfl, rfl, ⟨rfl, _, rfl, rfl⟩, ⟨_, _, _, _, rfl, rfl, ⟨rfl, _, rfl, rfl⟩, ⟨_, _, _, _, rfl, rfl, ⟨v0, rfl, h0⟩, ⟨_, _, _, _, rfl, rfl, ⟨v1, rfl, h1⟩, ⟨v2, rfl, h2⟩⟩⟩⟩⟩ := h
  exact ⟨(v0, v1, v2), rfl, Sep.cast (⟨_, _, rfl, ⟨_, rfl, h0⟩, ⟨_, _, rfl, ⟨_, rfl, h1⟩, ⟨_, [], (List.append_nil _).symm, ⟨_, rfl, h2⟩, rfl⟩⟩⟩) (by simp)⟩
theorem Qvt {P : Program} {N B : Nat} {w0 : World} {Q : Exit → Act → World → Prop} {L : List (Nat × Value)} {is : List It} {ops : Array Oper} {l : List Oper} {z : List Value} {x : Qbb} (h : ∀ g : Value × Value × Value, z = [.int .i64 x.Segment, .int .i64 x.Base, g.1, g.2.1, g.2.2] → WM P N B w0 ops Q l L (Qm (tSl Qa 3) [g.1] x.Ids :: Qm (tSl Qa 3) [g.2.1] x.Tenants :: Qm (tSl Qa 3) [g.2.2] x.Rows :: is)) : WM P N B w0 ops Q l L (Qm Qav z x :: is) := Qit (γ := Value × Value × Value) (js := fun g => [Qm (tSl Qa 3) [g.1] x.Ids, Qm (tSl Qa 3) [g.2.1] x.Tenants, Qm (tSl Qa 3) [g.2.2] x.Rows]) (C := fun g => z = [.int .i64 x.Segment, .int .i64 x.Base, g.1, g.2.1, g.2.2]) (fun _ _ h => Qbcf h) h
theorem Qmp {w : World} {L : List Nat} {x : Qbb} {v0 v1 v2 : Value} (h : Sep [Qm (tSl Qa 3) [v0] x.Ids, Qm (tSl Qa 3) [v1] x.Tenants, Qm (tSl Qa 3) [v2] x.Rows] w L) : Qav.own w L [.int .i64 x.Segment, .int .i64 x.Base, v0, v1, v2] x := by
  obtain ⟨L0, K0, rfl, h0, s0⟩ := Sep.cons h
  obtain ⟨L1, K1, rfl, h1, s1⟩ := Sep.cons s0
  obtain ⟨L2, K2, rfl, h2, s2⟩ := Sep.cons s1
  cases (Sep.nil s2)
  exact Qkw (T := Qav) (cs := [.int .i64 x.Segment, .int .i64 x.Base, v0, v1, v2]) (x := x) ⟨_, _, _, _, rfl, rfl, Qck, ⟨_, _, _, _, rfl, rfl, Qck, ⟨_, _, _, _, rfl, rfl, h0, ⟨_, _, _, _, rfl, rfl, h1, h2⟩⟩⟩⟩ (by simp)
theorem Qqx {w : World} {L : List Nat} {cs : List Value} {x : Qr} (h : Qcf.own w L cs x) : ∃ g : Value × Value × Value × Value × Value, cs = [g.1, .int .i64 x.Store.Now, .int .i64 x.Cursor, g.2.1, g.2.2.1, g.2.2.2.1, g.2.2.2.2, .int .i64 x.Steps] ∧ Sep [Qm (tSl (tSl Qag 163) 100) [g.1] x.Store.Segments, Qm (tSl Qa 3) [g.2.1] x.Order, Qm (tSl Qah 61) [g.2.2.1] x.Active, Qm (tSl Qax 80) [g.2.2.2.1] x.Done, Qm (tSl Qav 102) [g.2.2.2.2] x.Ledger] w L := by
  obtain ⟨_, _, _, _, rfl, rfl, ⟨_, _, _, _, rfl, rfl, ⟨v0, rfl, h0⟩, ⟨rfl, _, rfl, rfl⟩⟩, ⟨_, _, _, _, rfl, rfl, ⟨rfl, _, rfl, rfl⟩, ⟨_, _, _, _, rfl, rfl, ⟨v1, rfl, h1⟩, ⟨_, _, _, _, rfl, rfl, ⟨v2, rfl, h2⟩, ⟨_, _, _, _, rfl, rfl, ⟨v3, rfl, h3⟩, ⟨_, _, _, _, rfl, rfl, ⟨v4, rfl, h4⟩, ⟨rfl, _, rfl, rfl⟩⟩⟩⟩⟩⟩⟩ := h
  exact ⟨(v0, v1, v2, v3, v4), rfl, Sep.cast (⟨_, _, rfl, ⟨_, rfl, h0⟩, ⟨_, _, rfl, ⟨_, rfl, h1⟩, ⟨_, _, rfl, ⟨_, rfl, h2⟩, ⟨_, _, rfl, ⟨_, rfl, h3⟩, ⟨_, [], (List.append_nil _).symm, ⟨_, rfl, h4⟩, rfl⟩⟩⟩⟩⟩) (by simp)⟩
theorem Qih {P : Program} {N B : Nat} {w0 : World} {Q : Exit → Act → World → Prop} {L : List (Nat × Value)} {is : List It} {ops : Array Oper} {l : List Oper} {z : List Value} {x : Qr} (h : ∀ g : Value × Value × Value × Value × Value, z = [g.1, .int .i64 x.Store.Now, .int .i64 x.Cursor, g.2.1, g.2.2.1, g.2.2.2.1, g.2.2.2.2, .int .i64 x.Steps] → WM P N B w0 ops Q l L (Qm (tSl (tSl Qag 163) 100) [g.1] x.Store.Segments :: Qm (tSl Qa 3) [g.2.1] x.Order :: Qm (tSl Qah 61) [g.2.2.1] x.Active :: Qm (tSl Qax 80) [g.2.2.2.1] x.Done :: Qm (tSl Qav 102) [g.2.2.2.2] x.Ledger :: is)) : WM P N B w0 ops Q l L (Qm Qcf z x :: is) := Qit (γ := Value × Value × Value × Value × Value) (js := fun g => [Qm (tSl (tSl Qag 163) 100) [g.1] x.Store.Segments, Qm (tSl Qa 3) [g.2.1] x.Order, Qm (tSl Qah 61) [g.2.2.1] x.Active, Qm (tSl Qax 80) [g.2.2.2.1] x.Done, Qm (tSl Qav 102) [g.2.2.2.2] x.Ledger]) (C := fun g => z = [g.1, .int .i64 x.Store.Now, .int .i64 x.Cursor, g.2.1, g.2.2.1, g.2.2.2.1, g.2.2.2.2, .int .i64 x.Steps]) (fun _ _ h => Qqx h) h
theorem Qfo {w : World} {L : List Nat} {x : Qr} {v0 v1 v2 v3 v4 : Value} (h : Sep [Qm (tSl (tSl Qag 163) 100) [v0] x.Store.Segments, Qm (tSl Qa 3) [v1] x.Order, Qm (tSl Qah 61) [v2] x.Active, Qm (tSl Qax 80) [v3] x.Done, Qm (tSl Qav 102) [v4] x.Ledger] w L) : Qcf.own w L [v0, .int .i64 x.Store.Now, .int .i64 x.Cursor, v1, v2, v3, v4, .int .i64 x.Steps] x := by
  obtain ⟨L0, K0, rfl, h0, s0⟩ := Sep.cons h
  obtain ⟨L1, K1, rfl, h1, s1⟩ := Sep.cons s0
  obtain ⟨L2, K2, rfl, h2, s2⟩ := Sep.cons s1
  obtain ⟨L3, K3, rfl, h3, s3⟩ := Sep.cons s2
  obtain ⟨L4, K4, rfl, h4, s4⟩ := Sep.cons s3
  cases (Sep.nil s4)
  exact Qkw (T := Qcf) (cs := [v0, .int .i64 x.Store.Now, .int .i64 x.Cursor, v1, v2, v3, v4, .int .i64 x.Steps]) (x := x) ⟨_, _, _, _, rfl, rfl, ⟨_, _, _, _, rfl, rfl, h0, Qck⟩, ⟨_, _, _, _, rfl, rfl, Qck, ⟨_, _, _, _, rfl, rfl, h1, ⟨_, _, _, _, rfl, rfl, h2, ⟨_, _, _, _, rfl, rfl, h3, ⟨_, _, _, _, rfl, rfl, h4, Qck⟩⟩⟩⟩⟩⟩ (by simp)
def Qva (B : Nat) (x : Qcp) : Prop := x.Set.length ≤ B
theorem Qbdd {w : World} {L : List Nat} {cs : List Value} {x : Qcp} (h : Qeq.own w L cs x) : ∃ g : Value, cs = [.int .i64 x.From, .int .i64 x.To, g] ∧ Sep [Qm (tSl Qa 3) [g] x.Set] w L := by
  obtain ⟨_, _, _, _, rfl, rfl, ⟨rfl, _, rfl, rfl⟩, ⟨_, _, _, _, rfl, rfl, ⟨rfl, _, rfl, rfl⟩, ⟨v0, rfl, h0⟩⟩⟩ := h
  exact ⟨v0, rfl, Sep.cast (⟨_, [], (List.append_nil _).symm, ⟨_, rfl, h0⟩, rfl⟩) (by simp)⟩
theorem Qbdc {P : Program} {N B : Nat} {w0 : World} {Q : Exit → Act → World → Prop} {L : List (Nat × Value)} {is : List It} {ops : Array Oper} {l : List Oper} {z : List Value} {x : Qcp} (h : ∀ g : Value, z = [.int .i64 x.From, .int .i64 x.To, g] → WM P N B w0 ops Q l L (Qm (tSl Qa 3) [g] x.Set :: is)) : WM P N B w0 ops Q l L (Qm Qeq z x :: is) := Qit (γ := Value) (js := fun g => [Qm (tSl Qa 3) [g] x.Set]) (C := fun g => z = [.int .i64 x.From, .int .i64 x.To, g]) (fun _ _ h => Qbdd h) h
theorem Qwc {w : World} {L : List Nat} {x : Qcp} {v0 : Value} (h : Sep [Qm (tSl Qa 3) [v0] x.Set] w L) : Qeq.own w L [.int .i64 x.From, .int .i64 x.To, v0] x := by
  obtain ⟨L0, K0, rfl, h0, s0⟩ := Sep.cons h
  cases (Sep.nil s0)
  exact Qkw (T := Qeq) (cs := [.int .i64 x.From, .int .i64 x.To, v0]) (x := x) ⟨_, _, _, _, rfl, rfl, Qck, ⟨_, _, _, _, rfl, rfl, Qck, h0⟩⟩ (by simp)
def Quz (B : Nat) (x : Qgk) : Prop := (x.Queries.length ≤ B ∧ ∀ y ∈ x.Queries, Qft B y) ∧ (x.Fields.length ≤ B ∧ ∀ y ∈ x.Fields, (y.length ≤ B ∧ ∀ y1 ∈ y, Qva B y1))
theorem Qbcl {w : World} {L : List Nat} {cs : List Value} {x : Qgk} (h : Qmq.own w L cs x) : ∃ g : Value × Value, cs = [g.1, g.2] ∧ Sep [Qm (tSl Qcm 58) [g.1] x.Queries, Qm (tSl (tSl Qeq 238) 225) [g.2] x.Fields] w L := by
  obtain ⟨_, _, _, _, rfl, rfl, ⟨v0, rfl, h0⟩, ⟨v1, rfl, h1⟩⟩ := h
  exact ⟨(v0, v1), rfl, Sep.cast (⟨_, _, rfl, ⟨_, rfl, h0⟩, ⟨_, [], (List.append_nil _).symm, ⟨_, rfl, h1⟩, rfl⟩⟩) (by simp)⟩
theorem Qbck {P : Program} {N B : Nat} {w0 : World} {Q : Exit → Act → World → Prop} {L : List (Nat × Value)} {is : List It} {ops : Array Oper} {l : List Oper} {z : List Value} {x : Qgk} (h : ∀ g : Value × Value, z = [g.1, g.2] → WM P N B w0 ops Q l L (Qm (tSl Qcm 58) [g.1] x.Queries :: Qm (tSl (tSl Qeq 238) 225) [g.2] x.Fields :: is)) : WM P N B w0 ops Q l L (Qm Qmq z x :: is) := Qit (γ := Value × Value) (js := fun g => [Qm (tSl Qcm 58) [g.1] x.Queries, Qm (tSl (tSl Qeq 238) 225) [g.2] x.Fields]) (C := fun g => z = [g.1, g.2]) (fun _ _ h => Qbcl h) h
theorem Qaib {w : World} {L : List Nat} {x : Qgk} {v0 v1 : Value} (h : Sep [Qm (tSl Qcm 58) [v0] x.Queries, Qm (tSl (tSl Qeq 238) 225) [v1] x.Fields] w L) : Qmq.own w L [v0, v1] x := by
  obtain ⟨L0, K0, rfl, h0, s0⟩ := Sep.cons h
  obtain ⟨L1, K1, rfl, h1, s1⟩ := Sep.cons s0
  cases (Sep.nil s1)
  exact Qkw (T := Qmq) (cs := [v0, v1]) (x := x) ⟨_, _, _, _, rfl, rfl, h0, h1⟩ (by simp)
abbrev Qf := @Tryz.type3
abbrev Qp := @Tryz.underlying25
abbrev Qs := @Tryz.underlying3
abbrev Qac := @Tryz.underlying39
abbrev Qaj := @Tryz.underlying61
abbrev Qam := @Tryz.type25
abbrev Qaw := @Tryz.underlying35
abbrev Qbd := @Tryz.type61
abbrev Qbi := @Tryz.type58
abbrev Qbl := @Tryz.type163
abbrev Qbm := @Tryz.type39
abbrev Qbn := @Tryz.underlying163
abbrev Qbo := @Tryz.underlying58
abbrev Qbt := @Tryz.type34
abbrev Qbw := @Tryz.underlying100
abbrev Qbx := @Tryz.underlying34
abbrev Qbz := @Tryz.underlying102
abbrev Qca := @Tryz.underlying32
abbrev Qcg := @Tryz.type70
abbrev Qch := @Tryz.underlying36
abbrev Qci := @Tryz.underlying59
abbrev Qcq := @Tryz.type80
abbrev Qcr := @Tryz.type102
abbrev Qcs := @Tryz.underlying56
abbrev Qcv := @Tryz.underlying37
abbrev Qcz := @Tryz.type35
abbrev Qda := @Tryz.underlying80
abbrev Qds := @Tryz.type180
abbrev Qdt := @Tryz.type59
abbrev Qdu := @Tryz.underlying180
abbrev Qdv := @Tryz.underlying70
abbrev Qdz := @Tryz.type32
abbrev Qek := @Tryz.type36
abbrev Qfc := @Tryz.type37
abbrev Qfg := @Tryz.type100
abbrev Qfp := @Tryz.type56
abbrev Qhm := @Tryz.underlying201
abbrev Qhv := @Tryz.underlying30
abbrev Qjn := @Tryz.underlying225
abbrev Qlg := @Tryz.underlying147
abbrev Qmt := @Tryz.underlying144
abbrev Qmu := @Tryz.underlying145
abbrev Qmv := @Tryz.underlying152
abbrev Qpd := @Tryz.underlying150
abbrev Qpe := @Tryz.underlying196
abbrev Qpf := @Tryz.underlying204
abbrev Qpg := @Tryz.underlying22
abbrev Qph := @Tryz.underlying26
abbrev Qpi := @Tryz.underlying27
abbrev Qpj := @Tryz.underlying28
abbrev Qqy := @Tryz.underlying202
abbrev Qqz := @Tryz.underlying218
abbrev Qtb := @Tryz.underlying142
end Go.Proofs.YtdlminfjdodjoaaGreat

