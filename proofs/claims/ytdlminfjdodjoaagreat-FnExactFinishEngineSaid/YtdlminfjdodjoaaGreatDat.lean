/-
  The data of the program as structures, and how they lie in memory.
-/
import Derived.Test.YtdlminfjdodjoaaGreatVcS
import Derived.Test.YtdlminfjdodjoaaGreatVcP
import Derived.Test.YtdlminfjdodjoaaGreatVcX
import Derived.Test.YtdlminfjdodjoaaGreatVcY
import Derived.Test.YtdlminfjdodjoaaGreatVcQ
import Derived.Test.YtdlminfjdodjoaaGreatVcR
namespace Go.Proofs.YtdlminfjdodjoaaGreat
open Go.RowKit
structure Qt where
  Id : Int
  Values : (List Int)
  Born : Int
  Died : Int
instance : Inhabited Qt := ⟨⟨default, default, default, default⟩⟩
def Qim : Ty Qt := Qgk (Qcl Qa (Qcl (tSl Qa 3) (Qcl Qa Qa))) (fun x => (x.Id, x.Values, x.Born, x.Died))
theorem Qwj {w : World} {B : Nat} {cs : List Value} {x : Qt} (h : Qim.rd w B cs x) : ∃ v0, cs = [.int .i64 x.Id, v0, .int .i64 x.Born, .int .i64 x.Died] ∧ rdS Qa w B v0 x.Values := by
  obtain ⟨_, _, rfl, ⟨_, rfl, rfl⟩, ⟨_, _, rfl, ⟨v0, rfl, h0⟩, ⟨_, _, rfl, ⟨_, rfl, rfl⟩, ⟨_, rfl, rfl⟩⟩⟩⟩ := h
  exact ⟨v0, rfl, h0⟩
theorem Qajg {w : World} {B : Nat} {x : Qt} {v0 : Value} (h0 : rdS Qa w B v0 x.Values) : Qim.rd w B [.int .i64 x.Id, v0, .int .i64 x.Born, .int .i64 x.Died] x := ⟨_, _, rfl, ⟨_, rfl, rfl⟩, ⟨_, _, rfl, ⟨_, rfl, h0⟩, ⟨_, _, rfl, ⟨_, rfl, rfl⟩, ⟨_, rfl, rfl⟩⟩⟩⟩
structure Qau where
  Segments : (List (List Qt))
  Now : Int
instance : Inhabited Qau := ⟨⟨default, default⟩⟩
def Qpe : Ty Qau := Qgk (Qcl (tSl (tSl Qim 218) 196) Qa) (fun x => (x.Segments, x.Now))
theorem Qajf {w : World} {B : Nat} {cs : List Value} {x : Qau} (h : Qpe.rd w B cs x) : ∃ v0, cs = [v0, .int .i64 x.Now] ∧ rdS (tSl Qim 218) w B v0 x.Segments := by
  obtain ⟨_, _, rfl, ⟨v0, rfl, h0⟩, ⟨_, rfl, rfl⟩⟩ := h
  exact ⟨v0, rfl, h0⟩
theorem Qaje {w : World} {B : Nat} {x : Qau} {v0 : Value} (h0 : rdS (tSl Qim 218) w B v0 x.Segments) : Qpe.rd w B [v0, .int .i64 x.Now] x := ⟨_, _, rfl, ⟨_, rfl, h0⟩, ⟨_, rfl, rfl⟩⟩
structure Qcd where
  Field : Int
  Low : Int
  High : Int
instance : Inhabited Qcd := ⟨⟨default, default, default⟩⟩
def Qjp : Ty Qcd := Qgk (Qcl Qa (Qcl Qa Qa)) (fun x => (x.Field, x.Low, x.High))
theorem Qaiv {w : World} {B : Nat} {cs : List Value} {x : Qcd} (h : Qjp.rd w B cs x) : cs = [.int .i64 x.Field, .int .i64 x.Low, .int .i64 x.High] := by
  obtain ⟨_, _, rfl, ⟨_, rfl, rfl⟩, ⟨_, _, rfl, ⟨_, rfl, rfl⟩, ⟨_, rfl, rfl⟩⟩⟩ := h
  exact rfl
theorem Qbdj {w : World} {B : Nat} {x : Qcd} : Qjp.rd w B [.int .i64 x.Field, .int .i64 x.Low, .int .i64 x.High] x := ⟨_, _, rfl, ⟨_, rfl, rfl⟩, ⟨_, _, rfl, ⟨_, rfl, rfl⟩, ⟨_, rfl, rfl⟩⟩⟩
structure Qat where
  Id : Int
  Tenant : Int
  Conds : (List Qcd)
  Out : (List Int)
instance : Inhabited Qat := ⟨⟨default, default, default, default⟩⟩
def Qog : Ty Qat := Qgk (Qcl Qa (Qcl Qa (Qcl (tSl Qjp 240) (tSl Qa 3)))) (fun x => (x.Id, x.Tenant, x.Conds, x.Out))
theorem Qaiz {w : World} {B : Nat} {cs : List Value} {x : Qat} (h : Qog.rd w B cs x) : ∃ v0 v1, cs = [.int .i64 x.Id, .int .i64 x.Tenant, v0, v1] ∧ rdS Qjp w B v0 x.Conds ∧ rdS Qa w B v1 x.Out := by
  obtain ⟨_, _, rfl, ⟨_, rfl, rfl⟩, ⟨_, _, rfl, ⟨_, rfl, rfl⟩, ⟨_, _, rfl, ⟨v0, rfl, h0⟩, ⟨v1, rfl, h1⟩⟩⟩⟩ := h
  exact ⟨v0, v1, rfl, h0, h1⟩
theorem Qwh {w : World} {B : Nat} {x : Qat} {v0 v1 : Value} (h0 : rdS Qjp w B v0 x.Conds) (h1 : rdS Qa w B v1 x.Out) : Qog.rd w B [.int .i64 x.Id, .int .i64 x.Tenant, v0, v1] x := ⟨_, _, rfl, ⟨_, rfl, rfl⟩, ⟨_, _, rfl, ⟨_, rfl, rfl⟩, ⟨_, _, rfl, ⟨_, rfl, h0⟩, ⟨_, rfl, h1⟩⟩⟩⟩
structure Qab where
  Id : Int
  Values : (List Int)
instance : Inhabited Qab := ⟨⟨default, default⟩⟩
def Qiu : Ty Qab := Qgk (Qcl Qa (tSl Qa 3)) (fun x => (x.Id, x.Values))
theorem Qwi {w : World} {B : Nat} {cs : List Value} {x : Qab} (h : Qiu.rd w B cs x) : ∃ v0, cs = [.int .i64 x.Id, v0] ∧ rdS Qa w B v0 x.Values := by
  obtain ⟨_, _, rfl, ⟨_, rfl, rfl⟩, ⟨v0, rfl, h0⟩⟩ := h
  exact ⟨v0, rfl, h0⟩
theorem Qajc {w : World} {B : Nat} {x : Qab} {v0 : Value} (h0 : rdS Qa w B v0 x.Values) : Qiu.rd w B [.int .i64 x.Id, v0] x := ⟨_, _, rfl, ⟨_, rfl, rfl⟩, ⟨_, rfl, h0⟩⟩
structure Qw where
  Query : Qat
  Time : Int
  Todo : (List Int)
  Age : Int
  Sent : Int
  Cap : Int
  Rows : (List Qab)
instance : Inhabited Qw := ⟨⟨default, default, default, default, default, default, default⟩⟩
def Qle : Ty Qw := Qgk (Qcl Qog (Qcl Qa (Qcl (tSl Qa 3) (Qcl Qa (Qcl Qa (Qcl Qa (tSl Qiu 221))))))) (fun x => (x.Query, x.Time, x.Todo, x.Age, x.Sent, x.Cap, x.Rows))
theorem Qwe {w : World} {B : Nat} {cs : List Value} {x : Qw} (h : Qle.rd w B cs x) : ∃ v0 v1 v2 v3, cs = [.int .i64 x.Query.Id, .int .i64 x.Query.Tenant, v0, v1, .int .i64 x.Time, v2, .int .i64 x.Age, .int .i64 x.Sent, .int .i64 x.Cap, v3] ∧ rdS Qjp w B v0 x.Query.Conds ∧ rdS Qa w B v1 x.Query.Out ∧ rdS Qa w B v2 x.Todo ∧ rdS Qiu w B v3 x.Rows := by
  obtain ⟨_, _, rfl, ⟨_, _, rfl, ⟨_, rfl, rfl⟩, ⟨_, _, rfl, ⟨_, rfl, rfl⟩, ⟨_, _, rfl, ⟨v0, rfl, h0⟩, ⟨v1, rfl, h1⟩⟩⟩⟩, ⟨_, _, rfl, ⟨_, rfl, rfl⟩, ⟨_, _, rfl, ⟨v2, rfl, h2⟩, ⟨_, _, rfl, ⟨_, rfl, rfl⟩, ⟨_, _, rfl, ⟨_, rfl, rfl⟩, ⟨_, _, rfl, ⟨_, rfl, rfl⟩, ⟨v3, rfl, h3⟩⟩⟩⟩⟩⟩⟩ := h
  exact ⟨v0, v1, v2, v3, rfl, h0, h1, h2, h3⟩
theorem Qait {w : World} {B : Nat} {x : Qw} {v0 v1 v2 v3 : Value} (h0 : rdS Qjp w B v0 x.Query.Conds) (h1 : rdS Qa w B v1 x.Query.Out) (h2 : rdS Qa w B v2 x.Todo) (h3 : rdS Qiu w B v3 x.Rows) : Qle.rd w B [.int .i64 x.Query.Id, .int .i64 x.Query.Tenant, v0, v1, .int .i64 x.Time, v2, .int .i64 x.Age, .int .i64 x.Sent, .int .i64 x.Cap, v3] x := ⟨_, _, rfl, ⟨_, _, rfl, ⟨_, rfl, rfl⟩, ⟨_, _, rfl, ⟨_, rfl, rfl⟩, ⟨_, _, rfl, ⟨_, rfl, h0⟩, ⟨_, rfl, h1⟩⟩⟩⟩, ⟨_, _, rfl, ⟨_, rfl, rfl⟩, ⟨_, _, rfl, ⟨_, rfl, h2⟩, ⟨_, _, rfl, ⟨_, rfl, rfl⟩, ⟨_, _, rfl, ⟨_, rfl, rfl⟩, ⟨_, _, rfl, ⟨_, rfl, rfl⟩, ⟨_, rfl, h3⟩⟩⟩⟩⟩⟩⟩
structure Qav where
  Query : Qat
  Time : Int
  Steps : Int
  Rows : (List Qab)
instance : Inhabited Qav := ⟨⟨default, default, default, default⟩⟩
def Qlg : Ty Qav := Qgk (Qcl Qog (Qcl Qa (Qcl Qa (tSl Qiu 221)))) (fun x => (x.Query, x.Time, x.Steps, x.Rows))
theorem Qwg {w : World} {B : Nat} {cs : List Value} {x : Qav} (h : Qlg.rd w B cs x) : ∃ v0 v1 v2, cs = [.int .i64 x.Query.Id, .int .i64 x.Query.Tenant, v0, v1, .int .i64 x.Time, .int .i64 x.Steps, v2] ∧ rdS Qjp w B v0 x.Query.Conds ∧ rdS Qa w B v1 x.Query.Out ∧ rdS Qiu w B v2 x.Rows := by
  obtain ⟨_, _, rfl, ⟨_, _, rfl, ⟨_, rfl, rfl⟩, ⟨_, _, rfl, ⟨_, rfl, rfl⟩, ⟨_, _, rfl, ⟨v0, rfl, h0⟩, ⟨v1, rfl, h1⟩⟩⟩⟩, ⟨_, _, rfl, ⟨_, rfl, rfl⟩, ⟨_, _, rfl, ⟨_, rfl, rfl⟩, ⟨v2, rfl, h2⟩⟩⟩⟩ := h
  exact ⟨v0, v1, v2, rfl, h0, h1, h2⟩
theorem Qaix {w : World} {B : Nat} {x : Qav} {v0 v1 v2 : Value} (h0 : rdS Qjp w B v0 x.Query.Conds) (h1 : rdS Qa w B v1 x.Query.Out) (h2 : rdS Qiu w B v2 x.Rows) : Qlg.rd w B [.int .i64 x.Query.Id, .int .i64 x.Query.Tenant, v0, v1, .int .i64 x.Time, .int .i64 x.Steps, v2] x := ⟨_, _, rfl, ⟨_, _, rfl, ⟨_, rfl, rfl⟩, ⟨_, _, rfl, ⟨_, rfl, rfl⟩, ⟨_, _, rfl, ⟨_, rfl, h0⟩, ⟨_, rfl, h1⟩⟩⟩⟩, ⟨_, _, rfl, ⟨_, rfl, rfl⟩, ⟨_, _, rfl, ⟨_, rfl, rfl⟩, ⟨_, rfl, h2⟩⟩⟩⟩
structure Qbc where
  Segment : Int
  Base : Int
  Ids : (List Int)
  Tenants : (List Int)
  Rows : (List Int)
instance : Inhabited Qbc := ⟨⟨default, default, default, default, default⟩⟩
def Qlf : Ty Qbc := Qgk (Qcl Qa (Qcl Qa (Qcl (tSl Qa 3) (Qcl (tSl Qa 3) (tSl Qa 3))))) (fun x => (x.Segment, x.Base, x.Ids, x.Tenants, x.Rows))
theorem Qwf {w : World} {B : Nat} {cs : List Value} {x : Qbc} (h : Qlf.rd w B cs x) : ∃ v0 v1 v2, cs = [.int .i64 x.Segment, .int .i64 x.Base, v0, v1, v2] ∧ rdS Qa w B v0 x.Ids ∧ rdS Qa w B v1 x.Tenants ∧ rdS Qa w B v2 x.Rows := by
  obtain ⟨_, _, rfl, ⟨_, rfl, rfl⟩, ⟨_, _, rfl, ⟨_, rfl, rfl⟩, ⟨_, _, rfl, ⟨v0, rfl, h0⟩, ⟨_, _, rfl, ⟨v1, rfl, h1⟩, ⟨v2, rfl, h2⟩⟩⟩⟩⟩ := h
  exact ⟨v0, v1, v2, rfl, h0, h1, h2⟩
theorem Qaiu {w : World} {B : Nat} {x : Qbc} {v0 v1 v2 : Value} (h0 : rdS Qa w B v0 x.Ids) (h1 : rdS Qa w B v1 x.Tenants) (h2 : rdS Qa w B v2 x.Rows) : Qlf.rd w B [.int .i64 x.Segment, .int .i64 x.Base, v0, v1, v2] x := ⟨_, _, rfl, ⟨_, rfl, rfl⟩, ⟨_, _, rfl, ⟨_, rfl, rfl⟩, ⟨_, _, rfl, ⟨_, rfl, h0⟩, ⟨_, _, rfl, ⟨_, rfl, h1⟩, ⟨_, rfl, h2⟩⟩⟩⟩⟩
structure Qo where
  Store : Qau
  Cursor : Int
  Order : (List Int)
  Active : (List Qw)
  Done : (List Qav)
  Ledger : (List Qbc)
  Steps : Int
instance : Inhabited Qo := ⟨⟨default, default, default, default, default, default, default⟩⟩
def Qpd : Ty Qo := Qgk (Qcl Qpe (Qcl Qa (Qcl (tSl Qa 3) (Qcl (tSl Qle 147) (Qcl (tSl Qlg 150) (Qcl (tSl Qlf 152) Qa)))))) (fun x => (x.Store, x.Cursor, x.Order, x.Active, x.Done, x.Ledger, x.Steps))
theorem Qabs {w : World} {B : Nat} {cs : List Value} {x : Qo} (h : Qpd.rd w B cs x) : ∃ v0 v1 v2 v3 v4, cs = [v0, .int .i64 x.Store.Now, .int .i64 x.Cursor, v1, v2, v3, v4, .int .i64 x.Steps] ∧ rdS (tSl Qim 218) w B v0 x.Store.Segments ∧ rdS Qa w B v1 x.Order ∧ rdS Qle w B v2 x.Active ∧ rdS Qlg w B v3 x.Done ∧ rdS Qlf w B v4 x.Ledger := by
  obtain ⟨_, _, rfl, ⟨_, _, rfl, ⟨v0, rfl, h0⟩, ⟨_, rfl, rfl⟩⟩, ⟨_, _, rfl, ⟨_, rfl, rfl⟩, ⟨_, _, rfl, ⟨v1, rfl, h1⟩, ⟨_, _, rfl, ⟨v2, rfl, h2⟩, ⟨_, _, rfl, ⟨v3, rfl, h3⟩, ⟨_, _, rfl, ⟨v4, rfl, h4⟩, ⟨_, rfl, rfl⟩⟩⟩⟩⟩⟩⟩ := h
  exact ⟨v0, v1, v2, v3, v4, rfl, h0, h1, h2, h3, h4⟩
theorem Qtd {w : World} {B : Nat} {x : Qo} {v0 v1 v2 v3 v4 : Value} (h0 : rdS (tSl Qim 218) w B v0 x.Store.Segments) (h1 : rdS Qa w B v1 x.Order) (h2 : rdS Qle w B v2 x.Active) (h3 : rdS Qlg w B v3 x.Done) (h4 : rdS Qlf w B v4 x.Ledger) : Qpd.rd w B [v0, .int .i64 x.Store.Now, .int .i64 x.Cursor, v1, v2, v3, v4, .int .i64 x.Steps] x := ⟨_, _, rfl, ⟨_, _, rfl, ⟨_, rfl, h0⟩, ⟨_, rfl, rfl⟩⟩, ⟨_, _, rfl, ⟨_, rfl, rfl⟩, ⟨_, _, rfl, ⟨_, rfl, h1⟩, ⟨_, _, rfl, ⟨_, rfl, h2⟩, ⟨_, _, rfl, ⟨_, rfl, h3⟩, ⟨_, _, rfl, ⟨_, rfl, h4⟩, ⟨_, rfl, rfl⟩⟩⟩⟩⟩⟩⟩
def Qaf : Ty Qt := Qgk (Qcl Qa (Qcl (tSl Qa 3) (Qcl Qa Qa))) (fun x => (x.Id, x.Values, x.Born, x.Died))
theorem Qgd {w : World} {B : Nat} {cs : List Value} {x : Qt} (h : Qaf.rd w B cs x) : ∃ v0, cs = [.int .i64 x.Id, v0, .int .i64 x.Born, .int .i64 x.Died] ∧ rdS Qa w B v0 x.Values := by
  obtain ⟨_, _, rfl, ⟨_, rfl, rfl⟩, ⟨_, _, rfl, ⟨v0, rfl, h0⟩, ⟨_, _, rfl, ⟨_, rfl, rfl⟩, ⟨_, rfl, rfl⟩⟩⟩⟩ := h
  exact ⟨v0, rfl, h0⟩
theorem Qgy {w : World} {B : Nat} {x : Qt} {v0 : Value} (h0 : rdS Qa w B v0 x.Values) : Qaf.rd w B [.int .i64 x.Id, v0, .int .i64 x.Born, .int .i64 x.Died] x := ⟨_, _, rfl, ⟨_, rfl, rfl⟩, ⟨_, _, rfl, ⟨_, rfl, h0⟩, ⟨_, _, rfl, ⟨_, rfl, rfl⟩, ⟨_, rfl, rfl⟩⟩⟩⟩
def Qdm : Ty Qau := Qgk (Qcl (tSl (tSl Qaf 163) 100) Qa) (fun x => (x.Segments, x.Now))
theorem Qjs {w : World} {B : Nat} {cs : List Value} {x : Qau} (h : Qdm.rd w B cs x) : ∃ v0, cs = [v0, .int .i64 x.Now] ∧ rdS (tSl Qaf 163) w B v0 x.Segments := by
  obtain ⟨_, _, rfl, ⟨v0, rfl, h0⟩, ⟨_, rfl, rfl⟩⟩ := h
  exact ⟨v0, rfl, h0⟩
theorem Qgc {w : World} {B : Nat} {x : Qau} {v0 : Value} (h0 : rdS (tSl Qaf 163) w B v0 x.Segments) : Qdm.rd w B [v0, .int .i64 x.Now] x := ⟨_, _, rfl, ⟨_, rfl, h0⟩, ⟨_, rfl, rfl⟩⟩
def Qbl : Ty Qcd := Qgk (Qcl Qa (Qcl Qa Qa)) (fun x => (x.Field, x.Low, x.High))
theorem Qjo {w : World} {B : Nat} {cs : List Value} {x : Qcd} (h : Qbl.rd w B cs x) : cs = [.int .i64 x.Field, .int .i64 x.Low, .int .i64 x.High] := by
  obtain ⟨_, _, rfl, ⟨_, rfl, rfl⟩, ⟨_, _, rfl, ⟨_, rfl, rfl⟩, ⟨_, rfl, rfl⟩⟩⟩ := h
  exact rfl
theorem Qwd {w : World} {B : Nat} {x : Qcd} : Qbl.rd w B [.int .i64 x.Field, .int .i64 x.Low, .int .i64 x.High] x := ⟨_, _, rfl, ⟨_, rfl, rfl⟩, ⟨_, _, rfl, ⟨_, rfl, rfl⟩, ⟨_, rfl, rfl⟩⟩⟩
def Qcm : Ty Qat := Qgk (Qcl Qa (Qcl Qa (Qcl (tSl Qbl 180) (tSl Qa 3)))) (fun x => (x.Id, x.Tenant, x.Conds, x.Out))
theorem Qiv {w : World} {B : Nat} {cs : List Value} {x : Qat} (h : Qcm.rd w B cs x) : ∃ v0 v1, cs = [.int .i64 x.Id, .int .i64 x.Tenant, v0, v1] ∧ rdS Qbl w B v0 x.Conds ∧ rdS Qa w B v1 x.Out := by
  obtain ⟨_, _, rfl, ⟨_, rfl, rfl⟩, ⟨_, _, rfl, ⟨_, rfl, rfl⟩, ⟨_, _, rfl, ⟨v0, rfl, h0⟩, ⟨v1, rfl, h1⟩⟩⟩⟩ := h
  exact ⟨v0, v1, rfl, h0, h1⟩
theorem Qhg {w : World} {B : Nat} {x : Qat} {v0 v1 : Value} (h0 : rdS Qbl w B v0 x.Conds) (h1 : rdS Qa w B v1 x.Out) : Qcm.rd w B [.int .i64 x.Id, .int .i64 x.Tenant, v0, v1] x := ⟨_, _, rfl, ⟨_, rfl, rfl⟩, ⟨_, _, rfl, ⟨_, rfl, rfl⟩, ⟨_, _, rfl, ⟨_, rfl, h0⟩, ⟨_, rfl, h1⟩⟩⟩⟩
def Qap : Ty Qab := Qgk (Qcl Qa (tSl Qa 3)) (fun x => (x.Id, x.Values))
theorem Qin {w : World} {B : Nat} {cs : List Value} {x : Qab} (h : Qap.rd w B cs x) : ∃ v0, cs = [.int .i64 x.Id, v0] ∧ rdS Qa w B v0 x.Values := by
  obtain ⟨_, _, rfl, ⟨_, rfl, rfl⟩, ⟨v0, rfl, h0⟩⟩ := h
  exact ⟨v0, rfl, h0⟩
theorem Qjr {w : World} {B : Nat} {x : Qab} {v0 : Value} (h0 : rdS Qa w B v0 x.Values) : Qap.rd w B [.int .i64 x.Id, v0] x := ⟨_, _, rfl, ⟨_, rfl, rfl⟩, ⟨_, rfl, h0⟩⟩
def Qah : Ty Qw := Qgk (Qcl Qcm (Qcl Qa (Qcl (tSl Qa 3) (Qcl Qa (Qcl Qa (Qcl Qa (tSl Qap 70))))))) (fun x => (x.Query, x.Time, x.Todo, x.Age, x.Sent, x.Cap, x.Rows))
theorem Qgp {w : World} {B : Nat} {cs : List Value} {x : Qw} (h : Qah.rd w B cs x) : ∃ v0 v1 v2 v3, cs = [.int .i64 x.Query.Id, .int .i64 x.Query.Tenant, v0, v1, .int .i64 x.Time, v2, .int .i64 x.Age, .int .i64 x.Sent, .int .i64 x.Cap, v3] ∧ rdS Qbl w B v0 x.Query.Conds ∧ rdS Qa w B v1 x.Query.Out ∧ rdS Qa w B v2 x.Todo ∧ rdS Qap w B v3 x.Rows := by
  obtain ⟨_, _, rfl, ⟨_, _, rfl, ⟨_, rfl, rfl⟩, ⟨_, _, rfl, ⟨_, rfl, rfl⟩, ⟨_, _, rfl, ⟨v0, rfl, h0⟩, ⟨v1, rfl, h1⟩⟩⟩⟩, ⟨_, _, rfl, ⟨_, rfl, rfl⟩, ⟨_, _, rfl, ⟨v2, rfl, h2⟩, ⟨_, _, rfl, ⟨_, rfl, rfl⟩, ⟨_, _, rfl, ⟨_, rfl, rfl⟩, ⟨_, _, rfl, ⟨_, rfl, rfl⟩, ⟨v3, rfl, h3⟩⟩⟩⟩⟩⟩⟩ := h
  exact ⟨v0, v1, v2, v3, rfl, h0, h1, h2, h3⟩
theorem Qrb {w : World} {B : Nat} {x : Qw} {v0 v1 v2 v3 : Value} (h0 : rdS Qbl w B v0 x.Query.Conds) (h1 : rdS Qa w B v1 x.Query.Out) (h2 : rdS Qa w B v2 x.Todo) (h3 : rdS Qap w B v3 x.Rows) : Qah.rd w B [.int .i64 x.Query.Id, .int .i64 x.Query.Tenant, v0, v1, .int .i64 x.Time, v2, .int .i64 x.Age, .int .i64 x.Sent, .int .i64 x.Cap, v3] x := ⟨_, _, rfl, ⟨_, _, rfl, ⟨_, rfl, rfl⟩, ⟨_, _, rfl, ⟨_, rfl, rfl⟩, ⟨_, _, rfl, ⟨_, rfl, h0⟩, ⟨_, rfl, h1⟩⟩⟩⟩, ⟨_, _, rfl, ⟨_, rfl, rfl⟩, ⟨_, _, rfl, ⟨_, rfl, h2⟩, ⟨_, _, rfl, ⟨_, rfl, rfl⟩, ⟨_, _, rfl, ⟨_, rfl, rfl⟩, ⟨_, _, rfl, ⟨_, rfl, rfl⟩, ⟨_, rfl, h3⟩⟩⟩⟩⟩⟩⟩
def Qas : Ty Qav := Qgk (Qcl Qcm (Qcl Qa (Qcl Qa (tSl Qap 70)))) (fun x => (x.Query, x.Time, x.Steps, x.Rows))
theorem Qlz {w : World} {B : Nat} {cs : List Value} {x : Qav} (h : Qas.rd w B cs x) : ∃ v0 v1 v2, cs = [.int .i64 x.Query.Id, .int .i64 x.Query.Tenant, v0, v1, .int .i64 x.Time, .int .i64 x.Steps, v2] ∧ rdS Qbl w B v0 x.Query.Conds ∧ rdS Qa w B v1 x.Query.Out ∧ rdS Qap w B v2 x.Rows := by
  obtain ⟨_, _, rfl, ⟨_, _, rfl, ⟨_, rfl, rfl⟩, ⟨_, _, rfl, ⟨_, rfl, rfl⟩, ⟨_, _, rfl, ⟨v0, rfl, h0⟩, ⟨v1, rfl, h1⟩⟩⟩⟩, ⟨_, _, rfl, ⟨_, rfl, rfl⟩, ⟨_, _, rfl, ⟨_, rfl, rfl⟩, ⟨v2, rfl, h2⟩⟩⟩⟩ := h
  exact ⟨v0, v1, v2, rfl, h0, h1, h2⟩
theorem Qabq {w : World} {B : Nat} {x : Qav} {v0 v1 v2 : Value} (h0 : rdS Qbl w B v0 x.Query.Conds) (h1 : rdS Qa w B v1 x.Query.Out) (h2 : rdS Qap w B v2 x.Rows) : Qas.rd w B [.int .i64 x.Query.Id, .int .i64 x.Query.Tenant, v0, v1, .int .i64 x.Time, .int .i64 x.Steps, v2] x := ⟨_, _, rfl, ⟨_, _, rfl, ⟨_, rfl, rfl⟩, ⟨_, _, rfl, ⟨_, rfl, rfl⟩, ⟨_, _, rfl, ⟨_, rfl, h0⟩, ⟨_, rfl, h1⟩⟩⟩⟩, ⟨_, _, rfl, ⟨_, rfl, rfl⟩, ⟨_, _, rfl, ⟨_, rfl, rfl⟩, ⟨_, rfl, h2⟩⟩⟩⟩
def Qaq : Ty Qbc := Qgk (Qcl Qa (Qcl Qa (Qcl (tSl Qa 3) (Qcl (tSl Qa 3) (tSl Qa 3))))) (fun x => (x.Segment, x.Base, x.Ids, x.Tenants, x.Rows))
theorem Qjn {w : World} {B : Nat} {cs : List Value} {x : Qbc} (h : Qaq.rd w B cs x) : ∃ v0 v1 v2, cs = [.int .i64 x.Segment, .int .i64 x.Base, v0, v1, v2] ∧ rdS Qa w B v0 x.Ids ∧ rdS Qa w B v1 x.Tenants ∧ rdS Qa w B v2 x.Rows := by
  obtain ⟨_, _, rfl, ⟨_, rfl, rfl⟩, ⟨_, _, rfl, ⟨_, rfl, rfl⟩, ⟨_, _, rfl, ⟨v0, rfl, h0⟩, ⟨_, _, rfl, ⟨v1, rfl, h1⟩, ⟨v2, rfl, h2⟩⟩⟩⟩⟩ := h
  exact ⟨v0, v1, v2, rfl, h0, h1, h2⟩
theorem Qrc {w : World} {B : Nat} {x : Qbc} {v0 v1 v2 : Value} (h0 : rdS Qa w B v0 x.Ids) (h1 : rdS Qa w B v1 x.Tenants) (h2 : rdS Qa w B v2 x.Rows) : Qaq.rd w B [.int .i64 x.Segment, .int .i64 x.Base, v0, v1, v2] x := ⟨_, _, rfl, ⟨_, rfl, rfl⟩, ⟨_, _, rfl, ⟨_, rfl, rfl⟩, ⟨_, _, rfl, ⟨_, rfl, h0⟩, ⟨_, _, rfl, ⟨_, rfl, h1⟩, ⟨_, rfl, h2⟩⟩⟩⟩⟩
def Qcb : Ty Qo := Qgk (Qcl Qdm (Qcl Qa (Qcl (tSl Qa 3) (Qcl (tSl Qah 61) (Qcl (tSl Qas 80) (Qcl (tSl Qaq 102) Qa)))))) (fun x => (x.Store, x.Cursor, x.Order, x.Active, x.Done, x.Ledger, x.Steps))
theorem Qia {w : World} {B : Nat} {cs : List Value} {x : Qo} (h : Qcb.rd w B cs x) : ∃ v0 v1 v2 v3 v4, cs = [v0, .int .i64 x.Store.Now, .int .i64 x.Cursor, v1, v2, v3, v4, .int .i64 x.Steps] ∧ rdS (tSl Qaf 163) w B v0 x.Store.Segments ∧ rdS Qa w B v1 x.Order ∧ rdS Qah w B v2 x.Active ∧ rdS Qas w B v3 x.Done ∧ rdS Qaq w B v4 x.Ledger := by
  obtain ⟨_, _, rfl, ⟨_, _, rfl, ⟨v0, rfl, h0⟩, ⟨_, rfl, rfl⟩⟩, ⟨_, _, rfl, ⟨_, rfl, rfl⟩, ⟨_, _, rfl, ⟨v1, rfl, h1⟩, ⟨_, _, rfl, ⟨v2, rfl, h2⟩, ⟨_, _, rfl, ⟨v3, rfl, h3⟩, ⟨_, _, rfl, ⟨v4, rfl, h4⟩, ⟨_, rfl, rfl⟩⟩⟩⟩⟩⟩⟩ := h
  exact ⟨v0, v1, v2, v3, v4, rfl, h0, h1, h2, h3, h4⟩
theorem Qep {w : World} {B : Nat} {x : Qo} {v0 v1 v2 v3 v4 : Value} (h0 : rdS (tSl Qaf 163) w B v0 x.Store.Segments) (h1 : rdS Qa w B v1 x.Order) (h2 : rdS Qah w B v2 x.Active) (h3 : rdS Qas w B v3 x.Done) (h4 : rdS Qaq w B v4 x.Ledger) : Qcb.rd w B [v0, .int .i64 x.Store.Now, .int .i64 x.Cursor, v1, v2, v3, v4, .int .i64 x.Steps] x := ⟨_, _, rfl, ⟨_, _, rfl, ⟨_, rfl, h0⟩, ⟨_, rfl, rfl⟩⟩, ⟨_, _, rfl, ⟨_, rfl, rfl⟩, ⟨_, _, rfl, ⟨_, rfl, h1⟩, ⟨_, _, rfl, ⟨_, rfl, h2⟩, ⟨_, _, rfl, ⟨_, rfl, h3⟩, ⟨_, _, rfl, ⟨_, rfl, h4⟩, ⟨_, rfl, rfl⟩⟩⟩⟩⟩⟩⟩
structure Qakn where
  Kind : Int
  Row : Qab
  Field : Int
  Value : Int
instance : Inhabited Qakn := ⟨⟨default, default, default, default⟩⟩
structure Qako where
  i : Nat
  h : Int
instance : Inhabited Qako := ⟨⟨default, default⟩⟩
structure Qcp where
  From : Int
  To : Int
  Set : (List Int)
instance : Inhabited Qcp := ⟨⟨default, default, default⟩⟩
def Qet : Ty Qcp := Qgk (Qcl Qa (Qcl Qa (tSl Qa 3))) (fun x => (x.From, x.To, x.Set))
theorem Qbdt {w : World} {B : Nat} {cs : List Value} {x : Qcp} (h : Qet.rd w B cs x) : ∃ v0, cs = [.int .i64 x.From, .int .i64 x.To, v0] ∧ rdS Qa w B v0 x.Set := by
  obtain ⟨_, _, rfl, ⟨_, rfl, rfl⟩, ⟨_, _, rfl, ⟨_, rfl, rfl⟩, ⟨v0, rfl, h0⟩⟩⟩ := h
  exact ⟨v0, rfl, h0⟩
structure Qgq where
  Queries : (List Qat)
  Fields : (List (List Qcp))
instance : Inhabited Qgq := ⟨⟨default, default⟩⟩
def Qmu : Ty Qgq := Qgk (Qcl (tSl Qcm 58) (tSl (tSl Qet 238) 225)) (fun x => (x.Queries, x.Fields))
theorem Qbdb {w : World} {B : Nat} {cs : List Value} {x : Qgq} (h : Qmu.rd w B cs x) : ∃ v0 v1, cs = [v0, v1] ∧ rdS Qcm w B v0 x.Queries ∧ rdS (tSl Qet 238) w B v1 x.Fields := by
  obtain ⟨_, _, rfl, ⟨v0, rfl, h0⟩, ⟨v1, rfl, h1⟩⟩ := h
  exact ⟨v0, v1, rfl, h0, h1⟩
theorem Qbda {w : World} {B : Nat} {x : Qgq} {v0 v1 : Value} (h0 : rdS Qcm w B v0 x.Queries) (h1 : rdS (tSl Qet 238) w B v1 x.Fields) : Qmu.rd w B [v0, v1] x := ⟨_, _, rfl, ⟨_, rfl, h0⟩, ⟨_, rfl, h1⟩⟩
def Qhu (B : Nat) (x : Qt) : Prop := x.Values.length ≤ B
def Qgh (B : Nat) (x : Qau) : Prop := (x.Segments.length ≤ B ∧ ∀ y ∈ x.Segments, (y.length ≤ B ∧ ∀ y1 ∈ y, Qhu B y1))
def Qfy (B : Nat) (x : Qat) : Prop := x.Conds.length ≤ B ∧ x.Out.length ≤ B
def Qgm (B : Nat) (x : Qab) : Prop := x.Values.length ≤ B
def Qjf (B : Nat) (x : Qw) : Prop := Qfy B x.Query ∧ x.Todo.length ≤ B ∧ (x.Rows.length ≤ B ∧ ∀ y ∈ x.Rows, Qgm B y)
def Qjg (B : Nat) (x : Qav) : Prop := Qfy B x.Query ∧ (x.Rows.length ≤ B ∧ ∀ y ∈ x.Rows, Qgm B y)
def Qil (B : Nat) (x : Qbc) : Prop := x.Ids.length ≤ B ∧ x.Tenants.length ≤ B ∧ x.Rows.length ≤ B
def Qen (B : Nat) (x : Qo) : Prop := Qgh B x.Store ∧ x.Order.length ≤ B ∧ (x.Active.length ≤ B ∧ ∀ y ∈ x.Active, Qjf B y) ∧ (x.Done.length ≤ B ∧ ∀ y ∈ x.Done, Qjg B y) ∧ (x.Ledger.length ≤ B ∧ ∀ y ∈ x.Ledger, Qil B y)
theorem Qaji {w : World} {L : List Nat} {cs : List Value} {x : Qt} (h : Qaf.own w L cs x) : ∃ g : Value, cs = [.int .i64 x.Id, g, .int .i64 x.Born, .int .i64 x.Died] ∧ Sep [Qn (tSl Qa 3) [g] x.Values] w L := by
  obtain ⟨_, _, _, _, rfl, rfl, ⟨rfl, _, rfl, rfl⟩, ⟨_, _, _, _, rfl, rfl, ⟨v0, rfl, h0⟩, ⟨_, _, _, _, rfl, rfl, ⟨rfl, _, rfl, rfl⟩, ⟨rfl, _, rfl, rfl⟩⟩⟩⟩ := h
  exact ⟨v0, rfl, Sep.cast (⟨_, [], (List.append_nil _).symm, ⟨_, rfl, h0⟩, rfl⟩) (by simp)⟩
theorem Qte {P : Program} {N B : Nat} {w0 : World} {Q : Exit → Act → World → Prop} {L : List (Nat × Value)} {is : List It} {ops : Array Oper} {l : List Oper} {z : List Value} {x : Qt} (h : ∀ g : Value, z = [.int .i64 x.Id, g, .int .i64 x.Born, .int .i64 x.Died] → WM P N B w0 ops Q l L (Qn (tSl Qa 3) [g] x.Values :: is)) : WM P N B w0 ops Q l L (Qn Qaf z x :: is) := Qiw (γ := Value) (js := fun g => [Qn (tSl Qa 3) [g] x.Values]) (C := fun g => z = [.int .i64 x.Id, g, .int .i64 x.Born, .int .i64 x.Died]) (fun _ _ h => Qaji h) h
theorem Qlh {w : World} {L : List Nat} {x : Qt} {v0 : Value} (h : Sep [Qn (tSl Qa 3) [v0] x.Values] w L) : Qaf.own w L [.int .i64 x.Id, v0, .int .i64 x.Born, .int .i64 x.Died] x := by
  obtain ⟨L0, K0, rfl, h0, s0⟩ := Sep.cons h
  cases (Sep.nil s0)
  exact Qkx (T := Qaf) (cs := [.int .i64 x.Id, v0, .int .i64 x.Born, .int .i64 x.Died]) (x := x) ⟨_, _, _, _, rfl, rfl, Qck, ⟨_, _, _, _, rfl, rfl, h0, ⟨_, _, _, _, rfl, rfl, Qck, Qck⟩⟩⟩ (by simp)
theorem Qajh {w : World} {L : List Nat} {cs : List Value} {x : Qau} (h : Qdm.own w L cs x) : ∃ g : Value, cs = [g, .int .i64 x.Now] ∧ Sep [Qn (tSl (tSl Qaf 163) 100) [g] x.Segments] w L := by
  obtain ⟨_, _, _, _, rfl, rfl, ⟨v0, rfl, h0⟩, ⟨rfl, _, rfl, rfl⟩⟩ := h
  exact ⟨v0, rfl, Sep.cast (⟨_, [], (List.append_nil _).symm, ⟨_, rfl, h0⟩, rfl⟩) (by simp)⟩
theorem Qjt {P : Program} {N B : Nat} {w0 : World} {Q : Exit → Act → World → Prop} {L : List (Nat × Value)} {is : List It} {ops : Array Oper} {l : List Oper} {z : List Value} {x : Qau} (h : ∀ g : Value, z = [g, .int .i64 x.Now] → WM P N B w0 ops Q l L (Qn (tSl (tSl Qaf 163) 100) [g] x.Segments :: is)) : WM P N B w0 ops Q l L (Qn Qdm z x :: is) := Qiw (γ := Value) (js := fun g => [Qn (tSl (tSl Qaf 163) 100) [g] x.Segments]) (C := fun g => z = [g, .int .i64 x.Now]) (fun _ _ h => Qajh h) h
theorem Qmw {w : World} {L : List Nat} {x : Qau} {v0 : Value} (h : Sep [Qn (tSl (tSl Qaf 163) 100) [v0] x.Segments] w L) : Qdm.own w L [v0, .int .i64 x.Now] x := by
  obtain ⟨L0, K0, rfl, h0, s0⟩ := Sep.cons h
  cases (Sep.nil s0)
  exact Qkx (T := Qdm) (cs := [v0, .int .i64 x.Now]) (x := x) ⟨_, _, _, _, rfl, rfl, h0, Qck⟩ (by simp)
theorem Qbcy {w : World} {L : List Nat} {cs : List Value} {x : Qcd} (h : Qbl.own w L cs x) : ∃ _ : Unit, cs = [.int .i64 x.Field, .int .i64 x.Low, .int .i64 x.High] ∧ Sep [] w L := by
  obtain ⟨_, _, _, _, rfl, rfl, ⟨rfl, _, rfl, rfl⟩, ⟨_, _, _, _, rfl, rfl, ⟨rfl, _, rfl, rfl⟩, ⟨rfl, _, rfl, rfl⟩⟩⟩ := h
  exact ⟨(), rfl, Sep.cast (rfl) (by simp)⟩
theorem Qair {P : Program} {N B : Nat} {w0 : World} {Q : Exit → Act → World → Prop} {L : List (Nat × Value)} {is : List It} {ops : Array Oper} {l : List Oper} {z : List Value} {x : Qcd} (h : ∀ _ : Unit, z = [.int .i64 x.Field, .int .i64 x.Low, .int .i64 x.High] → WM P N B w0 ops Q l L (is)) : WM P N B w0 ops Q l L (Qn Qbl z x :: is) := Qiw (γ := Unit) (js := fun _ => []) (C := fun _ => z = [.int .i64 x.Field, .int .i64 x.Low, .int .i64 x.High]) (fun _ _ h => Qbcy h) h
theorem Qabp {w : World} {L : List Nat} {x : Qcd} (h : Sep [] w L) : Qbl.own w L [.int .i64 x.Field, .int .i64 x.Low, .int .i64 x.High] x := by
  cases (Sep.nil h)
  exact Qkx (T := Qbl) (cs := [.int .i64 x.Field, .int .i64 x.Low, .int .i64 x.High]) (x := x) ⟨_, _, _, _, rfl, rfl, Qck, ⟨_, _, _, _, rfl, rfl, Qck, Qck⟩⟩ (by simp)
theorem Qbdr {w : World} {L : List Nat} {cs : List Value} {x : Qat} (h : Qcm.own w L cs x) : ∃ g : Value × Value, cs = [.int .i64 x.Id, .int .i64 x.Tenant, g.1, g.2] ∧ Sep [Qn (tSl Qbl 180) [g.1] x.Conds, Qn (tSl Qa 3) [g.2] x.Out] w L := by
  obtain ⟨_, _, _, _, rfl, rfl, ⟨rfl, _, rfl, rfl⟩, ⟨_, _, _, _, rfl, rfl, ⟨rfl, _, rfl, rfl⟩, ⟨_, _, _, _, rfl, rfl, ⟨v0, rfl, h0⟩, ⟨v1, rfl, h1⟩⟩⟩⟩ := h
  exact ⟨(v0, v1), rfl, Sep.cast (⟨_, _, rfl, ⟨_, rfl, h0⟩, ⟨_, [], (List.append_nil _).symm, ⟨_, rfl, h1⟩, rfl⟩⟩) (by simp)⟩
theorem Qpf {P : Program} {N B : Nat} {w0 : World} {Q : Exit → Act → World → Prop} {L : List (Nat × Value)} {is : List It} {ops : Array Oper} {l : List Oper} {z : List Value} {x : Qat} (h : ∀ g : Value × Value, z = [.int .i64 x.Id, .int .i64 x.Tenant, g.1, g.2] → WM P N B w0 ops Q l L (Qn (tSl Qbl 180) [g.1] x.Conds :: Qn (tSl Qa 3) [g.2] x.Out :: is)) : WM P N B w0 ops Q l L (Qn Qcm z x :: is) := Qiw (γ := Value × Value) (js := fun g => [Qn (tSl Qbl 180) [g.1] x.Conds, Qn (tSl Qa 3) [g.2] x.Out]) (C := fun g => z = [.int .i64 x.Id, .int .i64 x.Tenant, g.1, g.2]) (fun _ _ h => Qbdr h) h
theorem Qwk {w : World} {L : List Nat} {x : Qat} {v0 v1 : Value} (h : Sep [Qn (tSl Qbl 180) [v0] x.Conds, Qn (tSl Qa 3) [v1] x.Out] w L) : Qcm.own w L [.int .i64 x.Id, .int .i64 x.Tenant, v0, v1] x := by
  obtain ⟨L0, K0, rfl, h0, s0⟩ := Sep.cons h
  obtain ⟨L1, K1, rfl, h1, s1⟩ := Sep.cons s0
  cases (Sep.nil s1)
  exact Qkx (T := Qcm) (cs := [.int .i64 x.Id, .int .i64 x.Tenant, v0, v1]) (x := x) ⟨_, _, _, _, rfl, rfl, Qck, ⟨_, _, _, _, rfl, rfl, Qck, ⟨_, _, _, _, rfl, rfl, h0, h1⟩⟩⟩ (by simp)
theorem Qbds {w : World} {L : List Nat} {cs : List Value} {x : Qab} (h : Qap.own w L cs x) : ∃ g : Value, cs = [.int .i64 x.Id, g] ∧ Sep [Qn (tSl Qa 3) [g] x.Values] w L := by
  obtain ⟨_, _, _, _, rfl, rfl, ⟨rfl, _, rfl, rfl⟩, ⟨v0, rfl, h0⟩⟩ := h
  exact ⟨v0, rfl, Sep.cast (⟨_, [], (List.append_nil _).symm, ⟨_, rfl, h0⟩, rfl⟩) (by simp)⟩
theorem Qmv {P : Program} {N B : Nat} {w0 : World} {Q : Exit → Act → World → Prop} {L : List (Nat × Value)} {is : List It} {ops : Array Oper} {l : List Oper} {z : List Value} {x : Qab} (h : ∀ g : Value, z = [.int .i64 x.Id, g] → WM P N B w0 ops Q l L (Qn (tSl Qa 3) [g] x.Values :: is)) : WM P N B w0 ops Q l L (Qn Qap z x :: is) := Qiw (γ := Value) (js := fun g => [Qn (tSl Qa 3) [g] x.Values]) (C := fun g => z = [.int .i64 x.Id, g]) (fun _ _ h => Qbds h) h
theorem Qjq {w : World} {L : List Nat} {x : Qab} {v0 : Value} (h : Sep [Qn (tSl Qa 3) [v0] x.Values] w L) : Qap.own w L [.int .i64 x.Id, v0] x := by
  obtain ⟨L0, K0, rfl, h0, s0⟩ := Sep.cons h
  cases (Sep.nil s0)
  exact Qkx (T := Qap) (cs := [.int .i64 x.Id, v0]) (x := x) ⟨_, _, _, _, rfl, rfl, Qck, h0⟩ (by simp)
theorem Qwb {w : World} {L : List Nat} {cs : List Value} {x : Qw} (h : Qah.own w L cs x) : ∃ g : Value × Value × Value × Value, cs = [.int .i64 x.Query.Id, .int .i64 x.Query.Tenant, g.1, g.2.1, .int .i64 x.Time, g.2.2.1, .int .i64 x.Age, .int .i64 x.Sent, .int .i64 x.Cap, g.2.2.2] ∧ Sep [Qn (tSl Qbl 180) [g.1] x.Query.Conds, Qn (tSl Qa 3) [g.2.1] x.Query.Out, Qn (tSl Qa 3) [g.2.2.1] x.Todo, Qn (tSl Qap 70) [g.2.2.2] x.Rows] w L := by
  obtain ⟨_, _, _, _, rfl, rfl, ⟨_, _, _, _, rfl, rfl, ⟨rfl, _, rfl, rfl⟩, ⟨_, _, _, _, rfl, rfl, ⟨rfl, _, rfl, rfl⟩, ⟨_, _, _, _, rfl, rfl, ⟨v0, rfl, h0⟩, ⟨v1, rfl, h1⟩⟩⟩⟩, ⟨_, _, _, _, rfl, rfl, ⟨rfl, _, rfl, rfl⟩, ⟨_, _, _, _, rfl, rfl, ⟨v2, rfl, h2⟩, ⟨_, _, _, _, rfl, rfl, ⟨rfl, _, rfl, rfl⟩, ⟨_, _, _, _, rfl, rfl, ⟨rfl, _, rfl, rfl⟩, ⟨_, _, _, _, rfl, rfl, ⟨rfl, _, rfl, rfl⟩, ⟨v3, rfl, h3⟩⟩⟩⟩⟩⟩⟩ := h
  exact ⟨(v0, v1, v2, v3), rfl, Sep.cast (⟨_, _, rfl, ⟨_, rfl, h0⟩, ⟨_, _, rfl, ⟨_, rfl, h1⟩, ⟨_, _, rfl, ⟨_, rfl, h2⟩, ⟨_, [], (List.append_nil _).symm, ⟨_, rfl, h3⟩, rfl⟩⟩⟩⟩) (by simp)⟩
theorem Qof {P : Program} {N B : Nat} {w0 : World} {Q : Exit → Act → World → Prop} {L : List (Nat × Value)} {is : List It} {ops : Array Oper} {l : List Oper} {z : List Value} {x : Qw} (h : ∀ g : Value × Value × Value × Value, z = [.int .i64 x.Query.Id, .int .i64 x.Query.Tenant, g.1, g.2.1, .int .i64 x.Time, g.2.2.1, .int .i64 x.Age, .int .i64 x.Sent, .int .i64 x.Cap, g.2.2.2] → WM P N B w0 ops Q l L (Qn (tSl Qbl 180) [g.1] x.Query.Conds :: Qn (tSl Qa 3) [g.2.1] x.Query.Out :: Qn (tSl Qa 3) [g.2.2.1] x.Todo :: Qn (tSl Qap 70) [g.2.2.2] x.Rows :: is)) : WM P N B w0 ops Q l L (Qn Qah z x :: is) := Qiw (γ := Value × Value × Value × Value) (js := fun g => [Qn (tSl Qbl 180) [g.1] x.Query.Conds, Qn (tSl Qa 3) [g.2.1] x.Query.Out, Qn (tSl Qa 3) [g.2.2.1] x.Todo, Qn (tSl Qap 70) [g.2.2.2] x.Rows]) (C := fun g => z = [.int .i64 x.Query.Id, .int .i64 x.Query.Tenant, g.1, g.2.1, .int .i64 x.Time, g.2.2.1, .int .i64 x.Age, .int .i64 x.Sent, .int .i64 x.Cap, g.2.2.2]) (fun _ _ h => Qwb h) h
theorem Qho {w : World} {L : List Nat} {x : Qw} {v0 v1 v2 v3 : Value} (h : Sep [Qn (tSl Qbl 180) [v0] x.Query.Conds, Qn (tSl Qa 3) [v1] x.Query.Out, Qn (tSl Qa 3) [v2] x.Todo, Qn (tSl Qap 70) [v3] x.Rows] w L) : Qah.own w L [.int .i64 x.Query.Id, .int .i64 x.Query.Tenant, v0, v1, .int .i64 x.Time, v2, .int .i64 x.Age, .int .i64 x.Sent, .int .i64 x.Cap, v3] x := by
  obtain ⟨L0, K0, rfl, h0, s0⟩ := Sep.cons h
  obtain ⟨L1, K1, rfl, h1, s1⟩ := Sep.cons s0
  obtain ⟨L2, K2, rfl, h2, s2⟩ := Sep.cons s1
  obtain ⟨L3, K3, rfl, h3, s3⟩ := Sep.cons s2
  cases (Sep.nil s3)
  exact Qkx (T := Qah) (cs := [.int .i64 x.Query.Id, .int .i64 x.Query.Tenant, v0, v1, .int .i64 x.Time, v2, .int .i64 x.Age, .int .i64 x.Sent, .int .i64 x.Cap, v3]) (x := x) ⟨_, _, _, _, rfl, rfl, ⟨_, _, _, _, rfl, rfl, Qck, ⟨_, _, _, _, rfl, rfl, Qck, ⟨_, _, _, _, rfl, rfl, h0, h1⟩⟩⟩, ⟨_, _, _, _, rfl, rfl, Qck, ⟨_, _, _, _, rfl, rfl, h2, ⟨_, _, _, _, rfl, rfl, Qck, ⟨_, _, _, _, rfl, rfl, Qck, ⟨_, _, _, _, rfl, rfl, Qck, h3⟩⟩⟩⟩⟩⟩ (by simp)
theorem Qbcz {w : World} {L : List Nat} {cs : List Value} {x : Qav} (h : Qas.own w L cs x) : ∃ g : Value × Value × Value, cs = [.int .i64 x.Query.Id, .int .i64 x.Query.Tenant, g.1, g.2.1, .int .i64 x.Time, .int .i64 x.Steps, g.2.2] ∧ Sep [Qn (tSl Qbl 180) [g.1] x.Query.Conds, Qn (tSl Qa 3) [g.2.1] x.Query.Out, Qn (tSl Qap 70) [g.2.2] x.Rows] w L := by
  obtain ⟨_, _, _, _, rfl, rfl, ⟨_, _, _, _, rfl, rfl, ⟨rfl, _, rfl, rfl⟩, ⟨_, _, _, _, rfl, rfl, ⟨rfl, _, rfl, rfl⟩, ⟨_, _, _, _, rfl, rfl, ⟨v0, rfl, h0⟩, ⟨v1, rfl, h1⟩⟩⟩⟩, ⟨_, _, _, _, rfl, rfl, ⟨rfl, _, rfl, rfl⟩, ⟨_, _, _, _, rfl, rfl, ⟨rfl, _, rfl, rfl⟩, ⟨v2, rfl, h2⟩⟩⟩⟩ := h
  exact ⟨(v0, v1, v2), rfl, Sep.cast (⟨_, _, rfl, ⟨_, rfl, h0⟩, ⟨_, _, rfl, ⟨_, rfl, h1⟩, ⟨_, [], (List.append_nil _).symm, ⟨_, rfl, h2⟩, rfl⟩⟩⟩) (by simp)⟩
theorem Qabr {P : Program} {N B : Nat} {w0 : World} {Q : Exit → Act → World → Prop} {L : List (Nat × Value)} {is : List It} {ops : Array Oper} {l : List Oper} {z : List Value} {x : Qav} (h : ∀ g : Value × Value × Value, z = [.int .i64 x.Query.Id, .int .i64 x.Query.Tenant, g.1, g.2.1, .int .i64 x.Time, .int .i64 x.Steps, g.2.2] → WM P N B w0 ops Q l L (Qn (tSl Qbl 180) [g.1] x.Query.Conds :: Qn (tSl Qa 3) [g.2.1] x.Query.Out :: Qn (tSl Qap 70) [g.2.2] x.Rows :: is)) : WM P N B w0 ops Q l L (Qn Qas z x :: is) := Qiw (γ := Value × Value × Value) (js := fun g => [Qn (tSl Qbl 180) [g.1] x.Query.Conds, Qn (tSl Qa 3) [g.2.1] x.Query.Out, Qn (tSl Qap 70) [g.2.2] x.Rows]) (C := fun g => z = [.int .i64 x.Query.Id, .int .i64 x.Query.Tenant, g.1, g.2.1, .int .i64 x.Time, .int .i64 x.Steps, g.2.2]) (fun _ _ h => Qbcz h) h
theorem Qly {w : World} {L : List Nat} {x : Qav} {v0 v1 v2 : Value} (h : Sep [Qn (tSl Qbl 180) [v0] x.Query.Conds, Qn (tSl Qa 3) [v1] x.Query.Out, Qn (tSl Qap 70) [v2] x.Rows] w L) : Qas.own w L [.int .i64 x.Query.Id, .int .i64 x.Query.Tenant, v0, v1, .int .i64 x.Time, .int .i64 x.Steps, v2] x := by
  obtain ⟨L0, K0, rfl, h0, s0⟩ := Sep.cons h
  obtain ⟨L1, K1, rfl, h1, s1⟩ := Sep.cons s0
  obtain ⟨L2, K2, rfl, h2, s2⟩ := Sep.cons s1
  cases (Sep.nil s2)
  exact Qkx (T := Qas) (cs := [.int .i64 x.Query.Id, .int .i64 x.Query.Tenant, v0, v1, .int .i64 x.Time, .int .i64 x.Steps, v2]) (x := x) ⟨_, _, _, _, rfl, rfl, ⟨_, _, _, _, rfl, rfl, Qck, ⟨_, _, _, _, rfl, rfl, Qck, ⟨_, _, _, _, rfl, rfl, h0, h1⟩⟩⟩, ⟨_, _, _, _, rfl, rfl, Qck, ⟨_, _, _, _, rfl, rfl, Qck, h2⟩⟩⟩ (by simp)
theorem Qbcx {w : World} {L : List Nat} {cs : List Value} {x : Qbc} (h : Qaq.own w L cs x) : ∃ g : Value × Value × Value, cs = [.int .i64 x.Segment, .int .i64 x.Base, g.1, g.2.1, g.2.2] ∧ Sep [Qn (tSl Qa 3) [g.1] x.Ids, Qn (tSl Qa 3) [g.2.1] x.Tenants, Qn (tSl Qa 3) [g.2.2] x.Rows] w L := by
  obtain ⟨_, _, _, _, rfl, rfl, ⟨rfl, _, rfl, rfl⟩, ⟨_, _, _, _, rfl, rfl, ⟨rfl, _, rfl, rfl⟩, ⟨_, _, _, _, rfl, rfl, ⟨v0, rfl, h0⟩, ⟨_, _, _, _, rfl, rfl, ⟨v1, rfl, h1⟩, ⟨v2, rfl, h2⟩⟩⟩⟩⟩ := h
  exact ⟨(v0, v1, v2), rfl, Sep.cast (⟨_, _, rfl, ⟨_, rfl, h0⟩, ⟨_, _, rfl, ⟨_, rfl, h1⟩, ⟨_, [], (List.append_nil _).symm, ⟨_, rfl, h2⟩, rfl⟩⟩⟩) (by simp)⟩
theorem Qwc {P : Program} {N B : Nat} {w0 : World} {Q : Exit → Act → World → Prop} {L : List (Nat × Value)} {is : List It} {ops : Array Oper} {l : List Oper} {z : List Value} {x : Qbc} (h : ∀ g : Value × Value × Value, z = [.int .i64 x.Segment, .int .i64 x.Base, g.1, g.2.1, g.2.2] → WM P N B w0 ops Q l L (Qn (tSl Qa 3) [g.1] x.Ids :: Qn (tSl Qa 3) [g.2.1] x.Tenants :: Qn (tSl Qa 3) [g.2.2] x.Rows :: is)) : WM P N B w0 ops Q l L (Qn Qaq z x :: is) := Qiw (γ := Value × Value × Value) (js := fun g => [Qn (tSl Qa 3) [g.1] x.Ids, Qn (tSl Qa 3) [g.2.1] x.Tenants, Qn (tSl Qa 3) [g.2.2] x.Rows]) (C := fun g => z = [.int .i64 x.Segment, .int .i64 x.Base, g.1, g.2.1, g.2.2]) (fun _ _ h => Qbcx h) h
theorem Qmt {w : World} {L : List Nat} {x : Qbc} {v0 v1 v2 : Value} (h : Sep [Qn (tSl Qa 3) [v0] x.Ids, Qn (tSl Qa 3) [v1] x.Tenants, Qn (tSl Qa 3) [v2] x.Rows] w L) : Qaq.own w L [.int .i64 x.Segment, .int .i64 x.Base, v0, v1, v2] x := by
  obtain ⟨L0, K0, rfl, h0, s0⟩ := Sep.cons h
  obtain ⟨L1, K1, rfl, h1, s1⟩ := Sep.cons s0
  obtain ⟨L2, K2, rfl, h2, s2⟩ := Sep.cons s1
  cases (Sep.nil s2)
  exact Qkx (T := Qaq) (cs := [.int .i64 x.Segment, .int .i64 x.Base, v0, v1, v2]) (x := x) ⟨_, _, _, _, rfl, rfl, Qck, ⟨_, _, _, _, rfl, rfl, Qck, ⟨_, _, _, _, rfl, rfl, h0, ⟨_, _, _, _, rfl, rfl, h1, h2⟩⟩⟩⟩ (by simp)
theorem Qrd {w : World} {L : List Nat} {cs : List Value} {x : Qo} (h : Qcb.own w L cs x) : ∃ g : Value × Value × Value × Value × Value, cs = [g.1, .int .i64 x.Store.Now, .int .i64 x.Cursor, g.2.1, g.2.2.1, g.2.2.2.1, g.2.2.2.2, .int .i64 x.Steps] ∧ Sep [Qn (tSl (tSl Qaf 163) 100) [g.1] x.Store.Segments, Qn (tSl Qa 3) [g.2.1] x.Order, Qn (tSl Qah 61) [g.2.2.1] x.Active, Qn (tSl Qas 80) [g.2.2.2.1] x.Done, Qn (tSl Qaq 102) [g.2.2.2.2] x.Ledger] w L := by
  obtain ⟨_, _, _, _, rfl, rfl, ⟨_, _, _, _, rfl, rfl, ⟨v0, rfl, h0⟩, ⟨rfl, _, rfl, rfl⟩⟩, ⟨_, _, _, _, rfl, rfl, ⟨rfl, _, rfl, rfl⟩, ⟨_, _, _, _, rfl, rfl, ⟨v1, rfl, h1⟩, ⟨_, _, _, _, rfl, rfl, ⟨v2, rfl, h2⟩, ⟨_, _, _, _, rfl, rfl, ⟨v3, rfl, h3⟩, ⟨_, _, _, _, rfl, rfl, ⟨v4, rfl, h4⟩, ⟨rfl, _, rfl, rfl⟩⟩⟩⟩⟩⟩⟩ := h
  exact ⟨(v0, v1, v2, v3, v4), rfl, Sep.cast (⟨_, _, rfl, ⟨_, rfl, h0⟩, ⟨_, _, rfl, ⟨_, rfl, h1⟩, ⟨_, _, rfl, ⟨_, rfl, h2⟩, ⟨_, _, rfl, ⟨_, rfl, h3⟩, ⟨_, [], (List.append_nil _).symm, ⟨_, rfl, h4⟩, rfl⟩⟩⟩⟩⟩) (by simp)⟩
theorem Qhf {P : Program} {N B : Nat} {w0 : World} {Q : Exit → Act → World → Prop} {L : List (Nat × Value)} {is : List It} {ops : Array Oper} {l : List Oper} {z : List Value} {x : Qo} (h : ∀ g : Value × Value × Value × Value × Value, z = [g.1, .int .i64 x.Store.Now, .int .i64 x.Cursor, g.2.1, g.2.2.1, g.2.2.2.1, g.2.2.2.2, .int .i64 x.Steps] → WM P N B w0 ops Q l L (Qn (tSl (tSl Qaf 163) 100) [g.1] x.Store.Segments :: Qn (tSl Qa 3) [g.2.1] x.Order :: Qn (tSl Qah 61) [g.2.2.1] x.Active :: Qn (tSl Qas 80) [g.2.2.2.1] x.Done :: Qn (tSl Qaq 102) [g.2.2.2.2] x.Ledger :: is)) : WM P N B w0 ops Q l L (Qn Qcb z x :: is) := Qiw (γ := Value × Value × Value × Value × Value) (js := fun g => [Qn (tSl (tSl Qaf 163) 100) [g.1] x.Store.Segments, Qn (tSl Qa 3) [g.2.1] x.Order, Qn (tSl Qah 61) [g.2.2.1] x.Active, Qn (tSl Qas 80) [g.2.2.2.1] x.Done, Qn (tSl Qaq 102) [g.2.2.2.2] x.Ledger]) (C := fun g => z = [g.1, .int .i64 x.Store.Now, .int .i64 x.Cursor, g.2.1, g.2.2.1, g.2.2.2.1, g.2.2.2.2, .int .i64 x.Steps]) (fun _ _ h => Qrd h) h
theorem Qfk {w : World} {L : List Nat} {x : Qo} {v0 v1 v2 v3 v4 : Value} (h : Sep [Qn (tSl (tSl Qaf 163) 100) [v0] x.Store.Segments, Qn (tSl Qa 3) [v1] x.Order, Qn (tSl Qah 61) [v2] x.Active, Qn (tSl Qas 80) [v3] x.Done, Qn (tSl Qaq 102) [v4] x.Ledger] w L) : Qcb.own w L [v0, .int .i64 x.Store.Now, .int .i64 x.Cursor, v1, v2, v3, v4, .int .i64 x.Steps] x := by
  obtain ⟨L0, K0, rfl, h0, s0⟩ := Sep.cons h
  obtain ⟨L1, K1, rfl, h1, s1⟩ := Sep.cons s0
  obtain ⟨L2, K2, rfl, h2, s2⟩ := Sep.cons s1
  obtain ⟨L3, K3, rfl, h3, s3⟩ := Sep.cons s2
  obtain ⟨L4, K4, rfl, h4, s4⟩ := Sep.cons s3
  cases (Sep.nil s4)
  exact Qkx (T := Qcb) (cs := [v0, .int .i64 x.Store.Now, .int .i64 x.Cursor, v1, v2, v3, v4, .int .i64 x.Steps]) (x := x) ⟨_, _, _, _, rfl, rfl, ⟨_, _, _, _, rfl, rfl, h0, Qck⟩, ⟨_, _, _, _, rfl, rfl, Qck, ⟨_, _, _, _, rfl, rfl, h1, ⟨_, _, _, _, rfl, rfl, h2, ⟨_, _, _, _, rfl, rfl, h3, ⟨_, _, _, _, rfl, rfl, h4, Qck⟩⟩⟩⟩⟩⟩ (by simp)
def Qvg (B : Nat) (x : Qcp) : Prop := x.Set.length ≤ B
theorem Qbdv {w : World} {L : List Nat} {cs : List Value} {x : Qcp} (h : Qet.own w L cs x) : ∃ g : Value, cs = [.int .i64 x.From, .int .i64 x.To, g] ∧ Sep [Qn (tSl Qa 3) [g] x.Set] w L := by
  obtain ⟨_, _, _, _, rfl, rfl, ⟨rfl, _, rfl, rfl⟩, ⟨_, _, _, _, rfl, rfl, ⟨rfl, _, rfl, rfl⟩, ⟨v0, rfl, h0⟩⟩⟩ := h
  exact ⟨v0, rfl, Sep.cast (⟨_, [], (List.append_nil _).symm, ⟨_, rfl, h0⟩, rfl⟩) (by simp)⟩
theorem Qbdu {P : Program} {N B : Nat} {w0 : World} {Q : Exit → Act → World → Prop} {L : List (Nat × Value)} {is : List It} {ops : Array Oper} {l : List Oper} {z : List Value} {x : Qcp} (h : ∀ g : Value, z = [.int .i64 x.From, .int .i64 x.To, g] → WM P N B w0 ops Q l L (Qn (tSl Qa 3) [g] x.Set :: is)) : WM P N B w0 ops Q l L (Qn Qet z x :: is) := Qiw (γ := Value) (js := fun g => [Qn (tSl Qa 3) [g] x.Set]) (C := fun g => z = [.int .i64 x.From, .int .i64 x.To, g]) (fun _ _ h => Qbdv h) h
theorem Qwl {w : World} {L : List Nat} {x : Qcp} {v0 : Value} (h : Sep [Qn (tSl Qa 3) [v0] x.Set] w L) : Qet.own w L [.int .i64 x.From, .int .i64 x.To, v0] x := by
  obtain ⟨L0, K0, rfl, h0, s0⟩ := Sep.cons h
  cases (Sep.nil s0)
  exact Qkx (T := Qet) (cs := [.int .i64 x.From, .int .i64 x.To, v0]) (x := x) ⟨_, _, _, _, rfl, rfl, Qck, ⟨_, _, _, _, rfl, rfl, Qck, h0⟩⟩ (by simp)
def Qvf (B : Nat) (x : Qgq) : Prop := (x.Queries.length ≤ B ∧ ∀ y ∈ x.Queries, Qfy B y) ∧ (x.Fields.length ≤ B ∧ ∀ y ∈ x.Fields, (y.length ≤ B ∧ ∀ y1 ∈ y, Qvg B y1))
theorem Qbdd {w : World} {L : List Nat} {cs : List Value} {x : Qgq} (h : Qmu.own w L cs x) : ∃ g : Value × Value, cs = [g.1, g.2] ∧ Sep [Qn (tSl Qcm 58) [g.1] x.Queries, Qn (tSl (tSl Qet 238) 225) [g.2] x.Fields] w L := by
  obtain ⟨_, _, _, _, rfl, rfl, ⟨v0, rfl, h0⟩, ⟨v1, rfl, h1⟩⟩ := h
  exact ⟨(v0, v1), rfl, Sep.cast (⟨_, _, rfl, ⟨_, rfl, h0⟩, ⟨_, [], (List.append_nil _).symm, ⟨_, rfl, h1⟩, rfl⟩⟩) (by simp)⟩
theorem Qbdc {P : Program} {N B : Nat} {w0 : World} {Q : Exit → Act → World → Prop} {L : List (Nat × Value)} {is : List It} {ops : Array Oper} {l : List Oper} {z : List Value} {x : Qgq} (h : ∀ g : Value × Value, z = [g.1, g.2] → WM P N B w0 ops Q l L (Qn (tSl Qcm 58) [g.1] x.Queries :: Qn (tSl (tSl Qet 238) 225) [g.2] x.Fields :: is)) : WM P N B w0 ops Q l L (Qn Qmu z x :: is) := Qiw (γ := Value × Value) (js := fun g => [Qn (tSl Qcm 58) [g.1] x.Queries, Qn (tSl (tSl Qet 238) 225) [g.2] x.Fields]) (C := fun g => z = [g.1, g.2]) (fun _ _ h => Qbdd h) h
theorem Qais {w : World} {L : List Nat} {x : Qgq} {v0 v1 : Value} (h : Sep [Qn (tSl Qcm 58) [v0] x.Queries, Qn (tSl (tSl Qet 238) 225) [v1] x.Fields] w L) : Qmu.own w L [v0, v1] x := by
  obtain ⟨L0, K0, rfl, h0, s0⟩ := Sep.cons h
  obtain ⟨L1, K1, rfl, h1, s1⟩ := Sep.cons s0
  cases (Sep.nil s1)
  exact Qkx (T := Qmu) (cs := [v0, v1]) (x := x) ⟨_, _, _, _, rfl, rfl, h0, h1⟩ (by simp)
abbrev Qf := @Tryz.type3
abbrev Qq := @Tryz.underlying25
abbrev Qs := @Tryz.underlying3
abbrev Qz := @Tryz.underlying39
abbrev Qaj := @Tryz.underlying61
abbrev Qao := @Tryz.type25
abbrev Qax := @Tryz.underlying35
abbrev Qbd := @Tryz.type39
abbrev Qbe := @Tryz.type61
abbrev Qbj := @Tryz.type58
abbrev Qbo := @Tryz.type163
abbrev Qbp := @Tryz.underlying163
abbrev Qbq := @Tryz.underlying58
abbrev Qbt := @Tryz.type34
abbrev Qbv := @Tryz.underlying100
abbrev Qbw := @Tryz.underlying34
abbrev Qby := @Tryz.underlying102
abbrev Qbz := @Tryz.underlying32
abbrev Qcg := @Tryz.type70
abbrev Qch := @Tryz.underlying36
abbrev Qci := @Tryz.underlying59
abbrev Qcq := @Tryz.type80
abbrev Qcs := @Tryz.type102
abbrev Qct := @Tryz.underlying56
abbrev Qcw := @Tryz.type35
abbrev Qcx := @Tryz.underlying37
abbrev Qda := @Tryz.underlying80
abbrev Qds := @Tryz.type180
abbrev Qdt := @Tryz.type59
abbrev Qdu := @Tryz.underlying180
abbrev Qdv := @Tryz.underlying70
abbrev Qea := @Tryz.type32
abbrev Qek := @Tryz.type36
abbrev Qfg := @Tryz.type37
abbrev Qfl := @Tryz.type100
abbrev Qfu := @Tryz.type56
abbrev Qhp := @Tryz.underlying201
abbrev Qib := @Tryz.underlying30
abbrev Qju := @Tryz.underlying225
abbrev Qli := @Tryz.underlying147
abbrev Qmx := @Tryz.underlying144
abbrev Qmy := @Tryz.underlying145
abbrev Qmz := @Tryz.underlying152
abbrev Qpg := @Tryz.underlying150
abbrev Qph := @Tryz.underlying196
abbrev Qpi := @Tryz.underlying204
abbrev Qpj := @Tryz.underlying22
abbrev Qpk := @Tryz.underlying26
abbrev Qpl := @Tryz.underlying27
abbrev Qpm := @Tryz.underlying28
abbrev Qre := @Tryz.underlying202
abbrev Qrf := @Tryz.underlying218
abbrev Qtf := @Tryz.underlying142
end Go.Proofs.YtdlminfjdodjoaaGreat

