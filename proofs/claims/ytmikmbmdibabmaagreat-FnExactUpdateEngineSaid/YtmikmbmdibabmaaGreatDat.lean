/-
  The data of the program as structures, and how they lie in memory.
-/
import Derived.Test.YtmikmbmdibabmaaGreatVcS
import Derived.Test.YtmikmbmdibabmaaGreatVcP
import Derived.Test.YtmikmbmdibabmaaGreatVcX
import Derived.Test.YtmikmbmdibabmaaGreatVcY
import Derived.Test.YtmikmbmdibabmaaGreatVcQ
namespace Go.Proofs.YtmikmbmdibabmaaGreat
open Go.RowKit
structure Qn where
  Id : Int
  Values : (List Int)
  Born : Int
  Died : Int
instance : Inhabited Qn := ⟨⟨default, default, default, default⟩⟩
def Qhr : Ty Qn := Qfz (Qco Qg (Qco (tSl Qg 3) (Qco Qg Qg))) (fun x => (x.Id, x.Values, x.Born, x.Died))
theorem Qsz {w : World} {B : Nat} {cs : List Value} {x : Qn} (h : Qhr.rd w B cs x) : ∃ v0, cs = [.int .i64 x.Id, v0, .int .i64 x.Born, .int .i64 x.Died] ∧ rdS Qg w B v0 x.Values := by
  obtain ⟨_, _, rfl, ⟨_, rfl, rfl⟩, ⟨_, _, rfl, ⟨v0, rfl, h0⟩, ⟨_, _, rfl, ⟨_, rfl, rfl⟩, ⟨_, rfl, rfl⟩⟩⟩⟩ := h
  exact ⟨v0, rfl, h0⟩
theorem Qadk {w : World} {B : Nat} {x : Qn} {v0 : Value} (h0 : rdS Qg w B v0 x.Values) : Qhr.rd w B [.int .i64 x.Id, v0, .int .i64 x.Born, .int .i64 x.Died] x := ⟨_, _, rfl, ⟨_, rfl, rfl⟩, ⟨_, _, rfl, ⟨_, rfl, h0⟩, ⟨_, _, rfl, ⟨_, rfl, rfl⟩, ⟨_, rfl, rfl⟩⟩⟩⟩
structure Qx where
  Segments : (List (List Qn))
  Now : Int
instance : Inhabited Qx := ⟨⟨default, default⟩⟩
def Qns : Ty Qx := Qfz (Qco (tSl (tSl Qhr 239) 219) Qg) (fun x => (x.Segments, x.Now))
theorem Qadi {w : World} {B : Nat} {cs : List Value} {x : Qx} (h : Qns.rd w B cs x) : ∃ v0, cs = [v0, .int .i64 x.Now] ∧ rdS (tSl Qhr 239) w B v0 x.Segments := by
  obtain ⟨_, _, rfl, ⟨v0, rfl, h0⟩, ⟨_, rfl, rfl⟩⟩ := h
  exact ⟨v0, rfl, h0⟩
theorem Qadh {w : World} {B : Nat} {x : Qx} {v0 : Value} (h0 : rdS (tSl Qhr 239) w B v0 x.Segments) : Qns.rd w B [v0, .int .i64 x.Now] x := ⟨_, _, rfl, ⟨_, rfl, h0⟩, ⟨_, rfl, rfl⟩⟩
structure Qby where
  Field : Int
  Low : Int
  High : Int
instance : Inhabited Qby := ⟨⟨default, default, default⟩⟩
def Qil : Ty Qby := Qfz (Qco Qg (Qco Qg Qg)) (fun x => (x.Field, x.Low, x.High))
theorem Qadb {w : World} {B : Nat} {cs : List Value} {x : Qby} (h : Qil.rd w B cs x) : cs = [.int .i64 x.Field, .int .i64 x.Low, .int .i64 x.High] := by
  obtain ⟨_, _, rfl, ⟨_, rfl, rfl⟩, ⟨_, _, rfl, ⟨_, rfl, rfl⟩, ⟨_, rfl, rfl⟩⟩⟩ := h
  exact rfl
theorem Qatm {w : World} {B : Nat} {x : Qby} : Qil.rd w B [.int .i64 x.Field, .int .i64 x.Low, .int .i64 x.High] x := ⟨_, _, rfl, ⟨_, rfl, rfl⟩, ⟨_, _, rfl, ⟨_, rfl, rfl⟩, ⟨_, rfl, rfl⟩⟩⟩
structure Qcg where
  Id : Int
  Tenant : Int
  Conds : (List Qby)
  Out : (List Int)
instance : Inhabited Qcg := ⟨⟨default, default, default, default⟩⟩
def Qmn : Ty Qcg := Qfz (Qco Qg (Qco Qg (Qco (tSl Qil 215) (tSl Qg 3)))) (fun x => (x.Id, x.Tenant, x.Conds, x.Out))
theorem Qadf {w : World} {B : Nat} {cs : List Value} {x : Qcg} (h : Qmn.rd w B cs x) : ∃ v0 v1, cs = [.int .i64 x.Id, .int .i64 x.Tenant, v0, v1] ∧ rdS Qil w B v0 x.Conds ∧ rdS Qg w B v1 x.Out := by
  obtain ⟨_, _, rfl, ⟨_, rfl, rfl⟩, ⟨_, _, rfl, ⟨_, rfl, rfl⟩, ⟨_, _, rfl, ⟨v0, rfl, h0⟩, ⟨v1, rfl, h1⟩⟩⟩⟩ := h
  exact ⟨v0, v1, rfl, h0, h1⟩
theorem Qsw {w : World} {B : Nat} {x : Qcg} {v0 v1 : Value} (h0 : rdS Qil w B v0 x.Conds) (h1 : rdS Qg w B v1 x.Out) : Qmn.rd w B [.int .i64 x.Id, .int .i64 x.Tenant, v0, v1] x := ⟨_, _, rfl, ⟨_, rfl, rfl⟩, ⟨_, _, rfl, ⟨_, rfl, rfl⟩, ⟨_, _, rfl, ⟨_, rfl, h0⟩, ⟨_, rfl, h1⟩⟩⟩⟩
structure Qaj where
  Id : Int
  Values : (List Int)
instance : Inhabited Qaj := ⟨⟨default, default⟩⟩
def Qhq : Ty Qaj := Qfz (Qco Qg (tSl Qg 3)) (fun x => (x.Id, x.Values))
theorem Qsy {w : World} {B : Nat} {cs : List Value} {x : Qaj} (h : Qhq.rd w B cs x) : ∃ v0, cs = [.int .i64 x.Id, v0] ∧ rdS Qg w B v0 x.Values := by
  obtain ⟨_, _, rfl, ⟨_, rfl, rfl⟩, ⟨v0, rfl, h0⟩⟩ := h
  exact ⟨v0, rfl, h0⟩
theorem Qsx {w : World} {B : Nat} {x : Qaj} {v0 : Value} (h0 : rdS Qg w B v0 x.Values) : Qhq.rd w B [.int .i64 x.Id, v0] x := ⟨_, _, rfl, ⟨_, rfl, rfl⟩, ⟨_, rfl, h0⟩⟩
structure Qbf where
  Query : Qcg
  Time : Int
  Todo : (List Int)
  Age : Int
  Sent : Int
  Cap : Int
  Rows : (List Qaj)
instance : Inhabited Qbf := ⟨⟨default, default, default, default, default, default, default⟩⟩
def Qjl : Ty Qbf := Qfz (Qco Qmn (Qco Qg (Qco (tSl Qg 3) (Qco Qg (Qco Qg (Qco Qg (tSl Qhq 93))))))) (fun x => (x.Query, x.Time, x.Todo, x.Age, x.Sent, x.Cap, x.Rows))
theorem Qst {w : World} {B : Nat} {cs : List Value} {x : Qbf} (h : Qjl.rd w B cs x) : ∃ v0 v1 v2 v3, cs = [.int .i64 x.Query.Id, .int .i64 x.Query.Tenant, v0, v1, .int .i64 x.Time, v2, .int .i64 x.Age, .int .i64 x.Sent, .int .i64 x.Cap, v3] ∧ rdS Qil w B v0 x.Query.Conds ∧ rdS Qg w B v1 x.Query.Out ∧ rdS Qg w B v2 x.Todo ∧ rdS Qhq w B v3 x.Rows := by
  obtain ⟨_, _, rfl, ⟨_, _, rfl, ⟨_, rfl, rfl⟩, ⟨_, _, rfl, ⟨_, rfl, rfl⟩, ⟨_, _, rfl, ⟨v0, rfl, h0⟩, ⟨v1, rfl, h1⟩⟩⟩⟩, ⟨_, _, rfl, ⟨_, rfl, rfl⟩, ⟨_, _, rfl, ⟨v2, rfl, h2⟩, ⟨_, _, rfl, ⟨_, rfl, rfl⟩, ⟨_, _, rfl, ⟨_, rfl, rfl⟩, ⟨_, _, rfl, ⟨_, rfl, rfl⟩, ⟨v3, rfl, h3⟩⟩⟩⟩⟩⟩⟩ := h
  exact ⟨v0, v1, v2, v3, rfl, h0, h1, h2, h3⟩
theorem Qacz {w : World} {B : Nat} {x : Qbf} {v0 v1 v2 v3 : Value} (h0 : rdS Qil w B v0 x.Query.Conds) (h1 : rdS Qg w B v1 x.Query.Out) (h2 : rdS Qg w B v2 x.Todo) (h3 : rdS Qhq w B v3 x.Rows) : Qjl.rd w B [.int .i64 x.Query.Id, .int .i64 x.Query.Tenant, v0, v1, .int .i64 x.Time, v2, .int .i64 x.Age, .int .i64 x.Sent, .int .i64 x.Cap, v3] x := ⟨_, _, rfl, ⟨_, _, rfl, ⟨_, rfl, rfl⟩, ⟨_, _, rfl, ⟨_, rfl, rfl⟩, ⟨_, _, rfl, ⟨_, rfl, h0⟩, ⟨_, rfl, h1⟩⟩⟩⟩, ⟨_, _, rfl, ⟨_, rfl, rfl⟩, ⟨_, _, rfl, ⟨_, rfl, h2⟩, ⟨_, _, rfl, ⟨_, rfl, rfl⟩, ⟨_, _, rfl, ⟨_, rfl, rfl⟩, ⟨_, _, rfl, ⟨_, rfl, rfl⟩, ⟨_, rfl, h3⟩⟩⟩⟩⟩⟩⟩
structure Qbg where
  Query : Qcg
  Time : Int
  Steps : Int
  Rows : (List Qaj)
instance : Inhabited Qbg := ⟨⟨default, default, default, default⟩⟩
def Qjn : Ty Qbg := Qfz (Qco Qmn (Qco Qg (Qco Qg (tSl Qhq 93)))) (fun x => (x.Query, x.Time, x.Steps, x.Rows))
theorem Qsv {w : World} {B : Nat} {cs : List Value} {x : Qbg} (h : Qjn.rd w B cs x) : ∃ v0 v1 v2, cs = [.int .i64 x.Query.Id, .int .i64 x.Query.Tenant, v0, v1, .int .i64 x.Time, .int .i64 x.Steps, v2] ∧ rdS Qil w B v0 x.Query.Conds ∧ rdS Qg w B v1 x.Query.Out ∧ rdS Qhq w B v2 x.Rows := by
  obtain ⟨_, _, rfl, ⟨_, _, rfl, ⟨_, rfl, rfl⟩, ⟨_, _, rfl, ⟨_, rfl, rfl⟩, ⟨_, _, rfl, ⟨v0, rfl, h0⟩, ⟨v1, rfl, h1⟩⟩⟩⟩, ⟨_, _, rfl, ⟨_, rfl, rfl⟩, ⟨_, _, rfl, ⟨_, rfl, rfl⟩, ⟨v2, rfl, h2⟩⟩⟩⟩ := h
  exact ⟨v0, v1, v2, rfl, h0, h1, h2⟩
theorem Qadd {w : World} {B : Nat} {x : Qbg} {v0 v1 v2 : Value} (h0 : rdS Qil w B v0 x.Query.Conds) (h1 : rdS Qg w B v1 x.Query.Out) (h2 : rdS Qhq w B v2 x.Rows) : Qjn.rd w B [.int .i64 x.Query.Id, .int .i64 x.Query.Tenant, v0, v1, .int .i64 x.Time, .int .i64 x.Steps, v2] x := ⟨_, _, rfl, ⟨_, _, rfl, ⟨_, rfl, rfl⟩, ⟨_, _, rfl, ⟨_, rfl, rfl⟩, ⟨_, _, rfl, ⟨_, rfl, h0⟩, ⟨_, rfl, h1⟩⟩⟩⟩, ⟨_, _, rfl, ⟨_, rfl, rfl⟩, ⟨_, _, rfl, ⟨_, rfl, rfl⟩, ⟨_, rfl, h2⟩⟩⟩⟩
structure Qay where
  Segment : Int
  Base : Int
  Ids : (List Int)
  Tenants : (List Int)
  Rows : (List Int)
instance : Inhabited Qay := ⟨⟨default, default, default, default, default⟩⟩
def Qjm : Ty Qay := Qfz (Qco Qg (Qco Qg (Qco (tSl Qg 3) (Qco (tSl Qg 3) (tSl Qg 3))))) (fun x => (x.Segment, x.Base, x.Ids, x.Tenants, x.Rows))
theorem Qsu {w : World} {B : Nat} {cs : List Value} {x : Qay} (h : Qjm.rd w B cs x) : ∃ v0 v1 v2, cs = [.int .i64 x.Segment, .int .i64 x.Base, v0, v1, v2] ∧ rdS Qg w B v0 x.Ids ∧ rdS Qg w B v1 x.Tenants ∧ rdS Qg w B v2 x.Rows := by
  obtain ⟨_, _, rfl, ⟨_, rfl, rfl⟩, ⟨_, _, rfl, ⟨_, rfl, rfl⟩, ⟨_, _, rfl, ⟨v0, rfl, h0⟩, ⟨_, _, rfl, ⟨v1, rfl, h1⟩, ⟨v2, rfl, h2⟩⟩⟩⟩⟩ := h
  exact ⟨v0, v1, v2, rfl, h0, h1, h2⟩
theorem Qada {w : World} {B : Nat} {x : Qay} {v0 v1 v2 : Value} (h0 : rdS Qg w B v0 x.Ids) (h1 : rdS Qg w B v1 x.Tenants) (h2 : rdS Qg w B v2 x.Rows) : Qjm.rd w B [.int .i64 x.Segment, .int .i64 x.Base, v0, v1, v2] x := ⟨_, _, rfl, ⟨_, rfl, rfl⟩, ⟨_, _, rfl, ⟨_, rfl, rfl⟩, ⟨_, _, rfl, ⟨_, rfl, h0⟩, ⟨_, _, rfl, ⟨_, rfl, h1⟩, ⟨_, rfl, h2⟩⟩⟩⟩⟩
structure Qag where
  Store : Qx
  Cursor : Int
  Order : (List Int)
  Active : (List Qbf)
  Done : (List Qbg)
  Ledger : (List Qay)
  Steps : Int
instance : Inhabited Qag := ⟨⟨default, default, default, default, default, default, default⟩⟩
def Qnq : Ty Qag := Qfz (Qco Qns (Qco Qg (Qco (tSl Qg 3) (Qco (tSl Qjl 171) (Qco (tSl Qjn 174) (Qco (tSl Qjm 176) Qg)))))) (fun x => (x.Store, x.Cursor, x.Order, x.Active, x.Done, x.Ledger, x.Steps))
theorem Qxc {w : World} {B : Nat} {cs : List Value} {x : Qag} (h : Qnq.rd w B cs x) : ∃ v0 v1 v2 v3 v4, cs = [v0, .int .i64 x.Store.Now, .int .i64 x.Cursor, v1, v2, v3, v4, .int .i64 x.Steps] ∧ rdS (tSl Qhr 239) w B v0 x.Store.Segments ∧ rdS Qg w B v1 x.Order ∧ rdS Qjl w B v2 x.Active ∧ rdS Qjn w B v3 x.Done ∧ rdS Qjm w B v4 x.Ledger := by
  obtain ⟨_, _, rfl, ⟨_, _, rfl, ⟨v0, rfl, h0⟩, ⟨_, rfl, rfl⟩⟩, ⟨_, _, rfl, ⟨_, rfl, rfl⟩, ⟨_, _, rfl, ⟨v1, rfl, h1⟩, ⟨_, _, rfl, ⟨v2, rfl, h2⟩, ⟨_, _, rfl, ⟨v3, rfl, h3⟩, ⟨_, _, rfl, ⟨v4, rfl, h4⟩, ⟨_, rfl, rfl⟩⟩⟩⟩⟩⟩⟩ := h
  exact ⟨v0, v1, v2, v3, v4, rfl, h0, h1, h2, h3, h4⟩
theorem Qnr {w : World} {B : Nat} {x : Qag} {v0 v1 v2 v3 v4 : Value} (h0 : rdS (tSl Qhr 239) w B v0 x.Store.Segments) (h1 : rdS Qg w B v1 x.Order) (h2 : rdS Qjl w B v2 x.Active) (h3 : rdS Qjn w B v3 x.Done) (h4 : rdS Qjm w B v4 x.Ledger) : Qnq.rd w B [v0, .int .i64 x.Store.Now, .int .i64 x.Cursor, v1, v2, v3, v4, .int .i64 x.Steps] x := ⟨_, _, rfl, ⟨_, _, rfl, ⟨_, rfl, h0⟩, ⟨_, rfl, rfl⟩⟩, ⟨_, _, rfl, ⟨_, rfl, rfl⟩, ⟨_, _, rfl, ⟨_, rfl, h1⟩, ⟨_, _, rfl, ⟨_, rfl, h2⟩, ⟨_, _, rfl, ⟨_, rfl, h3⟩, ⟨_, _, rfl, ⟨_, rfl, h4⟩, ⟨_, rfl, rfl⟩⟩⟩⟩⟩⟩⟩
def Qbz : Ty Qby := Qfz (Qco Qg (Qco Qg Qg)) (fun x => (x.Field, x.Low, x.High))
theorem Qjk {w : World} {B : Nat} {cs : List Value} {x : Qby} (h : Qbz.rd w B cs x) : cs = [.int .i64 x.Field, .int .i64 x.Low, .int .i64 x.High] := by
  obtain ⟨_, _, rfl, ⟨_, rfl, rfl⟩, ⟨_, _, rfl, ⟨_, rfl, rfl⟩, ⟨_, rfl, rfl⟩⟩⟩ := h
  exact rfl
theorem Qsr {w : World} {B : Nat} {x : Qby} : Qbz.rd w B [.int .i64 x.Field, .int .i64 x.Low, .int .i64 x.High] x := ⟨_, _, rfl, ⟨_, rfl, rfl⟩, ⟨_, _, rfl, ⟨_, rfl, rfl⟩, ⟨_, rfl, rfl⟩⟩⟩
def Qez : Ty Qcg := Qfz (Qco Qg (Qco Qg (Qco (tSl Qbz 201) (tSl Qg 3)))) (fun x => (x.Id, x.Tenant, x.Conds, x.Out))
theorem Qpa {w : World} {B : Nat} {cs : List Value} {x : Qcg} (h : Qez.rd w B cs x) : ∃ v0 v1, cs = [.int .i64 x.Id, .int .i64 x.Tenant, v0, v1] ∧ rdS Qbz w B v0 x.Conds ∧ rdS Qg w B v1 x.Out := by
  obtain ⟨_, _, rfl, ⟨_, rfl, rfl⟩, ⟨_, _, rfl, ⟨_, rfl, rfl⟩, ⟨_, _, rfl, ⟨v0, rfl, h0⟩, ⟨v1, rfl, h1⟩⟩⟩⟩ := h
  exact ⟨v0, v1, rfl, h0, h1⟩
theorem Qjb {w : World} {B : Nat} {x : Qcg} {v0 v1 : Value} (h0 : rdS Qbz w B v0 x.Conds) (h1 : rdS Qg w B v1 x.Out) : Qez.rd w B [.int .i64 x.Id, .int .i64 x.Tenant, v0, v1] x := ⟨_, _, rfl, ⟨_, rfl, rfl⟩, ⟨_, _, rfl, ⟨_, rfl, rfl⟩, ⟨_, _, rfl, ⟨_, rfl, h0⟩, ⟨_, rfl, h1⟩⟩⟩⟩
def Qbp : Ty Qaj := Qfz (Qco Qg (tSl Qg 3)) (fun x => (x.Id, x.Values))
theorem Qin {w : World} {B : Nat} {cs : List Value} {x : Qaj} (h : Qbp.rd w B cs x) : ∃ v0, cs = [.int .i64 x.Id, v0] ∧ rdS Qg w B v0 x.Values := by
  obtain ⟨_, _, rfl, ⟨_, rfl, rfl⟩, ⟨v0, rfl, h0⟩⟩ := h
  exact ⟨v0, rfl, h0⟩
theorem Qim {w : World} {B : Nat} {x : Qaj} {v0 : Value} (h0 : rdS Qg w B v0 x.Values) : Qbp.rd w B [.int .i64 x.Id, v0] x := ⟨_, _, rfl, ⟨_, rfl, rfl⟩, ⟨_, rfl, h0⟩⟩
def Qce : Ty Qbg := Qfz (Qco Qez (Qco Qg (Qco Qg (tSl Qbp 73)))) (fun x => (x.Query, x.Time, x.Steps, x.Rows))
theorem Qkj {w : World} {B : Nat} {cs : List Value} {x : Qbg} (h : Qce.rd w B cs x) : ∃ v0 v1 v2, cs = [.int .i64 x.Query.Id, .int .i64 x.Query.Tenant, v0, v1, .int .i64 x.Time, .int .i64 x.Steps, v2] ∧ rdS Qbz w B v0 x.Query.Conds ∧ rdS Qg w B v1 x.Query.Out ∧ rdS Qbp w B v2 x.Rows := by
  obtain ⟨_, _, rfl, ⟨_, _, rfl, ⟨_, rfl, rfl⟩, ⟨_, _, rfl, ⟨_, rfl, rfl⟩, ⟨_, _, rfl, ⟨v0, rfl, h0⟩, ⟨v1, rfl, h1⟩⟩⟩⟩, ⟨_, _, rfl, ⟨_, rfl, rfl⟩, ⟨_, _, rfl, ⟨_, rfl, rfl⟩, ⟨v2, rfl, h2⟩⟩⟩⟩ := h
  exact ⟨v0, v1, v2, rfl, h0, h1, h2⟩
theorem Qxa {w : World} {B : Nat} {x : Qbg} {v0 v1 v2 : Value} (h0 : rdS Qbz w B v0 x.Query.Conds) (h1 : rdS Qg w B v1 x.Query.Out) (h2 : rdS Qbp w B v2 x.Rows) : Qce.rd w B [.int .i64 x.Query.Id, .int .i64 x.Query.Tenant, v0, v1, .int .i64 x.Time, .int .i64 x.Steps, v2] x := ⟨_, _, rfl, ⟨_, _, rfl, ⟨_, rfl, rfl⟩, ⟨_, _, rfl, ⟨_, rfl, rfl⟩, ⟨_, _, rfl, ⟨_, rfl, h0⟩, ⟨_, rfl, h1⟩⟩⟩⟩, ⟨_, _, rfl, ⟨_, rfl, rfl⟩, ⟨_, _, rfl, ⟨_, rfl, rfl⟩, ⟨_, rfl, h2⟩⟩⟩⟩
def Qm : Ty Qn := Qfz (Qco Qg (Qco (tSl Qg 3) (Qco Qg Qg))) (fun x => (x.Id, x.Values, x.Born, x.Died))
theorem Qfm {w : World} {B : Nat} {cs : List Value} {x : Qn} (h : Qm.rd w B cs x) : ∃ v0, cs = [.int .i64 x.Id, v0, .int .i64 x.Born, .int .i64 x.Died] ∧ rdS Qg w B v0 x.Values := by
  obtain ⟨_, _, rfl, ⟨_, rfl, rfl⟩, ⟨_, _, rfl, ⟨v0, rfl, h0⟩, ⟨_, _, rfl, ⟨_, rfl, rfl⟩, ⟨_, rfl, rfl⟩⟩⟩⟩ := h
  exact ⟨v0, rfl, h0⟩
theorem Qgz {w : World} {B : Nat} {x : Qn} {v0 : Value} (h0 : rdS Qg w B v0 x.Values) : Qm.rd w B [.int .i64 x.Id, v0, .int .i64 x.Born, .int .i64 x.Died] x := ⟨_, _, rfl, ⟨_, rfl, rfl⟩, ⟨_, _, rfl, ⟨_, rfl, h0⟩, ⟨_, _, rfl, ⟨_, rfl, rfl⟩, ⟨_, rfl, rfl⟩⟩⟩⟩
def Qcz : Ty Qx := Qfz (Qco (tSl (tSl Qm 191) 131) Qg) (fun x => (x.Segments, x.Now))
theorem Qgy {w : World} {B : Nat} {cs : List Value} {x : Qx} (h : Qcz.rd w B cs x) : ∃ v0, cs = [v0, .int .i64 x.Now] ∧ rdS (tSl Qm 191) w B v0 x.Segments := by
  obtain ⟨_, _, rfl, ⟨v0, rfl, h0⟩, ⟨_, rfl, rfl⟩⟩ := h
  exact ⟨v0, rfl, h0⟩
theorem Qeg {w : World} {B : Nat} {x : Qx} {v0 : Value} (h0 : rdS (tSl Qm 191) w B v0 x.Segments) : Qcz.rd w B [v0, .int .i64 x.Now] x := ⟨_, _, rfl, ⟨_, rfl, h0⟩, ⟨_, rfl, rfl⟩⟩
def Qbw : Ty Qbf := Qfz (Qco Qez (Qco Qg (Qco (tSl Qg 3) (Qco Qg (Qco Qg (Qco Qg (tSl Qbp 73))))))) (fun x => (x.Query, x.Time, x.Todo, x.Age, x.Sent, x.Cap, x.Rows))
theorem Qhz {w : World} {B : Nat} {cs : List Value} {x : Qbf} (h : Qbw.rd w B cs x) : ∃ v0 v1 v2 v3, cs = [.int .i64 x.Query.Id, .int .i64 x.Query.Tenant, v0, v1, .int .i64 x.Time, v2, .int .i64 x.Age, .int .i64 x.Sent, .int .i64 x.Cap, v3] ∧ rdS Qbz w B v0 x.Query.Conds ∧ rdS Qg w B v1 x.Query.Out ∧ rdS Qg w B v2 x.Todo ∧ rdS Qbp w B v3 x.Rows := by
  obtain ⟨_, _, rfl, ⟨_, _, rfl, ⟨_, rfl, rfl⟩, ⟨_, _, rfl, ⟨_, rfl, rfl⟩, ⟨_, _, rfl, ⟨v0, rfl, h0⟩, ⟨v1, rfl, h1⟩⟩⟩⟩, ⟨_, _, rfl, ⟨_, rfl, rfl⟩, ⟨_, _, rfl, ⟨v2, rfl, h2⟩, ⟨_, _, rfl, ⟨_, rfl, rfl⟩, ⟨_, _, rfl, ⟨_, rfl, rfl⟩, ⟨_, _, rfl, ⟨_, rfl, rfl⟩, ⟨v3, rfl, h3⟩⟩⟩⟩⟩⟩⟩ := h
  exact ⟨v0, v1, v2, v3, rfl, h0, h1, h2, h3⟩
theorem Qqu {w : World} {B : Nat} {x : Qbf} {v0 v1 v2 v3 : Value} (h0 : rdS Qbz w B v0 x.Query.Conds) (h1 : rdS Qg w B v1 x.Query.Out) (h2 : rdS Qg w B v2 x.Todo) (h3 : rdS Qbp w B v3 x.Rows) : Qbw.rd w B [.int .i64 x.Query.Id, .int .i64 x.Query.Tenant, v0, v1, .int .i64 x.Time, v2, .int .i64 x.Age, .int .i64 x.Sent, .int .i64 x.Cap, v3] x := ⟨_, _, rfl, ⟨_, _, rfl, ⟨_, rfl, rfl⟩, ⟨_, _, rfl, ⟨_, rfl, rfl⟩, ⟨_, _, rfl, ⟨_, rfl, h0⟩, ⟨_, rfl, h1⟩⟩⟩⟩, ⟨_, _, rfl, ⟨_, rfl, rfl⟩, ⟨_, _, rfl, ⟨_, rfl, h2⟩, ⟨_, _, rfl, ⟨_, rfl, rfl⟩, ⟨_, _, rfl, ⟨_, rfl, rfl⟩, ⟨_, _, rfl, ⟨_, rfl, rfl⟩, ⟨_, rfl, h3⟩⟩⟩⟩⟩⟩⟩
def Qbx : Ty Qay := Qfz (Qco Qg (Qco Qg (Qco (tSl Qg 3) (Qco (tSl Qg 3) (tSl Qg 3))))) (fun x => (x.Segment, x.Base, x.Ids, x.Tenants, x.Rows))
theorem Qik {w : World} {B : Nat} {cs : List Value} {x : Qay} (h : Qbx.rd w B cs x) : ∃ v0 v1 v2, cs = [.int .i64 x.Segment, .int .i64 x.Base, v0, v1, v2] ∧ rdS Qg w B v0 x.Ids ∧ rdS Qg w B v1 x.Tenants ∧ rdS Qg w B v2 x.Rows := by
  obtain ⟨_, _, rfl, ⟨_, rfl, rfl⟩, ⟨_, _, rfl, ⟨_, rfl, rfl⟩, ⟨_, _, rfl, ⟨v0, rfl, h0⟩, ⟨_, _, rfl, ⟨v1, rfl, h1⟩, ⟨v2, rfl, h2⟩⟩⟩⟩⟩ := h
  exact ⟨v0, v1, v2, rfl, h0, h1, h2⟩
theorem Qoy {w : World} {B : Nat} {x : Qay} {v0 v1 v2 : Value} (h0 : rdS Qg w B v0 x.Ids) (h1 : rdS Qg w B v1 x.Tenants) (h2 : rdS Qg w B v2 x.Rows) : Qbx.rd w B [.int .i64 x.Segment, .int .i64 x.Base, v0, v1, v2] x := ⟨_, _, rfl, ⟨_, rfl, rfl⟩, ⟨_, _, rfl, ⟨_, rfl, rfl⟩, ⟨_, _, rfl, ⟨_, rfl, h0⟩, ⟨_, _, rfl, ⟨_, rfl, h1⟩, ⟨_, rfl, h2⟩⟩⟩⟩⟩
def Qdd : Ty Qag := Qfz (Qco Qcz (Qco Qg (Qco (tSl Qg 3) (Qco (tSl Qbw 64) (Qco (tSl Qce 37) (Qco (tSl Qbx 133) Qg)))))) (fun x => (x.Store, x.Cursor, x.Order, x.Active, x.Done, x.Ledger, x.Steps))
theorem Qki {w : World} {B : Nat} {cs : List Value} {x : Qag} (h : Qdd.rd w B cs x) : ∃ v0 v1 v2 v3 v4, cs = [v0, .int .i64 x.Store.Now, .int .i64 x.Cursor, v1, v2, v3, v4, .int .i64 x.Steps] ∧ rdS (tSl Qm 191) w B v0 x.Store.Segments ∧ rdS Qg w B v1 x.Order ∧ rdS Qbw w B v2 x.Active ∧ rdS Qce w B v3 x.Done ∧ rdS Qbx w B v4 x.Ledger := by
  obtain ⟨_, _, rfl, ⟨_, _, rfl, ⟨v0, rfl, h0⟩, ⟨_, rfl, rfl⟩⟩, ⟨_, _, rfl, ⟨_, rfl, rfl⟩, ⟨_, _, rfl, ⟨v1, rfl, h1⟩, ⟨_, _, rfl, ⟨v2, rfl, h2⟩, ⟨_, _, rfl, ⟨v3, rfl, h3⟩, ⟨_, _, rfl, ⟨v4, rfl, h4⟩, ⟨_, rfl, rfl⟩⟩⟩⟩⟩⟩⟩ := h
  exact ⟨v0, v1, v2, v3, v4, rfl, h0, h1, h2, h3, h4⟩
theorem Qfr {w : World} {B : Nat} {x : Qag} {v0 v1 v2 v3 v4 : Value} (h0 : rdS (tSl Qm 191) w B v0 x.Store.Segments) (h1 : rdS Qg w B v1 x.Order) (h2 : rdS Qbw w B v2 x.Active) (h3 : rdS Qce w B v3 x.Done) (h4 : rdS Qbx w B v4 x.Ledger) : Qdd.rd w B [v0, .int .i64 x.Store.Now, .int .i64 x.Cursor, v1, v2, v3, v4, .int .i64 x.Steps] x := ⟨_, _, rfl, ⟨_, _, rfl, ⟨_, rfl, h0⟩, ⟨_, rfl, rfl⟩⟩, ⟨_, _, rfl, ⟨_, rfl, rfl⟩, ⟨_, _, rfl, ⟨_, rfl, h1⟩, ⟨_, _, rfl, ⟨_, rfl, h2⟩, ⟨_, _, rfl, ⟨_, rfl, h3⟩, ⟨_, _, rfl, ⟨_, rfl, h4⟩, ⟨_, rfl, rfl⟩⟩⟩⟩⟩⟩⟩
structure Qci where
  Kind : Int
  Row : Qaj
  Field : Int
  Value : Int
instance : Inhabited Qci := ⟨⟨default, default, default, default⟩⟩
def Qfi : Ty Qci := Qfz (Qco Qg (Qco Qbp (Qco Qg Qg))) (fun x => (x.Kind, x.Row, x.Field, x.Value))
theorem Qmo {w : World} {B : Nat} {cs : List Value} {x : Qci} (h : Qfi.rd w B cs x) : ∃ v0, cs = [.int .i64 x.Kind, .int .i64 x.Row.Id, v0, .int .i64 x.Field, .int .i64 x.Value] ∧ rdS Qg w B v0 x.Row.Values := by
  obtain ⟨_, _, rfl, ⟨_, rfl, rfl⟩, ⟨_, _, rfl, ⟨_, _, rfl, ⟨_, rfl, rfl⟩, ⟨v0, rfl, h0⟩⟩, ⟨_, _, rfl, ⟨_, rfl, rfl⟩, ⟨_, rfl, rfl⟩⟩⟩⟩ := h
  exact ⟨v0, rfl, h0⟩
theorem Qhs {w : World} {B : Nat} {x : Qci} {v0 : Value} (h0 : rdS Qg w B v0 x.Row.Values) : Qfi.rd w B [.int .i64 x.Kind, .int .i64 x.Row.Id, v0, .int .i64 x.Field, .int .i64 x.Value] x := ⟨_, _, rfl, ⟨_, rfl, rfl⟩, ⟨_, _, rfl, ⟨_, _, rfl, ⟨_, rfl, rfl⟩, ⟨_, rfl, h0⟩⟩, ⟨_, _, rfl, ⟨_, rfl, rfl⟩, ⟨_, rfl, rfl⟩⟩⟩⟩
def Qnt : Ty Qci := Qfz (Qco Qg (Qco Qhq (Qco Qg Qg))) (fun x => (x.Kind, x.Row, x.Field, x.Value))
theorem Qxf {w : World} {B : Nat} {cs : List Value} {x : Qci} (h : Qnt.rd w B cs x) : ∃ v0, cs = [.int .i64 x.Kind, .int .i64 x.Row.Id, v0, .int .i64 x.Field, .int .i64 x.Value] ∧ rdS Qg w B v0 x.Row.Values := by
  obtain ⟨_, _, rfl, ⟨_, rfl, rfl⟩, ⟨_, _, rfl, ⟨_, _, rfl, ⟨_, rfl, rfl⟩, ⟨v0, rfl, h0⟩⟩, ⟨_, _, rfl, ⟨_, rfl, rfl⟩, ⟨_, rfl, rfl⟩⟩⟩⟩ := h
  exact ⟨v0, rfl, h0⟩
theorem Qkw {w : World} {B : Nat} {x : Qci} {v0 : Value} (h0 : rdS Qg w B v0 x.Row.Values) : Qnt.rd w B [.int .i64 x.Kind, .int .i64 x.Row.Id, v0, .int .i64 x.Field, .int .i64 x.Value] x := ⟨_, _, rfl, ⟨_, rfl, rfl⟩, ⟨_, _, rfl, ⟨_, _, rfl, ⟨_, rfl, rfl⟩, ⟨_, rfl, h0⟩⟩, ⟨_, _, rfl, ⟨_, rfl, rfl⟩, ⟨_, rfl, rfl⟩⟩⟩⟩
structure Qaeg where
  i : Nat
  h : Int
instance : Inhabited Qaeg := ⟨⟨default, default⟩⟩
structure Qxo where
  From : Int
  To : Int
  Set : (List Int)
instance : Inhabited Qxo := ⟨⟨default, default, default⟩⟩
structure Qaef where
  Queries : (List Qcg)
  Fields : (List (List Qxo))
instance : Inhabited Qaef := ⟨⟨default, default⟩⟩
def Qhm (B : Nat) (x : Qn) : Prop := x.Values.length ≤ B
def Qfl (B : Nat) (x : Qx) : Prop := (x.Segments.length ≤ B ∧ ∀ y ∈ x.Segments, (y.length ≤ B ∧ ∀ y1 ∈ y, Qhm B y1))
def Qij (B : Nat) (x : Qcg) : Prop := x.Conds.length ≤ B ∧ x.Out.length ≤ B
def Qgg (B : Nat) (x : Qaj) : Prop := x.Values.length ≤ B
def Qiy (B : Nat) (x : Qbf) : Prop := Qij B x.Query ∧ x.Todo.length ≤ B ∧ (x.Rows.length ≤ B ∧ ∀ y ∈ x.Rows, Qgg B y)
def Qiz (B : Nat) (x : Qbg) : Prop := Qij B x.Query ∧ (x.Rows.length ≤ B ∧ ∀ y ∈ x.Rows, Qgg B y)
def Qhx (B : Nat) (x : Qay) : Prop := x.Ids.length ≤ B ∧ x.Tenants.length ≤ B ∧ x.Rows.length ≤ B
def Qgf (B : Nat) (x : Qag) : Prop := Qfl B x.Store ∧ x.Order.length ≤ B ∧ (x.Active.length ≤ B ∧ ∀ y ∈ x.Active, Qiy B y) ∧ (x.Done.length ≤ B ∧ ∀ y ∈ x.Done, Qiz B y) ∧ (x.Ledger.length ≤ B ∧ ∀ y ∈ x.Ledger, Qhx B y)
theorem Qatf {w : World} {L : List Nat} {cs : List Value} {x : Qby} (h : Qbz.own w L cs x) : ∃ _ : Unit, cs = [.int .i64 x.Field, .int .i64 x.Low, .int .i64 x.High] ∧ Sep [] w L := by
  obtain ⟨_, _, _, _, rfl, rfl, ⟨rfl, _, rfl, rfl⟩, ⟨_, _, _, _, rfl, rfl, ⟨rfl, _, rfl, rfl⟩, ⟨rfl, _, rfl, rfl⟩⟩⟩ := h
  exact ⟨(), rfl, Sep.cast (rfl) (by simp)⟩
theorem Qacy {P : Program} {N B : Nat} {w0 : World} {Q : Exit → Act → World → Prop} {L : List (Nat × Value)} {is : List It} {ops : Array Oper} {l : List Oper} {z : List Value} {x : Qby} (h : ∀ _ : Unit, z = [.int .i64 x.Field, .int .i64 x.Low, .int .i64 x.High] → WM P N B w0 ops Q l L (is)) : WM P N B w0 ops Q l L (Qd Qbz z x :: is) := Qgp (γ := Unit) (js := fun _ => []) (C := fun _ => z = [.int .i64 x.Field, .int .i64 x.Low, .int .i64 x.High]) (fun _ _ h => Qatf h) h
theorem Qwz {w : World} {L : List Nat} {x : Qby} (h : Sep [] w L) : Qbz.own w L [.int .i64 x.Field, .int .i64 x.Low, .int .i64 x.High] x := by
  cases (Sep.nil h)
  exact Qke (T := Qbz) (cs := [.int .i64 x.Field, .int .i64 x.Low, .int .i64 x.High]) (x := x) ⟨_, _, _, _, rfl, rfl, Qcy, ⟨_, _, _, _, rfl, rfl, Qcy, Qcy⟩⟩ (by simp)
theorem Qatv {w : World} {L : List Nat} {cs : List Value} {x : Qcg} (h : Qez.own w L cs x) : ∃ g : Value × Value, cs = [.int .i64 x.Id, .int .i64 x.Tenant, g.1, g.2] ∧ Sep [Qd (tSl Qbz 201) [g.1] x.Conds, Qd (tSl Qg 3) [g.2] x.Out] w L := by
  obtain ⟨_, _, _, _, rfl, rfl, ⟨rfl, _, rfl, rfl⟩, ⟨_, _, _, _, rfl, rfl, ⟨rfl, _, rfl, rfl⟩, ⟨_, _, _, _, rfl, rfl, ⟨v0, rfl, h0⟩, ⟨v1, rfl, h1⟩⟩⟩⟩ := h
  exact ⟨(v0, v1), rfl, Sep.cast (⟨_, _, rfl, ⟨_, rfl, h0⟩, ⟨_, [], (List.append_nil _).symm, ⟨_, rfl, h1⟩, rfl⟩⟩) (by simp)⟩
theorem Qpb {P : Program} {N B : Nat} {w0 : World} {Q : Exit → Act → World → Prop} {L : List (Nat × Value)} {is : List It} {ops : Array Oper} {l : List Oper} {z : List Value} {x : Qcg} (h : ∀ g : Value × Value, z = [.int .i64 x.Id, .int .i64 x.Tenant, g.1, g.2] → WM P N B w0 ops Q l L (Qd (tSl Qbz 201) [g.1] x.Conds :: Qd (tSl Qg 3) [g.2] x.Out :: is)) : WM P N B w0 ops Q l L (Qd Qez z x :: is) := Qgp (γ := Value × Value) (js := fun g => [Qd (tSl Qbz 201) [g.1] x.Conds, Qd (tSl Qg 3) [g.2] x.Out]) (C := fun g => z = [.int .i64 x.Id, .int .i64 x.Tenant, g.1, g.2]) (fun _ _ h => Qatv h) h
theorem Qxg {w : World} {L : List Nat} {x : Qcg} {v0 v1 : Value} (h : Sep [Qd (tSl Qbz 201) [v0] x.Conds, Qd (tSl Qg 3) [v1] x.Out] w L) : Qez.own w L [.int .i64 x.Id, .int .i64 x.Tenant, v0, v1] x := by
  obtain ⟨L0, K0, rfl, h0, s0⟩ := Sep.cons h
  obtain ⟨L1, K1, rfl, h1, s1⟩ := Sep.cons s0
  cases (Sep.nil s1)
  exact Qke (T := Qez) (cs := [.int .i64 x.Id, .int .i64 x.Tenant, v0, v1]) (x := x) ⟨_, _, _, _, rfl, rfl, Qcy, ⟨_, _, _, _, rfl, rfl, Qcy, ⟨_, _, _, _, rfl, rfl, h0, h1⟩⟩⟩ (by simp)
theorem Qadl {w : World} {L : List Nat} {cs : List Value} {x : Qaj} (h : Qbp.own w L cs x) : ∃ g : Value, cs = [.int .i64 x.Id, g] ∧ Sep [Qd (tSl Qg 3) [g] x.Values] w L := by
  obtain ⟨_, _, _, _, rfl, rfl, ⟨rfl, _, rfl, rfl⟩, ⟨v0, rfl, h0⟩⟩ := h
  exact ⟨v0, rfl, Sep.cast (⟨_, [], (List.append_nil _).symm, ⟨_, rfl, h0⟩, rfl⟩) (by simp)⟩
theorem Qnu {P : Program} {N B : Nat} {w0 : World} {Q : Exit → Act → World → Prop} {L : List (Nat × Value)} {is : List It} {ops : Array Oper} {l : List Oper} {z : List Value} {x : Qaj} (h : ∀ g : Value, z = [.int .i64 x.Id, g] → WM P N B w0 ops Q l L (Qd (tSl Qg 3) [g] x.Values :: is)) : WM P N B w0 ops Q l L (Qd Qbp z x :: is) := Qgp (γ := Value) (js := fun g => [Qd (tSl Qg 3) [g] x.Values]) (C := fun g => z = [.int .i64 x.Id, g]) (fun _ _ h => Qadl h) h
theorem Qkk {w : World} {L : List Nat} {x : Qaj} {v0 : Value} (h : Sep [Qd (tSl Qg 3) [v0] x.Values] w L) : Qbp.own w L [.int .i64 x.Id, v0] x := by
  obtain ⟨L0, K0, rfl, h0, s0⟩ := Sep.cons h
  cases (Sep.nil s0)
  exact Qke (T := Qbp) (cs := [.int .i64 x.Id, v0]) (x := x) ⟨_, _, _, _, rfl, rfl, Qcy, h0⟩ (by simp)
theorem Qatg {w : World} {L : List Nat} {cs : List Value} {x : Qbg} (h : Qce.own w L cs x) : ∃ g : Value × Value × Value, cs = [.int .i64 x.Query.Id, .int .i64 x.Query.Tenant, g.1, g.2.1, .int .i64 x.Time, .int .i64 x.Steps, g.2.2] ∧ Sep [Qd (tSl Qbz 201) [g.1] x.Query.Conds, Qd (tSl Qg 3) [g.2.1] x.Query.Out, Qd (tSl Qbp 73) [g.2.2] x.Rows] w L := by
  obtain ⟨_, _, _, _, rfl, rfl, ⟨_, _, _, _, rfl, rfl, ⟨rfl, _, rfl, rfl⟩, ⟨_, _, _, _, rfl, rfl, ⟨rfl, _, rfl, rfl⟩, ⟨_, _, _, _, rfl, rfl, ⟨v0, rfl, h0⟩, ⟨v1, rfl, h1⟩⟩⟩⟩, ⟨_, _, _, _, rfl, rfl, ⟨rfl, _, rfl, rfl⟩, ⟨_, _, _, _, rfl, rfl, ⟨rfl, _, rfl, rfl⟩, ⟨v2, rfl, h2⟩⟩⟩⟩ := h
  exact ⟨(v0, v1, v2), rfl, Sep.cast (⟨_, _, rfl, ⟨_, rfl, h0⟩, ⟨_, _, rfl, ⟨_, rfl, h1⟩, ⟨_, [], (List.append_nil _).symm, ⟨_, rfl, h2⟩, rfl⟩⟩⟩) (by simp)⟩
theorem Qxb {P : Program} {N B : Nat} {w0 : World} {Q : Exit → Act → World → Prop} {L : List (Nat × Value)} {is : List It} {ops : Array Oper} {l : List Oper} {z : List Value} {x : Qbg} (h : ∀ g : Value × Value × Value, z = [.int .i64 x.Query.Id, .int .i64 x.Query.Tenant, g.1, g.2.1, .int .i64 x.Time, .int .i64 x.Steps, g.2.2] → WM P N B w0 ops Q l L (Qd (tSl Qbz 201) [g.1] x.Query.Conds :: Qd (tSl Qg 3) [g.2.1] x.Query.Out :: Qd (tSl Qbp 73) [g.2.2] x.Rows :: is)) : WM P N B w0 ops Q l L (Qd Qce z x :: is) := Qgp (γ := Value × Value × Value) (js := fun g => [Qd (tSl Qbz 201) [g.1] x.Query.Conds, Qd (tSl Qg 3) [g.2.1] x.Query.Out, Qd (tSl Qbp 73) [g.2.2] x.Rows]) (C := fun g => z = [.int .i64 x.Query.Id, .int .i64 x.Query.Tenant, g.1, g.2.1, .int .i64 x.Time, .int .i64 x.Steps, g.2.2]) (fun _ _ h => Qatg h) h
theorem Qoz {w : World} {L : List Nat} {x : Qbg} {v0 v1 v2 : Value} (h : Sep [Qd (tSl Qbz 201) [v0] x.Query.Conds, Qd (tSl Qg 3) [v1] x.Query.Out, Qd (tSl Qbp 73) [v2] x.Rows] w L) : Qce.own w L [.int .i64 x.Query.Id, .int .i64 x.Query.Tenant, v0, v1, .int .i64 x.Time, .int .i64 x.Steps, v2] x := by
  obtain ⟨L0, K0, rfl, h0, s0⟩ := Sep.cons h
  obtain ⟨L1, K1, rfl, h1, s1⟩ := Sep.cons s0
  obtain ⟨L2, K2, rfl, h2, s2⟩ := Sep.cons s1
  cases (Sep.nil s2)
  exact Qke (T := Qce) (cs := [.int .i64 x.Query.Id, .int .i64 x.Query.Tenant, v0, v1, .int .i64 x.Time, .int .i64 x.Steps, v2]) (x := x) ⟨_, _, _, _, rfl, rfl, ⟨_, _, _, _, rfl, rfl, Qcy, ⟨_, _, _, _, rfl, rfl, Qcy, ⟨_, _, _, _, rfl, rfl, h0, h1⟩⟩⟩, ⟨_, _, _, _, rfl, rfl, Qcy, ⟨_, _, _, _, rfl, rfl, Qcy, h2⟩⟩⟩ (by simp)
theorem Qatw {w : World} {L : List Nat} {cs : List Value} {x : Qn} (h : Qm.own w L cs x) : ∃ g : Value, cs = [.int .i64 x.Id, g, .int .i64 x.Born, .int .i64 x.Died] ∧ Sep [Qd (tSl Qg 3) [g] x.Values] w L := by
  obtain ⟨_, _, _, _, rfl, rfl, ⟨rfl, _, rfl, rfl⟩, ⟨_, _, _, _, rfl, rfl, ⟨v0, rfl, h0⟩, ⟨_, _, _, _, rfl, rfl, ⟨rfl, _, rfl, rfl⟩, ⟨rfl, _, rfl, rfl⟩⟩⟩⟩ := h
  exact ⟨v0, rfl, Sep.cast (⟨_, [], (List.append_nil _).symm, ⟨_, rfl, h0⟩, rfl⟩) (by simp)⟩
theorem Qmp {P : Program} {N B : Nat} {w0 : World} {Q : Exit → Act → World → Prop} {L : List (Nat × Value)} {is : List It} {ops : Array Oper} {l : List Oper} {z : List Value} {x : Qn} (h : ∀ g : Value, z = [.int .i64 x.Id, g, .int .i64 x.Born, .int .i64 x.Died] → WM P N B w0 ops Q l L (Qd (tSl Qg 3) [g] x.Values :: is)) : WM P N B w0 ops Q l L (Qd Qm z x :: is) := Qgp (γ := Value) (js := fun g => [Qd (tSl Qg 3) [g] x.Values]) (C := fun g => z = [.int .i64 x.Id, g, .int .i64 x.Born, .int .i64 x.Died]) (fun _ _ h => Qatw h) h
theorem Qfs {w : World} {L : List Nat} {x : Qn} {v0 : Value} (h : Sep [Qd (tSl Qg 3) [v0] x.Values] w L) : Qm.own w L [.int .i64 x.Id, v0, .int .i64 x.Born, .int .i64 x.Died] x := by
  obtain ⟨L0, K0, rfl, h0, s0⟩ := Sep.cons h
  cases (Sep.nil s0)
  exact Qke (T := Qm) (cs := [.int .i64 x.Id, v0, .int .i64 x.Born, .int .i64 x.Died]) (x := x) ⟨_, _, _, _, rfl, rfl, Qcy, ⟨_, _, _, _, rfl, rfl, h0, ⟨_, _, _, _, rfl, rfl, Qcy, Qcy⟩⟩⟩ (by simp)
theorem Qadm {w : World} {L : List Nat} {cs : List Value} {x : Qx} (h : Qcz.own w L cs x) : ∃ g : Value, cs = [g, .int .i64 x.Now] ∧ Sep [Qd (tSl (tSl Qm 191) 131) [g] x.Segments] w L := by
  obtain ⟨_, _, _, _, rfl, rfl, ⟨v0, rfl, h0⟩, ⟨rfl, _, rfl, rfl⟩⟩ := h
  exact ⟨v0, rfl, Sep.cast (⟨_, [], (List.append_nil _).symm, ⟨_, rfl, h0⟩, rfl⟩) (by simp)⟩
theorem Qgd {P : Program} {N B : Nat} {w0 : World} {Q : Exit → Act → World → Prop} {L : List (Nat × Value)} {is : List It} {ops : Array Oper} {l : List Oper} {z : List Value} {x : Qx} (h : ∀ g : Value, z = [g, .int .i64 x.Now] → WM P N B w0 ops Q l L (Qd (tSl (tSl Qm 191) 131) [g] x.Segments :: is)) : WM P N B w0 ops Q l L (Qd Qcz z x :: is) := Qgp (γ := Value) (js := fun g => [Qd (tSl (tSl Qm 191) 131) [g] x.Segments]) (C := fun g => z = [g, .int .i64 x.Now]) (fun _ _ h => Qadm h) h
theorem Qed {w : World} {L : List Nat} {x : Qx} {v0 : Value} (h : Sep [Qd (tSl (tSl Qm 191) 131) [v0] x.Segments] w L) : Qcz.own w L [v0, .int .i64 x.Now] x := by
  obtain ⟨L0, K0, rfl, h0, s0⟩ := Sep.cons h
  cases (Sep.nil s0)
  exact Qke (T := Qcz) (cs := [v0, .int .i64 x.Now]) (x := x) ⟨_, _, _, _, rfl, rfl, h0, Qcy⟩ (by simp)
theorem Qatd {w : World} {L : List Nat} {cs : List Value} {x : Qbf} (h : Qbw.own w L cs x) : ∃ g : Value × Value × Value × Value, cs = [.int .i64 x.Query.Id, .int .i64 x.Query.Tenant, g.1, g.2.1, .int .i64 x.Time, g.2.2.1, .int .i64 x.Age, .int .i64 x.Sent, .int .i64 x.Cap, g.2.2.2] ∧ Sep [Qd (tSl Qbz 201) [g.1] x.Query.Conds, Qd (tSl Qg 3) [g.2.1] x.Query.Out, Qd (tSl Qg 3) [g.2.2.1] x.Todo, Qd (tSl Qbp 73) [g.2.2.2] x.Rows] w L := by
  obtain ⟨_, _, _, _, rfl, rfl, ⟨_, _, _, _, rfl, rfl, ⟨rfl, _, rfl, rfl⟩, ⟨_, _, _, _, rfl, rfl, ⟨rfl, _, rfl, rfl⟩, ⟨_, _, _, _, rfl, rfl, ⟨v0, rfl, h0⟩, ⟨v1, rfl, h1⟩⟩⟩⟩, ⟨_, _, _, _, rfl, rfl, ⟨rfl, _, rfl, rfl⟩, ⟨_, _, _, _, rfl, rfl, ⟨v2, rfl, h2⟩, ⟨_, _, _, _, rfl, rfl, ⟨rfl, _, rfl, rfl⟩, ⟨_, _, _, _, rfl, rfl, ⟨rfl, _, rfl, rfl⟩, ⟨_, _, _, _, rfl, rfl, ⟨rfl, _, rfl, rfl⟩, ⟨v3, rfl, h3⟩⟩⟩⟩⟩⟩⟩ := h
  exact ⟨(v0, v1, v2, v3), rfl, Sep.cast (⟨_, _, rfl, ⟨_, rfl, h0⟩, ⟨_, _, rfl, ⟨_, rfl, h1⟩, ⟨_, _, rfl, ⟨_, rfl, h2⟩, ⟨_, [], (List.append_nil _).symm, ⟨_, rfl, h3⟩, rfl⟩⟩⟩⟩) (by simp)⟩
theorem Qqv {P : Program} {N B : Nat} {w0 : World} {Q : Exit → Act → World → Prop} {L : List (Nat × Value)} {is : List It} {ops : Array Oper} {l : List Oper} {z : List Value} {x : Qbf} (h : ∀ g : Value × Value × Value × Value, z = [.int .i64 x.Query.Id, .int .i64 x.Query.Tenant, g.1, g.2.1, .int .i64 x.Time, g.2.2.1, .int .i64 x.Age, .int .i64 x.Sent, .int .i64 x.Cap, g.2.2.2] → WM P N B w0 ops Q l L (Qd (tSl Qbz 201) [g.1] x.Query.Conds :: Qd (tSl Qg 3) [g.2.1] x.Query.Out :: Qd (tSl Qg 3) [g.2.2.1] x.Todo :: Qd (tSl Qbp 73) [g.2.2.2] x.Rows :: is)) : WM P N B w0 ops Q l L (Qd Qbw z x :: is) := Qgp (γ := Value × Value × Value × Value) (js := fun g => [Qd (tSl Qbz 201) [g.1] x.Query.Conds, Qd (tSl Qg 3) [g.2.1] x.Query.Out, Qd (tSl Qg 3) [g.2.2.1] x.Todo, Qd (tSl Qbp 73) [g.2.2.2] x.Rows]) (C := fun g => z = [.int .i64 x.Query.Id, .int .i64 x.Query.Tenant, g.1, g.2.1, .int .i64 x.Time, g.2.2.1, .int .i64 x.Age, .int .i64 x.Sent, .int .i64 x.Cap, g.2.2.2]) (fun _ _ h => Qatd h) h
theorem Qmm {w : World} {L : List Nat} {x : Qbf} {v0 v1 v2 v3 : Value} (h : Sep [Qd (tSl Qbz 201) [v0] x.Query.Conds, Qd (tSl Qg 3) [v1] x.Query.Out, Qd (tSl Qg 3) [v2] x.Todo, Qd (tSl Qbp 73) [v3] x.Rows] w L) : Qbw.own w L [.int .i64 x.Query.Id, .int .i64 x.Query.Tenant, v0, v1, .int .i64 x.Time, v2, .int .i64 x.Age, .int .i64 x.Sent, .int .i64 x.Cap, v3] x := by
  obtain ⟨L0, K0, rfl, h0, s0⟩ := Sep.cons h
  obtain ⟨L1, K1, rfl, h1, s1⟩ := Sep.cons s0
  obtain ⟨L2, K2, rfl, h2, s2⟩ := Sep.cons s1
  obtain ⟨L3, K3, rfl, h3, s3⟩ := Sep.cons s2
  cases (Sep.nil s3)
  exact Qke (T := Qbw) (cs := [.int .i64 x.Query.Id, .int .i64 x.Query.Tenant, v0, v1, .int .i64 x.Time, v2, .int .i64 x.Age, .int .i64 x.Sent, .int .i64 x.Cap, v3]) (x := x) ⟨_, _, _, _, rfl, rfl, ⟨_, _, _, _, rfl, rfl, Qcy, ⟨_, _, _, _, rfl, rfl, Qcy, ⟨_, _, _, _, rfl, rfl, h0, h1⟩⟩⟩, ⟨_, _, _, _, rfl, rfl, Qcy, ⟨_, _, _, _, rfl, rfl, h2, ⟨_, _, _, _, rfl, rfl, Qcy, ⟨_, _, _, _, rfl, rfl, Qcy, ⟨_, _, _, _, rfl, rfl, Qcy, h3⟩⟩⟩⟩⟩⟩ (by simp)
theorem Qate {w : World} {L : List Nat} {cs : List Value} {x : Qay} (h : Qbx.own w L cs x) : ∃ g : Value × Value × Value, cs = [.int .i64 x.Segment, .int .i64 x.Base, g.1, g.2.1, g.2.2] ∧ Sep [Qd (tSl Qg 3) [g.1] x.Ids, Qd (tSl Qg 3) [g.2.1] x.Tenants, Qd (tSl Qg 3) [g.2.2] x.Rows] w L := by
  obtain ⟨_, _, _, _, rfl, rfl, ⟨rfl, _, rfl, rfl⟩, ⟨_, _, _, _, rfl, rfl, ⟨rfl, _, rfl, rfl⟩, ⟨_, _, _, _, rfl, rfl, ⟨v0, rfl, h0⟩, ⟨_, _, _, _, rfl, rfl, ⟨v1, rfl, h1⟩, ⟨v2, rfl, h2⟩⟩⟩⟩⟩ := h
  exact ⟨(v0, v1, v2), rfl, Sep.cast (⟨_, _, rfl, ⟨_, rfl, h0⟩, ⟨_, _, rfl, ⟨_, rfl, h1⟩, ⟨_, [], (List.append_nil _).symm, ⟨_, rfl, h2⟩, rfl⟩⟩⟩) (by simp)⟩
theorem Qsq {P : Program} {N B : Nat} {w0 : World} {Q : Exit → Act → World → Prop} {L : List (Nat × Value)} {is : List It} {ops : Array Oper} {l : List Oper} {z : List Value} {x : Qay} (h : ∀ g : Value × Value × Value, z = [.int .i64 x.Segment, .int .i64 x.Base, g.1, g.2.1, g.2.2] → WM P N B w0 ops Q l L (Qd (tSl Qg 3) [g.1] x.Ids :: Qd (tSl Qg 3) [g.2.1] x.Tenants :: Qd (tSl Qg 3) [g.2.2] x.Rows :: is)) : WM P N B w0 ops Q l L (Qd Qbx z x :: is) := Qgp (γ := Value × Value × Value) (js := fun g => [Qd (tSl Qg 3) [g.1] x.Ids, Qd (tSl Qg 3) [g.2.1] x.Tenants, Qd (tSl Qg 3) [g.2.2] x.Rows]) (C := fun g => z = [.int .i64 x.Segment, .int .i64 x.Base, g.1, g.2.1, g.2.2]) (fun _ _ h => Qate h) h
theorem Qnp {w : World} {L : List Nat} {x : Qay} {v0 v1 v2 : Value} (h : Sep [Qd (tSl Qg 3) [v0] x.Ids, Qd (tSl Qg 3) [v1] x.Tenants, Qd (tSl Qg 3) [v2] x.Rows] w L) : Qbx.own w L [.int .i64 x.Segment, .int .i64 x.Base, v0, v1, v2] x := by
  obtain ⟨L0, K0, rfl, h0, s0⟩ := Sep.cons h
  obtain ⟨L1, K1, rfl, h1, s1⟩ := Sep.cons s0
  obtain ⟨L2, K2, rfl, h2, s2⟩ := Sep.cons s1
  cases (Sep.nil s2)
  exact Qke (T := Qbx) (cs := [.int .i64 x.Segment, .int .i64 x.Base, v0, v1, v2]) (x := x) ⟨_, _, _, _, rfl, rfl, Qcy, ⟨_, _, _, _, rfl, rfl, Qcy, ⟨_, _, _, _, rfl, rfl, h0, ⟨_, _, _, _, rfl, rfl, h1, h2⟩⟩⟩⟩ (by simp)
theorem Qss {w : World} {L : List Nat} {cs : List Value} {x : Qag} (h : Qdd.own w L cs x) : ∃ g : Value × Value × Value × Value × Value, cs = [g.1, .int .i64 x.Store.Now, .int .i64 x.Cursor, g.2.1, g.2.2.1, g.2.2.2.1, g.2.2.2.2, .int .i64 x.Steps] ∧ Sep [Qd (tSl (tSl Qm 191) 131) [g.1] x.Store.Segments, Qd (tSl Qg 3) [g.2.1] x.Order, Qd (tSl Qbw 64) [g.2.2.1] x.Active, Qd (tSl Qce 37) [g.2.2.2.1] x.Done, Qd (tSl Qbx 133) [g.2.2.2.2] x.Ledger] w L := by
  obtain ⟨_, _, _, _, rfl, rfl, ⟨_, _, _, _, rfl, rfl, ⟨v0, rfl, h0⟩, ⟨rfl, _, rfl, rfl⟩⟩, ⟨_, _, _, _, rfl, rfl, ⟨rfl, _, rfl, rfl⟩, ⟨_, _, _, _, rfl, rfl, ⟨v1, rfl, h1⟩, ⟨_, _, _, _, rfl, rfl, ⟨v2, rfl, h2⟩, ⟨_, _, _, _, rfl, rfl, ⟨v3, rfl, h3⟩, ⟨_, _, _, _, rfl, rfl, ⟨v4, rfl, h4⟩, ⟨rfl, _, rfl, rfl⟩⟩⟩⟩⟩⟩⟩ := h
  exact ⟨(v0, v1, v2, v3, v4), rfl, Sep.cast (⟨_, _, rfl, ⟨_, rfl, h0⟩, ⟨_, _, rfl, ⟨_, rfl, h1⟩, ⟨_, _, rfl, ⟨_, rfl, h2⟩, ⟨_, _, rfl, ⟨_, rfl, h3⟩, ⟨_, [], (List.append_nil _).symm, ⟨_, rfl, h4⟩, rfl⟩⟩⟩⟩⟩) (by simp)⟩
theorem Qgc {P : Program} {N B : Nat} {w0 : World} {Q : Exit → Act → World → Prop} {L : List (Nat × Value)} {is : List It} {ops : Array Oper} {l : List Oper} {z : List Value} {x : Qag} (h : ∀ g : Value × Value × Value × Value × Value, z = [g.1, .int .i64 x.Store.Now, .int .i64 x.Cursor, g.2.1, g.2.2.1, g.2.2.2.1, g.2.2.2.2, .int .i64 x.Steps] → WM P N B w0 ops Q l L (Qd (tSl (tSl Qm 191) 131) [g.1] x.Store.Segments :: Qd (tSl Qg 3) [g.2.1] x.Order :: Qd (tSl Qbw 64) [g.2.2.1] x.Active :: Qd (tSl Qce 37) [g.2.2.2.1] x.Done :: Qd (tSl Qbx 133) [g.2.2.2.2] x.Ledger :: is)) : WM P N B w0 ops Q l L (Qd Qdd z x :: is) := Qgp (γ := Value × Value × Value × Value × Value) (js := fun g => [Qd (tSl (tSl Qm 191) 131) [g.1] x.Store.Segments, Qd (tSl Qg 3) [g.2.1] x.Order, Qd (tSl Qbw 64) [g.2.2.1] x.Active, Qd (tSl Qce 37) [g.2.2.2.1] x.Done, Qd (tSl Qbx 133) [g.2.2.2.2] x.Ledger]) (C := fun g => z = [g.1, .int .i64 x.Store.Now, .int .i64 x.Cursor, g.2.1, g.2.2.1, g.2.2.2.1, g.2.2.2.2, .int .i64 x.Steps]) (fun _ _ h => Qss h) h
theorem Qhe {w : World} {L : List Nat} {x : Qag} {v0 v1 v2 v3 v4 : Value} (h : Sep [Qd (tSl (tSl Qm 191) 131) [v0] x.Store.Segments, Qd (tSl Qg 3) [v1] x.Order, Qd (tSl Qbw 64) [v2] x.Active, Qd (tSl Qce 37) [v3] x.Done, Qd (tSl Qbx 133) [v4] x.Ledger] w L) : Qdd.own w L [v0, .int .i64 x.Store.Now, .int .i64 x.Cursor, v1, v2, v3, v4, .int .i64 x.Steps] x := by
  obtain ⟨L0, K0, rfl, h0, s0⟩ := Sep.cons h
  obtain ⟨L1, K1, rfl, h1, s1⟩ := Sep.cons s0
  obtain ⟨L2, K2, rfl, h2, s2⟩ := Sep.cons s1
  obtain ⟨L3, K3, rfl, h3, s3⟩ := Sep.cons s2
  obtain ⟨L4, K4, rfl, h4, s4⟩ := Sep.cons s3
  cases (Sep.nil s4)
  exact Qke (T := Qdd) (cs := [v0, .int .i64 x.Store.Now, .int .i64 x.Cursor, v1, v2, v3, v4, .int .i64 x.Steps]) (x := x) ⟨_, _, _, _, rfl, rfl, ⟨_, _, _, _, rfl, rfl, h0, Qcy⟩, ⟨_, _, _, _, rfl, rfl, Qcy, ⟨_, _, _, _, rfl, rfl, h1, ⟨_, _, _, _, rfl, rfl, h2, ⟨_, _, _, _, rfl, rfl, h3, ⟨_, _, _, _, rfl, rfl, h4, Qcy⟩⟩⟩⟩⟩⟩ (by simp)
def Qja (B : Nat) (x : Qci) : Prop := Qgg B x.Row
theorem Qadn {w : World} {L : List Nat} {cs : List Value} {x : Qci} (h : Qfi.own w L cs x) : ∃ g : Value, cs = [.int .i64 x.Kind, .int .i64 x.Row.Id, g, .int .i64 x.Field, .int .i64 x.Value] ∧ Sep [Qd (tSl Qg 3) [g] x.Row.Values] w L := by
  obtain ⟨_, _, _, _, rfl, rfl, ⟨rfl, _, rfl, rfl⟩, ⟨_, _, _, _, rfl, rfl, ⟨_, _, _, _, rfl, rfl, ⟨rfl, _, rfl, rfl⟩, ⟨v0, rfl, h0⟩⟩, ⟨_, _, _, _, rfl, rfl, ⟨rfl, _, rfl, rfl⟩, ⟨rfl, _, rfl, rfl⟩⟩⟩⟩ := h
  exact ⟨v0, rfl, Sep.cast (⟨_, [], (List.append_nil _).symm, ⟨_, rfl, h0⟩, rfl⟩) (by simp)⟩
theorem Qkx {P : Program} {N B : Nat} {w0 : World} {Q : Exit → Act → World → Prop} {L : List (Nat × Value)} {is : List It} {ops : Array Oper} {l : List Oper} {z : List Value} {x : Qci} (h : ∀ g : Value, z = [.int .i64 x.Kind, .int .i64 x.Row.Id, g, .int .i64 x.Field, .int .i64 x.Value] → WM P N B w0 ops Q l L (Qd (tSl Qg 3) [g] x.Row.Values :: is)) : WM P N B w0 ops Q l L (Qd Qfi z x :: is) := Qgp (γ := Value) (js := fun g => [Qd (tSl Qg 3) [g] x.Row.Values]) (C := fun g => z = [.int .i64 x.Kind, .int .i64 x.Row.Id, g, .int .i64 x.Field, .int .i64 x.Value]) (fun _ _ h => Qadn h) h
theorem Qxh {w : World} {L : List Nat} {x : Qci} {v0 : Value} (h : Sep [Qd (tSl Qg 3) [v0] x.Row.Values] w L) : Qfi.own w L [.int .i64 x.Kind, .int .i64 x.Row.Id, v0, .int .i64 x.Field, .int .i64 x.Value] x := by
  obtain ⟨L0, K0, rfl, h0, s0⟩ := Sep.cons h
  cases (Sep.nil s0)
  exact Qke (T := Qfi) (cs := [.int .i64 x.Kind, .int .i64 x.Row.Id, v0, .int .i64 x.Field, .int .i64 x.Value]) (x := x) ⟨_, _, _, _, rfl, rfl, Qcy, ⟨_, _, _, _, rfl, rfl, ⟨_, _, _, _, rfl, rfl, Qcy, h0⟩, ⟨_, _, _, _, rfl, rfl, Qcy, Qcy⟩⟩⟩ (by simp)
abbrev Qh := @Tryz.type3
abbrev Qt := @Tryz.underlying3
abbrev Qv := @Tryz.underlying25
abbrev Qae := @Tryz.type42
abbrev Qaf := @Tryz.underlying42
abbrev Qap := @Tryz.type25
abbrev Qaq := @Tryz.underlying47
abbrev Qar := @Tryz.type191
abbrev Qas := @Tryz.underlying40
abbrev Qav := @Tryz.underlying131
abbrev Qbe := @Tryz.underlying191
abbrev Qbs := @Tryz.underlying75
abbrev Qbu := @Tryz.underlying64
abbrev Qbv := @Tryz.type47
abbrev Qcc := @Tryz.type73
abbrev Qch := @Tryz.underlying34
abbrev Qcj := @Tryz.underlying43
abbrev Qcl := @Tryz.type34
abbrev Qcm := @Tryz.underlying133
abbrev Qcs := @Tryz.type64
abbrev Qcu := @Tryz.type40
abbrev Qda := @Tryz.type131
abbrev Qde := @Tryz.underlying73
abbrev Qdh := @Tryz.underlying37
abbrev Qdl := @Tryz.type37
abbrev Qdn := @Tryz.underlying44
abbrev Qdr := @Tryz.type133
abbrev Qds := @Tryz.underlying32
abbrev Qdt := @Tryz.underlying45
abbrev Qdv := @Tryz.underlying35
abbrev Qeh := @Tryz.type201
abbrev Qei := @Tryz.underlying201
abbrev Qfa := @Tryz.type35
abbrev Qfn := @Tryz.type43
abbrev Qhf := @Tryz.underlying30
abbrev Qjo := @Tryz.underlying171
abbrev Qky := @Tryz.underlying169
abbrev Qkz := @Tryz.underlying176
abbrev Qla := @Tryz.underlying87
abbrev Qlb := @Tryz.underlying95
abbrev Qnv := @Tryz.underlying174
abbrev Qnw := @Tryz.underlying219
abbrev Qnx := @Tryz.underlying22
abbrev Qny := @Tryz.underlying26
abbrev Qnz := @Tryz.underlying27
abbrev Qoa := @Tryz.underlying28
abbrev Qpc := @Tryz.underlying239
abbrev Qpd := @Tryz.underlying93
abbrev Qqw := @Tryz.underlying85
end Go.Proofs.YtmikmbmdibabmaaGreat

