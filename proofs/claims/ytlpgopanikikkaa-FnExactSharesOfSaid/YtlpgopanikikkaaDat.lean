/-
  The data of the program as structures, and how they lie in memory.
-/
import Derived.Test.YtlpgopanikikkaaVcH
namespace Go.Proofs.Ytlpgopanikikkaa
open Go.RowKit
structure DCharge where
  Segment : Int
  Base : Int
  Ids : (List Int)
  Tenants : (List Int)
  Rows : (List Int)
instance : Inhabited DCharge := ⟨⟨default, default, default, default, default⟩⟩
def tyLCharge : Ty DCharge := tMap (tPair tInt (tPair tInt (tPair (tSl tInt 3) (tPair (tSl tInt 3) (tSl tInt 3))))) (fun x => (x.Segment, x.Base, x.Ids, x.Tenants, x.Rows))
theorem tyLCharge_rd {w : World} {B : Nat} {cs : List Value} {x : DCharge} (h : tyLCharge.rd w B cs x) : ∃ v0 v1 v2, cs = [.int .i64 x.Segment, .int .i64 x.Base, v0, v1, v2] ∧ rdS tInt w B v0 x.Ids ∧ rdS tInt w B v1 x.Tenants ∧ rdS tInt w B v2 x.Rows := by
  obtain ⟨_, _, rfl, ⟨_, rfl, rfl⟩, ⟨_, _, rfl, ⟨_, rfl, rfl⟩, ⟨_, _, rfl, ⟨v0, rfl, h0⟩, ⟨_, _, rfl, ⟨v1, rfl, h1⟩, ⟨v2, rfl, h2⟩⟩⟩⟩⟩ := h
  exact ⟨v0, v1, v2, rfl, h0, h1, h2⟩
theorem tyLCharge_mk {w : World} {B : Nat} {x : DCharge} {v0 v1 v2 : Value} (h0 : rdS tInt w B v0 x.Ids) (h1 : rdS tInt w B v1 x.Tenants) (h2 : rdS tInt w B v2 x.Rows) : tyLCharge.rd w B [.int .i64 x.Segment, .int .i64 x.Base, v0, v1, v2] x := ⟨_, _, rfl, ⟨_, rfl, rfl⟩, ⟨_, _, rfl, ⟨_, rfl, rfl⟩, ⟨_, _, rfl, ⟨_, rfl, h0⟩, ⟨_, _, rfl, ⟨_, rfl, h1⟩, ⟨_, rfl, h2⟩⟩⟩⟩⟩
def tyCharge : Ty DCharge := tMap (tPair tInt (tPair tInt (tPair (tSl tInt 3) (tPair (tSl tInt 3) (tSl tInt 3))))) (fun x => (x.Segment, x.Base, x.Ids, x.Tenants, x.Rows))
theorem tyCharge_rd {w : World} {B : Nat} {cs : List Value} {x : DCharge} (h : tyCharge.rd w B cs x) : ∃ v0 v1 v2, cs = [.int .i64 x.Segment, .int .i64 x.Base, v0, v1, v2] ∧ rdS tInt w B v0 x.Ids ∧ rdS tInt w B v1 x.Tenants ∧ rdS tInt w B v2 x.Rows := by
  obtain ⟨_, _, rfl, ⟨_, rfl, rfl⟩, ⟨_, _, rfl, ⟨_, rfl, rfl⟩, ⟨_, _, rfl, ⟨v0, rfl, h0⟩, ⟨_, _, rfl, ⟨v1, rfl, h1⟩, ⟨v2, rfl, h2⟩⟩⟩⟩⟩ := h
  exact ⟨v0, v1, v2, rfl, h0, h1, h2⟩
theorem tyCharge_mk {w : World} {B : Nat} {x : DCharge} {v0 v1 v2 : Value} (h0 : rdS tInt w B v0 x.Ids) (h1 : rdS tInt w B v1 x.Tenants) (h2 : rdS tInt w B v2 x.Rows) : tyCharge.rd w B [.int .i64 x.Segment, .int .i64 x.Base, v0, v1, v2] x := ⟨_, _, rfl, ⟨_, rfl, rfl⟩, ⟨_, _, rfl, ⟨_, rfl, rfl⟩, ⟨_, _, rfl, ⟨_, rfl, h0⟩, ⟨_, _, rfl, ⟨_, rfl, h1⟩, ⟨_, rfl, h2⟩⟩⟩⟩⟩
structure DRow where
  Id : Int
  Values : (List Int)
instance : Inhabited DRow := ⟨⟨default, default⟩⟩
def tyLRow : Ty DRow := tMap (tPair tInt (tSl tInt 3)) (fun x => (x.Id, x.Values))
theorem tyLRow_rd {w : World} {B : Nat} {cs : List Value} {x : DRow} (h : tyLRow.rd w B cs x) : ∃ v0, cs = [.int .i64 x.Id, v0] ∧ rdS tInt w B v0 x.Values := by
  obtain ⟨_, _, rfl, ⟨_, rfl, rfl⟩, ⟨v0, rfl, h0⟩⟩ := h
  exact ⟨v0, rfl, h0⟩
theorem tyLRow_mk {w : World} {B : Nat} {x : DRow} {v0 : Value} (h0 : rdS tInt w B v0 x.Values) : tyLRow.rd w B [.int .i64 x.Id, v0] x := ⟨_, _, rfl, ⟨_, rfl, rfl⟩, ⟨_, rfl, h0⟩⟩
structure DUpdate where
  Kind : Int
  Row : DRow
  Field : Int
  Value : Int
instance : Inhabited DUpdate := ⟨⟨default, default, default, default⟩⟩
def tyLUpdate : Ty DUpdate := tMap (tPair tInt (tPair tyLRow (tPair tInt tInt))) (fun x => (x.Kind, x.Row, x.Field, x.Value))
theorem tyLUpdate_rd {w : World} {B : Nat} {cs : List Value} {x : DUpdate} (h : tyLUpdate.rd w B cs x) : ∃ v0, cs = [.int .i64 x.Kind, .int .i64 x.Row.Id, v0, .int .i64 x.Field, .int .i64 x.Value] ∧ rdS tInt w B v0 x.Row.Values := by
  obtain ⟨_, _, rfl, ⟨_, rfl, rfl⟩, ⟨_, _, rfl, ⟨_, _, rfl, ⟨_, rfl, rfl⟩, ⟨v0, rfl, h0⟩⟩, ⟨_, _, rfl, ⟨_, rfl, rfl⟩, ⟨_, rfl, rfl⟩⟩⟩⟩ := h
  exact ⟨v0, rfl, h0⟩
theorem tyLUpdate_mk {w : World} {B : Nat} {x : DUpdate} {v0 : Value} (h0 : rdS tInt w B v0 x.Row.Values) : tyLUpdate.rd w B [.int .i64 x.Kind, .int .i64 x.Row.Id, v0, .int .i64 x.Field, .int .i64 x.Value] x := ⟨_, _, rfl, ⟨_, rfl, rfl⟩, ⟨_, _, rfl, ⟨_, _, rfl, ⟨_, rfl, rfl⟩, ⟨_, rfl, h0⟩⟩, ⟨_, _, rfl, ⟨_, rfl, rfl⟩, ⟨_, rfl, rfl⟩⟩⟩⟩
def tyRow : Ty DRow := tMap (tPair tInt (tSl tInt 3)) (fun x => (x.Id, x.Values))
theorem tyRow_rd {w : World} {B : Nat} {cs : List Value} {x : DRow} (h : tyRow.rd w B cs x) : ∃ v0, cs = [.int .i64 x.Id, v0] ∧ rdS tInt w B v0 x.Values := by
  obtain ⟨_, _, rfl, ⟨_, rfl, rfl⟩, ⟨v0, rfl, h0⟩⟩ := h
  exact ⟨v0, rfl, h0⟩
theorem tyRow_mk {w : World} {B : Nat} {x : DRow} {v0 : Value} (h0 : rdS tInt w B v0 x.Values) : tyRow.rd w B [.int .i64 x.Id, v0] x := ⟨_, _, rfl, ⟨_, rfl, rfl⟩, ⟨_, rfl, h0⟩⟩
def tyUpdate : Ty DUpdate := tMap (tPair tInt (tPair tyRow (tPair tInt tInt))) (fun x => (x.Kind, x.Row, x.Field, x.Value))
theorem tyUpdate_rd {w : World} {B : Nat} {cs : List Value} {x : DUpdate} (h : tyUpdate.rd w B cs x) : ∃ v0, cs = [.int .i64 x.Kind, .int .i64 x.Row.Id, v0, .int .i64 x.Field, .int .i64 x.Value] ∧ rdS tInt w B v0 x.Row.Values := by
  obtain ⟨_, _, rfl, ⟨_, rfl, rfl⟩, ⟨_, _, rfl, ⟨_, _, rfl, ⟨_, rfl, rfl⟩, ⟨v0, rfl, h0⟩⟩, ⟨_, _, rfl, ⟨_, rfl, rfl⟩, ⟨_, rfl, rfl⟩⟩⟩⟩ := h
  exact ⟨v0, rfl, h0⟩
theorem tyUpdate_mk {w : World} {B : Nat} {x : DUpdate} {v0 : Value} (h0 : rdS tInt w B v0 x.Row.Values) : tyUpdate.rd w B [.int .i64 x.Kind, .int .i64 x.Row.Id, v0, .int .i64 x.Field, .int .i64 x.Value] x := ⟨_, _, rfl, ⟨_, rfl, rfl⟩, ⟨_, _, rfl, ⟨_, _, rfl, ⟨_, rfl, rfl⟩, ⟨_, rfl, h0⟩⟩, ⟨_, _, rfl, ⟨_, rfl, rfl⟩, ⟨_, rfl, rfl⟩⟩⟩⟩
structure DGroup where
  Query : Int
  Value : Int
  Count : Int
  Sum : Int
instance : Inhabited DGroup := ⟨⟨default, default, default, default⟩⟩
def tyGroup : Ty DGroup := tMap (tPair tInt (tPair tInt (tPair tInt tInt))) (fun x => (x.Query, x.Value, x.Count, x.Sum))
theorem tyGroup_rd {w : World} {B : Nat} {cs : List Value} {x : DGroup} (h : tyGroup.rd w B cs x) : cs = [.int .i64 x.Query, .int .i64 x.Value, .int .i64 x.Count, .int .i64 x.Sum] := by
  obtain ⟨_, _, rfl, ⟨_, rfl, rfl⟩, ⟨_, _, rfl, ⟨_, rfl, rfl⟩, ⟨_, _, rfl, ⟨_, rfl, rfl⟩, ⟨_, rfl, rfl⟩⟩⟩⟩ := h
  exact rfl
theorem tyGroup_mk {w : World} {B : Nat} {x : DGroup} : tyGroup.rd w B [.int .i64 x.Query, .int .i64 x.Value, .int .i64 x.Count, .int .i64 x.Sum] x := ⟨_, _, rfl, ⟨_, rfl, rfl⟩, ⟨_, _, rfl, ⟨_, rfl, rfl⟩, ⟨_, _, rfl, ⟨_, rfl, rfl⟩, ⟨_, rfl, rfl⟩⟩⟩⟩
def tyLGroup : Ty DGroup := tMap (tPair tInt (tPair tInt (tPair tInt tInt))) (fun x => (x.Query, x.Value, x.Count, x.Sum))
theorem tyLGroup_rd {w : World} {B : Nat} {cs : List Value} {x : DGroup} (h : tyLGroup.rd w B cs x) : cs = [.int .i64 x.Query, .int .i64 x.Value, .int .i64 x.Count, .int .i64 x.Sum] := by
  obtain ⟨_, _, rfl, ⟨_, rfl, rfl⟩, ⟨_, _, rfl, ⟨_, rfl, rfl⟩, ⟨_, _, rfl, ⟨_, rfl, rfl⟩, ⟨_, rfl, rfl⟩⟩⟩⟩ := h
  exact rfl
theorem tyLGroup_mk {w : World} {B : Nat} {x : DGroup} : tyLGroup.rd w B [.int .i64 x.Query, .int .i64 x.Value, .int .i64 x.Count, .int .i64 x.Sum] x := ⟨_, _, rfl, ⟨_, rfl, rfl⟩, ⟨_, _, rfl, ⟨_, rfl, rfl⟩, ⟨_, _, rfl, ⟨_, rfl, rfl⟩, ⟨_, rfl, rfl⟩⟩⟩⟩
structure DAnnotated where
  Row : DRow
  Set : (List Int)
instance : Inhabited DAnnotated := ⟨⟨default, default⟩⟩
def tyLAnnotated : Ty DAnnotated := tMap (tPair tyLRow (tSl tInt 3)) (fun x => (x.Row, x.Set))
theorem tyLAnnotated_rd {w : World} {B : Nat} {cs : List Value} {x : DAnnotated} (h : tyLAnnotated.rd w B cs x) : ∃ v0 v1, cs = [.int .i64 x.Row.Id, v0, v1] ∧ rdS tInt w B v0 x.Row.Values ∧ rdS tInt w B v1 x.Set := by
  obtain ⟨_, _, rfl, ⟨_, _, rfl, ⟨_, rfl, rfl⟩, ⟨v0, rfl, h0⟩⟩, ⟨v1, rfl, h1⟩⟩ := h
  exact ⟨v0, v1, rfl, h0, h1⟩
theorem tyLAnnotated_mk {w : World} {B : Nat} {x : DAnnotated} {v0 v1 : Value} (h0 : rdS tInt w B v0 x.Row.Values) (h1 : rdS tInt w B v1 x.Set) : tyLAnnotated.rd w B [.int .i64 x.Row.Id, v0, v1] x := ⟨_, _, rfl, ⟨_, _, rfl, ⟨_, rfl, rfl⟩, ⟨_, rfl, h0⟩⟩, ⟨_, rfl, h1⟩⟩
def tyAnnotated : Ty DAnnotated := tMap (tPair tyRow (tSl tInt 3)) (fun x => (x.Row, x.Set))
theorem tyAnnotated_rd {w : World} {B : Nat} {cs : List Value} {x : DAnnotated} (h : tyAnnotated.rd w B cs x) : ∃ v0 v1, cs = [.int .i64 x.Row.Id, v0, v1] ∧ rdS tInt w B v0 x.Row.Values ∧ rdS tInt w B v1 x.Set := by
  obtain ⟨_, _, rfl, ⟨_, _, rfl, ⟨_, rfl, rfl⟩, ⟨v0, rfl, h0⟩⟩, ⟨v1, rfl, h1⟩⟩ := h
  exact ⟨v0, v1, rfl, h0, h1⟩
theorem tyAnnotated_mk {w : World} {B : Nat} {x : DAnnotated} {v0 v1 : Value} (h0 : rdS tInt w B v0 x.Row.Values) (h1 : rdS tInt w B v1 x.Set) : tyAnnotated.rd w B [.int .i64 x.Row.Id, v0, v1] x := ⟨_, _, rfl, ⟨_, _, rfl, ⟨_, rfl, rfl⟩, ⟨_, rfl, h0⟩⟩, ⟨_, rfl, h1⟩⟩
def smCharge (B : Nat) (x : DCharge) : Prop := x.Ids.length ≤ B ∧ x.Tenants.length ≤ B ∧ x.Rows.length ≤ B
theorem tyLCharge_split {w : World} {L : List Nat} {cs : List Value} {x : DCharge} (h : tyLCharge.own w L cs x) : ∃ g : Value × Value × Value, cs = [.int .i64 x.Segment, .int .i64 x.Base, g.1, g.2.1, g.2.2] ∧ Sep [iOwn (tSl tInt 3) [g.1] x.Ids, iOwn (tSl tInt 3) [g.2.1] x.Tenants, iOwn (tSl tInt 3) [g.2.2] x.Rows] w L := by
  obtain ⟨_, _, _, _, rfl, rfl, ⟨rfl, _, rfl, rfl⟩, ⟨_, _, _, _, rfl, rfl, ⟨rfl, _, rfl, rfl⟩, ⟨_, _, _, _, rfl, rfl, ⟨v0, rfl, h0⟩, ⟨_, _, _, _, rfl, rfl, ⟨v1, rfl, h1⟩, ⟨v2, rfl, h2⟩⟩⟩⟩⟩ := h
  exact ⟨(v0, v1, v2), rfl, Sep.cast (⟨_, _, rfl, ⟨_, rfl, h0⟩, ⟨_, _, rfl, ⟨_, rfl, h1⟩, ⟨_, [], (List.append_nil _).symm, ⟨_, rfl, h2⟩, rfl⟩⟩⟩) (by simp)⟩
theorem tyLCharge_join {w : World} {L : List Nat} {x : DCharge} {v0 v1 v2 : Value} (h : Sep [iOwn (tSl tInt 3) [v0] x.Ids, iOwn (tSl tInt 3) [v1] x.Tenants, iOwn (tSl tInt 3) [v2] x.Rows] w L) : tyLCharge.own w L [.int .i64 x.Segment, .int .i64 x.Base, v0, v1, v2] x := by
  obtain ⟨L0, K0, rfl, h0, s0⟩ := Sep.cons h
  obtain ⟨L1, K1, rfl, h1, s1⟩ := Sep.cons s0
  obtain ⟨L2, K2, rfl, h2, s2⟩ := Sep.cons s1
  cases (Sep.nil s2)
  exact own_cast (T := tyLCharge) (cs := [.int .i64 x.Segment, .int .i64 x.Base, v0, v1, v2]) (x := x) ⟨_, _, _, _, rfl, rfl, tInt_own, ⟨_, _, _, _, rfl, rfl, tInt_own, ⟨_, _, _, _, rfl, rfl, h0, ⟨_, _, _, _, rfl, rfl, h1, h2⟩⟩⟩⟩ (by simp)
theorem tyCharge_split {w : World} {L : List Nat} {cs : List Value} {x : DCharge} (h : tyCharge.own w L cs x) : ∃ g : Value × Value × Value, cs = [.int .i64 x.Segment, .int .i64 x.Base, g.1, g.2.1, g.2.2] ∧ Sep [iOwn (tSl tInt 3) [g.1] x.Ids, iOwn (tSl tInt 3) [g.2.1] x.Tenants, iOwn (tSl tInt 3) [g.2.2] x.Rows] w L := by
  obtain ⟨_, _, _, _, rfl, rfl, ⟨rfl, _, rfl, rfl⟩, ⟨_, _, _, _, rfl, rfl, ⟨rfl, _, rfl, rfl⟩, ⟨_, _, _, _, rfl, rfl, ⟨v0, rfl, h0⟩, ⟨_, _, _, _, rfl, rfl, ⟨v1, rfl, h1⟩, ⟨v2, rfl, h2⟩⟩⟩⟩⟩ := h
  exact ⟨(v0, v1, v2), rfl, Sep.cast (⟨_, _, rfl, ⟨_, rfl, h0⟩, ⟨_, _, rfl, ⟨_, rfl, h1⟩, ⟨_, [], (List.append_nil _).symm, ⟨_, rfl, h2⟩, rfl⟩⟩⟩) (by simp)⟩
theorem tyCharge_join {w : World} {L : List Nat} {x : DCharge} {v0 v1 v2 : Value} (h : Sep [iOwn (tSl tInt 3) [v0] x.Ids, iOwn (tSl tInt 3) [v1] x.Tenants, iOwn (tSl tInt 3) [v2] x.Rows] w L) : tyCharge.own w L [.int .i64 x.Segment, .int .i64 x.Base, v0, v1, v2] x := by
  obtain ⟨L0, K0, rfl, h0, s0⟩ := Sep.cons h
  obtain ⟨L1, K1, rfl, h1, s1⟩ := Sep.cons s0
  obtain ⟨L2, K2, rfl, h2, s2⟩ := Sep.cons s1
  cases (Sep.nil s2)
  exact own_cast (T := tyCharge) (cs := [.int .i64 x.Segment, .int .i64 x.Base, v0, v1, v2]) (x := x) ⟨_, _, _, _, rfl, rfl, tInt_own, ⟨_, _, _, _, rfl, rfl, tInt_own, ⟨_, _, _, _, rfl, rfl, h0, ⟨_, _, _, _, rfl, rfl, h1, h2⟩⟩⟩⟩ (by simp)
def smRow (B : Nat) (x : DRow) : Prop := x.Values.length ≤ B
theorem tyLRow_split {w : World} {L : List Nat} {cs : List Value} {x : DRow} (h : tyLRow.own w L cs x) : ∃ g : Value, cs = [.int .i64 x.Id, g] ∧ Sep [iOwn (tSl tInt 3) [g] x.Values] w L := by
  obtain ⟨_, _, _, _, rfl, rfl, ⟨rfl, _, rfl, rfl⟩, ⟨v0, rfl, h0⟩⟩ := h
  exact ⟨v0, rfl, Sep.cast (⟨_, [], (List.append_nil _).symm, ⟨_, rfl, h0⟩, rfl⟩) (by simp)⟩
theorem tyLRow_join {w : World} {L : List Nat} {x : DRow} {v0 : Value} (h : Sep [iOwn (tSl tInt 3) [v0] x.Values] w L) : tyLRow.own w L [.int .i64 x.Id, v0] x := by
  obtain ⟨L0, K0, rfl, h0, s0⟩ := Sep.cons h
  cases (Sep.nil s0)
  exact own_cast (T := tyLRow) (cs := [.int .i64 x.Id, v0]) (x := x) ⟨_, _, _, _, rfl, rfl, tInt_own, h0⟩ (by simp)
def smUpdate (B : Nat) (x : DUpdate) : Prop := smRow B x.Row
theorem tyLUpdate_split {w : World} {L : List Nat} {cs : List Value} {x : DUpdate} (h : tyLUpdate.own w L cs x) : ∃ g : Value, cs = [.int .i64 x.Kind, .int .i64 x.Row.Id, g, .int .i64 x.Field, .int .i64 x.Value] ∧ Sep [iOwn (tSl tInt 3) [g] x.Row.Values] w L := by
  obtain ⟨_, _, _, _, rfl, rfl, ⟨rfl, _, rfl, rfl⟩, ⟨_, _, _, _, rfl, rfl, ⟨_, _, _, _, rfl, rfl, ⟨rfl, _, rfl, rfl⟩, ⟨v0, rfl, h0⟩⟩, ⟨_, _, _, _, rfl, rfl, ⟨rfl, _, rfl, rfl⟩, ⟨rfl, _, rfl, rfl⟩⟩⟩⟩ := h
  exact ⟨v0, rfl, Sep.cast (⟨_, [], (List.append_nil _).symm, ⟨_, rfl, h0⟩, rfl⟩) (by simp)⟩
theorem tyLUpdate_join {w : World} {L : List Nat} {x : DUpdate} {v0 : Value} (h : Sep [iOwn (tSl tInt 3) [v0] x.Row.Values] w L) : tyLUpdate.own w L [.int .i64 x.Kind, .int .i64 x.Row.Id, v0, .int .i64 x.Field, .int .i64 x.Value] x := by
  obtain ⟨L0, K0, rfl, h0, s0⟩ := Sep.cons h
  cases (Sep.nil s0)
  exact own_cast (T := tyLUpdate) (cs := [.int .i64 x.Kind, .int .i64 x.Row.Id, v0, .int .i64 x.Field, .int .i64 x.Value]) (x := x) ⟨_, _, _, _, rfl, rfl, tInt_own, ⟨_, _, _, _, rfl, rfl, ⟨_, _, _, _, rfl, rfl, tInt_own, h0⟩, ⟨_, _, _, _, rfl, rfl, tInt_own, tInt_own⟩⟩⟩ (by simp)
theorem tyRow_split {w : World} {L : List Nat} {cs : List Value} {x : DRow} (h : tyRow.own w L cs x) : ∃ g : Value, cs = [.int .i64 x.Id, g] ∧ Sep [iOwn (tSl tInt 3) [g] x.Values] w L := by
  obtain ⟨_, _, _, _, rfl, rfl, ⟨rfl, _, rfl, rfl⟩, ⟨v0, rfl, h0⟩⟩ := h
  exact ⟨v0, rfl, Sep.cast (⟨_, [], (List.append_nil _).symm, ⟨_, rfl, h0⟩, rfl⟩) (by simp)⟩
theorem tyRow_join {w : World} {L : List Nat} {x : DRow} {v0 : Value} (h : Sep [iOwn (tSl tInt 3) [v0] x.Values] w L) : tyRow.own w L [.int .i64 x.Id, v0] x := by
  obtain ⟨L0, K0, rfl, h0, s0⟩ := Sep.cons h
  cases (Sep.nil s0)
  exact own_cast (T := tyRow) (cs := [.int .i64 x.Id, v0]) (x := x) ⟨_, _, _, _, rfl, rfl, tInt_own, h0⟩ (by simp)
theorem tyUpdate_split {w : World} {L : List Nat} {cs : List Value} {x : DUpdate} (h : tyUpdate.own w L cs x) : ∃ g : Value, cs = [.int .i64 x.Kind, .int .i64 x.Row.Id, g, .int .i64 x.Field, .int .i64 x.Value] ∧ Sep [iOwn (tSl tInt 3) [g] x.Row.Values] w L := by
  obtain ⟨_, _, _, _, rfl, rfl, ⟨rfl, _, rfl, rfl⟩, ⟨_, _, _, _, rfl, rfl, ⟨_, _, _, _, rfl, rfl, ⟨rfl, _, rfl, rfl⟩, ⟨v0, rfl, h0⟩⟩, ⟨_, _, _, _, rfl, rfl, ⟨rfl, _, rfl, rfl⟩, ⟨rfl, _, rfl, rfl⟩⟩⟩⟩ := h
  exact ⟨v0, rfl, Sep.cast (⟨_, [], (List.append_nil _).symm, ⟨_, rfl, h0⟩, rfl⟩) (by simp)⟩
theorem tyUpdate_join {w : World} {L : List Nat} {x : DUpdate} {v0 : Value} (h : Sep [iOwn (tSl tInt 3) [v0] x.Row.Values] w L) : tyUpdate.own w L [.int .i64 x.Kind, .int .i64 x.Row.Id, v0, .int .i64 x.Field, .int .i64 x.Value] x := by
  obtain ⟨L0, K0, rfl, h0, s0⟩ := Sep.cons h
  cases (Sep.nil s0)
  exact own_cast (T := tyUpdate) (cs := [.int .i64 x.Kind, .int .i64 x.Row.Id, v0, .int .i64 x.Field, .int .i64 x.Value]) (x := x) ⟨_, _, _, _, rfl, rfl, tInt_own, ⟨_, _, _, _, rfl, rfl, ⟨_, _, _, _, rfl, rfl, tInt_own, h0⟩, ⟨_, _, _, _, rfl, rfl, tInt_own, tInt_own⟩⟩⟩ (by simp)
theorem tyGroup_split {w : World} {L : List Nat} {cs : List Value} {x : DGroup} (h : tyGroup.own w L cs x) : ∃ _ : Unit, cs = [.int .i64 x.Query, .int .i64 x.Value, .int .i64 x.Count, .int .i64 x.Sum] ∧ Sep [] w L := by
  obtain ⟨_, _, _, _, rfl, rfl, ⟨rfl, _, rfl, rfl⟩, ⟨_, _, _, _, rfl, rfl, ⟨rfl, _, rfl, rfl⟩, ⟨_, _, _, _, rfl, rfl, ⟨rfl, _, rfl, rfl⟩, ⟨rfl, _, rfl, rfl⟩⟩⟩⟩ := h
  exact ⟨(), rfl, Sep.cast (rfl) (by simp)⟩
theorem tyGroup_join {w : World} {L : List Nat} {x : DGroup} (h : Sep [] w L) : tyGroup.own w L [.int .i64 x.Query, .int .i64 x.Value, .int .i64 x.Count, .int .i64 x.Sum] x := by
  cases (Sep.nil h)
  exact own_cast (T := tyGroup) (cs := [.int .i64 x.Query, .int .i64 x.Value, .int .i64 x.Count, .int .i64 x.Sum]) (x := x) ⟨_, _, _, _, rfl, rfl, tInt_own, ⟨_, _, _, _, rfl, rfl, tInt_own, ⟨_, _, _, _, rfl, rfl, tInt_own, tInt_own⟩⟩⟩ (by simp)
theorem tyLGroup_split {w : World} {L : List Nat} {cs : List Value} {x : DGroup} (h : tyLGroup.own w L cs x) : ∃ _ : Unit, cs = [.int .i64 x.Query, .int .i64 x.Value, .int .i64 x.Count, .int .i64 x.Sum] ∧ Sep [] w L := by
  obtain ⟨_, _, _, _, rfl, rfl, ⟨rfl, _, rfl, rfl⟩, ⟨_, _, _, _, rfl, rfl, ⟨rfl, _, rfl, rfl⟩, ⟨_, _, _, _, rfl, rfl, ⟨rfl, _, rfl, rfl⟩, ⟨rfl, _, rfl, rfl⟩⟩⟩⟩ := h
  exact ⟨(), rfl, Sep.cast (rfl) (by simp)⟩
theorem tyLGroup_join {w : World} {L : List Nat} {x : DGroup} (h : Sep [] w L) : tyLGroup.own w L [.int .i64 x.Query, .int .i64 x.Value, .int .i64 x.Count, .int .i64 x.Sum] x := by
  cases (Sep.nil h)
  exact own_cast (T := tyLGroup) (cs := [.int .i64 x.Query, .int .i64 x.Value, .int .i64 x.Count, .int .i64 x.Sum]) (x := x) ⟨_, _, _, _, rfl, rfl, tInt_own, ⟨_, _, _, _, rfl, rfl, tInt_own, ⟨_, _, _, _, rfl, rfl, tInt_own, tInt_own⟩⟩⟩ (by simp)
def smAnnotated (B : Nat) (x : DAnnotated) : Prop := smRow B x.Row ∧ x.Set.length ≤ B
theorem tyLAnnotated_split {w : World} {L : List Nat} {cs : List Value} {x : DAnnotated} (h : tyLAnnotated.own w L cs x) : ∃ g : Value × Value, cs = [.int .i64 x.Row.Id, g.1, g.2] ∧ Sep [iOwn (tSl tInt 3) [g.1] x.Row.Values, iOwn (tSl tInt 3) [g.2] x.Set] w L := by
  obtain ⟨_, _, _, _, rfl, rfl, ⟨_, _, _, _, rfl, rfl, ⟨rfl, _, rfl, rfl⟩, ⟨v0, rfl, h0⟩⟩, ⟨v1, rfl, h1⟩⟩ := h
  exact ⟨(v0, v1), rfl, Sep.cast (⟨_, _, rfl, ⟨_, rfl, h0⟩, ⟨_, [], (List.append_nil _).symm, ⟨_, rfl, h1⟩, rfl⟩⟩) (by simp)⟩
theorem tyLAnnotated_join {w : World} {L : List Nat} {x : DAnnotated} {v0 v1 : Value} (h : Sep [iOwn (tSl tInt 3) [v0] x.Row.Values, iOwn (tSl tInt 3) [v1] x.Set] w L) : tyLAnnotated.own w L [.int .i64 x.Row.Id, v0, v1] x := by
  obtain ⟨L0, K0, rfl, h0, s0⟩ := Sep.cons h
  obtain ⟨L1, K1, rfl, h1, s1⟩ := Sep.cons s0
  cases (Sep.nil s1)
  exact own_cast (T := tyLAnnotated) (cs := [.int .i64 x.Row.Id, v0, v1]) (x := x) ⟨_, _, _, _, rfl, rfl, ⟨_, _, _, _, rfl, rfl, tInt_own, h0⟩, h1⟩ (by simp)
theorem tyAnnotated_split {w : World} {L : List Nat} {cs : List Value} {x : DAnnotated} (h : tyAnnotated.own w L cs x) : ∃ g : Value × Value, cs = [.int .i64 x.Row.Id, g.1, g.2] ∧ Sep [iOwn (tSl tInt 3) [g.1] x.Row.Values, iOwn (tSl tInt 3) [g.2] x.Set] w L := by
  obtain ⟨_, _, _, _, rfl, rfl, ⟨_, _, _, _, rfl, rfl, ⟨rfl, _, rfl, rfl⟩, ⟨v0, rfl, h0⟩⟩, ⟨v1, rfl, h1⟩⟩ := h
  exact ⟨(v0, v1), rfl, Sep.cast (⟨_, _, rfl, ⟨_, rfl, h0⟩, ⟨_, [], (List.append_nil _).symm, ⟨_, rfl, h1⟩, rfl⟩⟩) (by simp)⟩
theorem tyAnnotated_join {w : World} {L : List Nat} {x : DAnnotated} {v0 v1 : Value} (h : Sep [iOwn (tSl tInt 3) [v0] x.Row.Values, iOwn (tSl tInt 3) [v1] x.Set] w L) : tyAnnotated.own w L [.int .i64 x.Row.Id, v0, v1] x := by
  obtain ⟨L0, K0, rfl, h0, s0⟩ := Sep.cons h
  obtain ⟨L1, K1, rfl, h1, s1⟩ := Sep.cons s0
  cases (Sep.nil s1)
  exact own_cast (T := tyAnnotated) (cs := [.int .i64 x.Row.Id, v0, v1]) (x := x) ⟨_, _, _, _, rfl, rfl, ⟨_, _, _, _, rfl, rfl, tInt_own, h0⟩, h1⟩ (by simp)
end Go.Proofs.Ytlpgopanikikkaa
