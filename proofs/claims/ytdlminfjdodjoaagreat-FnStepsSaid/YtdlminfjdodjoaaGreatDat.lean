/-
  The data of the program as structures,and how they lie in memory.
-/
import Derived.Test.YtdlminfjdodjoaaGreatVcS
import Derived.Test.YtdlminfjdodjoaaGreatVcP
import Derived.Test.YtdlminfjdodjoaaGreatVcX
import Derived.Test.YtdlminfjdodjoaaGreatVcY
import Derived.Test.YtdlminfjdodjoaaGreatVcQ
import Derived.Test.YtdlminfjdodjoaaGreatVcR
namespace Go.Proofs.YtdlminfjdodjoaaGreat
open Go.RowKit
structure Qw where
 Id:Int
 m:(List Int)
 x:Int
 y:Int
instance:Inhabited Qw:=⟨⟨default,default,default,default⟩⟩
structure Qaa where
 c:(List (List Qw))
 f:Int
instance:Inhabited Qaa:=⟨⟨default,default⟩⟩
structure Qgd where
 Field:Int
 G:Int
 H:Int
instance:Inhabited Qgd:=⟨⟨default,default,default⟩⟩
structure Qba where
 Id:Int
 u:Int
 o:(List Qgd)
 t:(List Int)
instance:Inhabited Qba:=⟨⟨default,default,default,default⟩⟩
structure Qah where
 Id:Int
 m:(List Int)
instance:Inhabited Qah:=⟨⟨default,default⟩⟩
structure Qp where
 e:Qba
 r:Int
 q:(List Int)
 v:Int
 A:Int
 z:Int
 p:(List Qah)
instance:Inhabited Qp:=⟨⟨default,default,default,default,default,default,default⟩⟩
structure Qco where
 e:Qba
 r:Int
 n:Int
 p:(List Qah)
instance:Inhabited Qco:=⟨⟨default,default,default,default⟩⟩
structure Qdi where
 D:Int
 C:Int
 w:(List Int)
 B:(List Int)
 p:(List Int)
instance:Inhabited Qdi:=⟨⟨default,default,default,default,default⟩⟩
structure Qk where
 d:Qaa
 g:Int
 l:(List Int)
 a:(List Qp)
 j:(List Qco)
 k:(List Qdi)
 n:Int
instance:Inhabited Qk:=⟨⟨default,default,default,default,default,default,default⟩⟩
def Qy:Ty Qw:=Qkn (Qfj Qa (Qfj (tSl Qa 3) (Qfj Qa Qa))) (fun x=>(x.Id,x.m,x.x,x.y))
theorem Qhz {w:World} {B:Nat} {cs:List Value} {x:Qw} (h:Qy.rd w B cs x):∃ v0,cs=[.int .i64 x.Id,v0, .int .i64 x.x, .int .i64 x.y]∧rdS Qa w B v0 x.m:=by
 obtain⟨_,_,rfl,⟨_,rfl,rfl⟩,⟨_,_,rfl,⟨v0,rfl,h0⟩,⟨_,_,rfl,⟨_,rfl,rfl⟩,⟨_,rfl,rfl⟩⟩⟩⟩:=h;exact⟨v0,rfl,h0⟩
theorem Qif {w:World} {B:Nat} {x:Qw} {v0:Value} (h0:rdS Qa w B v0 x.m):Qy.rd w B [.int .i64 x.Id,v0, .int .i64 x.x, .int .i64 x.y] x:=⟨_,_,rfl,⟨_,rfl,rfl⟩,⟨_,_,rfl,⟨_,rfl,h0⟩,⟨_,_,rfl,⟨_,rfl,rfl⟩,⟨_,rfl,rfl⟩⟩⟩⟩
def Qcw:Ty Qaa:=Qkn (Qfj (tSl (tSl Qy 163) 100) Qa) (fun x=>(x.c,x.f))
theorem Qja {w:World} {B:Nat} {cs:List Value} {x:Qaa} (h:Qcw.rd w B cs x):∃ v0,cs=[v0, .int .i64 x.f]∧rdS (tSl Qy 163) w B v0 x.c:=by
 obtain⟨_,_,rfl,⟨v0,rfl,h0⟩,⟨_,rfl,rfl⟩⟩:=h;exact⟨v0,rfl,h0⟩
theorem Qft {w:World} {B:Nat} {x:Qaa} {v0:Value} (h0:rdS (tSl Qy 163) w B v0 x.c):Qcw.rd w B [v0, .int .i64 x.f] x:=⟨_,_,rfl,⟨_,rfl,h0⟩,⟨_,rfl,rfl⟩⟩
def Qbl:Ty Qgd:=Qkn (Qfj Qa (Qfj Qa Qa)) (fun x=>(x.Field,x.G,x.H))
theorem Qmb {w:World} {B:Nat} {cs:List Value} {x:Qgd} (h:Qbl.rd w B cs x):cs=[.int .i64 x.Field, .int .i64 x.G, .int .i64 x.H]:=by
 obtain⟨_,_,rfl,⟨_,rfl,rfl⟩,⟨_,_,rfl,⟨_,rfl,rfl⟩,⟨_,rfl,rfl⟩⟩⟩:=h;exact rfl
theorem Qajb {w:World} {B:Nat} {x:Qgd}:Qbl.rd w B [.int .i64 x.Field, .int .i64 x.G, .int .i64 x.H] x:=⟨_,_,rfl,⟨_,rfl,rfl⟩,⟨_,_,rfl,⟨_,rfl,rfl⟩,⟨_,rfl,rfl⟩⟩⟩
def Qcx:Ty Qba:=Qkn (Qfj Qa (Qfj Qa (Qfj (tSl Qbl 180) (tSl Qa 3)))) (fun x=>(x.Id,x.u,x.o,x.t))
theorem Qjq {w:World} {B:Nat} {cs:List Value} {x:Qba} (h:Qcx.rd w B cs x):∃ v0 v1,cs=[.int .i64 x.Id, .int .i64 x.u,v0,v1]∧rdS Qbl w B v0 x.o∧rdS Qa w B v1 x.t:=by
 obtain⟨_,_,rfl,⟨_,rfl,rfl⟩,⟨_,_,rfl,⟨_,rfl,rfl⟩,⟨_,_,rfl,⟨v0,rfl,h0⟩,⟨v1,rfl,h1⟩⟩⟩⟩:=h;exact⟨v0,v1,rfl,h0,h1⟩
theorem Qhc {w:World} {B:Nat} {x:Qba} {v0 v1:Value} (h0:rdS Qbl w B v0 x.o) (h1:rdS Qa w B v1 x.t):Qcx.rd w B [.int .i64 x.Id, .int .i64 x.u,v0,v1] x:=⟨_,_,rfl,⟨_,rfl,rfl⟩,⟨_,_,rfl,⟨_,rfl,rfl⟩,⟨_,_,rfl,⟨_,rfl,h0⟩,⟨_,rfl,h1⟩⟩⟩⟩
def Qas:Ty Qah:=Qkn (Qfj Qa (tSl Qa 3)) (fun x=>(x.Id,x.m))
theorem Qiz {w:World} {B:Nat} {cs:List Value} {x:Qah} (h:Qas.rd w B cs x):∃ v0,cs=[.int .i64 x.Id,v0]∧rdS Qa w B v0 x.m:=by
 obtain⟨_,_,rfl,⟨_,rfl,rfl⟩,⟨v0,rfl,h0⟩⟩:=h;exact⟨v0,rfl,h0⟩
theorem Qjr {w:World} {B:Nat} {x:Qah} {v0:Value} (h0:rdS Qa w B v0 x.m):Qas.rd w B [.int .i64 x.Id,v0] x:=⟨_,_,rfl,⟨_,rfl,rfl⟩,⟨_,rfl,h0⟩⟩
def Qz:Ty Qp:=Qkn (Qfj Qcx (Qfj Qa (Qfj (tSl Qa 3) (Qfj Qa (Qfj Qa (Qfj Qa (tSl Qas 70))))))) (fun x=>(x.e,x.r,x.q,x.v,x.A,x.z,x.p))
theorem Qie {w:World} {B:Nat} {cs:List Value} {x:Qp} (h:Qz.rd w B cs x):∃ v0 v1 v2 v3,cs=[.int .i64 x.e.Id, .int .i64 x.e.u,v0,v1, .int .i64 x.r,v2, .int .i64 x.v, .int .i64 x.A, .int .i64 x.z,v3]∧rdS Qbl w B v0 x.e.o∧rdS Qa w B v1 x.e.t∧rdS Qa w B v2 x.q∧rdS Qas w B v3 x.p:=by
 obtain⟨_,_,rfl,⟨_,_,rfl,⟨_,rfl,rfl⟩,⟨_,_,rfl,⟨_,rfl,rfl⟩,⟨_,_,rfl,⟨v0,rfl,h0⟩,⟨v1,rfl,h1⟩⟩⟩⟩,⟨_,_,rfl,⟨_,rfl,rfl⟩,⟨_,_,rfl,⟨v2,rfl,h2⟩,⟨_,_,rfl,⟨_,rfl,rfl⟩,⟨_,_,rfl,⟨_,rfl,rfl⟩,⟨_,_,rfl,⟨_,rfl,rfl⟩,⟨v3,rfl,h3⟩⟩⟩⟩⟩⟩⟩:=h;exact⟨v0,v1,v2,v3,rfl,h0,h1,h2,h3⟩
theorem Qqp {w:World} {B:Nat} {x:Qp} {v0 v1 v2 v3:Value} (h0:rdS Qbl w B v0 x.e.o) (h1:rdS Qa w B v1 x.e.t) (h2:rdS Qa w B v2 x.q) (h3:rdS Qas w B v3 x.p):Qz.rd w B [.int .i64 x.e.Id, .int .i64 x.e.u,v0,v1, .int .i64 x.r,v2, .int .i64 x.v, .int .i64 x.A, .int .i64 x.z,v3] x:=⟨_,_,rfl,⟨_,_,rfl,⟨_,rfl,rfl⟩,⟨_,_,rfl,⟨_,rfl,rfl⟩,⟨_,_,rfl,⟨_,rfl,h0⟩,⟨_,rfl,h1⟩⟩⟩⟩,⟨_,_,rfl,⟨_,rfl,rfl⟩,⟨_,_,rfl,⟨_,rfl,h2⟩,⟨_,_,rfl,⟨_,rfl,rfl⟩,⟨_,_,rfl,⟨_,rfl,rfl⟩,⟨_,_,rfl,⟨_,rfl,rfl⟩,⟨_,rfl,h3⟩⟩⟩⟩⟩⟩⟩
def Qaz:Ty Qco:=Qkn (Qfj Qcx (Qfj Qa (Qfj Qa (tSl Qas 70)))) (fun x=>(x.e,x.r,x.n,x.p))
theorem Qol {w:World} {B:Nat} {cs:List Value} {x:Qco} (h:Qaz.rd w B cs x):∃ v0 v1 v2,cs=[.int .i64 x.e.Id, .int .i64 x.e.u,v0,v1, .int .i64 x.r, .int .i64 x.n,v2]∧rdS Qbl w B v0 x.e.o∧rdS Qa w B v1 x.e.t∧rdS Qas w B v2 x.p:=by
 obtain⟨_,_,rfl,⟨_,_,rfl,⟨_,rfl,rfl⟩,⟨_,_,rfl,⟨_,rfl,rfl⟩,⟨_,_,rfl,⟨v0,rfl,h0⟩,⟨v1,rfl,h1⟩⟩⟩⟩,⟨_,_,rfl,⟨_,rfl,rfl⟩,⟨_,_,rfl,⟨_,rfl,rfl⟩,⟨v2,rfl,h2⟩⟩⟩⟩:=h;exact⟨v0,v1,v2,rfl,h0,h1,h2⟩
theorem Qbak {w:World} {B:Nat} {x:Qco} {v0 v1 v2:Value} (h0:rdS Qbl w B v0 x.e.o) (h1:rdS Qa w B v1 x.e.t) (h2:rdS Qas w B v2 x.p):Qaz.rd w B [.int .i64 x.e.Id, .int .i64 x.e.u,v0,v1, .int .i64 x.r, .int .i64 x.n,v2] x:=⟨_,_,rfl,⟨_,_,rfl,⟨_,rfl,rfl⟩,⟨_,_,rfl,⟨_,rfl,rfl⟩,⟨_,_,rfl,⟨_,rfl,h0⟩,⟨_,rfl,h1⟩⟩⟩⟩,⟨_,_,rfl,⟨_,rfl,rfl⟩,⟨_,_,rfl,⟨_,rfl,rfl⟩,⟨_,rfl,h2⟩⟩⟩⟩
def Qaw:Ty Qdi:=Qkn (Qfj Qa (Qfj Qa (Qfj (tSl Qa 3) (Qfj (tSl Qa 3) (tSl Qa 3))))) (fun x=>(x.D,x.C,x.w,x.B,x.p))
theorem Qky {w:World} {B:Nat} {cs:List Value} {x:Qdi} (h:Qaw.rd w B cs x):∃ v0 v1 v2,cs=[.int .i64 x.D, .int .i64 x.C,v0,v1,v2]∧rdS Qa w B v0 x.w∧rdS Qa w B v1 x.B∧rdS Qa w B v2 x.p:=by
 obtain⟨_,_,rfl,⟨_,rfl,rfl⟩,⟨_,_,rfl,⟨_,rfl,rfl⟩,⟨_,_,rfl,⟨v0,rfl,h0⟩,⟨_,_,rfl,⟨v1,rfl,h1⟩,⟨v2,rfl,h2⟩⟩⟩⟩⟩:=h;exact⟨v0,v1,v2,rfl,h0,h1,h2⟩
theorem Qqt {w:World} {B:Nat} {x:Qdi} {v0 v1 v2:Value} (h0:rdS Qa w B v0 x.w) (h1:rdS Qa w B v1 x.B) (h2:rdS Qa w B v2 x.p):Qaw.rd w B [.int .i64 x.D, .int .i64 x.C,v0,v1,v2] x:=⟨_,_,rfl,⟨_,rfl,rfl⟩,⟨_,_,rfl,⟨_,rfl,rfl⟩,⟨_,_,rfl,⟨_,rfl,h0⟩,⟨_,_,rfl,⟨_,rfl,h1⟩,⟨_,rfl,h2⟩⟩⟩⟩⟩
def Qbz:Ty Qk:=Qkn (Qfj Qcw (Qfj Qa (Qfj (tSl Qa 3) (Qfj (tSl Qz 61) (Qfj (tSl Qaz 80) (Qfj (tSl Qaw 102) Qa)))))) (fun x=>(x.d,x.g,x.l,x.a,x.j,x.k,x.n))
theorem Qji {w:World} {B:Nat} {cs:List Value} {x:Qk} (h:Qbz.rd w B cs x):∃ v0 v1 v2 v3 v4,cs=[v0, .int .i64 x.d.f, .int .i64 x.g,v1,v2,v3,v4, .int .i64 x.n]∧rdS (tSl Qy 163) w B v0 x.d.c∧rdS Qa w B v1 x.l∧rdS Qz w B v2 x.a∧rdS Qaz w B v3 x.j∧rdS Qaw w B v4 x.k:=by
 obtain⟨_,_,rfl,⟨_,_,rfl,⟨v0,rfl,h0⟩,⟨_,rfl,rfl⟩⟩,⟨_,_,rfl,⟨_,rfl,rfl⟩,⟨_,_,rfl,⟨v1,rfl,h1⟩,⟨_,_,rfl,⟨v2,rfl,h2⟩,⟨_,_,rfl,⟨v3,rfl,h3⟩,⟨_,_,rfl,⟨v4,rfl,h4⟩,⟨_,rfl,rfl⟩⟩⟩⟩⟩⟩⟩:=h;exact⟨v0,v1,v2,v3,v4,rfl,h0,h1,h2,h3,h4⟩
theorem Qfs {w:World} {B:Nat} {x:Qk} {v0 v1 v2 v3 v4:Value} (h0:rdS (tSl Qy 163) w B v0 x.d.c) (h1:rdS Qa w B v1 x.l) (h2:rdS Qz w B v2 x.a) (h3:rdS Qaz w B v3 x.j) (h4:rdS Qaw w B v4 x.k):Qbz.rd w B [v0, .int .i64 x.d.f, .int .i64 x.g,v1,v2,v3,v4, .int .i64 x.n] x:=⟨_,_,rfl,⟨_,_,rfl,⟨_,rfl,h0⟩,⟨_,rfl,rfl⟩⟩,⟨_,_,rfl,⟨_,rfl,rfl⟩,⟨_,_,rfl,⟨_,rfl,h1⟩,⟨_,_,rfl,⟨_,rfl,h2⟩,⟨_,_,rfl,⟨_,rfl,h3⟩,⟨_,_,rfl,⟨_,rfl,h4⟩,⟨_,rfl,rfl⟩⟩⟩⟩⟩⟩⟩
structure Qda where
 Kind:Int
 Row:Qah
 Field:Int
 Value:Int
instance:Inhabited Qda:=⟨⟨default,default,default,default⟩⟩
def Qhy:Ty Qda:=Qkn (Qfj Qa (Qfj Qas (Qfj Qa Qa))) (fun x=>(x.Kind,x.Row,x.Field,x.Value))
theorem Qabm {w:World} {B:Nat} {cs:List Value} {x:Qda} (h:Qhy.rd w B cs x):∃ v0,cs=[.int .i64 x.Kind, .int .i64 x.Row.Id,v0, .int .i64 x.Field, .int .i64 x.Value]∧rdS Qa w B v0 x.Row.m:=by
 obtain⟨_,_,rfl,⟨_,rfl,rfl⟩,⟨_,_,rfl,⟨_,_,rfl,⟨_,rfl,rfl⟩,⟨v0,rfl,h0⟩⟩,⟨_,_,rfl,⟨_,rfl,rfl⟩,⟨_,rfl,rfl⟩⟩⟩⟩:=h;exact⟨v0,rfl,h0⟩
theorem Qqu {w:World} {B:Nat} {x:Qda} {v0:Value} (h0:rdS Qa w B v0 x.Row.m):Qhy.rd w B [.int .i64 x.Kind, .int .i64 x.Row.Id,v0, .int .i64 x.Field, .int .i64 x.Value] x:=⟨_,_,rfl,⟨_,rfl,rfl⟩,⟨_,_,rfl,⟨_,_,rfl,⟨_,rfl,rfl⟩,⟨_,rfl,h0⟩⟩,⟨_,_,rfl,⟨_,rfl,rfl⟩,⟨_,rfl,rfl⟩⟩⟩⟩
structure Qaf where
 i:Nat
 h:Int
instance:Inhabited Qaf:=⟨⟨default,default⟩⟩
structure Qdk where
 I:Int
 To:Int
 E:(List Int)
instance:Inhabited Qdk:=⟨⟨default,default,default⟩⟩
def Qgh:Ty Qdk:=Qkn (Qfj Qa (Qfj Qa (tSl Qa 3))) (fun x=>(x.I,x.To,x.E))
theorem Qbat {w:World} {B:Nat} {cs:List Value} {x:Qdk} (h:Qgh.rd w B cs x):∃ v0,cs=[.int .i64 x.I, .int .i64 x.To,v0]∧rdS Qa w B v0 x.E:=by
 obtain⟨_,_,rfl,⟨_,rfl,rfl⟩,⟨_,_,rfl,⟨_,rfl,rfl⟩,⟨v0,rfl,h0⟩⟩⟩:=h;exact⟨v0,rfl,h0⟩
structure Qig where
 J:(List Qba)
 F:(List (List Qdk))
instance:Inhabited Qig:=⟨⟨default,default⟩⟩
def Qmq:Ty Qig:=Qkn (Qfj (tSl Qcx 58) (tSl (tSl Qgh 238) 225)) (fun x=>(x.J,x.F))
theorem Qbao {w:World} {B:Nat} {cs:List Value} {x:Qig} (h:Qmq.rd w B cs x):∃ v0 v1,cs=[v0,v1]∧rdS Qcx w B v0 x.J∧rdS (tSl Qgh 238) w B v1 x.F:=by
 obtain⟨_,_,rfl,⟨v0,rfl,h0⟩,⟨v1,rfl,h1⟩⟩:=h;exact⟨v0,v1,rfl,h0,h1⟩
theorem Qban {w:World} {B:Nat} {x:Qig} {v0 v1:Value} (h0:rdS Qcx w B v0 x.J) (h1:rdS (tSl Qgh 238) w B v1 x.F):Qmq.rd w B [v0,v1] x:=⟨_,_,rfl,⟨_,rfl,h0⟩,⟨_,rfl,h1⟩⟩
theorem Qbaj {a0 a1 a2 b0 b1 b2:Int} (w:World):(binOp .neq 180 (.agg #[.int .i64 a0, .int .i64 a1, .int .i64 a2]) (.agg #[.int .i64 b0, .int .i64 b1, .int .i64 b2])).run Tryz.prog w= .ok (.bool (!((a0==b0) && (a1==b1) && (a2==b2)))) w:=by
 have fu3:=Tryz.underlying3;have fa3:=Tryz.isAgg3;have fz3:=Tryz.sizeOf3;have hS:Tryz.prog.underlying 180=some (.struct (Tryz.prog.fieldsOf 180)):=by kernel_rfl
 have hp:Tryz.prog.stoodInHeld 180=false:=by kernel_rfl
 rw[run_neq_struct,show(10000:Nat)=9999+1 from rfl,run_equalIn_agg w 9999 180 _ _ hS hp];simp only[Program.fieldsOf,Tryz.underlying180]
 go_simp
 by_cases h0:a0=b0 <;>by_cases h1:a1=b1 <;>by_cases h2:a2=b2 <;>simp[h0,h1,h2]
def Qpv (B:Nat) (x:Qw):Prop:=x.m.length≤B
def Qhg (B:Nat) (x:Qaa):Prop:=(x.c.length≤B∧∀ y∈x.c,(y.length≤B∧∀ y1∈y,Qpv B y1))
def Qil (B:Nat) (x:Qba):Prop:=x.o.length≤B∧x.t.length≤B
def Qjp (B:Nat) (x:Qah):Prop:=x.m.length≤B
def Qvh (B:Nat) (x:Qp):Prop:=Qil B x.e∧x.q.length≤B∧(x.p.length≤B∧∀ y∈x.p,Qjp B y)
def Qvi (B:Nat) (x:Qco):Prop:=Qil B x.e∧(x.p.length≤B∧∀ y∈x.p,Qjp B y)
def Qps (B:Nat) (x:Qdi):Prop:=x.w.length≤B∧x.B.length≤B∧x.p.length≤B
def Qhb (B:Nat) (x:Qk):Prop:=Qhg B x.d∧x.l.length≤B∧(x.a.length≤B∧∀ y∈x.a,Qvh B y)∧(x.j.length≤B∧∀ y∈x.j,Qvi B y)∧(x.k.length≤B∧∀ y∈x.k,Qps B y)
theorem Qaje {w:World} {L:List Nat} {cs:List Value} {x:Qw} (h:Qy.own w L cs x):∃ g:Value,cs=[.int .i64 x.Id,g, .int .i64 x.x, .int .i64 x.y]∧Sep [Qh (tSl Qa 3) [g] x.m] w L:=by
 obtain⟨_,_,_,_,rfl,rfl,⟨rfl,_,rfl,rfl⟩,⟨_,_,_,_,rfl,rfl,⟨v0,rfl,h0⟩,⟨_,_,_,_,rfl,rfl,⟨rfl,_,rfl,rfl⟩,⟨rfl,_,rfl,rfl⟩⟩⟩⟩:=h;exact⟨v0,rfl,Sep.cast (⟨_,[],(List.append_nil _).symm,⟨_,rfl,h0⟩,rfl⟩) (by simp)⟩
theorem Qti {P:Program} {N B:Nat} {w0:World} {Q:Exit→Act→World→Prop} {L:List (Nat×Value)} {is:List It} {ops:Array Oper} {l:List Oper} {z:List Value} {x:Qw} (h:∀ g:Value,z=[.int .i64 x.Id,g, .int .i64 x.x, .int .i64 x.y]→WM P N B w0 ops Q l L (Qh (tSl Qa 3) [g] x.m::is)):WM P N B w0 ops Q l L (Qh Qy z x::is):=Qjd (γ:=Value) (js:=fun g=>[Qh (tSl Qa 3) [g] x.m]) (C:=fun g=>z=[.int .i64 x.Id,g, .int .i64 x.x, .int .i64 x.y]) (fun _ _ h=>Qaje h) h
theorem Qjb {w:World} {L:List Nat} {x:Qw} {v0:Value} (h:Sep [Qh (tSl Qa 3) [v0] x.m] w L):Qy.own w L [.int .i64 x.Id,v0, .int .i64 x.x, .int .i64 x.y] x:=by
 obtain⟨L0,K0,rfl,h0,s0⟩:=Sep.cons h;cases (Sep.nil s0)
 exact Qks (T:=Qy) (cs:=[.int .i64 x.Id,v0, .int .i64 x.x, .int .i64 x.y]) (x:=x) ⟨_,_,_,_,rfl,rfl,Qbu,⟨_,_,_,_,rfl,rfl,h0,⟨_,_,_,_,rfl,rfl,Qbu,Qbu⟩⟩⟩ (by simp)
theorem Qajd {w:World} {L:List Nat} {cs:List Value} {x:Qaa} (h:Qcw.own w L cs x):∃ g:Value,cs=[g, .int .i64 x.f]∧Sep [Qh (tSl (tSl Qy 163) 100) [g] x.c] w L:=by
 obtain⟨_,_,_,_,rfl,rfl,⟨v0,rfl,h0⟩,⟨rfl,_,rfl,rfl⟩⟩:=h;exact⟨v0,rfl,Sep.cast (⟨_,[],(List.append_nil _).symm,⟨_,rfl,h0⟩,rfl⟩) (by simp)⟩
theorem Qhx {P:Program} {N B:Nat} {w0:World} {Q:Exit→Act→World→Prop} {L:List (Nat×Value)} {is:List It} {ops:Array Oper} {l:List Oper} {z:List Value} {x:Qaa} (h:∀ g:Value,z=[g, .int .i64 x.f]→WM P N B w0 ops Q l L (Qh (tSl (tSl Qy 163) 100) [g] x.c::is)):WM P N B w0 ops Q l L (Qh Qcw z x::is):=Qjd (γ:=Value) (js:=fun g=>[Qh (tSl (tSl Qy 163) 100) [g] x.c]) (C:=fun g=>z=[g, .int .i64 x.f]) (fun _ _ h=>Qajd h) h
theorem Qfk {w:World} {L:List Nat} {x:Qaa} {v0:Value} (h:Sep [Qh (tSl (tSl Qy 163) 100) [v0] x.c] w L):Qcw.own w L [v0, .int .i64 x.f] x:=by
 obtain⟨L0,K0,rfl,h0,s0⟩:=Sep.cons h;cases (Sep.nil s0)
 exact Qks (T:=Qcw) (cs:=[v0, .int .i64 x.f]) (x:=x) ⟨_,_,_,_,rfl,rfl,h0,Qbu⟩ (by simp)
theorem Qaja {w:World} {L:List Nat} {x:Qgd} (h:Sep [] w L):Qbl.own w L [.int .i64 x.Field, .int .i64 x.G, .int .i64 x.H] x:=by
 cases (Sep.nil h)
 exact Qks (T:=Qbl) (cs:=[.int .i64 x.Field, .int .i64 x.G, .int .i64 x.H]) (x:=x) ⟨_,_,_,_,rfl,rfl,Qbu,⟨_,_,_,_,rfl,rfl,Qbu,Qbu⟩⟩ (by simp)
theorem Qbar {w:World} {L:List Nat} {cs:List Value} {x:Qba} (h:Qcx.own w L cs x):∃ g:Value×Value,cs=[.int .i64 x.Id, .int .i64 x.u,g.1,g.2]∧Sep [Qh (tSl Qbl 180) [g.1] x.o,Qh (tSl Qa 3) [g.2] x.t] w L:=by
 obtain⟨_,_,_,_,rfl,rfl,⟨rfl,_,rfl,rfl⟩,⟨_,_,_,_,rfl,rfl,⟨rfl,_,rfl,rfl⟩,⟨_,_,_,_,rfl,rfl,⟨v0,rfl,h0⟩,⟨v1,rfl,h1⟩⟩⟩⟩:=h;exact⟨(v0,v1),rfl,Sep.cast (⟨_,_,rfl,⟨_,rfl,h0⟩,⟨_,[],(List.append_nil _).symm,⟨_,rfl,h1⟩,rfl⟩⟩) (by simp)⟩
theorem Qko {P:Program} {N B:Nat} {w0:World} {Q:Exit→Act→World→Prop} {L:List (Nat×Value)} {is:List It} {ops:Array Oper} {l:List Oper} {z:List Value} {x:Qba} (h:∀ g:Value×Value,z=[.int .i64 x.Id, .int .i64 x.u,g.1,g.2]→WM P N B w0 ops Q l L (Qh (tSl Qbl 180) [g.1] x.o::Qh (tSl Qa 3) [g.2] x.t::is)):WM P N B w0 ops Q l L (Qh Qcx z x::is):=Qjd (γ:=Value×Value) (js:=fun g=>[Qh (tSl Qbl 180) [g.1] x.o,Qh (tSl Qa 3) [g.2] x.t]) (C:=fun g=>z=[.int .i64 x.Id, .int .i64 x.u,g.1,g.2]) (fun _ _ h=>Qbar h) h
theorem Qwn {w:World} {L:List Nat} {x:Qba} {v0 v1:Value} (h:Sep [Qh (tSl Qbl 180) [v0] x.o,Qh (tSl Qa 3) [v1] x.t] w L):Qcx.own w L [.int .i64 x.Id, .int .i64 x.u,v0,v1] x:=by
 obtain⟨L0,K0,rfl,h0,s0⟩:=Sep.cons h;obtain⟨L1,K1,rfl,h1,s1⟩:=Sep.cons s0;cases (Sep.nil s1)
 exact Qks (T:=Qcx) (cs:=[.int .i64 x.Id, .int .i64 x.u,v0,v1]) (x:=x) ⟨_,_,_,_,rfl,rfl,Qbu,⟨_,_,_,_,rfl,rfl,Qbu,⟨_,_,_,_,rfl,rfl,h0,h1⟩⟩⟩ (by simp)
theorem Qbas {w:World} {L:List Nat} {cs:List Value} {x:Qah} (h:Qas.own w L cs x):∃ g:Value,cs=[.int .i64 x.Id,g]∧Sep [Qh (tSl Qa 3) [g] x.m] w L:=by
 obtain⟨_,_,_,_,rfl,rfl,⟨rfl,_,rfl,rfl⟩,⟨v0,rfl,h0⟩⟩:=h;exact⟨v0,rfl,Sep.cast (⟨_,[],(List.append_nil _).symm,⟨_,rfl,h0⟩,rfl⟩) (by simp)⟩
theorem Qlo {P:Program} {N B:Nat} {w0:World} {Q:Exit→Act→World→Prop} {L:List (Nat×Value)} {is:List It} {ops:Array Oper} {l:List Oper} {z:List Value} {x:Qah} (h:∀ g:Value,z=[.int .i64 x.Id,g]→WM P N B w0 ops Q l L (Qh (tSl Qa 3) [g] x.m::is)):WM P N B w0 ops Q l L (Qh Qas z x::is):=Qjd (γ:=Value) (js:=fun g=>[Qh (tSl Qa 3) [g] x.m]) (C:=fun g=>z=[.int .i64 x.Id,g]) (fun _ _ h=>Qbas h) h
theorem Qkz {w:World} {L:List Nat} {x:Qah} {v0:Value} (h:Sep [Qh (tSl Qa 3) [v0] x.m] w L):Qas.own w L [.int .i64 x.Id,v0] x:=by
 obtain⟨L0,K0,rfl,h0,s0⟩:=Sep.cons h;cases (Sep.nil s0)
 exact Qks (T:=Qas) (cs:=[.int .i64 x.Id,v0]) (x:=x) ⟨_,_,_,_,rfl,rfl,Qbu,h0⟩ (by simp)
theorem Qqr {w:World} {L:List Nat} {cs:List Value} {x:Qp} (h:Qz.own w L cs x):∃ g:Value×Value×Value×Value,cs=[.int .i64 x.e.Id, .int .i64 x.e.u,g.1,g.2.1, .int .i64 x.r,g.2.2.1, .int .i64 x.v, .int .i64 x.A, .int .i64 x.z,g.2.2.2]∧Sep [Qh (tSl Qbl 180) [g.1] x.e.o,Qh (tSl Qa 3) [g.2.1] x.e.t,Qh (tSl Qa 3) [g.2.2.1] x.q,Qh (tSl Qas 70) [g.2.2.2] x.p] w L:=by
 obtain⟨_,_,_,_,rfl,rfl,⟨_,_,_,_,rfl,rfl,⟨rfl,_,rfl,rfl⟩,⟨_,_,_,_,rfl,rfl,⟨rfl,_,rfl,rfl⟩,⟨_,_,_,_,rfl,rfl,⟨v0,rfl,h0⟩,⟨v1,rfl,h1⟩⟩⟩⟩,⟨_,_,_,_,rfl,rfl,⟨rfl,_,rfl,rfl⟩,⟨_,_,_,_,rfl,rfl,⟨v2,rfl,h2⟩,⟨_,_,_,_,rfl,rfl,⟨rfl,_,rfl,rfl⟩,⟨_,_,_,_,rfl,rfl,⟨rfl,_,rfl,rfl⟩,⟨_,_,_,_,rfl,rfl,⟨rfl,_,rfl,rfl⟩,⟨v3,rfl,h3⟩⟩⟩⟩⟩⟩⟩:=h;exact⟨(v0,v1,v2,v3),rfl,Sep.cast (⟨_,_,rfl,⟨_,rfl,h0⟩,⟨_,_,rfl,⟨_,rfl,h1⟩,⟨_,_,rfl,⟨_,rfl,h2⟩,⟨_,[],(List.append_nil _).symm,⟨_,rfl,h3⟩,rfl⟩⟩⟩⟩) (by simp)⟩
theorem Qqq {P:Program} {N B:Nat} {w0:World} {Q:Exit→Act→World→Prop} {L:List (Nat×Value)} {is:List It} {ops:Array Oper} {l:List Oper} {z:List Value} {x:Qp} (h:∀ g:Value×Value×Value×Value,z=[.int .i64 x.e.Id, .int .i64 x.e.u,g.1,g.2.1, .int .i64 x.r,g.2.2.1, .int .i64 x.v, .int .i64 x.A, .int .i64 x.z,g.2.2.2]→WM P N B w0 ops Q l L (Qh (tSl Qbl 180) [g.1] x.e.o::Qh (tSl Qa 3) [g.2.1] x.e.t::Qh (tSl Qa 3) [g.2.2.1] x.q::Qh (tSl Qas 70) [g.2.2.2] x.p::is)):WM P N B w0 ops Q l L (Qh Qz z x::is):=Qjd (γ:=Value×Value×Value×Value) (js:=fun g=>[Qh (tSl Qbl 180) [g.1] x.e.o,Qh (tSl Qa 3) [g.2.1] x.e.t,Qh (tSl Qa 3) [g.2.2.1] x.q,Qh (tSl Qas 70) [g.2.2.2] x.p]) (C:=fun g=>z=[.int .i64 x.e.Id, .int .i64 x.e.u,g.1,g.2.1, .int .i64 x.r,g.2.2.1, .int .i64 x.v, .int .i64 x.A, .int .i64 x.z,g.2.2.2]) (fun _ _ h=>Qqr h) h
theorem Qfr {w:World} {L:List Nat} {x:Qp} {v0 v1 v2 v3:Value} (h:Sep [Qh (tSl Qbl 180) [v0] x.e.o,Qh (tSl Qa 3) [v1] x.e.t,Qh (tSl Qa 3) [v2] x.q,Qh (tSl Qas 70) [v3] x.p] w L):Qz.own w L [.int .i64 x.e.Id, .int .i64 x.e.u,v0,v1, .int .i64 x.r,v2, .int .i64 x.v, .int .i64 x.A, .int .i64 x.z,v3] x:=by
 obtain⟨L0,K0,rfl,h0,s0⟩:=Sep.cons h;obtain⟨L1,K1,rfl,h1,s1⟩:=Sep.cons s0;obtain⟨L2,K2,rfl,h2,s2⟩:=Sep.cons s1;obtain⟨L3,K3,rfl,h3,s3⟩:=Sep.cons s2;cases (Sep.nil s3)
 exact Qks (T:=Qz) (cs:=[.int .i64 x.e.Id, .int .i64 x.e.u,v0,v1, .int .i64 x.r,v2, .int .i64 x.v, .int .i64 x.A, .int .i64 x.z,v3]) (x:=x) ⟨_,_,_,_,rfl,rfl,⟨_,_,_,_,rfl,rfl,Qbu,⟨_,_,_,_,rfl,rfl,Qbu,⟨_,_,_,_,rfl,rfl,h0,h1⟩⟩⟩,⟨_,_,_,_,rfl,rfl,Qbu,⟨_,_,_,_,rfl,rfl,h2,⟨_,_,_,_,rfl,rfl,Qbu,⟨_,_,_,_,rfl,rfl,Qbu,⟨_,_,_,_,rfl,rfl,Qbu,h3⟩⟩⟩⟩⟩⟩ (by simp)
theorem Qbam {w:World} {L:List Nat} {cs:List Value} {x:Qco} (h:Qaz.own w L cs x):∃ g:Value×Value×Value,cs=[.int .i64 x.e.Id, .int .i64 x.e.u,g.1,g.2.1, .int .i64 x.r, .int .i64 x.n,g.2.2]∧Sep [Qh (tSl Qbl 180) [g.1] x.e.o,Qh (tSl Qa 3) [g.2.1] x.e.t,Qh (tSl Qas 70) [g.2.2] x.p] w L:=by
 obtain⟨_,_,_,_,rfl,rfl,⟨_,_,_,_,rfl,rfl,⟨rfl,_,rfl,rfl⟩,⟨_,_,_,_,rfl,rfl,⟨rfl,_,rfl,rfl⟩,⟨_,_,_,_,rfl,rfl,⟨v0,rfl,h0⟩,⟨v1,rfl,h1⟩⟩⟩⟩,⟨_,_,_,_,rfl,rfl,⟨rfl,_,rfl,rfl⟩,⟨_,_,_,_,rfl,rfl,⟨rfl,_,rfl,rfl⟩,⟨v2,rfl,h2⟩⟩⟩⟩:=h;exact⟨(v0,v1,v2),rfl,Sep.cast (⟨_,_,rfl,⟨_,rfl,h0⟩,⟨_,_,rfl,⟨_,rfl,h1⟩,⟨_,[],(List.append_nil _).symm,⟨_,rfl,h2⟩,rfl⟩⟩⟩) (by simp)⟩
theorem Qbal {P:Program} {N B:Nat} {w0:World} {Q:Exit→Act→World→Prop} {L:List (Nat×Value)} {is:List It} {ops:Array Oper} {l:List Oper} {z:List Value} {x:Qco} (h:∀ g:Value×Value×Value,z=[.int .i64 x.e.Id, .int .i64 x.e.u,g.1,g.2.1, .int .i64 x.r, .int .i64 x.n,g.2.2]→WM P N B w0 ops Q l L (Qh (tSl Qbl 180) [g.1] x.e.o::Qh (tSl Qa 3) [g.2.1] x.e.t::Qh (tSl Qas 70) [g.2.2] x.p::is)):WM P N B w0 ops Q l L (Qh Qaz z x::is):=Qjd (γ:=Value×Value×Value) (js:=fun g=>[Qh (tSl Qbl 180) [g.1] x.e.o,Qh (tSl Qa 3) [g.2.1] x.e.t,Qh (tSl Qas 70) [g.2.2] x.p]) (C:=fun g=>z=[.int .i64 x.e.Id, .int .i64 x.e.u,g.1,g.2.1, .int .i64 x.r, .int .i64 x.n,g.2.2]) (fun _ _ h=>Qbam h) h
theorem Qok {w:World} {L:List Nat} {x:Qco} {v0 v1 v2:Value} (h:Sep [Qh (tSl Qbl 180) [v0] x.e.o,Qh (tSl Qa 3) [v1] x.e.t,Qh (tSl Qas 70) [v2] x.p] w L):Qaz.own w L [.int .i64 x.e.Id, .int .i64 x.e.u,v0,v1, .int .i64 x.r, .int .i64 x.n,v2] x:=by
 obtain⟨L0,K0,rfl,h0,s0⟩:=Sep.cons h;obtain⟨L1,K1,rfl,h1,s1⟩:=Sep.cons s0;obtain⟨L2,K2,rfl,h2,s2⟩:=Sep.cons s1;cases (Sep.nil s2)
 exact Qks (T:=Qaz) (cs:=[.int .i64 x.e.Id, .int .i64 x.e.u,v0,v1, .int .i64 x.r, .int .i64 x.n,v2]) (x:=x) ⟨_,_,_,_,rfl,rfl,⟨_,_,_,_,rfl,rfl,Qbu,⟨_,_,_,_,rfl,rfl,Qbu,⟨_,_,_,_,rfl,rfl,h0,h1⟩⟩⟩,⟨_,_,_,_,rfl,rfl,Qbu,⟨_,_,_,_,rfl,rfl,Qbu,h2⟩⟩⟩ (by simp)
theorem Qbai {w:World} {L:List Nat} {cs:List Value} {x:Qdi} (h:Qaw.own w L cs x):∃ g:Value×Value×Value,cs=[.int .i64 x.D, .int .i64 x.C,g.1,g.2.1,g.2.2]∧Sep [Qh (tSl Qa 3) [g.1] x.w,Qh (tSl Qa 3) [g.2.1] x.B,Qh (tSl Qa 3) [g.2.2] x.p] w L:=by
 obtain⟨_,_,_,_,rfl,rfl,⟨rfl,_,rfl,rfl⟩,⟨_,_,_,_,rfl,rfl,⟨rfl,_,rfl,rfl⟩,⟨_,_,_,_,rfl,rfl,⟨v0,rfl,h0⟩,⟨_,_,_,_,rfl,rfl,⟨v1,rfl,h1⟩,⟨v2,rfl,h2⟩⟩⟩⟩⟩:=h;exact⟨(v0,v1,v2),rfl,Sep.cast (⟨_,_,rfl,⟨_,rfl,h0⟩,⟨_,_,rfl,⟨_,rfl,h1⟩,⟨_,[],(List.append_nil _).symm,⟨_,rfl,h2⟩,rfl⟩⟩⟩) (by simp)⟩
theorem Qaiz {P:Program} {N B:Nat} {w0:World} {Q:Exit→Act→World→Prop} {L:List (Nat×Value)} {is:List It} {ops:Array Oper} {l:List Oper} {z:List Value} {x:Qdi} (h:∀ g:Value×Value×Value,z=[.int .i64 x.D, .int .i64 x.C,g.1,g.2.1,g.2.2]→WM P N B w0 ops Q l L (Qh (tSl Qa 3) [g.1] x.w::Qh (tSl Qa 3) [g.2.1] x.B::Qh (tSl Qa 3) [g.2.2] x.p::is)):WM P N B w0 ops Q l L (Qh Qaw z x::is):=Qjd (γ:=Value×Value×Value) (js:=fun g=>[Qh (tSl Qa 3) [g.1] x.w,Qh (tSl Qa 3) [g.2.1] x.B,Qh (tSl Qa 3) [g.2.2] x.p]) (C:=fun g=>z=[.int .i64 x.D, .int .i64 x.C,g.1,g.2.1,g.2.2]) (fun _ _ h=>Qbai h) h
theorem Qqs {w:World} {L:List Nat} {x:Qdi} {v0 v1 v2:Value} (h:Sep [Qh (tSl Qa 3) [v0] x.w,Qh (tSl Qa 3) [v1] x.B,Qh (tSl Qa 3) [v2] x.p] w L):Qaw.own w L [.int .i64 x.D, .int .i64 x.C,v0,v1,v2] x:=by
 obtain⟨L0,K0,rfl,h0,s0⟩:=Sep.cons h;obtain⟨L1,K1,rfl,h1,s1⟩:=Sep.cons s0;obtain⟨L2,K2,rfl,h2,s2⟩:=Sep.cons s1;cases (Sep.nil s2)
 exact Qks (T:=Qaw) (cs:=[.int .i64 x.D, .int .i64 x.C,v0,v1,v2]) (x:=x) ⟨_,_,_,_,rfl,rfl,Qbu,⟨_,_,_,_,rfl,rfl,Qbu,⟨_,_,_,_,rfl,rfl,h0,⟨_,_,_,_,rfl,rfl,h1,h2⟩⟩⟩⟩ (by simp)
theorem Qth {w:World} {L:List Nat} {cs:List Value} {x:Qk} (h:Qbz.own w L cs x):∃ g:Value×Value×Value×Value×Value,cs=[g.1, .int .i64 x.d.f, .int .i64 x.g,g.2.1,g.2.2.1,g.2.2.2.1,g.2.2.2.2, .int .i64 x.n]∧Sep [Qh (tSl (tSl Qy 163) 100) [g.1] x.d.c,Qh (tSl Qa 3) [g.2.1] x.l,Qh (tSl Qz 61) [g.2.2.1] x.a,Qh (tSl Qaz 80) [g.2.2.2.1] x.j,Qh (tSl Qaw 102) [g.2.2.2.2] x.k] w L:=by
 obtain⟨_,_,_,_,rfl,rfl,⟨_,_,_,_,rfl,rfl,⟨v0,rfl,h0⟩,⟨rfl,_,rfl,rfl⟩⟩,⟨_,_,_,_,rfl,rfl,⟨rfl,_,rfl,rfl⟩,⟨_,_,_,_,rfl,rfl,⟨v1,rfl,h1⟩,⟨_,_,_,_,rfl,rfl,⟨v2,rfl,h2⟩,⟨_,_,_,_,rfl,rfl,⟨v3,rfl,h3⟩,⟨_,_,_,_,rfl,rfl,⟨v4,rfl,h4⟩,⟨rfl,_,rfl,rfl⟩⟩⟩⟩⟩⟩⟩:=h;exact⟨(v0,v1,v2,v3,v4),rfl,Sep.cast (⟨_,_,rfl,⟨_,rfl,h0⟩,⟨_,_,rfl,⟨_,rfl,h1⟩,⟨_,_,rfl,⟨_,rfl,h2⟩,⟨_,_,rfl,⟨_,rfl,h3⟩,⟨_,[],(List.append_nil _).symm,⟨_,rfl,h4⟩,rfl⟩⟩⟩⟩⟩) (by simp)⟩
theorem Qhn {P:Program} {N B:Nat} {w0:World} {Q:Exit→Act→World→Prop} {L:List (Nat×Value)} {is:List It} {ops:Array Oper} {l:List Oper} {z:List Value} {x:Qk} (h:∀ g:Value×Value×Value×Value×Value,z=[g.1, .int .i64 x.d.f, .int .i64 x.g,g.2.1,g.2.2.1,g.2.2.2.1,g.2.2.2.2, .int .i64 x.n]→WM P N B w0 ops Q l L (Qh (tSl (tSl Qy 163) 100) [g.1] x.d.c::Qh (tSl Qa 3) [g.2.1] x.l::Qh (tSl Qz 61) [g.2.2.1] x.a::Qh (tSl Qaz 80) [g.2.2.2.1] x.j::Qh (tSl Qaw 102) [g.2.2.2.2] x.k::is)):WM P N B w0 ops Q l L (Qh Qbz z x::is):=Qjd (γ:=Value×Value×Value×Value×Value) (js:=fun g=>[Qh (tSl (tSl Qy 163) 100) [g.1] x.d.c,Qh (tSl Qa 3) [g.2.1] x.l,Qh (tSl Qz 61) [g.2.2.1] x.a,Qh (tSl Qaz 80) [g.2.2.2.1] x.j,Qh (tSl Qaw 102) [g.2.2.2.2] x.k]) (C:=fun g=>z=[g.1, .int .i64 x.d.f, .int .i64 x.g,g.2.1,g.2.2.1,g.2.2.2.1,g.2.2.2.2, .int .i64 x.n]) (fun _ _ h=>Qth h) h
theorem Qej {w:World} {L:List Nat} {x:Qk} {v0 v1 v2 v3 v4:Value} (h:Sep [Qh (tSl (tSl Qy 163) 100) [v0] x.d.c,Qh (tSl Qa 3) [v1] x.l,Qh (tSl Qz 61) [v2] x.a,Qh (tSl Qaz 80) [v3] x.j,Qh (tSl Qaw 102) [v4] x.k] w L):Qbz.own w L [v0, .int .i64 x.d.f, .int .i64 x.g,v1,v2,v3,v4, .int .i64 x.n] x:=by
 obtain⟨L0,K0,rfl,h0,s0⟩:=Sep.cons h;obtain⟨L1,K1,rfl,h1,s1⟩:=Sep.cons s0;obtain⟨L2,K2,rfl,h2,s2⟩:=Sep.cons s1;obtain⟨L3,K3,rfl,h3,s3⟩:=Sep.cons s2;obtain⟨L4,K4,rfl,h4,s4⟩:=Sep.cons s3;cases (Sep.nil s4)
 exact Qks (T:=Qbz) (cs:=[v0, .int .i64 x.d.f, .int .i64 x.g,v1,v2,v3,v4, .int .i64 x.n]) (x:=x) ⟨_,_,_,_,rfl,rfl,⟨_,_,_,_,rfl,rfl,h0,Qbu⟩,⟨_,_,_,_,rfl,rfl,Qbu,⟨_,_,_,_,rfl,rfl,h1,⟨_,_,_,_,rfl,rfl,h2,⟨_,_,_,_,rfl,rfl,h3,⟨_,_,_,_,rfl,rfl,h4,Qbu⟩⟩⟩⟩⟩⟩ (by simp)
def Qpu (B:Nat) (x:Qda):Prop:=Qjp B x.Row
theorem Qbaw {w:World} {L:List Nat} {cs:List Value} {x:Qda} (h:Qhy.own w L cs x):∃ g:Value,cs=[.int .i64 x.Kind, .int .i64 x.Row.Id,g, .int .i64 x.Field, .int .i64 x.Value]∧Sep [Qh (tSl Qa 3) [g] x.Row.m] w L:=by
 obtain⟨_,_,_,_,rfl,rfl,⟨rfl,_,rfl,rfl⟩,⟨_,_,_,_,rfl,rfl,⟨_,_,_,_,rfl,rfl,⟨rfl,_,rfl,rfl⟩,⟨v0,rfl,h0⟩⟩,⟨_,_,_,_,rfl,rfl,⟨rfl,_,rfl,rfl⟩,⟨rfl,_,rfl,rfl⟩⟩⟩⟩:=h;exact⟨v0,rfl,Sep.cast (⟨_,[],(List.append_nil _).symm,⟨_,rfl,h0⟩,rfl⟩) (by simp)⟩
theorem Qabn {P:Program} {N B:Nat} {w0:World} {Q:Exit→Act→World→Prop} {L:List (Nat×Value)} {is:List It} {ops:Array Oper} {l:List Oper} {z:List Value} {x:Qda} (h:∀ g:Value,z=[.int .i64 x.Kind, .int .i64 x.Row.Id,g, .int .i64 x.Field, .int .i64 x.Value]→WM P N B w0 ops Q l L (Qh (tSl Qa 3) [g] x.Row.m::is)):WM P N B w0 ops Q l L (Qh Qhy z x::is):=Qjd (γ:=Value) (js:=fun g=>[Qh (tSl Qa 3) [g] x.Row.m]) (C:=fun g=>z=[.int .i64 x.Kind, .int .i64 x.Row.Id,g, .int .i64 x.Field, .int .i64 x.Value]) (fun _ _ h=>Qbaw h) h
theorem Qmr {w:World} {L:List Nat} {x:Qda} {v0:Value} (h:Sep [Qh (tSl Qa 3) [v0] x.Row.m] w L):Qhy.own w L [.int .i64 x.Kind, .int .i64 x.Row.Id,v0, .int .i64 x.Field, .int .i64 x.Value] x:=by
 obtain⟨L0,K0,rfl,h0,s0⟩:=Sep.cons h;cases (Sep.nil s0)
 exact Qks (T:=Qhy) (cs:=[.int .i64 x.Kind, .int .i64 x.Row.Id,v0, .int .i64 x.Field, .int .i64 x.Value]) (x:=x) ⟨_,_,_,_,rfl,rfl,Qbu,⟨_,_,_,_,rfl,rfl,⟨_,_,_,_,rfl,rfl,Qbu,h0⟩,⟨_,_,_,_,rfl,rfl,Qbu,Qbu⟩⟩⟩ (by simp)
def Qvl (B:Nat) (x:Qdk):Prop:=x.E.length≤B
theorem Qbav {w:World} {L:List Nat} {cs:List Value} {x:Qdk} (h:Qgh.own w L cs x):∃ g:Value,cs=[.int .i64 x.I, .int .i64 x.To,g]∧Sep [Qh (tSl Qa 3) [g] x.E] w L:=by
 obtain⟨_,_,_,_,rfl,rfl,⟨rfl,_,rfl,rfl⟩,⟨_,_,_,_,rfl,rfl,⟨rfl,_,rfl,rfl⟩,⟨v0,rfl,h0⟩⟩⟩:=h;exact⟨v0,rfl,Sep.cast (⟨_,[],(List.append_nil _).symm,⟨_,rfl,h0⟩,rfl⟩) (by simp)⟩
theorem Qbau {P:Program} {N B:Nat} {w0:World} {Q:Exit→Act→World→Prop} {L:List (Nat×Value)} {is:List It} {ops:Array Oper} {l:List Oper} {z:List Value} {x:Qdk} (h:∀ g:Value,z=[.int .i64 x.I, .int .i64 x.To,g]→WM P N B w0 ops Q l L (Qh (tSl Qa 3) [g] x.E::is)):WM P N B w0 ops Q l L (Qh Qgh z x::is):=Qjd (γ:=Value) (js:=fun g=>[Qh (tSl Qa 3) [g] x.E]) (C:=fun g=>z=[.int .i64 x.I, .int .i64 x.To,g]) (fun _ _ h=>Qbav h) h
theorem Qwo {w:World} {L:List Nat} {x:Qdk} {v0:Value} (h:Sep [Qh (tSl Qa 3) [v0] x.E] w L):Qgh.own w L [.int .i64 x.I, .int .i64 x.To,v0] x:=by
 obtain⟨L0,K0,rfl,h0,s0⟩:=Sep.cons h;cases (Sep.nil s0)
 exact Qks (T:=Qgh) (cs:=[.int .i64 x.I, .int .i64 x.To,v0]) (x:=x) ⟨_,_,_,_,rfl,rfl,Qbu,⟨_,_,_,_,rfl,rfl,Qbu,h0⟩⟩ (by simp)
def Qvj (B:Nat) (x:Qig):Prop:=(x.J.length≤B∧∀ y∈x.J,Qil B y)∧(x.F.length≤B∧∀ y∈x.F,(y.length≤B∧∀ y1∈y,Qvl B y1))
theorem Qbaq {w:World} {L:List Nat} {cs:List Value} {x:Qig} (h:Qmq.own w L cs x):∃ g:Value×Value,cs=[g.1,g.2]∧Sep [Qh (tSl Qcx 58) [g.1] x.J,Qh (tSl (tSl Qgh 238) 225) [g.2] x.F] w L:=by
 obtain⟨_,_,_,_,rfl,rfl,⟨v0,rfl,h0⟩,⟨v1,rfl,h1⟩⟩:=h;exact⟨(v0,v1),rfl,Sep.cast (⟨_,_,rfl,⟨_,rfl,h0⟩,⟨_,[],(List.append_nil _).symm,⟨_,rfl,h1⟩,rfl⟩⟩) (by simp)⟩
theorem Qbap {P:Program} {N B:Nat} {w0:World} {Q:Exit→Act→World→Prop} {L:List (Nat×Value)} {is:List It} {ops:Array Oper} {l:List Oper} {z:List Value} {x:Qig} (h:∀ g:Value×Value,z=[g.1,g.2]→WM P N B w0 ops Q l L (Qh (tSl Qcx 58) [g.1] x.J::Qh (tSl (tSl Qgh 238) 225) [g.2] x.F::is)):WM P N B w0 ops Q l L (Qh Qmq z x::is):=Qjd (γ:=Value×Value) (js:=fun g=>[Qh (tSl Qcx 58) [g.1] x.J,Qh (tSl (tSl Qgh 238) 225) [g.2] x.F]) (C:=fun g=>z=[g.1,g.2]) (fun _ _ h=>Qbaq h) h
theorem Qajc {w:World} {L:List Nat} {x:Qig} {v0 v1:Value} (h:Sep [Qh (tSl Qcx 58) [v0] x.J,Qh (tSl (tSl Qgh 238) 225) [v1] x.F] w L):Qmq.own w L [v0,v1] x:=by
 obtain⟨L0,K0,rfl,h0,s0⟩:=Sep.cons h;obtain⟨L1,K1,rfl,h1,s1⟩:=Sep.cons s0;cases (Sep.nil s1)
 exact Qks (T:=Qmq) (cs:=[v0,v1]) (x:=x) ⟨_,_,_,_,rfl,rfl,h0,h1⟩ (by simp)
abbrev Qg:=@Tryz.type3
abbrev Qo:=@Tryz.underlying25
abbrev Qt:=@Tryz.underlying39
abbrev Qu:=@Tryz.underlying3
abbrev Qal:=@Tryz.type39
abbrev Qaq:=@Tryz.underlying35
abbrev Qat:=@Tryz.type34
abbrev Qau:=@Tryz.underlying34
abbrev Qbb:=@Tryz.underlying61
abbrev Qbf:=@Tryz.type25
abbrev Qbg:=@Tryz.type61
abbrev Qbj:=@Tryz.underlying32
abbrev Qbk:=@Tryz.type163
abbrev Qbp:=@Tryz.underlying100
abbrev Qbt:=@Tryz.underlying163
abbrev Qby:=@Tryz.underlying58
abbrev Qca:=@Tryz.type58
abbrev Qcd:=@Tryz.type35
abbrev Qcn:=@Tryz.type70
abbrev Qcr:=@Tryz.underlying59
abbrev Qdg:=@Tryz.underlying102
abbrev Qdh:=@Tryz.type32
abbrev Qdq:=@Tryz.underlying56
abbrev Qdr:=@Tryz.underlying70
abbrev Qdy:=@Tryz.underlying36
abbrev Qdz:=@Tryz.underlying72
abbrev Qee:=@Tryz.underlying37
abbrev Qek:=@Tryz.type100
abbrev Qep:=@Tryz.type80
abbrev Qet:=@Tryz.type102
abbrev Qey:=@Tryz.type59
abbrev Qfz:=@Tryz.underlying80
abbrev Qgc:=@Tryz.type36
abbrev Qgi:=@Tryz.type180
abbrev Qgn:=@Tryz.type37
abbrev Qgs:=@Tryz.type56
abbrev Qhd:=@Tryz.underlying180
abbrev Qiw:=@Tryz.underlying201
abbrev Qkp:=@Tryz.underlying225
abbrev Qms:=@Tryz.underlying177
abbrev Qom:=@Tryz.underlying204
abbrev Qon:=@Tryz.underlying49
abbrev Qqv:=@Tryz.underlying202
end Go.Proofs.YtdlminfjdodjoaaGreat
