/-
  The data of the program as structures,and how they lie in memory.
-/
import Derived.Test.YtdlminfjdodjoaaGreatVcS
import Derived.Test.YtdlminfjdodjoaaGreatVcP
import Derived.Test.YtdlminfjdodjoaaGreatVcX
import Derived.Test.YtdlminfjdodjoaaGreatVcY
import Derived.Test.YtdlminfjdodjoaaGreatVcQ
import Derived.Test.YtdlminfjdodjoaaGreatVcR
namespace Go.Proofs.YtdlminfjdodjoaaGreat
set_option linter.unusedVariables false
set_option linter.unusedSimpArgs false
open Go.RowKit
structure Qz where
 Id:Int
 m:(List Int)
 x:Int
 y:Int
instance:Inhabited Qz:=⟨⟨default,default,default,default⟩⟩
structure ah where
 c:(List (List Qz))
 g:Int
instance:Inhabited ah:=⟨⟨default,default⟩⟩
structure jj where
 Field:Int
 G:Int
 H:Int
instance:Inhabited jj:=⟨⟨default,default,default⟩⟩
structure bf where
 Id:Int
 u:Int
 o:(List jj)
 q:(List Int)
instance:Inhabited bf:=⟨⟨default,default,default,default⟩⟩
structure ax where
 Id:Int
 m:(List Int)
instance:Inhabited ax:=⟨⟨default,default⟩⟩
structure Qn where
 e:bf
 r:Int
 t:(List Int)
 v:Int
 A:Int
 z:Int
 p:(List ax)
instance:Inhabited Qn:=⟨⟨default,default,default,default,default,default,default⟩⟩
structure df where
 e:bf
 r:Int
 n:Int
 p:(List ax)
instance:Inhabited df:=⟨⟨default,default,default,default⟩⟩
structure fy where
 D:Int
 C:Int
 w:(List Int)
 B:(List Int)
 p:(List Int)
instance:Inhabited fy:=⟨⟨default,default,default,default,default⟩⟩
structure Qj where
 d:ah
 j:Int
 l:(List Int)
 a:(List Qn)
 f:(List df)
 k:(List fy)
 n:Int
instance:Inhabited Qj:=⟨⟨default,default,default,default,default,default,default⟩⟩
def Qy:Ty Qz:=rg (jy Qb (jy (ab Qb 3) (jy Qb Qb))) (fun x=>(x.Id,x.m,x.x,x.y))
theorem ni {w:World} {B:Nat} {cs:List Value} {x:Qz} (h:Qy.rd w B cs x):∃ a,cs=[.int .i64 x.Id,a, .int .i64 x.x, .int .i64 x.y]∧ce Qb w B a x.m:=by
 obtain⟨_,_,rfl,⟨_,rfl,rfl⟩,⟨_,_,rfl,⟨a,rfl,b⟩,⟨_,_,rfl,⟨_,rfl,rfl⟩,⟨_,rfl,rfl⟩⟩⟩⟩:=h;exact⟨a,rfl,b⟩
theorem nm {w:World} {B:Nat} {x:Qz} {a:Value} (b:ce Qb w B a x.m):Qy.rd w B [.int .i64 x.Id,a, .int .i64 x.x, .int .i64 x.y] x:=⟨_,_,rfl,⟨_,rfl,rfl⟩,⟨_,_,rfl,⟨_,rfl,b⟩,⟨_,_,rfl,⟨_,rfl,rfl⟩,⟨_,rfl,rfl⟩⟩⟩⟩
def ez:Ty ah:=rg (jy (ab (ab Qy 163) 100) Qb) (fun x=>(x.c,x.g))
theorem pe {w:World} {B:Nat} {cs:List Value} {x:ah} (h:ez.rd w B cs x):∃ a,cs=[a, .int .i64 x.g]∧ce (ab Qy 163) w B a x.c:=by
 obtain⟨_,_,rfl,⟨a,rfl,b⟩,⟨_,rfl,rfl⟩⟩:=h;exact⟨a,rfl,b⟩
theorem km {w:World} {B:Nat} {x:ah} {a:Value} (b:ce (ab Qy 163) w B a x.c):ez.rd w B [a, .int .i64 x.g] x:=⟨_,_,rfl,⟨_,rfl,b⟩,⟨_,rfl,rfl⟩⟩
def cg:Ty jj:=rg (jy Qb (jy Qb Qb)) (fun x=>(x.Field,x.G,x.H))
theorem tt {w:World} {B:Nat} {cs:List Value} {x:jj} (h:cg.rd w B cs x):cs=[.int .i64 x.Field, .int .i64 x.G, .int .i64 x.H]:=by
 obtain⟨_,_,rfl,⟨_,rfl,rfl⟩,⟨_,_,rfl,⟨_,rfl,rfl⟩,⟨_,rfl,rfl⟩⟩⟩:=h;exact rfl
theorem lK {w:World} {B:Nat} {x:jj}:cg.rd w B [.int .i64 x.Field, .int .i64 x.G, .int .i64 x.H] x:=⟨_,_,rfl,⟨_,rfl,rfl⟩,⟨_,_,rfl,⟨_,rfl,rfl⟩,⟨_,rfl,rfl⟩⟩⟩
def eb:Ty bf:=rg (jy Qb (jy Qb (jy (ab cg 180) (ab Qb 3)))) (fun x=>(x.Id,x.u,x.o,x.q))
theorem oz {w:World} {B:Nat} {cs:List Value} {x:bf} (h:eb.rd w B cs x):∃ a b,cs=[.int .i64 x.Id, .int .i64 x.u,a,b]∧ce cg w B a x.o∧ce Qb w B b x.q:=by
 obtain⟨_,_,rfl,⟨_,rfl,rfl⟩,⟨_,_,rfl,⟨_,rfl,rfl⟩,⟨_,_,rfl,⟨a,rfl,c⟩,⟨b,rfl,d⟩⟩⟩⟩:=h;exact⟨a,b,rfl,c,d⟩
theorem lb {w:World} {B:Nat} {x:bf} {a b:Value} (c:ce cg w B a x.o) (d:ce Qb w B b x.q):eb.rd w B [.int .i64 x.Id, .int .i64 x.u,a,b] x:=⟨_,_,rfl,⟨_,rfl,rfl⟩,⟨_,_,rfl,⟨_,rfl,rfl⟩,⟨_,_,rfl,⟨_,rfl,c⟩,⟨_,rfl,d⟩⟩⟩⟩
def bo:Ty ax:=rg (jy Qb (ab Qb 3)) (fun x=>(x.Id,x.m))
theorem pd {w:World} {B:Nat} {cs:List Value} {x:ax} (h:bo.rd w B cs x):∃ a,cs=[.int .i64 x.Id,a]∧ce Qb w B a x.m:=by
 obtain⟨_,_,rfl,⟨_,rfl,rfl⟩,⟨a,rfl,b⟩⟩:=h;exact⟨a,rfl,b⟩
theorem pv {w:World} {B:Nat} {x:ax} {a:Value} (b:ce Qb w B a x.m):bo.rd w B [.int .i64 x.Id,a] x:=⟨_,_,rfl,⟨_,rfl,rfl⟩,⟨_,rfl,b⟩⟩
def Qt:Ty Qn:=rg (jy eb (jy Qb (jy (ab Qb 3) (jy Qb (jy Qb (jy Qb (ab bo 70))))))) (fun x=>(x.e,x.r,x.t,x.v,x.A,x.z,x.p))
theorem mw {w:World} {B:Nat} {cs:List Value} {x:Qn} (h:Qt.rd w B cs x):∃ a b c d,cs=[.int .i64 x.e.Id, .int .i64 x.e.u,a,b, .int .i64 x.r,c, .int .i64 x.v, .int .i64 x.A, .int .i64 x.z,d]∧ce cg w B a x.e.o∧ce Qb w B b x.e.q∧ce Qb w B c x.t∧ce bo w B d x.p:=by
 obtain⟨_,_,rfl,⟨_,_,rfl,⟨_,rfl,rfl⟩,⟨_,_,rfl,⟨_,rfl,rfl⟩,⟨_,_,rfl,⟨a,rfl,f⟩,⟨b,rfl,g⟩⟩⟩⟩,⟨_,_,rfl,⟨_,rfl,rfl⟩,⟨_,_,rfl,⟨c,rfl,i⟩,⟨_,_,rfl,⟨_,rfl,rfl⟩,⟨_,_,rfl,⟨_,rfl,rfl⟩,⟨_,_,rfl,⟨_,rfl,rfl⟩,⟨d,rfl,j⟩⟩⟩⟩⟩⟩⟩:=h;exact⟨a,b,c,d,rfl,f,g,i,j⟩
theorem cZ {w:World} {B:Nat} {x:Qn} {a b c d:Value} (f:ce cg w B a x.e.o) (g:ce Qb w B b x.e.q) (h:ce Qb w B c x.t) (i:ce bo w B d x.p):Qt.rd w B [.int .i64 x.e.Id, .int .i64 x.e.u,a,b, .int .i64 x.r,c, .int .i64 x.v, .int .i64 x.A, .int .i64 x.z,d] x:=⟨_,_,rfl,⟨_,_,rfl,⟨_,rfl,rfl⟩,⟨_,_,rfl,⟨_,rfl,rfl⟩,⟨_,_,rfl,⟨_,rfl,f⟩,⟨_,rfl,g⟩⟩⟩⟩,⟨_,_,rfl,⟨_,rfl,rfl⟩,⟨_,_,rfl,⟨_,rfl,h⟩,⟨_,_,rfl,⟨_,rfl,rfl⟩,⟨_,_,rfl,⟨_,rfl,rfl⟩,⟨_,_,rfl,⟨_,rfl,rfl⟩,⟨_,rfl,i⟩⟩⟩⟩⟩⟩⟩
def bb:Ty df:=rg (jy eb (jy Qb (jy Qb (ab bo 70)))) (fun x=>(x.e,x.r,x.n,x.p))
theorem uk {w:World} {B:Nat} {cs:List Value} {x:df} (h:bb.rd w B cs x):∃ a b c,cs=[.int .i64 x.e.Id, .int .i64 x.e.u,a,b, .int .i64 x.r, .int .i64 x.n,c]∧ce cg w B a x.e.o∧ce Qb w B b x.e.q∧ce bo w B c x.p:=by
 obtain⟨_,_,rfl,⟨_,_,rfl,⟨_,rfl,rfl⟩,⟨_,_,rfl,⟨_,rfl,rfl⟩,⟨_,_,rfl,⟨a,rfl,d⟩,⟨b,rfl,f⟩⟩⟩⟩,⟨_,_,rfl,⟨_,rfl,rfl⟩,⟨_,_,rfl,⟨_,rfl,rfl⟩,⟨c,rfl,g⟩⟩⟩⟩:=h;exact⟨a,b,c,rfl,d,f,g⟩
theorem lL {w:World} {B:Nat} {x:df} {a b c:Value} (d:ce cg w B a x.e.o) (f:ce Qb w B b x.e.q) (g:ce bo w B c x.p):bb.rd w B [.int .i64 x.e.Id, .int .i64 x.e.u,a,b, .int .i64 x.r, .int .i64 x.n,c] x:=⟨_,_,rfl,⟨_,_,rfl,⟨_,rfl,rfl⟩,⟨_,_,rfl,⟨_,rfl,rfl⟩,⟨_,_,rfl,⟨_,rfl,d⟩,⟨_,rfl,f⟩⟩⟩⟩,⟨_,_,rfl,⟨_,rfl,rfl⟩,⟨_,_,rfl,⟨_,rfl,rfl⟩,⟨_,rfl,g⟩⟩⟩⟩
def ba:Ty fy:=rg (jy Qb (jy Qb (jy (ab Qb 3) (jy (ab Qb 3) (ab Qb 3))))) (fun x=>(x.D,x.C,x.w,x.B,x.p))
theorem rz {w:World} {B:Nat} {cs:List Value} {x:fy} (h:ba.rd w B cs x):∃ a b c,cs=[.int .i64 x.D, .int .i64 x.C,a,b,c]∧ce Qb w B a x.w∧ce Qb w B b x.B∧ce Qb w B c x.p:=by
 obtain⟨_,_,rfl,⟨_,rfl,rfl⟩,⟨_,_,rfl,⟨_,rfl,rfl⟩,⟨_,_,rfl,⟨a,rfl,d⟩,⟨_,_,rfl,⟨b,rfl,e⟩,⟨c,rfl,f⟩⟩⟩⟩⟩:=h;exact⟨a,b,c,rfl,d,e,f⟩
theorem dC {w:World} {B:Nat} {x:fy} {a b c:Value} (d:ce Qb w B a x.w) (e:ce Qb w B b x.B) (f:ce Qb w B c x.p):ba.rd w B [.int .i64 x.D, .int .i64 x.C,a,b,c] x:=⟨_,_,rfl,⟨_,rfl,rfl⟩,⟨_,_,rfl,⟨_,rfl,rfl⟩,⟨_,_,rfl,⟨_,rfl,d⟩,⟨_,_,rfl,⟨_,rfl,e⟩,⟨_,rfl,f⟩⟩⟩⟩⟩
def cv:Ty Qj:=rg (jy ez (jy Qb (jy (ab Qb 3) (jy (ab Qt 61) (jy (ab bb 80) (jy (ab ba 102) Qb)))))) (fun x=>(x.d,x.j,x.l,x.a,x.f,x.k,x.n))
theorem mg {w:World} {B:Nat} {cs:List Value} {x:Qj} (h:cv.rd w B cs x):∃ b e i m o,cs=[b, .int .i64 x.d.g, .int .i64 x.j,e,i,m,o, .int .i64 x.n]∧ce (ab Qy 163) w B b x.d.c∧ce Qb w B e x.l∧ce Qt w B i x.a∧ce bb w B m x.f∧ce ba w B o x.k:=by
 obtain⟨_,_,rfl,⟨_,_,rfl,⟨b,rfl,p⟩,⟨_,rfl,rfl⟩⟩,⟨_,_,rfl,⟨_,rfl,rfl⟩,⟨_,_,rfl,⟨e,rfl,r⟩,⟨_,_,rfl,⟨i,rfl,s⟩,⟨_,_,rfl,⟨m,rfl,t⟩,⟨_,_,rfl,⟨o,rfl,u⟩,⟨_,rfl,rfl⟩⟩⟩⟩⟩⟩⟩:=h;exact⟨b,e,i,m,o,rfl,p,r,s,t,u⟩
theorem gm {w:World} {B:Nat} {x:Qj} {b e h i m:Value} (o:ce (ab Qy 163) w B b x.d.c) (p:ce Qb w B e x.l) (r:ce Qt w B h x.a) (s:ce bb w B i x.f) (t:ce ba w B m x.k):cv.rd w B [b, .int .i64 x.d.g, .int .i64 x.j,e,h,i,m, .int .i64 x.n] x:=⟨_,_,rfl,⟨_,_,rfl,⟨_,rfl,o⟩,⟨_,rfl,rfl⟩⟩,⟨_,_,rfl,⟨_,rfl,rfl⟩,⟨_,_,rfl,⟨_,rfl,p⟩,⟨_,_,rfl,⟨_,rfl,r⟩,⟨_,_,rfl,⟨_,rfl,s⟩,⟨_,_,rfl,⟨_,rfl,t⟩,⟨_,rfl,rfl⟩⟩⟩⟩⟩⟩⟩
structure fc where
 Kind:Int
 Row:ax
 Field:Int
 Value:Int
instance:Inhabited fc:=⟨⟨default,default,default,default⟩⟩
def nh:Ty fc:=rg (jy Qb (jy bo (jy Qb Qb))) (fun x=>(x.Kind,x.Row,x.Field,x.Value))
theorem zg {w:World} {B:Nat} {cs:List Value} {x:fc} (h:nh.rd w B cs x):∃ a,cs=[.int .i64 x.Kind, .int .i64 x.Row.Id,a, .int .i64 x.Field, .int .i64 x.Value]∧ce Qb w B a x.Row.m:=by
 obtain⟨_,_,rfl,⟨_,rfl,rfl⟩,⟨_,_,rfl,⟨_,_,rfl,⟨_,rfl,rfl⟩,⟨a,rfl,b⟩⟩,⟨_,_,rfl,⟨_,rfl,rfl⟩,⟨_,rfl,rfl⟩⟩⟩⟩:=h;exact⟨a,rfl,b⟩
theorem dD {w:World} {B:Nat} {x:fc} {a:Value} (b:ce Qb w B a x.Row.m):nh.rd w B [.int .i64 x.Kind, .int .i64 x.Row.Id,a, .int .i64 x.Field, .int .i64 x.Value] x:=⟨_,_,rfl,⟨_,rfl,rfl⟩,⟨_,_,rfl,⟨_,_,rfl,⟨_,rfl,rfl⟩,⟨_,rfl,b⟩⟩,⟨_,_,rfl,⟨_,rfl,rfl⟩,⟨_,rfl,rfl⟩⟩⟩⟩
structure ar where
 i:Nat
 h:Int
instance:Inhabited ar:=⟨⟨default,default⟩⟩
structure ga where
 I:Int
 To:Int
 E:(List Int)
instance:Inhabited ga:=⟨⟨default,default,default⟩⟩
def lc:Ty ga:=rg (jy Qb (jy Qb (ab Qb 3))) (fun x=>(x.I,x.To,x.E))
theorem Md {w:World} {B:Nat} {cs:List Value} {x:ga} (h:lc.rd w B cs x):∃ a,cs=[.int .i64 x.I, .int .i64 x.To,a]∧ce Qb w B a x.E:=by
 obtain⟨_,_,rfl,⟨_,rfl,rfl⟩,⟨_,_,rfl,⟨_,rfl,rfl⟩,⟨a,rfl,b⟩⟩⟩:=h;exact⟨a,rfl,b⟩
structure nq where
 J:(List bf)
 F:(List (List ga))
instance:Inhabited nq:=⟨⟨default,default⟩⟩
def ul:Ty nq:=rg (jy (ab eb 58) (ab (ab lc 238) 225)) (fun x=>(x.J,x.F))
theorem Ly {w:World} {B:Nat} {cs:List Value} {x:nq} (h:ul.rd w B cs x):∃ a b,cs=[a,b]∧ce eb w B a x.J∧ce (ab lc 238) w B b x.F:=by
 obtain⟨_,_,rfl,⟨a,rfl,c⟩,⟨b,rfl,d⟩⟩:=h;exact⟨a,b,rfl,c,d⟩
theorem Lw {w:World} {B:Nat} {x:nq} {a b:Value} (c:ce eb w B a x.J) (d:ce (ab lc 238) w B b x.F):ul.rd w B [a,b] x:=⟨_,_,rfl,⟨_,rfl,c⟩,⟨_,rfl,d⟩⟩
theorem Lu {a b c d e f:Int} (w:World):(binOp .neq 180 (.agg #[.int .i64 a, .int .i64 b, .int .i64 c]) (.agg #[.int .i64 d, .int .i64 e, .int .i64 f])).run Tryz.prog w= .ok (.bool (!((a==d) && (b==e) && (c==f)))) w:=by
 have:=Tryz.underlying3;have:=Tryz.isAgg3;have:=Tryz.sizeOf3;have hS:Tryz.prog.underlying 180=some (.struct (Tryz.prog.fieldsOf 180)):=by kernel_rfl
 have hp:Tryz.prog.stoodInHeld 180=false:=by kernel_rfl
 rw[run_neq_struct,show(10000:Nat)=9999+1 from rfl,run_equalIn_agg w 9999 180 _ _ hS hp];simp only[Program.fieldsOf,Tryz.underlying180]
 go_simp
 by_cases j:a=d <;>by_cases k:b=e <;>by_cases l:c=f <;>simp[j,k,l]
def cH (B:Nat) (x:Qz):Prop:=x.m.length<=B
def mo (B:Nat) (x:ah):Prop:=(x.c.length<=B∧∀ y∈x.c,(y.length<=B∧∀ a∈y,cH B a))
def lq (B:Nat) (x:bf):Prop:=x.o.length<=B∧x.q.length<=B
def pu (B:Nat) (x:ax):Prop:=x.m.length<=B
def rK (B:Nat) (x:Qn):Prop:=lq B x.e∧x.t.length<=B∧(x.p.length<=B∧∀ y∈x.p,pu B y)
def rM (B:Nat) (x:df):Prop:=lq B x.e∧(x.p.length<=B∧∀ y∈x.p,pu B y)
def cE (B:Nat) (x:fy):Prop:=x.w.length<=B∧x.B.length<=B∧x.p.length<=B
def ju (B:Nat) (x:Qj):Prop:=mo B x.d∧x.l.length<=B∧(x.a.length<=B∧∀ y∈x.a,rK B y)∧(x.f.length<=B∧∀ y∈x.f,rM B y)∧(x.k.length<=B∧∀ y∈x.k,cE B y)
theorem lO {w:World} {L:List Nat} {cs:List Value} {x:Qz} (h:Qy.own w L cs x):∃ g:Value,cs=[.int .i64 x.Id,g, .int .i64 x.x, .int .i64 x.y]∧Sep [Qh (ab Qb 3) [g] x.m] w L:=by
 obtain⟨_,_,_,_,rfl,rfl,⟨rfl,_,rfl,rfl⟩,⟨_,_,_,_,rfl,rfl,⟨b,rfl,a⟩,⟨_,_,_,_,rfl,rfl,⟨rfl,_,rfl,rfl⟩,⟨rfl,_,rfl,rfl⟩⟩⟩⟩:=h;exact⟨b,rfl,Sep.cast (⟨_,[],(List.append_nil _).symm,⟨_,rfl,a⟩,rfl⟩) (by simp)⟩
theorem oG {P:Program} {N B:Nat} {a:World} {Q:Exit->Act->World->Prop} {L:List (Nat×Value)} {is:List It} {ops:Array Oper} {l:List Oper} {z:List Value} {x:Qz} (h:∀ g:Value,z=[.int .i64 x.Id,g, .int .i64 x.x, .int .i64 x.y]->WM P N B a ops Q l L (Qh (ab Qb 3) [g] x.m::is)):WM P N B a ops Q l L (Qh Qy z x::is):=pi (γ:=Value) (js:=fun g=>[Qh (ab Qb 3) [g] x.m]) (C:=fun g=>z=[.int .i64 x.Id,g, .int .i64 x.x, .int .i64 x.y]) (fun _ _ h=>lO h) h
theorem pf {w:World} {L:List Nat} {x:Qz} {a:Value} (h:Sep [Qh (ab Qb 3) [a] x.m] w L):Qy.own w L [.int .i64 x.Id,a, .int .i64 x.x, .int .i64 x.y] x:=by
 obtain⟨_,_,rfl,b,c⟩:=Sep.cons h;cases (Sep.nil c)
 exact rq (T:=Qy) (cs:=[.int .i64 x.Id,a, .int .i64 x.x, .int .i64 x.y]) (x:=x) ⟨_,_,_,_,rfl,rfl,cq,⟨_,_,_,_,rfl,rfl,b,⟨_,_,_,_,rfl,rfl,cq,cq⟩⟩⟩ (by simp)
theorem lN {w:World} {L:List Nat} {cs:List Value} {x:ah} (h:ez.own w L cs x):∃ g:Value,cs=[g, .int .i64 x.g]∧Sep [Qh (ab (ab Qy 163) 100) [g] x.c] w L:=by
 obtain⟨_,_,_,_,rfl,rfl,⟨b,rfl,a⟩,⟨rfl,_,rfl,rfl⟩⟩:=h;exact⟨b,rfl,Sep.cast (⟨_,[],(List.append_nil _).symm,⟨_,rfl,a⟩,rfl⟩) (by simp)⟩
theorem ng {P:Program} {N B:Nat} {a:World} {Q:Exit->Act->World->Prop} {L:List (Nat×Value)} {is:List It} {ops:Array Oper} {l:List Oper} {z:List Value} {x:ah} (h:∀ g:Value,z=[g, .int .i64 x.g]->WM P N B a ops Q l L (Qh (ab (ab Qy 163) 100) [g] x.c::is)):WM P N B a ops Q l L (Qh ez z x::is):=pi (γ:=Value) (js:=fun g=>[Qh (ab (ab Qy 163) 100) [g] x.c]) (C:=fun g=>z=[g, .int .i64 x.g]) (fun _ _ h=>lN h) h
theorem jz {w:World} {L:List Nat} {x:ah} {a:Value} (h:Sep [Qh (ab (ab Qy 163) 100) [a] x.c] w L):ez.own w L [a, .int .i64 x.g] x:=by
 obtain⟨_,_,rfl,b,d⟩:=Sep.cons h;cases (Sep.nil d)
 exact rq (T:=ez) (cs:=[a, .int .i64 x.g]) (x:=x) ⟨_,_,_,_,rfl,rfl,b,cq⟩ (by simp)
theorem zf {w:World} {L:List Nat} {x:jj} (h:Sep [] w L):cg.own w L [.int .i64 x.Field, .int .i64 x.G, .int .i64 x.H] x:=by
 cases (Sep.nil h)
 exact rq (T:=cg) (cs:=[.int .i64 x.Field, .int .i64 x.G, .int .i64 x.H]) (x:=x) ⟨_,_,_,_,rfl,rfl,cq,⟨_,_,_,_,rfl,rfl,cq,cq⟩⟩ (by simp)
theorem Mb {w:World} {L:List Nat} {cs:List Value} {x:bf} (h:eb.own w L cs x):∃ g:Value×Value,cs=[.int .i64 x.Id, .int .i64 x.u,g.1,g.2]∧Sep [Qh (ab cg 180) [g.1] x.o,Qh (ab Qb 3) [g.2] x.q] w L:=by
 obtain⟨_,_,_,_,rfl,rfl,⟨rfl,_,rfl,rfl⟩,⟨_,_,_,_,rfl,rfl,⟨rfl,_,rfl,rfl⟩,⟨_,_,_,_,rfl,rfl,⟨c,rfl,a⟩,⟨d,rfl,b⟩⟩⟩⟩:=h;exact⟨(c,d),rfl,Sep.cast (⟨_,_,rfl,⟨_,rfl,a⟩,⟨_,[],(List.append_nil _).symm,⟨_,rfl,b⟩,rfl⟩⟩) (by simp)⟩
theorem pa {P:Program} {N B:Nat} {a:World} {Q:Exit->Act->World->Prop} {L:List (Nat×Value)} {is:List It} {ops:Array Oper} {l:List Oper} {z:List Value} {x:bf} (h:∀ g:Value×Value,z=[.int .i64 x.Id, .int .i64 x.u,g.1,g.2]->WM P N B a ops Q l L (Qh (ab cg 180) [g.1] x.o::Qh (ab Qb 3) [g.2] x.q::is)):WM P N B a ops Q l L (Qh eb z x::is):=pi (γ:=Value×Value) (js:=fun g=>[Qh (ab cg 180) [g.1] x.o,Qh (ab Qb 3) [g.2] x.q]) (C:=fun g=>z=[.int .i64 x.Id, .int .i64 x.u,g.1,g.2]) (fun _ _ h=>Mb h) h
theorem tv {w:World} {L:List Nat} {x:bf} {a b:Value} (h:Sep [Qh (ab cg 180) [a] x.o,Qh (ab Qb 3) [b] x.q] w L):eb.own w L [.int .i64 x.Id, .int .i64 x.u,a,b] x:=by
 obtain⟨_,_,rfl,c,e⟩:=Sep.cons h;obtain⟨L1,K1,rfl,d,f⟩:=Sep.cons e;cases (Sep.nil f)
 exact rq (T:=eb) (cs:=[.int .i64 x.Id, .int .i64 x.u,a,b]) (x:=x) ⟨_,_,_,_,rfl,rfl,cq,⟨_,_,_,_,rfl,rfl,cq,⟨_,_,_,_,rfl,rfl,c,d⟩⟩⟩ (by simp)
theorem Mc {w:World} {L:List Nat} {cs:List Value} {x:ax} (h:bo.own w L cs x):∃ g:Value,cs=[.int .i64 x.Id,g]∧Sep [Qh (ab Qb 3) [g] x.m] w L:=by
 obtain⟨_,_,_,_,rfl,rfl,⟨rfl,_,rfl,rfl⟩,⟨b,rfl,a⟩⟩:=h;exact⟨b,rfl,Sep.cast (⟨_,[],(List.append_nil _).symm,⟨_,rfl,a⟩,rfl⟩) (by simp)⟩
theorem ta {P:Program} {N B:Nat} {a:World} {Q:Exit->Act->World->Prop} {L:List (Nat×Value)} {is:List It} {ops:Array Oper} {l:List Oper} {z:List Value} {x:ax} (h:∀ g:Value,z=[.int .i64 x.Id,g]->WM P N B a ops Q l L (Qh (ab Qb 3) [g] x.m::is)):WM P N B a ops Q l L (Qh bo z x::is):=pi (γ:=Value) (js:=fun g=>[Qh (ab Qb 3) [g] x.m]) (C:=fun g=>z=[.int .i64 x.Id,g]) (fun _ _ h=>Mc h) h
theorem sa {w:World} {L:List Nat} {x:ax} {a:Value} (h:Sep [Qh (ab Qb 3) [a] x.m] w L):bo.own w L [.int .i64 x.Id,a] x:=by
 obtain⟨_,_,rfl,b,c⟩:=Sep.cons h;cases (Sep.nil c)
 exact rq (T:=bo) (cs:=[.int .i64 x.Id,a]) (x:=x) ⟨_,_,_,_,rfl,rfl,cq,b⟩ (by simp)
theorem oE {w:World} {L:List Nat} {cs:List Value} {x:Qn} (h:Qt.own w L cs x):∃ g:Value×Value×Value×Value,cs=[.int .i64 x.e.Id, .int .i64 x.e.u,g.1,g.2.1, .int .i64 x.r,g.2.2.1, .int .i64 x.v, .int .i64 x.A, .int .i64 x.z,g.2.2.2]∧Sep [Qh (ab cg 180) [g.1] x.e.o,Qh (ab Qb 3) [g.2.1] x.e.q,Qh (ab Qb 3) [g.2.2.1] x.t,Qh (ab bo 70) [g.2.2.2] x.p] w L:=by
 obtain⟨_,_,_,_,rfl,rfl,⟨_,_,_,_,rfl,rfl,⟨rfl,_,rfl,rfl⟩,⟨_,_,_,_,rfl,rfl,⟨rfl,_,rfl,rfl⟩,⟨_,_,_,_,rfl,rfl,⟨f,rfl,a⟩,⟨i,rfl,b⟩⟩⟩⟩,⟨_,_,_,_,rfl,rfl,⟨rfl,_,rfl,rfl⟩,⟨_,_,_,_,rfl,rfl,⟨j,rfl,c⟩,⟨_,_,_,_,rfl,rfl,⟨rfl,_,rfl,rfl⟩,⟨_,_,_,_,rfl,rfl,⟨rfl,_,rfl,rfl⟩,⟨_,_,_,_,rfl,rfl,⟨rfl,_,rfl,rfl⟩,⟨k,rfl,d⟩⟩⟩⟩⟩⟩⟩:=h;exact⟨(f,i,j,k),rfl,Sep.cast (⟨_,_,rfl,⟨_,rfl,a⟩,⟨_,_,rfl,⟨_,rfl,b⟩,⟨_,_,rfl,⟨_,rfl,c⟩,⟨_,[],(List.append_nil _).symm,⟨_,rfl,d⟩,rfl⟩⟩⟩⟩) (by simp)⟩
theorem dA {P:Program} {N B:Nat} {a:World} {Q:Exit->Act->World->Prop} {L:List (Nat×Value)} {is:List It} {ops:Array Oper} {l:List Oper} {z:List Value} {x:Qn} (h:∀ g:Value×Value×Value×Value,z=[.int .i64 x.e.Id, .int .i64 x.e.u,g.1,g.2.1, .int .i64 x.r,g.2.2.1, .int .i64 x.v, .int .i64 x.A, .int .i64 x.z,g.2.2.2]->WM P N B a ops Q l L (Qh (ab cg 180) [g.1] x.e.o::Qh (ab Qb 3) [g.2.1] x.e.q::Qh (ab Qb 3) [g.2.2.1] x.t::Qh (ab bo 70) [g.2.2.2] x.p::is)):WM P N B a ops Q l L (Qh Qt z x::is):=pi (γ:=Value×Value×Value×Value) (js:=fun g=>[Qh (ab cg 180) [g.1] x.e.o,Qh (ab Qb 3) [g.2.1] x.e.q,Qh (ab Qb 3) [g.2.2.1] x.t,Qh (ab bo 70) [g.2.2.2] x.p]) (C:=fun g=>z=[.int .i64 x.e.Id, .int .i64 x.e.u,g.1,g.2.1, .int .i64 x.r,g.2.2.1, .int .i64 x.v, .int .i64 x.A, .int .i64 x.z,g.2.2.2]) (fun _ _ h=>oE h) h
theorem mv {w:World} {L:List Nat} {x:Qn} {a b c d:Value} (h:Sep [Qh (ab cg 180) [a] x.e.o,Qh (ab Qb 3) [b] x.e.q,Qh (ab Qb 3) [c] x.t,Qh (ab bo 70) [d] x.p] w L):Qt.own w L [.int .i64 x.e.Id, .int .i64 x.e.u,a,b, .int .i64 x.r,c, .int .i64 x.v, .int .i64 x.A, .int .i64 x.z,d] x:=by
 obtain⟨_,_,rfl,f,k⟩:=Sep.cons h;obtain⟨L1,K1,rfl,g,l⟩:=Sep.cons k;obtain⟨_,K2,rfl,i,s2⟩:=Sep.cons l;obtain⟨_,_,rfl,j,m⟩:=Sep.cons s2;cases (Sep.nil m)
 exact rq (T:=Qt) (cs:=[.int .i64 x.e.Id, .int .i64 x.e.u,a,b, .int .i64 x.r,c, .int .i64 x.v, .int .i64 x.A, .int .i64 x.z,d]) (x:=x) ⟨_,_,_,_,rfl,rfl,⟨_,_,_,_,rfl,rfl,cq,⟨_,_,_,_,rfl,rfl,cq,⟨_,_,_,_,rfl,rfl,f,g⟩⟩⟩,⟨_,_,_,_,rfl,rfl,cq,⟨_,_,_,_,rfl,rfl,i,⟨_,_,_,_,rfl,rfl,cq,⟨_,_,_,_,rfl,rfl,cq,⟨_,_,_,_,rfl,rfl,cq,j⟩⟩⟩⟩⟩⟩ (by simp)
theorem Lv {w:World} {L:List Nat} {cs:List Value} {x:df} (h:bb.own w L cs x):∃ g:Value×Value×Value,cs=[.int .i64 x.e.Id, .int .i64 x.e.u,g.1,g.2.1, .int .i64 x.r, .int .i64 x.n,g.2.2]∧Sep [Qh (ab cg 180) [g.1] x.e.o,Qh (ab Qb 3) [g.2.1] x.e.q,Qh (ab bo 70) [g.2.2] x.p] w L:=by
 obtain⟨_,_,_,_,rfl,rfl,⟨_,_,_,_,rfl,rfl,⟨rfl,_,rfl,rfl⟩,⟨_,_,_,_,rfl,rfl,⟨rfl,_,rfl,rfl⟩,⟨_,_,_,_,rfl,rfl,⟨d,rfl,a⟩,⟨f,rfl,b⟩⟩⟩⟩,⟨_,_,_,_,rfl,rfl,⟨rfl,_,rfl,rfl⟩,⟨_,_,_,_,rfl,rfl,⟨rfl,_,rfl,rfl⟩,⟨i,rfl,c⟩⟩⟩⟩:=h;exact⟨(d,f,i),rfl,Sep.cast (⟨_,_,rfl,⟨_,rfl,a⟩,⟨_,_,rfl,⟨_,rfl,b⟩,⟨_,[],(List.append_nil _).symm,⟨_,rfl,c⟩,rfl⟩⟩⟩) (by simp)⟩
theorem sX {P:Program} {N B:Nat} {a:World} {Q:Exit->Act->World->Prop} {L:List (Nat×Value)} {is:List It} {ops:Array Oper} {l:List Oper} {z:List Value} {x:df} (h:∀ g:Value×Value×Value,z=[.int .i64 x.e.Id, .int .i64 x.e.u,g.1,g.2.1, .int .i64 x.r, .int .i64 x.n,g.2.2]->WM P N B a ops Q l L (Qh (ab cg 180) [g.1] x.e.o::Qh (ab Qb 3) [g.2.1] x.e.q::Qh (ab bo 70) [g.2.2] x.p::is)):WM P N B a ops Q l L (Qh bb z x::is):=pi (γ:=Value×Value×Value) (js:=fun g=>[Qh (ab cg 180) [g.1] x.e.o,Qh (ab Qb 3) [g.2.1] x.e.q,Qh (ab bo 70) [g.2.2] x.p]) (C:=fun g=>z=[.int .i64 x.e.Id, .int .i64 x.e.u,g.1,g.2.1, .int .i64 x.r, .int .i64 x.n,g.2.2]) (fun _ _ h=>Lv h) h
theorem tu {w:World} {L:List Nat} {x:df} {a b c:Value} (h:Sep [Qh (ab cg 180) [a] x.e.o,Qh (ab Qb 3) [b] x.e.q,Qh (ab bo 70) [c] x.p] w L):bb.own w L [.int .i64 x.e.Id, .int .i64 x.e.u,a,b, .int .i64 x.r, .int .i64 x.n,c] x:=by
 obtain⟨_,_,rfl,d,i⟩:=Sep.cons h;obtain⟨L1,K1,rfl,f,j⟩:=Sep.cons i;obtain⟨_,K2,rfl,g,s2⟩:=Sep.cons j;cases (Sep.nil s2)
 exact rq (T:=bb) (cs:=[.int .i64 x.e.Id, .int .i64 x.e.u,a,b, .int .i64 x.r, .int .i64 x.n,c]) (x:=x) ⟨_,_,_,_,rfl,rfl,⟨_,_,_,_,rfl,rfl,cq,⟨_,_,_,_,rfl,rfl,cq,⟨_,_,_,_,rfl,rfl,d,f⟩⟩⟩,⟨_,_,_,_,rfl,rfl,cq,⟨_,_,_,_,rfl,rfl,cq,g⟩⟩⟩ (by simp)
theorem Ls {w:World} {L:List Nat} {cs:List Value} {x:fy} (h:ba.own w L cs x):∃ g:Value×Value×Value,cs=[.int .i64 x.D, .int .i64 x.C,g.1,g.2.1,g.2.2]∧Sep [Qh (ab Qb 3) [g.1] x.w,Qh (ab Qb 3) [g.2.1] x.B,Qh (ab Qb 3) [g.2.2] x.p] w L:=by
 obtain⟨_,_,_,_,rfl,rfl,⟨rfl,_,rfl,rfl⟩,⟨_,_,_,_,rfl,rfl,⟨rfl,_,rfl,rfl⟩,⟨_,_,_,_,rfl,rfl,⟨d,rfl,a⟩,⟨_,_,_,_,rfl,rfl,⟨e,rfl,b⟩,⟨f,rfl,c⟩⟩⟩⟩⟩:=h;exact⟨(d,e,f),rfl,Sep.cast (⟨_,_,rfl,⟨_,rfl,a⟩,⟨_,_,rfl,⟨_,rfl,b⟩,⟨_,[],(List.append_nil _).symm,⟨_,rfl,c⟩,rfl⟩⟩⟩) (by simp)⟩
theorem lJ {P:Program} {N B:Nat} {a:World} {Q:Exit->Act->World->Prop} {L:List (Nat×Value)} {is:List It} {ops:Array Oper} {l:List Oper} {z:List Value} {x:fy} (h:∀ g:Value×Value×Value,z=[.int .i64 x.D, .int .i64 x.C,g.1,g.2.1,g.2.2]->WM P N B a ops Q l L (Qh (ab Qb 3) [g.1] x.w::Qh (ab Qb 3) [g.2.1] x.B::Qh (ab Qb 3) [g.2.2] x.p::is)):WM P N B a ops Q l L (Qh ba z x::is):=pi (γ:=Value×Value×Value) (js:=fun g=>[Qh (ab Qb 3) [g.1] x.w,Qh (ab Qb 3) [g.2.1] x.B,Qh (ab Qb 3) [g.2.2] x.p]) (C:=fun g=>z=[.int .i64 x.D, .int .i64 x.C,g.1,g.2.1,g.2.2]) (fun _ _ h=>Ls h) h
theorem dB {w:World} {L:List Nat} {x:fy} {a b c:Value} (h:Sep [Qh (ab Qb 3) [a] x.w,Qh (ab Qb 3) [b] x.B,Qh (ab Qb 3) [c] x.p] w L):ba.own w L [.int .i64 x.D, .int .i64 x.C,a,b,c] x:=by
 obtain⟨_,_,rfl,d,g⟩:=Sep.cons h;obtain⟨L1,K1,rfl,e,i⟩:=Sep.cons g;obtain⟨_,K2,rfl,f,s2⟩:=Sep.cons i;cases (Sep.nil s2)
 exact rq (T:=ba) (cs:=[.int .i64 x.D, .int .i64 x.C,a,b,c]) (x:=x) ⟨_,_,_,_,rfl,rfl,cq,⟨_,_,_,_,rfl,rfl,cq,⟨_,_,_,_,rfl,rfl,d,⟨_,_,_,_,rfl,rfl,e,f⟩⟩⟩⟩ (by simp)
theorem oF {w:World} {L:List Nat} {cs:List Value} {x:Qj} (h:cv.own w L cs x):∃ g:Value×Value×Value×Value×Value,cs=[g.1, .int .i64 x.d.g, .int .i64 x.j,g.2.1,g.2.2.1,g.2.2.2.1,g.2.2.2.2, .int .i64 x.n]∧Sep [Qh (ab (ab Qy 163) 100) [g.1] x.d.c,Qh (ab Qb 3) [g.2.1] x.l,Qh (ab Qt 61) [g.2.2.1] x.a,Qh (ab bb 80) [g.2.2.2.1] x.f,Qh (ab ba 102) [g.2.2.2.2] x.k] w L:=by
 obtain⟨_,_,_,_,rfl,rfl,⟨_,_,_,_,rfl,rfl,⟨p,rfl,b⟩,⟨rfl,_,rfl,rfl⟩⟩,⟨_,_,_,_,rfl,rfl,⟨rfl,_,rfl,rfl⟩,⟨_,_,_,_,rfl,rfl,⟨r,rfl,e⟩,⟨_,_,_,_,rfl,rfl,⟨s,rfl,i⟩,⟨_,_,_,_,rfl,rfl,⟨t,rfl,m⟩,⟨_,_,_,_,rfl,rfl,⟨u,rfl,o⟩,⟨rfl,_,rfl,rfl⟩⟩⟩⟩⟩⟩⟩:=h;exact⟨(p,r,s,t,u),rfl,Sep.cast (⟨_,_,rfl,⟨_,rfl,b⟩,⟨_,_,rfl,⟨_,rfl,e⟩,⟨_,_,rfl,⟨_,rfl,i⟩,⟨_,_,rfl,⟨_,rfl,m⟩,⟨_,[],(List.append_nil _).symm,⟨_,rfl,o⟩,rfl⟩⟩⟩⟩⟩) (by simp)⟩
theorem kl {P:Program} {N B:Nat} {b:World} {Q:Exit->Act->World->Prop} {L:List (Nat×Value)} {is:List It} {ops:Array Oper} {l:List Oper} {z:List Value} {x:Qj} (h:∀ g:Value×Value×Value×Value×Value,z=[g.1, .int .i64 x.d.g, .int .i64 x.j,g.2.1,g.2.2.1,g.2.2.2.1,g.2.2.2.2, .int .i64 x.n]->WM P N B b ops Q l L (Qh (ab (ab Qy 163) 100) [g.1] x.d.c::Qh (ab Qb 3) [g.2.1] x.l::Qh (ab Qt 61) [g.2.2.1] x.a::Qh (ab bb 80) [g.2.2.2.1] x.f::Qh (ab ba 102) [g.2.2.2.2] x.k::is)):WM P N B b ops Q l L (Qh cv z x::is):=pi (γ:=Value×Value×Value×Value×Value) (js:=fun g=>[Qh (ab (ab Qy 163) 100) [g.1] x.d.c,Qh (ab Qb 3) [g.2.1] x.l,Qh (ab Qt 61) [g.2.2.1] x.a,Qh (ab bb 80) [g.2.2.2.1] x.f,Qh (ab ba 102) [g.2.2.2.2] x.k]) (C:=fun g=>z=[g.1, .int .i64 x.d.g, .int .i64 x.j,g.2.1,g.2.2.1,g.2.2.2.1,g.2.2.2.2, .int .i64 x.n]) (fun _ _ h=>oF h) h
theorem gl {w:World} {L:List Nat} {x:Qj} {b e i m o:Value} (h:Sep [Qh (ab (ab Qy 163) 100) [b] x.d.c,Qh (ab Qb 3) [e] x.l,Qh (ab Qt 61) [i] x.a,Qh (ab bb 80) [m] x.f,Qh (ab ba 102) [o] x.k] w L):cv.own w L [b, .int .i64 x.d.g, .int .i64 x.j,e,i,m,o, .int .i64 x.n] x:=by
 obtain⟨_,_,rfl,p,v⟩:=Sep.cons h;obtain⟨L1,K1,rfl,r,y⟩:=Sep.cons v;obtain⟨_,K2,rfl,s,s2⟩:=Sep.cons y;obtain⟨_,_,rfl,t,z⟩:=Sep.cons s2;obtain⟨_,_,rfl,u,A⟩:=Sep.cons z;cases (Sep.nil A)
 exact rq (T:=cv) (cs:=[b, .int .i64 x.d.g, .int .i64 x.j,e,i,m,o, .int .i64 x.n]) (x:=x) ⟨_,_,_,_,rfl,rfl,⟨_,_,_,_,rfl,rfl,p,cq⟩,⟨_,_,_,_,rfl,rfl,cq,⟨_,_,_,_,rfl,rfl,r,⟨_,_,_,_,rfl,rfl,s,⟨_,_,_,_,rfl,rfl,t,⟨_,_,_,_,rfl,rfl,u,cq⟩⟩⟩⟩⟩⟩ (by simp)
def cG (B:Nat) (x:fc):Prop:=pu B x.Row
theorem Mg {w:World} {L:List Nat} {cs:List Value} {x:fc} (h:nh.own w L cs x):∃ g:Value,cs=[.int .i64 x.Kind, .int .i64 x.Row.Id,g, .int .i64 x.Field, .int .i64 x.Value]∧Sep [Qh (ab Qb 3) [g] x.Row.m] w L:=by
 obtain⟨_,_,_,_,rfl,rfl,⟨rfl,_,rfl,rfl⟩,⟨_,_,_,_,rfl,rfl,⟨_,_,_,_,rfl,rfl,⟨rfl,_,rfl,rfl⟩,⟨b,rfl,a⟩⟩,⟨_,_,_,_,rfl,rfl,⟨rfl,_,rfl,rfl⟩,⟨rfl,_,rfl,rfl⟩⟩⟩⟩:=h;exact⟨b,rfl,Sep.cast (⟨_,[],(List.append_nil _).symm,⟨_,rfl,a⟩,rfl⟩) (by simp)⟩
theorem zh {P:Program} {N B:Nat} {a:World} {Q:Exit->Act->World->Prop} {L:List (Nat×Value)} {is:List It} {ops:Array Oper} {l:List Oper} {z:List Value} {x:fc} (h:∀ g:Value,z=[.int .i64 x.Kind, .int .i64 x.Row.Id,g, .int .i64 x.Field, .int .i64 x.Value]->WM P N B a ops Q l L (Qh (ab Qb 3) [g] x.Row.m::is)):WM P N B a ops Q l L (Qh nh z x::is):=pi (γ:=Value) (js:=fun g=>[Qh (ab Qb 3) [g] x.Row.m]) (C:=fun g=>z=[.int .i64 x.Kind, .int .i64 x.Row.Id,g, .int .i64 x.Field, .int .i64 x.Value]) (fun _ _ h=>Mg h) h
theorem um {w:World} {L:List Nat} {x:fc} {a:Value} (h:Sep [Qh (ab Qb 3) [a] x.Row.m] w L):nh.own w L [.int .i64 x.Kind, .int .i64 x.Row.Id,a, .int .i64 x.Field, .int .i64 x.Value] x:=by
 obtain⟨_,_,rfl,b,c⟩:=Sep.cons h;cases (Sep.nil c)
 exact rq (T:=nh) (cs:=[.int .i64 x.Kind, .int .i64 x.Row.Id,a, .int .i64 x.Field, .int .i64 x.Value]) (x:=x) ⟨_,_,_,_,rfl,rfl,cq,⟨_,_,_,_,rfl,rfl,⟨_,_,_,_,rfl,rfl,cq,b⟩,⟨_,_,_,_,rfl,rfl,cq,cq⟩⟩⟩ (by simp)
def rQ (B:Nat) (x:ga):Prop:=x.E.length<=B
theorem Mf {w:World} {L:List Nat} {cs:List Value} {x:ga} (h:lc.own w L cs x):∃ g:Value,cs=[.int .i64 x.I, .int .i64 x.To,g]∧Sep [Qh (ab Qb 3) [g] x.E] w L:=by
 obtain⟨_,_,_,_,rfl,rfl,⟨rfl,_,rfl,rfl⟩,⟨_,_,_,_,rfl,rfl,⟨rfl,_,rfl,rfl⟩,⟨b,rfl,a⟩⟩⟩:=h;exact⟨b,rfl,Sep.cast (⟨_,[],(List.append_nil _).symm,⟨_,rfl,a⟩,rfl⟩) (by simp)⟩
theorem Me {P:Program} {N B:Nat} {a:World} {Q:Exit->Act->World->Prop} {L:List (Nat×Value)} {is:List It} {ops:Array Oper} {l:List Oper} {z:List Value} {x:ga} (h:∀ g:Value,z=[.int .i64 x.I, .int .i64 x.To,g]->WM P N B a ops Q l L (Qh (ab Qb 3) [g] x.E::is)):WM P N B a ops Q l L (Qh lc z x::is):=pi (γ:=Value) (js:=fun g=>[Qh (ab Qb 3) [g] x.E]) (C:=fun g=>z=[.int .i64 x.I, .int .i64 x.To,g]) (fun _ _ h=>Mf h) h
theorem sY {w:World} {L:List Nat} {x:ga} {a:Value} (h:Sep [Qh (ab Qb 3) [a] x.E] w L):lc.own w L [.int .i64 x.I, .int .i64 x.To,a] x:=by
 obtain⟨_,_,rfl,b,c⟩:=Sep.cons h;cases (Sep.nil c)
 exact rq (T:=lc) (cs:=[.int .i64 x.I, .int .i64 x.To,a]) (x:=x) ⟨_,_,_,_,rfl,rfl,cq,⟨_,_,_,_,rfl,rfl,cq,b⟩⟩ (by simp)
def rN (B:Nat) (x:nq):Prop:=(x.J.length<=B∧∀ y∈x.J,lq B y)∧(x.F.length<=B∧∀ y∈x.F,(y.length<=B∧∀ a∈y,rQ B a))
theorem Ma {w:World} {L:List Nat} {cs:List Value} {x:nq} (h:ul.own w L cs x):∃ g:Value×Value,cs=[g.1,g.2]∧Sep [Qh (ab eb 58) [g.1] x.J,Qh (ab (ab lc 238) 225) [g.2] x.F] w L:=by
 obtain⟨_,_,_,_,rfl,rfl,⟨c,rfl,a⟩,⟨d,rfl,b⟩⟩:=h;exact⟨(c,d),rfl,Sep.cast (⟨_,_,rfl,⟨_,rfl,a⟩,⟨_,[],(List.append_nil _).symm,⟨_,rfl,b⟩,rfl⟩⟩) (by simp)⟩
theorem Lz {P:Program} {N B:Nat} {a:World} {Q:Exit->Act->World->Prop} {L:List (Nat×Value)} {is:List It} {ops:Array Oper} {l:List Oper} {z:List Value} {x:nq} (h:∀ g:Value×Value,z=[g.1,g.2]->WM P N B a ops Q l L (Qh (ab eb 58) [g.1] x.J::Qh (ab (ab lc 238) 225) [g.2] x.F::is)):WM P N B a ops Q l L (Qh ul z x::is):=pi (γ:=Value×Value) (js:=fun g=>[Qh (ab eb 58) [g.1] x.J,Qh (ab (ab lc 238) 225) [g.2] x.F]) (C:=fun g=>z=[g.1,g.2]) (fun _ _ h=>Ma h) h
theorem lM {w:World} {L:List Nat} {x:nq} {a b:Value} (h:Sep [Qh (ab eb 58) [a] x.J,Qh (ab (ab lc 238) 225) [b] x.F] w L):ul.own w L [a,b] x:=by
 obtain⟨_,_,rfl,c,e⟩:=Sep.cons h;obtain⟨L1,K1,rfl,d,f⟩:=Sep.cons e;cases (Sep.nil f)
 exact rq (T:=ul) (cs:=[a,b]) (x:=x) ⟨_,_,_,_,rfl,rfl,c,d⟩ (by simp)
abbrev Qg:=@Tryz.type3
abbrev Qq:=@Tryz.underlying25
abbrev Qs:=@Tryz.underlying39
abbrev Qu:=@Tryz.underlying3
abbrev ai:=@Tryz.type39
abbrev bj:=@Tryz.underlying35
abbrev bn:=@Tryz.type34
abbrev bq:=@Tryz.underlying34
abbrev bu:=@Tryz.underlying61
abbrev bz:=@Tryz.type61
abbrev cb:=@Tryz.type25
abbrev cm:=@Tryz.underlying32
abbrev cn:=@Tryz.type58
abbrev cr:=@Tryz.underlying58
abbrev ct:=@Tryz.type163
abbrev db:=@Tryz.underlying100
abbrev dh:=@Tryz.underlying163
abbrev dw:=@Tryz.type35
abbrev ej:=@Tryz.type70
abbrev fh:=@Tryz.type32
abbrev fk:=@Tryz.underlying59
abbrev ft:=@Tryz.underlying102
abbrev gg:=@Tryz.type80
abbrev gh:=@Tryz.underlying36
abbrev gj:=@Tryz.underlying56
abbrev gn:=@Tryz.underlying70
abbrev gu:=@Tryz.underlying72
abbrev ie:=@Tryz.underlying37
abbrev im:=@Tryz.type100
abbrev iw:=@Tryz.underlying80
abbrev je:=@Tryz.type102
abbrev jv:=@Tryz.type36
abbrev kn:=@Tryz.type180
abbrev kp:=@Tryz.type59
abbrev ld:=@Tryz.type56
abbrev lv:=@Tryz.type37
abbrev mh:=@Tryz.underlying180
abbrev ol:=@Tryz.underlying201
abbrev qj:=@Tryz.underlying225
abbrev tw:=@Tryz.underlying177
abbrev vo:=@Tryz.underlying204
abbrev vp:=@Tryz.underlying49
abbrev aQ:=@Tryz.underlying202
end Go.Proofs.YtdlminfjdodjoaaGreat
