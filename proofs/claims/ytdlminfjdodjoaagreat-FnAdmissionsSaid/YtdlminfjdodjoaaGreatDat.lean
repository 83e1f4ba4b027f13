/-
  The data of the program as structures,and how they lie in memory.
-/
import Derived.Test.YtdlminfjdodjoaaGreatVcS
import Derived.Test.YtdlminfjdodjoaaGreatVcP
import Derived.Test.YtdlminfjdodjoaaGreatVcX
import Derived.Test.YtdlminfjdodjoaaGreatVcY
import Derived.Test.YtdlminfjdodjoaaGreatVcQ
import Derived.Test.YtdlminfjdodjoaaGreatVcR
namespace Go.Proofs.YtdlminfjdodjoaaGreat
set_option linter.unusedVariables false
set_option linter.unusedSimpArgs false
open Go.RowKit
structure Qx where
 Id:Int
 m:(List Int)
 w:Int
 x:Int
instance:Inhabited Qx:=⟨⟨default,default,default,default⟩⟩
structure Qy where
 a:(List (List Qx))
 e:Int
instance:Inhabited Qy:=⟨⟨default,default⟩⟩
structure jj where
 Field:Int
 G:Int
 H:Int
instance:Inhabited jj:=⟨⟨default,default,default⟩⟩
structure bk where
 Id:Int
 t:Int
 o:(List jj)
 q:(List Int)
instance:Inhabited bk:=⟨⟨default,default,default,default⟩⟩
structure bf where
 Id:Int
 m:(List Int)
instance:Inhabited bf:=⟨⟨default,default⟩⟩
structure Qq where
 g:bk
 u:Int
 r:(List Int)
 y:Int
 A:Int
 z:Int
 p:(List bf)
instance:Inhabited Qq:=⟨⟨default,default,default,default,default,default,default⟩⟩
structure fv where
 g:bk
 u:Int
 n:Int
 p:(List bf)
instance:Inhabited fv:=⟨⟨default,default,default,default⟩⟩
structure gn where
 D:Int
 C:Int
 v:(List Int)
 B:(List Int)
 p:(List Int)
instance:Inhabited gn:=⟨⟨default,default,default,default,default⟩⟩
structure Qk where
 d:Qy
 l:Int
 k:(List Int)
 c:(List Qq)
 f:(List fv)
 j:(List gn)
 n:Int
instance:Inhabited Qk:=⟨⟨default,default,default,default,default,default,default⟩⟩
def Qp:Ty Qx:=rn (ke Qb (ke (ab Qb 3) (ke Qb Qb))) (fun x=>(x.Id,x.m,x.w,x.x))
theorem mv {w:World} {B:Nat} {cs:List Value} {x:Qx} (h:Qp.rd w B cs x):∃ a,cs=[.int .i64 x.Id,a, .int .i64 x.w, .int .i64 x.x]∧ce Qb w B a x.m:=by
 obtain⟨_,_,rfl,⟨_,rfl,rfl⟩,⟨_,_,rfl,⟨a,rfl,b⟩,⟨_,_,rfl,⟨_,rfl,rfl⟩,⟨_,rfl,rfl⟩⟩⟩⟩:=h;exact⟨a,rfl,b⟩
theorem og {w:World} {B:Nat} {x:Qx} {a:Value} (b:ce Qb w B a x.m):Qp.rd w B [.int .i64 x.Id,a, .int .i64 x.w, .int .i64 x.x] x:=⟨_,_,rfl,⟨_,rfl,rfl⟩,⟨_,_,rfl,⟨_,rfl,b⟩,⟨_,_,rfl,⟨_,rfl,rfl⟩,⟨_,rfl,rfl⟩⟩⟩⟩
def em:Ty Qy:=rn (ke (ab (ab Qp 163) 100) Qb) (fun x=>(x.a,x.e))
theorem ox {w:World} {B:Nat} {cs:List Value} {x:Qy} (h:em.rd w B cs x):∃ b,cs=[b, .int .i64 x.e]∧ce (ab Qp 163) w B b x.a:=by
 obtain⟨_,_,rfl,⟨b,rfl,c⟩,⟨_,rfl,rfl⟩⟩:=h;exact⟨b,rfl,c⟩
theorem jf {w:World} {B:Nat} {x:Qy} {b:Value} (c:ce (ab Qp 163) w B b x.a):em.rd w B [b, .int .i64 x.e] x:=⟨_,_,rfl,⟨_,rfl,c⟩,⟨_,rfl,rfl⟩⟩
def cx:Ty jj:=rn (ke Qb (ke Qb Qb)) (fun x=>(x.Field,x.G,x.H))
theorem uc {w:World} {B:Nat} {cs:List Value} {x:jj} (h:cx.rd w B cs x):cs=[.int .i64 x.Field, .int .i64 x.G, .int .i64 x.H]:=by
 obtain⟨_,_,rfl,⟨_,rfl,rfl⟩,⟨_,_,rfl,⟨_,rfl,rfl⟩,⟨_,rfl,rfl⟩⟩⟩:=h;exact rfl
theorem lK {w:World} {B:Nat} {x:jj}:cx.rd w B [.int .i64 x.Field, .int .i64 x.G, .int .i64 x.H] x:=⟨_,_,rfl,⟨_,rfl,rfl⟩,⟨_,_,rfl,⟨_,rfl,rfl⟩,⟨_,rfl,rfl⟩⟩⟩
def es:Ty bk:=rn (ke Qb (ke Qb (ke (ab cx 180) (ab Qb 3)))) (fun x=>(x.Id,x.t,x.o,x.q))
theorem ql {w:World} {B:Nat} {cs:List Value} {x:bk} (h:es.rd w B cs x):∃ a b,cs=[.int .i64 x.Id, .int .i64 x.t,a,b]∧ce cx w B a x.o∧ce Qb w B b x.q:=by
 obtain⟨_,_,rfl,⟨_,rfl,rfl⟩,⟨_,_,rfl,⟨_,rfl,rfl⟩,⟨_,_,rfl,⟨a,rfl,c⟩,⟨b,rfl,d⟩⟩⟩⟩:=h;exact⟨a,b,rfl,c,d⟩
theorem md {w:World} {B:Nat} {x:bk} {a b:Value} (c:ce cx w B a x.o) (d:ce Qb w B b x.q):es.rd w B [.int .i64 x.Id, .int .i64 x.t,a,b] x:=⟨_,_,rfl,⟨_,rfl,rfl⟩,⟨_,_,rfl,⟨_,rfl,rfl⟩,⟨_,_,rfl,⟨_,rfl,c⟩,⟨_,rfl,d⟩⟩⟩⟩
def cn:Ty bf:=rn (ke Qb (ab Qb 3)) (fun x=>(x.Id,x.m))
theorem pi {w:World} {B:Nat} {cs:List Value} {x:bf} (h:cn.rd w B cs x):∃ a,cs=[.int .i64 x.Id,a]∧ce Qb w B a x.m:=by
 obtain⟨_,_,rfl,⟨_,rfl,rfl⟩,⟨a,rfl,b⟩⟩:=h;exact⟨a,rfl,b⟩
theorem pu {w:World} {B:Nat} {x:bf} {a:Value} (b:ce Qb w B a x.m):cn.rd w B [.int .i64 x.Id,a] x:=⟨_,_,rfl,⟨_,rfl,rfl⟩,⟨_,rfl,b⟩⟩
def Qu:Ty Qq:=rn (ke es (ke Qb (ke (ab Qb 3) (ke Qb (ke Qb (ke Qb (ab cn 70))))))) (fun x=>(x.g,x.u,x.r,x.y,x.A,x.z,x.p))
theorem ng {w:World} {B:Nat} {cs:List Value} {x:Qq} (h:Qu.rd w B cs x):∃ a b c d,cs=[.int .i64 x.g.Id, .int .i64 x.g.t,a,b, .int .i64 x.u,c, .int .i64 x.y, .int .i64 x.A, .int .i64 x.z,d]∧ce cx w B a x.g.o∧ce Qb w B b x.g.q∧ce Qb w B c x.r∧ce cn w B d x.p:=by
 obtain⟨_,_,rfl,⟨_,_,rfl,⟨_,rfl,rfl⟩,⟨_,_,rfl,⟨_,rfl,rfl⟩,⟨_,_,rfl,⟨a,rfl,e⟩,⟨b,rfl,f⟩⟩⟩⟩,⟨_,_,rfl,⟨_,rfl,rfl⟩,⟨_,_,rfl,⟨c,rfl,i⟩,⟨_,_,rfl,⟨_,rfl,rfl⟩,⟨_,_,rfl,⟨_,rfl,rfl⟩,⟨_,_,rfl,⟨_,rfl,rfl⟩,⟨d,rfl,j⟩⟩⟩⟩⟩⟩⟩:=h;exact⟨a,b,c,d,rfl,e,f,i,j⟩
theorem cQ {w:World} {B:Nat} {x:Qq} {a b c d:Value} (e:ce cx w B a x.g.o) (f:ce Qb w B b x.g.q) (h:ce Qb w B c x.r) (i:ce cn w B d x.p):Qu.rd w B [.int .i64 x.g.Id, .int .i64 x.g.t,a,b, .int .i64 x.u,c, .int .i64 x.y, .int .i64 x.A, .int .i64 x.z,d] x:=⟨_,_,rfl,⟨_,_,rfl,⟨_,rfl,rfl⟩,⟨_,_,rfl,⟨_,rfl,rfl⟩,⟨_,_,rfl,⟨_,rfl,e⟩,⟨_,rfl,f⟩⟩⟩⟩,⟨_,_,rfl,⟨_,rfl,rfl⟩,⟨_,_,rfl,⟨_,rfl,h⟩,⟨_,_,rfl,⟨_,rfl,rfl⟩,⟨_,_,rfl,⟨_,rfl,rfl⟩,⟨_,_,rfl,⟨_,rfl,rfl⟩,⟨_,rfl,i⟩⟩⟩⟩⟩⟩⟩
def bg:Ty fv:=rn (ke es (ke Qb (ke Qb (ab cn 70)))) (fun x=>(x.g,x.u,x.n,x.p))
theorem aI {w:World} {B:Nat} {cs:List Value} {x:fv} (h:bg.rd w B cs x):∃ a b c,cs=[.int .i64 x.g.Id, .int .i64 x.g.t,a,b, .int .i64 x.u, .int .i64 x.n,c]∧ce cx w B a x.g.o∧ce Qb w B b x.g.q∧ce cn w B c x.p:=by
 obtain⟨_,_,rfl,⟨_,_,rfl,⟨_,rfl,rfl⟩,⟨_,_,rfl,⟨_,rfl,rfl⟩,⟨_,_,rfl,⟨a,rfl,d⟩,⟨b,rfl,e⟩⟩⟩⟩,⟨_,_,rfl,⟨_,rfl,rfl⟩,⟨_,_,rfl,⟨_,rfl,rfl⟩,⟨c,rfl,f⟩⟩⟩⟩:=h;exact⟨a,b,c,rfl,d,e,f⟩
theorem Jw {w:World} {B:Nat} {x:fv} {a b c:Value} (d:ce cx w B a x.g.o) (e:ce Qb w B b x.g.q) (f:ce cn w B c x.p):bg.rd w B [.int .i64 x.g.Id, .int .i64 x.g.t,a,b, .int .i64 x.u, .int .i64 x.n,c] x:=⟨_,_,rfl,⟨_,_,rfl,⟨_,rfl,rfl⟩,⟨_,_,rfl,⟨_,rfl,rfl⟩,⟨_,_,rfl,⟨_,rfl,d⟩,⟨_,rfl,e⟩⟩⟩⟩,⟨_,_,rfl,⟨_,rfl,rfl⟩,⟨_,_,rfl,⟨_,rfl,rfl⟩,⟨_,rfl,f⟩⟩⟩⟩
def be:Ty gn:=rn (ke Qb (ke Qb (ke (ab Qb 3) (ke (ab Qb 3) (ab Qb 3))))) (fun x=>(x.D,x.C,x.v,x.B,x.p))
theorem sj {w:World} {B:Nat} {cs:List Value} {x:gn} (h:be.rd w B cs x):∃ a b c,cs=[.int .i64 x.D, .int .i64 x.C,a,b,c]∧ce Qb w B a x.v∧ce Qb w B b x.B∧ce Qb w B c x.p:=by
 obtain⟨_,_,rfl,⟨_,rfl,rfl⟩,⟨_,_,rfl,⟨_,rfl,rfl⟩,⟨_,_,rfl,⟨a,rfl,d⟩,⟨_,_,rfl,⟨b,rfl,e⟩,⟨c,rfl,f⟩⟩⟩⟩⟩:=h;exact⟨a,b,c,rfl,d,e,f⟩
theorem cR {w:World} {B:Nat} {x:gn} {a b c:Value} (d:ce Qb w B a x.v) (e:ce Qb w B b x.B) (f:ce Qb w B c x.p):be.rd w B [.int .i64 x.D, .int .i64 x.C,a,b,c] x:=⟨_,_,rfl,⟨_,rfl,rfl⟩,⟨_,_,rfl,⟨_,rfl,rfl⟩,⟨_,_,rfl,⟨_,rfl,d⟩,⟨_,_,rfl,⟨_,rfl,e⟩,⟨_,rfl,f⟩⟩⟩⟩⟩
def cc:Ty Qk:=rn (ke em (ke Qb (ke (ab Qb 3) (ke (ab Qu 61) (ke (ab bg 80) (ke (ab be 102) Qb)))))) (fun x=>(x.d,x.l,x.k,x.c,x.f,x.j,x.n))
theorem nq {w:World} {B:Nat} {cs:List Value} {x:Qk} (h:cc.rd w B cs x):∃ b g i m o,cs=[b, .int .i64 x.d.e, .int .i64 x.l,g,i,m,o, .int .i64 x.n]∧ce (ab Qp 163) w B b x.d.a∧ce Qb w B g x.k∧ce Qu w B i x.c∧ce bg w B m x.f∧ce be w B o x.j:=by
 obtain⟨_,_,rfl,⟨_,_,rfl,⟨b,rfl,p⟩,⟨_,rfl,rfl⟩⟩,⟨_,_,rfl,⟨_,rfl,rfl⟩,⟨_,_,rfl,⟨g,rfl,r⟩,⟨_,_,rfl,⟨i,rfl,s⟩,⟨_,_,rfl,⟨m,rfl,t⟩,⟨_,_,rfl,⟨o,rfl,u⟩,⟨_,rfl,rfl⟩⟩⟩⟩⟩⟩⟩:=h;exact⟨b,g,i,m,o,rfl,p,r,s,t,u⟩
theorem fx {w:World} {B:Nat} {x:Qk} {b g h i m:Value} (o:ce (ab Qp 163) w B b x.d.a) (p:ce Qb w B g x.k) (r:ce Qu w B h x.c) (s:ce bg w B i x.f) (t:ce be w B m x.j):cc.rd w B [b, .int .i64 x.d.e, .int .i64 x.l,g,h,i,m, .int .i64 x.n] x:=⟨_,_,rfl,⟨_,_,rfl,⟨_,rfl,o⟩,⟨_,rfl,rfl⟩⟩,⟨_,_,rfl,⟨_,rfl,rfl⟩,⟨_,_,rfl,⟨_,rfl,p⟩,⟨_,_,rfl,⟨_,rfl,r⟩,⟨_,_,rfl,⟨_,rfl,s⟩,⟨_,_,rfl,⟨_,rfl,t⟩,⟨_,rfl,rfl⟩⟩⟩⟩⟩⟩⟩
structure dp where
 Kind:Int
 Row:bf
 Field:Int
 Value:Int
instance:Inhabited dp:=⟨⟨default,default,default,default⟩⟩
def jx:Ty dp:=rn (ke Qb (ke cn (ke Qb Qb))) (fun x=>(x.Kind,x.Row,x.Field,x.Value))
theorem cS {w:World} {B:Nat} {cs:List Value} {x:dp} (h:jx.rd w B cs x):∃ a,cs=[.int .i64 x.Kind, .int .i64 x.Row.Id,a, .int .i64 x.Field, .int .i64 x.Value]∧ce Qb w B a x.Row.m:=by
 obtain⟨_,_,rfl,⟨_,rfl,rfl⟩,⟨_,_,rfl,⟨_,_,rfl,⟨_,rfl,rfl⟩,⟨a,rfl,b⟩⟩,⟨_,_,rfl,⟨_,rfl,rfl⟩,⟨_,rfl,rfl⟩⟩⟩⟩:=h;exact⟨a,rfl,b⟩
theorem sk {w:World} {B:Nat} {x:dp} {a:Value} (b:ce Qb w B a x.Row.m):jx.rd w B [.int .i64 x.Kind, .int .i64 x.Row.Id,a, .int .i64 x.Field, .int .i64 x.Value] x:=⟨_,_,rfl,⟨_,rfl,rfl⟩,⟨_,_,rfl,⟨_,_,rfl,⟨_,rfl,rfl⟩,⟨_,rfl,b⟩⟩,⟨_,_,rfl,⟨_,rfl,rfl⟩,⟨_,rfl,rfl⟩⟩⟩⟩
structure ar where
 i:Nat
 h:Int
instance:Inhabited ar:=⟨⟨default,default⟩⟩
structure gc where
 I:Int
 To:Int
 E:(List Int)
instance:Inhabited gc:=⟨⟨default,default,default⟩⟩
def kx:Ty gc:=rn (ke Qb (ke Qb (ab Qb 3))) (fun x=>(x.I,x.To,x.E))
theorem Kf {w:World} {B:Nat} {cs:List Value} {x:gc} (h:kx.rd w B cs x):∃ a,cs=[.int .i64 x.I, .int .i64 x.To,a]∧ce Qb w B a x.E:=by
 obtain⟨_,_,rfl,⟨_,rfl,rfl⟩,⟨_,_,rfl,⟨_,rfl,rfl⟩,⟨a,rfl,b⟩⟩⟩:=h;exact⟨a,rfl,b⟩
structure nm where
 J:(List bk)
 F:(List (List gc))
instance:Inhabited nm:=⟨⟨default,default⟩⟩
def ud:Ty nm:=rn (ke (ab es 58) (ab (ab kx 238) 225)) (fun x=>(x.J,x.F))
theorem Ka {w:World} {B:Nat} {cs:List Value} {x:nm} (h:ud.rd w B cs x):∃ a b,cs=[a,b]∧ce es w B a x.J∧ce (ab kx 238) w B b x.F:=by
 obtain⟨_,_,rfl,⟨a,rfl,c⟩,⟨b,rfl,d⟩⟩:=h;exact⟨a,b,rfl,c,d⟩
theorem Jz {w:World} {B:Nat} {x:nm} {a b:Value} (c:ce es w B a x.J) (d:ce (ab kx 238) w B b x.F):ud.rd w B [a,b] x:=⟨_,_,rfl,⟨_,rfl,c⟩,⟨_,rfl,d⟩⟩
theorem Jv {a b c d e f:Int} (w:World):(binOp .neq 180 (.agg #[.int .i64 a, .int .i64 b, .int .i64 c]) (.agg #[.int .i64 d, .int .i64 e, .int .i64 f])).run Tryz.prog w= .ok (.bool (!((a==d) && (b==e) && (c==f)))) w:=by
 have:=Tryz.underlying3;have:=Tryz.isAgg3;have:=Tryz.sizeOf3;have hS:Tryz.prog.underlying 180=some (.struct (Tryz.prog.fieldsOf 180)):=by kernel_rfl
 have hp:Tryz.prog.stoodInHeld 180=false:=by kernel_rfl
 rw[run_neq_struct,show(10000:Nat)=9999+1 from rfl,run_equalIn_agg w 9999 180 _ _ hS hp];simp only[Program.fieldsOf,Tryz.underlying180]
 go_simp
 by_cases j:a=d <;>by_cases k:b=e <;>by_cases l:c=f <;>simp[j,k,l]
def bZ (B:Nat) (x:Qx):Prop:=x.m.length<=B
def ma (B:Nat) (x:Qy):Prop:=(x.a.length<=B∧∀ y∈x.a,(y.length<=B∧∀ b∈y,bZ B b))
def lj (B:Nat) (x:bk):Prop:=x.o.length<=B∧x.q.length<=B
def pq (B:Nat) (x:bf):Prop:=x.m.length<=B
def rA (B:Nat) (x:Qq):Prop:=lj B x.g∧x.r.length<=B∧(x.p.length<=B∧∀ y∈x.p,pq B y)
def rC (B:Nat) (x:fv):Prop:=lj B x.g∧(x.p.length<=B∧∀ y∈x.p,pq B y)
def bW (B:Nat) (x:gn):Prop:=x.v.length<=B∧x.B.length<=B∧x.p.length<=B
def lz (B:Nat) (x:Qk):Prop:=ma B x.d∧x.k.length<=B∧(x.c.length<=B∧∀ y∈x.c,rA B y)∧(x.f.length<=B∧∀ y∈x.f,rC B y)∧(x.j.length<=B∧∀ y∈x.j,bW B y)
theorem lM {w:World} {L:List Nat} {cs:List Value} {x:Qx} (h:Qp.own w L cs x):∃ g:Value,cs=[.int .i64 x.Id,g, .int .i64 x.w, .int .i64 x.x]∧Sep [Qg (ab Qb 3) [g] x.m] w L:=by
 obtain⟨_,_,_,_,rfl,rfl,⟨rfl,_,rfl,rfl⟩,⟨_,_,_,_,rfl,rfl,⟨b,rfl,a⟩,⟨_,_,_,_,rfl,rfl,⟨rfl,_,rfl,rfl⟩,⟨rfl,_,rfl,rfl⟩⟩⟩⟩:=h;exact⟨b,rfl,Sep.cast (⟨_,[],(List.append_nil _).symm,⟨_,rfl,a⟩,rfl⟩) (by simp)⟩
theorem cT {P:Program} {N B:Nat} {a:World} {Q:Exit->Act->World->Prop} {L:List (Nat×Value)} {is:List It} {ops:Array Oper} {l:List Oper} {z:List Value} {x:Qx} (h:∀ g:Value,z=[.int .i64 x.Id,g, .int .i64 x.w, .int .i64 x.x]->WM P N B a ops Q l L (Qg (ab Qb 3) [g] x.m::is)):WM P N B a ops Q l L (Qg Qp z x::is):=nn (γ:=Value) (js:=fun g=>[Qg (ab Qb 3) [g] x.m]) (C:=fun g=>z=[.int .i64 x.Id,g, .int .i64 x.w, .int .i64 x.x]) (fun _ _ h=>lM h) h
theorem mh {w:World} {L:List Nat} {x:Qx} {a:Value} (h:Sep [Qg (ab Qb 3) [a] x.m] w L):Qp.own w L [.int .i64 x.Id,a, .int .i64 x.w, .int .i64 x.x] x:=by
 obtain⟨_,_,rfl,b,c⟩:=Sep.cons h;cases (Sep.nil c)
 exact sc (T:=Qp) (cs:=[.int .i64 x.Id,a, .int .i64 x.w, .int .i64 x.x]) (x:=x) ⟨_,_,_,_,rfl,rfl,cw,⟨_,_,_,_,rfl,rfl,b,⟨_,_,_,_,rfl,rfl,cw,cw⟩⟩⟩ (by simp)
theorem yy {w:World} {L:List Nat} {cs:List Value} {x:Qy} (h:em.own w L cs x):∃ g:Value,cs=[g, .int .i64 x.e]∧Sep [Qg (ab (ab Qp 163) 100) [g] x.a] w L:=by
 obtain⟨_,_,_,_,rfl,rfl,⟨c,rfl,b⟩,⟨rfl,_,rfl,rfl⟩⟩:=h;exact⟨c,rfl,Sep.cast (⟨_,[],(List.append_nil _).symm,⟨_,rfl,b⟩,rfl⟩) (by simp)⟩
theorem lb {P:Program} {N B:Nat} {b:World} {Q:Exit->Act->World->Prop} {L:List (Nat×Value)} {is:List It} {ops:Array Oper} {l:List Oper} {z:List Value} {x:Qy} (h:∀ g:Value,z=[g, .int .i64 x.e]->WM P N B b ops Q l L (Qg (ab (ab Qp 163) 100) [g] x.a::is)):WM P N B b ops Q l L (Qg em z x::is):=nn (γ:=Value) (js:=fun g=>[Qg (ab (ab Qp 163) 100) [g] x.a]) (C:=fun g=>z=[g, .int .i64 x.e]) (fun _ _ h=>yy h) h
theorem gg {w:World} {L:List Nat} {x:Qy} {b:Value} (h:Sep [Qg (ab (ab Qp 163) 100) [b] x.a] w L):em.own w L [b, .int .i64 x.e] x:=by
 obtain⟨_,_,rfl,c,d⟩:=Sep.cons h;cases (Sep.nil d)
 exact sc (T:=em) (cs:=[b, .int .i64 x.e]) (x:=x) ⟨_,_,_,_,rfl,rfl,c,cw⟩ (by simp)
theorem yx {w:World} {L:List Nat} {x:jj} (h:Sep [] w L):cx.own w L [.int .i64 x.Field, .int .i64 x.G, .int .i64 x.H] x:=by
 cases (Sep.nil h)
 exact sc (T:=cx) (cs:=[.int .i64 x.Field, .int .i64 x.G, .int .i64 x.H]) (x:=x) ⟨_,_,_,_,rfl,rfl,cw,⟨_,_,_,_,rfl,rfl,cw,cw⟩⟩ (by simp)
theorem Kd {w:World} {L:List Nat} {cs:List Value} {x:bk} (h:es.own w L cs x):∃ g:Value×Value,cs=[.int .i64 x.Id, .int .i64 x.t,g.1,g.2]∧Sep [Qg (ab cx 180) [g.1] x.o,Qg (ab Qb 3) [g.2] x.q] w L:=by
 obtain⟨_,_,_,_,rfl,rfl,⟨rfl,_,rfl,rfl⟩,⟨_,_,_,_,rfl,rfl,⟨rfl,_,rfl,rfl⟩,⟨_,_,_,_,rfl,rfl,⟨c,rfl,a⟩,⟨d,rfl,b⟩⟩⟩⟩:=h;exact⟨(c,d),rfl,Sep.cast (⟨_,_,rfl,⟨_,rfl,a⟩,⟨_,[],(List.append_nil _).symm,⟨_,rfl,b⟩,rfl⟩⟩) (by simp)⟩
theorem ow {P:Program} {N B:Nat} {a:World} {Q:Exit->Act->World->Prop} {L:List (Nat×Value)} {is:List It} {ops:Array Oper} {l:List Oper} {z:List Value} {x:bk} (h:∀ g:Value×Value,z=[.int .i64 x.Id, .int .i64 x.t,g.1,g.2]->WM P N B a ops Q l L (Qg (ab cx 180) [g.1] x.o::Qg (ab Qb 3) [g.2] x.q::is)):WM P N B a ops Q l L (Qg es z x::is):=nn (γ:=Value×Value) (js:=fun g=>[Qg (ab cx 180) [g.1] x.o,Qg (ab Qb 3) [g.2] x.q]) (C:=fun g=>z=[.int .i64 x.Id, .int .i64 x.t,g.1,g.2]) (fun _ _ h=>Kd h) h
theorem th {w:World} {L:List Nat} {x:bk} {a b:Value} (h:Sep [Qg (ab cx 180) [a] x.o,Qg (ab Qb 3) [b] x.q] w L):es.own w L [.int .i64 x.Id, .int .i64 x.t,a,b] x:=by
 obtain⟨_,_,rfl,c,e⟩:=Sep.cons h;obtain⟨L1,K1,rfl,d,f⟩:=Sep.cons e;cases (Sep.nil f)
 exact sc (T:=es) (cs:=[.int .i64 x.Id, .int .i64 x.t,a,b]) (x:=x) ⟨_,_,_,_,rfl,rfl,cw,⟨_,_,_,_,rfl,rfl,cw,⟨_,_,_,_,rfl,rfl,c,d⟩⟩⟩ (by simp)
theorem Ke {w:World} {L:List Nat} {cs:List Value} {x:bf} (h:cn.own w L cs x):∃ g:Value,cs=[.int .i64 x.Id,g]∧Sep [Qg (ab Qb 3) [g] x.m] w L:=by
 obtain⟨_,_,_,_,rfl,rfl,⟨rfl,_,rfl,rfl⟩,⟨b,rfl,a⟩⟩:=h;exact⟨b,rfl,Sep.cast (⟨_,[],(List.append_nil _).symm,⟨_,rfl,a⟩,rfl⟩) (by simp)⟩
theorem ue {P:Program} {N B:Nat} {a:World} {Q:Exit->Act->World->Prop} {L:List (Nat×Value)} {is:List It} {ops:Array Oper} {l:List Oper} {z:List Value} {x:bf} (h:∀ g:Value,z=[.int .i64 x.Id,g]->WM P N B a ops Q l L (Qg (ab Qb 3) [g] x.m::is)):WM P N B a ops Q l L (Qg cn z x::is):=nn (γ:=Value) (js:=fun g=>[Qg (ab Qb 3) [g] x.m]) (C:=fun g=>z=[.int .i64 x.Id,g]) (fun _ _ h=>Ke h) h
theorem ti {w:World} {L:List Nat} {x:bf} {a:Value} (h:Sep [Qg (ab Qb 3) [a] x.m] w L):cn.own w L [.int .i64 x.Id,a] x:=by
 obtain⟨_,_,rfl,b,c⟩:=Sep.cons h;cases (Sep.nil c)
 exact sc (T:=cn) (cs:=[.int .i64 x.Id,a]) (x:=x) ⟨_,_,_,_,rfl,rfl,cw,b⟩ (by simp)
theorem nX {w:World} {L:List Nat} {cs:List Value} {x:Qq} (h:Qu.own w L cs x):∃ g:Value×Value×Value×Value,cs=[.int .i64 x.g.Id, .int .i64 x.g.t,g.1,g.2.1, .int .i64 x.u,g.2.2.1, .int .i64 x.y, .int .i64 x.A, .int .i64 x.z,g.2.2.2]∧Sep [Qg (ab cx 180) [g.1] x.g.o,Qg (ab Qb 3) [g.2.1] x.g.q,Qg (ab Qb 3) [g.2.2.1] x.r,Qg (ab cn 70) [g.2.2.2] x.p] w L:=by
 obtain⟨_,_,_,_,rfl,rfl,⟨_,_,_,_,rfl,rfl,⟨rfl,_,rfl,rfl⟩,⟨_,_,_,_,rfl,rfl,⟨rfl,_,rfl,rfl⟩,⟨_,_,_,_,rfl,rfl,⟨e,rfl,a⟩,⟨f,rfl,b⟩⟩⟩⟩,⟨_,_,_,_,rfl,rfl,⟨rfl,_,rfl,rfl⟩,⟨_,_,_,_,rfl,rfl,⟨i,rfl,c⟩,⟨_,_,_,_,rfl,rfl,⟨rfl,_,rfl,rfl⟩,⟨_,_,_,_,rfl,rfl,⟨rfl,_,rfl,rfl⟩,⟨_,_,_,_,rfl,rfl,⟨rfl,_,rfl,rfl⟩,⟨j,rfl,d⟩⟩⟩⟩⟩⟩⟩:=h;exact⟨(e,f,i,j),rfl,Sep.cast (⟨_,_,rfl,⟨_,rfl,a⟩,⟨_,_,rfl,⟨_,rfl,b⟩,⟨_,_,rfl,⟨_,rfl,c⟩,⟨_,[],(List.append_nil _).symm,⟨_,rfl,d⟩,rfl⟩⟩⟩⟩) (by simp)⟩
theorem sS {P:Program} {N B:Nat} {a:World} {Q:Exit->Act->World->Prop} {L:List (Nat×Value)} {is:List It} {ops:Array Oper} {l:List Oper} {z:List Value} {x:Qq} (h:∀ g:Value×Value×Value×Value,z=[.int .i64 x.g.Id, .int .i64 x.g.t,g.1,g.2.1, .int .i64 x.u,g.2.2.1, .int .i64 x.y, .int .i64 x.A, .int .i64 x.z,g.2.2.2]->WM P N B a ops Q l L (Qg (ab cx 180) [g.1] x.g.o::Qg (ab Qb 3) [g.2.1] x.g.q::Qg (ab Qb 3) [g.2.2.1] x.r::Qg (ab cn 70) [g.2.2.2] x.p::is)):WM P N B a ops Q l L (Qg Qu z x::is):=nn (γ:=Value×Value×Value×Value) (js:=fun g=>[Qg (ab cx 180) [g.1] x.g.o,Qg (ab Qb 3) [g.2.1] x.g.q,Qg (ab Qb 3) [g.2.2.1] x.r,Qg (ab cn 70) [g.2.2.2] x.p]) (C:=fun g=>z=[.int .i64 x.g.Id, .int .i64 x.g.t,g.1,g.2.1, .int .i64 x.u,g.2.2.1, .int .i64 x.y, .int .i64 x.A, .int .i64 x.z,g.2.2.2]) (fun _ _ h=>nX h) h
theorem pc {w:World} {L:List Nat} {x:Qq} {a b c d:Value} (h:Sep [Qg (ab cx 180) [a] x.g.o,Qg (ab Qb 3) [b] x.g.q,Qg (ab Qb 3) [c] x.r,Qg (ab cn 70) [d] x.p] w L):Qu.own w L [.int .i64 x.g.Id, .int .i64 x.g.t,a,b, .int .i64 x.u,c, .int .i64 x.y, .int .i64 x.A, .int .i64 x.z,d] x:=by
 obtain⟨_,_,rfl,e,k⟩:=Sep.cons h;obtain⟨L1,K1,rfl,f,l⟩:=Sep.cons k;obtain⟨_,K2,rfl,i,s2⟩:=Sep.cons l;obtain⟨_,_,rfl,j,m⟩:=Sep.cons s2;cases (Sep.nil m)
 exact sc (T:=Qu) (cs:=[.int .i64 x.g.Id, .int .i64 x.g.t,a,b, .int .i64 x.u,c, .int .i64 x.y, .int .i64 x.A, .int .i64 x.z,d]) (x:=x) ⟨_,_,_,_,rfl,rfl,⟨_,_,_,_,rfl,rfl,cw,⟨_,_,_,_,rfl,rfl,cw,⟨_,_,_,_,rfl,rfl,e,f⟩⟩⟩,⟨_,_,_,_,rfl,rfl,cw,⟨_,_,_,_,rfl,rfl,i,⟨_,_,_,_,rfl,rfl,cw,⟨_,_,_,_,rfl,rfl,cw,⟨_,_,_,_,rfl,rfl,cw,j⟩⟩⟩⟩⟩⟩ (by simp)
theorem Jy {w:World} {L:List Nat} {cs:List Value} {x:fv} (h:bg.own w L cs x):∃ g:Value×Value×Value,cs=[.int .i64 x.g.Id, .int .i64 x.g.t,g.1,g.2.1, .int .i64 x.u, .int .i64 x.n,g.2.2]∧Sep [Qg (ab cx 180) [g.1] x.g.o,Qg (ab Qb 3) [g.2.1] x.g.q,Qg (ab cn 70) [g.2.2] x.p] w L:=by
 obtain⟨_,_,_,_,rfl,rfl,⟨_,_,_,_,rfl,rfl,⟨rfl,_,rfl,rfl⟩,⟨_,_,_,_,rfl,rfl,⟨rfl,_,rfl,rfl⟩,⟨_,_,_,_,rfl,rfl,⟨d,rfl,a⟩,⟨e,rfl,b⟩⟩⟩⟩,⟨_,_,_,_,rfl,rfl,⟨rfl,_,rfl,rfl⟩,⟨_,_,_,_,rfl,rfl,⟨rfl,_,rfl,rfl⟩,⟨f,rfl,c⟩⟩⟩⟩:=h;exact⟨(d,e,f),rfl,Sep.cast (⟨_,_,rfl,⟨_,rfl,a⟩,⟨_,_,rfl,⟨_,rfl,b⟩,⟨_,[],(List.append_nil _).symm,⟨_,rfl,c⟩,rfl⟩⟩⟩) (by simp)⟩
theorem Jx {P:Program} {N B:Nat} {a:World} {Q:Exit->Act->World->Prop} {L:List (Nat×Value)} {is:List It} {ops:Array Oper} {l:List Oper} {z:List Value} {x:fv} (h:∀ g:Value×Value×Value,z=[.int .i64 x.g.Id, .int .i64 x.g.t,g.1,g.2.1, .int .i64 x.u, .int .i64 x.n,g.2.2]->WM P N B a ops Q l L (Qg (ab cx 180) [g.1] x.g.o::Qg (ab Qb 3) [g.2.1] x.g.q::Qg (ab cn 70) [g.2.2] x.p::is)):WM P N B a ops Q l L (Qg bg z x::is):=nn (γ:=Value×Value×Value) (js:=fun g=>[Qg (ab cx 180) [g.1] x.g.o,Qg (ab Qb 3) [g.2.1] x.g.q,Qg (ab cn 70) [g.2.2] x.p]) (C:=fun g=>z=[.int .i64 x.g.Id, .int .i64 x.g.t,g.1,g.2.1, .int .i64 x.u, .int .i64 x.n,g.2.2]) (fun _ _ h=>Jy h) h
theorem oA {w:World} {L:List Nat} {x:fv} {a b c:Value} (h:Sep [Qg (ab cx 180) [a] x.g.o,Qg (ab Qb 3) [b] x.g.q,Qg (ab cn 70) [c] x.p] w L):bg.own w L [.int .i64 x.g.Id, .int .i64 x.g.t,a,b, .int .i64 x.u, .int .i64 x.n,c] x:=by
 obtain⟨_,_,rfl,d,i⟩:=Sep.cons h;obtain⟨L1,K1,rfl,e,j⟩:=Sep.cons i;obtain⟨_,K2,rfl,f,s2⟩:=Sep.cons j;cases (Sep.nil s2)
 exact sc (T:=bg) (cs:=[.int .i64 x.g.Id, .int .i64 x.g.t,a,b, .int .i64 x.u, .int .i64 x.n,c]) (x:=x) ⟨_,_,_,_,rfl,rfl,⟨_,_,_,_,rfl,rfl,cw,⟨_,_,_,_,rfl,rfl,cw,⟨_,_,_,_,rfl,rfl,d,e⟩⟩⟩,⟨_,_,_,_,rfl,rfl,cw,⟨_,_,_,_,rfl,rfl,cw,f⟩⟩⟩ (by simp)
theorem Ju {w:World} {L:List Nat} {cs:List Value} {x:gn} (h:be.own w L cs x):∃ g:Value×Value×Value,cs=[.int .i64 x.D, .int .i64 x.C,g.1,g.2.1,g.2.2]∧Sep [Qg (ab Qb 3) [g.1] x.v,Qg (ab Qb 3) [g.2.1] x.B,Qg (ab Qb 3) [g.2.2] x.p] w L:=by
 obtain⟨_,_,_,_,rfl,rfl,⟨rfl,_,rfl,rfl⟩,⟨_,_,_,_,rfl,rfl,⟨rfl,_,rfl,rfl⟩,⟨_,_,_,_,rfl,rfl,⟨d,rfl,a⟩,⟨_,_,_,_,rfl,rfl,⟨e,rfl,b⟩,⟨f,rfl,c⟩⟩⟩⟩⟩:=h;exact⟨(d,e,f),rfl,Sep.cast (⟨_,_,rfl,⟨_,rfl,a⟩,⟨_,_,rfl,⟨_,rfl,b⟩,⟨_,[],(List.append_nil _).symm,⟨_,rfl,c⟩,rfl⟩⟩⟩) (by simp)⟩
theorem lJ {P:Program} {N B:Nat} {a:World} {Q:Exit->Act->World->Prop} {L:List (Nat×Value)} {is:List It} {ops:Array Oper} {l:List Oper} {z:List Value} {x:gn} (h:∀ g:Value×Value×Value,z=[.int .i64 x.D, .int .i64 x.C,g.1,g.2.1,g.2.2]->WM P N B a ops Q l L (Qg (ab Qb 3) [g.1] x.v::Qg (ab Qb 3) [g.2.1] x.B::Qg (ab Qb 3) [g.2.2] x.p::is)):WM P N B a ops Q l L (Qg be z x::is):=nn (γ:=Value×Value×Value) (js:=fun g=>[Qg (ab Qb 3) [g.1] x.v,Qg (ab Qb 3) [g.2.1] x.B,Qg (ab Qb 3) [g.2.2] x.p]) (C:=fun g=>z=[.int .i64 x.D, .int .i64 x.C,g.1,g.2.1,g.2.2]) (fun _ _ h=>Ju h) h
theorem nY {w:World} {L:List Nat} {x:gn} {a b c:Value} (h:Sep [Qg (ab Qb 3) [a] x.v,Qg (ab Qb 3) [b] x.B,Qg (ab Qb 3) [c] x.p] w L):be.own w L [.int .i64 x.D, .int .i64 x.C,a,b,c] x:=by
 obtain⟨_,_,rfl,d,g⟩:=Sep.cons h;obtain⟨L1,K1,rfl,e,i⟩:=Sep.cons g;obtain⟨_,K2,rfl,f,s2⟩:=Sep.cons i;cases (Sep.nil s2)
 exact sc (T:=be) (cs:=[.int .i64 x.D, .int .i64 x.C,a,b,c]) (x:=x) ⟨_,_,_,_,rfl,rfl,cw,⟨_,_,_,_,rfl,rfl,cw,⟨_,_,_,_,rfl,rfl,d,⟨_,_,_,_,rfl,rfl,e,f⟩⟩⟩⟩ (by simp)
theorem nZ {w:World} {L:List Nat} {cs:List Value} {x:Qk} (h:cc.own w L cs x):∃ g:Value×Value×Value×Value×Value,cs=[g.1, .int .i64 x.d.e, .int .i64 x.l,g.2.1,g.2.2.1,g.2.2.2.1,g.2.2.2.2, .int .i64 x.n]∧Sep [Qg (ab (ab Qp 163) 100) [g.1] x.d.a,Qg (ab Qb 3) [g.2.1] x.k,Qg (ab Qu 61) [g.2.2.1] x.c,Qg (ab bg 80) [g.2.2.2.1] x.f,Qg (ab be 102) [g.2.2.2.2] x.j] w L:=by
 obtain⟨_,_,_,_,rfl,rfl,⟨_,_,_,_,rfl,rfl,⟨r,rfl,b⟩,⟨rfl,_,rfl,rfl⟩⟩,⟨_,_,_,_,rfl,rfl,⟨rfl,_,rfl,rfl⟩,⟨_,_,_,_,rfl,rfl,⟨s,rfl,i⟩,⟨_,_,_,_,rfl,rfl,⟨t,rfl,m⟩,⟨_,_,_,_,rfl,rfl,⟨u,rfl,o⟩,⟨_,_,_,_,rfl,rfl,⟨v,rfl,p⟩,⟨rfl,_,rfl,rfl⟩⟩⟩⟩⟩⟩⟩:=h;exact⟨(r,s,t,u,v),rfl,Sep.cast (⟨_,_,rfl,⟨_,rfl,b⟩,⟨_,_,rfl,⟨_,rfl,i⟩,⟨_,_,rfl,⟨_,rfl,m⟩,⟨_,_,rfl,⟨_,rfl,o⟩,⟨_,[],(List.append_nil _).symm,⟨_,rfl,p⟩,rfl⟩⟩⟩⟩⟩) (by simp)⟩
theorem gy {P:Program} {N B:Nat} {b:World} {Q:Exit->Act->World->Prop} {L:List (Nat×Value)} {is:List It} {ops:Array Oper} {l:List Oper} {z:List Value} {x:Qk} (h:∀ g:Value×Value×Value×Value×Value,z=[g.1, .int .i64 x.d.e, .int .i64 x.l,g.2.1,g.2.2.1,g.2.2.2.1,g.2.2.2.2, .int .i64 x.n]->WM P N B b ops Q l L (Qg (ab (ab Qp 163) 100) [g.1] x.d.a::Qg (ab Qb 3) [g.2.1] x.k::Qg (ab Qu 61) [g.2.2.1] x.c::Qg (ab bg 80) [g.2.2.2.1] x.f::Qg (ab be 102) [g.2.2.2.2] x.j::is)):WM P N B b ops Q l L (Qg cc z x::is):=nn (γ:=Value×Value×Value×Value×Value) (js:=fun g=>[Qg (ab (ab Qp 163) 100) [g.1] x.d.a,Qg (ab Qb 3) [g.2.1] x.k,Qg (ab Qu 61) [g.2.2.1] x.c,Qg (ab bg 80) [g.2.2.2.1] x.f,Qg (ab be 102) [g.2.2.2.2] x.j]) (C:=fun g=>z=[g.1, .int .i64 x.d.e, .int .i64 x.l,g.2.1,g.2.2.1,g.2.2.2.1,g.2.2.2.2, .int .i64 x.n]) (fun _ _ h=>nZ h) h
theorem fz {w:World} {L:List Nat} {x:Qk} {b g i m o:Value} (h:Sep [Qg (ab (ab Qp 163) 100) [b] x.d.a,Qg (ab Qb 3) [g] x.k,Qg (ab Qu 61) [i] x.c,Qg (ab bg 80) [m] x.f,Qg (ab be 102) [o] x.j] w L):cc.own w L [b, .int .i64 x.d.e, .int .i64 x.l,g,i,m,o, .int .i64 x.n] x:=by
 obtain⟨_,_,rfl,p,v⟩:=Sep.cons h;obtain⟨L1,K1,rfl,r,y⟩:=Sep.cons v;obtain⟨_,K2,rfl,s,s2⟩:=Sep.cons y;obtain⟨_,_,rfl,t,z⟩:=Sep.cons s2;obtain⟨_,_,rfl,u,A⟩:=Sep.cons z;cases (Sep.nil A)
 exact sc (T:=cc) (cs:=[b, .int .i64 x.d.e, .int .i64 x.l,g,i,m,o, .int .i64 x.n]) (x:=x) ⟨_,_,_,_,rfl,rfl,⟨_,_,_,_,rfl,rfl,p,cw⟩,⟨_,_,_,_,rfl,rfl,cw,⟨_,_,_,_,rfl,rfl,r,⟨_,_,_,_,rfl,rfl,s,⟨_,_,_,_,rfl,rfl,t,⟨_,_,_,_,rfl,rfl,u,cw⟩⟩⟩⟩⟩⟩ (by simp)
def tc (B:Nat) (x:dp):Prop:=pq B x.Row
theorem Ki {w:World} {L:List Nat} {cs:List Value} {x:dp} (h:jx.own w L cs x):∃ g:Value,cs=[.int .i64 x.Kind, .int .i64 x.Row.Id,g, .int .i64 x.Field, .int .i64 x.Value]∧Sep [Qg (ab Qb 3) [g] x.Row.m] w L:=by
 obtain⟨_,_,_,_,rfl,rfl,⟨rfl,_,rfl,rfl⟩,⟨_,_,_,_,rfl,rfl,⟨_,_,_,_,rfl,rfl,⟨rfl,_,rfl,rfl⟩,⟨b,rfl,a⟩⟩,⟨_,_,_,_,rfl,rfl,⟨rfl,_,rfl,rfl⟩,⟨rfl,_,rfl,rfl⟩⟩⟩⟩:=h;exact⟨b,rfl,Sep.cast (⟨_,[],(List.append_nil _).symm,⟨_,rfl,a⟩,rfl⟩) (by simp)⟩
theorem aJ {P:Program} {N B:Nat} {a:World} {Q:Exit->Act->World->Prop} {L:List (Nat×Value)} {is:List It} {ops:Array Oper} {l:List Oper} {z:List Value} {x:dp} (h:∀ g:Value,z=[.int .i64 x.Kind, .int .i64 x.Row.Id,g, .int .i64 x.Field, .int .i64 x.Value]->WM P N B a ops Q l L (Qg (ab Qb 3) [g] x.Row.m::is)):WM P N B a ops Q l L (Qg jx z x::is):=nn (γ:=Value) (js:=fun g=>[Qg (ab Qb 3) [g] x.Row.m]) (C:=fun g=>z=[.int .i64 x.Kind, .int .i64 x.Row.Id,g, .int .i64 x.Field, .int .i64 x.Value]) (fun _ _ h=>Ki h) h
theorem qp {w:World} {L:List Nat} {x:dp} {a:Value} (h:Sep [Qg (ab Qb 3) [a] x.Row.m] w L):jx.own w L [.int .i64 x.Kind, .int .i64 x.Row.Id,a, .int .i64 x.Field, .int .i64 x.Value] x:=by
 obtain⟨_,_,rfl,b,c⟩:=Sep.cons h;cases (Sep.nil c)
 exact sc (T:=jx) (cs:=[.int .i64 x.Kind, .int .i64 x.Row.Id,a, .int .i64 x.Field, .int .i64 x.Value]) (x:=x) ⟨_,_,_,_,rfl,rfl,cw,⟨_,_,_,_,rfl,rfl,⟨_,_,_,_,rfl,rfl,cw,b⟩,⟨_,_,_,_,rfl,rfl,cw,cw⟩⟩⟩ (by simp)
def rF (B:Nat) (x:gc):Prop:=x.E.length<=B
theorem Kh {w:World} {L:List Nat} {cs:List Value} {x:gc} (h:kx.own w L cs x):∃ g:Value,cs=[.int .i64 x.I, .int .i64 x.To,g]∧Sep [Qg (ab Qb 3) [g] x.E] w L:=by
 obtain⟨_,_,_,_,rfl,rfl,⟨rfl,_,rfl,rfl⟩,⟨_,_,_,_,rfl,rfl,⟨rfl,_,rfl,rfl⟩,⟨b,rfl,a⟩⟩⟩:=h;exact⟨b,rfl,Sep.cast (⟨_,[],(List.append_nil _).symm,⟨_,rfl,a⟩,rfl⟩) (by simp)⟩
theorem Kg {P:Program} {N B:Nat} {a:World} {Q:Exit->Act->World->Prop} {L:List (Nat×Value)} {is:List It} {ops:Array Oper} {l:List Oper} {z:List Value} {x:gc} (h:∀ g:Value,z=[.int .i64 x.I, .int .i64 x.To,g]->WM P N B a ops Q l L (Qg (ab Qb 3) [g] x.E::is)):WM P N B a ops Q l L (Qg kx z x::is):=nn (γ:=Value) (js:=fun g=>[Qg (ab Qb 3) [g] x.E]) (C:=fun g=>z=[.int .i64 x.I, .int .i64 x.To,g]) (fun _ _ h=>Kh h) h
theorem sT {w:World} {L:List Nat} {x:gc} {a:Value} (h:Sep [Qg (ab Qb 3) [a] x.E] w L):kx.own w L [.int .i64 x.I, .int .i64 x.To,a] x:=by
 obtain⟨_,_,rfl,b,c⟩:=Sep.cons h;cases (Sep.nil c)
 exact sc (T:=kx) (cs:=[.int .i64 x.I, .int .i64 x.To,a]) (x:=x) ⟨_,_,_,_,rfl,rfl,cw,⟨_,_,_,_,rfl,rfl,cw,b⟩⟩ (by simp)
def rD (B:Nat) (x:nm):Prop:=(x.J.length<=B∧∀ y∈x.J,lj B y)∧(x.F.length<=B∧∀ y∈x.F,(y.length<=B∧∀ a∈y,rF B a))
theorem Kc {w:World} {L:List Nat} {cs:List Value} {x:nm} (h:ud.own w L cs x):∃ g:Value×Value,cs=[g.1,g.2]∧Sep [Qg (ab es 58) [g.1] x.J,Qg (ab (ab kx 238) 225) [g.2] x.F] w L:=by
 obtain⟨_,_,_,_,rfl,rfl,⟨c,rfl,a⟩,⟨d,rfl,b⟩⟩:=h;exact⟨(c,d),rfl,Sep.cast (⟨_,_,rfl,⟨_,rfl,a⟩,⟨_,[],(List.append_nil _).symm,⟨_,rfl,b⟩,rfl⟩⟩) (by simp)⟩
theorem Kb {P:Program} {N B:Nat} {a:World} {Q:Exit->Act->World->Prop} {L:List (Nat×Value)} {is:List It} {ops:Array Oper} {l:List Oper} {z:List Value} {x:nm} (h:∀ g:Value×Value,z=[g.1,g.2]->WM P N B a ops Q l L (Qg (ab es 58) [g.1] x.J::Qg (ab (ab kx 238) 225) [g.2] x.F::is)):WM P N B a ops Q l L (Qg ud z x::is):=nn (γ:=Value×Value) (js:=fun g=>[Qg (ab es 58) [g.1] x.J,Qg (ab (ab kx 238) 225) [g.2] x.F]) (C:=fun g=>z=[g.1,g.2]) (fun _ _ h=>Kc h) h
theorem lL {w:World} {L:List Nat} {x:nm} {a b:Value} (h:Sep [Qg (ab es 58) [a] x.J,Qg (ab (ab kx 238) 225) [b] x.F] w L):ud.own w L [a,b] x:=by
 obtain⟨_,_,rfl,c,e⟩:=Sep.cons h;obtain⟨L1,K1,rfl,d,f⟩:=Sep.cons e;cases (Sep.nil f)
 exact sc (T:=ud) (cs:=[a,b]) (x:=x) ⟨_,_,_,_,rfl,rfl,c,d⟩ (by simp)
abbrev Qh:=@Tryz.type3
abbrev Qs:=@Tryz.underlying39
abbrev Qt:=@Tryz.underlying25
abbrev Qv:=@Tryz.type39
abbrev Qz:=@Tryz.underlying3
abbrev au:=@Tryz.type34
abbrev ay:=@Tryz.underlying34
abbrev bo:=@Tryz.underlying35
abbrev bx:=@Tryz.underlying32
abbrev cg:=@Tryz.type25
abbrev cl:=@Tryz.underlying100
abbrev co:=@Tryz.type163
abbrev cq:=@Tryz.type61
abbrev cy:=@Tryz.underlying61
abbrev dh:=@Tryz.type58
abbrev di:=@Tryz.underlying58
abbrev dq:=@Tryz.underlying163
abbrev du:=@Tryz.underlying72
abbrev ef:=@Tryz.type35
abbrev ew:=@Tryz.type70
abbrev fp:=@Tryz.type32
abbrev ge:=@Tryz.underlying70
abbrev gh:=@Tryz.type100
abbrev gk:=@Tryz.underlying102
abbrev gl:=@Tryz.underlying59
abbrev gr:=@Tryz.underlying56
abbrev ib:=@Tryz.type72
abbrev jc:=@Tryz.underlying36
abbrev jr:=@Tryz.underlying37
abbrev jy:=@Tryz.type80
abbrev kf:=@Tryz.type102
abbrev ki:=@Tryz.underlying80
abbrev ld:=@Tryz.type180
abbrev lf:=@Tryz.type56
abbrev lh:=@Tryz.type59
abbrev me:=@Tryz.type36
abbrev mw:=@Tryz.type37
abbrev nj:=@Tryz.underlying180
abbrev oh:=@Tryz.underlying201
abbrev qq:=@Tryz.underlying225
abbrev tj:=@Tryz.underlying177
abbrev ug:=@Tryz.underlying4
abbrev vh:=@Tryz.underlying204
abbrev vi:=@Tryz.underlying49
abbrev aL:=@Tryz.underlying202
end Go.Proofs.YtdlminfjdodjoaaGreat
