/-
  A small kit of rules: a frame is known by a list of slots and values;one rule for each form of code and each kind of operation.
-/
import Derived.Test.YtdlminfjdodjoaaGreatRows
import Derived.WalkKit
import Derived.WalkSpells
import Derived.WalkLawsBesides
import Derived.Deep.Quiet
import Derived.Deep.LoopGhost
namespace Go.Proofs.YtdlminfjdodjoaaGreat
set_option linter.unusedVariables false
set_option linter.unusedSimpArgs false
open Go.RowKit
/-! ### Frames -/
def lk:List (Nat×Value)->Nat->Option Value
 | [],_=>none
 |p::L,n=>if p.1=n then some p.2 else lk L n
def ev (L:List (Nat×Value)):Operand->Option Value
 |.tmp t=>lk L t
 |.const v=>some v
 |.global g=>some (.pointer (some ⟨g,0,none⟩))
 |.func f=>some (.func (.func f) #[] #[])
structure Fr (N:Nat) (L:List (Nat×Value)) (a:Act):Prop where
 size:a.tmps.size=N
 defers:a.defers=[]
 slot:∀ k v,lk L k=some v->a.tmps.getD k undef=v
theorem Fr.eval {N:Nat} {L:List (Nat×Value)} {a:Act} (h:Fr N L a) {x:Operand} {v:Value} (hx:ev L x=some v):a.eval x=v:=by
 cases x with
 |tmp t=>exact h.slot t v hx
 |const u=>simpa [ev,Act.eval] using hx
 |global g=>simpa [ev,Act.eval] using hx
 |func f=>simpa [ev,Act.eval] using hx
theorem Fr.put {N:Nat} {L:List (Nat×Value)} {a:Act} (h:Fr N L a) {d:Nat} (hd:d<N) (v:Value):Fr N ((d,v)::L) (a.put (some d) v):=by
 refine⟨by simp[Act.put,h.size],by simp[Act.put,h.defers],fun k u hk=>?_⟩;unfold lk at hk
 by_cases e:d=k
 ·subst e;simp at hk;subst hk;simp[Act.put,Array.getD,h.size,hd]
 ·simp[e] at hk;have:=h.slot k u hk;rw[<- this];simp[Act.put,Array.getD_eq_getD_getElem?,e]
def mc (L' L:List (Nat×Value)):Prop:=∀ k v,lk L' k=some v->lk L k=some v
theorem Fr.sub {N:Nat} {L L':List (Nat×Value)} {a:Act} (h:Fr N L a) (b:mc L' L):Fr N L' a:=⟨h.size,h.defers,fun k v hk=>h.slot k v (b k v hk)⟩
theorem nd {L:List (Nat×Value)}:mc [] L:=fun _ _ h=>by simp[lk] at h
theorem fc {L L':List (Nat×Value)} {k:Nat} {v:Value} (a:lk L k=some v) (b:mc L' L):mc ((k,v)::L') L:=fun n u h=>by
 unfold lk at h
 by_cases e:k=n
 ·subst e;simp at h;rw[<- h];exact a
 ·simp[e] at h;exact b n u h
/-! ### Code -/
section
variable {P:Program} {N:Nat} {Q:Exit->Act->World->Prop} {L:List (Nat×Value)} {w:World}
def CW (P:Program) (N:Nat) (c:Code) (Q:Exit->Act->World->Prop) (L:List (Nat×Value)) (w:World):Prop:=∀ a,Fr N L a->c.wp P Q a w
def W (P:Program) (N:Nat) (ops:Array Oper) (Q:Exit->Act->World->Prop) (l:List Oper) (L:List (Nat×Value)) (w:World):Prop:=∀ a,Fr N L a->wpList P ops Q l a w
/-- What is asked at an exit. -/
def QW (N:Nat) (Q:Exit->Act->World->Prop) (e:Exit) (L:List (Nat×Value)) (w:World):Prop:=∀ a,Fr N L a->Q e a w
theorem CW.sub {c:Code} {L':List (Nat×Value)} (b:mc L' L) (h:CW P N c Q L' w):CW P N c Q L w:=fun a ha=>h a (ha.sub b)
theorem tX {x y:Code} (h:CW P N x (Exit.then (y.wp P Q) Q) L w):CW P N (.seq x y) Q L w:=fun a ha=>wp_seq (h a ha)
theorem tY (h:QW N Q .normal L w):CW P N .skip Q L w:=fun a ha=>wp_skip (h a ha)
theorem tT {id:Nat} (h:QW N Q (.exit id) L w):CW P N (.exit id) Q L w:=fun a ha=>wp_exit (h a ha)
theorem tW (h:QW N Q .ret L w):CW P N .ret Q L w:=fun a ha=>wp_ret (h a ha)
theorem tQ {id:Nat} {c:Code} (h:CW P N c (Exit.inBlock id Q) L w):CW P N (.block id c) Q L w:=fun a ha=>wp_block (h a ha)
theorem tS {c:Operand} {x y:Code} (hc:ev L c=some (.bool true)) (h:CW P N x Q L w):CW P N (.cond c x y) Q L w:=fun a ha=>wp_cond_true (ha.eval hc) (h a ha)
theorem tR {c:Operand} {x y:Code} (hc:ev L c=some (.bool false)) (h:CW P N y Q L w):CW P N (.cond c x y) Q L w:=fun a ha=>wp_cond_false (ha.eval hc) (h a ha)
theorem tV {id:Nat} {l:List Oper} (h:W P N l.toArray Q l L w):CW P N (.region id l.toArray false) Q L w:=fun a ha=>wp_region_lit (h a ha)
theorem wZ {ops:Array Oper} (h:QW N Q .normal L w):W P N ops Q [] L w:=fun a ha=>wpList_nil (h a ha)
theorem vQ {e:Exit} {L':List (Nat×Value)} (b:mc L' L) (h:QW N Q e L' w):QW N Q e L w:=fun a ha=>h a (ha.sub b)
/-- Behind a statement comes the next. -/
theorem vR {y:Code} {Q':Exit->Act->World->Prop} (h:CW P N y Q' L w):QW N (Exit.then (y.wp P Q') Q) .normal L w:=h
theorem vO {id:Nat} (h:QW N Q .normal L w):QW N (Exit.inBlock id Q) (.exit id) L w:=fun a ha=>by simpa [Exit.inBlock] using h a ha
/-- A loop: what is known at its head (slots,and a statement on state and world),and a measure. -/
theorem tU {σ:Type} {c:Code} (Lf:σ->List (Nat×Value)) (H:σ->World->Prop) (μ:σ->Nat) (s:σ) (g:mc (Lf s) L) (hH:H s w)
 (round:∀ s w,H s w->CW P N c (Exit.then (fun a w'=>∃ s',Fr N (Lf s') a∧H s' w'∧μ s'<μ s) Q) (Lf s) w):CW P N (.loop c) Q L w:=by
 intro a ha;refine wp_loop_ghost (fun n a w=>∃ s,μ s=n∧Fr N (Lf s) a∧H s w) _ ⟨s,rfl,ha.sub g,hH⟩ ?_;rintro n a w ⟨s,rfl,hf,hh⟩;refine wp_mono (round s w hh a hf) ?_;intro e a' w' hq;cases e with
 |normal=>
  obtain⟨s',b,d,f⟩:=hq;exact⟨_,f,s',rfl,b,d⟩
 |exit id=>exact hq
 |goto l=>exact hq
 |ret=>exact hq
 |panic ch=>exact hq
 |outgrown=>exact hq
theorem vP {σ:Type} {Lf:σ->List (Nat×Value)} {H:σ->World->Prop} {μ:σ->Nat} {m:Nat} (s':σ) (c:mc (Lf s') L) (hH:H s' w) (b:μ s'<m):
 QW N (Exit.then (fun a w'=>∃ s',Fr N (Lf s') a∧H s' w'∧μ s'<m) Q) .normal L w:=fun _ ha=>⟨s',ha.sub c,hH,b⟩
/-! ### Entry and end of a call -/
theorem uS {N:Nat} {args:Array Value} {L:List (Nat×Value)} (hN:args.size<=N) (h:∀ k v,lk L k=some v->args[k]?=some v):Fr N L { tmps:=args++Array.replicate (N-args.size) undef,defers:=[] }:=by
 refine⟨by simp;omega,rfl,fun k v hk=>?_⟩;have a:=h k v hk;obtain⟨hlt,he⟩:=Array.getElem?_eq_some_iff.1 a;simp[Array.getD,hlt,he];omega
theorem mi {args:Array Value}:∀ k v,lk [] k=some v->args[k]?=some v:=fun _ _ h=>by simp[lk] at h
theorem jl {args:Array Value} {k:Nat} {v:Value} {L:List (Nat×Value)} (a:args[k]?=some v) (b:∀ k v,lk L k=some v->args[k]?=some v):∀ n u,lk ((k,v)::L) n=some u->args[n]?=some u:=fun n u h=>by
 unfold lk at h
 by_cases e:k=n
 ·subst e;simp at h;rw[<- h];exact a
 ·simp[e] at h;exact b n u h
theorem fF {f:FuncId} {fn:Func} {c:Code} {args:Array Value} {R:Ending->World->Prop} (hf:P.funcs[f]?=some fn) (hb:fn.body=some c) (hN:fn.ntmps=N) (a:args.size<=N)
 (hL:∀ k v,lk L k=some v->args[k]?=some v) (h:CW P N c (bodyPost P fn R) L w):Calls P f args w R:=by
 subst hN;exact calls_of_wp hf hb (h _ (uS a hL))
theorem yW {fn:Func} {R:Ending->World->Prop} (hr:fn.results= #[]) (hR:R (.returned (.tuple #[])) w):QW N (bodyPost P fn R) .normal L w:=fun _ ha=>⟨ha.defers,_,results_none hr _ _ _,hR⟩
theorem yX {fn:Func} {R:Ending->World->Prop} {t:Nat} {v:Value} (hr:fn.results= #[.tmp t]) (hv:lk L t=some v) (hR:R (.returned v) w):QW N (bodyPost P fn R) .ret L w:=
 fun a ha=>⟨ha.defers,v,by rw[results_tmp hr,ha.slot t v hv],hR⟩
/-! ### Operations -/
def Wd (ops:Array Oper) (L:List (Nat×Value)) (o:Oper) (b:Bool):Prop:=∀ N a,Fr N L a->Region.wanted o (yielded ops a.tmps)=b
theorem Qf {ops:Array Oper} {o:Oper} (h:o.guard=none):Wd ops L o true:=fun _ a _=>by simp[Region.wanted,h]
def RV (P:Program) (L:List (Nat×Value)) (o:Oper) (w:World) (v:Value) (w':World):Prop:=∀ N a,Fr N L a->(execOp a.eval o).run P w= .ok (.value v) w'
def RS (P:Program) (L:List (Nat×Value)) (o:Oper) (w:World) (w':World):Prop:=∀ N a,Fr N L a->(execOp a.eval o).run P w= .ok .skip w'
theorem tp {ops:Array Oper} {o:Oper} {rest:List Oper} {d:Nat} {v:Value} {w':World} (hw:Wd ops L o true) (hd:o.dst=some d) (hN:d<N) (hr:RV P L o w v w') (h:W P N ops Q rest ((d,v)::L) w'):W P N ops Q (o::rest) L w:=by
 intro a ha;refine wpList_step fun K hK=>?_
 rw[if_pos (hw N a ha)];unfold Oper.wp;rw[hr N a ha,Oper.upon_value,hd];exact hK _ _ (h _ (ha.put hN v))
theorem Lo {ops:Array Oper} {o:Oper} {rest:List Oper} {w':World} (hw:Wd ops L o true) (hd:o.dst=none) (hr:RS P L o w w') (h:W P N ops Q rest L w'):W P N ops Q (o::rest) L w:=by
 intro a ha;refine wpList_step fun K hK=>?_
 rw[if_pos (hw N a ha)];unfold Oper.wp;rw[hr N a ha,Oper.upon_skip,hd];exact hK _ _ (h _ ha)
theorem xA {ops:Array Oper} {o:Oper} {rest:List Oper} {d:Nat} (hw:Wd ops L o false) (hd:o.dst=some d) (hN:d<N) (h:W P N ops Q rest ((d,undef)::L) w):W P N ops Q (o::rest) L w:=by
 intro a ha;refine wpList_step fun K hK=>?_
 rw[if_neg (by rw[hw N a ha];simp),hd];exact hK _ _ (h _ (ha.put hN _))
theorem az {ops:Array Oper} {o:Oper} {j:Nat} {want:Bool} {d:Nat} {b r:Bool} (h:o.guard=some (j,want)) (hj:(ops[j]?).bind (·.dst)=some d) (hd:lk L d=some (.bool b)) (hr:(b==want)=r):Wd ops L o r:=fun N a ha=>by
 have c:=ha.slot d _ hd;have hlt:d<a.tmps.size:=by
  rcases Nat.lt_or_ge d a.tmps.size with hl|hg
  ·exact hl
  ·rw[Array.getD,dif_neg (by omega)] at c;cases c
 have he:a.tmps[d]?=some (.bool b):=by
  rw[Array.getElem?_eq_getElem hlt]
  simpa [Array.getD,hlt] using c
 simp only[Region.wanted,h,yielded,hj,Option.bind_some,he];rw[<- hr];cases b <;>cases want <;>rfl
theorem bw {b c w r:Bool} (h:b=c) (e:(c==w)=r):(b==w)=r:=h ▸ e
theorem nt {b:Bool} (h:b=true):(!b)=false:=by rw[h];rfl
theorem nf {b:Bool} (h:b=false):(!b)=true:=by rw[h];rfl
/-- A guard at an operation that was passed over. -/
theorem eW {ops:Array Oper} {o:Oper} {j:Nat} {want:Bool} {d:Nat} (h:o.guard=some (j,want)) (hj:(ops[j]?).bind (·.dst)=some d) (hd:lk L d=some undef):Wd ops L o false:=fun N a ha=>by
 have b:=ha.slot d _ hd;simp only[Region.wanted,h,yielded,hj,Option.bind_some];cases he:a.tmps[d]? with
 |none=>cases want <;>rfl
 |some v=>
  have:v=undef:=by rw[<- b];simp[Array.getD_eq_getD_getElem?,he]
  subst this;cases want <;>rfl
theorem wy {x:Operand} {v:Value} {d:Option Nat} {ty:TypeId} {pos:String} {af:Array Edge} {g:Option (Nat×Bool)} (hx:ev L x=some v):RV P L ⟨d, .move x,ty,pos,af,g⟩ w v w:=fun N a ha=>by
 have b:=ha.eval hx;generalize a.eval=ρ at b ⊢;simp[execOp,b,go_sem]
theorem np {x:Operand} {v:Value} {d:Option Nat} {ty:TypeId} {pos:String} {af:Array Edge} {g:Option (Nat×Bool)} (hx:ev L x=some v):RV P L ⟨d, .assign x,ty,pos,af,g⟩ w v w:=fun N a ha=>by
 have b:=ha.eval hx;generalize a.eval=ρ at b ⊢;simp[execOp,b,go_sem]
theorem Ga {c x y:Operand} {v:Value} {b:Bool} {d:Option Nat} {ty:TypeId} {pos:String} {af:Array Edge} {g:Option (Nat×Bool)} (hc:ev L c=some (.bool b)) (hb:b=true) (hx:ev L x=some v):RV P L ⟨d, .pick c x y,ty,pos,af,g⟩ w v w:=fun N a ha=>by
 subst hb;have e:=ha.eval hx;have f:=ha.eval hc;generalize a.eval=ρ at e f ⊢;simp[execOp,e,f,go_sem]
theorem Fz {c x y:Operand} {v:Value} {b:Bool} {d:Option Nat} {ty:TypeId} {pos:String} {af:Array Edge} {g:Option (Nat×Bool)} (hc:ev L c=some (.bool b)) (hb:b=false) (hy:ev L y=some v):RV P L ⟨d, .pick c x y,ty,pos,af,g⟩ w v w:=fun N a ha=>by
 subst hb;have e:=ha.eval hy;have f:=ha.eval hc;generalize a.eval=ρ at e f ⊢;simp[execOp,e,f,go_sem]
theorem Fy {x:Operand} {b:Bool} {t:TypeId} {d:Option Nat} {ty:TypeId} {pos:String} {af:Array Edge} {g:Option (Nat×Bool)} (hx:ev L x=some (.bool b)):RV P L ⟨d, .unOp .not t x,ty,pos,af,g⟩ w (.bool !b) w:=fun N a ha=>by
 have c:=ha.eval hx;generalize a.eval=ρ at c ⊢;simp[execOp,c,go_sem]
theorem Fw {x y:Operand} {p q:Int} {t e:TypeId} {d:Option Nat} {ty:TypeId} {pos:String} {af:Array Edge} {g:Option (Nat×Bool)} (hx:ev L x=some (.int .i64 p)) (hy:ev L y=some (.int .i64 q)):
 RV P L ⟨d, .binOp .lss t x y e,ty,pos,af,g⟩ w (.bool (decide (p<q))) w:=fun N a ha=>by
 have b:=ha.eval hx;have c:=ha.eval hy;generalize a.eval=ρ at b c ⊢;simp[execOp,b,c,go_sem]
theorem mj {x y:Operand} {p q:Int} {t e:TypeId} {d:Option Nat} {ty:TypeId} {pos:String} {af:Array Edge} {g:Option (Nat×Bool)} (hx:ev L x=some (.int .i64 p)) (hy:ev L y=some (.int .i64 q)):
 RV P L ⟨d, .binOp .leq t x y e,ty,pos,af,g⟩ w (.bool (decide (p<=q))) w:=fun N a ha=>by
 have b:=ha.eval hx;have c:=ha.eval hy;generalize a.eval=ρ at b c ⊢;simp[execOp,b,c,go_sem]
theorem jz {x y:Operand} {p q:Int} {t e:TypeId} {d:Option Nat} {ty:TypeId} {pos:String} {af:Array Edge} {g:Option (Nat×Bool)} (hx:ev L x=some (.int .i64 p)) (hy:ev L y=some (.int .i64 q)):
 RV P L ⟨d, .binOp .gtr t x y e,ty,pos,af,g⟩ w (.bool (decide (q<p))) w:=fun N a ha=>by
 have b:=ha.eval hx;have c:=ha.eval hy;generalize a.eval=ρ at b c ⊢;simp[execOp,b,c,go_sem]
theorem oc {x y:Operand} {p q:Int} {t e:TypeId} {d:Option Nat} {ty:TypeId} {pos:String} {af:Array Edge} {g:Option (Nat×Bool)} (hx:ev L x=some (.int .i64 p)) (hy:ev L y=some (.int .i64 q)):
 RV P L ⟨d, .binOp .geq t x y e,ty,pos,af,g⟩ w (.bool (decide (q<=p))) w:=fun N a ha=>by
 have b:=ha.eval hx;have c:=ha.eval hy;generalize a.eval=ρ at b c ⊢;simp[execOp,b,c,go_sem]
theorem ed {x y:Operand} {p q:Int} {t e:TypeId} {d:Option Nat} {ty:TypeId} {pos:String} {af:Array Edge} {g:Option (Nat×Bool)} (hx:ev L x=some (.int .i64 p)) (hy:ev L y=some (.int .i64 q)):
 RV P L ⟨d, .binOp .eql t x y e,ty,pos,af,g⟩ w (.bool (p==q)) w:=fun N a ha=>by
 have b:=ha.eval hx;have c:=ha.eval hy;generalize a.eval=ρ at b c ⊢;simp[execOp,b,c,go_sem]
theorem Fx {x y:Operand} {p q:Int} {t e:TypeId} {d:Option Nat} {ty:TypeId} {pos:String} {af:Array Edge} {g:Option (Nat×Bool)} (hx:ev L x=some (.int .i64 p)) (hy:ev L y=some (.int .i64 q)):
 RV P L ⟨d, .binOp .neq t x y e,ty,pos,af,g⟩ w (.bool (p !=q)) w:=fun N a ha=>by
 have b:=ha.eval hx;have c:=ha.eval hy;generalize a.eval=ρ at b c ⊢;simp[execOp,b,c,go_sem]
theorem jB {x y:Operand} {p q:Int} {t e:TypeId} {d:Option Nat} {ty:TypeId} {pos:String} {af:Array Edge} {g:Option (Nat×Bool)} (hx:ev L x=some (.int .i64 p)) (hy:ev L y=some (.int .i64 q)):
 RV P L ⟨d, .binOp .add t x y e,ty,pos,af,g⟩ w (.int .i64 (IntKind.i64.wrap (p+q))) w:=fun N a ha=>by
 have b:=ha.eval hx;have c:=ha.eval hy;generalize a.eval=ρ at b c ⊢;simp[execOp,b,c,go_sem]
theorem ph {x y:Operand} {p q:Int} {t e:TypeId} {d:Option Nat} {ty:TypeId} {pos:String} {af:Array Edge} {g:Option (Nat×Bool)} (hx:ev L x=some (.int .i64 p)) (hy:ev L y=some (.int .i64 q)):
 RV P L ⟨d, .binOp .sub t x y e,ty,pos,af,g⟩ w (.int .i64 (IntKind.i64.wrap (p-q))) w:=fun N a ha=>by
 have b:=ha.eval hx;have c:=ha.eval hy;generalize a.eval=ρ at b c ⊢;simp[execOp,b,c,go_sem]
theorem bU {x y:Operand} {p q:Int} {t e:TypeId} {d:Option Nat} {ty:TypeId} {pos:String} {af:Array Edge} {g:Option (Nat×Bool)} (hx:ev L x=some (.int .i64 p)) (hy:ev L y=some (.int .i64 q)):
 RV P L ⟨d, .binOp .mul t x y e,ty,pos,af,g⟩ w (.int .i64 (IntKind.i64.wrap (p*q))) w:=fun N a ha=>by
 have b:=ha.eval hx;have c:=ha.eval hy;generalize a.eval=ρ at b c ⊢;simp[execOp,b,c,go_sem]
theorem qW {x y:Operand} {p q:Int} {t f:TypeId} {d:Option Nat} {ty:TypeId} {pos:String} {af:Array Edge} {g:Option (Nat×Bool)} (hx:ev L x=some (.int .i64 p)) (hy:ev L y=some (.int .i64 q)) (e:q≠0):
 RV P L ⟨d, .binOp .rem t x y f,ty,pos,af,g⟩ w (.int .i64 (p.tmod q)) w:=fun N a ha=>by
 have b:=ha.eval hx;have c:=ha.eval hy;generalize a.eval=ρ at b c ⊢;simp[execOp,b,c,go_sem,e]
theorem lO {n:Int} (h: -9223372036854775808<=n∧n<=9223372036854775807):IntKind.i64.wrap n=n:=IntWalk.i64_in _ h
theorem RV.cast {o:Oper} {v u:Value} {w':World} (h:RV P L o w v w') (e:v=u):RV P L o w u w':=e ▸ h
/-- 'a+b' on natural numbers. -/
theorem jC {x y:Operand} {p q:Nat} {t a:TypeId} {d:Option Nat} {ty:TypeId} {pos:String} {af:Array Edge} {g:Option (Nat×Bool)} (hx:ev L x=some (.int .i64 (p:Int))) (hy:ev L y=some (.int .i64 (q:Int))) (h:p+q<=9223372036854775807):
 RV P L ⟨d, .binOp .add t x y a,ty,pos,af,g⟩ w (.int .i64 ((p+q:Nat):Int)) w:=(jB hx hy).cast (by rw[lO (by omega)];rfl)
theorem sd {x y:Operand} {p q:Nat} {t a:TypeId} {d:Option Nat} {ty:TypeId} {pos:String} {af:Array Edge} {g:Option (Nat×Bool)} (hx:ev L x=some (.int .i64 (p:Int))) (hy:ev L y=some (.int .i64 (q:Int))) (h:q<=p) (h':p<=9223372036854775807):
 RV P L ⟨d, .binOp .sub t x y a,ty,pos,af,g⟩ w (.int .i64 ((p-q:Nat):Int)) w:=(ph hx hy).cast (by rw[lO (by omega)];congr 1;omega)
theorem zt {x y:Operand} {p q:Bool} {t e:TypeId} {d:Option Nat} {ty:TypeId} {pos:String} {af:Array Edge} {g:Option (Nat×Bool)} (ht:P.underlying t=some .bool) (hx:ev L x=some (.bool p)) (hy:ev L y=some (.bool q)):
 RV P L ⟨d, .binOp .eql t x y e,ty,pos,af,g⟩ w (.bool (p==q)) w:=fun N a ha=>by
 have b:=ha.eval hx;have c:=ha.eval hy;generalize a.eval=ρ at b c ⊢;simp[execOp,b,c,eqGuard,run_eql_bool (P:=P) w t p q ht]
theorem jG {x y:Operand} {p q:Bool} {t e:TypeId} {d:Option Nat} {ty:TypeId} {pos:String} {af:Array Edge} {g:Option (Nat×Bool)} (ht:P.underlying t=some .bool) (hx:ev L x=some (.bool p)) (hy:ev L y=some (.bool q)):
 RV P L ⟨d, .binOp .neq t x y e,ty,pos,af,g⟩ w (.bool (p !=q)) w:=fun N a ha=>by
 have b:=ha.eval hx;have c:=ha.eval hy;generalize a.eval=ρ at b c ⊢;simp[execOp,b,c,eqGuard,run_neq_bool (P:=P) w t p q ht];cases p <;>cases q <;>rfl
theorem Fs {t e ty:TypeId} (ht:P.underlying t=some (.slice e)) (A:Option Addr) (n c:Nat):(Builtin.len_ #[t] ty #[.slice A n c]).run P w= .ok (.int .i64 n) w:=by
 simp[Builtin.len_,run_underlying ht,goInt]
theorem Fv {x:Operand} {A:Option Addr} {n c:Nat} {t e:TypeId} {d:Option Nat} {ty:TypeId} {pos:String} {af:Array Edge} {g:Option (Nat×Bool)} (ht:P.underlying t=some (.slice e)) (hx:ev L x=some (.slice A n c)):
 RV P L ⟨d, .call ⟨.builtin .len,#[x],#[t]⟩,ty,pos,af,g⟩ w (.int .i64 n) w:=fun N a ha=>by
 have b:=ha.eval hx;generalize a.eval=ρ at b ⊢;simp[execOp,resolve,invoke,BigFrame.builtin_len,b,Fs ht]
theorem jF {x y:Operand} {p q:Int} {ts:Array TypeId} {d:Option Nat} {ty:TypeId} {pos:String} {af:Array Edge} {g:Option (Nat×Bool)} (hx:ev L x=some (.int .i64 p)) (hy:ev L y=some (.int .i64 q)):
 RV P L ⟨d, .call ⟨.builtin .min,#[x,y],ts⟩,ty,pos,af,g⟩ w (.int .i64 (if q<p then q else p)) w:=fun N a ha=>by
 have b:=ha.eval hx;have c:=ha.eval hy;generalize a.eval=ρ at b c ⊢;simp[execOp,resolve,invoke,builtin,b,c,run_min_int2]
theorem fb {x:Operand} {vs:Array Value} {i:Nat} {v:Value} {d:Option Nat} {ty:TypeId} {pos:String} {af:Array Edge} {g:Option (Nat×Bool)} (hx:ev L x=some (.tuple vs)) (hv:vs[i]?=some v):RV P L ⟨d, .extract x i,ty,pos,af,g⟩ w v w:=fun N a ha=>by
 have b:=ha.eval hx;generalize a.eval=ρ at b ⊢;simp[execOp,b,go_sem,Instr.extract,hv]
/-! addresses -/
theorem jE {x:Operand} {A:Addr} {s f o:Nat} {fs:Array Field} {fd:Field} {info:TypeInfo} {d:Option Nat} {ty:TypeId} {pos:String} {af:Array Edge} {g:Option (Nat×Bool)} (e:P.underlying s=some (.struct fs)) (hf:fs[f]?=some fd) (hi:P.info? fd.type=some info) (c:info.size≠0) (ho:fd.offset=o) (hx:ev L x=some (.pointer (some A))):
 RV P L ⟨d, .fieldAddr s x f,ty,pos,af,g⟩ w (.pointer (some (A.add o))) w:=fun N a ha=>by
 subst ho;have b:=ha.eval hx;generalize a.eval=ρ at b ⊢;simp[execOp,b,go_sem,Instr.fieldAt,run_underlying e,hf,fieldPlace,sizeOf,typeInfo,hi,c]
theorem xE (a:Addr) (i j:Nat):(a.add i).add j=a.add (i+j):=by
 unfold Addr.add
 by_cases hi:i=0 <;>by_cases hj:j=0 <;>simp[hi,hj,Nat.add_assoc]
theorem ir {x:Operand} {A:Addr} {s f a o:Nat} {fs:Array Field} {fd:Field} {info:TypeInfo} {d:Option Nat} {ty:TypeId} {pos:String} {af:Array Edge} {g:Option (Nat×Bool)} (c:P.underlying s=some (.struct fs)) (hf:fs[f]?=some fd) (hi:P.info? fd.type=some info) (b:info.size≠0) (ho:a+fd.offset=o) (hx:ev L x=some (.pointer (some (A.add a)))):
 RV P L ⟨d, .fieldAddr s x f,ty,pos,af,g⟩ w (.pointer (some (A.add o))) w:=(jE c hf hi b rfl hx).cast (by rw[xE,ho])
theorem qf {x i:Operand} {A:Addr} {n c k:Nat} {t e sz:Nat} {info:TypeInfo} {d:Option Nat} {ty:TypeId} {pos:String} {af:Array Edge} {g:Option (Nat×Bool)} (ht:P.underlying t=some (.slice e)) (he:P.info? e=some info) (hsz:info.size=sz)
 (hx:ev L x=some (.slice (some A) n c)) (hi:ev L i=some (.int .i64 (k:Int))) (hk:k<n):RV P L ⟨d, .indexAddr t x i,ty,pos,af,g⟩ w (.pointer (some (A.add (k*sz)))) w:=fun N a ha=>by
 have b:=ha.eval hx;have f:=ha.eval hi;generalize a.eval=ρ at b f ⊢;subst hsz;simp[execOp,b,f,Instr.indexAt,run_underlying ht,sizeOf,typeInfo,he,hk,asIntOf]
theorem gx {x i:Operand} {A:Addr} {n c:Nat} {k:Int} {t e sz:Nat} {info:TypeInfo} {d:Option Nat} {ty:TypeId} {pos:String} {af:Array Edge} {g:Option (Nat×Bool)} (ht:P.underlying t=some (.slice e)) (he:P.info? e=some info) (hsz:info.size=sz)
 (hx:ev L x=some (.slice (some A) n c)) (hi:ev L i=some (.int .i64 k)) (a:0<=k) (hk:k<n):RV P L ⟨d, .indexAddr t x i,ty,pos,af,g⟩ w (.pointer (some (A.add (k.toNat*sz)))) w:=
 qf ht he hsz hx (by rw[hi,Int.toNat_of_nonneg a]) (by omega)
theorem ci {x:Operand} {A:Addr} {t:TypeId} {td:TypeDesc} {u:Value} {d:Option Nat} {ty:TypeId} {pos:String} {af:Array Edge} {g:Option (Nat×Bool)} (ht:P.underlying t=some td) (hag:(match td with| .struct _| .array _ _=>true|_=>false)=false) (hx:ev L x=some (.pointer (some A))) (hc:w.cell? A=some u):
 RV P L ⟨d, .load t x,ty,pos,af,g⟩ w u w:=fun N a ha=>by
 have b:=ha.eval hx;generalize a.eval=ρ at b ⊢;cases td <;>simp_all [execOp,Instr.loadAt,loadVar,isAgg,run_underlying ht,go_sem]
end
end Go.Proofs.YtdlminfjdodjoaaGreat
