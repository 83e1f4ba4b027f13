/-
  The operations that read or change memory,said of items;calls;regions that draw their order;whole calls.
-/
import Derived.Test.YtdlminfjdodjoaaGreatVcB
import Derived.KernelRfl
namespace Go.Proofs.YtdlminfjdodjoaaGreat
set_option linter.unusedVariables false
set_option linter.unusedSimpArgs false
open Go.RowKit
section
variable {P:Program} {N B:Nat} {w0:World} {Q:Exit->Act->World->Prop} {L:List (Nat×Value)} {is:List It}
/-- A statement on every world that is as the items say. -/
def WM (P:Program) (N B:Nat) (w0:World) (ops:Array Oper) (Q:Exit->Act->World->Prop) (l:List Oper) (L:List (Nat×Value)) (is:List It):Prop:=∀ w,Mem B w0 is w->W P N ops Q l L w
def CM (P:Program) (N B:Nat) (w0:World) (c:Code) (Q:Exit->Act->World->Prop) (L:List (Nat×Value)) (is:List It):Prop:=∀ w,Mem B w0 is w->CW P N c Q L w
def QM (N B:Nat) (w0:World) (Q:Exit->Act->World->Prop) (e:Exit) (L:List (Nat×Value)) (is:List It):Prop:=∀ w,Mem B w0 is w->QW N Q e L w
theorem Qi {x y:Code} (h:CM P N B w0 x (Exit.then (y.wp P Q) Q) L is):CM P N B w0 (.seq x y) Q L is:=fun w hw=>tX (h w hw)
theorem an (h:QM N B w0 Q .normal L is):CM P N B w0 .skip Q L is:=fun w hw=>tY (h w hw)
theorem dj {id:Nat} (h:QM N B w0 Q (.exit id) L is):CM P N B w0 (.exit id) Q L is:=fun w hw=>tT (h w hw)
theorem Ql (h:QM N B w0 Q .ret L is):CM P N B w0 .ret Q L is:=fun w hw=>tW (h w hw)
theorem aw {id:Nat} {c:Code} (h:CM P N B w0 c (Exit.inBlock id Q) L is):CM P N B w0 (.block id c) Q L is:=fun w hw=>tQ (h w hw)
theorem Qr {c:Operand} {x y:Code} {b:Bool} (hc:ev L c=some (.bool b)) (hb:b=true) (h:CM P N B w0 x Q L is):CM P N B w0 (.cond c x y) Q L is:=fun w hw=>tS (hb ▸ hc) (h w hw)
theorem ah {c:Operand} {x y:Code} {b:Bool} (hc:ev L c=some (.bool b)) (hb:b=false) (h:CM P N B w0 y Q L is):CM P N B w0 (.cond c x y) Q L is:=fun w hw=>tR (hb ▸ hc) (h w hw)
theorem ao {id:Nat} {l:List Oper} (h:WM P N B w0 l.toArray Q l L is):CM P N B w0 (.region id l.toArray false) Q L is:=fun w hw=>tV (h w hw)
theorem bb {ops:Array Oper} (h:QM N B w0 Q .normal L is):WM P N B w0 ops Q [] L is:=fun w hw=>wZ (h w hw)
theorem vM {e:Exit} {L':List (Nat×Value)} (a:mc L' L) (h:QM N B w0 Q e L' is):QM N B w0 Q e L is:=fun w hw=>vQ a (h w hw)
theorem Qj {y:Code} {Q':Exit->Act->World->Prop} (h:CM P N B w0 y Q' L is):QM N B w0 (Exit.then (y.wp P Q') Q) .normal L is:=fun w hw=>vR (h w hw)
theorem av {K:Act->World->Prop} {id:Nat} (h:QM N B w0 Q (.exit id) L is):QM N B w0 (Exit.then K Q) (.exit id) L is:=h
theorem Qm {K:Act->World->Prop} (h:QM N B w0 Q .ret L is):QM N B w0 (Exit.then K Q) .ret L is:=h
theorem bq {id:Nat} (h:QM N B w0 Q .normal L is):QM N B w0 (Exit.inBlock id Q) .normal L is:=h
theorem ba {id:Nat} (h:QM N B w0 Q .ret L is):QM N B w0 (Exit.inBlock id Q) .ret L is:=h
theorem dk {id:Nat} (h:QM N B w0 Q .normal L is):QM N B w0 (Exit.inBlock id Q) (.exit id) L is:=fun w hw=>vO (h w hw)
theorem tN {σ:Type} {c:Code} (Lf:σ->List (Nat×Value)) (If:σ->List It) (H:σ->Prop) (μ:σ->Nat) (s:σ) (b:mc (Lf s) L) (hi:∀ w,Mem B w0 is w->Mem B w0 (If s) w) (hH:H s)
 (round:∀ s,H s->CM P N B w0 c (Exit.then (fun a w'=>∃ s',Fr N (Lf s') a∧(Mem B w0 (If s') w'∧H s')∧μ s'<μ s) Q) (Lf s) (If s)):CM P N B w0 (.loop c) Q L is:=fun w hw=>
 tU Lf (fun s w=>Mem B w0 (If s) w∧H s) μ s b ⟨hi w hw,hH⟩ fun s w h=>round s h.2 w h.1
/-- As CM_loop;the code and what follows are hidden while the round's state is put in. -/
theorem zb {σ:Type} {c:Code} (Lf:σ->List (Nat×Value)) (If:σ->List It) (H:σ->Prop) (μ:σ->Nat) (s:σ) (d:mc (Lf s) L) (hH:H s)
 (round:∀ s,H s->∀ c' R',c'=c->R'=(Exit.then (fun a w'=>∃ s',Fr N (Lf s') a∧(Mem B w0 (If s') w'∧H s')∧μ s'<μ s) Q)->CM P N B w0 c' R' (Lf s) (If s)) (hi:∀ w,Mem B w0 is w->Mem B w0 (If s) w:=by exact fun W b=>b):CM P N B w0 (.loop c) Q L is:=
 tN Lf If H μ s d hi hH fun s h=>round s h _ _ rfl rfl
theorem bu {σ:Type} {Lf:σ->List (Nat×Value)} {If:σ->List It} {H:σ->Prop} {μ:σ->Nat} {m:Nat} (s':σ) (c:mc (Lf s') L) (hi:∀ w,Mem B w0 is w->Mem B w0 (If s') w) (hH:H s') (b:μ s'<m):
 QM N B w0 (Exit.then (fun a w'=>∃ s',Fr N (Lf s') a∧(Mem B w0 (If s') w'∧H s')∧μ s'<m) Q) .normal L is:=fun w hw=>vP (H:=fun s w=>Mem B w0 (If s) w∧H s) s' c ⟨hi w hw,hH⟩ b
/-! operations that leave the world alone -/
theorem sv {ops:Array Oper} {o:Oper} {rest:List Oper} {d:Nat} {v:Value} (hr:∀ w,Mem B w0 is w->RV P L o w v w) (hw:Wd ops L o true) (hd:o.dst=some d) (hN:d<N) (h:WM P N B w0 ops Q rest ((d,v)::L) is):WM P N B w0 ops Q (o::rest) L is:=
 fun w a=>tp hw hd hN (hr w a) (h w a)
theorem Ln {ops:Array Oper} {o:Oper} {rest:List Oper} {d:Nat} (hw:Wd ops L o false) (hd:o.dst=some d) (hN:d<N) (h:WM P N B w0 ops Q rest ((d,undef)::L) is):WM P N B w0 ops Q (o::rest) L is:=
 fun w a=>xA hw hd hN (h w a)
/-! calls -/
def cU (L:List (Nat×Value)):List Operand->Option (List Value)
 | []=>some []
 |x::xs=>(ev L x).bind fun v=>(cU L xs).map (v :: ·)
theorem gB {a:Act} (ha:Fr N L a):∀ {xs:List Operand} {vs:List Value},cU L xs=some vs->xs.map a.eval=vs
 | [],vs,h=>by simp[cU] at h;simp[h]
 |x::xs,vs,h=>by
  simp only[cU,Option.bind_eq_some_iff,Option.map_eq_some_iff] at h;obtain⟨v,b,us,c,rfl⟩:=h;simp[ha.eval b,gB ha c]
/-- A function of the program that can be called. -/
def Cb (P:Program) (f:FuncId):Prop:=∃ fn c,P.funcs[f]?=some fn∧fn.body=some c∧fn.name ≠ "runtime.NumGoroutine"
theorem Fq {f:FuncId} {w:World} (hf:Cb P f) {a:Act} (ha:Fr N L a) {xs:List Operand} {vs:List Value} (hx:cU L xs=some vs)
 {d:Option Nat} {ts:Array TypeId} {ty:TypeId} {pos:String} {af:Array Edge} {g:Option (Nat×Bool)}:
 (execOp a.eval ⟨d, .call ⟨.value (.func f),xs.toArray,ts⟩,ty,pos,af,g⟩).run P w= .ok (.enter f vs.toArray) w:=by
 obtain⟨fn,c,b,h,i⟩:=hf;have e:xs.toArray.map a.eval=vs.toArray:=by rw[<- gB ha hx];simp
 rw[execOp_call_go,e];simp[callFunc,go_sem,b,h,i]
/-- What a call enters,and with which values. -/
structure Cl (P:Program) (L:List (Nat×Value)) (fo:Callee) (xs:Array Operand) (f:FuncId) (args:Array Value):Prop where
 go:∀ {N:Nat} {a:Act},Fr N L a->∀ {w:World} {d:Option Nat} {ts:Array TypeId} {ty:TypeId} {pos:String} {af:Array Edge} {g:Option (Nat×Bool)},(execOp a.eval ⟨d, .call ⟨fo,xs,ts⟩,ty,pos,af,g⟩).run P w= .ok (.enter f args) w
theorem Qo {f:FuncId} (hf:Cb P f) {xs:List Operand} {vs:List Value} (hx:cU L xs=some vs):Cl P L (.value (.func f)) xs.toArray f vs.toArray:=⟨fun ha=>Fq hf ha hx⟩
/-- A call: what it hands back,and the items that it leaves above the caller's memory. -/
theorem iv {ops:Array Oper} {rest:List Oper} {f:FuncId} {fo:Callee} {xs:Array Operand} {args:Array Value} {d:Nat} {ts:Array TypeId} {ty:TypeId} {pos:String} {af:Array Edge} {g:Option (Nat×Bool)} {χ:Type} {val:χ->Value} {js:χ->List It}
 (hcl:Cl P L fo xs f args)
 (hc:∀ w,Mem B w0 is w->Calls P f args w fun e w'=>∃ x:χ,e= .returned (val x)∧Mem w.heap.size w (js x) w')
 (hw:Wd ops L ⟨some d, .call ⟨fo,xs,ts⟩,ty,pos,af,g⟩ true) (hN:d<N)
 (h:∀ x,WM P N B w0 ops Q rest ((d,val x)::L) (js x++is)):WM P N B w0 ops Q (⟨some d, .call ⟨fo,xs,ts⟩,ty,pos,af,g⟩::rest) L is:=by
 intro w b a ha;refine wpList_step fun K hK=>?_
 rw[if_pos (hw N a ha)];unfold Oper.wp;rw[hcl.go ha,Oper.upon_enter];refine(hc w b).mono ?_;rintro e w' ⟨x,rfl,hm'⟩;exact hK _ _ (h x w' (b.call hm') _ (ha.put hN _))
/-- A call that hands back one known value and leaves nothing. -/
theorem ep {ops:Array Oper} {rest:List Oper} {f:FuncId} {fo:Callee} {xs:Array Operand} {args:Array Value} {d:Nat} {ts:Array TypeId} {ty:TypeId} {pos:String} {af:Array Edge} {g:Option (Nat×Bool)} {v:Value}
 (hcl:Cl P L fo xs f args)
 (hc:∀ w,Mem B w0 is w->Calls P f args w fun e w'=>e= .returned v∧Below w.heap.size w w')
 (hw:Wd ops L ⟨some d, .call ⟨fo,xs,ts⟩,ty,pos,af,g⟩ true) (hN:d<N)
 (h:WM P N B w0 ops Q rest ((d,v)::L) is):WM P N B w0 ops Q (⟨some d, .call ⟨fo,xs,ts⟩,ty,pos,af,g⟩::rest) L is:=by
 intro w b a ha;refine wpList_step fun K hK=>?_
 rw[if_pos (hw N a ha)];unfold Oper.wp;rw[hcl.go ha,Oper.upon_enter];refine(hc w b).mono ?_;rintro e w' ⟨rfl,hm'⟩;exact hK _ _ (h w' (b.ext hm') _ (ha.put hN _))
/-- A call that writes into items that it is given. -/
theorem dr {ops:Array Oper} {rest:List Oper} {f:FuncId} {fo:Callee} {xs:Array Operand} {args:Array Value} {d:Nat} {ts:Array TypeId} {ty:TypeId} {pos:String} {af:Array Edge} {g:Option (Nat×Bool)} {χ:Type} {val:χ->Value} {js:χ->List It}
 (hcl:Cl P L fo xs f args)
 (hc:∀ w,Mem B w0 is w->Calls P f args w fun e w'=>∃ x:χ,e= .returned (val x)∧Mem B w0 (js x) w')
 (hw:Wd ops L ⟨some d, .call ⟨fo,xs,ts⟩,ty,pos,af,g⟩ true) (hN:d<N)
 (h:∀ x,WM P N B w0 ops Q rest ((d,val x)::L) (js x)):WM P N B w0 ops Q (⟨some d, .call ⟨fo,xs,ts⟩,ty,pos,af,g⟩::rest) L is:=by
 intro w b a ha;refine wpList_step fun K hK=>?_
 rw[if_pos (hw N a ha)];unfold Oper.wp;rw[hcl.go ha,Oper.upon_enter];refine(hc w b).mono ?_;rintro e w' ⟨x,rfl,hm'⟩;exact hK _ _ (h x w' hm' _ (ha.put hN _))
/-! reading -/
theorem Mem.cell0 {w:World} (h:Mem B w0 is w) {A:Addr} (hb:A.block<B):w.cell? A=w0.cell? A:=h.below.cell hb
theorem jA {t:TypeId} {fs:Array Field} {info:TypeInfo} {A:Addr} {cs:List Value} {w:World} (ht:P.underlying t=some (.struct fs)) (hi:P.info? t=some info) (hz:info.size=cs.length)
 (hc:∀ j u,cs[j]?=some u->w.cell? (A.add j)=some u):(loadVar t A).run P w= .ok (.agg cs.toArray) w:=by
 have h:=run_loadCells_list (P:=P) w A cs hc;rw[<- hz] at h;simp[loadVar,isAgg,run_underlying ht,sizeOf,typeInfo,hi,h]
theorem Qw {x:Operand} {A:Addr} {t:TypeId} {fs:Array Field} {info:TypeInfo} {cs:List Value} {w:World} {d:Option Nat} {ty:TypeId} {pos:String} {af:Array Edge} {g:Option (Nat×Bool)}
 (ht:P.underlying t=some (.struct fs)) (hi:P.info? t=some info) (hz:info.size=cs.length) (hx:ev L x=some (.pointer (some A))) (hc:∀ j u,cs[j]?=some u->w.cell? (A.add j)=some u):
 RV P L ⟨d, .load t x,ty,pos,af,g⟩ w (.agg cs.toArray) w:=fun N a ha=>by
 have b:=ha.eval hx;generalize a.eval=ρ at b ⊢;simp[execOp,b,Instr.loadAt,Instr.sureAddr,jA ht hi hz hc]
def gt {α:Type} [Inhabited α] (xs:List α) (i:Nat):α:=xs.getD i default
theorem er {α:Type} [Inhabited α] {xs:List α} {i:Nat} (h:i<xs.length):xs[i]?=some (gt xs i):=by
 simp[gt,List.getD,h]
theorem bt {α:Type} [Inhabited α] {xs:List α} {i:Nat} (h:i<xs.length):gt xs i∈xs:=List.mem_of_getElem? (er h)
theorem kd {w:World} {B:Nat} {xs:List Int} {a:Addr} (h:∀ j x,xs[j]?=some x->∃ c',Qb.rd w B c' x∧∀ o u,c'[o]?=some u->w.cell? ((a.add (j*Qb.sz)).add o)=some u):
 ∀ j,j<xs.length->w.cell? (a.add (j*1))=some (.int .i64 (gt xs j)):=fun j hj=>by
 obtain⟨c',⟨_,rfl,rfl⟩,hc⟩:=h j _ (er hj);exact hc 0 _ rfl
theorem Mem.rdS0 {α:Type} {E:Ty α} {w:World} {v:Value} {x:List α} (h:Mem B w0 is w) (hr:ce E w0 B v x):ce E w w.heap.size v x:=by
 obtain⟨v',e,h'⟩:=h.rd0 (T:=ab E 0) (cs:=[v]) ⟨v,rfl,hr⟩;cases e
 exact h'
theorem Mem.rdSI {α:Type} {E:Ty α} {e:TypeId} {w:World} {v:Value} {x:List α} (h:Mem B w0 is w) {n:Nat} (hi:is[n]?=some (Qg (ab E e) [v] x)):ce E w w.heap.size v x:=by
 obtain⟨v',e,h'⟩:=h.rdI hi;cases e
 exact h'
theorem Mem.boxCells {w:World} {p:Nat} {e:TypeId} {cs:List Value} (h:Mem B w0 is w) {n:Nat} (hi:is[n]?=some (Qa p e cs)):∀ j u,cs[j]?=some u->w.cell? ((⟨p,0,none⟩:Addr).add j)=some u:=fun _ _ hu=>h.boxCell hi hu
theorem Mem.boxPart {w:World} {p o:Nat} {e:TypeId} {cs sub:List Value} (h:Mem B w0 is w) {n:Nat} (hi:is[n]?=some (Qa p e cs)) (a:(cs.drop o).take sub.length=sub):∀ j u,sub[j]?=some u->w.cell? (((⟨p,0,none⟩:Addr).add o).add j)=some u:=fun j u hu=>by
 rw[rt];refine h.boxCell hi ?_;rw[<- a] at hu;rw[List.getElem?_take] at hu
 split at hu
 ·rw[List.getElem?_drop] at hu;exact hu
 ·cases hu
/-- The cells of an element that came in. -/
theorem Mem.elCells {w:World} {A:Addr} {cs:List Value} (h:Mem B w0 is w) (hb:A.block<B) (hc:∀ o u,cs[o]?=some u->w0.cell? (A.add o)=some u):∀ o u,cs[o]?=some u->w.cell? (A.add o)=some u:=fun o u hu=>
 (h.cell0 (by rw[bj];exact hb)).trans (hc o u hu)
theorem Mem.elPart {w:World} {A:Addr} {cs sub:List Value} {k:Nat} (h:Mem B w0 is w) (hb:A.block<B) (hc:∀ o u,cs[o]?=some u->w0.cell? (A.add o)=some u) (a:(cs.drop k).take sub.length=sub):∀ o u,sub[o]?=some u->w.cell? ((A.add k).add o)=some u:=fun o u hu=>by
 rw[rt];refine h.elCells hb hc _ u ?_;rw[<- a] at hu;rw[List.getElem?_take] at hu
 split at hu
 ·rw[List.getElem?_drop] at hu;exact hu
 ·cases hu
theorem wX {α:Type} {ops:Array Oper} {l:List Oper} {E:Ty α} {e:TypeId} {v:Value} {xs:List α} {n:Nat} (hi:is[n]?=some (Qg (ab E e) [v] xs)) (h:∀ A c,v= .slice A xs.length c->xs.length<=9223372036854775807->WM P N B w0 ops Q l L is):WM P N B w0 ops Q l L is:=fun w a=>by
 obtain⟨hl,A,c,hv,_⟩:=a.rdSI hi;exact h A c hv hl w a
/-! new blocks -/
theorem ei {ops:Array Oper} {rest:List Oper} {d e:Nat} {x:Operand} {v:Value} {ty:TypeId} {pos:String} {af:Array Edge} {g:Option (Nat×Bool)} (hx:ev L x=some v)
 (hw:Wd ops L ⟨some d, .box e x,ty,pos,af,g⟩ true) (hN:d<N) (h:∀ p,WM P N B w0 ops Q rest ((d, .pointer (some ⟨p,0,none⟩))::L) (Qa p e v.cells.toList::is)):
 WM P N B w0 ops Q (⟨some d, .box e x,ty,pos,af,g⟩::rest) L is:=fun w c=>
 tp hw rfl hN (w':=w.alloc (.cells v.cells e)) (fun N a ha=>by
  have b:=ha.eval hx;generalize a.eval=ρ at b ⊢
  simp[execOp,b,Instr.box,newVar,newRow,go_sem]) (h w.heap.size _ (c.alloc _ _))
theorem br {ops:Array Oper} {rest:List Oper} {d e:Nat} {info:TypeInfo} {z:Value} {ty:TypeId} {pos:String} {af:Array Edge} {g:Option (Nat×Bool)} (hi:P.info? e=some info) (hz:info.zero=some z)
 (hw:Wd ops L ⟨some d, .alloc e,ty,pos,af,g⟩ true) (hN:d<N) (h:∀ p,WM P N B w0 ops Q rest ((d, .pointer (some ⟨p,0,none⟩))::L) (Qa p e z.cells.toList::is)):
 WM P N B w0 ops Q (⟨some d, .alloc e,ty,pos,af,g⟩::rest) L is:=fun w b=>
 tp hw rfl hN (w':=w.alloc (.cells z.cells e)) (fun N a ha=>by
  generalize a.eval=ρ
  simp[execOp,Instr.alloc,zeroValue,typeInfo,hi,hz,newVar,newRow,go_sem]) (h w.heap.size _ (b.alloc _ _))
/-! a store into a block of its own -/
theorem Mem.setRow {w:World} {p:Nat} {e:TypeId} {cs cs':List Value} (h:Mem B w0 (Qa p e cs::is) w):Mem B w0 (Qa p e cs'::is) (w.setRow p cs'.toArray):=
 h.upd fun L1 a hn hb=>⟨L1,⟨a.1,by obtain⟨rfl,hh⟩:=a;exact setRow_heap w p _ _ e _ hh⟩,hn,fun b hb=> .inl hb,rfl,rfl,rfl,by simp[World.setRow],fun b _ hbn=>setRow_other w p b _ (fun e=>hbn (by rw[a.1,e];simp))⟩
theorem ww {w:World} {p o:Nat} {e t:TypeId} {cs:List Value} {v:Value} {info:TypeInfo} (hp:w.heap[p]?=some (.cells cs.toArray e (0,0))) (hi:P.info? t=some info) (hz:info.size=v.cells.size) (hl:o+v.cells.size<=cs.length)
 (a:∀ u∈v.cells.toList,u.oneCell'=true):(storeVar t ((⟨p,0,none⟩:Addr).add o) v).run P w= .ok () (w.setRow p (cs.take o++v.cells.toList++cs.drop (o+v.cells.size)).toArray):=by
 have ea:(⟨p,0,none⟩:Addr).add o=⟨p,o,none⟩:=by
  unfold Addr.add;split
  ·rename_i h;rw[h]
  ·simp
 have h:=run_storeCells_at P p o e v.cells.toList 0 cs.toArray w hp (by simpa using hl) a;rw[ea];simp[storeVar,sizeOf,typeInfo,hi,hz,h]
theorem eu {ops:Array Oper} {rest:List Oper} {x y:Operand} {p o:Nat} {e t:TypeId} {cs cs':List Value} {js:List It} {v:Value} {info:TypeInfo} {ty:TypeId} {pos:String} {af:Array Edge} {g:Option (Nat×Bool)}
 (hmv:∀ w,Mem B w0 is w->Mem B w0 (Qa p e cs::js) w) (hi:P.info? t=some info) (hz:info.size=v.cells.size) (hl:o+v.cells.size<=cs.length) (d:v.cells.toList.all Value.oneCell'=true)
 (hx:ev L x=some (.pointer (some ((⟨p,0,none⟩:Addr).add o)))) (hy:ev L y=some v) (he:cs.take o++v.cells.toList++cs.drop (o+v.cells.size)=cs')
 (hw:Wd ops L ⟨none, .store t x y,ty,pos,af,g⟩ true) (h:WM P N B w0 ops Q rest L (Qa p e cs'::js)):WM P N B w0 ops Q (⟨none, .store t x y,ty,pos,af,g⟩::rest) L is:=fun w f=>by
 have hm':=hmv w f;obtain⟨hp,_⟩:=hm'.box (n:=0) rfl;subst he;refine Lo hw rfl (w':=w.setRow p (cs.take o++v.cells.toList++cs.drop (o+v.cells.size)).toArray) (fun N a ha=>?_) (h _ hm'.setRow);have b:=ha.eval hx;have c:=ha.eval hy;generalize a.eval=ρ at b c ⊢;simp only[execOp,b,c,Instr.storeAt,Instr.sureAddr];simp[ww (P:=P) hp hi hz hl (List.all_eq_true.1 d)]
/-! regions that draw their order,and only read -/
def QR (P:Program) (N B:Nat) (w0:World) (ops:Array Oper) (Q:Exit->Act->World->Prop) (l:List Oper) (L:List (Nat×Value)) (is:List It):Prop:=
 ∀ a,Fr N L a->wpQuiet P ops (fun w=>Mem B w0 is w) (fun a'=>∀ w',Mem B w0 is w'->Q .normal a' w') l a
theorem km {id:Nat} {l:List Oper} (b:P.follows .mixedOrders=true) (hB:Region.lexB .any l.toArray=true) (h:QR P N B w0 l.toArray Q l L is):CM P N B w0 (.region id l.toArray true) Q L is:=fun w hw a ha=>
 wp_region_quiet (C:=fun w=>Mem B w0 is w) b hB hw.drew (by simpa using h a ha)
theorem Ky {ops:Array Oper} (h:QM N B w0 Q .normal L is):QR P N B w0 ops Q [] L is:=fun a ha=>wpQuiet_nil fun w' hw'=>h w' hw' a ha
theorem Kz {ops:Array Oper} {o:Oper} {rest:List Oper} {d:Nat} {v:Value} (hr:∀ w,Mem B w0 is w->RV P L o w v w) (hw:Wd ops L o true) (hd:o.dst=some d) (hN:d<N) (h:QR P N B w0 ops Q rest ((d,v)::L) is):QR P N B w0 ops Q (o::rest) L is:=by
 intro a ha;refine wpQuiet_step fun K hK=>?_
 rw[if_pos (hw N a ha)];refine⟨v,fun w b=>?_,hK _ (by rw[hd];exact h _ (ha.put hN v))⟩;unfold Oper.quietAt;rw[hr w b N a ha];exact⟨rfl,rfl⟩
theorem dg {ops:Array Oper} {o:Oper} {rest:List Oper} {d:Nat} (hw:Wd ops L o false) (hd:o.dst=some d) (hN:d<N) (h:QR P N B w0 ops Q rest ((d,undef)::L) is):QR P N B w0 ops Q (o::rest) L is:=by
 intro a ha;refine wpQuiet_step fun K hK=>?_
 rw[if_neg (by rw[hw N a ha];simp)];exact hK _ (by rw[hd];exact h _ (ha.put hN _))
theorem ky {ops:Array Oper} {rest:List Oper} {f:FuncId} {fo:Callee} {xs:Array Operand} {args:Array Value} {d:Nat} {ts:Array TypeId} {ty:TypeId} {pos:String} {af:Array Edge} {g:Option (Nat×Bool)} {v:Value}
 (hcl:Cl P L fo xs f args)
 (hc:∀ w,Mem B w0 is w->Calls P f args w fun e w'=>e= .returned v∧Below w.heap.size w w')
 (hw:Wd ops L ⟨some d, .call ⟨fo,xs,ts⟩,ty,pos,af,g⟩ true) (hN:d<N)
 (h:QR P N B w0 ops Q rest ((d,v)::L) is):QR P N B w0 ops Q (⟨some d, .call ⟨fo,xs,ts⟩,ty,pos,af,g⟩::rest) L is:=by
 intro a ha;refine wpQuiet_step fun K hK=>?_
 rw[if_pos (hw N a ha)];refine⟨v,fun w b=>?_,hK _ (h _ (ha.put hN v))⟩;unfold Oper.quietAt;rw[hcl.go ha];exact⟨rfl,(hc w b).mono fun e w' ⟨c,i⟩=>⟨c,b.ext i⟩⟩
/-! entry and end -/
theorem mG {f:FuncId} {fn:Func} {c:Code} {args:Array Value} {w:World} {R:Ending->World->Prop} (hf:P.funcs[f]?=some fn) (hb:fn.body=some c) (hN:fn.ntmps=N) (a:args.size<=N)
 (hL:∀ k v,lk L k=some v->args[k]?=some v) (h:CM P N w.heap.size w c (bodyPost P fn R) L []):Calls P f args w R:=fF hf hb hN a hL (h w (Mem.start w))
/-- The same where the caller's own items are written. -/
theorem nv {f:FuncId} {fn:Func} {c:Code} {args:Array Value} {w:World} {R:Ending->World->Prop} (hf:P.funcs[f]?=some fn) (hb:fn.body=some c) (hN:fn.ntmps=N) (b:args.size<=N)
 (hL:∀ k v,lk L k=some v->args[k]?=some v) (a:Mem B w0 is w) (h:CM P N B w0 c (bodyPost P fn R) L is):Calls P f args w R:=fF hf hb hN b hL (h w a)
theorem Kx {fn:Func} {R:Ending->World->Prop} (hr:fn.results= #[]) (hR:∀ w,Mem B w0 is w->R (.returned (.tuple #[])) w):QM N B w0 (bodyPost P fn R) .normal L is:=fun w hw=>yW hr (hR w hw)
theorem dW {fn:Func} {R:Ending->World->Prop} {t:Nat} {v:Value} (hr:fn.results= #[.tmp t]) (hv:lk L t=some v) (hR:∀ w,Mem B w0 is w->R (.returned v) w):QM N B w0 (bodyPost P fn R) .ret L is:=fun w hw=>yX hr hv (hR w hw)
theorem Qc {α:Type} {b:Bool} {x y v:α} (h:b=true) (hx:x=v):cond b x y=v:=by rw[h];exact hx
theorem Qe {α:Type} {b:Bool} {x y v:α} (h:b=false) (hy:y=v):cond b x y=v:=by rw[h];exact hy
theorem eh {α β γ:Type} {e:α⊕β} {f:α->γ} {g:β->γ} {r:α} {v:γ} (h:e= .inl r) (hx:f r=v):Sum.elim f g e=v:=by rw[h];exact hx
theorem ca {α β γ:Type} {e:α⊕β} {f:α->γ} {g:β->γ} {s:β} {v:γ} (h:e= .inr s) (hx:g s=v):Sum.elim f g e=v:=by rw[h];exact hx
theorem Fb {a b:Bool} (h:b=a):Ending.returned (.bool a)=Ending.returned (.bool b):=by rw[h]
theorem Fc {a b:Int} (h:b=a):Ending.returned (.int .i64 a)=Ending.returned (.int .i64 b):=by rw[h]
/-- A loop over k,k+1, ..: 'inl': it has ended the call; 'inr': it has run out. -/
def ax {R S:Type} (body:Nat->S->R⊕S):Nat->Nat->S->R⊕S
 |0,_,s=> .inr s
 |f+1,k,s=>Sum.elim .inl (fun s'=>ax body f (k+1) s') (body k s)
theorem Fe {R S:Type} {body:Nat->S->R⊕S} {n k:Nat} {s s':S} {r:R⊕S} (hlt:k<n) (hb:body k s= .inr s') (hF:ax body (n-k) k s=r):ax body (n-(k+1)) (k+1) s'=r:=by
 rw[<- hF,show n-k=(n-(k+1))+1 by omega,ax,hb];rfl
theorem Ff {R S:Type} {body:Nat->S->R⊕S} {n k:Nat} {s:S} {x:R} {r:R⊕S} (hlt:k<n) (hb:body k s= .inl x) (hF:ax body (n-k) k s=r):r= .inl x:=by
 rw[<- hF,show n-k=(n-(k+1))+1 by omega,ax,hb];rfl
theorem dx {R S:Type} {body:Nat->S->R⊕S} {n k:Nat} {s:S} {r:R⊕S} (hge: ¬ k<n) (hF:ax body (n-k) k s=r):r= .inr s:=by
 rw[<- hF,show n-k=0 by omega,ax]
/-- A loop that may be left in its midst: 'inr (inl s)': left with s; 'inr (inr s)': on with s. -/
def gq {R S:Type} (body:Nat->S->R⊕(S⊕S)):Nat->Nat->S->R⊕S
 |0,_,s=> .inr s
 |f+1,k,s=>Sum.elim .inl (Sum.elim .inr (fun s'=>gq body f (k+1) s')) (body k s)
theorem nx {R S:Type} {body:Nat->S->R⊕S} {n k:Nat} {s s':S} {r:R⊕S} (hF:ax body (n-k) k s=r) (hb:body k s= .inr s') (hlt:k<n:=by omega):ax body (n-(k+1)) (k+1) s'=r:=Fe hlt hb hF
theorem nr {R S:Type} {body:Nat->S->R⊕S} {n k:Nat} {s:S} {x:R} {r:R⊕S} (hF:ax body (n-k) k s=r) (hb:body k s= .inl x) (hlt:k<n:=by omega):r= .inl x:=Ff hlt hb hF
theorem Fk {R S:Type} {body:Nat->S->R⊕(S⊕S)} {n k:Nat} {s s':S} {r:R⊕S} (hlt:k<n) (hb:body k s= .inr (.inr s')) (hF:gq body (n-k) k s=r):gq body (n-(k+1)) (k+1) s'=r:=by
 rw[<- hF,show n-k=(n-(k+1))+1 by omega,gq,hb];rfl
theorem Fj {R S:Type} {body:Nat->S->R⊕(S⊕S)} {n k:Nat} {s s':S} {r:R⊕S} (hlt:k<n) (hb:body k s= .inr (.inl s')) (hF:gq body (n-k) k s=r):r= .inr s':=by
 rw[<- hF,show n-k=(n-(k+1))+1 by omega,gq,hb];rfl
theorem oy {R S:Type} {body:Nat->S->R⊕(S⊕S)} {n k:Nat} {s s':S} {r:R⊕S} (hF:gq body (n-k) k s=r) (hb:body k s= .inr (.inr s')) (hlt:k<n:=by omega):gq body (n-(k+1)) (k+1) s'=r:=Fk hlt hb hF
theorem ro {R S:Type} {body:Nat->S->R⊕(S⊕S)} {n k:Nat} {s s':S} {r:R⊕S} (hF:gq body (n-k) k s=r) (hb:body k s= .inr (.inl s')) (hlt:k<n:=by omega):r= .inr s':=Fj hlt hb hF
/-- A loop that counts from k0 up to n. -/
theorem dw {S R X:Type} {c:Code} (F:Nat->S->X⊕S) (n b:Nat) (d:S) (e:R) (Lf:Nat×S×R->List (Nat×Value)) (If:Nat×S×R->List It) (I:Nat×S×R->Prop) (g:mc (Lf (b,d,e)) L) (hI:I (b,d,e))
 (round:∀ s:Nat×S×R,(s.1<=n∧ax F (n-s.1) s.1 s.2.1=ax F (n-b) b d∧I s)->∀ c' R',c'=c->R'=(Exit.then (fun a w'=>∃ s':Nat×S×R,Fr N (Lf s') a∧(Mem B w0 (If s') w'∧(s'.1<=n∧ax F (n-s'.1) s'.1 s'.2.1=ax F (n-b) b d∧I s'))∧n-s'.1<n-s.1) Q)->CM P N B w0 c' R' (Lf s) (If s))
 (hk:b<=n:=by omega) (hi:∀ w,Mem B w0 is w->Mem B w0 (If (b,d,e)) w:=by exact fun W f=>f):CM P N B w0 (.loop c) Q L is:=
 zb (σ:=Nat×S×R) Lf If (fun s=>s.1<=n∧ax F (n-s.1) s.1 s.2.1=ax F (n-b) b d∧I s) (fun s=>n-s.1) (b,d,e) g ⟨hk,rfl,hI⟩ round hi
theorem lU {S R X:Type} {c:Code} (F:Nat->S->X⊕(S⊕S)) (n b:Nat) (d:S) (e:R) (Lf:Nat×S×R->List (Nat×Value)) (If:Nat×S×R->List It) (I:Nat×S×R->Prop) (g:mc (Lf (b,d,e)) L) (hI:I (b,d,e))
 (round:∀ s:Nat×S×R,(s.1<=n∧gq F (n-s.1) s.1 s.2.1=gq F (n-b) b d∧I s)->∀ c' R',c'=c->R'=(Exit.then (fun a w'=>∃ s':Nat×S×R,Fr N (Lf s') a∧(Mem B w0 (If s') w'∧(s'.1<=n∧gq F (n-s'.1) s'.1 s'.2.1=gq F (n-b) b d∧I s'))∧n-s'.1<n-s.1) Q)->CM P N B w0 c' R' (Lf s) (If s))
 (hk:b<=n:=by omega) (hi:∀ w,Mem B w0 is w->Mem B w0 (If (b,d,e)) w:=by exact fun W f=>f):CM P N B w0 (.loop c) Q L is:=
 zb (σ:=Nat×S×R) Lf If (fun s=>s.1<=n∧gq F (n-s.1) s.1 s.2.1=gq F (n-b) b d∧I s) (fun s=>n-s.1) (b,d,e) g ⟨hk,rfl,hI⟩ round hi
/-! what a test says,both ways -/
theorem ff (p:Prop) [Decidable p]:(p∧decide p=true)∨(¬ p∧decide p=false):=by
 by_cases h:p
 ·exact .inl ⟨h,decide_eq_true h⟩
 ·exact .inr ⟨h,decide_eq_false h⟩
theorem fg (p q:Int):(p=q∧(p==q)=true)∨(¬ p=q∧(p==q)=false):=by
 by_cases h:p=q
 ·exact .inl ⟨h,beq_iff_eq.2 h⟩
 ·exact .inr ⟨h,beq_eq_false_iff_ne.2 h⟩
theorem kg (p q:Int):(p=q∧(p !=q)=false)∨(¬ p=q∧(p !=q)=true):=by
 by_cases h:p=q
 ·exact .inl ⟨h,by rw[h];exact bne_self_eq_false _⟩
 ·exact .inr ⟨h,bne_iff_ne.2 h⟩
theorem dz (k n:Nat):(k<n∧decide (((k:Nat):Int)<((n:Nat):Int))=true)∨(¬ k<n∧decide (((k:Nat):Int)<((n:Nat):Int))=false):=by
 by_cases h:k<n
 ·exact .inl ⟨h,decide_eq_true (by omega)⟩
 ·exact .inr ⟨h,decide_eq_false (by omega)⟩
theorem bd (b:Bool):b=true∨b=false:=Bool.eq_false_or_eq_true b
/-! how calls end -/
abbrev rI (w:World) (n:Int):Ending->World->Prop:=fun e w'=>e= .returned (.int .i64 n)∧Below w.heap.size w w'
abbrev rB (w:World) (b:Bool):Ending->World->Prop:=fun e w'=>e= .returned (.bool b)∧Below w.heap.size w w'
abbrev rO {α:Type} (w:World) (T:Ty α) (x:α):Ending->World->Prop:=fun e w'=>∃ v:List Value,e= .returned (.agg v.toArray)∧Mem w.heap.size w [Qg T v x] w'
abbrev rL {α:Type} (w:World) (T:Ty α) (x:α):Ending->World->Prop:=fun e w'=>∃ v:Value,e= .returned v∧Mem w.heap.size w [Qg T [v] x] w'
theorem mU {R S:Type} {body:Nat->S->R⊕(S⊕S)} {n k:Nat} {s:S} {r:R⊕S} (hge: ¬ k<n) (hF:gq body (n-k) k s=r):r= .inr s:=by
 rw[<- hF,show n-k=0 by omega,gq]
end
end Go.Proofs.YtdlminfjdodjoaaGreat
