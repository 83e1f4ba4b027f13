/-
  Memory: how a value of a type reads (rd),how it is owned (own),and what is known of the memory of a call (Mem): nothing below its first block has changed,and a list of items lies apart above.
-/
import Derived.Test.YtdlminfjdodjoaaGreatVcA
import Derived.Laws.OwnMore
import Derived.Deep.Slices
namespace Go.Proofs.YtdlminfjdodjoaaGreat
set_option linter.unusedVariables false
set_option linter.unusedSimpArgs false
open Go.RowKit
theorem bj (a:Addr) (n:Nat):(a.add n).block=a.block:=by unfold Addr.add;split <;>rfl
theorem rt (a:Addr) (i j:Nat):(a.add i).add j=a.add (i+j):=by
 unfold Addr.add
 by_cases hi:i=0 <;>by_cases hj:j=0 <;>simp[hi,hj,Nat.add_assoc]
theorem Bd {w w':World} {a:Addr} (h:w'.heap[a.block]?=w.heap[a.block]?):w'.cell? a=w.cell? a:=World.cell?_of_block h
/-- A type: how many cells;how cells read,with every block met below B;how they are owned,with the list of the blocks that they own. -/
structure Ty (α:Type) where
 sz:Nat
 rd:World->Nat->List Value->α->Prop
 own:World->List Nat->List Value->α->Prop
 rd_len:∀ {w B cs x},rd w B cs x->cs.length=sz
 rd_one:∀ {w B cs x},rd w B cs x->∀ u∈cs,u.oneCell'=true
 rd_keep:∀ {w w' B cs x},rd w B cs x->(∀ b,b<B->w'.heap[b]?=w.heap[b]?)->rd w' B cs x
 rd_mono:∀ {w B B' cs x},rd w B cs x->B<=B'->rd w B' cs x
 own_keep:∀ {w w' L cs x},own w L cs x->(∀ b∈L,w'.heap[b]?=w.heap[b]?)->own w' L cs x
 own_lt:∀ {w L cs x},own w L cs x->∀ b∈L,b<w.heap.size
 own_rd:∀ {w L B cs x},own w L cs x->(∀ b∈L,b<B)->rd w B cs x
section
variable {α β:Type}
theorem Ty.own_len (T:Ty α) {w:World} {L:List Nat} {cs:List Value} {x:α} (h:T.own w L cs x):cs.length=T.sz:=T.rd_len (B:=w.heap.size) (T.own_rd h (T.own_lt h))
theorem Ty.own_one (T:Ty α) {w:World} {L:List Nat} {cs:List Value} {x:α} (h:T.own w L cs x):∀ u∈cs,u.oneCell'=true:=T.rd_one (B:=w.heap.size) (T.own_rd h (T.own_lt h))
/-- A type that holds no address. -/
def lG (r:Value->α->Prop) (a:∀ v x,r v x->v.oneCell'=true):Ty α where
 sz:=1
 rd:=fun _ _ cs x=>∃ v,cs=[v]∧r v x
 own:=fun _ L cs x=>L=[]∧∃ v,cs=[v]∧r v x
 rd_len:=by rintro _ _ _ _ ⟨v,rfl,_⟩;rfl
 rd_one:=by rintro _ _ _ _ ⟨v,rfl,h⟩ u hu;rw[List.mem_singleton.1 hu];exact a _ _ h
 rd_keep:=fun h _=>h
 rd_mono:=fun h _=>h
 own_keep:=fun h _=>h
 own_lt:=by rintro _ _ _ _ ⟨rfl,_⟩ b hb;cases hb
 own_rd:=fun h _=>h.2
def Qb:Ty Int:=lG (fun v n=>v= .int .i64 n) (by rintro _ _ rfl;rfl)
def ke (A:Ty α) (C:Ty β):Ty (α×β) where
 sz:=A.sz+C.sz
 rd:=fun w B cs x=>∃ c1 a,cs=c1++a∧A.rd w B c1 x.1∧C.rd w B a x.2
 own:=fun w L cs x=>∃ L1 f c1 a,L=L1++f∧cs=c1++a∧A.own w L1 c1 x.1∧C.own w f a x.2
 rd_len:=by rintro _ _ _ _ ⟨c1,a,rfl,c,d⟩;rw[List.length_append,A.rd_len c,C.rd_len d]
 rd_one:=by
  rintro _ _ _ _ ⟨c1,a,rfl,c,d⟩ u hu;rcases List.mem_append.1 hu with h|h
  ·exact A.rd_one c u h
  ·exact C.rd_one d u h
 rd_keep:=fun⟨c1,a,e,c,d⟩ hk=>⟨c1,a,e,A.rd_keep c hk,C.rd_keep d hk⟩
 rd_mono:=fun⟨c1,a,e,c,d⟩ hk=>⟨c1,a,e,A.rd_mono c hk,C.rd_mono d hk⟩
 own_keep:=by
  rintro _ _ _ _ _ ⟨L1,f,c1,a,rfl,e,c,d⟩ hk;exact⟨L1,f,c1,a,rfl,e,A.own_keep c fun b hb=>hk b (List.mem_append_left _ hb),C.own_keep d fun b hb=>hk b (List.mem_append_right _ hb)⟩
 own_lt:=by
  rintro _ _ _ _ ⟨L1,f,c1,a,rfl,e,c,d⟩ b hb;rcases List.mem_append.1 hb with h|h
  ·exact A.own_lt c b h
  ·exact C.own_lt d b h
 own_rd:=by
  rintro _ _ _ _ _ ⟨L1,f,c1,a,rfl,e,c,d⟩ hk;exact⟨c1,a,e,A.own_rd c fun b hb=>hk b (List.mem_append_left _ hb),C.own_rd d fun b hb=>hk b (List.mem_append_right _ hb)⟩
def rn (A:Ty α) (f:β->α):Ty β where
 sz:=A.sz
 rd:=fun w B cs x=>A.rd w B cs (f x)
 own:=fun w L cs x=>A.own w L cs (f x)
 rd_len:=A.rd_len
 rd_one:=A.rd_one
 rd_keep:=A.rd_keep
 rd_mono:=A.rd_mono
 own_keep:=A.own_keep
 own_lt:=A.own_lt
 own_rd:=A.own_rd
/-! ### A row of elements that are owned -/
def Els (E:Ty α) (w:World):List Nat->List Value->List α->Prop
 |L,cs,[]=>L=[]∧cs=[]
 |L,cs,x::xs=>∃ L1 a c1 b,L=L1++a∧cs=c1++b∧E.own w L1 c1 x∧Els E w a b xs
theorem Els.len {E:Ty α} {w:World}:∀ {xs:List α} {L:List Nat} {cs:List Value},Els E w L cs xs->cs.length=xs.length*E.sz
 | [],_,_,⟨_,h⟩=>by simp[h]
 |x::xs,_,_,⟨L1,c,c1,d,_,h,a,b⟩=>by rw[h,List.length_append,E.own_len a,Els.len b,List.length_cons,Nat.add_mul];omega
theorem Els.one {E:Ty α} {w:World}:∀ {xs:List α} {L:List Nat} {cs:List Value},Els E w L cs xs->∀ u∈cs,u.oneCell'=true
 | [],_,_,⟨_,h⟩=>by simp[h]
 |x::xs,_,_,⟨L1,c,c1,d,_,h,a,b⟩=>by
  subst h;intro u hu;rcases List.mem_append.1 hu with h|h
  ·exact E.own_one a u h
  ·exact Els.one b u h
theorem Els.keep {E:Ty α} {w w':World}:∀ {xs:List α} {L:List Nat} {cs:List Value},Els E w L cs xs->(∀ b∈L,w'.heap[b]?=w.heap[b]?)->Els E w' L cs xs
 | [],_,_,h,_=>h
 |x::xs,_,_,⟨L1,a,c1,c,e,h,d,f⟩,hk=>by
  subst e;exact⟨L1,a,c1,c,rfl,h,E.own_keep d fun b hb=>hk b (List.mem_append_left _ hb),Els.keep f fun b hb=>hk b (List.mem_append_right _ hb)⟩
theorem Els.lt {E:Ty α} {w:World}:∀ {xs:List α} {L:List Nat} {cs:List Value},Els E w L cs xs->∀ b∈L,b<w.heap.size
 | [],_,_,⟨e,_⟩=>by simp[e]
 |x::xs,_,_,⟨L1,d,c1,f,e,h,a,c⟩=>by
  subst e;intro b hb;rcases List.mem_append.1 hb with h|h
  ·exact E.own_lt a b h
  ·exact Els.lt c b h
theorem Els.append {E:Ty α} {w:World}:∀ {xs ys:List α} {L L':List Nat} {cs cs':List Value},Els E w L cs xs->Els E w L' cs' ys->Els E w (L++L') (cs++cs') (xs++ys)
 | [],_,_,_,_,_,⟨c,d⟩,h'=>by subst c;subst d;exact h'
 |x::xs,_,_,_,_,_,⟨L1,a,c1,b,e,h,f,g⟩,h'=>by
  subst e;subst h;exact⟨L1,a++_,c1,b++_,by simp,by simp,f,Els.append g h'⟩
theorem Els.single {E:Ty α} {w:World} {x:α} {L:List Nat} {cs:List Value} (h:E.own w L cs x):Els E w L cs [x]:=⟨L,[],cs,[],by simp,by simp,h,rfl,rfl⟩
/-- Element number j. -/
theorem Els.get {E:Ty α} {w:World}:∀ {xs:List α} {L:List Nat} {cs:List Value} (_:Els E w L cs xs) {j:Nat} {x:α} (_:xs[j]?=some x),∃ Lj cj,(∀ b∈Lj,b∈L)∧E.own w Lj cj x∧∀ o u,cj[o]?=some u->cs[j*E.sz+o]?=some u
 | [],_,_,_,j,x,hx=>by simp at hx
 |y::xs,_,_,⟨L1,d,c1,f,e,h,a,c⟩,0,x,hx=>by
  subst e;subst h;simp at hx;subst hx;refine⟨L1,c1,fun b hb=>List.mem_append_left _ hb,a,fun o u hu=>?_⟩;rw[Nat.zero_mul,Nat.zero_add,List.getElem?_append_left (List.getElem?_eq_some_iff.1 hu).1];exact hu
 |y::xs,_,_,⟨L1,d,c1,f,e,h,a,c⟩,j+1,x,hx=>by
  subst e;subst h;obtain⟨Lj,cj,g,ho,hc⟩:=Els.get c (j:=j) (x:=x) (by simpa using hx);refine⟨Lj,cj,fun b hb=>List.mem_append_right _ (g b hb),ho,fun o u hu=>?_⟩;have:=E.own_len a;rw[List.getElem?_append_right (by rw[this,Nat.add_mul];omega), <- hc o u hu]
  congr 1
  rw[this,Nat.add_mul];omega
/-! ### Slices -/
def ce (E:Ty α) (w:World) (B:Nat) (v:Value) (xs:List α):Prop:=
 xs.length<=9223372036854775807∧∃ A c,v= .slice A xs.length c∧(0<xs.length->∃ a,A=some a∧(a.block<B∧xs.length<=c)∧∀ j x,xs[j]?=some x->∃ c',E.rd w B c' x∧∀ o u,c'[o]?=some u->w.cell? ((a.add (j*E.sz)).add o)=some u)
def Nv (E:Ty α) (e:TypeId) (w:World) (L:List Nat) (v:Value) (xs:List α):Prop:=
 ∃ cells L',L=v.ownBlock.toList++L'∧w.ownsRow 0 e E.sz v xs.length cells∧Els E w L' cells xs
theorem Eu {w w':World} {base:Nat} {e:TypeId} {size n:Nat} {v:Value} {xs:List Value} (h:w.ownsRow base e size v n xs) (hk:∀ b,v.ownBlock=some b->w'.heap[b]?=w.heap[b]?):w'.ownsRow base e size v n xs:=by
 obtain⟨c,a⟩:=h;refine⟨c,?_⟩;rcases a with a|⟨g,cap,cur,hv,hg,hh,r⟩
 ·exact .inl a
 ·exact .inr ⟨g,cap,cur,hv,hg,by rw[hk g (by rw[hv];rfl)];exact hh,r⟩
theorem Et {w:World} {base:Nat} {e:TypeId} {size n:Nat} {v:Value} {xs:List Value} (h:w.ownsRow base e size v n xs):∃ A c,v= .slice A n c∧n<=9223372036854775807∧(0<n->n<=c∧∃ g,A=some ⟨g,0,none⟩):=by
 rcases h.2 with⟨rfl,rfl⟩|⟨g,cap,cur,rfl,_,_,hn,a,_⟩
 ·exact⟨none,0,rfl,by omega,fun h=>absurd h (by omega)⟩
 ·exact⟨_,_,rfl,by unfold maxLen at a;omega,fun _=>⟨hn,g,rfl⟩⟩
def ab (E:Ty α) (e:TypeId):Ty (List α) where
 sz:=1
 rd:=fun w B cs xs=>∃ v,cs=[v]∧ce E w B v xs
 own:=fun w L cs xs=>∃ v,cs=[v]∧Nv E e w L v xs
 rd_len:=by rintro _ _ _ _ ⟨v,rfl,_⟩;rfl
 rd_one:=by rintro _ _ _ _ ⟨v,rfl,_,A,c,rfl,_⟩ u hu;rw[List.mem_singleton.1 hu];rfl
 rd_keep:=by
  rintro w w' B _ xs ⟨v,rfl,i,A,c,rfl,h⟩ hk;refine⟨_,rfl,i,A,c,rfl,fun hn=>?_⟩;obtain⟨a,rfl,hb,hx⟩:=h hn;refine⟨a,rfl,hb,fun j x hj=>?_⟩;obtain⟨c',d,f⟩:=hx j x hj;exact⟨c',E.rd_keep d hk,fun o u hu=>(Bd (by rw[bj,bj];exact hk _ hb.1)).trans (f o u hu)⟩
 rd_mono:=by
  rintro w B B' _ xs ⟨v,rfl,i,A,c,rfl,h⟩ hk;refine⟨_,rfl,i,A,c,rfl,fun hn=>?_⟩;obtain⟨a,rfl,hb,hx⟩:=h hn;refine⟨a,rfl,⟨by omega,hb.2⟩,fun j x hj=>?_⟩;obtain⟨c',d,f⟩:=hx j x hj;exact⟨c',E.rd_mono d hk,f⟩
 own_keep:=by
  rintro w w' L _ xs ⟨v,rfl,cells,L',rfl,d,f⟩ hk;refine⟨v,rfl,cells,L',rfl,Eu d fun b hb=>hk b ?_,f.keep fun b hb=>hk b (List.mem_append_right _ hb)⟩;rw[hb];exact List.mem_append_left _ (by simp)
 own_lt:=by
  rintro w L _ xs ⟨v,rfl,cells,L',rfl,d,f⟩ b hb;rcases List.mem_append.1 hb with h|h
  ·have hv:v.ownBlock=some b:=by simpa [Option.mem_toList] using h
   exact(d.lt b hv).2
  ·exact f.lt b h
 own_rd:=by
  rintro w L B _ xs ⟨v,rfl,cells,L',rfl,d,f⟩ hk;obtain⟨A,c,rfl,i,hg⟩:=Et d;refine⟨_,rfl,i,A,c,rfl,fun hn=>?_⟩;obtain⟨hcap,g,rfl⟩:=hg hn;refine⟨⟨g,0,none⟩,rfl,⟨hk g (List.mem_append_left _ (by simp[Value.ownBlock])),hcap⟩,fun j x hj=>?_⟩;obtain⟨Lj,cj,k,ho,hc⟩:=f.get hj;refine⟨cj,E.own_rd ho fun b hb=>hk b (List.mem_append_right _ (k b hb)),fun o u hu=>?_⟩;rw[rt];exact d.cells (g:=g) rfl _ u (hc o u hu)
end
/-! ### Items,and the memory of a call -/
structure It where
 P:World->List Nat->Prop
 keep:∀ {w w' L},P w L->(∀ b∈L,w'.heap[b]?=w.heap[b]?)->P w' L
 lt:∀ {w L},P w L->∀ b∈L,b<w.heap.size
def Qg {α:Type} (T:Ty α) (cs:List Value) (x:α):It:=⟨fun w L=>T.own w L cs x,T.own_keep,T.own_lt⟩
abbrev iS {α:Type} (E:Ty α) (e:TypeId) (A:Option Addr) (c:Nat) (xs:List α):It:=Qg (ab E e) [.slice A xs.length c] xs
abbrev bp (p:Nat):Value:= .pointer (some ⟨p,0,none⟩)
abbrev sA (g:Nat):Option Addr:=some ⟨g,0,none⟩
abbrev iV (n:Int):Value:= .int .i64 n
abbrev nI (n:Nat):Value:= .int .i64 (n:Int)
/-- A whole block of cells. -/
def Qa (p:Nat) (e:TypeId) (cs:List Value):It where
 P:=fun w L=>L=[p]∧w.heap[p]?=some (.cells cs.toArray e (0,0))
 keep:=by rintro w w' _ ⟨rfl,h⟩ hk;exact⟨rfl,(hk p (by simp)).trans h⟩
 lt:=by
  rintro w _ ⟨rfl,h⟩ b hb;rw[List.mem_singleton.1 hb];exact(Array.getElem?_eq_some_iff.1 h).1
def Sep:List It->World->List Nat->Prop
 | [],_,L=>L=[]
 |i::is,w,L=>∃ L1 a,L=L1++a∧i.P w L1∧Sep is w a
theorem Sep.keep {w w':World}:∀ {is:List It} {L:List Nat},Sep is w L->(∀ b∈L,w'.heap[b]?=w.heap[b]?)->Sep is w' L
 | [],_,h,_=>h
 |i::is,_,⟨L1,a,e,c,d⟩,hk=>by
  subst e;exact⟨L1,a,rfl,i.keep c fun b hb=>hk b (List.mem_append_left _ hb),Sep.keep d fun b hb=>hk b (List.mem_append_right _ hb)⟩
theorem Sep.lt {w:World}:∀ {is:List It} {L:List Nat},Sep is w L->∀ b∈L,b<w.heap.size
 | [],_,h=>by rw[show _=([]:List Nat) from h];simp
 |i::is,_,⟨L1,d,e,a,c⟩=>by
  subst e;intro b hb;rcases List.mem_append.1 hb with h|h
  ·exact i.lt a b h
  ·exact Sep.lt c b h
theorem Sep.append {w:World}:∀ {is js:List It} {L L':List Nat},Sep is w L->Sep js w L'->Sep (is++js) w (L++L')
 | [],_,_,_,h,h'=>by rw[show _=([]:List Nat) from h];exact h'
 |i::is,_,_,_,⟨L1,a,e,b,c⟩,h'=>by
  subst e;exact⟨L1,a++_,by simp,b,Sep.append c h'⟩
/-- The item number n,brought to the head. -/
theorem Sep.front {w:World}:∀ {is:List It} {n:Nat} {i:It} {L:List Nat},Sep is w L->is[n]?=some i->∃ L',Sep (i::is.eraseIdx n) w L'∧L'.Perm L
 | [],n,_,_,_,hi=>by simp at hi
 |j::is,0,i,L,h,hi=>by
  simp at hi;subst hi;exact⟨L,h,List.Perm.refl _⟩
 |j::is,n+1,i,L,⟨L1,d,e,a,b⟩,hi=>by
  subst e;obtain⟨L',⟨K1,K2,rfl,c,k2⟩,hp⟩:=Sep.front b (n:=n) (i:=i) (by simpa using hi);refine⟨K1++(L1++K2),⟨K1,L1++K2,rfl,c,L1,K2,rfl,a,k2⟩,?_⟩;refine List.Perm.trans ?_ (List.Perm.append_left L1 hp);rw[<- List.append_assoc, <- List.append_assoc];exact List.Perm.append_right K2 List.perm_append_comm
structure Mem (B:Nat) (w0:World) (is:List It) (w:World):Prop where
 base:B<=w0.heap.size
 below:Below B w0 w
 sep:∃ L,Sep is w L∧L.Nodup∧∀ b∈L,B<=b
section
variable {B:Nat} {w0 w w':World} {is js:List It} {i:It}
theorem Mem.size (h:Mem B w0 is w):B<=w.heap.size:=Nat.le_trans h.base h.below.size
theorem Mem.start (w:World):Mem w.heap.size w [] w:=⟨Nat.le_refl _,Below.refl _ _,[],rfl,List.nodup_nil,by simp⟩
theorem Mem.ext (h:Mem B w0 is w) (hb:Below w.heap.size w w'):Mem B w0 is w':=by
 obtain⟨L,a,c,d⟩:=h.sep;exact⟨h.base,h.below.trans (hb.mono h.size),L,a.keep fun b hb'=>hb.block b (a.lt b hb'),c,d⟩
theorem Mem.drew (h:Mem B w0 is w):Mem B w0 is w.drew:=h.ext (Below.refl _ _).drew
theorem Mem.call (h:Mem B w0 is w) (h':Mem w.heap.size w js w'):Mem B w0 (js++is) w':=by
 obtain⟨L,c,f,g⟩:=h.sep;obtain⟨L',i,k2,d⟩:=h'.sep;refine⟨h.base,h.below.trans (h'.below.mono h.size),L'++L,i.append (c.keep fun b hb'=>h'.below.block b (c.lt b hb')),?_,fun b hb=>?_⟩
 ·rw[List.nodup_append];exact⟨k2,f,fun a ha b hb e=>by subst e;have:=d a ha;have:=c.lt a hb;omega⟩
 ·rcases List.mem_append.1 hb with hb|hb
  ·exact Nat.le_trans h.size (d b hb)
  ·exact g b hb
theorem Mem.front (h:Mem B w0 is w) {n:Nat} (hi:is[n]?=some i):Mem B w0 (i::is.eraseIdx n) w:=by
 obtain⟨L,a,c,d⟩:=h.sep;obtain⟨L',e,k2⟩:=a.front hi;exact⟨h.base,h.below,L',e,k2.nodup_iff.2 c,fun b hb=>d b (k2.mem_iff.1 hb)⟩
theorem Mem.tail (h:Mem B w0 (i::is) w):Mem B w0 is w:=by
 obtain⟨_,⟨L1,a,rfl,_,c⟩,d,e⟩:=h.sep;exact⟨h.base,h.below,a,c,(List.nodup_append.1 d).2.1,fun b hb=>e b (List.mem_append_right _ hb)⟩
theorem Mem.nil (h:Mem B w0 is w):Mem B w0 [] w:=⟨h.base,h.below,[],rfl,List.nodup_nil,by simp⟩
theorem Mem.one (h:Mem B w0 is w) {n:Nat} (hi:is[n]?=some i):Mem B w0 [i] w:=by
 obtain⟨_,⟨L1,_,rfl,a,_⟩,c,d⟩:=(h.front hi).sep;exact⟨h.base,h.below,L1,⟨L1,[],by simp,a,rfl⟩,(List.nodup_append.1 c).1,fun b hb=>d b (List.mem_append_left _ hb)⟩
theorem Mem.get (h:Mem B w0 is w) {n:Nat} (hi:is[n]?=some i):∃ L,i.P w L∧L.Nodup∧∀ b∈L,B<=b∧b<w.heap.size:=by
 obtain⟨_,⟨L1,_,rfl,a,_⟩,c,d⟩:=(h.front hi).sep;exact⟨L1,a,(List.nodup_append.1 c).1,fun b hb=>⟨d b (List.mem_append_left _ hb),i.lt a b hb⟩⟩
theorem Sep.split {w:World}:∀ {is js:List It} {L:List Nat},Sep (is++js) w L->∃ L1 a,L=L1++a∧Sep is w L1∧Sep js w a
 | [],_,L,h=>⟨[],L,rfl,rfl,h⟩
 |i::is,_,_,⟨L1,a,e,b,c⟩=>by
  subst e;obtain⟨K1,K2,rfl,d,k2⟩:=Sep.split c;exact⟨L1++K1,K2,by simp,⟨L1,K1,rfl,b,d⟩,k2⟩
theorem Mem.left (h:Mem B w0 (is++js) w):Mem B w0 is w:=by
 obtain⟨_,a,c,d⟩:=h.sep;obtain⟨L1,_,rfl,e,k2⟩:=a.split;exact⟨h.base,h.below,L1,e,(List.nodup_append.1 c).1,fun b hb=>d b (List.mem_append_left _ hb)⟩
theorem Mem.take (n:Nat) (h:Mem B w0 is w):Mem B w0 (is.take n) w:=Mem.left (js:=is.drop n) (by rw[List.take_append_drop];exact h)
/-- What came in reads as it did. -/
theorem Mem.rd0 {α:Type} {T:Ty α} {cs:List Value} {x:α} (h:Mem B w0 is w) (hr:T.rd w0 B cs x):T.rd w w.heap.size cs x:=
 T.rd_mono (T.rd_keep hr fun b hb=>h.below.block b hb) h.size
/-- What is owned can be read. -/
theorem Mem.rdI {α:Type} {T:Ty α} {cs:List Value} {x:α} (h:Mem B w0 is w) {n:Nat} (hi:is[n]?=some (Qg T cs x)):T.rd w w.heap.size cs x:=by
 obtain⟨L,a,_,c⟩:=h.get hi;exact T.own_rd a fun b hb=>(c b hb).2
theorem Mem.box {p:Nat} {e:TypeId} {cs:List Value} (h:Mem B w0 is w) {n:Nat} (hi:is[n]?=some (Qa p e cs)):w.heap[p]?=some (.cells cs.toArray e (0,0))∧B<=p∧p<w.heap.size:=by
 obtain⟨L,⟨rfl,a⟩,_,b⟩:=h.get hi;exact⟨a,b p (by simp)⟩
theorem Mem.boxCell {p:Nat} {e:TypeId} {cs:List Value} (h:Mem B w0 is w) {n:Nat} (hi:is[n]?=some (Qa p e cs)) {o:Nat} {u:Value} (hu:cs[o]?=some u):w.cell? ((⟨p,0,none⟩:Addr).add o)=some u:=by
 obtain⟨a,_⟩:=h.box hi;unfold Addr.add
 split
 ·rename_i e;subst e;simp[World.cell?,a,hu]
 ·simp[World.cell?,a,hu]
/-- A new block. -/
theorem Mem.alloc (h:Mem B w0 is w) (cs:Array Value) (e:TypeId):Mem B w0 (Qa w.heap.size e cs.toList::is) (w.alloc (.cells cs e)):=by
 have h':Mem w.heap.size w [Qa w.heap.size e cs.toList] (w.alloc (.cells cs e)):=
  ⟨Nat.le_refl _,(Below.refl _ _).alloc (Nat.le_refl _) _,[w.heap.size],⟨[w.heap.size],[],by simp,⟨rfl,by simpa using heap_alloc_new w _⟩,rfl⟩,by simp,by simp⟩
 exact h.call h'
/-- The item at the head turns into another one,in its own blocks and in new ones. -/
theorem Mem.upd {i':It} (h:Mem B w0 (i::is) w)
 (hu:∀ L1,i.P w L1->L1.Nodup->(∀ b∈L1,B<=b)->∃ L1',i'.P w' L1'∧L1'.Nodup∧(∀ b∈L1',b∈L1∨w.heap.size<=b)∧w'.os=w.os∧w'.tape=w.tape∧w'.output=w.output∧w.heap.size<=w'.heap.size∧∀ b,b<w.heap.size->b ∉ L1->w'.heap[b]?=w.heap[b]?):
 Mem B w0 (i'::is) w':=by
 obtain⟨_,⟨L1,g,rfl,l,f⟩,m,d⟩:=h.sep;obtain⟨o,p,k⟩:=List.nodup_append.1 m;obtain⟨L1',n,k2,j,ko,kt,ku,kz,kb⟩:=hu L1 l o fun b hb=>d b (List.mem_append_left _ hb)
 have hz:=h.size;refine⟨h.base,h.below.trans ⟨ko,kt,ku,kz,fun b hb=>kb b (by omega) fun c=>?_⟩,L1'++g,⟨L1',g,rfl,n,f.keep fun b hb=>kb b (f.lt b hb) fun c=>k b c b hb rfl⟩,?_,fun b hb=>?_⟩
 ·have:=d b (List.mem_append_left _ c);omega
 ·rw[List.nodup_append];refine⟨k2,p,fun a ha b hb e=>?_⟩;subst e;rcases j a ha with c|c
  ·exact k a c a hb rfl
  ·have:=f.lt a hb;omega
 ·rcases List.mem_append.1 hb with hb|hb
  ·rcases j b hb with c|c
   ·exact d b (List.mem_append_left _ c)
   ·omega
  ·exact d b (List.mem_append_right _ hb)
end
/-! ### Some of the items,in some order -/
def bO:List It->Nat->Option It
 | [],_=>none
 |i::_,0=>some i
 |_::is,n+1=>bO is n
def rq (is:List It):List Nat->List It
 | []=>[]
 |n::ns=>(bO is n).elim (rq is ns) (· :: rq is ns)
theorem mR:∀ (is:List It) (n:Nat),bO is n=is[n]?
 | [],n=>by simp[bO]
 |i::is,0=>by simp[bO]
 |i::is,n+1=>by simp[bO,mR is n]
theorem iL (is:List It) (i:Nat):∀ ns:List Nat,i ∉ ns->rq (is.eraseIdx i) (ns.map fun j=>if j<i then j else j-1)=rq is ns
 | [],_=>rfl
 |n::ns,h=>by
  simp only[List.mem_cons,not_or] at h;have ih:=iL is i ns h.2;simp only[List.map_cons,rq,ih]
  congr 1
  rw[mR,mR,List.getElem?_eraseIdx]
  by_cases a:n<i
  ·rw[if_pos a,if_pos a]
  ·rw[if_neg a,if_neg (by omega),show n-1+1=n by omega]
theorem iJ (i:Nat):∀ ns:List Nat,ns.Nodup->i ∉ ns->(ns.map fun j=>if j<i then j else j-1).Nodup
 | [],_,_=>List.nodup_nil
 |n::ns,h,hi=>by
  rw[List.nodup_cons] at h;simp only[List.mem_cons,not_or] at hi;rw[List.map_cons,List.nodup_cons];refine⟨fun c=>?_,iJ i ns h.2 hi.2⟩;obtain⟨m,a,b⟩:=List.mem_map.1 c;have hmi:m≠i:=fun e=>hi.2 (e ▸ a)
  have hmn:m≠n:=fun e=>h.1 (e ▸ a)
  split at b <;>split at b <;>omega
theorem Sep.pk {w:World}:∀ (k:Nat) (ns:List Nat) (is:List It) (L:List Nat),ns.length=k->ns.Nodup->Sep is w L->∃ L' M,Sep (rq is ns) w L'∧(L'++M).Perm L
 |0,ns,is,L,hk,_,_=>by
  cases List.length_eq_zero_iff.1 hk
  exact⟨[],L,rfl,List.Perm.refl _⟩
 |k+1,[],_,_,hk,_,_=>by simp at hk
 |k+1,n::ns,is,L,hk,hn,h=>by
  rw[List.nodup_cons] at hn;cases hi:is[n]? with
  |none=>
   obtain⟨L',M,a,b⟩:=Sep.pk k ns is L (by simpa using hk) hn.2 h;refine⟨L',M,?_,b⟩;unfold rq;rw[mR,hi];exact a
  |some it=>
   obtain⟨L1,⟨K1,K2,rfl,d,k2⟩,hp⟩:=h.front hi;obtain⟨c,M,a,b⟩:=Sep.pk k (ns.map fun j=>if j<n then j else j-1) (is.eraseIdx n) K2 (by simpa using hk) (iJ n ns hn.2 hn.1) k2;rw[iL is n ns hn.1] at a;refine⟨K1++c,M,?_,?_⟩
   ·unfold rq;rw[mR,hi];exact⟨K1,c,rfl,d,a⟩
   ·rw[List.append_assoc];exact(List.Perm.append_left K1 b).trans hp
theorem Mem.pick {B:Nat} {w0 w:World} {is:List It} (ns:List Nat) (hn:ns.Nodup) (h:Mem B w0 is w):Mem B w0 (rq is ns) w:=by
 obtain⟨L,a,c,d⟩:=h.sep;obtain⟨L',M,e,k2⟩:=Sep.pk _ ns is L rfl hn a;exact⟨h.base,h.below,L',e,(List.nodup_append.1 (k2.nodup_iff.2 c)).1,fun b hb=>d b (k2.mem_iff.1 (List.mem_append_left _ hb))⟩
theorem Mem.pickT {B:Nat} {w0 w:World} {pre tail:List It} (ns:List Nat) (hn:ns.Nodup) (h:Mem B w0 (pre++tail) w):Mem B w0 (rq pre ns++tail) w:=by
 obtain⟨L,d,e,f⟩:=h.sep;obtain⟨L1,a,rfl,g,k2⟩:=d.split;obtain⟨L',M,i,j⟩:=Sep.pk _ ns pre L1 rfl hn g;have c:((L'++a)++M).Perm (L1++a):=by
  rw[List.append_assoc];refine(List.Perm.append_left L' List.perm_append_comm).trans ?_;rw[<- List.append_assoc];exact List.Perm.append_right a j
 exact⟨h.base,h.below,L'++a,Sep.append i k2,(List.nodup_append.1 (c.nodup_iff.2 e)).1,fun b hb=>f b (c.mem_iff.1 (List.mem_append_left _ hb))⟩
theorem Mem.pickN {B:Nat} {w0 w:World} {is:List It} (h:Mem B w0 is w) (n:Nat) (ns:List Nat) (hn:ns.Nodup):Mem B w0 (rq (is.take n) ns++is.drop n) w:=
 Mem.pickT (pre:=is.take n) (tail:=is.drop n) ns hn (by rw[List.take_append_drop];exact h)
end Go.Proofs.YtdlminfjdodjoaaGreat
