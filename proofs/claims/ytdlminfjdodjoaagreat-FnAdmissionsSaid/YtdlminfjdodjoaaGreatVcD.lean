/-
  Slices of the call's own: made,appended to,stored into;values taken apart into items and put together;results in memory.
-/
import Derived.Test.YtdlminfjdodjoaaGreatVcC
import Derived.Laws.MakeOwn
import Derived.Laws.AppendOwnNone
import Derived.Laws.Tables
namespace Go.Proofs.YtdlminfjdodjoaaGreat
set_option linter.unusedVariables false
set_option linter.unusedSimpArgs false
open Go.RowKit
def Mr (is:List It):It:=⟨Sep is,Sep.keep,Sep.lt⟩
section
variable {α:Type} {P:Program} {N B:Nat} {w0:World} {Q:Exit->Act->World->Prop} {L:List (Nat×Value)} {is js:List It} {E:Ty α} {e:TypeId}
theorem Mem.group {w:World} (h:Mem B w0 (is++js) w):Mem B w0 (Mr is::js) w:=by
 obtain⟨L,b,c,d⟩:=h.sep;obtain⟨L1,a,rfl,e,k2⟩:=b.split;exact⟨h.base,h.below,_,⟨L1,a,rfl,e,k2⟩,c,d⟩
theorem Mem.join {w:World} {i:It} (d:∀ w L,Sep is w L->i.P w L) (h:Mem B w0 (is++js) w):Mem B w0 (i::js) w:=by
 obtain⟨_,⟨L1,a,rfl,e,k2⟩,b,c⟩:=h.group.sep;exact⟨h.base,h.below,_,⟨L1,a,rfl,d w L1 e,k2⟩,b,c⟩
theorem nn {γ:Type} {ops:Array Oper} {l:List Oper} {i:It} {js:γ->List It} {C:γ->Prop} (d:∀ w L,i.P w L->∃ g,C g∧Sep (js g) w L) (h:∀ g,C g->WM P N B w0 ops Q l L (js g++is)):WM P N B w0 ops Q l L (i::is):=fun w a=>by
 obtain⟨_,⟨L1,_,rfl,e,k2⟩,b,c⟩:=a.sep;obtain⟨g,hg,f⟩:=d w L1 e;exact h g hg w ⟨a.base,a.below,_,Sep.append f k2,b,c⟩
/-- The items in another order,or fewer. -/
theorem il {ops:Array Oper} {l:List Oper} (hi:∀ w,Mem B w0 is w->Mem B w0 js w) (h:WM P N B w0 ops Q l L js):WM P N B w0 ops Q l L is:=fun w a=>h w (hi w a)
theorem bz {ex:Exit} (hi:∀ w,Mem B w0 is w->Mem B w0 js w) (h:QM N B w0 Q ex L js):QM N B w0 Q ex L is:=fun w a=>h w (hi w a)
theorem ek {c:Code} (hi:∀ w,Mem B w0 is w->Mem B w0 js w) (h:CM P N B w0 c Q L js):CM P N B w0 c Q L is:=fun w a=>h w (hi w a)
theorem Els.split {w:World}:∀ {xs ys:List α} {L:List Nat} {cs:List Value},Els E w L cs (xs++ys)->∃ L1 a c1 b,L=L1++a∧cs=c1++b∧Els E w L1 c1 xs∧Els E w a b ys
 | [],ys,L,cs,h=>⟨[],L,[],cs,rfl,rfl,⟨rfl,rfl⟩,h⟩
 |x::xs,ys,_,_,⟨L1,a,c1,b,e,f,g,i⟩=>by
  subst e;subst f;obtain⟨K1,K2,c,d,rfl,rfl,j,k2⟩:=Els.split i;exact⟨L1++K1,K2,c1++c,d,by simp,by simp,⟨L1,K1,c1,c,rfl,rfl,g,j⟩,k2⟩
theorem Er {w:World}:(ab E e).own w [] [.slice none 0 0] []:=⟨_,rfl,[],[],rfl,World.ownsRow_nil w 0 e E.sz,rfl,rfl⟩
/-! append -/
section
variable {w:World}
theorem Fo (t ty:TypeId) (i:TypeInfo) (z:Value) (size bytes:Nat) (ht:P.underlying t=some (.slice e)) (hi:P.info? e=some i) (hz:i.zero=some z)
 (hsize:i.size=size) (hby:i.bytes=bytes) (hzs:z.cells.size=size) (hsz:0<size)
 (v:Value) (n:Nat) (xs:List Value) (hown:w.ownsRow 0 e size v n xs)
 (a:Addr) (m c:Nat) (news:List Value) (hl:news.length=m*size) (hnews:∀ j u,news[j]?=some u->w.cell? (a.add j)=some u) (k:∀ u∈news,u.oneCell'=true)
 (d:n+m<=maxLen) (hbytes:(n+m)*bytes<=140737488355328):
 ∃ v' w',(Builtin.append_ #[t,t] ty #[v, .slice (some a) m c]).run P w= .ok v' w'∧w'.ownsRow 0 e size v' (n+m) (xs++news)∧w.grownBy w' v.ownBlock∧∀ g,v'.ownBlock=some g->v.ownBlock=some g∨w.heap.size<=g:=by
 obtain⟨v',w',hr,ho,hg,hn⟩:=run_append_own (P:=P) w 0 t ty e i z size bytes ht hi hz hsize hby hzs hsz v n xs hown a m c news hl hnews k d hbytes (Nat.zero_le _);refine⟨v',w',hr,ho,hg,fun g hv=>?_⟩;rcases hown.2 with⟨rfl,rfl⟩|⟨h,cap,cur,rfl,hbg,l,hnc,hcm,hcs,htake⟩
 ·obtain⟨_,_,b,o,_⟩:=run_append_own (P:=P) w w.heap.size t ty e i z size bytes ht hi hz hsize hby hzs hsz _ 0 xs ⟨hown.1, .inl ⟨rfl,rfl⟩⟩ a m c news hl hnews k d hbytes (Nat.le_refl _);rw[hr] at b
  injection b with f p
  subst f;exact .inr (o.lt g hv).1
 ·subst hsize;have hlx:xs.length=n*i.size:=hown.1
  by_cases hroom:n+m<=cap
  ·have hfit:n*i.size+news.length<=cur.size:=by rw[hl,hcs, <- Nat.add_mul];exact Nat.mul_le_mul_right _ hroom
   have b:=run_append_room (P:=P) w t ty e i ht hi h n cap cur l a m c news hl hnews k hroom hfit;rw[hr] at b
   injection b with f p
   subst f;exact .inl hv
  ·subst hby
   have hsmall:n+m<=9223372036854775807:=by simp only[maxLen] at d;omega
   have holds:∀ j u,xs[j]?=some u->w.cell? ((⟨h,0,none⟩:Addr).add j)=some u:=hown.cells (g:=h) rfl;have b:=run_append_grow (P:=P) w t ty e i z ht hi hz ⟨h,0,none⟩ n cap xs hown.1 holds a m c news hl hnews (by omega) (by omega) (growslice_fits (by omega) hbytes);rw[hr] at b
   injection b with f p
   subst f;simp[Value.ownBlock] at hv;exact .inr (by omega)
theorem Ls (t ty:TypeId) (i:TypeInfo) (z:Value) (ht:P.underlying t=some (.slice e)) (hi:P.info? e=some i) (hz:i.zero=some z)
 (hsize:i.size=E.sz) (hzs:z.cells.size=E.sz) (hsz:0<E.sz) {v:Value} {xs ys:List α} {eis js:List It}
 (f:Mem B w0 (Qg (ab E e) [v] xs::(eis++js)) w) {a:Addr} {c:Nat} {news:List Value} (hel:∀ w L,Sep eis w L->Els E w L news ys)
 (hnews:∀ j u,news[j]?=some u->w.cell? (a.add j)=some u) (hb:(xs.length+ys.length)*i.bytes<=140737488355328) (k:xs.length+ys.length<=9223372036854775807):
 ∃ v' w',(Builtin.append_ #[t,t] ty #[v, .slice (some a) ys.length c]).run P w= .ok v' w'∧Mem B w0 (Qg (ab E e) [v'] (xs++ys)::js) w':=by
 obtain⟨_,⟨La,Lr,rfl,⟨_,g,cells,Lx,rfl,hrow,hels⟩,hrr⟩,hn,hB⟩:=f.sep;obtain⟨Lb,Lc,rfl,h,d⟩:=hrr.split;cases g
 have hle:=hel w Lb h;obtain⟨v',w',hr,ho,hg,hblk⟩:=Fo (P:=P) (w:=w) t ty i z E.sz i.bytes ht hi hz hsize rfl hzs hsz v xs.length cells hrow a ys.length c news hle.len hnews hle.one (by simp only[maxLen];omega) hb;refine⟨v',w',hr,?_⟩;have l:Mem B w0 (Mr (Qg (ab E e) [v] xs::eis)::js) w:=Mem.group (is:=Qg (ab E e) [v] xs::eis) (js:=js) f
 -- the blocks that stay
 have hnd:=hn;rw[List.append_assoc] at hnd;refine⟨f.base,f.below.trans ⟨hg.os,hg.tape,hg.output,hg.size,fun b hbb=>hg.block b (Nat.lt_of_lt_of_le hbb f.size) fun ee=>?_⟩,(v'.ownBlock.toList++(Lx++Lb))++Lc,⟨_,Lc,rfl,⟨v',rfl,cells++news,Lx++Lb,rfl,?_,?_⟩,?_⟩,?_,?_⟩
 ·have:=hB b (by rw[<- ee];simp);omega
 ·rw[List.length_append];exact ho
 ·refine Els.append (hels.keep fun b hbb=>hg.block b (hels.lt b hbb) fun ee=>?_) (hle.keep fun b hbb=>hg.block b (hle.lt b hbb) fun ee=>?_)
  ·rw[<- ee] at hnd;simp only[Option.toList,List.cons_append,List.nil_append,List.nodup_cons] at hnd;exact hnd.1 (by simp[hbb])
  ·rw[<- ee] at hnd;simp only[Option.toList,List.cons_append,List.nil_append,List.nodup_cons] at hnd;exact hnd.1 (by simp[hbb])
 ·refine d.keep fun b hbb=>hg.block b (d.lt b hbb) fun ee=>?_
  rw[<- ee] at hnd;simp only[Option.toList,List.cons_append,List.nil_append,List.nodup_cons] at hnd;exact hnd.1 (by simp[hbb])
 ·have hrest:(Lx++Lb++Lc).Nodup:=by
   have:=(List.nodup_append.1 hnd).2.1
   simpa using this
  rw[List.append_assoc];rw[List.nodup_append];refine⟨by cases v'.ownBlock <;>simp,by simpa using hrest,fun x hx y hy exy=>?_⟩;subst exy;have hv:v'.ownBlock=some x:=by simpa [Option.mem_toList] using hx
  rcases hblk x hv with hold|hnew
  ·rw[hold] at hnd;simp only[Option.toList,List.cons_append,List.nil_append,List.nodup_cons] at hnd;exact hnd.1 (by simpa using hy)
  ·have:x<w.heap.size:=by
    rcases List.mem_append.1 hy with hy|hy
    ·rcases List.mem_append.1 hy with hy|hy
     ·exact hels.lt x hy
     ·exact hle.lt x hy
    ·exact d.lt x hy
   omega
 ·intro b hbb;rw[List.append_assoc] at hbb;rcases List.mem_append.1 hbb with hbb|hbb
  ·have hv:v'.ownBlock=some b:=by simpa [Option.mem_toList] using hbb
   rcases hblk b hv with hold|hnew
   ·exact hB b (by rw[hold];simp)
   ·exact Nat.le_trans f.size hnew
  ·refine hB b ?_;simp only[List.mem_append] at hbb ⊢;rcases hbb with(hbb|hbb)|hbb
   ·exact .inl (.inr hbb)
   ·exact .inr (.inl hbb)
   ·exact .inr (.inr hbb)
end
theorem qV {s x:Operand} {v u v':Value} {t:TypeId} {w w':World} {d:Option Nat} {ty:TypeId} {pos:String} {af:Array Edge} {g:Option (Nat×Bool)} (e:ev L s=some v) (hx:ev L x=some u)
 (hr:(Builtin.append_ #[t,t] ty #[v,u]).run P w= .ok v' w'):RV P L ⟨d, .call ⟨.builtin .append,#[s,x],#[t,t]⟩,ty,pos,af,g⟩ w v' w':=fun N a ha=>by
 have b:=ha.eval e;have c:=ha.eval hx;generalize a.eval=ρ at b c ⊢;simp[execOp,resolve,invoke,builtin,b,c,hr]
/-- append(s,x, ..): the source is a block of the call's own. -/
theorem aZ {ops:Array Oper} {rest:List Oper} {s x:Operand} {v:Value} {t p q f:Nat} {i:TypeInfo} {z:Value} {xs ys:List α} {eis js:List It} {news:List Value} {d:Nat} {ty:TypeId} {pos:String} {af:Array Edge} {g:Option (Nat×Bool)}
 (hmv:∀ w,Mem B w0 is w->Mem B w0 (Qa p f news::Qg (ab E e) [v] xs::(eis++js)) w) (hel:∀ w L,Sep eis w L->Els E w L news ys)
 (ht:P.underlying t=some (.slice e)) (hi:P.info? e=some i) (hz:i.zero=some z) (hsize:i.size=E.sz) (hzs:z.cells.size=E.sz) (hsz:0<E.sz)
 (k:ev L s=some v) (hx:ev L x=some (.slice (some ⟨p,0,none⟩) q q)) (hq:q=ys.length) (hb:(xs.length+ys.length)*i.bytes<=140737488355328) (a:xs.length+ys.length<=9223372036854775807)
 (hw:Wd ops L ⟨some d, .call ⟨.builtin .append,#[s,x],#[t,t]⟩,ty,pos,af,g⟩ true) (hN:d<N)
 (h:∀ v',WM P N B w0 ops Q rest ((d,v')::L) (Qg (ab E e) [v'] (xs++ys)::js)):WM P N B w0 ops Q (⟨some d, .call ⟨.builtin .append,#[s,x],#[t,t]⟩,ty,pos,af,g⟩::rest) L is:=fun w j=>by
 subst hq;have hm':=hmv w j;obtain⟨v',w',hr,b⟩:=Ls (P:=P) t ty i z ht hi hz hsize hzs hsz hm'.tail (c:=ys.length) hel (hm'.boxCells (n:=0) rfl) hb a;exact tp hw rfl hN (qV k hx hr) (h v' w' b)
/-! new slices -/
theorem Ep {w:World} {g:Nat} (hg:w.heap[g]?=some (.cells #[] e (0,0))):(ab E e).own w [g] [.slice (some ⟨g,0,none⟩) 0 0] []:=
 ⟨_,rfl,[],[],rfl,⟨by simp, .inr ⟨g,0,#[],rfl,Nat.zero_le _,hg,Nat.le_refl _,by simp[maxLen],by simp,by simp⟩⟩,rfl,rfl⟩
theorem ez {ops:Array Oper} {rest:List Oper} {t:Nat} {i:TypeInfo} {d:Nat} {ty:TypeId} {pos:String} {af:Array Edge} {g:Option (Nat×Bool)} (ht:P.underlying t=some (.slice e)) (hi:P.info? e=some i)
 (hw:Wd ops L ⟨some d, .buildSlice t 0 #[],ty,pos,af,g⟩ true) (hN:d<N)
 (h:∀ p,WM P N B w0 ops Q rest ((d, .slice (some ⟨p,0,none⟩) 0 0)::L) (Qg (ab E e) [.slice (some ⟨p,0,none⟩) 0 0] []::is)):WM P N B w0 ops Q (⟨some d, .buildSlice t 0 #[],ty,pos,af,g⟩::rest) L is:=fun w k=>by
 have b:Mem B w0 (Qa w.heap.size e []::is) (w.alloc (.cells #[] e)):=k.alloc #[] e;refine tp hw rfl hN (w':=w.alloc (.cells #[] e)) (fun N a _=>?_) (h w.heap.size _ (Mem.join (is:=[Qa w.heap.size e []]) (js:=is) (fun w L l=>?_) b))
 ·generalize a.eval=ρ;simp[execOp,Instr.buildSlice,run_underlying ht,sizeOf,typeInfo,hi,Instr.fill,newRow,go_sem]
 ·obtain⟨L1,c,rfl,⟨rfl,f⟩,j⟩:=l;rw[show c=[] from j];exact Ep f
theorem we {a:Act} {N:Nat} (ha:Fr N L a):∀ {xs:List (Nat×Operand)} {vs:List (Nat×Value)},xs.mapM (fun x=>(ev L x.2).map fun v=>(x.1,v))=some vs->xs.map (fun x=>(x.1,a.eval x.2))=vs
 | [],vs,h=>by simp at h;simp[h]
 |x::xs,vs,h=>by
  simp only[List.mapM_cons,Option.bind_eq_bind,Option.bind_eq_some_iff,Option.map_eq_some_iff,Option.pure_def,Option.some.injEq] at h;obtain⟨_,⟨v,hv,rfl⟩,us,hu,rfl⟩:=h;simp[ha.eval hv,we ha hu]
/-- A struct out of its parts. -/
theorem fl {t:Nat} {parts:Array (Nat×Operand)} {vs:List (Nat×Value)} {cs:List Value} {w:World} {d:Option Nat} {ty:TypeId} {pos:String} {af:Array Edge} {g:Option (Nat×Bool)}
 (hx:parts.toList.mapM (fun x=>(ev L x.2).map fun v=>(x.1,v))=some vs) (hb:P.built t vs=some cs.toArray):RV P L ⟨d, .build t parts,ty,pos,af,g⟩ w (.agg cs.toArray) w:=fun N a ha=>by
 have hp:parts.toList.map (fun x=>(x.1,a.eval x.2))=vs:=we ha hx;generalize a.eval=ρ at hp ⊢
 have hr:(Instr.build t (parts.map fun(k,x)=>(k,ρ x))).run P w= .ok (.agg cs.toArray) w:=run_build (P:=P) w t _ _ (by
  rw[<- hb]
  congr 1
  rw[<- hp];simp)
 simp only[execOp];simp[hr]
/-- A literal of some elements: a block of cells. -/
theorem eb {ops:Array Oper} {rest:List Oper} {t n:Nat} {i:TypeInfo} {z:Value} {parts:Array (Nat×Operand)} {vs:List (Nat×Value)} {cs:List Value} {d:Nat} {ty:TypeId} {pos:String} {af:Array Edge} {g:Option (Nat×Bool)}
 (ht:P.underlying t=some (.slice e)) (hi:P.info? e=some i) (hz:i.zero=some z) (hn:n*i.size<=16777216) (b:n*i.size≠0)
 (hx:parts.toList.mapM (fun x=>(ev L x.2).map fun v=>(x.1,v))=some vs)
 (hf:Instr.fill (fun k=>some (k*i.size,i.size)) ((Array.range (n*i.size)).map (z.cells[· % z.cells.size]!)) vs=some cs.toArray)
 (hw:Wd ops L ⟨some d, .buildSlice t n parts,ty,pos,af,g⟩ true) (hN:d<N)
 (h:∀ p,WM P N B w0 ops Q rest ((d, .slice (some ⟨p,0,none⟩) n n)::L) (Qa p e cs::is)):WM P N B w0 ops Q (⟨some d, .buildSlice t n parts,ty,pos,af,g⟩::rest) L is:=fun w c=>by
 refine tp hw rfl hN (w':=w.alloc (.cells cs.toArray e)) (fun N a ha=>?_) (h w.heap.size _ (c.alloc cs.toArray e));have hp:parts.toList.map (fun x=>(x.1,a.eval x.2))=vs:=we ha hx;generalize a.eval=ρ at hp ⊢;have hp':(parts.map fun(k,x)=>(k,ρ x)).toList=vs:=by rw[<- hp];simp
 have hr:(Instr.buildSlice t n (parts.map fun(k,x)=>(k,ρ x))).run P w= .ok (.slice (some ⟨w.heap.size,0,none⟩) n n) (w.alloc (.cells cs.toArray e)):=by
  unfold Instr.buildSlice;rw[hp'];simp[run_underlying ht,sizeOf,typeInfo,hi,zeroValue,hz,newRow,go_sem];rw[if_neg (by omega),if_neg b];have hf':=hf;unfold Value.cells at hf';rw[hf'];simp[go_sem]
 simp only[execOp];simp[hr]
/-! make -/
/-! a store of a whole element -/
theorem my {ops:Array Oper} {l:List Oper} {A:Option Addr} {m c:Nat} {xs:List α} {n:Nat} (hi:is[n]?=some (Qg (ab E e) [.slice A m c] xs)) (hp:0<m) (h:∀ g,A=some ⟨g,0,none⟩->WM P N B w0 ops Q l L is):WM P N B w0 ops Q l L is:=fun w b=>by
 obtain⟨_,⟨v',ev,cells,L',rfl,hrow,_⟩,_⟩:=b.get hi;cases ev
 rcases hrow.2 with⟨a,_⟩|⟨g,cap,cur,a,_⟩
 ·cases a;omega
 ·cases a;exact h g rfl w b
theorem Ef {β:Type} {cur cells us:List β} {a m n:Nat} (h:cur.take n=cells) (g:us.length=m) (han:a+m<=n) (hn:n<=cur.length):(cur.take a++us++cur.drop (a+m)).take n=cells.take a++us++cells.drop (a+m):=by
 subst h;apply List.ext_getElem?;intro j;simp only[List.getElem?_append,List.getElem?_take,List.getElem?_drop,List.length_append,List.length_take,g];have e:min a cur.length=a:=by omega
 have f:min a (min n cur.length)=a:=by omega
 rw[e,f]
 by_cases b:j<a
 ·rw[if_pos (show j<n by omega),if_pos (show j<a+m by omega),if_pos b,if_pos b,if_pos (show j<a+m by omega),if_pos b,if_pos b,if_pos (show j<n by omega)]
 ·by_cases c:j<a+m
  ·rw[if_pos (show j<n by omega),if_pos c,if_neg b,if_pos c,if_neg b]
  ·rw[if_neg c,if_neg c]
   by_cases d:j<n
   ·rw[if_pos d,if_pos (show a+m+(j-(a+m))<n by omega)]
   ·rw[if_neg d,if_neg (show ¬ a+m+(j-(a+m))<n by omega)]
theorem ze {ops:Array Oper} {rest:List Oper} {x y:Operand} {v u:Value} {t k p c n:Nat} {i:TypeInfo} {xs:List α} {eis js:List It} {yv:α} {ty:TypeId} {pos:String} {af:Array Edge} {g:Option (Nat×Bool)}
 (hmv:∀ w,Mem B w0 is w->Mem B w0 (Qg (ab E e) [v] xs::(eis++js)) w) (hel:∀ w L,Sep eis w L->E.own w L u.cells.toList yv) (hv:v= .slice (some ⟨p,0,none⟩) n c)
 (hi:P.info? t=some i) (hsize:i.size=E.sz) (hk:k<n) (hx:ev L x=some (.pointer (some ((⟨p,0,none⟩:Addr).add (k*E.sz))))) (hy:ev L y=some u)
 (hw:Wd ops L ⟨none, .store t x y,ty,pos,af,g⟩ true) (h:WM P N B w0 ops Q rest L (Qg (ab E e) [v] (xs.set k yv)::js)):WM P N B w0 ops Q (⟨none, .store t x y,ty,pos,af,g⟩::rest) L is:=fun w C=>by
 have hm':=hmv w C;subst hv;obtain⟨_,⟨La,Lr,rfl,⟨_,l,cells,Lx,rfl,hrow,hels⟩,hrr⟩,hn,hB⟩:=hm'.sep;cases l
 obtain rfl:n=xs.length:=by
  rcases hrow.2 with⟨r,_⟩|⟨_,_,_,hveq,_⟩
  ·cases r
  ·cases hveq;rfl
 obtain⟨Lb,Lc,rfl,s,z⟩:=hrr.split;have d:=hel w Lb s;have hul:=E.own_len d;rcases hrow.2 with⟨r,_⟩|⟨p',cap,cur,hveq,_,hcur,hnc,hcm,hcs,htake⟩
 ·cases r
 cases hveq
 have hcl:cur.toList.length=c*E.sz:=by simpa using hcs
 have hmul:(k+1)*E.sz<=xs.length*E.sz:=Nat.mul_le_mul_right _ hk;have D:xs.length*E.sz<=c*E.sz:=Nat.mul_le_mul_right _ hnc;rw[Nat.add_mul,Nat.one_mul] at hmul;have hus:u.cells.size=E.sz:=by simpa using hul
 have hst:=ww (P:=P) (w:=w) (p:=p) (o:=k*E.sz) (e:=e) (t:=t) (cs:=cur.toList) (v:=u) (by simpa using hcur) hi (by rw[hsize,hus]) (by rw[hus,hcl];omega) (E.own_one d);refine Lo hw rfl (w':=w.setRow p (cur.toList.take (k*E.sz)++u.cells.toList++cur.toList.drop (k*E.sz+u.cells.size)).toArray) (fun N a ha=>?_) (h _ ?_)
 ·have G:=ha.eval hx;have H:=ha.eval hy;generalize a.eval=ρ at G H ⊢;simp only[execOp,G,H,Instr.storeAt,Instr.sureAddr];simp[hst]
 -- the memory behind it
 have hpx:∀ b,b∈Lx++(Lb++Lc)->b≠p:=by
  intro b hb ee;subst ee;rw[List.append_assoc] at hn;simp only[Value.ownBlock,Option.toList,List.cons_append,List.nil_append,List.nodup_cons] at hn;exact hn.1 hb
 obtain⟨K1,K2,F,_,rfl,hd,J,k2⟩:=Els.split (xs:=xs.take k) (ys:=xs.drop k) (by rw[List.take_append_drop];exact hels);rw[List.drop_eq_getElem_cons hk] at k2;obtain⟨O,f,_,M,rfl,rfl,S,K⟩:=k2;have j:F.length=k*E.sz:=by rw[J.len,List.length_take,Nat.min_eq_left (by omega)]
 have A:=E.own_len S;have keep:∀ b,b∈(K1++(O++f))++(Lb++Lc)->(w.setRow p (cur.toList.take (k*E.sz)++u.cells.toList++cur.toList.drop (k*E.sz+u.cells.size)).toArray).heap[b]?=w.heap[b]?:=fun b hb=>setRow_other w p b _ (hpx b hb)
 have hplt:p<w.heap.size:=(Array.getElem?_eq_some_iff.1 hcur).1;have hBp:B<=p:=hB p (by simp[Value.ownBlock]);refine⟨C.base,C.below.trans ⟨rfl,rfl,rfl,by simp[World.setRow],fun b hb=>setRow_other w p b _ (by omega)⟩,([p]++(K1++(Lb++f)))++Lc,⟨_,Lc,rfl,⟨_,rfl,F++(u.cells.toList++M),K1++(Lb++f),rfl,⟨?_, .inr ⟨p,c,_,by rw[List.length_set],Nat.zero_le _,setRow_heap w p cur _ e _ hcur,by rw[List.length_set];exact hnc,hcm,?_,?_⟩⟩,?_⟩,?_⟩,?_,?_⟩
 ·have I:=K.len;rw[List.length_drop] at I;rw[List.length_append,List.length_append,j,I,List.length_set,hul,Nat.sub_mul,Nat.add_mul,Nat.one_mul];omega
 ·simp only[List.size_toArray,List.length_append,List.length_take,List.length_drop,hus,hcl,hul];omega
 ·rw[List.length_set];have hlp:=Ef (us:=u.cells.toList) (a:=k*E.sz) (m:=E.sz) (n:=xs.length*E.sz) htake hul (by omega) (by rw[hcl];omega);rw[hus];show(cur.toList.take (k*E.sz)++u.cells.toList++cur.toList.drop (k*E.sz+E.sz)).take (xs.length*E.sz)=_;rw[hlp,hd,List.take_append_of_le_length (by omega),List.take_of_length_le (by omega), <- j, <- A,List.drop_append,List.drop_of_length_le (by omega)];simp
 ·have:xs.set k yv=xs.take k++(yv::xs.drop (k+1)):=by rw[List.set_eq_take_append_cons_drop,if_pos hk]
  rw[this];refine Els.append (J.keep fun b hb=>keep b (by simp[hb])) ⟨Lb,f,_,M,rfl,rfl,E.own_keep d fun b hb=>keep b (by simp[hb]),K.keep fun b hb=>keep b (by simp[hb])⟩
 ·exact z.keep fun b hb=>keep b (by simp[hb])
 ·have R:([p]++(K1++(f++(Lb++Lc)))).Nodup:=by
   refine List.Sublist.nodup ?_ hn;simp only[Value.ownBlock,Option.toList,List.append_assoc];exact(List.Sublist.refl _).append ((List.Sublist.refl _).append (List.sublist_append_right _ _))
  refine(List.Perm.nodup_iff ?_).1 R;simp only[List.append_assoc];refine List.Perm.append_left _ (List.Perm.append_left _ ?_);rw[<- List.append_assoc, <- List.append_assoc];exact List.Perm.append_right _ List.perm_append_comm
 ·intro b hb;refine hB b ?_;simp only[Value.ownBlock,Option.toList,List.mem_append] at hb ⊢;rcases hb with(hb|hb|hb|hb)|hb
  ·exact .inl (.inl hb)
  ·exact .inl (.inr (.inl hb))
  ·exact .inr (.inl hb)
  ·exact .inl (.inr (.inr (.inr hb)))
  ·exact .inr (.inr hb)
/-! putting values together -/
theorem Mem.addNil {w:World} (h:Mem B w0 is w):Mem B w0 (Qg (ab E e) [.slice none 0 0] []::is) w:=by
 obtain⟨L,a,b,c⟩:=h.sep;exact⟨h.base,h.below,L,⟨[],L,rfl,Er,a⟩,b,c⟩
theorem ix {w:World}:Els E w [] [] []:=⟨rfl,rfl⟩
theorem eg {w:World} {L1 a:List Nat} {c1 b:List Value} {x:α} {xs:List α} (c:E.own w L1 c1 x) (d:Els E w a b xs):Els E w (L1++a) (c1++b) (x::xs):=⟨L1,a,c1,b,rfl,rfl,c,d⟩
theorem Sep.nil {w:World} {L:List Nat} (h:Sep [] w L):L=[]:=h
theorem Sep.cons {w:World} {i:It} {is:List It} {L:List Nat} (h:Sep (i::is) w L):∃ L1 a,L=L1++a∧i.P w L1∧Sep is w a:=h
theorem Sep.one {w:World} {i:It} {L:List Nat} (h:Sep [i] w L):i.P w L:=by
 obtain⟨L1,_,rfl,a,b⟩:=h;rw[b.nil,List.append_nil];exact a
theorem cw {w:World} {x:Int}:Qb.own w [] [.int .i64 x] x:=⟨rfl,_,rfl,rfl⟩
/-! results -/
def bR (a:Act):ResultVar->Sem Value
 |.tmp t=>pure (a.tmps.getD t undef)
 |.cell ad t=>do loadVar t (<- asAddr (a.tmps.getD ad undef))
def RR (P:Program) (N B:Nat) (w0:World) (L:List (Nat×Value)) (is:List It) (r:ResultVar) (v:Value):Prop:=∀ w a,Mem B w0 is w->Fr N L a->(bR a r).run P w= .ok v w
theorem cz {t:Nat} {v:Value} (h:lk L t=some v):RR P N B w0 L is (.tmp t) v:=fun w a _ ha=>by
 simp[bR,ha.slot t v h]
theorem cr {ad p b n:Nat} {t:TypeId} {fs:Array Field} {info:TypeInfo} {cs:List Value} (h:lk L ad=some (.pointer (some ⟨p,0,none⟩))) (hi:is[n]?=some (Qa p b cs)) (ht:P.underlying t=some (.struct fs)) (hinf:P.info? t=some info) (hz:info.size=cs.length):
 RR P N B w0 L is (.cell ad t) (.agg cs.toArray):=fun w a c ha=>by
 have hl:=jA (P:=P) (A:=⟨p,0,none⟩) ht hinf hz (c.boxCells hi);simp[bR,ha.slot ad _ h,asAddr,hl]
theorem fj {fn:Func} {R:Ending->World->Prop} {r:ResultVar} {v:Value} (hr:fn.results= #[r]) (b:RR P N B w0 L is r v) (hR:∀ w,Mem B w0 is w->R (.returned v) w):QM N B w0 (bodyPost P fn R) .ret L is:=fun w hw a ha=>
 ⟨ha.defers,v,by
  have e:results fn a.tmps=(do let vs <- fn.results.mapM (bR a);pure (if h:vs.size=1 then vs[0] else .tuple vs)):=rfl
  rw[e,hr];simp[b w a hw ha],hR w hw⟩
theorem et {fn:Func} {R:Ending->World->Prop} {b c:ResultVar} {d f:Value} (hr:fn.results= #[b,c]) (g:RR P N B w0 L is b d) (i:RR P N B w0 L is c f) (hR:∀ w,Mem B w0 is w->R (.returned (.tuple #[d,f])) w):QM N B w0 (bodyPost P fn R) .ret L is:=fun w hw a ha=>
 ⟨ha.defers,_,by
  have e:results fn a.tmps=(do let vs <- fn.results.mapM (bR a);pure (if h:vs.size=1 then vs[0] else .tuple vs)):=rfl
  rw[e,hr];simp[g w a hw ha,i w a hw ha],hR w hw⟩
theorem Sep.cast {w:World} {L L':List Nat} (h:Sep is w L) (hl:L=L'):Sep is w L':=hl ▸ h
theorem sc {T:Ty α} {w:World} {L L':List Nat} {cs:List Value} {x:α} (h:T.own w L cs x) (hl:L=L'):T.own w L' cs x:=hl ▸ h
end
end Go.Proofs.YtdlminfjdodjoaaGreat
