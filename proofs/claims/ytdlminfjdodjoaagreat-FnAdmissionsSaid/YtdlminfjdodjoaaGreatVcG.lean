/-
  Values that are borrowed from what came in;slices that are appended whole.
-/
import Derived.Test.YtdlminfjdodjoaaGreatVcF
import Derived.Laws.StructEq
namespace Go.Proofs.YtdlminfjdodjoaaGreat
set_option linter.unusedVariables false
set_option linter.unusedSimpArgs false
open Go.RowKit
section
variable {α:Type}
/-- Values that are borrowed: they read as they did in the first world. -/
def kw (T:Ty α) (w0:World) (B:Nat):Ty α where
 sz:=T.sz
 rd:=fun _ _ cs x=>T.rd w0 B cs x
 own:=fun _ L cs x=>L=[]∧T.rd w0 B cs x
 rd_len:=T.rd_len
 rd_one:=T.rd_one
 rd_keep:=fun h _=>h
 rd_mono:=fun h _=>h
 own_keep:=fun h _=>h
 own_lt:=by rintro _ _ _ _ ⟨rfl,_⟩ b hb;cases hb
 own_rd:=fun h _=>h.2
theorem Ev {T:Ty α} {w0 w:World} {B:Nat} {v:Value} {xs:List α} (hk:∀ b,b<B->w.heap[b]?=w0.heap[b]?) (hB:B<=w.heap.size) (h:ce (kw T w0 B) w w.heap.size v xs):ce T w w.heap.size v xs:=by
 obtain⟨d,A,c,f,g⟩:=h;refine⟨d,A,c,f,fun hp=>?_⟩;obtain⟨a,e,hb,hx⟩:=g hp;refine⟨a,e,hb,fun j x hj=>?_⟩;obtain⟨c',i,k2⟩:=hx j x hj;exact⟨c',T.rd_mono (T.rd_keep i hk) hB,k2⟩
theorem Mem.unbor {T:Ty α} {B:Nat} {w0 w:World} {is:List It} {v:Value} {xs:List α} (a:Mem B w0 is w) (h:ce (kw T w0 B) w w.heap.size v xs):ce T w w.heap.size v xs:=
 Ev (fun b hb=>a.below.block b hb) a.size h
theorem iM {T:Ty α} {w:World} {B n c:Nat} {A:Option Addr} {xs:List α} (h:ce T w B (.slice A n c) xs):n<=c:=by
 obtain⟨_,A',c',e,b⟩:=h;cases e
 by_cases hn:0<xs.length
 ·obtain⟨a,_,hb,_⟩:=b hn;exact hb.2
 ·omega
theorem iP {T:Ty α} {w:World} {B n c k:Nat} {A:Option Addr} {xs:List α} (hk:k<=n) (h:ce T w B (.slice A n c) xs):ce T w B (.slice A k c) (xs.take k):=by
 obtain⟨_,A',c',e,b⟩:=h;cases e
 have hl:(xs.take k).length=k:=by rw[List.length_take];omega
 refine⟨by omega,A,c,by rw[hl],fun hp=>?_⟩;obtain⟨a,ha,hb,hx⟩:=b (by omega);refine⟨a,ha,⟨hb.1,by omega⟩,fun j x hj=>hx j x ?_⟩;rw[List.getElem?_take] at hj
 split at hj
 ·exact hj
 ·cases hj
theorem jI {P:Program} {L:List (Nat×Value)} {x y:Operand} {A:Option Addr} {n c k t e:Nat} {info:TypeInfo} {w:World} {d:Option Nat} {ty:TypeId} {pos:String} {af:Array Edge} {g:Option (Nat×Bool)} (ht:P.underlying t=some (.slice e)) (hi:P.info? e=some info)
 (hx:ev L x=some (.slice A n c)) (hy:ev L y=some (.int .i64 (k:Int))) (hk:k<=c):RV P L ⟨d, .slice t x none (some y) none,ty,pos,af,g⟩ w (.slice A k c) w:=fun N a ha=>by
 have b:=ha.eval hx;have f:=ha.eval hy;generalize a.eval=ρ at b f ⊢;have hA:(if c=0 then A else A.map (·.add (0*info.size)))=A:=by
  split
  ·rfl
  ·cases A with
   |none=>rfl
   |some a=>simp[Addr.add]
 have he:P.elem t=e:=by simp[Program.elem,ht]
 have ht':P.underlying t=some (.slice (P.elem t)):=by rw[he];exact ht
 have i:=run_sliceAt_slice (P:=P) w t (.slice A n c) none (some (.int .i64 (k:Int))) none ht';have h:=run_slice_h (P:=P) w t A n c ht' .i64 (k:Int) (by omega) (by omega);rw[he] at h;simp only[execOp,b,f,Option.map_none,Option.map_some];simp[i,h,sizeOf,typeInfo,hi,sliced]
 simpa using hA
theorem Ft {P:Program} {L:List (Nat×Value)} {op:BinOp} {x y:Operand} {u v r:Value} {t e:TypeId} {w:World} {d:Option Nat} {ty:TypeId} {pos:String} {af:Array Edge} {g:Option (Nat×Bool)} (hx:ev L x=some u) (hy:ev L y=some v) (hg:(eqGuard op t x y u v).run P w= .ok () w) (hb:(binOp op t u v).run P w= .ok r w):
 RV P L ⟨d, .binOp op t x y e,ty,pos,af,g⟩ w r w:=fun N a ha=>by
 have b:=ha.eval hx;have c:=ha.eval hy;generalize a.eval=ρ at b c ⊢;simp[execOp,b,c,hg,hb]
/-- A literal as a list of the call's own. -/
theorem Eg {E:Ty α} {w:World} {e p n:Nat} {cs:List Value} {xs:List α} {L:List Nat} (hn:n=xs.length) (a:n<=maxLen) (hf:∀ w,Els E w [] cs xs) (h:(Qa p e cs).P w L):(ab E e).own w L [.slice (some ⟨p,0,none⟩) n n] xs:=by
 obtain⟨rfl,hb⟩:=h;subst hn;have hl:=(hf w).len;exact⟨_,rfl,cs,[],rfl,⟨hl, .inr ⟨p,xs.length,cs.toArray,rfl,Nat.zero_le _,hb,Nat.le_refl _,a,by simpa using hl,by simp[List.take_of_length_le (Nat.le_of_eq hl)]⟩⟩,hf w⟩
theorem Mem.litOwn {E:Ty α} {B:Nat} {w0 w:World} {js:List It} {e p n:Nat} {cs:List Value} {xs:List α} (hn:n=xs.length) (a:n<=maxLen) (hf:∀ w,Els E w [] cs xs) (h:Mem B w0 (Qa p e cs::js) w):Mem B w0 (Qg (ab E e) [.slice (some ⟨p,0,none⟩) n n] xs::js) w:=
 h.perm fun L hL=>⟨L,Eg hn a hf hL,List.Perm.refl _⟩
/-- A type that holds no address. -/
structure uj (T:Ty α):Prop where
 own:∀ {w B cs x},T.rd w B cs x->∀ w',T.own w' [] cs x
theorem ft:uj Qb:=⟨fun h _=>⟨rfl,h⟩⟩
theorem ur {β:Type} {A:Ty α} {C:Ty β} (b:uj A) (c:uj C):uj (ke A C):=⟨fun⟨c1,a,e,d,k2⟩ w'=>⟨[],[],c1,a,rfl,e,b.own d w',c.own k2 w'⟩⟩
theorem pX {β:Type} {A:Ty α} {f:β->α} (h:uj A):uj (rn A f):=⟨fun k w'=>h.own k w'⟩
theorem iO {E F:Ty α} {w:World} {B:Nat} (hF:∀ cs x,E.rd w B cs x->∀ w',F.own w' [] cs x):∀ {ys:List α} {a:Addr} (_:∀ j x,ys[j]?=some x->∃ c',E.rd w B c' x∧∀ o u,c'[o]?=some u->w.cell? ((a.add (j*E.sz)).add o)=some u),
 ∃ news,(∀ j u,news[j]?=some u->w.cell? (a.add j)=some u)∧∀ w',Els F w' [] news ys
 | [],_,_=>⟨[],fun j u h=>by simp at h,fun _=>⟨rfl,rfl⟩⟩
 |y::ys,a,h=>by
  obtain⟨c,b,d⟩:=h 0 y rfl
  obtain⟨news,e,f⟩:=iO hF (ys:=ys) (a:=a.add E.sz) (fun j x hj=>by
   obtain⟨c',g,k2⟩:=h (j+1) x (by simpa using hj);refine⟨c',g,fun o u hu=>?_⟩;rw[<- k2 o u hu,rt,rt,rt]
   congr 2
   rw[Nat.add_mul];omega)
  have hl:=E.rd_len b;refine⟨c++news,fun j u hj=>?_,fun w'=>⟨[],[],c,news,rfl,rfl,hF _ _ b w',f w'⟩⟩;rcases Nat.lt_or_ge j c.length with hlt|hge
  ·rw[List.getElem?_append_left hlt] at hj;have:=d j u hj
   rwa [Nat.zero_mul] at this
  ·rw[List.getElem?_append_right hge] at hj;have:=e _ u hj;rw[rt] at this;rw[<- this]
   congr 2
   omega
/-- What a slice that is appended whole must say of itself. -/
def mB (E F:Ty α) (w:World) (u:Value) (ys:List α):Prop:=∃ wr Br,ce E wr Br u ys∧(∀ A:Addr,A.block<Br->w.cell? A=wr.cell? A)∧∀ cs x,E.rd wr Br cs x->∀ w',F.own w' [] cs x
theorem fw {E:Ty α} {w:World} {u:Value} {ys:List α} (hf:uj E) (h:ce E w w.heap.size u ys):mB E E w u ys:=⟨w,_,h,fun _ _=>rfl,fun _ _ k w'=>hf.own k w'⟩
theorem Jn {E:Ty α} {B:Nat} {w0 w:World} {is:List It} {u:Value} {ys:List α} (a:Mem B w0 is w) (h:ce E w0 B u ys):mB E (kw E w0 B) w u ys:=⟨w0,B,h,fun _ hA=>a.cell0 hA,fun _ _ k _=>⟨rfl,k⟩⟩
variable {P:Program} {N B:Nat} {w0:World} {Q:Exit->Act->World->Prop} {L:List (Nat×Value)} {is js:List It} {E F:Ty α} {e:TypeId}
theorem Fp {w:World} {t ty:TypeId} {i:TypeInfo} (ht:P.underlying t=some (.slice e)) (hi:P.info? e=some i) {v:Value} {n c size:Nat} {xs:List Value} (hown:w.ownsRow 0 e size v n xs):
 (Builtin.append_ #[t,t] ty #[v, .slice none 0 c]).run P w= .ok v w:=by
 rcases hown.2 with⟨rfl,rfl⟩|⟨g,cap,cur,rfl,_,_,hnc,_⟩
 ·simp[Builtin.append_,run_underlying ht,sizeOf,typeInfo,hi,Builtin.lenOf,Builtin.firstCells]
 ·simp[Builtin.append_,run_underlying ht,sizeOf,typeInfo,hi,Builtin.lenOf,Builtin.firstCells,hnc,storeCells]
theorem wW {ops:Array Oper} {rest:List Oper} {s x:Operand} {v u:Value} {t:Nat} {i:TypeInfo} {z:Value} {xs ys:List α} {d:Nat} {ty:TypeId} {pos:String} {af:Array Edge} {g:Option (Nat×Bool)}
 (hmv:∀ w,Mem B w0 is w->Mem B w0 (Qg (ab F e) [v] xs::js) w) (hsrc:∀ w,Mem B w0 is w->mB E F w u ys)
 (ht:P.underlying t=some (.slice e)) (hi:P.info? e=some i) (hz:i.zero=some z) (hsize:i.size=F.sz) (hzs:z.cells.size=F.sz) (hsz:0<F.sz)
 (k:ev L s=some v) (hx:ev L x=some u) (hb:(xs.length+ys.length)*i.bytes<=140737488355328) (l:xs.length+ys.length<=9223372036854775807)
 (hw:Wd ops L ⟨some d, .call ⟨.builtin .append,#[s,x],#[t,t]⟩,ty,pos,af,g⟩ true) (hN:d<N)
 (h:∀ v',WM P N B w0 ops Q rest ((d,v')::L) (Qg (ab F e) [v'] (xs++ys)::js)):WM P N B w0 ops Q (⟨some d, .call ⟨.builtin .append,#[s,x],#[t,t]⟩,ty,pos,af,g⟩::rest) L is:=fun w o=>by
 have hm':=hmv w o;obtain⟨wr,Br,⟨hl,A,c,rfl,hr⟩,hcell,hF⟩:=hsrc w o;have hnil:∀ c,(Builtin.append_ #[t,t] ty #[v, .slice none 0 c]).run P w= .ok v w:=fun c=>by
  obtain⟨_,⟨_,m,cells,Lx,rfl,hrow,_⟩,_⟩:=hm'.get (n:=0) rfl;cases m
  exact Fp (size:=F.sz) ht hi hrow
 cases ys with
 |nil=>
  cases A with
  |none=>
   refine tp hw rfl hN (qV k hx (hnil c)) (h v w ?_);rw[List.append_nil];exact hm'
  |some a=>
   obtain⟨v',w',f,b⟩:=Ls (P:=P) (ys:=[]) (eis:=[]) t ty i z ht hi hz hsize hzs hsz hm' (a:=a) (c:=c) (news:=[]) (fun w L k=>by rw[Sep.nil k];exact⟨rfl,rfl⟩) (fun j u hj=>by simp at hj) hb l;exact tp hw rfl hN (qV k hx f) (h v' w' b)
 |cons y ys=>
  obtain⟨a,rfl,hbl,he⟩:=hr (by simp);obtain⟨news,p,r⟩:=iO hF he;obtain⟨v',w',f,b⟩:=Ls (P:=P) (ys:=y::ys) (eis:=[]) t ty i z ht hi hz hsize hzs hsz hm' (a:=a) (c:=c) (news:=news) (fun w L k=>by rw[Sep.nil k];exact r w) (fun j u hj=>(hcell _ (by rw[bj];exact hbl.1)).trans (p j u hj)) hb l;exact tp hw rfl hN (qV k hx f) (h v' w' b)
end
end Go.Proofs.YtdlminfjdodjoaaGreat
