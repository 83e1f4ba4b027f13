/-
  Slices of the call's own that are read: numbers at once;borrowed values by way of the block's cells.
-/
import Derived.Test.YtdlminfjdodjoaaGreatVcH
namespace Go.Proofs.YtdlminfjdodjoaaGreat
set_option linter.unusedVariables false
set_option linter.unusedSimpArgs false
open Go.RowKit
theorem gj {α:Type} [Inhabited α] {xs:List α} {i:Nat} (h:i<xs.length):gt xs i=xs[i]:=by simp[gt,List.getD,h]
theorem sV {n:Nat} (h:n<=9223372036854775807):IntKind.i64.wrap ((n:Int)-1)=(n:Int)-1:=by
 simp only[IntKind.wrap_i64];omega
theorem nV {α:Type} [Inhabited α] {w:α->Nat} {xs:List α} {j:Nat} (h:j<xs.length):((xs.take (j+1)).map w).sum=((xs.take j).map w).sum+w (gt xs j):=by
 rw[List.take_add_one,List.getElem?_eq_getElem h,gj h,List.map_append,List.sum_append];simp
/-- A loop that hands on each element of a list. -/
theorem rf {α R:Type} [Inhabited α] {xs:List α} {b:Nat->List α->R⊕List α} (hb:∀ j s,b j s= .inr (s++[gt xs j])):ax b (xs.length-0) 0 []= .inr xs:=by
 have h:∀ m k,m+k=xs.length->ax b m k (xs.take k)= .inr xs:=by
  intro m
  induction m with
  |zero=>intro k hk;rw[ax,List.take_of_length_le (by omega)]
  |succ m ih=>
   intro k hk;rw[ax,hb];show ax b m (k+1) (xs.take k++[gt xs k])=_;have:xs.take k++[gt xs k]=xs.take (k+1):=by
    rw[List.take_add_one,List.getElem?_eq_getElem (by omega),gj (by omega)];rfl
   rw[this];exact ih (k+1) (by omega)
 exact h _ 0 (by omega)
theorem mN {α:Type} [Inhabited α] {xs:List α} {i j:Nat} {x:α} (h:i≠j):gt (xs.set i x) j=gt xs j:=by simp[gt,List.getD,List.getElem?_set_ne h]
theorem Mq {α:Type} [Inhabited α] {xs:List α} {i:Nat} {x:α} (h:i<xs.length):gt (xs.set i x) i=x:=by simp[gt,List.getD,h]
theorem qT {R:Type} {b:Nat->Unit->R⊕Unit}:∀ m k,ax b m k ()= .inr ()->∀ j,k<=j->j<k+m->b j ()= .inr ()
 |0,_,_,j,a,c=>by omega
 |m+1,k,h,j,a,c=>by
  rw[ax] at h;cases hb:b k () with
  |inl r=>rw[hb] at h;cases h
  |inr u=>
   rw[hb] at h
   by_cases e:k=j
   ·subst e;exact hb
   ·exact qT m (k+1) h j (by omega) (by omega)
theorem lC {α:Type} [Inhabited α] {w:α->Nat} {c:Nat} {xs:List α} (h:∀ j,j<xs.length->w (gt xs j)<=c):(xs.map w).sum<=c*xs.length:=by
 have h':∀ k,k<=xs.length->((xs.take k).map w).sum<=c*k:=by
  intro k
  induction k with
  |zero=>intro _;simp
  |succ k ih=>
   intro hk;rw[nV (by omega),Nat.mul_add];have:=ih (by omega);have:=h k (by omega);omega
 have:=h' _ (Nat.le_refl _)
 rwa [List.take_length] at this
theorem lD {α:Type} {w:α->Nat} {xs:List α} (j:Nat):((xs.take j).map w).sum<=(xs.map w).sum:=by
 have:=congrArg (fun l=>(l.map w).sum) (List.take_append_drop j xs);simp only[List.map_append,List.sum_append] at this;omega
section
variable {α:Type} {P:Program} {N B:Nat} {w0:World} {Q:Exit->Act->World->Prop} {L:List (Nat×Value)} {is js:List It} {E:Ty α} {e:TypeId}
theorem Mem.ownInt {w:World} {g m c j i:Nat} {xs:List Int} (h:Mem B w0 is w) (hi:is[i]?=some (Qg (ab Qb e) [.slice (some ⟨g,0,none⟩) m c] xs)) (hj:j<m):w.cell? ((⟨g,0,none⟩:Addr).add (j*1))=some (.int .i64 (gt xs j)):=by
 obtain⟨hl,A,c',hv,hr⟩:=h.rdSI hi;cases hv
 obtain⟨a,ha,_,hx⟩:=hr (by omega);cases ha
 exact kd hx j hj
/-- A block whose first cells are the elements,all borrowed. -/
structure Qps (T:Ty α) (wb:World) (Bb:Nat) (cs:List Value) (n c:Nat) (xs:List α):Prop where
 len:n=xs.length
 le:n<=c
 lim:c<=maxLen
 size:cs.length=c*T.sz
 els:∀ w,Els (kw T wb Bb) w [] (cs.take (n*T.sz)) xs
theorem Els.flat {T:Ty α} {wb:World} {Bb:Nat} {w:World}:∀ {xs:List α} {L:List Nat} {cells:List Value},Els (kw T wb Bb) w L cells xs->L=[]∧∀ w',Els (kw T wb Bb) w' [] cells xs
 | [],_,_,h=>⟨h.1,fun _=>⟨rfl,h.2⟩⟩
 |x::xs,_,_,⟨L1,j,c1,a,b,c,d,e⟩=>by
  obtain⟨f,k2⟩:=e.flat;obtain⟨g,i⟩:=d;subst f;subst g;exact⟨b,fun w'=>⟨[],[],c1,a,rfl,c,⟨rfl,i⟩,k2 w'⟩⟩
theorem Mem.expose {T:Ty α} {wb:World} {Bb:Nat} {w:World} {g n c:Nat} {xs:List α} (h:Mem B w0 (Qg (ab (kw T wb Bb) e) [.slice (some ⟨g,0,none⟩) n c] xs::js) w):∃ cs,Qps T wb Bb cs n c xs∧Mem B w0 (Qa g e cs::js) w:=by
 obtain⟨_,⟨L1,a,rfl,⟨v,ev,cells,L',rfl,hrow,hels⟩,d⟩,f,i⟩:=h.sep;cases ev
 rcases hrow.2 with⟨j,_⟩|⟨g',cap,cur,hv,_,hcur,hnc,hcm,hcs,htake⟩
 ·cases j
 ·cases hv
  obtain⟨k,k2⟩:=hels.flat;subst k;refine⟨cur.toList,⟨rfl,hnc,hcm,by simpa using (show cur.size=c*T.sz from hcs),fun w'=>?_⟩,h.base,h.below,_,⟨[g],a,rfl,⟨rfl,by simpa using hcur⟩,d⟩,by simpa [Value.ownBlock] using f,fun b hb=>i b (by simpa [Value.ownBlock] using hb)⟩;have:cur.toList.take (xs.length*T.sz)=cells:=htake;rw[this];exact k2 w'
theorem Mem.hide {T:Ty α} {wb:World} {Bb:Nat} {w:World} {g n c:Nat} {xs:List α} {cs:List Value} (hr:Qps T wb Bb cs n c xs) (h:Mem B w0 (Qa g e cs::js) w):Mem B w0 (Qg (ab (kw T wb Bb) e) [.slice (some ⟨g,0,none⟩) n c] xs::js) w:=
 h.perm fun L hL=>by
  obtain⟨rfl,hb⟩:=hL;obtain⟨rfl,b,d,f,a⟩:=hr;refine⟨[g],⟨_,rfl,cs.take (xs.length*T.sz),[],rfl,⟨?_, .inr ⟨g,c,cs.toArray,rfl,Nat.zero_le _,hb,b,d,(show cs.toArray.size=c*T.sz by simpa using f),by simp[kw]⟩⟩,a w⟩,List.Perm.refl _⟩;exact(a w).len
theorem Qps.get [Inhabited α] {T:Ty α} {wb:World} {Bb:Nat} {n c j:Nat} {xs:List α} {cs:List Value} (hr:Qps T wb Bb cs n c xs) (hj:j<n):∃ c',T.rd wb Bb c' (gt xs j)∧∀ o u,c'[o]?=some u->cs[j*T.sz+o]?=some u:=by
 obtain⟨rfl,_,_,_,b⟩:=hr;obtain⟨Lj,cj,_,ho,hc⟩:=(b wb).get (er hj);refine⟨cj,ho.2,fun o u hu=>?_⟩;have a:=hc o u hu;rw[List.getElem?_take] at a
 split at a
 ·exact a
 ·cases a
theorem eV {T:Ty α} {wb:World} {Bb:Nat} {ops:Array Oper} {l:List Oper} {g n c:Nat} {xs:List α} (hmv:∀ w,Mem B w0 is w->Mem B w0 (Qg (ab (kw T wb Bb) e) [.slice (some ⟨g,0,none⟩) n c] xs::js) w)
 (h:∀ cs,Qps T wb Bb cs n c xs->WM P N B w0 ops Q l L (Qa g e cs::js)):WM P N B w0 ops Q l L is:=fun w d=>by
 obtain⟨cs,a,b⟩:=(hmv w d).expose;exact h cs a w b
theorem dD {T:Ty α} {wb:World} {Bb:Nat} {cd:Code} {g n c:Nat} {xs:List α} (hmv:∀ w,Mem B w0 is w->Mem B w0 (Qg (ab (kw T wb Bb) e) [.slice (some ⟨g,0,none⟩) n c] xs::js) w)
 (h:∀ cs,Qps T wb Bb cs n c xs->CM P N B w0 cd Q L (Qa g e cs::js)):CM P N B w0 cd Q L is:=fun w d=>by
 obtain⟨cs,a,b⟩:=(hmv w d).expose;exact h cs a w b
theorem Mem.rowCells {w:World} {g j s i:Nat} {cs c':List Value} (h:Mem B w0 is w) (hi:is[i]?=some (Qa g e cs)) (hc:∀ o u,c'[o]?=some u->cs[j*s+o]?=some u):∀ o u,c'[o]?=some u->w.cell? (((⟨g,0,none⟩:Addr).add (j*s)).add o)=some u:=fun o u hu=>by
 rw[rt];exact h.boxCell hi (hc o u hu)
end
/-- Where the rest of a slice begins. -/
def bP (A:Option Addr) (c k s:Nat):Option Addr:=if c=k then A else A.map (·.add (k*s))
theorem qQ {α:Type} {T:Ty α} {w:World} {B n c k:Nat} {A:Option Addr} {xs:List α} (hk:k<=n) (h:ce T w B (.slice A n c) xs):ce T w B (.slice (bP A c k T.sz) (n-k) (c-k)) (xs.drop k):=by
 obtain⟨_,A',c',e,b⟩:=h;cases e
 have hl:(xs.drop k).length=xs.length-k:=List.length_drop;refine⟨by omega,bP A c k T.sz,c-k,by rw[hl],fun hp=>?_⟩;obtain⟨a,ha,hb,hx⟩:=b (by omega);subst ha;refine⟨a.add (k*T.sz),by unfold bP;rw[if_neg (by omega)];rfl,⟨by rw[bj];exact hb.1,by omega⟩,fun j x hj=>?_⟩;rw[List.getElem?_drop] at hj;obtain⟨cj,f,k2⟩:=hx (k+j) x hj;refine⟨cj,f,fun o u hu=>?_⟩;have d:=k2 o u hu;rw[rt a, <- Nat.add_mul];exact d
theorem jJ {P:Program} {L:List (Nat×Value)} {x y:Operand} {A:Option Addr} {n c k t e s:Nat} {w:World} {info:TypeInfo} {d:Option Nat} {ty:TypeId} {pos:String} {af:Array Edge} {g:Option (Nat×Bool)} (ht:P.underlying t=some (.slice e)) (hi:P.info? e=some info) (j:info.size=s)
 (hx:ev L x=some (.slice A n c)) (hy:ev L y=some (.int .i64 (k:Int))) (hk:k<=n):RV P L ⟨d, .slice t x (some y) none none,ty,pos,af,g⟩ w (.slice (bP A c k s) (n-k) (c-k)) w:=fun N a ha=>by
 have b:=ha.eval hx;have f:=ha.eval hy;generalize a.eval=ρ at b f ⊢;have he:P.elem t=e:=by simp[Program.elem,ht]
 have ht':P.underlying t=some (.slice (P.elem t)):=by rw[he];exact ht
 have i:=run_sliceAt_slice (P:=P) w t (.slice A n c) (some (.int .i64 (k:Int))) none none ht';have h:=run_slice_l (P:=P) w t A n c ht' .i64 (k:Int) (by omega) (by omega);rw[he] at h;subst j;simp only[execOp,b,f,Option.map_none,Option.map_some];simp[i,h,sizeOf,typeInfo,hi,sliced,bP]
/-! ### A variable that a function value holds -/
def Nw {α:Type} (T:Ty α) (w:World) (B:Nat) (p:Nat) (cs:List Value) (x:α):Prop:=p<B∧(∀ o u,cs[o]?=some u->w.cell? ((⟨p,0,none⟩:Addr).add o)=some u)∧T.rd w B cs x
theorem Mem.rdPBox {α:Type} {T:Ty α} {B:Nat} {w0 w:World} {is:List It} {p e n:Nat} {cs:List Value} {x:α} (a:Mem B w0 is w) (hi:is[n]?=some (Qa p e cs)) (h:T.rd w w.heap.size cs x):Nw T w w.heap.size p cs x:=
 ⟨(a.box hi).2.2,a.boxCells hi,h⟩
theorem fG {w0:World} {p B:Nat} {cs:List Value} {α:Type} {T:Ty α} {x:α} (h:Nw T w0 B p cs x) {B':Nat} {w0' w:World} {is:List It} (hB:B'=B) (hw:w0'=w0) (a:Mem B' w0' is w) {o:Nat} {u:Value} (hu:cs[o]?=some u):w.cell? ((⟨p,0,none⟩:Addr).add o)=some u:=by
 subst hB;subst hw;exact(a.cell0 (by rw[bj];exact h.1)).trans (h.2.1 o u hu)
end Go.Proofs.YtdlminfjdodjoaaGreat
