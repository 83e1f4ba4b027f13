/-
  Slices of the call's own that are read: numbers at once;borrowed values by way of the block's cells.
-/
import Derived.Test.YtdlminfjdodjoaaGreatVcH
namespace Go.Proofs.YtdlminfjdodjoaaGreat
open Go.RowKit
theorem Qdl {α:Type} [Inhabited α] {xs:List α} {i:Nat} (h:i<xs.length):gt xs i=xs[i]:=by simp[gt,List.getD,h]
theorem Qwp {n:Nat} (h:n≤9223372036854775807):IntKind.i64.wrap ((n:Int)-1)=(n:Int)-1:=by
 simp only[IntKind.wrap_i64];omega
theorem Qte {α:Type} [Inhabited α] {w:α→Nat} {xs:List α} {j:Nat} (h:j<xs.length):((xs.take (j+1)).map w).sum=((xs.take j).map w).sum+w (gt xs j):=by
 rw[List.take_add_one,List.getElem?_eq_getElem h,Qdl h,List.map_append,List.sum_append];simp
/-- A loop that hands on each element of a list. -/
theorem Qkf {α R:Type} [Inhabited α] {xs:List α} {b:Nat→List α→R⊕List α} (hb:∀ j s,b j s= .inr (s++[gt xs j])):rng b (xs.length-0) 0 []= .inr xs:=by
 have h:∀ m k,m+k=xs.length→rng b m k (xs.take k)= .inr xs:=by
  intro m
  induction m with
  |zero=>intro k hk;rw[rng,List.take_of_length_le (by omega)]
  |succ m ih=>
   intro k hk;rw[rng,hb];show rng b m (k+1) (xs.take k++[gt xs k])=_;have:xs.take k++[gt xs k]=xs.take (k+1):=by
    rw[List.take_add_one,List.getElem?_eq_getElem (by omega),Qdl (by omega)];rfl
   rw[this];exact ih (k+1) (by omega)
 exact h _ 0 (by omega)
theorem Qrs {α:Type} [Inhabited α] {xs:List α} {i j:Nat} {x:α} (h:i≠j):gt (xs.set i x) j=gt xs j:=by simp[gt,List.getD,List.getElem?_set_ne h]
theorem Qyg {α:Type} [Inhabited α] {xs:List α} {i:Nat} {x:α} (h:i<xs.length):gt (xs.set i x) i=x:=by simp[gt,List.getD,h]
theorem Qzq {R:Type} {b:Nat→Unit→R⊕Unit}:∀ m k,rng b m k ()= .inr ()→∀ j,k≤j→j<k+m→b j ()= .inr ()
 |0,_,_,j,h1,h2=>by omega
 |m+1,k,h,j,h1,h2=>by
  rw[rng] at h;cases hb:b k () with
  |inl r=>rw[hb] at h;cases h
  |inr u=>
   rw[hb] at h
   by_cases e:k=j
   ·subst e;exact hb
   ·exact Qzq m (k+1) h j (by omega) (by omega)
theorem Qait {α:Type} [Inhabited α] {w:α→Nat} {c:Nat} {xs:List α} (h:∀ j,j<xs.length→w (gt xs j)≤c):(xs.map w).sum≤c*xs.length:=by
 have h':∀ k,k≤xs.length→((xs.take k).map w).sum≤c*k:=by
  intro k
  induction k with
  |zero=>intro _;simp
  |succ k ih=>
   intro hk;rw[Qte (by omega),Nat.mul_add];have:=ih (by omega);have:=h k (by omega);omega
 have:=h' _ (Nat.le_refl _)
 rwa [List.take_length] at this
theorem Qaiu {α:Type} {w:α→Nat} {xs:List α} (j:Nat):((xs.take j).map w).sum≤(xs.map w).sum:=by
 have:=congrArg (fun l=>(l.map w).sum) (List.take_append_drop j xs);simp only[List.map_append,List.sum_append] at this;omega
section
variable {α:Type} {P:Program} {N B:Nat} {w0:World} {Q:Exit→Act→World→Prop} {L:List (Nat×Value)} {is js:List It} {E:Ty α} {e:TypeId}
theorem Mem.ownInt {w:World} {g m c j i:Nat} {xs:List Int} (h:Mem B w0 is w) (hi:is[i]?=some (Qh (tSl Qa e) [.slice (some ⟨g,0,none⟩) m c] xs)) (hj:j<m):w.cell? ((⟨g,0,none⟩:Addr).add (j*1))=some (.int .i64 (gt xs j)):=by
 obtain⟨hl,A,c',hv,hr⟩:=h.rdSI hi;cases hv
 obtain⟨a,ha,_,hx⟩:=hr (by omega);cases ha
 exact Qen hx j hj
/-- A block whose first cells are the elements,all borrowed. -/
structure Qos (T:Ty α) (wb:World) (Bb:Nat) (cs:List Value) (n c:Nat) (xs:List α):Prop where
 len:n=xs.length
 le:n≤c
 lim:c≤maxLen
 size:cs.length=c*T.sz
 els:∀ w,Els (Qgg T wb Bb) w [] (cs.take (n*T.sz)) xs
theorem Els.flat {T:Ty α} {wb:World} {Bb:Nat} {w:World}:∀ {xs:List α} {L:List Nat} {cells:List Value},Els (Qgg T wb Bb) w L cells xs→L=[]∧∀ w',Els (Qgg T wb Bb) w' [] cells xs
 | [],_,_,h=>⟨h.1,fun _=>⟨rfl,h.2⟩⟩
 |x::xs,_,_,⟨L1,L2,c1,c2,e1,e2,h1,h2⟩=>by
  obtain⟨k1,k2⟩:=h2.flat;obtain⟨k3,k4⟩:=h1;subst k1;subst k3;exact⟨e1,fun w'=>⟨[],[],c1,c2,rfl,e2,⟨rfl,k4⟩,k2 w'⟩⟩
theorem Mem.expose {T:Ty α} {wb:World} {Bb:Nat} {w:World} {g n c:Nat} {xs:List α} (h:Mem B w0 (Qh (tSl (Qgg T wb Bb) e) [.slice (some ⟨g,0,none⟩) n c] xs::js) w):∃ cs,Qos T wb Bb cs n c xs∧Mem B w0 (Qb g e cs::js) w:=by
 obtain⟨_,⟨L1,L2,rfl,⟨v,ev,cells,L',rfl,hrow,hels⟩,h2⟩,h3,h4⟩:=h.sep;cases ev
 rcases hrow.2 with⟨h5,h0⟩|⟨g',cap,cur,hv,_,hcur,hnc,hcm,hcs,htake⟩
 ·cases h5
 ·cases hv
  obtain⟨k1,k2⟩:=hels.flat;subst k1;refine⟨cur.toList,⟨rfl,hnc,hcm,by simpa using (show cur.size=c*T.sz from hcs),fun w'=>?_⟩,h.base,h.below,_,⟨[g],L2,rfl,⟨rfl,by simpa using hcur⟩,h2⟩,by simpa [Value.ownBlock] using h3,fun b hb=>h4 b (by simpa [Value.ownBlock] using hb)⟩;have:cur.toList.take (xs.length*T.sz)=cells:=htake;rw[this];exact k2 w'
theorem Mem.hide {T:Ty α} {wb:World} {Bb:Nat} {w:World} {g n c:Nat} {xs:List α} {cs:List Value} (hr:Qos T wb Bb cs n c xs) (h:Mem B w0 (Qb g e cs::js) w):Mem B w0 (Qh (tSl (Qgg T wb Bb) e) [.slice (some ⟨g,0,none⟩) n c] xs::js) w:=
 h.perm fun L hL=>by
  obtain⟨rfl,hb⟩:=hL;obtain⟨rfl,h2,h3,h4,h5⟩:=hr;refine⟨[g],⟨_,rfl,cs.take (xs.length*T.sz),[],rfl,⟨?_, .inr ⟨g,c,cs.toArray,rfl,Nat.zero_le _,hb,h2,h3,(show cs.toArray.size=c*T.sz by simpa using h4),by simp[Qgg]⟩⟩,h5 w⟩,List.Perm.refl _⟩;exact(h5 w).len
theorem Qos.get [Inhabited α] {T:Ty α} {wb:World} {Bb:Nat} {n c j:Nat} {xs:List α} {cs:List Value} (hr:Qos T wb Bb cs n c xs) (hj:j<n):∃ c',T.rd wb Bb c' (gt xs j)∧∀ o u,c'[o]?=some u→cs[j*T.sz+o]?=some u:=by
 obtain⟨rfl,h2,h3,h4,h5⟩:=hr;obtain⟨Lj,cj,_,ho,hc⟩:=(h5 wb).get (Qch hj);refine⟨cj,ho.2,fun o u hu=>?_⟩;have h6:=hc o u hu;rw[List.getElem?_take] at h6
 split at h6
 ·exact h6
 ·cases h6
theorem Qadd {T:Ty α} {wb:World} {Bb:Nat} {ops:Array Oper} {l:List Oper} {g n c:Nat} {xs:List α} (hmv:∀ w,Mem B w0 is w→Mem B w0 (Qh (tSl (Qgg T wb Bb) e) [.slice (some ⟨g,0,none⟩) n c] xs::js) w)
 (h:∀ cs,Qos T wb Bb cs n c xs→WM P N B w0 ops Q l L (Qb g e cs::js)):WM P N B w0 ops Q l L is:=fun w hm=>by
 obtain⟨cs,h1,h2⟩:=(hmv w hm).expose;exact h cs h1 w h2
theorem Qabw {T:Ty α} {wb:World} {Bb:Nat} {cd:Code} {g n c:Nat} {xs:List α} (hmv:∀ w,Mem B w0 is w→Mem B w0 (Qh (tSl (Qgg T wb Bb) e) [.slice (some ⟨g,0,none⟩) n c] xs::js) w)
 (h:∀ cs,Qos T wb Bb cs n c xs→CM P N B w0 cd Q L (Qb g e cs::js)):CM P N B w0 cd Q L is:=fun w hm=>by
 obtain⟨cs,h1,h2⟩:=(hmv w hm).expose;exact h cs h1 w h2
theorem Mem.rowCells {w:World} {g j s i:Nat} {cs c':List Value} (h:Mem B w0 is w) (hi:is[i]?=some (Qb g e cs)) (hc:∀ o u,c'[o]?=some u→cs[j*s+o]?=some u):∀ o u,c'[o]?=some u→w.cell? (((⟨g,0,none⟩:Addr).add (j*s)).add o)=some u:=fun o u hu=>by
 rw[Qkq];exact h.boxCell hi (hc o u hu)
end
/-- Where the rest of a slice begins. -/
def Qpm (A:Option Addr) (c k s:Nat):Option Addr:=if c=k then A else A.map (·.add (k*s))
theorem Qatz {α:Type} {T:Ty α} {w:World} {B n c k:Nat} {A:Option Addr} {xs:List α} (hk:k≤n) (h:rdS T w B (.slice A n c) xs):rdS T w B (.slice (Qpm A c k T.sz) (n-k) (c-k)) (xs.drop k):=by
 obtain⟨h1,A',c',e,h2⟩:=h;cases e
 have hl:(xs.drop k).length=xs.length-k:=List.length_drop;refine⟨by omega,Qpm A c k T.sz,c-k,by rw[hl],fun hp=>?_⟩;obtain⟨a,ha,hb,hx⟩:=h2 (by omega);subst ha;refine⟨a.add (k*T.sz),by unfold Qpm;rw[if_neg (by omega)];rfl,⟨by rw[Qao];exact hb.1,by omega⟩,fun j x hj=>?_⟩;rw[List.getElem?_drop] at hj;obtain⟨cj,k1,k2⟩:=hx (k+j) x hj;refine⟨cj,k1,fun o u hu=>?_⟩;have h3:=k2 o u hu;rw[Qkq a, ← Nat.add_mul];exact h3
theorem Qavf {P:Program} {L:List (Nat×Value)} {x y:Operand} {A:Option Addr} {n c k t e s:Nat} {w:World} {info:TypeInfo} {d:Option Nat} {ty:TypeId} {pos:String} {af:Array Edge} {g:Option (Nat×Bool)} (ht:P.underlying t=some (.slice e)) (hi:P.info? e=some info) (hs:info.size=s)
 (hx:ev L x=some (.slice A n c)) (hy:ev L y=some (.int .i64 (k:Int))) (hk:k≤n):RV P L ⟨d, .slice t x (some y) none none,ty,pos,af,g⟩ w (.slice (Qpm A c k s) (n-k) (c-k)) w:=fun N a ha=>by
 have e0:=ha.eval hx;have e1:=ha.eval hy;generalize a.eval=ρ at e0 e1 ⊢;have he:P.elem t=e:=by simp[Program.elem,ht]
 have ht':P.underlying t=some (.slice (P.elem t)):=by rw[he];exact ht
 have h1:=run_sliceAt_slice (P:=P) w t (.slice A n c) (some (.int .i64 (k:Int))) none none ht';have h2:=run_slice_l (P:=P) w t A n c ht' .i64 (k:Int) (by omega) (by omega);rw[he] at h2;subst hs;simp only[execOp,e0,e1,Option.map_none,Option.map_some];simp[h1,h2,sizeOf,typeInfo,hi,sliced,Qpm]
/-! ### A variable that a function value holds -/
def rdP {α:Type} (T:Ty α) (w:World) (B:Nat) (p:Nat) (cs:List Value) (x:α):Prop:=p<B∧(∀ o u,cs[o]?=some u→w.cell? ((⟨p,0,none⟩:Addr).add o)=some u)∧T.rd w B cs x
theorem Mem.rdPBox {α:Type} {T:Ty α} {B:Nat} {w0 w:World} {is:List It} {p e n:Nat} {cs:List Value} {x:α} (hm:Mem B w0 is w) (hi:is[n]?=some (Qb p e cs)) (h:T.rd w w.heap.size cs x):rdP T w w.heap.size p cs x:=
 ⟨(hm.box hi).2.2,hm.boxCells hi,h⟩
theorem Qadq {w0:World} {p B:Nat} {cs:List Value} {α:Type} {T:Ty α} {x:α} (h:rdP T w0 B p cs x) {B':Nat} {w0' w:World} {is:List It} (hB:B'=B) (hw:w0'=w0) (hm:Mem B' w0' is w) {o:Nat} {u:Value} (hu:cs[o]?=some u):w.cell? ((⟨p,0,none⟩:Addr).add o)=some u:=by
 subst hB;subst hw;exact(hm.cell0 (by rw[Qao];exact h.1)).trans (h.2.1 o u hu)
end Go.Proofs.YtdlminfjdodjoaaGreat
