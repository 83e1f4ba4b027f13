/-
  One element of a slice of the call's own,taken out to be read and written,and put back.
-/
import Derived.Test.YtdlminfjdodjoaaGreatVcD
namespace Go.Proofs.YtdlminfjdodjoaaGreat
set_option linter.unusedVariables false
set_option linter.unusedSimpArgs false
open Go.RowKit
section
variable {α:Type}
/-- A slice of the call's own,its element k taken out: ck are the element's cells. -/
def ey (E:Ty α) (e:TypeId) (A:Option Addr) (n c:Nat) (xs:List α) (k:Nat) (ck:List Value):It where
 P:=fun w L=>∃ g cur pre post spare L1 f,A=some ⟨g,0,none⟩∧w.heap[g]?=some (.cells cur e (0,0))∧n=xs.length∧k<n∧n<=c∧c<=maxLen∧cur.size=c*E.sz∧cur.toList=pre++(ck++(post++spare))∧ck.length=E.sz∧L=g::(L1++f)∧Els E w L1 pre (xs.take k)∧Els E w f post (xs.drop (k+1))
 keep:=by
  rintro w w' _ ⟨g,cur,pre,post,spare,L1,f,i,h,j,l,m,o,p,r,s,rfl,a,d⟩ hk;exact⟨g,cur,pre,post,spare,L1,f,i,(hk g (by simp)).trans h,j,l,m,o,p,r,s,rfl,a.keep fun b hb=>hk b (by simp[hb]),d.keep fun b hb=>hk b (by simp[hb])⟩
 lt:=by
  rintro w _ ⟨g,cur,pre,post,spare,L1,f,i,h,j,l,m,o,p,r,s,rfl,a,d⟩ b hb;rcases List.mem_cons.1 hb with rfl|hb
  ·exact(Array.getElem?_eq_some_iff.1 h).1
  ·rcases List.mem_append.1 hb with hb|hb
   ·exact a.lt b hb
   ·exact d.lt b hb
variable {P:Program} {N B:Nat} {w0:World} {Q:Exit->Act->World->Prop} {L:List (Nat×Value)} {is js:List It} {E:Ty α} {e:TypeId}
theorem Mem.perm {w:World} {c d:It} (h:Mem B w0 (c::is) w) (hp:∀ L,c.P w L->∃ L',d.P w L'∧L'.Perm L):Mem B w0 (d::is) w:=by
 obtain⟨_,⟨L1,a,rfl,e,f⟩,g,i⟩:=h.sep;obtain⟨L',j,k2⟩:=hp L1 e;exact⟨h.base,h.below,L'++a,⟨L',a,rfl,j,f⟩,(k2.append_right a).nodup_iff.2 g,fun b hb=>i b ((k2.append_right a).mem_iff.1 hb)⟩
theorem gF [Inhabited α] {w:World} {A:Option Addr} {n c k:Nat} {xs:List α} (hk:k<n) {L:List Nat} (h:(ab E e).own w L [.slice A n c] xs):∃ ck L',Sep [Qg E ck (gt xs k),ey E e A n c xs k ck] w L'∧L'.Perm L:=by
 obtain⟨v,ev,cells,L',rfl,hrow,hels⟩:=h;cases ev
 rcases hrow.2 with⟨i,_⟩|⟨g,cap,cur,hv,_,hcur,hnc,hcm,hcs,htake⟩
 ·cases i;omega
 cases hv
 obtain⟨K1,K2,f,_,rfl,hd,j,k2⟩:=Els.split (xs:=xs.take k) (ys:=xs.drop k) (by rw[List.take_append_drop];exact hels);rw[List.drop_eq_getElem_cons hk] at k2;obtain⟨b,a,m,o,rfl,rfl,d,l⟩:=k2;have hg:xs[k]=gt xs k:=by simp[gt,List.getD,hk]
 refine⟨m,b++(g::(K1++a)),⟨b,_,rfl,by rw[<- hg];exact d,g::(K1++a),[],by simp,⟨g,cur,f,o,cur.toList.drop (xs.length*E.sz),K1,a,rfl,hcur,rfl,hk,hnc,hcm,hcs,?_,E.own_len d,rfl,j,l⟩,rfl⟩,?_⟩
 ·have:cur.toList=cur.toList.take (xs.length*E.sz)++cur.toList.drop (xs.length*E.sz):=(List.take_append_drop _ _).symm;rw[htake,hd] at this
  simpa using this
 ·simp only[Value.ownBlock,Option.toList,List.cons_append,List.nil_append];refine(List.perm_middle).trans (List.Perm.cons g ?_);rw[<- List.append_assoc, <- List.append_assoc];exact List.Perm.append_right a List.perm_append_comm
theorem pj [Inhabited α] {ops:Array Oper} {l:List Oper} {A:Option Addr} {n c k:Nat} {xs:List α} (hk:k<n) (hmv:∀ w,Mem B w0 is w->Mem B w0 (Qg (ab E e) [.slice A n c] xs::js) w)
 (h:∀ ck,WM P N B w0 ops Q l L (Qg E ck (gt xs k)::ey E e A n c xs k ck::js)):WM P N B w0 ops Q l L is:=fun w d=>by
 have hm':=hmv w d;obtain⟨_,⟨L1,a,rfl,f,g⟩,i,j⟩:=hm'.sep;obtain⟨ck,L',m,s2⟩:=gF hk f;refine h ck w ⟨d.base,d.below,L'++a,Sep.append m g,(s2.append_right a).nodup_iff.2 i,fun b hb=>j b ((s2.append_right a).mem_iff.1 hb)⟩
theorem Kj {w:World} {A:Option Addr} {n c k:Nat} {xs:List α} {x:α} {ck:List Value} {L:List Nat} (h:Sep [Qg E ck x,ey E e A n c xs k ck] w L):∃ L',(ab E e).own w L' [.slice A n c] (xs.set k x)∧L'.Perm L:=by
 obtain⟨b,_,rfl,r,_,_,rfl,⟨g,cur,pre,post,spare,L1,a,rfl,hcur,rfl,hk,hnc,hcm,hcs,hcl,hck,rfl,i,j⟩,p⟩:=h;cases (Sep.nil p)
 have o:xs.set k x=xs.take k++(x::xs.drop (k+1)):=by rw[List.set_eq_take_append_cons_drop,if_pos hk]
 have l:=i.len;have m:=j.len;rw[List.length_take,Nat.min_eq_left (by omega)] at l;rw[List.length_drop] at m;have hl:(pre++(ck++post)).length=xs.length*E.sz:=by
  have d:k*E.sz+E.sz+(xs.length-(k+1))*E.sz=(k+1+(xs.length-(k+1)))*E.sz:=by rw[Nat.add_mul,Nat.add_mul,Nat.one_mul]
  have f:k+1+(xs.length-(k+1))=xs.length:=by omega
  rw[f] at d;rw[List.length_append,List.length_append,l,m,hck];omega
 refine⟨g::(L1++(b++a)),⟨_,rfl,pre++(ck++post),L1++(b++a),rfl,?_,?_⟩,?_⟩
 ·rw[List.length_set];refine⟨hl, .inr ⟨g,c,cur,rfl,Nat.zero_le _,hcur,hnc,hcm,hcs,?_⟩⟩;rw[hcl, <- hl];have:pre++(ck++(post++spare))=(pre++(ck++post))++spare:=by simp
  rw[this,List.take_left]
 ·rw[o];exact Els.append i ⟨b,a,ck,post,rfl,rfl,r,j⟩
 ·rw[List.append_nil];refine List.Perm.symm ((List.perm_middle).trans (List.Perm.cons g ?_));rw[<- List.append_assoc, <- List.append_assoc];exact List.Perm.append_right a List.perm_append_comm
theorem Mem.unfocus {w:World} {A:Option Addr} {n c k:Nat} {xs:List α} {x:α} {ck:List Value} (h:Mem B w0 (Qg E ck x::ey E e A n c xs k ck::js) w):Mem B w0 (Qg (ab E e) [.slice A n c] (xs.set k x)::js) w:=by
 have h':Mem B w0 (Mr [Qg E ck x,ey E e A n c xs k ck]::js) w:=Mem.group (is:=[Qg E ck x,ey E e A n c xs k ck]) (js:=js) h;exact h'.perm fun L hL=>Kj hL
theorem Mem.focCells {w:World} {g n c k i:Nat} {xs:List α} {ck:List Value} (h:Mem B w0 is w) (hi:is[i]?=some (ey E e (some ⟨g,0,none⟩) n c xs k ck)) {s:Nat} (b:E.sz=s):∀ j u,ck[j]?=some u->w.cell? (((⟨g,0,none⟩:Addr).add (k*s)).add j)=some u:=fun j u hu=>by
 obtain⟨_,⟨g',cur,pre,post,spare,L1,_,he,hcur,rfl,hk,hnc,hcm,hcs,hcl,hck,rfl,d,_⟩,_⟩:=h.get hi;cases he
 subst b;have f:=d.len;rw[List.length_take,Nat.min_eq_left (by omega)] at f;rw[rt];have hlt:j<ck.length:=(List.getElem?_eq_some_iff.1 hu).1;have hc:cur[k*E.sz+j]?=some u:=by
  rw[<- Array.getElem?_toList,hcl,List.getElem?_append_right (by omega),List.getElem?_append_left (by omega), <- hu]
  congr 1;omega
 unfold Addr.add
 split
 ·rename_i a;rw[a] at hc;simp[World.cell?,hcur,hc]
 ·simp[World.cell?,hcur,hc]
theorem wY {ops:Array Oper} {rest:List Oper} {x y:Operand} {g n c k s o:Nat} {t:TypeId} {xs:List α} {ck ck':List Value} {js:List It} {v:Value} {A:Addr} {info:TypeInfo} {ty:TypeId} {pos:String} {af:Array Edge} {gd:Option (Nat×Bool)}
 (hmv:∀ w,Mem B w0 is w->Mem B w0 (ey E e (some ⟨g,0,none⟩) n c xs k ck::js) w) (F:E.sz=s) (hA:A=(((⟨g,0,none⟩:Addr).add (k*s)).add o)) (hi:P.info? t=some info) (hz:info.size=v.cells.size) (hl:o+v.cells.size<=ck.length) (u:v.cells.toList.all Value.oneCell'=true)
 (hx:ev L x=some (.pointer (some A))) (hy:ev L y=some v) (he:ck.take o++v.cells.toList++ck.drop (o+v.cells.size)=ck')
 (hw:Wd ops L ⟨none, .store t x y,ty,pos,af,gd⟩ true) (h:WM P N B w0 ops Q rest L (ey E e (some ⟨g,0,none⟩) n c xs k ck'::js)):WM P N B w0 ops Q (⟨none, .store t x y,ty,pos,af,gd⟩::rest) L is:=fun w D=>by
 have hm':=hmv w D;subst he;subst hA;subst F;obtain⟨_,⟨g',cur,pre,post,spare,L1,_,heq,hcur,hn,hk,hnc,hcm,hcs,hcl,hck,rfl,G,_⟩,hnd,hB⟩:=hm'.get (n:=0) rfl;cases heq
 have r:=G.len;rw[List.length_take,Nat.min_eq_left (by omega)] at r;have hlen:pre.length+(ck.length+(post.length+spare.length))=cur.toList.length:=by rw[hcl];simp
 have hst:=ww (P:=P) (w:=w) (p:=g) (o:=k*E.sz+o) (e:=e) (t:=t) (cs:=cur.toList) (v:=v) (by simpa using hcur) hi hz (by omega) (List.all_eq_true.1 u);have hnew:cur.toList.take (k*E.sz+o)++v.cells.toList++cur.toList.drop (k*E.sz+o+v.cells.size)=pre++((ck.take o++v.cells.toList++ck.drop (o+v.cells.size))++(post++spare)):=by
  rw[hcl, <- r,List.take_append,Nat.add_assoc,List.drop_append];rw[List.take_of_length_le (by omega),List.drop_of_length_le (by omega),Nat.add_sub_cancel_left,Nat.add_sub_cancel_left];rw[List.take_append_of_le_length (by omega),List.drop_append_of_le_length hl];simp
 refine Lo hw rfl (w':=w.setRow g (cur.toList.take (k*E.sz+o)++v.cells.toList++cur.toList.drop (k*E.sz+o+v.cells.size)).toArray) (fun N a ha=>?_) (h _ ?_)
 ·have j:=ha.eval hx;have l:=ha.eval hy;generalize a.eval=ρ at j l ⊢;simp only[execOp,j,l,Instr.storeAt,Instr.sureAddr];rw[rt];simp[hst]
 ·refine hm'.upd fun L1' hP d _=>?_
  obtain⟨g',cur',pre',post',spare',f,i,heq',hcur',hn',hk',hnc',hcm',hcs',hcl',hck',rfl,k1',k4'⟩:=hP;cases heq'
  have ec:cur'=cur:=by rw[hcur] at hcur';cases hcur';rfl
  subst ec;have l1':=k1'.len;rw[List.length_take,Nat.min_eq_left (by omega)] at l1';have epre:pre'=pre∧post'++spare'=post++spare:=by
   rw[hcl] at hcl';have m:=List.append_inj hcl' (by omega);have z:=List.append_inj m.2 rfl;exact⟨m.1.symm,z.2.symm⟩
  rw[List.nodup_cons] at d;have hlt:=(Array.getElem?_eq_some_iff.1 hcur).1;refine⟨g::(f++i),⟨g,_,pre',post',spare',f,i,rfl,setRow_heap w g _ _ e _ hcur,hn',hk',hnc',hcm',?_,?_,?_,rfl,k1'.keep fun b hb=>?_,k4'.keep fun b hb=>?_⟩,by rw[List.nodup_cons];exact d,fun b hb=> .inl hb,rfl,rfl,rfl,by simp[World.setRow],fun b hb hbn=>setRow_other w g b _ (fun e=>hbn (by rw[e];simp))⟩
  ·have:=congrArg List.length hnew;simp only[List.size_toArray, <- hcs'];rw[this];simp only[List.length_append,List.length_take,List.length_drop,Array.length_toList] at hlen ⊢;rw[<- hlen];omega
  ·show _=pre'++_;rw[epre.1,epre.2]
   simpa using hnew
  ·simp only[List.length_append,List.length_take,List.length_drop,Array.length_toList];rw[<- hck'];omega
  ·exact setRow_other w g b _ (fun e=>d.1 (by rw[<- e];simp[hb]))
  ·exact setRow_other w g b _ (fun e=>d.1 (by rw[<- e];simp[hb]))
theorem oB (a:Addr):a.add 0=a:=rfl
theorem Gg [Inhabited α] {xs:List α} {k:Nat} (h:k<xs.length):xs.set k (gt xs k)=xs:=by
 have:gt xs k=xs[k]:=by simp[gt,List.getD,h]
 rw[this,List.set_getElem_self]
theorem Mem.unfocus0 [Inhabited α] {w:World} {A:Option Addr} {n c k:Nat} {xs:List α} {ck:List Value} (h:Mem B w0 (Qg E ck (gt xs k)::ey E e A n c xs k ck::js) w):Mem B w0 (Qg (ab E e) [.slice A n c] xs::js) w:=by
 have hk:k<xs.length:=by
  obtain⟨_,⟨_,_,_,_,_,_,_,_,_,rfl,hk,_⟩,_⟩:=h.get (n:=1) rfl;exact hk
 have a:=h.unfocus
 rwa [Gg hk] at a
theorem Mem.focInt {w:World} {g n c k i:Nat} {xs:List α} {u:Value} (h:Mem B w0 is w) (hi:is[i]?=some (ey E e (some ⟨g,0,none⟩) n c xs k [u])) {s:Nat} (a:E.sz=s):w.cell? ((⟨g,0,none⟩:Addr).add (k*s))=some u:=by
 have:=h.focCells hi a 0 u rfl
 rwa [oB] at this
theorem pt {w:World} {L:List Nat} {cs:List Value} {x:List α} (h:(ab E e).own w L cs x):∃ g:Value,cs=[g]∧Sep [Qg (ab E e) [g] x] w L:=by
 obtain⟨v,rfl,h⟩:=h;exact⟨v,rfl,L,[],by simp,⟨v,rfl,h⟩,rfl⟩
theorem om {γ:Type} {cd:Code} {i:It} {js:γ->List It} {C:γ->Prop} (d:∀ w L,i.P w L->∃ g,C g∧Sep (js g) w L) (h:∀ g,C g->CM P N B w0 cd Q L (js g++is)):CM P N B w0 cd Q L (i::is):=fun w a=>by
 obtain⟨_,⟨L1,_,rfl,e,k2⟩,b,c⟩:=a.sep;obtain⟨g,hg,f⟩:=d w L1 e;exact h g hg w ⟨a.base,a.below,_,Sep.append f k2,b,c⟩
theorem ic {cd:Code} {v:Value} {xs:List α} {n:Nat} (hi:is[n]?=some (Qg (ab E e) [v] xs)) (h:∀ A c,v= .slice A xs.length c->xs.length<=9223372036854775807->CM P N B w0 cd Q L is):CM P N B w0 cd Q L is:=fun w a=>by
 obtain⟨hl,A,c,hv,_⟩:=a.rdSI hi;exact h A c hv hl w a
/-! a statement whose ways meet again behind it -/
def Ny {σ:Type} (N B:Nat) (w0:World) (Lx:σ->List (Nat×Value)) (Ix:σ->List It) (Hx:σ->Prop) (Q:Exit->Act->World->Prop):Exit->Act->World->Prop
 |.normal,a,w=>∃ s,Fr N (Lx s) a∧Mem B w0 (Ix s) w∧Hx s
 |e,a,w=>Q e a w
theorem pw {σ:Type} {c:Code} (Lx:σ->List (Nat×Value)) (Ix:σ->List It) (Hx:σ->Prop) (b:CM P N B w0 c (Ny N B w0 Lx Ix Hx Q) L is) (d:∀ s,Hx s->QM N B w0 Q .normal (Lx s) (Ix s)):CM P N B w0 c Q L is:=fun w hw a ha=>
 wp_mono (b w hw a ha) fun ex a' w' hq=>by
  cases ex with
  |normal=>
   obtain⟨s,e,k2,f⟩:=hq;exact d s f w' k2 a' e
  |exit id=>exact hq
  |goto l=>exact hq
  |ret=>exact hq
  |panic ch=>exact hq
  |outgrown=>exact hq
theorem lr {σ:Type} {Lx:σ->List (Nat×Value)} {Ix:σ->List It} {Hx:σ->Prop} (s:σ) (a:mc (Lx s) L) (hi:∀ w,Mem B w0 is w->Mem B w0 (Ix s) w) (hH:Hx s):QM N B w0 (Ny N B w0 Lx Ix Hx Q) .normal L is:=fun w hw _ ha=>⟨s,ha.sub a,hi w hw,hH⟩
end
end Go.Proofs.YtdlminfjdodjoaaGreat
