/-
  One element of a slice of the call's own,taken out to be read and written,and put back.
-/
import Derived.Test.YtdlminfjdodjoaaGreatVcD
namespace Go.Proofs.YtdlminfjdodjoaaGreat
open Go.RowKit
section
variable {α:Type}
/-- A slice of the call's own,its element k taken out: ck are the element's cells. -/
def Qcu (E:Ty α) (e:TypeId) (A:Option Addr) (n c:Nat) (xs:List α) (k:Nat) (ck:List Value):It where
 P:=fun w L=>∃ g cur pre post spare L1 L2,A=some ⟨g,0,none⟩∧w.heap[g]?=some (.cells cur e (0,0))∧n=xs.length∧k<n∧n≤c∧c≤maxLen∧cur.size=c*E.sz∧cur.toList=pre++(ck++(post++spare))∧ck.length=E.sz∧L=g::(L1++L2)∧Els E w L1 pre (xs.take k)∧Els E w L2 post (xs.drop (k+1))
 keep:=by
  rintro w w' _ ⟨g,cur,pre,post,spare,L1,L2,h1,h2,h3,h4,h5,h6,h7,h8,h9,rfl,h10,h11⟩ hk;exact⟨g,cur,pre,post,spare,L1,L2,h1,(hk g (by simp)).trans h2,h3,h4,h5,h6,h7,h8,h9,rfl,h10.keep fun b hb=>hk b (by simp[hb]),h11.keep fun b hb=>hk b (by simp[hb])⟩
 lt:=by
  rintro w _ ⟨g,cur,pre,post,spare,L1,L2,h1,h2,h3,h4,h5,h6,h7,h8,h9,rfl,h10,h11⟩ b hb;rcases List.mem_cons.1 hb with rfl|hb
  ·exact(Array.getElem?_eq_some_iff.1 h2).1
  ·rcases List.mem_append.1 hb with hb|hb
   ·exact h10.lt b hb
   ·exact h11.lt b hb
variable {P:Program} {N B:Nat} {w0:World} {Q:Exit→Act→World→Prop} {L:List (Nat×Value)} {is js:List It} {E:Ty α} {e:TypeId}
theorem Mem.perm {w:World} {i1 i2:It} (h:Mem B w0 (i1::is) w) (hp:∀ L,i1.P w L→∃ L',i2.P w L'∧L'.Perm L):Mem B w0 (i2::is) w:=by
 obtain⟨_,⟨L1,L2,rfl,h1,h2⟩,h3,h4⟩:=h.sep;obtain⟨L',k1,k2⟩:=hp L1 h1;exact⟨h.base,h.below,L'++L2,⟨L',L2,rfl,k1,h2⟩,(k2.append_right L2).nodup_iff.2 h3,fun b hb=>h4 b ((k2.append_right L2).mem_iff.1 hb)⟩
theorem Qafb [Inhabited α] {w:World} {A:Option Addr} {n c k:Nat} {xs:List α} (hk:k<n) {L:List Nat} (h:(tSl E e).own w L [.slice A n c] xs):∃ ck L',Sep [Qh E ck (gt xs k),Qcu E e A n c xs k ck] w L'∧L'.Perm L:=by
 obtain⟨v,ev,cells,L',rfl,hrow,hels⟩:=h;cases ev
 rcases hrow.2 with⟨h1,h0⟩|⟨g,cap,cur,hv,_,hcur,hnc,hcm,hcs,htake⟩
 ·cases h1;omega
 cases hv
 obtain⟨K1,K2,d1,d2,rfl,hd,k1,k2⟩:=Els.split (xs:=xs.take k) (ys:=xs.drop k) (by rw[List.take_append_drop];exact hels);rw[List.drop_eq_getElem_cons hk] at k2;obtain⟨M1,M2,m1,m2,rfl,rfl,k3,k4⟩:=k2;have hg:xs[k]=gt xs k:=by simp[gt,List.getD,hk]
 refine⟨m1,M1++(g::(K1++M2)),⟨M1,_,rfl,by rw[← hg];exact k3,g::(K1++M2),[],by simp,⟨g,cur,d1,m2,cur.toList.drop (xs.length*E.sz),K1,M2,rfl,hcur,rfl,hk,hnc,hcm,hcs,?_,E.own_len k3,rfl,k1,k4⟩,rfl⟩,?_⟩
 ·have:cur.toList=cur.toList.take (xs.length*E.sz)++cur.toList.drop (xs.length*E.sz):=(List.take_append_drop _ _).symm;rw[htake,hd] at this
  simpa using this
 ·simp only[Value.ownBlock,Option.toList,List.cons_append,List.nil_append];refine(List.perm_middle).trans (List.Perm.cons g ?_);rw[← List.append_assoc, ← List.append_assoc];exact List.Perm.append_right M2 List.perm_append_comm
theorem Qld [Inhabited α] {ops:Array Oper} {l:List Oper} {A:Option Addr} {n c k:Nat} {xs:List α} (hk:k<n) (hmv:∀ w,Mem B w0 is w→Mem B w0 (Qh (tSl E e) [.slice A n c] xs::js) w)
 (h:∀ ck,WM P N B w0 ops Q l L (Qh E ck (gt xs k)::Qcu E e A n c xs k ck::js)):WM P N B w0 ops Q l L is:=fun w hm=>by
 have hm':=hmv w hm;obtain⟨_,⟨L1,L2,rfl,h1,h2⟩,h3,h4⟩:=hm'.sep;obtain⟨ck,L',s1,s2⟩:=Qafb hk h1;refine h ck w ⟨hm.base,hm.below,L'++L2,Sep.append s1 h2,(s2.append_right L2).nodup_iff.2 h3,fun b hb=>h4 b ((s2.append_right L2).mem_iff.1 hb)⟩
theorem Qbax {w:World} {A:Option Addr} {n c k:Nat} {xs:List α} {x:α} {ck:List Value} {L:List Nat} (h:Sep [Qh E ck x,Qcu E e A n c xs k ck] w L):∃ L',(tSl E e).own w L' [.slice A n c] (xs.set k x)∧L'.Perm L:=by
 obtain⟨M1,_,rfl,k3,_,_,rfl,⟨g,cur,pre,post,spare,L1,L2,rfl,hcur,rfl,hk,hnc,hcm,hcs,hcl,hck,rfl,k1,k4⟩,h0⟩:=h;cases (Sep.nil h0)
 have e1:xs.set k x=xs.take k++(x::xs.drop (k+1)):=by rw[List.set_eq_take_append_cons_drop,if_pos hk]
 have l1:=k1.len;have l2:=k4.len;rw[List.length_take,Nat.min_eq_left (by omega)] at l1;rw[List.length_drop] at l2;have hl:(pre++(ck++post)).length=xs.length*E.sz:=by
  have hm1:k*E.sz+E.sz+(xs.length-(k+1))*E.sz=(k+1+(xs.length-(k+1)))*E.sz:=by rw[Nat.add_mul,Nat.add_mul,Nat.one_mul]
  have hm2:k+1+(xs.length-(k+1))=xs.length:=by omega
  rw[hm2] at hm1;rw[List.length_append,List.length_append,l1,l2,hck];omega
 refine⟨g::(L1++(M1++L2)),⟨_,rfl,pre++(ck++post),L1++(M1++L2),rfl,?_,?_⟩,?_⟩
 ·rw[List.length_set];refine⟨hl, .inr ⟨g,c,cur,rfl,Nat.zero_le _,hcur,hnc,hcm,hcs,?_⟩⟩;rw[hcl, ← hl];have:pre++(ck++(post++spare))=(pre++(ck++post))++spare:=by simp
  rw[this,List.take_left]
 ·rw[e1];exact Els.append k1 ⟨M1,L2,ck,post,rfl,rfl,k3,k4⟩
 ·rw[List.append_nil];refine List.Perm.symm ((List.perm_middle).trans (List.Perm.cons g ?_));rw[← List.append_assoc, ← List.append_assoc];exact List.Perm.append_right L2 List.perm_append_comm
theorem Mem.unfocus {w:World} {A:Option Addr} {n c k:Nat} {xs:List α} {x:α} {ck:List Value} (h:Mem B w0 (Qh E ck x::Qcu E e A n c xs k ck::js) w):Mem B w0 (Qh (tSl E e) [.slice A n c] (xs.set k x)::js) w:=by
 have h':Mem B w0 (Qyh [Qh E ck x,Qcu E e A n c xs k ck]::js) w:=Mem.group (is:=[Qh E ck x,Qcu E e A n c xs k ck]) (js:=js) h;exact h'.perm fun L hL=>Qbax hL
theorem Mem.focCells {w:World} {g n c k i:Nat} {xs:List α} {ck:List Value} (h:Mem B w0 is w) (hi:is[i]?=some (Qcu E e (some ⟨g,0,none⟩) n c xs k ck)) {s:Nat} (hs:E.sz=s):∀ j u,ck[j]?=some u→w.cell? (((⟨g,0,none⟩:Addr).add (k*s)).add j)=some u:=fun j u hu=>by
 obtain⟨_,⟨g',cur,pre,post,spare,L1,L2,he,hcur,rfl,hk,hnc,hcm,hcs,hcl,hck,rfl,k1,k4⟩,_⟩:=h.get hi;cases he
 subst hs;have l1:=k1.len;rw[List.length_take,Nat.min_eq_left (by omega)] at l1;rw[Qkq];have hlt:j<ck.length:=(List.getElem?_eq_some_iff.1 hu).1;have hc:cur[k*E.sz+j]?=some u:=by
  rw[← Array.getElem?_toList,hcl,List.getElem?_append_right (by omega),List.getElem?_append_left (by omega), ← hu]
  congr 1;omega
 unfold Addr.add
 split
 ·rename_i h0;rw[h0] at hc;simp[World.cell?,hcur,hc]
 ·simp[World.cell?,hcur,hc]
theorem Qanb {ops:Array Oper} {rest:List Oper} {x y:Operand} {g n c k s o:Nat} {t:TypeId} {xs:List α} {ck ck':List Value} {js:List It} {v:Value} {A:Addr} {info:TypeInfo} {ty:TypeId} {pos:String} {af:Array Edge} {gd:Option (Nat×Bool)}
 (hmv:∀ w,Mem B w0 is w→Mem B w0 (Qcu E e (some ⟨g,0,none⟩) n c xs k ck::js) w) (hs:E.sz=s) (hA:A=(((⟨g,0,none⟩:Addr).add (k*s)).add o)) (hi:P.info? t=some info) (hz:info.size=v.cells.size) (hl:o+v.cells.size≤ck.length) (h1:v.cells.toList.all Value.oneCell'=true)
 (hx:ev L x=some (.pointer (some A))) (hy:ev L y=some v) (he:ck.take o++v.cells.toList++ck.drop (o+v.cells.size)=ck')
 (hw:Wd ops L ⟨none, .store t x y,ty,pos,af,gd⟩ true) (h:WM P N B w0 ops Q rest L (Qcu E e (some ⟨g,0,none⟩) n c xs k ck'::js)):WM P N B w0 ops Q (⟨none, .store t x y,ty,pos,af,gd⟩::rest) L is:=fun w hm=>by
 have hm':=hmv w hm;subst he;subst hA;subst hs;obtain⟨_,⟨g',cur,pre,post,spare,L1,L2,heq,hcur,hn,hk,hnc,hcm,hcs,hcl,hck,rfl,k1,k4⟩,hnd,hB⟩:=hm'.get (n:=0) rfl;cases heq
 have l1:=k1.len;rw[List.length_take,Nat.min_eq_left (by omega)] at l1;have hlen:pre.length+(ck.length+(post.length+spare.length))=cur.toList.length:=by rw[hcl];simp
 have hst:=Qzu (P:=P) (w:=w) (p:=g) (o:=k*E.sz+o) (e:=e) (t:=t) (cs:=cur.toList) (v:=v) (by simpa using hcur) hi hz (by omega) (List.all_eq_true.1 h1);have hnew:cur.toList.take (k*E.sz+o)++v.cells.toList++cur.toList.drop (k*E.sz+o+v.cells.size)=pre++((ck.take o++v.cells.toList++ck.drop (o+v.cells.size))++(post++spare)):=by
  rw[hcl, ← l1,List.take_append,Nat.add_assoc,List.drop_append];rw[List.take_of_length_le (by omega),List.drop_of_length_le (by omega),Nat.add_sub_cancel_left,Nat.add_sub_cancel_left];rw[List.take_append_of_le_length (by omega),List.drop_append_of_le_length hl];simp
 refine Qxj hw rfl (w':=w.setRow g (cur.toList.take (k*E.sz+o)++v.cells.toList++cur.toList.drop (k*E.sz+o+v.cells.size)).toArray) (fun N a ha=>?_) (h _ ?_)
 ·have e0:=ha.eval hx;have e1:=ha.eval hy;generalize a.eval=ρ at e0 e1 ⊢;simp only[execOp,e0,e1,Instr.storeAt,Instr.sureAddr];rw[Qkq];simp[hst]
 ·refine hm'.upd fun L1' hP hn1 hb1=>?_
  obtain⟨g',cur',pre',post',spare',M1,M2,heq',hcur',hn',hk',hnc',hcm',hcs',hcl',hck',rfl,k1',k4'⟩:=hP;cases heq'
  have ec:cur'=cur:=by rw[hcur] at hcur';cases hcur';rfl
  subst ec;have l1':=k1'.len;rw[List.length_take,Nat.min_eq_left (by omega)] at l1';have epre:pre'=pre∧post'++spare'=post++spare:=by
   rw[hcl] at hcl';have h2:=List.append_inj hcl' (by omega);have h3:=List.append_inj h2.2 rfl;exact⟨h2.1.symm,h3.2.symm⟩
  rw[List.nodup_cons] at hn1;have hlt:=(Array.getElem?_eq_some_iff.1 hcur).1;refine⟨g::(M1++M2),⟨g,_,pre',post',spare',M1,M2,rfl,setRow_heap w g _ _ e _ hcur,hn',hk',hnc',hcm',?_,?_,?_,rfl,k1'.keep fun b hb=>?_,k4'.keep fun b hb=>?_⟩,by rw[List.nodup_cons];exact hn1,fun b hb=> .inl hb,rfl,rfl,rfl,by simp[World.setRow],fun b hb hbn=>setRow_other w g b _ (fun e=>hbn (by rw[e];simp))⟩
  ·have:=congrArg List.length hnew;simp only[List.size_toArray, ← hcs'];rw[this];simp only[List.length_append,List.length_take,List.length_drop,Array.length_toList] at hlen ⊢;rw[← hlen];omega
  ·show _=pre'++_;rw[epre.1,epre.2]
   simpa using hnew
  ·simp only[List.length_append,List.length_take,List.length_drop,Array.length_toList];rw[← hck'];omega
  ·exact setRow_other w g b _ (fun e=>hn1.1 (by rw[← e];simp[hb]))
  ·exact setRow_other w g b _ (fun e=>hn1.1 (by rw[← e];simp[hb]))
theorem add0 (a:Addr):a.add 0=a:=rfl
theorem Qavp [Inhabited α] {xs:List α} {k:Nat} (h:k<xs.length):xs.set k (gt xs k)=xs:=by
 have:gt xs k=xs[k]:=by simp[gt,List.getD,h]
 rw[this,List.set_getElem_self]
theorem Mem.unfocus0 [Inhabited α] {w:World} {A:Option Addr} {n c k:Nat} {xs:List α} {ck:List Value} (h:Mem B w0 (Qh E ck (gt xs k)::Qcu E e A n c xs k ck::js) w):Mem B w0 (Qh (tSl E e) [.slice A n c] xs::js) w:=by
 have hk:k<xs.length:=by
  obtain⟨_,⟨_,_,_,_,_,_,_,_,_,rfl,hk,_⟩,_⟩:=h.get (n:=1) rfl;exact hk
 have h2:=h.unfocus
 rwa [Qavp hk] at h2
theorem Mem.focInt {w:World} {g n c k i:Nat} {xs:List α} {u:Value} (h:Mem B w0 is w) (hi:is[i]?=some (Qcu E e (some ⟨g,0,none⟩) n c xs k [u])) {s:Nat} (hs:E.sz=s):w.cell? ((⟨g,0,none⟩:Addr).add (k*s))=some u:=by
 have:=h.focCells hi hs 0 u rfl
 rwa [add0] at this
theorem Qlz {w:World} {L:List Nat} {cs:List Value} {x:List α} (h:(tSl E e).own w L cs x):∃ g:Value,cs=[g]∧Sep [Qh (tSl E e) [g] x] w L:=by
 obtain⟨v,rfl,h⟩:=h;exact⟨v,rfl,L,[],by simp,⟨v,rfl,h⟩,rfl⟩
theorem Qix {γ:Type} {cd:Code} {i:It} {js:γ→List It} {C:γ→Prop} (hs:∀ w L,i.P w L→∃ g,C g∧Sep (js g) w L) (h:∀ g,C g→CM P N B w0 cd Q L (js g++is)):CM P N B w0 cd Q L (i::is):=fun w hm=>by
 obtain⟨_,⟨L1,L2,rfl,k1,k2⟩,h2,h3⟩:=hm.sep;obtain⟨g,hg,k3⟩:=hs w L1 k1;exact h g hg w ⟨hm.base,hm.below,_,Sep.append k3 k2,h2,h3⟩
theorem Qdt {cd:Code} {v:Value} {xs:List α} {n:Nat} (hi:is[n]?=some (Qh (tSl E e) [v] xs)) (h:∀ A c,v= .slice A xs.length c→xs.length≤9223372036854775807→CM P N B w0 cd Q L is):CM P N B w0 cd Q L is:=fun w hm=>by
 obtain⟨hl,A,c,hv,_⟩:=hm.rdSI hi;exact h A c hv hl w hm
/-! a statement whose ways meet again behind it -/
def Cut {σ:Type} (N B:Nat) (w0:World) (Lx:σ→List (Nat×Value)) (Ix:σ→List It) (Hx:σ→Prop) (Q:Exit→Act→World→Prop):Exit→Act→World→Prop
 |.normal,a,w=>∃ s,Fr N (Lx s) a∧Mem B w0 (Ix s) w∧Hx s
 |e,a,w=>Q e a w
theorem Qjs {σ:Type} {c:Code} (Lx:σ→List (Nat×Value)) (Ix:σ→List It) (Hx:σ→Prop) (h1:CM P N B w0 c (Cut N B w0 Lx Ix Hx Q) L is) (h2:∀ s,Hx s→QM N B w0 Q .normal (Lx s) (Ix s)):CM P N B w0 c Q L is:=fun w hw a ha=>
 wp_mono (h1 w hw a ha) fun ex a' w' hq=>by
  cases ex with
  |normal=>
   obtain⟨s,k1,k2,k3⟩:=hq;exact h2 s k3 w' k2 a' k1
  |exit id=>exact hq
  |goto l=>exact hq
  |ret=>exact hq
  |panic ch=>exact hq
  |outgrown=>exact hq
theorem Qgo {σ:Type} {Lx:σ→List (Nat×Value)} {Ix:σ→List It} {Hx:σ→Prop} (s:σ) (hs:Qgt (Lx s) L) (hi:∀ w,Mem B w0 is w→Mem B w0 (Ix s) w) (hH:Hx s):QM N B w0 (Cut N B w0 Lx Ix Hx Q) .normal L is:=fun w hw _ ha=>⟨s,ha.sub hs,hi w hw,hH⟩
end
end Go.Proofs.YtdlminfjdodjoaaGreat
