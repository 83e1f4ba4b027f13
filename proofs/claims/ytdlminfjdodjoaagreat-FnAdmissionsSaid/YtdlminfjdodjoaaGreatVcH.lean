/-
  A slice of the call's own whose elements are handed on one by one.
-/
import Derived.Test.YtdlminfjdodjoaaGreatVcG
namespace Go.Proofs.YtdlminfjdodjoaaGreat
set_option linter.unusedVariables false
set_option linter.unusedSimpArgs false
open Go.RowKit
section
variable {α:Type}
/-- A slice of the call's own: the elements ahead of k have been handed on. -/
def qb (E:Ty α) (e:TypeId) (A:Option Addr) (n:Nat) (xs:List α) (k:Nat):It where
 P:=fun w L=>n=xs.length∧k<=n∧((n=0∧L=[])∨∃ g cur pre post spare a,A=some ⟨g,0,none⟩∧w.heap[g]?=some (.cells cur e (0,0))∧cur.toList=pre++(post++spare)∧pre.length=k*E.sz∧L=g::a∧Els E w a post (xs.drop k))
 keep:=by
  rintro w w' _ ⟨i,j,h⟩ hk;refine⟨i,j,?_⟩;rcases h with⟨c,rfl⟩|⟨g,cur,pre,post,spare,a,c,d,l,m,rfl,f⟩
  ·exact .inl ⟨c,rfl⟩
  ·exact .inr ⟨g,cur,pre,post,spare,a,c,(hk g (by simp)).trans d,l,m,rfl,f.keep fun b hb=>hk b (by simp[hb])⟩
 lt:=by
  rintro w _ ⟨i,j,h⟩ b hb;rcases h with⟨c,rfl⟩|⟨g,cur,pre,post,spare,a,c,d,l,m,rfl,f⟩
  ·cases hb
  ·rcases List.mem_cons.1 hb with rfl|hb
   ·exact(Array.getElem?_eq_some_iff.1 d).1
   ·exact f.lt b hb
/-- The same,with element k,whose cells are ck,just handed on. -/
def ry (E:Ty α) (e:TypeId) (A:Option Addr) (n:Nat) (xs:List α) (k:Nat) (ck:List Value):It where
 P:=fun w L=>n=xs.length∧k<n∧∃ g cur pre post spare a,A=some ⟨g,0,none⟩∧w.heap[g]?=some (.cells cur e (0,0))∧cur.toList=pre++(ck++(post++spare))∧pre.length=k*E.sz∧ck.length=E.sz∧L=g::a∧Els E w a post (xs.drop (k+1))
 keep:=by
  rintro w w' _ ⟨f,h,g,cur,pre,post,spare,a,i,c,j,l,m,rfl,d⟩ hk;exact⟨f,h,g,cur,pre,post,spare,a,i,(hk g (by simp)).trans c,j,l,m,rfl,d.keep fun b hb=>hk b (by simp[hb])⟩
 lt:=by
  rintro w _ ⟨f,h,g,cur,pre,post,spare,a,i,c,j,l,m,rfl,d⟩ b hb;rcases List.mem_cons.1 hb with rfl|hb
  ·exact(Array.getElem?_eq_some_iff.1 c).1
  ·exact d.lt b hb
variable {P:Program} {N B:Nat} {w0:World} {Q:Exit->Act->World->Prop} {L:List (Nat×Value)} {is js:List It} {E:Ty α} {e:TypeId}
theorem Fa {w:World} {A:Option Addr} {n c:Nat} {xs:List α} {L:List Nat} (h:(ab E e).own w L [.slice A n c] xs):(qb E e A n xs 0).P w L:=by
 obtain⟨v,ev,cells,L',rfl,hrow,hels⟩:=h;cases ev
 rcases hrow.2 with⟨b,a⟩|⟨g,cap,cur,hv,_,hcur,hnc,hcm,hcs,htake⟩
 ·cases b
  have:xs=[]:=List.length_eq_zero_iff.1 a;subst this;obtain⟨rfl,_⟩:=hels;exact⟨rfl,Nat.zero_le _, .inl ⟨rfl,rfl⟩⟩
 ·cases hv
  exact⟨rfl,Nat.zero_le _, .inr ⟨g,cur,[],cells,cur.toList.drop (xs.length*E.sz),L',rfl,hcur,by rw[<- htake];simp,by simp,rfl,hels⟩⟩
theorem Mem.toRest {w:World} {A:Option Addr} {n c:Nat} {xs:List α} (h:Mem B w0 (Qg (ab E e) [.slice A n c] xs::js) w):Mem B w0 (qb E e A n xs 0::js) w:=h.perm fun L hL=>⟨L,Fa hL,List.Perm.refl _⟩
theorem Ez [Inhabited α] {w:World} {A:Option Addr} {n k:Nat} {xs:List α} (hk:k<n) {L:List Nat} (h:(qb E e A n xs k).P w L):∃ ck L',Sep [Qg E ck (gt xs k),ry E e A n xs k ck] w L'∧L'.Perm L:=by
 obtain⟨rfl,_,h⟩:=h;rcases h with⟨_,_⟩|⟨g,cur,pre,post,spare,_,rfl,f,i,j,rfl,c⟩
 ·omega
 rw[List.drop_eq_getElem_cons hk] at c;obtain⟨b,a,m,o,rfl,rfl,d,l⟩:=c;have hg:xs[k]=gt xs k:=by simp[gt,List.getD,hk]
 exact⟨m,b++(g::a),⟨b,_,rfl,by rw[<- hg];exact d,g::a,[],by simp,⟨rfl,hk,g,cur,pre,o,spare,a,rfl,f,by rw[i];simp,j,E.own_len d,rfl,l⟩,rfl⟩,List.perm_middle⟩
theorem Ey {w:World} {A:Option Addr} {n k:Nat} {xs:List α} {ck:List Value} {L:List Nat} (h:(ry E e A n xs k ck).P w L):(qb E e A n xs (k+1)).P w L:=by
 obtain⟨b,c,g,cur,pre,post,spare,a,d,f,i,j,l,rfl,m⟩:=h;exact⟨b,c, .inr ⟨g,cur,pre++ck,post,spare,a,d,f,by rw[i];simp,by rw[List.length_append,j,l,Nat.add_mul,Nat.one_mul],rfl,m⟩⟩
theorem Mem.restNext {w:World} {A:Option Addr} {n k:Nat} {xs:List α} {ck:List Value} (h:Mem B w0 (ry E e A n xs k ck::js) w):Mem B w0 (qb E e A n xs (k+1)::js) w:=h.perm fun L hL=>⟨L,Ey hL,List.Perm.refl _⟩
theorem Mem.restPop [Inhabited α] {w:World} {A:Option Addr} {n k:Nat} {xs:List α} (hk:k<n) (h:Mem B w0 (qb E e A n xs k::js) w):∃ ck,Mem B w0 (Qg E ck (gt xs k)::ry E e A n xs k ck::js) w:=by
 obtain⟨_,⟨L1,a,rfl,c,d⟩,f,g⟩:=h.sep;obtain⟨ck,L',i,s2⟩:=Ez hk c;exact⟨ck,h.base,h.below,L'++a,Sep.append i d,(s2.append_right a).nodup_iff.2 f,fun b hb=>g b ((s2.append_right a).mem_iff.1 hb)⟩
theorem Ll {ops:Array Oper} {l:List Oper} {A:Option Addr} {m k:Nat} {xs:List α} {n:Nat} (hi:is[n]?=some (qb E e A m xs k)) (hp:k<m) (h:∀ g,A=some ⟨g,0,none⟩->WM P N B w0 ops Q l L is):WM P N B w0 ops Q l L is:=fun w b=>by
 obtain⟨_,⟨_,_,c⟩,_⟩:=b.get hi;rcases c with⟨a,_⟩|⟨g,_,_,_,_,_,a,_⟩
 ·omega
 ·exact h g a w b
theorem Lm [Inhabited α] {ops:Array Oper} {l:List Oper} {A:Option Addr} {n k:Nat} {xs:List α} (hk:k<n) (hmv:∀ w,Mem B w0 is w->Mem B w0 (qb E e A n xs k::js) w)
 (h:∀ ck,WM P N B w0 ops Q l L (Qg E ck (gt xs k)::ry E e A n xs k ck::js)):WM P N B w0 ops Q l L is:=fun w b=>by
 obtain⟨ck,a⟩:=(hmv w b).restPop hk;exact h ck w a
theorem Mem.restCells {w:World} {g n k i:Nat} {xs:List α} {ck:List Value} (h:Mem B w0 is w) (hi:is[i]?=some (ry E e (some ⟨g,0,none⟩) n xs k ck)) {s:Nat} (b:E.sz=s):∀ j u,ck[j]?=some u->w.cell? (((⟨g,0,none⟩:Addr).add (k*s)).add j)=some u:=fun j u hu=>by
 obtain⟨_,⟨a,_,g',cur,pre,post,spare,_,he,hcur,hcl,hpre,hck,rfl,_⟩,_⟩:=h.get hi;cases he
 subst b;rw[rt];have hlt:j<ck.length:=(List.getElem?_eq_some_iff.1 hu).1;have hc:cur[k*E.sz+j]?=some u:=by
  rw[<- Array.getElem?_toList,hcl,List.getElem?_append_right (by omega),List.getElem?_append_left (by omega), <- hu]
  congr 1;omega
 unfold Addr.add
 split
 ·rename_i a;rw[a] at hc;simp[World.cell?,hcur,hc]
 ·simp[World.cell?,hcur,hc]
theorem Mem.last {i:It} {w:World} (h:Mem B w0 (i::is) w):Mem B w0 (is++[i]) w:=by
 obtain⟨_,⟨L1,a,rfl,c,d⟩,e,f⟩:=h.sep;have g:Sep (is++[i]) w (a++L1):=Sep.append d ⟨L1,[],by simp,c,rfl⟩;exact⟨h.base,h.below,a++L1,g,(List.perm_append_comm.nodup_iff).1 e,fun b hb=>f b (by simpa [or_comm] using hb)⟩
end
end Go.Proofs.YtdlminfjdodjoaaGreat
