/-
  A slice of the call's own whose elements are handed on one by one.
-/
import Derived.Test.YtdlminfjdodjoaaGreatVcG
namespace Go.Proofs.YtdlminfjdodjoaaGreat
open Go.RowKit
section
variable {α:Type}
/-- A slice of the call's own: the elements ahead of k have been handed on. -/
def Qiu (E:Ty α) (e:TypeId) (A:Option Addr) (n:Nat) (xs:List α) (k:Nat):It where
 P:=fun w L=>n=xs.length∧k≤n∧((n=0∧L=[])∨∃ g cur pre post spare L2,A=some ⟨g,0,none⟩∧w.heap[g]?=some (.cells cur e (0,0))∧cur.toList=pre++(post++spare)∧pre.length=k*E.sz∧L=g::L2∧Els E w L2 post (xs.drop k))
 keep:=by
  rintro w w' _ ⟨h0,h4,h⟩ hk;refine⟨h0,h4,?_⟩;rcases h with⟨h1,rfl⟩|⟨g,cur,pre,post,spare,L2,h1,h2,h5,h6,rfl,h7⟩
  ·exact .inl ⟨h1,rfl⟩
  ·exact .inr ⟨g,cur,pre,post,spare,L2,h1,(hk g (by simp)).trans h2,h5,h6,rfl,h7.keep fun b hb=>hk b (by simp[hb])⟩
 lt:=by
  rintro w _ ⟨h0,h4,h⟩ b hb;rcases h with⟨h1,rfl⟩|⟨g,cur,pre,post,spare,L2,h1,h2,h5,h6,rfl,h7⟩
  ·cases hb
  ·rcases List.mem_cons.1 hb with rfl|hb
   ·exact(Array.getElem?_eq_some_iff.1 h2).1
   ·exact h7.lt b hb
/-- The same,with element k,whose cells are ck,just handed on. -/
def Qjv (E:Ty α) (e:TypeId) (A:Option Addr) (n:Nat) (xs:List α) (k:Nat) (ck:List Value):It where
 P:=fun w L=>n=xs.length∧k<n∧∃ g cur pre post spare L2,A=some ⟨g,0,none⟩∧w.heap[g]?=some (.cells cur e (0,0))∧cur.toList=pre++(ck++(post++spare))∧pre.length=k*E.sz∧ck.length=E.sz∧L=g::L2∧Els E w L2 post (xs.drop (k+1))
 keep:=by
  rintro w w' _ ⟨h0,h1,g,cur,pre,post,spare,L2,h2,h3,h4,h5,h6,rfl,h7⟩ hk;exact⟨h0,h1,g,cur,pre,post,spare,L2,h2,(hk g (by simp)).trans h3,h4,h5,h6,rfl,h7.keep fun b hb=>hk b (by simp[hb])⟩
 lt:=by
  rintro w _ ⟨h0,h1,g,cur,pre,post,spare,L2,h2,h3,h4,h5,h6,rfl,h7⟩ b hb;rcases List.mem_cons.1 hb with rfl|hb
  ·exact(Array.getElem?_eq_some_iff.1 h3).1
  ·exact h7.lt b hb
variable {P:Program} {N B:Nat} {w0:World} {Q:Exit→Act→World→Prop} {L:List (Nat×Value)} {is js:List It} {E:Ty α} {e:TypeId}
theorem Qaug {w:World} {A:Option Addr} {n c:Nat} {xs:List α} {L:List Nat} (h:(tSl E e).own w L [.slice A n c] xs):(Qiu E e A n xs 0).P w L:=by
 obtain⟨v,ev,cells,L',rfl,hrow,hels⟩:=h;cases ev
 rcases hrow.2 with⟨h1,h0⟩|⟨g,cap,cur,hv,_,hcur,hnc,hcm,hcs,htake⟩
 ·cases h1
  have:xs=[]:=List.length_eq_zero_iff.1 h0;subst this;obtain⟨rfl,_⟩:=hels;exact⟨rfl,Nat.zero_le _, .inl ⟨rfl,rfl⟩⟩
 ·cases hv
  exact⟨rfl,Nat.zero_le _, .inr ⟨g,cur,[],cells,cur.toList.drop (xs.length*E.sz),L',rfl,hcur,by rw[← htake];simp,by simp,rfl,hels⟩⟩
theorem Mem.toRest {w:World} {A:Option Addr} {n c:Nat} {xs:List α} (h:Mem B w0 (Qh (tSl E e) [.slice A n c] xs::js) w):Mem B w0 (Qiu E e A n xs 0::js) w:=h.perm fun L hL=>⟨L,Qaug hL,List.Perm.refl _⟩
theorem Qauf [Inhabited α] {w:World} {A:Option Addr} {n k:Nat} {xs:List α} (hk:k<n) {L:List Nat} (h:(Qiu E e A n xs k).P w L):∃ ck L',Sep [Qh E ck (gt xs k),Qjv E e A n xs k ck] w L'∧L'.Perm L:=by
 obtain⟨rfl,_,h⟩:=h;rcases h with⟨h1,_⟩|⟨g,cur,pre,post,spare,L2,rfl,h2,h5,h6,rfl,h7⟩
 ·omega
 rw[List.drop_eq_getElem_cons hk] at h7;obtain⟨M1,M2,m1,m2,rfl,rfl,k3,k4⟩:=h7;have hg:xs[k]=gt xs k:=by simp[gt,List.getD,hk]
 exact⟨m1,M1++(g::M2),⟨M1,_,rfl,by rw[← hg];exact k3,g::M2,[],by simp,⟨rfl,hk,g,cur,pre,m2,spare,M2,rfl,h2,by rw[h5];simp,h6,E.own_len k3,rfl,k4⟩,rfl⟩,List.perm_middle⟩
theorem Qaue {w:World} {A:Option Addr} {n k:Nat} {xs:List α} {ck:List Value} {L:List Nat} (h:(Qjv E e A n xs k ck).P w L):(Qiu E e A n xs (k+1)).P w L:=by
 obtain⟨h0,h1,g,cur,pre,post,spare,L2,h2,h3,h4,h5,h6,rfl,h7⟩:=h;exact⟨h0,h1, .inr ⟨g,cur,pre++ck,post,spare,L2,h2,h3,by rw[h4];simp,by rw[List.length_append,h5,h6,Nat.add_mul,Nat.one_mul],rfl,h7⟩⟩
theorem Mem.restNext {w:World} {A:Option Addr} {n k:Nat} {xs:List α} {ck:List Value} (h:Mem B w0 (Qjv E e A n xs k ck::js) w):Mem B w0 (Qiu E e A n xs (k+1)::js) w:=h.perm fun L hL=>⟨L,Qaue hL,List.Perm.refl _⟩
theorem Mem.restPop [Inhabited α] {w:World} {A:Option Addr} {n k:Nat} {xs:List α} (hk:k<n) (h:Mem B w0 (Qiu E e A n xs k::js) w):∃ ck,Mem B w0 (Qh E ck (gt xs k)::Qjv E e A n xs k ck::js) w:=by
 obtain⟨_,⟨L1,L2,rfl,h1,h2⟩,h3,h4⟩:=h.sep;obtain⟨ck,L',s1,s2⟩:=Qauf hk h1;exact⟨ck,h.base,h.below,L'++L2,Sep.append s1 h2,(s2.append_right L2).nodup_iff.2 h3,fun b hb=>h4 b ((s2.append_right L2).mem_iff.1 hb)⟩
theorem Qrg {ops:Array Oper} {l:List Oper} {A:Option Addr} {m k:Nat} {xs:List α} {n:Nat} (hi:is[n]?=some (Qiu E e A m xs k)) (hp:k<m) (h:∀ g,A=some ⟨g,0,none⟩→WM P N B w0 ops Q l L is):WM P N B w0 ops Q l L is:=fun w hm=>by
 obtain⟨_,⟨_,_,h1⟩,_⟩:=hm.get hi;rcases h1 with⟨h2,_⟩|⟨g,_,_,_,_,_,h2,_⟩
 ·omega
 ·exact h g h2 w hm
theorem Qrh [Inhabited α] {ops:Array Oper} {l:List Oper} {A:Option Addr} {n k:Nat} {xs:List α} (hk:k<n) (hmv:∀ w,Mem B w0 is w→Mem B w0 (Qiu E e A n xs k::js) w)
 (h:∀ ck,WM P N B w0 ops Q l L (Qh E ck (gt xs k)::Qjv E e A n xs k ck::js)):WM P N B w0 ops Q l L is:=fun w hm=>by
 obtain⟨ck,h1⟩:=(hmv w hm).restPop hk;exact h ck w h1
theorem Mem.restCells {w:World} {g n k i:Nat} {xs:List α} {ck:List Value} (h:Mem B w0 is w) (hi:is[i]?=some (Qjv E e (some ⟨g,0,none⟩) n xs k ck)) {s:Nat} (hs:E.sz=s):∀ j u,ck[j]?=some u→w.cell? (((⟨g,0,none⟩:Addr).add (k*s)).add j)=some u:=fun j u hu=>by
 obtain⟨_,⟨h0,h1,g',cur,pre,post,spare,L2,he,hcur,hcl,hpre,hck,rfl,h7⟩,_⟩:=h.get hi;cases he
 subst hs;rw[Qkq];have hlt:j<ck.length:=(List.getElem?_eq_some_iff.1 hu).1;have hc:cur[k*E.sz+j]?=some u:=by
  rw[← Array.getElem?_toList,hcl,List.getElem?_append_right (by omega),List.getElem?_append_left (by omega), ← hu]
  congr 1;omega
 unfold Addr.add
 split
 ·rename_i h0;rw[h0] at hc;simp[World.cell?,hcur,hc]
 ·simp[World.cell?,hcur,hc]
theorem Mem.last {i:It} {w:World} (h:Mem B w0 (i::is) w):Mem B w0 (is++[i]) w:=by
 obtain⟨_,⟨L1,L2,rfl,h1,h2⟩,h3,h4⟩:=h.sep;have h5:Sep (is++[i]) w (L2++L1):=Sep.append h2 ⟨L1,[],by simp,h1,rfl⟩;exact⟨h.base,h.below,L2++L1,h5,(List.perm_append_comm.nodup_iff).1 h3,fun b hb=>h4 b (by simpa [or_comm] using hb)⟩
end
end Go.Proofs.YtdlminfjdodjoaaGreat
