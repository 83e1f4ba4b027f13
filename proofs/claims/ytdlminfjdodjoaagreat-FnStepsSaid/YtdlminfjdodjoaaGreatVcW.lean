/-
  The stable sort as a call: a list of the call's own,sorted in its place.
-/
import Derived.Test.YtdlminfjdodjoaaGreatVcV
namespace Go.Proofs.YtdlminfjdodjoaaGreat
open Go.RowKit
section
variable {α:Type} [Inhabited α]
/-! ### The functions over lists do not look at what they move -/
theorem Qafm (xs:List (List Value×α)) (i:Nat):gt (xs.map Prod.snd) i=(gt xs i).2:=by
 unfold gt;rw[List.getD_eq_getElem?_getD,List.getD_eq_getElem?_getD,List.getElem?_map];cases xs[i]? <;>rfl
variable (cf:α→α→Int)
end
/-! ### A list of the call's own,as rows of cells and what they own -/
section
variable {α:Type} {E:Ty α} {e:TypeId} {B:Nat} {w0:World} {is:List It}
def EC (E:Ty α) (w:World):List Nat→List (List Value×α)→Prop
 |L,[]=>L=[]
 |L,p::ps=>∃ L1 L2,L=L1++L2∧E.own w L1 p.1 p.2∧EC E w L2 ps
theorem EC.keep {w w':World}:∀ {ps:List (List Value×α)} {L:List Nat},EC E w L ps→(∀ b∈L,w'.heap[b]?=w.heap[b]?)→EC E w' L ps
 | [],_,h,_=>h
 |p::ps,_,⟨L1,L2,e,h1,h2⟩,hk=>by
  subst e;exact⟨L1,L2,rfl,E.own_keep h1 fun b hb=>hk b (List.mem_append_left _ hb),EC.keep h2 fun b hb=>hk b (List.mem_append_right _ hb)⟩
theorem EC.lt {w:World}:∀ {ps:List (List Value×α)} {L:List Nat},EC E w L ps→∀ b∈L,b<w.heap.size
 | [],_,h=>by rw[show _=([]:List Nat) from h];simp
 |p::ps,_,⟨L1,L2,e,h1,h2⟩=>by
  subst e;intro b hb;rcases List.mem_append.1 hb with h|h
  ·exact E.own_lt h1 b h
  ·exact EC.lt h2 b h
def iCk (E:Ty α) (ps:List (List Value×α)):It:=⟨fun w L=>EC E w L ps,EC.keep,EC.lt⟩
theorem EC.perm {w:World} {ps qs:List (List Value×α)} (hp:ps.Perm qs):∀ {L:List Nat},EC E w L ps→∃ L',L'.Perm L∧EC E w L' qs:=by
 induction hp with
 |nil=>exact fun h=>⟨_, .refl _,h⟩
 |cons p _ ih=>
  rintro _ ⟨L1,L2,rfl,h1,h2⟩;obtain⟨L',k1,k2⟩:=ih h2;exact⟨L1++L',k1.append_left L1,L1,L',rfl,h1,k2⟩
 |swap p q l=>
  rintro _ ⟨L1,_,rfl,h1,L2,L3,rfl,h2,h3⟩;refine⟨L2++(L1++L3),?_,L2,L1++L3,rfl,h2,L1,L3,rfl,h1,h3⟩;rw[← List.append_assoc, ← List.append_assoc];exact List.perm_append_comm.append_right L3
 |trans _ _ ih1 ih2=>
  intro L h;obtain⟨L1,k1,k2⟩:=ih1 h;obtain⟨L2,k3,k4⟩:=ih2 k2;exact⟨L2,k3.trans k1,k4⟩
theorem EC.els {w:World}:∀ {ps:List (List Value×α)} {L:List Nat},EC E w L ps→Els E w L (ps.map Prod.fst).flatten (ps.map Prod.snd)
 | [],_,h=>⟨h,rfl⟩
 |p::ps,_,⟨L1,L2,e,h1,h2⟩=>⟨L1,L2,p.1,(ps.map Prod.fst).flatten,e,rfl,h1,h2.els⟩
theorem EC.of {w:World}:∀ {xs:List α} {L:List Nat} {cs:List Value},Els E w L cs xs→∃ ps:List (List Value×α),ps.map Prod.snd=xs∧(ps.map Prod.fst).flatten=cs∧EC E w L ps
 | [],_,_,⟨h1,h2⟩=>⟨[],rfl,h2.symm,h1⟩
 |x::xs,_,_,⟨L1,L2,c1,c2,e,h,h1,h2⟩=>by
  obtain⟨ps,k1,k2,k3⟩:=EC.of h2;exact⟨(c1,x)::ps,by simp[k1],by simp[k2,h],L1,L2,e,h1,k3⟩
theorem EC.mem {w:World}:∀ {ps:List (List Value×α)} {L:List Nat},EC E w L ps→∀ p∈ps,∃ L1,(∀ b∈L1,b∈L)∧E.own w L1 p.1 p.2
 | [],_,_,p,hp=>by cases hp
 |q::ps,_,⟨L1,L2,e,h1,h2⟩,p,hp=>by
  subst e;rcases List.mem_cons.1 hp with rfl|hp
  ·exact⟨L1,fun b hb=>List.mem_append_left _ hb,h1⟩
  ·obtain⟨L3,k1,k2⟩:=EC.mem h2 p hp;exact⟨L3,fun b hb=>List.mem_append_right _ (k1 b hb),k2⟩
theorem Qaet {K:Ck α} {w:World}:∀ {ps:List (List Value×α)},(∀ p∈ps,K.R p.1 p.2)→Els (tCk K) w [] (ps.map Prod.fst).flatten ps
 | [],_=>⟨rfl,rfl⟩
 |p::ps,h=>⟨[],[],p.1,(ps.map Prod.fst).flatten,rfl,rfl,⟨rfl,rfl,h p (by simp)⟩,Qaet fun q hq=>h q (List.mem_cons_of_mem _ hq)⟩
theorem Qaev {K:Ck α} {w:World}:∀ {ps:List (List Value×α)} {L:List Nat} {cs:List Value},Els (tCk K) w L cs ps→L=[]∧cs=(ps.map Prod.fst).flatten
 | [],_,_,⟨h1,h2⟩=>⟨h1,h2⟩
 |p::ps,_,_,⟨L1,L2,c1,c2,e,h,⟨k1,k2,_⟩,h2⟩=>by
  obtain⟨k3,k4⟩:=Qaev h2;subst e;subst h;subst k1;subst k3;subst k2;subst k4;exact⟨rfl,rfl⟩
/-- The cells and what they stand for: those of a fixed list. -/
def ckOf (E:Ty α) (ps:List (List Value×α)):Ck α where
 s:=E.sz
 R:=fun cs x=>(cs,x)∈ps∧cs.length=E.sz∧∀ u∈cs,u.oneCell'=true
 len:=fun h=>h.2.1
 one:=fun h=>h.2.2
theorem Mem.toCk {w:World} {v:Value} {xs:List α} (h:Mem B w0 (Qh (tSl E e) [v] xs::is) w):∃ ps:List (List Value×α),ps.map Prod.snd=xs∧Mem B w0 (Qh (tSl (tCk (ckOf E ps)) e) [v] ps::iCk E ps::is) w:=by
 obtain⟨_,⟨L1,L2,rfl,⟨v',hv,cells,L',rfl,hrow,hels⟩,h2⟩,h3,h4⟩:=h.sep;cases hv
 obtain⟨ps,k1,k2,k3⟩:=EC.of hels;subst k1;subst k2;refine⟨ps,rfl,h.base,h.below,(v.ownBlock.toList++[])++(L'++L2),⟨v.ownBlock.toList++[],L'++L2,rfl,⟨v,rfl,(ps.map Prod.fst).flatten,[],rfl,?_,Qaet fun p hp=>?_⟩,L',L2,rfl,k3,h2⟩,?_,?_⟩
 ·have hr:w.ownsRow 0 e E.sz v (ps.map Prod.snd).length (ps.map Prod.fst).flatten:=hrow;rw[List.length_map] at hr;exact hr
 ·obtain⟨Lp,_,ho⟩:=EC.mem k3 p hp;exact⟨hp,E.own_len ho,E.own_one ho⟩
 ·rw[List.append_nil, ← List.append_assoc];exact h3
 ·rw[List.append_nil, ← List.append_assoc];exact h4
theorem Mem.ofCk {w:World} {K:Ck α} {v:Value} {ps qs:List (List Value×α)} (hs:K.s=E.sz) (hp:qs.Perm ps) (h:Mem B w0 (Qh (tSl (tCk K) e) [v] qs::iCk E ps::is) w):Mem B w0 (Qh (tSl E e) [v] (qs.map Prod.snd)::is) w:=by
 obtain⟨_,⟨L1,_,rfl,⟨v',hv,cells,L',rfl,hrow,hels⟩,L2,L3,rfl,hec,h2⟩,h3,h4⟩:=h.sep;cases hv
 obtain⟨rfl,rfl⟩:=Qaev hels;obtain⟨L4,k1,k2⟩:=EC.perm hp.symm hec;rw[List.append_nil] at h3 h4;have hperm:((v.ownBlock.toList++L4)++L3).Perm (v.ownBlock.toList++(L2++L3)):=by
  rw[List.append_assoc];exact(k1.append_right L3).append_left _
 refine⟨h.base,h.below,(v.ownBlock.toList++L4)++L3,⟨v.ownBlock.toList++L4,L3,rfl,⟨v,rfl,(qs.map Prod.fst).flatten,L4,rfl,?_,k2.els⟩,h2⟩,hperm.nodup_iff.2 h3,fun b hb=>h4 b (hperm.mem_iff.1 hb)⟩;have hr:w.ownsRow 0 e K.s v qs.length (qs.map Prod.fst).flatten:=hrow;rw[hs] at hr;rw[List.length_map];exact hr
end
end Go.Proofs.YtdlminfjdodjoaaGreat
