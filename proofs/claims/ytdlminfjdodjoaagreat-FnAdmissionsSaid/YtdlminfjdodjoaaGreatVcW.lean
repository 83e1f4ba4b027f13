/-
  The stable sort as a call: a list of the call's own,sorted in its place.
-/
import Derived.Test.YtdlminfjdodjoaaGreatVcV
namespace Go.Proofs.YtdlminfjdodjoaaGreat
set_option linter.unusedVariables false
set_option linter.unusedSimpArgs false
open Go.RowKit
section
variable {α:Type} [Inhabited α]
/-! ### The functions over lists do not look at what they move -/
theorem gQ (xs:List (List Value×α)) (i:Nat):gt (xs.map Prod.snd) i=(gt xs i).2:=by
 unfold gt;rw[List.getD_eq_getElem?_getD,List.getD_eq_getElem?_getD,List.getElem?_map];cases xs[i]? <;>rfl
variable (cf:α->α->Int)
end
/-! ### A list of the call's own,as rows of cells and what they own -/
section
variable {α:Type} {E:Ty α} {e:TypeId} {B:Nat} {w0:World} {is:List It}
def EC (E:Ty α) (w:World):List Nat->List (List Value×α)->Prop
 |L,[]=>L=[]
 |L,p::ps=>∃ L1 a,L=L1++a∧E.own w L1 p.1 p.2∧EC E w a ps
theorem EC.keep {w w':World}:∀ {ps:List (List Value×α)} {L:List Nat},EC E w L ps->(∀ b∈L,w'.heap[b]?=w.heap[b]?)->EC E w' L ps
 | [],_,h,_=>h
 |p::ps,_,⟨L1,a,e,c,d⟩,hk=>by
  subst e;exact⟨L1,a,rfl,E.own_keep c fun b hb=>hk b (List.mem_append_left _ hb),EC.keep d fun b hb=>hk b (List.mem_append_right _ hb)⟩
theorem EC.lt {w:World}:∀ {ps:List (List Value×α)} {L:List Nat},EC E w L ps->∀ b∈L,b<w.heap.size
 | [],_,h=>by rw[show _=([]:List Nat) from h];simp
 |p::ps,_,⟨L1,d,e,a,c⟩=>by
  subst e;intro b hb;rcases List.mem_append.1 hb with h|h
  ·exact E.own_lt a b h
  ·exact EC.lt c b h
def jt (E:Ty α) (ps:List (List Value×α)):It:=⟨fun w L=>EC E w L ps,EC.keep,EC.lt⟩
theorem EC.perm {w:World} {ps qs:List (List Value×α)} (hp:ps.Perm qs):∀ {L:List Nat},EC E w L ps->∃ L',L'.Perm L∧EC E w L' qs:=by
 induction hp with
 |nil=>exact fun h=>⟨_, .refl _,h⟩
 |cons p _ ih=>
  rintro _ ⟨L1,a,rfl,c,d⟩;obtain⟨L',g,k2⟩:=ih d;exact⟨L1++L',g.append_left L1,L1,L',rfl,c,k2⟩
 |swap p q l=>
  rintro _ ⟨L1,_,rfl,c,a,b,rfl,d,i⟩;refine⟨a++(L1++b),?_,a,L1++b,rfl,d,L1,b,rfl,c,i⟩;rw[<- List.append_assoc, <- List.append_assoc];exact List.perm_append_comm.append_right b
 |trans _ _ e f=>
  intro L h;obtain⟨L1,g,k2⟩:=e h;obtain⟨a,j,k⟩:=f k2;exact⟨a,j.trans g,k⟩
theorem EC.els {w:World}:∀ {ps:List (List Value×α)} {L:List Nat},EC E w L ps->Els E w L (ps.map Prod.fst).flatten (ps.map Prod.snd)
 | [],_,h=>⟨h,rfl⟩
 |p::ps,_,⟨L1,a,e,b,c⟩=>⟨L1,a,p.1,(ps.map Prod.fst).flatten,e,rfl,b,c.els⟩
theorem EC.of {w:World}:∀ {xs:List α} {L:List Nat} {cs:List Value},Els E w L cs xs->∃ ps:List (List Value×α),ps.map Prod.snd=xs∧(ps.map Prod.fst).flatten=cs∧EC E w L ps
 | [],_,_,⟨a,b⟩=>⟨[],rfl,b.symm,a⟩
 |x::xs,_,_,⟨L1,c,c1,g,e,h,a,b⟩=>by
  obtain⟨ps,d,k2,f⟩:=EC.of b;exact⟨(c1,x)::ps,by simp[d],by simp[k2,h],L1,c,e,a,f⟩
theorem EC.mem {w:World}:∀ {ps:List (List Value×α)} {L:List Nat},EC E w L ps->∀ p∈ps,∃ L1,(∀ b∈L1,b∈L)∧E.own w L1 p.1 p.2
 | [],_,_,p,hp=>by cases hp
 |q::ps,_,⟨L1,g,e,c,d⟩,p,hp=>by
  subst e;rcases List.mem_cons.1 hp with rfl|hp
  ·exact⟨L1,fun b hb=>List.mem_append_left _ hb,c⟩
  ·obtain⟨a,f,k2⟩:=EC.mem d p hp;exact⟨a,fun b hb=>List.mem_append_right _ (f b hb),k2⟩
theorem Ml {K:Ck α} {w:World}:∀ {ps:List (List Value×α)},(∀ p∈ps,K.R p.1 p.2)->Els (el K) w [] (ps.map Prod.fst).flatten ps
 | [],_=>⟨rfl,rfl⟩
 |p::ps,h=>⟨[],[],p.1,(ps.map Prod.fst).flatten,rfl,rfl,⟨rfl,rfl,h p (by simp)⟩,Ml fun q hq=>h q (List.mem_cons_of_mem _ hq)⟩
theorem Mm {K:Ck α} {w:World}:∀ {ps:List (List Value×α)} {L:List Nat} {cs:List Value},Els (el K) w L cs ps->L=[]∧cs=(ps.map Prod.fst).flatten
 | [],_,_,⟨b,a⟩=>⟨b,a⟩
 |p::ps,_,_,⟨L1,g,c1,i,e,h,⟨c,k2,_⟩,a⟩=>by
  obtain⟨d,f⟩:=Mm a;subst e;subst h;subst c;subst d;subst k2;subst f;exact⟨rfl,rfl⟩
/-- The cells and what they stand for: those of a fixed list. -/
def oO (E:Ty α) (ps:List (List Value×α)):Ck α where
 s:=E.sz
 R:=fun cs x=>(cs,x)∈ps∧cs.length=E.sz∧∀ u∈cs,u.oneCell'=true
 len:=fun h=>h.2.1
 one:=fun h=>h.2.2
theorem Mem.toCk {w:World} {v:Value} {xs:List α} (h:Mem B w0 (Qg (ab E e) [v] xs::is) w):∃ ps:List (List Value×α),ps.map Prod.snd=xs∧Mem B w0 (Qg (ab (el (oO E ps)) e) [v] ps::jt E ps::is) w:=by
 obtain⟨_,⟨L1,a,rfl,⟨v',hv,cells,L',rfl,hrow,hels⟩,c⟩,d,f⟩:=h.sep;cases hv
 obtain⟨ps,g,k2,b⟩:=EC.of hels;subst g;subst k2;refine⟨ps,rfl,h.base,h.below,(v.ownBlock.toList++[])++(L'++a),⟨v.ownBlock.toList++[],L'++a,rfl,⟨v,rfl,(ps.map Prod.fst).flatten,[],rfl,?_,Ml fun p hp=>?_⟩,L',a,rfl,b,c⟩,?_,?_⟩
 ·have hr:w.ownsRow 0 e E.sz v (ps.map Prod.snd).length (ps.map Prod.fst).flatten:=hrow;rw[List.length_map] at hr;exact hr
 ·obtain⟨Lp,_,ho⟩:=EC.mem b p hp;exact⟨hp,E.own_len ho,E.own_one ho⟩
 ·rw[List.append_nil, <- List.append_assoc];exact d
 ·rw[List.append_nil, <- List.append_assoc];exact f
theorem Mem.ofCk {w:World} {K:Ck α} {v:Value} {ps qs:List (List Value×α)} (j:K.s=E.sz) (hp:qs.Perm ps) (h:Mem B w0 (Qg (ab (el K) e) [v] qs::jt E ps::is) w):Mem B w0 (Qg (ab E e) [v] (qs.map Prod.snd)::is) w:=by
 obtain⟨_,⟨L1,_,rfl,⟨v',hv,cells,L',rfl,hrow,hels⟩,g,a,rfl,hec,i⟩,d,f⟩:=h.sep;cases hv
 obtain⟨rfl,rfl⟩:=Mm hels;obtain⟨c,k,k2⟩:=EC.perm hp.symm hec;rw[List.append_nil] at d f;have hperm:((v.ownBlock.toList++c)++a).Perm (v.ownBlock.toList++(g++a)):=by
  rw[List.append_assoc];exact(k.append_right a).append_left _
 refine⟨h.base,h.below,(v.ownBlock.toList++c)++a,⟨v.ownBlock.toList++c,a,rfl,⟨v,rfl,(qs.map Prod.fst).flatten,c,rfl,?_,k2.els⟩,i⟩,hperm.nodup_iff.2 d,fun b hb=>f b (hperm.mem_iff.1 hb)⟩;have hr:w.ownsRow 0 e K.s v qs.length (qs.map Prod.fst).flatten:=hrow;rw[j] at hr;rw[List.length_map];exact hr
end
end Go.Proofs.YtdlminfjdodjoaaGreat
