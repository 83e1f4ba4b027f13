/-
  A region that draws its order,reads memory,makes memory,and writes at its end: what is read is known as long as nothing is written.
-/
import Derived.Test.YtdlminfjdodjoaaGreatVcS
namespace Go.Proofs.YtdlminfjdodjoaaGreat
set_option linter.unusedVariables false
set_option linter.unusedSimpArgs false
open Go.RowKit
/-- None of the operations W has come up. -/
def po (W:List Nat) (listed:Array Bool):Bool:=W.all fun j=> !listed.getD j false
theorem gK {W:List Nat} {listed:Array Bool}:po W listed=true↔∀ j∈W,listed.getD j false=false:=by
 unfold po;rw[List.all_eq_true];exact⟨fun h j hj=>by have:=h j hj;simpa using this,fun h j hj=>by have:=h j hj;simpa using this⟩
theorem gL {listed:Array Bool} {i j:Nat} (h:i≠j):(listed.setIfInBounds i true).getD j false=listed.getD j false:=by
 simp[Array.getD_eq_getD_getElem?,Array.getElem?_setIfInBounds_ne h]
theorem mM {W:List Nat} {listed:Array Bool} {i:Nat} (hi:i ∉ W) (h:po W listed=true):po W (listed.setIfInBounds i true)=true:=by
 rw[gK] at h ⊢;intro j hj;have hne:i≠j:=fun e=>hi (e ▸ hj)
 rw[gL hne];exact h j hj
theorem Mo {W:List Nat} {listed:Array Bool} {i:Nat} (h:po W (listed.setIfInBounds i true)=true):po W listed=true:=by
 rw[gK] at h ⊢;intro j hj;have a:=h j hj
 by_cases hne:i=j
 ·subst hne;rcases Nat.lt_or_ge i listed.size with h'|h'
  ·simp[h'] at a
  ·simp[Array.getElem?_eq_none h']
 ·rw[gL hne] at a;exact a
def yz (ops:Array Oper) (W:List Nat) (i:Nat):Bool:= !W.contains i && W.all fun j=>match ops[j]? with
 |some o=>o.after.toList.any fun e=>Region.binds .any e && e.on==i
 |none=>true
section
variable {P:Program} {ops:Array Oper} {Q:Exit->Act->World->Prop} {S1 S2:World->Prop} {W:List Nat}
def uf (P:Program) (ops:Array Oper) (Q:Exit->Act->World->Prop) (S1 S2:World->Prop) (W:List Nat):Nat->Array Bool->Act->World->Prop
 |0,listed,a,w=>Region.ready .any ops listed=[]∧Q .normal a w
 |fuel+1,listed,a,w=>
  (Region.ready .any ops listed=[]->Q .normal a w) ∧
  ∀ i∈Region.ready .any ops listed,wpOp P ops Q i (fun a' w'=>S1 w'∧(po W (listed.setIfInBounds i true)=true->S2 w')∧uf P ops Q S1 S2 W fuel (listed.setIfInBounds i true) a' w') a w
theorem lR:∀ (fuel:Nat) (listed:Array Bool) (a:Act) (w:World),uf P ops Q S1 S2 W fuel listed a w->wpAny P .any ops Q fuel listed a w
 |0,_,_,_,h=>h
 |fuel+1,_,_,_,h=>⟨h.1,fun i hi=>wpOp_mono (fun a' w' h'=>lR fuel _ a' w' h'.2.2) (h.2 i hi)⟩
theorem lQ:∀ (fuel:Nat) (listed:Array Bool) (a:Act) (w:World),po W listed=false->wpAnyH P .any ops Q S1 fuel listed a w->uf P ops Q S1 S2 W fuel listed a w
 |0,_,_,_,_,h=>h
 |fuel+1,listed,a,w,hf,h=>⟨h.1,fun i hi=>wpOp_mono (fun a' w' h'=>
  have b:po W (listed.setIfInBounds i true)=false:=by
   cases hc:po W (listed.setIfInBounds i true) with
   |false=>rfl
   |true=>rw[Mo hc] at hf;cases hf
  ⟨h'.1,(fun hc=>by rw[b] at hc;cases hc),lQ fuel _ a' w' b h'.2⟩) (h.2 i hi)⟩
theorem Kn {i:Nat} {oi:Oper} {v:Value} (hi:ops[i]?=some oi) (hsel:∀ (j:Nat) (o:Oper) cs b,ops[j]?=some o->o.op ≠ .select cs b)
 (hQ:∀ c a w,Q (.panic c) (a.put oi.dst v) w->Q (.panic c) a w) (hiW:i ∉ W) (hwW:∀ j∈W,∀ o,ops[j]?=some o->∃ e∈o.after,Region.binds .any e=true∧e.on=i):
 ∀ (fuel:Nat) (listed:Array Bool) (a:Act) (w:World),
  (∀ j oj,ops[j]?=some oj->j≠i->listed.getD j true=false->(∀ e∈oj.after,Region.binds .any e=true->e.on≠i)->oi.apart ops oj=true) ->
  i∈Region.ready .any ops listed->YieldsIf P ops S2 oi v a->S1 w->S2 w->po W listed=true ->
  uf P ops Q S1 S2 W fuel (listed.setIfInBounds i true) (a.put oi.dst v) w->uf P ops Q S1 S2 W (fuel+1) listed a w:=by
 intro fuel
 induction fuel with
 |zero=>
  intro listed a w _ hr hy g d hfw H;refine⟨fun h=>(by rw[h] at hr;cases hr),fun j hj=>?_⟩
  by_cases hji:j=i
  ·subst hji;exact hy.wpOp hi d ⟨g,fun _=>d,H⟩
  ·have:=ready_mono hj hji;rw[H.1] at this;cases this
 |succ fuel ih=>
  intro listed a w hfree hr hy g d hfw H;refine⟨fun h=>(by rw[h] at hr;cases hr),fun j hj=>?_⟩
  by_cases hji:j=i
  ·subst hji;exact hy.wpOp hi d ⟨g,fun _=>d,H⟩
  ·have f:=H.2 j (ready_mono hj hji);obtain⟨hjun,oj,hoj,hall⟩:=mem_ready.1 hj;have hnot:∀ e∈oj.after,Region.binds .any e=true->e.on≠i:=fun e he hb heq=>by
    have f:=hall e he hb;have r:=(mem_ready.1 hr).1;rw[heq] at f;rcases Nat.lt_or_ge i listed.size with h'|h'
    ·simp[h'] at r f;rw[r] at f;cases f
    ·simp[Array.getElem?_eq_none h'] at f
   have hjW:j ∉ W:=fun p=>by
    obtain⟨e,he,hb,heq⟩:=hwW j p oj hoj;exact hnot e he hb heq
   have n:=mM hjW hfw;have m:=mM hjW (mM hiW hfw);have s:=wpOp_putIf (S:=S2) hoj (hfree j oj hoj hji hjun hnot) (fun cs b=>hsel i oi cs b hi) (fun cs b=>hsel j oj cs b hoj) hQ hy f;have hfree':∀ k ok,ops[k]?=some ok->k≠i->(listed.setIfInBounds j true).getD k true=false ->
    (∀ e∈ok.after,Region.binds .any e=true->e.on≠i)->oi.apart ops ok=true:=fun k ok hk hki hun hno=>by
    refine hfree k ok hk hki ?_ hno
    by_cases hjk:j=k
    ·subst hjk;exact hjun
    ·rw[getD_set_ne true hjk] at hun;exact hun
   refine wpOp_mono (fun a' w' l=>⟨l.2.1,fun _=>l.2.2.1 m,ih (listed.setIfInBounds j true) a' w' hfree' (ready_mono hr (Ne.symm hji)) l.1 l.2.1 (l.2.2.1 m) n ?_⟩) s;rw[Array.setIfInBounds_comm _ _ hji];exact l.2.2.2
/-- The like for an operation that reads no memory: it need not wait for those of W. -/
theorem Ko {i:Nat} {oi:Oper} {v:Value} (hi:ops[i]?=some oi) (hsel:∀ (j:Nat) (o:Oper) cs b,ops[j]?=some o->o.op ≠ .select cs b)
 (hQ:∀ c a w,Q (.panic c) (a.put oi.dst v) w->Q (.panic c) a w) (hiW:i ∉ W):
 ∀ (fuel:Nat) (listed:Array Bool) (a:Act) (w:World),
  (∀ j oj,ops[j]?=some oj->j≠i->listed.getD j true=false->(∀ e∈oj.after,Region.binds .any e=true->e.on≠i)->oi.apart ops oj=true) ->
  i∈Region.ready .any ops listed->YieldsIf P ops (fun _=>True) oi v a->S1 w->(po W listed=true->S2 w) ->
  uf P ops Q S1 S2 W fuel (listed.setIfInBounds i true) (a.put oi.dst v) w->uf P ops Q S1 S2 W (fuel+1) listed a w:=by
 intro fuel
 induction fuel with
 |zero=>
  intro listed a w _ hr hy f g H;refine⟨fun h=>(by rw[h] at hr;cases hr),fun j hj=>?_⟩
  by_cases hji:j=i
  ·subst hji;exact hy.wpOp hi trivial ⟨f,fun hf=>g (Mo hf),H⟩
  ·have:=ready_mono hj hji;rw[H.1] at this;cases this
 |succ fuel ih=>
  intro listed a w hfree hr hy f g H;refine⟨fun h=>(by rw[h] at hr;cases hr),fun j hj=>?_⟩
  by_cases hji:j=i
  ·subst hji;exact hy.wpOp hi trivial ⟨f,fun hf=>g (Mo hf),H⟩
  ·have d:=H.2 j (ready_mono hj hji);obtain⟨hjun,oj,hoj,hall⟩:=mem_ready.1 hj;have hnot:∀ e∈oj.after,Region.binds .any e=true->e.on≠i:=fun e he hb heq=>by
    have d:=hall e he hb;have m:=(mem_ready.1 hr).1;rw[heq] at d;rcases Nat.lt_or_ge i listed.size with h'|h'
    ·simp[h'] at m d;rw[m] at d;cases d
    ·simp[Array.getElem?_eq_none h'] at d
   have n:=wpOp_putIf (S:=fun _=>True) hoj (hfree j oj hoj hji hjun hnot) (fun cs b=>hsel i oi cs b hi) (fun cs b=>hsel j oj cs b hoj) hQ hy d;have hfree':∀ k ok,ops[k]?=some ok->k≠i->(listed.setIfInBounds j true).getD k true=false ->
    (∀ e∈ok.after,Region.binds .any e=true->e.on≠i)->oi.apart ops ok=true:=fun k ok hk hki hun hno=>by
    refine hfree k ok hk hki ?_ hno
    by_cases hjk:j=k
    ·subst hjk;exact hjun
    ·rw[getD_set_ne true hjk] at hun;exact hun
   refine wpOp_mono (fun a' w' l=>⟨l.2.1,fun hf=>l.2.2.1 (by rw[Array.setIfInBounds_comm _ _ (Ne.symm hji)];exact mM hiW hf),ih (listed.setIfInBounds j true) a' w' hfree' (ready_mono hr (Ne.symm hji)) l.1 l.2.1 (fun hf=>l.2.2.1 (by rw[Array.setIfInBounds_comm _ _ (Ne.symm hji)];exact mM hiW hf)) ?_⟩) n;rw[Array.setIfInBounds_comm _ _ hji];exact l.2.2.2
theorem Kl {i:Nat} (h:yz ops W i=true):i ∉ W∧∀ j∈W,∀ o,ops[j]?=some o->∃ e∈o.after,Region.binds .any e=true∧e.on=i:=by
 unfold yz at h;rw[Bool.and_eq_true] at h;refine⟨fun b=>?_,fun j hj o ho=>?_⟩
 ·have:=h.1;simp[b] at this
 ·have a:=List.all_eq_true.1 h.2 j hj;rw[ho] at a;obtain⟨e,he,hb⟩:=List.any_eq_true.1 a;rw[Bool.and_eq_true] at hb;exact⟨e,Array.mem_toList_iff.1 he,hb.1,by simpa using hb.2⟩
end
section
variable {P:Program} {N B:Nat} {w0:World} {Q:Exit->Act->World->Prop} {L:List (Nat×Value)} {is js s s2 s3:List It} {ops:Array Oper} {W:List Nat} {d fuel:Nat} {v:Value} {listed:Array Bool} {o:Oper}
/-- Nothing is written yet: 's' is kept for good, 's2' till something of W comes up. -/
def QD (P:Program) (N B:Nat) (w0:World) (ops:Array Oper) (Q:Exit->Act->World->Prop) (fuel:Nat) (listed:Array Bool) (L:List (Nat×Value)) (s s2:List It) (W:List Nat) (is:List It):Prop:=
 ∀ w,Mem B w0 is w->Mem B w0 s w->Mem B w0 s2 w->∀ a,Fr N L a->uf P ops Q (fun w=>Mem B w0 s w) (fun w=>Mem B w0 s2 w) W fuel listed a w
abbrev KD (P:Program) (B:Nat) (w0:World) (ops:Array Oper) (Q:Exit->Act->World->Prop) (fuel:Nat) (listed:Array Bool) (s s2:List It) (W:List Nat):Act->World->Prop:=
 fun a w=>Mem B w0 s w∧(po W listed=true->Mem B w0 s2 w)∧uf P ops Q (fun w=>Mem B w0 s w) (fun w=>Mem B w0 s2 w) W fuel listed a w
theorem im {id:Nat} {l:List Oper} (n:Nat) (W:List Nat) (b:∀ w,Mem B w0 is w->Mem B w0 s w) (c:∀ w,Mem B w0 is w->Mem B w0 s2 w) (h:QD P N B w0 l.toArray Q n (bm n 0) L s s2 W is) (d:P.follows .mixedOrders=true:=by kernel_rfl) (hn:l.length=n:=by rfl) (hl:Array.replicate n false=bm n 0:=by kernel_rfl):CM P N B w0 (.region id l.toArray true) Q L is:=fun w hw a ha=>
 wp_region_any d (lR _ _ _ _ (by
  have:=h _ hw.drew (b _ hw.drew) (c _ hw.drew) a ha;rw[<- hl] at this;subst hn
  simpa using this))
theorem ae (n i m:Nat) (hi:ops[i]?=some o) (hv:∀ w,Mem B w0 s2 w->RV P L o w v w) (h:QD P N B w0 ops Q fuel (bm n m) ((d,v)::L) s s2 W is) (hl:listed.setIfInBounds i true=bm n m:=by kernel_rfl) (j:Region.noSelect ops=true:=by kernel_rfl) (hf:Region.free .any ops listed i=true:=by kernel_rfl)
 (hr:(Region.ready .any ops listed).contains i=true:=by kernel_rfl) (hw:yz ops W i=true:=by kernel_rfl) (hfw:po W listed=true:=by kernel_rfl) (hQ:∀ c a w,Q (.panic c) (a.put (some d) v) w->Q (.panic c) a w:=by exact fun _ _ _ h=>h) (hg:o.guard=none:=by rfl) (hd:o.dst=some d:=by rfl) (hN:d<N:=by decide):QD P N B w0 ops Q (fuel+1) listed L s s2 W is:=fun w g b e a ha=>by
 obtain⟨k,k2⟩:=Kl hw;have f:=h w g b e _ (ha.put hN v);rw[<- hl] at f;exact Kn hi (Region.noSelect_spec j) (fun c a w hq=>hQ c a w (by rw[<- hd];exact hq)) k k2 fuel listed a w (Region.free_spec hi hf) (by simpa using hr) (.inl ⟨Qf hg N a ha,fun w hS=>hv w hS N a ha⟩) b e hfw (by rw[hd];exact f)
theorem tk (n i m:Nat) (hi:ops[i]?=some o) (hv:∀ w,RV P L o w v w) (h:QD P N B w0 ops Q fuel (bm n m) ((d,v)::L) s s2 W is) (hl:listed.setIfInBounds i true=bm n m:=by kernel_rfl) (j:Region.noSelect ops=true:=by kernel_rfl) (hf:Region.free .any ops listed i=true:=by kernel_rfl)
 (hr:(Region.ready .any ops listed).contains i=true:=by kernel_rfl) (hw:W.contains i=false:=by kernel_rfl) (hQ:∀ c a w,Q (.panic c) (a.put (some d) v) w->Q (.panic c) a w:=by exact fun _ _ _ h=>h) (hg:o.guard=none:=by rfl) (hd:o.dst=some d:=by rfl) (hN:d<N:=by decide):QD P N B w0 ops Q (fuel+1) listed L s s2 W is:=fun w f b e a ha=>by
 have g:=h w f b e _ (ha.put hN v);rw[<- hl] at g;exact Ko hi (Region.noSelect_spec j) (fun c a w hq=>hQ c a w (by rw[<- hd];exact hq)) (fun f=>by simp[f] at hw) fuel listed a w (Region.free_spec hi hf) (by simpa using hr) (.inl ⟨Qf hg N a ha,fun w _=>hv w N a ha⟩) b (fun _=>e) (by rw[hd];exact g)
def oQ (P:Program) (N B:Nat) (w0:World) (ops:Array Oper) (Q:Exit->Act->World->Prop) (fuel:Nat) (listed:Array Bool) (L:List (Nat×Value)) (s s2:List It) (W:List Nat) (is:List It) (rs:List Nat):Prop:=
 ∀ w,Mem B w0 is w->Mem B w0 s w->Mem B w0 s2 w->∀ a,Fr N L a->∀ i∈rs,wpOp P ops Q i (KD P B w0 ops Q fuel (listed.setIfInBounds i true) s s2 W) a w
theorem ju (rs:List Nat) (h:oQ P N B w0 ops Q fuel listed L s s2 W is rs) (hr:Region.ready .any ops listed=rs:=by kernel_rfl) (hne:rs≠[]:=by decide):QD P N B w0 ops Q (fuel+1) listed L s s2 W is:=fun w e b c a ha=>
 ⟨fun d=>absurd (hr ▸ d) hne,fun i hi=>h w e b c a ha i (hr ▸ hi)⟩
theorem jk:oQ P N B w0 ops Q fuel listed L s s2 W is []:=fun _ _ _ _ _ _ _ h=>by cases h
theorem fa (n m:Nat) {i:Nat} {rs:List Nat} (hi:ops[i]?=some o) (h:WM P N B w0 ops (Exit.then (KD P B w0 ops Q fuel (bm n m) s s2 W) Q) [o] L is) (k:oQ P N B w0 ops Q fuel listed L s s2 W is rs) (hl:listed.setIfInBounds i true=bm n m:=by kernel_rfl):oQ P N B w0 ops Q fuel listed L s s2 W is (i::rs):=fun w f c d a ha j hj=>by
 rcases List.mem_cons.1 hj with rfl|hj
 case inr=>exact k w f c d a ha j hj
 rw[hl];have b:=h w f a ha;unfold wpOp;rw[hi];unfold wpList at b;dsimp only
 by_cases hwt:Region.wanted o (yielded ops a.tmps)=true
 ·rw[if_pos hwt] at b ⊢;rcases b with b|⟨b,g⟩
  ·left
   unfold Oper.wp at b ⊢;generalize (execOp a.eval o).run P w=r at b ⊢;cases r with
   |ok n w'=>
    cases n <;>simp only[Oper.upon] at b ⊢ <;>
     first
      |exact b
      |exact Calls.mono b (fun e w'' he=>by cases e <;>first|exact he|exact(by obtain⟨a',w',hh⟩:=he;exact⟨a',w',hh⟩))
      |exact Rows.mono b (fun _ _ he=>he)
   |halt x w'=>cases x <;>simp only[Oper.upon] at b ⊢ <;>exact b
  ·right
   obtain⟨a',w',hh⟩:=g;exact⟨b,a',w',hh⟩
 ·rw[if_neg hwt] at b ⊢;exact b
theorem bc (n i m:Nat) (hi:ops[i]?=some o) (h:WM P N B w0 ops (Exit.then (KD P B w0 ops Q fuel (bm n m) s s2 W) Q) [o] L is) (hl:listed.setIfInBounds i true=bm n m:=by kernel_rfl) (hr:Region.ready .any ops listed=[i]:=by kernel_rfl):QD P N B w0 ops Q (fuel+1) listed L s s2 W is:=ju [i] (fa n m hi h jk hl) hr (by simp)
theorem aq (c:∀ w,Mem B w0 js w->Mem B w0 s w) (d:∀ w,Mem B w0 js w->Mem B w0 s2 w) (h:QD P N B w0 ops Q fuel listed L s s2 W js):WM P N B w0 ops (Exit.then (KD P B w0 ops Q fuel listed s s2 W) Q) [] L js:=bb fun w b a ha=>⟨c w b,fun _=>d w b,h w b (c w b) (d w b) a ha⟩
theorem ik (c:∀ w,Mem B w0 js w->Mem B w0 s w) (h:QB P N B w0 ops Q fuel listed L s js) (hf:po W listed=false:=by kernel_rfl):WM P N B w0 ops (Exit.then (KD P B w0 ops Q fuel listed s s2 W) Q) [] L js:=bb fun w b a ha=>⟨c w b,fun hc=>(by rw[hf] at hc;cases hc),lQ _ _ _ _ hf (h w b (c w b) a ha)⟩
theorem qx {σ:Type} (s3:σ->List It) (n m k:Nat) (Lf:σ->List (Nat×Value)) (If:σ->List It) (hH:∀ x:σ,QD P N B w0 ops Q k (bm n m) (Lf x) s (s3 x) W (If x)) (h:(∀ x:σ,QD P N B w0 ops Q k (bm n m) (Lf x) s (s3 x) W (If x))->QD P N B w0 ops Q fuel listed L s s2 W is):QD P N B w0 ops Q fuel listed L s s2 W is:=h hH
theorem gp {L':List (Nat×Value)} (e:mc L' L) (hi:∀ w,Mem B w0 is w->Mem B w0 js w) (h:QD P N B w0 ops Q fuel listed L' s s2 W js):QD P N B w0 ops Q fuel listed L s s2 W is:=fun w d b c a ha=>h w (hi w d) b c a (ha.sub e)
theorem mx {α:Type} {E:Ty α} {e:TypeId} {A:Option Addr} {m c:Nat} {xs:List α} {n:Nat} (hi:is[n]?=some (Qg (ab E e) [.slice A m c] xs)) (h:xs.length=m->m<=9223372036854775807->QD P N B w0 ops Q fuel listed L s s2 W is):QD P N B w0 ops Q fuel listed L s s2 W is:=fun w a=>by
 obtain⟨hl,A',c',hv,_⟩:=a.rdSI hi;cases hv
 exact h rfl hl w a
end
end Go.Proofs.YtdlminfjdodjoaaGreat
