/-
  A region that draws its order,reads memory,makes memory,and writes at its end: what is read is known as long as nothing is written.
-/
import Derived.Test.YtdlminfjdodjoaaGreatVcS
namespace Go.Proofs.YtdlminfjdodjoaaGreat
open Go.RowKit
/-- None of the operations W has come up. -/
def Qjm (W:List Nat) (listed:Array Bool):Bool:=W.all fun j=> !listed.getD j false
theorem Qafg {W:List Nat} {listed:Array Bool}:Qjm W listed=true↔∀ j∈W,listed.getD j false=false:=by
 unfold Qjm;rw[List.all_eq_true];exact⟨fun h j hj=>by have:=h j hj;simpa using this,fun h j hj=>by have:=h j hj;simpa using this⟩
theorem Qafh {listed:Array Bool} {i j:Nat} (h:i≠j):(listed.setIfInBounds i true).getD j false=listed.getD j false:=by
 simp[Array.getD_eq_getD_getElem?,Array.getElem?_setIfInBounds_ne h]
theorem Qrr {W:List Nat} {listed:Array Bool} {i:Nat} (hi:i ∉ W) (h:Qjm W listed=true):Qjm W (listed.setIfInBounds i true)=true:=by
 rw[Qafg] at h ⊢;intro j hj;have hne:i≠j:=fun e=>hi (e ▸ hj)
 rw[Qafh hne];exact h j hj
theorem Qye {W:List Nat} {listed:Array Bool} {i:Nat} (h:Qjm W (listed.setIfInBounds i true)=true):Qjm W listed=true:=by
 rw[Qafg] at h ⊢;intro j hj;have h1:=h j hj
 by_cases hne:i=j
 ·subst hne;rcases Nat.lt_or_ge i listed.size with h'|h'
  ·simp[h'] at h1
  ·simp[Array.getElem?_eq_none h']
 ·rw[Qafh hne] at h1;exact h1
def Qabo (ops:Array Oper) (W:List Nat) (i:Nat):Bool:= !W.contains i && W.all fun j=>match ops[j]? with
 |some o=>o.after.toList.any fun e=>Region.binds .any e && e.on==i
 |none=>true
section
variable {P:Program} {ops:Array Oper} {Q:Exit→Act→World→Prop} {S1 S2:World→Prop} {W:List Nat}
def Qmt (P:Program) (ops:Array Oper) (Q:Exit→Act→World→Prop) (S1 S2:World→Prop) (W:List Nat):Nat→Array Bool→Act→World→Prop
 |0,listed,a,w=>Region.ready .any ops listed=[]∧Q .normal a w
 |fuel+1,listed,a,w=>
  (Region.ready .any ops listed=[]→Q .normal a w) ∧
  ∀ i∈Region.ready .any ops listed,wpOp P ops Q i (fun a' w'=>S1 w'∧(Qjm W (listed.setIfInBounds i true)=true→S2 w')∧Qmt P ops Q S1 S2 W fuel (listed.setIfInBounds i true) a' w') a w
theorem Qajk:∀ (fuel:Nat) (listed:Array Bool) (a:Act) (w:World),Qmt P ops Q S1 S2 W fuel listed a w→wpAny P .any ops Q fuel listed a w
 |0,_,_,_,h=>h
 |fuel+1,_,_,_,h=>⟨h.1,fun i hi=>wpOp_mono (fun a' w' h'=>Qajk fuel _ a' w' h'.2.2) (h.2 i hi)⟩
theorem Qajj:∀ (fuel:Nat) (listed:Array Bool) (a:Act) (w:World),Qjm W listed=false→wpAnyH P .any ops Q S1 fuel listed a w→Qmt P ops Q S1 S2 W fuel listed a w
 |0,_,_,_,_,h=>h
 |fuel+1,listed,a,w,hf,h=>⟨h.1,fun i hi=>wpOp_mono (fun a' w' h'=>
  have hf2:Qjm W (listed.setIfInBounds i true)=false:=by
   cases hc:Qjm W (listed.setIfInBounds i true) with
   |false=>rfl
   |true=>rw[Qye hc] at hf;cases hf
  ⟨h'.1,(fun hc=>by rw[hf2] at hc;cases hc),Qajj fuel _ a' w' hf2 h'.2⟩) (h.2 i hi)⟩
theorem Qbbd {i:Nat} {oi:Oper} {v:Value} (hi:ops[i]?=some oi) (hsel:∀ (j:Nat) (o:Oper) cs b,ops[j]?=some o→o.op ≠ .select cs b)
 (hQ:∀ c a w,Q (.panic c) (a.put oi.dst v) w→Q (.panic c) a w) (hiW:i ∉ W) (hwW:∀ j∈W,∀ o,ops[j]?=some o→∃ e∈o.after,Region.binds .any e=true∧e.on=i):
 ∀ (fuel:Nat) (listed:Array Bool) (a:Act) (w:World),
  (∀ j oj,ops[j]?=some oj→j≠i→listed.getD j true=false→(∀ e∈oj.after,Region.binds .any e=true→e.on≠i)→oi.apart ops oj=true) →
  i∈Region.ready .any ops listed→YieldsIf P ops S2 oi v a→S1 w→S2 w→Qjm W listed=true →
  Qmt P ops Q S1 S2 W fuel (listed.setIfInBounds i true) (a.put oi.dst v) w→Qmt P ops Q S1 S2 W (fuel+1) listed a w:=by
 intro fuel
 induction fuel with
 |zero=>
  intro listed a w _ hr hy hS1 hS2 hfw H;refine⟨fun h=>(by rw[h] at hr;cases hr),fun j hj=>?_⟩
  by_cases hji:j=i
  ·subst hji;exact hy.wpOp hi hS2 ⟨hS1,fun _=>hS2,H⟩
  ·have:=ready_mono hj hji;rw[H.1] at this;cases this
 |succ fuel ih=>
  intro listed a w hfree hr hy hS1 hS2 hfw H;refine⟨fun h=>(by rw[h] at hr;cases hr),fun j hj=>?_⟩
  by_cases hji:j=i
  ·subst hji;exact hy.wpOp hi hS2 ⟨hS1,fun _=>hS2,H⟩
  ·have h1:=H.2 j (ready_mono hj hji);obtain⟨hjun,oj,hoj,hall⟩:=mem_ready.1 hj;have hnot:∀ e∈oj.after,Region.binds .any e=true→e.on≠i:=fun e he hb heq=>by
    have h1:=hall e he hb;have h0:=(mem_ready.1 hr).1;rw[heq] at h1;rcases Nat.lt_or_ge i listed.size with h'|h'
    ·simp[h'] at h0 h1;rw[h0] at h1;cases h1
    ·simp[Array.getElem?_eq_none h'] at h1
   have hjW:j ∉ W:=fun hj2=>by
    obtain⟨e,he,hb,heq⟩:=hwW j hj2 oj hoj;exact hnot e he hb heq
   have hf1:=Qrr hjW hfw;have hf2:=Qrr hjW (Qrr hiW hfw);have h2:=wpOp_putIf (S:=S2) hoj (hfree j oj hoj hji hjun hnot) (fun cs b=>hsel i oi cs b hi) (fun cs b=>hsel j oj cs b hoj) hQ hy h1;have hfree':∀ k ok,ops[k]?=some ok→k≠i→(listed.setIfInBounds j true).getD k true=false →
    (∀ e∈ok.after,Region.binds .any e=true→e.on≠i)→oi.apart ops ok=true:=fun k ok hk hki hun hno=>by
    refine hfree k ok hk hki ?_ hno
    by_cases hjk:j=k
    ·subst hjk;exact hjun
    ·rw[getD_set_ne true hjk] at hun;exact hun
   refine wpOp_mono (fun a' w' h3=>⟨h3.2.1,fun _=>h3.2.2.1 hf2,ih (listed.setIfInBounds j true) a' w' hfree' (ready_mono hr (Ne.symm hji)) h3.1 h3.2.1 (h3.2.2.1 hf2) hf1 ?_⟩) h2;rw[Array.setIfInBounds_comm _ _ hji];exact h3.2.2.2
/-- The like for an operation that reads no memory: it need not wait for those of W. -/
theorem Qbbe {i:Nat} {oi:Oper} {v:Value} (hi:ops[i]?=some oi) (hsel:∀ (j:Nat) (o:Oper) cs b,ops[j]?=some o→o.op ≠ .select cs b)
 (hQ:∀ c a w,Q (.panic c) (a.put oi.dst v) w→Q (.panic c) a w) (hiW:i ∉ W):
 ∀ (fuel:Nat) (listed:Array Bool) (a:Act) (w:World),
  (∀ j oj,ops[j]?=some oj→j≠i→listed.getD j true=false→(∀ e∈oj.after,Region.binds .any e=true→e.on≠i)→oi.apart ops oj=true) →
  i∈Region.ready .any ops listed→YieldsIf P ops (fun _=>True) oi v a→S1 w→(Qjm W listed=true→S2 w) →
  Qmt P ops Q S1 S2 W fuel (listed.setIfInBounds i true) (a.put oi.dst v) w→Qmt P ops Q S1 S2 W (fuel+1) listed a w:=by
 intro fuel
 induction fuel with
 |zero=>
  intro listed a w _ hr hy hS1 hS2 H;refine⟨fun h=>(by rw[h] at hr;cases hr),fun j hj=>?_⟩
  by_cases hji:j=i
  ·subst hji;exact hy.wpOp hi trivial ⟨hS1,fun hf=>hS2 (Qye hf),H⟩
  ·have:=ready_mono hj hji;rw[H.1] at this;cases this
 |succ fuel ih=>
  intro listed a w hfree hr hy hS1 hS2 H;refine⟨fun h=>(by rw[h] at hr;cases hr),fun j hj=>?_⟩
  by_cases hji:j=i
  ·subst hji;exact hy.wpOp hi trivial ⟨hS1,fun hf=>hS2 (Qye hf),H⟩
  ·have h1:=H.2 j (ready_mono hj hji);obtain⟨hjun,oj,hoj,hall⟩:=mem_ready.1 hj;have hnot:∀ e∈oj.after,Region.binds .any e=true→e.on≠i:=fun e he hb heq=>by
    have h1:=hall e he hb;have h0:=(mem_ready.1 hr).1;rw[heq] at h1;rcases Nat.lt_or_ge i listed.size with h'|h'
    ·simp[h'] at h0 h1;rw[h0] at h1;cases h1
    ·simp[Array.getElem?_eq_none h'] at h1
   have h2:=wpOp_putIf (S:=fun _=>True) hoj (hfree j oj hoj hji hjun hnot) (fun cs b=>hsel i oi cs b hi) (fun cs b=>hsel j oj cs b hoj) hQ hy h1;have hfree':∀ k ok,ops[k]?=some ok→k≠i→(listed.setIfInBounds j true).getD k true=false →
    (∀ e∈ok.after,Region.binds .any e=true→e.on≠i)→oi.apart ops ok=true:=fun k ok hk hki hun hno=>by
    refine hfree k ok hk hki ?_ hno
    by_cases hjk:j=k
    ·subst hjk;exact hjun
    ·rw[getD_set_ne true hjk] at hun;exact hun
   refine wpOp_mono (fun a' w' h3=>⟨h3.2.1,fun hf=>h3.2.2.1 (by rw[Array.setIfInBounds_comm _ _ (Ne.symm hji)];exact Qrr hiW hf),ih (listed.setIfInBounds j true) a' w' hfree' (ready_mono hr (Ne.symm hji)) h3.1 h3.2.1 (fun hf=>h3.2.2.1 (by rw[Array.setIfInBounds_comm _ _ (Ne.symm hji)];exact Qrr hiW hf)) ?_⟩) h2;rw[Array.setIfInBounds_comm _ _ hji];exact h3.2.2.2
theorem Qbaz {i:Nat} (h:Qabo ops W i=true):i ∉ W∧∀ j∈W,∀ o,ops[j]?=some o→∃ e∈o.after,Region.binds .any e=true∧e.on=i:=by
 unfold Qabo at h;rw[Bool.and_eq_true] at h;refine⟨fun hm=>?_,fun j hj o ho=>?_⟩
 ·have:=h.1;simp[hm] at this
 ·have h2:=List.all_eq_true.1 h.2 j hj;rw[ho] at h2;obtain⟨e,he,hb⟩:=List.any_eq_true.1 h2;rw[Bool.and_eq_true] at hb;exact⟨e,Array.mem_toList_iff.1 he,hb.1,by simpa using hb.2⟩
end
section
variable {P:Program} {N B:Nat} {w0:World} {Q:Exit→Act→World→Prop} {L:List (Nat×Value)} {is js s s2 s3:List It} {ops:Array Oper} {W:List Nat} {d fuel:Nat} {v:Value} {listed:Array Bool} {o:Oper}
/-- Nothing is written yet: 's' is kept for good, 's2' till something of W comes up. -/
def QD (P:Program) (N B:Nat) (w0:World) (ops:Array Oper) (Q:Exit→Act→World→Prop) (fuel:Nat) (listed:Array Bool) (L:List (Nat×Value)) (s s2:List It) (W:List Nat) (is:List It):Prop:=
 ∀ w,Mem B w0 is w→Mem B w0 s w→Mem B w0 s2 w→∀ a,Fr N L a→Qmt P ops Q (fun w=>Mem B w0 s w) (fun w=>Mem B w0 s2 w) W fuel listed a w
abbrev KD (P:Program) (B:Nat) (w0:World) (ops:Array Oper) (Q:Exit→Act→World→Prop) (fuel:Nat) (listed:Array Bool) (s s2:List It) (W:List Nat):Act→World→Prop:=
 fun a w=>Mem B w0 s w∧(Qjm W listed=true→Mem B w0 s2 w)∧Qmt P ops Q (fun w=>Mem B w0 s w) (fun w=>Mem B w0 s2 w) W fuel listed a w
theorem rd2 {id:Nat} {l:List Oper} (n:Nat) (W:List Nat) (h0:∀ w,Mem B w0 is w→Mem B w0 s w) (h2:∀ w,Mem B w0 is w→Mem B w0 s2 w) (h:QD P N B w0 l.toArray Q n (bm n 0) L s s2 W is) (hm:P.follows .mixedOrders=true:=by kernel_rfl) (hn:l.length=n:=by rfl) (hl:Array.replicate n false=bm n 0:=by kernel_rfl):CM P N B w0 (.region id l.toArray true) Q L is:=fun w hw a ha=>
 wp_region_any hm (Qajk _ _ _ _ (by
  have:=h _ hw.drew (h0 _ hw.drew) (h2 _ hw.drew) a ha;rw[← hl] at this;subst hn
  simpa using this))
theorem qtD (n i m:Nat) (hi:ops[i]?=some o) (hv:∀ w,Mem B w0 s2 w→RV P L o w v w) (h:QD P N B w0 ops Q fuel (bm n m) ((d,v)::L) s s2 W is) (hl:listed.setIfInBounds i true=bm n m:=by kernel_rfl) (hs:Region.noSelect ops=true:=by kernel_rfl) (hf:Region.free .any ops listed i=true:=by kernel_rfl)
 (hr:(Region.ready .any ops listed).contains i=true:=by kernel_rfl) (hw:Qabo ops W i=true:=by kernel_rfl) (hfw:Qjm W listed=true:=by kernel_rfl) (hQ:∀ c a w,Q (.panic c) (a.put (some d) v) w→Q (.panic c) a w:=by exact fun _ _ _ h=>h) (hg:o.guard=none:=by rfl) (hd:o.dst=some d:=by rfl) (hN:d<N:=by decide):QD P N B w0 ops Q (fuel+1) listed L s s2 W is:=fun w hm hm1 hm2 a ha=>by
 obtain⟨k1,k2⟩:=Qbaz hw;have h3:=h w hm hm1 hm2 _ (ha.put hN v);rw[← hl] at h3;exact Qbbd hi (Region.noSelect_spec hs) (fun c a w hq=>hQ c a w (by rw[← hd];exact hq)) k1 k2 fuel listed a w (Region.free_spec hi hf) (by simpa using hr) (.inl ⟨Qf hg N a ha,fun w hS=>hv w hS N a ha⟩) hm1 hm2 hfw (by rw[hd];exact h3)
theorem qtP (n i m:Nat) (hi:ops[i]?=some o) (hv:∀ w,RV P L o w v w) (h:QD P N B w0 ops Q fuel (bm n m) ((d,v)::L) s s2 W is) (hl:listed.setIfInBounds i true=bm n m:=by kernel_rfl) (hs:Region.noSelect ops=true:=by kernel_rfl) (hf:Region.free .any ops listed i=true:=by kernel_rfl)
 (hr:(Region.ready .any ops listed).contains i=true:=by kernel_rfl) (hw:W.contains i=false:=by kernel_rfl) (hQ:∀ c a w,Q (.panic c) (a.put (some d) v) w→Q (.panic c) a w:=by exact fun _ _ _ h=>h) (hg:o.guard=none:=by rfl) (hd:o.dst=some d:=by rfl) (hN:d<N:=by decide):QD P N B w0 ops Q (fuel+1) listed L s s2 W is:=fun w hm hm1 hm2 a ha=>by
 have h3:=h w hm hm1 hm2 _ (ha.put hN v);rw[← hl] at h3;exact Qbbe hi (Region.noSelect_spec hs) (fun c a w hq=>hQ c a w (by rw[← hd];exact hq)) (fun hm=>by simp[hm] at hw) fuel listed a w (Region.free_spec hi hf) (by simpa using hr) (.inl ⟨Qf hg N a ha,fun w _=>hv w N a ha⟩) hm1 (fun _=>hm2) (by rw[hd];exact h3)
def QDs (P:Program) (N B:Nat) (w0:World) (ops:Array Oper) (Q:Exit→Act→World→Prop) (fuel:Nat) (listed:Array Bool) (L:List (Nat×Value)) (s s2:List It) (W:List Nat) (is:List It) (rs:List Nat):Prop:=
 ∀ w,Mem B w0 is w→Mem B w0 s w→Mem B w0 s2 w→∀ a,Fr N L a→∀ i∈rs,wpOp P ops Q i (KD P B w0 ops Q fuel (listed.setIfInBounds i true) s s2 W) a w
theorem qaD (rs:List Nat) (h:QDs P N B w0 ops Q fuel listed L s s2 W is rs) (hr:Region.ready .any ops listed=rs:=by kernel_rfl) (hne:rs≠[]:=by decide):QD P N B w0 ops Q (fuel+1) listed L s s2 W is:=fun w hm hm1 hm2 a ha=>
 ⟨fun h0=>absurd (hr ▸ h0) hne,fun i hi=>h w hm hm1 hm2 a ha i (hr ▸ hi)⟩
theorem Qff:QDs P N B w0 ops Q fuel listed L s s2 W is []:=fun _ _ _ _ _ _ _ h=>by cases h
theorem qcD (n m:Nat) {i:Nat} {rs:List Nat} (hi:ops[i]?=some o) (h:WM P N B w0 ops (Exit.then (KD P B w0 ops Q fuel (bm n m) s s2 W) Q) [o] L is) (hs:QDs P N B w0 ops Q fuel listed L s s2 W is rs) (hl:listed.setIfInBounds i true=bm n m:=by kernel_rfl):QDs P N B w0 ops Q fuel listed L s s2 W is (i::rs):=fun w hm hm1 hm2 a ha j hj=>by
 rcases List.mem_cons.1 hj with rfl|hj
 case inr=>exact hs w hm hm1 hm2 a ha j hj
 rw[hl];have h1:=h w hm a ha;unfold wpOp;rw[hi];unfold wpList at h1;dsimp only
 by_cases hwt:Region.wanted o (yielded ops a.tmps)=true
 ·rw[if_pos hwt] at h1 ⊢;rcases h1 with h1|⟨h1,h2⟩
  ·left
   unfold Oper.wp at h1 ⊢;generalize (execOp a.eval o).run P w=r at h1 ⊢;cases r with
   |ok n w'=>
    cases n <;>simp only[Oper.upon] at h1 ⊢ <;>
     first
      |exact h1
      |exact Calls.mono h1 (fun e w'' he=>by cases e <;>first|exact he|exact(by obtain⟨a',w',hh⟩:=he;exact⟨a',w',hh⟩))
      |exact Rows.mono h1 (fun _ _ he=>he)
   |halt x w'=>cases x <;>simp only[Oper.upon] at h1 ⊢ <;>exact h1
  ·right
   obtain⟨a',w',hh⟩:=h2;exact⟨h1,a',w',hh⟩
 ·rw[if_neg hwt] at h1 ⊢;exact h1
theorem qoD (n i m:Nat) (hi:ops[i]?=some o) (h:WM P N B w0 ops (Exit.then (KD P B w0 ops Q fuel (bm n m) s s2 W) Q) [o] L is) (hl:listed.setIfInBounds i true=bm n m:=by kernel_rfl) (hr:Region.ready .any ops listed=[i]:=by kernel_rfl):QD P N B w0 ops Q (fuel+1) listed L s s2 W is:=qaD [i] (qcD n m hi h Qff hl) hr (by simp)
theorem qnD (h0:∀ w,Mem B w0 js w→Mem B w0 s w) (h2:∀ w,Mem B w0 js w→Mem B w0 s2 w) (h:QD P N B w0 ops Q fuel listed L s s2 W js):WM P N B w0 ops (Exit.then (KD P B w0 ops Q fuel listed s s2 W) Q) [] L js:=Qai fun w hm a ha=>⟨h0 w hm,fun _=>h2 w hm,h w hm (h0 w hm) (h2 w hm) a ha⟩
theorem qxD (h0:∀ w,Mem B w0 js w→Mem B w0 s w) (h:QB P N B w0 ops Q fuel listed L s js) (hf:Qjm W listed=false:=by kernel_rfl):WM P N B w0 ops (Exit.then (KD P B w0 ops Q fuel listed s s2 W) Q) [] L js:=Qai fun w hm a ha=>⟨h0 w hm,fun hc=>(by rw[hf] at hc;cases hc),Qajj _ _ _ _ hf (h w hm (h0 w hm) a ha)⟩
theorem Qlc {σ:Type} (s3:σ→List It) (n m k:Nat) (Lf:σ→List (Nat×Value)) (If:σ→List It) (hH:∀ x:σ,QD P N B w0 ops Q k (bm n m) (Lf x) s (s3 x) W (If x)) (h:(∀ x:σ,QD P N B w0 ops Q k (bm n m) (Lf x) s (s3 x) W (If x))→QD P N B w0 ops Q fuel listed L s s2 W is):QD P N B w0 ops Q fuel listed L s s2 W is:=h hH
theorem Qdv {L':List (Nat×Value)} (hs:Qgt L' L) (hi:∀ w,Mem B w0 is w→Mem B w0 js w) (h:QD P N B w0 ops Q fuel listed L' s s2 W js):QD P N B w0 ops Q fuel listed L s s2 W is:=fun w hm h1 h2 a ha=>h w (hi w hm) h1 h2 a (ha.sub hs)
theorem Qih {α:Type} {E:Ty α} {e:TypeId} {A:Option Addr} {m c:Nat} {xs:List α} {n:Nat} (hi:is[n]?=some (Qh (tSl E e) [.slice A m c] xs)) (h:xs.length=m→m≤9223372036854775807→QD P N B w0 ops Q fuel listed L s s2 W is):QD P N B w0 ops Q fuel listed L s s2 W is:=fun w hm=>by
 obtain⟨hl,A',c',hv,_⟩:=hm.rdSI hi;cases hv
 exact h rfl hl w hm
end
end Go.Proofs.YtdlminfjdodjoaaGreat
