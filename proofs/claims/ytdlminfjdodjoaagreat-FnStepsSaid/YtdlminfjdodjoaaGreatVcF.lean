/-
  A region that draws its order and holds operations that change memory: walked in the order of the text. Reads are taken first;what changes memory is met when it alone may come up;what is known of the memory grows on the way.
-/
import Derived.Test.YtdlminfjdodjoaaGreatVcE
import Derived.Deep.RegionHeld
namespace Go.Proofs.YtdlminfjdodjoaaGreat
open Go.RowKit
section
variable {P:Program} {N B:Nat} {w0:World} {Q:Exit→Act→World→Prop} {L:List (Nat×Value)} {is js s:List It} {ops:Array Oper}
/-- 's': what every world of the region keeps; 'is': what is known now. -/
def QB (P:Program) (N B:Nat) (w0:World) (ops:Array Oper) (Q:Exit→Act→World→Prop) (fuel:Nat) (listed:Array Bool) (L:List (Nat×Value)) (s is:List It):Prop:=
 ∀ w,Mem B w0 is w→Mem B w0 s w→∀ a,Fr N L a→wpAnyH P .any ops Q (fun w=>Mem B w0 s w) fuel listed a w
theorem Qajz {id n:Nat} {l:List Oper} {listed:Array Bool} (hm:P.follows .mixedOrders=true) (hn:l.length=n) (hl:Array.replicate n false=listed) (h0:∀ w,Mem B w0 is w→Mem B w0 s w) (h:QB P N B w0 l.toArray Q n listed L s is):CM P N B w0 (.region id l.toArray true) Q L is:=fun w hw a ha=>
 wp_region_held_drew (S:=fun w=>Mem B w0 s w) hm (h0 _ hw.drew) fun hS=>by
  have:=h _ hw.drew hS a ha;subst hn;subst hl
  simpa using this
theorem Qaln {fuel:Nat} {listed listed':Array Bool} (i:Nat) {o:Oper} {d:Nat} {v:Value} (hl:listed.setIfInBounds i true=listed') (hi:ops[i]?=some o) (hs:Region.noSelect ops=true) (hf:Region.free .any ops listed i=true) (hr:(Region.ready .any ops listed).contains i=true)
 (hQ:∀ c a w,Q (.panic c) (a.put (some d) v) w→Q (.panic c) a w) (hv:∀ w,Mem B w0 s w→RV P L o w v w) (hw:Wd ops L o true) (hd:o.dst=some d) (hN:d<N)
 (h:QB P N B w0 ops Q fuel listed' ((d,v)::L) s is):QB P N B w0 ops Q (fuel+1) listed L s is:=fun w hm hm0 a ha=>by
 subst hl;refine wpAnyH_take hi hs hf hr (fun c a w hq=>hQ c a w (by rw[← hd];exact hq)) (.inl ⟨hw N a ha,fun w hS=>hv w hS N a ha⟩) hm0 ?_;rw[hd];exact h w hm hm0 _ (ha.put hN v)
/-- Each of some operations comes up next. -/
def QBs (P:Program) (N B:Nat) (w0:World) (ops:Array Oper) (Q:Exit→Act→World→Prop) (fuel:Nat) (listed:Array Bool) (L:List (Nat×Value)) (s is:List It) (rs:List Nat):Prop:=
 ∀ w,Mem B w0 is w→Mem B w0 s w→∀ a,Fr N L a→∀ i∈rs,wpOp P ops Q i (fun a' w'=>Mem B w0 s w'∧wpAnyH P .any ops Q (fun w=>Mem B w0 s w) fuel (listed.setIfInBounds i true) a' w') a w
theorem Qacj {fuel:Nat} {listed:Array Bool} (rs:List Nat) (hr:Region.ready .any ops listed=rs) (hne:rs≠[]) (h:QBs P N B w0 ops Q fuel listed L s is rs):QB P N B w0 ops Q (fuel+1) listed L s is:=fun w hm hm0 a ha=>
 wpAnyH_all hr hne (h w hm hm0 a ha)
theorem Qtk {fuel:Nat} {listed:Array Bool}:QBs P N B w0 ops Q fuel listed L s is []:=fun _ _ _ _ _ _ h=>by cases h
theorem Qack {fuel:Nat} {listed listed':Array Bool} {i:Nat} {rs:List Nat} {o:Oper} (hl:listed.setIfInBounds i true=listed') (hi:ops[i]?=some o)
 (h:WM P N B w0 ops (Exit.then (fun a w=>Mem B w0 s w∧wpAnyH P .any ops Q (fun w=>Mem B w0 s w) fuel listed' a w) Q) [o] L is) (hs:QBs P N B w0 ops Q fuel listed L s is rs):QBs P N B w0 ops Q fuel listed L s is (i::rs):=fun w hm hm0 a ha j hj=>by
 rcases List.mem_cons.1 hj with rfl|hj
 case inr=>exact hs w hm hm0 a ha j hj
 subst hl;have h1:=h w hm a ha;unfold wpOp;rw[hi];unfold wpList at h1;dsimp only
 by_cases hwt:Region.wanted o (yielded ops a.tmps)=true
 ·rw[if_pos hwt] at h1 ⊢;rcases h1 with h1|⟨h1,h2⟩
  ·left
   unfold Oper.wp at h1 ⊢;generalize (execOp a.eval o).run P w=r at h1 ⊢;cases r with
   |ok n w'=>
    cases n <;>simp only[Oper.upon] at h1 ⊢ <;>
     first
      |exact h1
      |exact Calls.mono h1 (fun e w'' he=>by cases e <;>first|exact he|exact(by obtain⟨a',w',hh⟩:=he;exact⟨a',w',hh⟩))
      |exact Rows.mono h1 (fun _ _ he=>he)
   |halt x w'=>cases x <;>simp only[Oper.upon] at h1 ⊢ <;>exact h1
  ·right
   obtain⟨a',w',hh⟩:=h2;exact⟨h1,a',w',hh⟩
 ·rw[if_neg hwt] at h1 ⊢;exact h1
theorem Qalm {fuel:Nat} {listed listed':Array Bool} (i:Nat) {o:Oper} (hl:listed.setIfInBounds i true=listed') (hi:ops[i]?=some o) (hr:Region.ready .any ops listed=[i])
 (h:WM P N B w0 ops (Exit.then (fun a w=>Mem B w0 s w∧wpAnyH P .any ops Q (fun w=>Mem B w0 s w) fuel listed' a w) Q) [o] L is):QB P N B w0 ops Q (fuel+1) listed L s is:=Qacj [i] hr (by simp) (Qack hl hi h Qtk)
theorem Qall {fuel:Nat} {listed:Array Bool} (h0:∀ w,Mem B w0 js w→Mem B w0 s w) (h:QB P N B w0 ops Q fuel listed L s js):
 QM N B w0 (Exit.then (fun a w=>Mem B w0 s w∧wpAnyH P .any ops Q (fun w=>Mem B w0 s w) fuel listed a w) Q) .normal L js:=fun w hm a ha=>⟨h0 w hm,h w hm (h0 w hm) a ha⟩
theorem Qdn {listed:Array Bool} (hr:Region.ready .any ops listed=[]) (h:QM N B w0 Q .normal L is):QB P N B w0 ops Q 0 listed L s is:=fun w hm _ a ha=>⟨hr,h w hm a ha⟩
theorem Qmx {α:Type} {E:Ty α} {e:TypeId} {ex:Exit} {A:Option Addr} {m c:Nat} {xs:List α} {n:Nat} (hi:is[n]?=some (Qh (tSl E e) [.slice A m c] xs)) (h:xs.length=m→m≤9223372036854775807→QM N B w0 Q ex L is):QM N B w0 Q ex L is:=fun w hm=>by
 obtain⟨hl,A',c',hv,_⟩:=hm.rdSI hi;cases hv
 exact h rfl hl w hm
theorem Qla {α:Type} {E:Ty α} {e:TypeId} {cd:Code} {A:Option Addr} {m c:Nat} {xs:List α} {n:Nat} (hi:is[n]?=some (Qh (tSl E e) [.slice A m c] xs)) (hp:0<m) (h:∀ g,A=some ⟨g,0,none⟩→CM P N B w0 cd Q L is):CM P N B w0 cd Q L is:=fun w hm=>by
 obtain⟨_,⟨v',ev,cells,L',rfl,hrow,_⟩,_⟩:=hm.get hi;cases ev
 rcases hrow.2 with⟨h1,h0⟩|⟨g,cap,cur,h1,_⟩
 ·cases h1;omega
 ·cases h1;exact h g rfl w hm
theorem Qkb {α:Type} [Inhabited α] {E:Ty α} {e:TypeId} {cd:Code} {A:Option Addr} {n c k:Nat} {xs:List α} (hk:k<n) (hmv:∀ w,Mem B w0 is w→Mem B w0 (Qh (tSl E e) [.slice A n c] xs::js) w)
 (h:∀ ck,CM P N B w0 cd Q L (Qh E ck (gt xs k)::Qcu E e A n c xs k ck::js)):CM P N B w0 cd Q L is:=fun w hm=>by
 have hm':=hmv w hm;obtain⟨_,⟨L1,L2,rfl,h1,h2⟩,h3,h4⟩:=hm'.sep;obtain⟨ck,L',s1,s2⟩:=Qafb hk h1;exact h ck w ⟨hm.base,hm.below,L'++L2,Sep.append s1 h2,(s2.append_right L2).nodup_iff.2 h3,fun b hb=>h4 b ((s2.append_right L2).mem_iff.1 hb)⟩
end
end Go.Proofs.YtdlminfjdodjoaaGreat
