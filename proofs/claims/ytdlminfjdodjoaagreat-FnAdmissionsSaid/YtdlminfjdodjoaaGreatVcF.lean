/-
  A region that draws its order and holds operations that change memory: walked in the order of the text. Reads are taken first;what changes memory is met when it alone may come up;what is known of the memory grows on the way.
-/
import Derived.Test.YtdlminfjdodjoaaGreatVcE
import Derived.Deep.RegionHeld
namespace Go.Proofs.YtdlminfjdodjoaaGreat
set_option linter.unusedVariables false
set_option linter.unusedSimpArgs false
open Go.RowKit
section
variable {P:Program} {N B:Nat} {w0:World} {Q:Exit->Act->World->Prop} {L:List (Nat×Value)} {is js s:List It} {ops:Array Oper}
/-- 's': what every world of the region keeps; 'is': what is known now. -/
def QB (P:Program) (N B:Nat) (w0:World) (ops:Array Oper) (Q:Exit->Act->World->Prop) (fuel:Nat) (listed:Array Bool) (L:List (Nat×Value)) (s is:List It):Prop:=
 ∀ w,Mem B w0 is w->Mem B w0 s w->∀ a,Fr N L a->wpAnyH P .any ops Q (fun w=>Mem B w0 s w) fuel listed a w
theorem tP {id n:Nat} {l:List Oper} {listed:Array Bool} (c:P.follows .mixedOrders=true) (hn:l.length=n) (hl:Array.replicate n false=listed) (b:∀ w,Mem B w0 is w->Mem B w0 s w) (h:QB P N B w0 l.toArray Q n listed L s is):CM P N B w0 (.region id l.toArray true) Q L is:=fun w hw a ha=>
 wp_region_held_drew (S:=fun w=>Mem B w0 s w) c (b _ hw.drew) fun hS=>by
  have:=h _ hw.drew hS a ha;subst hn;subst hl
  simpa using this
theorem vH {fuel:Nat} {listed listed':Array Bool} (i:Nat) {o:Oper} {d:Nat} {v:Value} (hl:listed.setIfInBounds i true=listed') (hi:ops[i]?=some o) (f:Region.noSelect ops=true) (hf:Region.free .any ops listed i=true) (hr:(Region.ready .any ops listed).contains i=true)
 (hQ:∀ c a w,Q (.panic c) (a.put (some d) v) w->Q (.panic c) a w) (hv:∀ w,Mem B w0 s w->RV P L o w v w) (hw:Wd ops L o true) (hd:o.dst=some d) (hN:d<N)
 (h:QB P N B w0 ops Q fuel listed' ((d,v)::L) s is):QB P N B w0 ops Q (fuel+1) listed L s is:=fun w e b a ha=>by
 subst hl;refine wpAnyH_take hi f hf hr (fun c a w hq=>hQ c a w (by rw[<- hd];exact hq)) (.inl ⟨hw N a ha,fun w hS=>hv w hS N a ha⟩) b ?_;rw[hd];exact h w e b _ (ha.put hN v)
/-- Each of some operations comes up next. -/
def vj (P:Program) (N B:Nat) (w0:World) (ops:Array Oper) (Q:Exit->Act->World->Prop) (fuel:Nat) (listed:Array Bool) (L:List (Nat×Value)) (s is:List It) (rs:List Nat):Prop:=
 ∀ w,Mem B w0 is w->Mem B w0 s w->∀ a,Fr N L a->∀ i∈rs,wpOp P ops Q i (fun a' w'=>Mem B w0 s w'∧wpAnyH P .any ops Q (fun w=>Mem B w0 s w) fuel (listed.setIfInBounds i true) a' w') a w
theorem dU {fuel:Nat} {listed:Array Bool} (rs:List Nat) (hr:Region.ready .any ops listed=rs) (hne:rs≠[]) (h:vj P N B w0 ops Q fuel listed L s is rs):QB P N B w0 ops Q (fuel+1) listed L s is:=fun w c b a ha=>
 wpAnyH_all hr hne (h w c b a ha)
theorem oW {fuel:Nat} {listed:Array Bool}:vj P N B w0 ops Q fuel listed L s is []:=fun _ _ _ _ _ _ h=>by cases h
theorem dV {fuel:Nat} {listed listed':Array Bool} {i:Nat} {rs:List Nat} {o:Oper} (hl:listed.setIfInBounds i true=listed') (hi:ops[i]?=some o)
 (h:WM P N B w0 ops (Exit.then (fun a w=>Mem B w0 s w∧wpAnyH P .any ops Q (fun w=>Mem B w0 s w) fuel listed' a w) Q) [o] L is) (g:vj P N B w0 ops Q fuel listed L s is rs):vj P N B w0 ops Q fuel listed L s is (i::rs):=fun w d c a ha j hj=>by
 rcases List.mem_cons.1 hj with rfl|hj
 case inr=>exact g w d c a ha j hj
 subst hl;have b:=h w d a ha;unfold wpOp;rw[hi];unfold wpList at b;dsimp only
 by_cases hwt:Region.wanted o (yielded ops a.tmps)=true
 ·rw[if_pos hwt] at b ⊢;rcases b with b|⟨b,f⟩
  ·left
   unfold Oper.wp at b ⊢;generalize (execOp a.eval o).run P w=r at b ⊢;cases r with
   |ok n w'=>
    cases n <;>simp only[Oper.upon] at b ⊢ <;>
     first
      |exact b
      |exact Calls.mono b (fun e w'' he=>by cases e <;>first|exact he|exact(by obtain⟨a',w',hh⟩:=he;exact⟨a',w',hh⟩))
      |exact Rows.mono b (fun _ _ he=>he)
   |halt x w'=>cases x <;>simp only[Oper.upon] at b ⊢ <;>exact b
  ·right
   obtain⟨a',w',hh⟩:=f;exact⟨b,a',w',hh⟩
 ·rw[if_neg hwt] at b ⊢;exact b
theorem vG {fuel:Nat} {listed listed':Array Bool} (i:Nat) {o:Oper} (hl:listed.setIfInBounds i true=listed') (hi:ops[i]?=some o) (hr:Region.ready .any ops listed=[i])
 (h:WM P N B w0 ops (Exit.then (fun a w=>Mem B w0 s w∧wpAnyH P .any ops Q (fun w=>Mem B w0 s w) fuel listed' a w) Q) [o] L is):QB P N B w0 ops Q (fuel+1) listed L s is:=dU [i] hr (by simp) (dV hl hi h oW)
theorem vF {fuel:Nat} {listed:Array Bool} (c:∀ w,Mem B w0 js w->Mem B w0 s w) (h:QB P N B w0 ops Q fuel listed L s js):
 QM N B w0 (Exit.then (fun a w=>Mem B w0 s w∧wpAnyH P .any ops Q (fun w=>Mem B w0 s w) fuel listed a w) Q) .normal L js:=fun w b a ha=>⟨c w b,h w b (c w b) a ha⟩
theorem fr {listed:Array Bool} (hr:Region.ready .any ops listed=[]) (h:QM N B w0 Q .normal L is):QB P N B w0 ops Q 0 listed L s is:=fun w b _ a ha=>⟨hr,h w b a ha⟩
theorem uk {α:Type} {E:Ty α} {e:TypeId} {ex:Exit} {A:Option Addr} {m c:Nat} {xs:List α} {n:Nat} (hi:is[n]?=some (Qg (ab E e) [.slice A m c] xs)) (h:xs.length=m->m<=9223372036854775807->QM N B w0 Q ex L is):QM N B w0 Q ex L is:=fun w a=>by
 obtain⟨hl,A',c',hv,_⟩:=a.rdSI hi;cases hv
 exact h rfl hl w a
theorem qw {α:Type} {E:Ty α} {e:TypeId} {cd:Code} {A:Option Addr} {m c:Nat} {xs:List α} {n:Nat} (hi:is[n]?=some (Qg (ab E e) [.slice A m c] xs)) (hp:0<m) (h:∀ g,A=some ⟨g,0,none⟩->CM P N B w0 cd Q L is):CM P N B w0 cd Q L is:=fun w b=>by
 obtain⟨_,⟨v',ev,cells,L',rfl,hrow,_⟩,_⟩:=b.get hi;cases ev
 rcases hrow.2 with⟨a,_⟩|⟨g,cap,cur,a,_⟩
 ·cases a;omega
 ·cases a;exact h g rfl w b
theorem qr {α:Type} [Inhabited α] {E:Ty α} {e:TypeId} {cd:Code} {A:Option Addr} {n c k:Nat} {xs:List α} (hk:k<n) (hmv:∀ w,Mem B w0 is w->Mem B w0 (Qg (ab E e) [.slice A n c] xs::js) w)
 (h:∀ ck,CM P N B w0 cd Q L (Qg E ck (gt xs k)::ey E e A n c xs k ck::js)):CM P N B w0 cd Q L is:=fun w d=>by
 have hm':=hmv w d;obtain⟨_,⟨L1,a,rfl,f,g⟩,i,j⟩:=hm'.sep;obtain⟨ck,L',l,s2⟩:=gF hk f;exact h ck w ⟨d.base,d.below,L'++a,Sep.append l g,(s2.append_right a).nodup_iff.2 i,fun b hb=>j b ((s2.append_right a).mem_iff.1 hb)⟩
end
end Go.Proofs.YtdlminfjdodjoaaGreat
