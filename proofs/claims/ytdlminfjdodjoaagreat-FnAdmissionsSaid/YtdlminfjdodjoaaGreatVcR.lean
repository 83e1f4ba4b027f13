/-
  A part of a call that is walked over a memory of its own: all that the call owns at its start is as what came in.
-/
import Derived.Test.YtdlminfjdodjoaaGreatVcQ
namespace Go.Proofs.YtdlminfjdodjoaaGreat
set_option linter.unusedVariables false
set_option linter.unusedSimpArgs false
open Go.RowKit
section
variable {P:Program} {N B:Nat} {w0:World} {Q:Exit->Act->World->Prop} {L:List (Nat×Value)} {is js:List It}
theorem tM {c:Code} (h:∀ W,Mem B w0 is W->CM P N W.heap.size W c Q L []):CM P N B w0 c Q L is:=fun w hw=>h w hw w (Mem.start w)
theorem vI {e:Exit} {W:World} (hW:Mem B w0 is W) (h:QM N B w0 Q e L (js++is)):QM N W.heap.size W Q e L js:=fun w hw=>h w (hW.call hw)
end
theorem yY {w0:World} {p B:Nat} {cs:List Value} {α:Type} {T:Ty α} {x:α} (h:Nw T w0 B p cs x) {B':Nat} {w0' w:World} {is:List It} (hB:B'=B) (hw:w0'=w0) (a:Mem B' w0' is w):∀ o u,cs[o]?=some u->w.cell? ((⟨p,0,none⟩:Addr).add o)=some u:=fun _ _ hu=>fG h hB hw a hu
theorem bQ {α:Type} {E:Ty α} {w:World} {B n c:Nat} {A:Option Addr} {xs:List α} (h:ce E w B (.slice A n c) xs):Od E w B A c xs:=by
 obtain⟨_,A',c',e,q⟩:=h;cases e
 exact q
/-! a literal whose elements are slices -/
theorem Bn {α:Type} {T:Ty α}:∀ w L,Sep [] w L->Els T w L [] []:=fun _ _ h=>⟨h,rfl⟩
theorem bG {α:Type} {T:Ty α} {v:Value} {x:α} {vs:List Value} {xs:List α} {is:List It} (h:∀ w L,Sep is w L->Els T w L vs xs):∀ w L,Sep (Qg T [v] x::is) w L->Els T w L (v::vs) (x::xs):=fun w _ ⟨L1,a,e,b,c⟩=>⟨L1,a,[v],vs,e,rfl,b,h w a c⟩
theorem Eh {α:Type} {E:Ty α} {e p n:Nat} {cs:List Value} {xs:List α} {eis:List It} (hf:∀ w L,Sep eis w L->Els E w L cs xs) (hn:n=xs.length:=by rfl) (c:n<=maxLen:=by decide):∀ w L,Sep (Qa p e cs::eis) w L->(ab E e).own w L [.slice (some ⟨p,0,none⟩) n n] xs:=by
 rintro w L ⟨L1,a,rfl,⟨rfl,hb⟩,b⟩;subst hn;have hl:=(hf w a b).len;exact⟨_,rfl,cs,a,rfl,⟨hl, .inr ⟨p,xs.length,cs.toArray,rfl,Nat.zero_le _,hb,Nat.le_refl _,c,by simpa using hl,by simp[List.take_of_length_le (Nat.le_of_eq hl)]⟩⟩,hf w a b⟩
end Go.Proofs.YtdlminfjdodjoaaGreat
