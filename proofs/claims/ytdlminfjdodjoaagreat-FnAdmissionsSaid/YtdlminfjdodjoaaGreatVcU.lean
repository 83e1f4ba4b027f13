/-
  The library's stable sort as it runs: elements as rows of cells that are not looked into,with the comparison as a call that is known.
-/
import Derived.Test.YtdlminfjdodjoaaGreatVcT
import Derived.Test.YtdlminfjdodjoaaGreatVcS
namespace Go.Proofs.YtdlminfjdodjoaaGreat
set_option linter.unusedVariables false
set_option linter.unusedSimpArgs false
open Go.RowKit
/-- How the cells of an element stand for what is compared. -/
structure Ck (α:Type) where
 s:Nat
 R:List Value->α->Prop
 len:∀ {cs x},R cs x->cs.length=s
 one:∀ {cs x},R cs x->∀ u∈cs,u.oneCell'=true
def el {α:Type} (K:Ck α):Ty (List Value×α) where
 sz:=K.s
 rd:=fun _ _ cs x=>cs=x.1∧K.R x.1 x.2
 own:=fun _ L cs x=>L=[]∧cs=x.1∧K.R x.1 x.2
 rd_len:=by rintro _ _ _ _ ⟨rfl,h⟩;exact K.len h
 rd_one:=by rintro _ _ _ _ ⟨rfl,h⟩;exact K.one h
 rd_keep:=fun h _=>h
 rd_mono:=fun h _=>h
 own_keep:=fun h _=>h
 own_lt:=by rintro _ _ _ _ ⟨rfl,_⟩ b hb;cases hb
 own_rd:=fun h _=>h.2
section
variable {P:Program} {B N:Nat} {w0:World} {α:Type} [Inhabited α] {K:Ck α} {L:List (Nat×Value)} {js:List It}
theorem Mem.ck {w:World} {g n c j:Nat} {e:TypeId} {xs:List (List Value×α)} (k:Mem B w0 (Qg (ab (el K) e) [.slice (some ⟨g,0,none⟩) n c] xs::js) w) (hj:j<n):
 K.R (gt xs j).1 (gt xs j).2∧∀ o u,(gt xs j).1[o]?=some u->w.cell? (((⟨g,0,none⟩:Addr).add (j*K.s)).add o)=some u:=by
 obtain⟨v,hv,h⟩:=k.rdI (n:=0) rfl;cases hv
 obtain⟨-,A,c',hA,b⟩:=h;cases hA
 obtain⟨a,ha, -,d⟩:=b (by omega);cases ha
 obtain⟨c'',⟨rfl,f⟩,i⟩:=d j _ (er hj);exact⟨f,i⟩
end
end Go.Proofs.YtdlminfjdodjoaaGreat
