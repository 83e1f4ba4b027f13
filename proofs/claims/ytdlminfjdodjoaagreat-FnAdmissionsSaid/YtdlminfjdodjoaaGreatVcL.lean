/-
  Plain laws of the loops that a law runs over its arguments: they copy a list,compare a list with itself,count,mark and look at the marks.
-/
import Derived.Test.YtdlminfjdodjoaaGreatVcI
namespace Go.Proofs.YtdlminfjdodjoaaGreat
set_option linter.unusedVariables false
set_option linter.unusedSimpArgs false
open Go.RowKit
/-- A loop whose body keeps a property. -/
theorem ux {R S:Type} {body:Nat->S->R⊕S} {n:Nat} (J:Nat->S->Prop) (a:∀ j s,j<n->J j s->∃ s',body j s= .inr s'∧J (j+1) s'):∀ m k s,m+k=n->J k s->∃ s',ax body m k s= .inr s'∧J n s'
 |0,k,s,e,h=>⟨s,rfl,by rw[show n=k by omega];exact h⟩
 |m+1,k,s,e,h=>by
  obtain⟨s',b,c⟩:=a k s (by omega) h;obtain⟨s'',d,f⟩:=ux J a m (k+1) s' (by omega) c;exact⟨s'',by rw[ax,b];exact d,f⟩
/-- A loop whose body keeps a property,or leaves with a value of a kind. -/
theorem wl {R S:Type} {body:Nat->S->R⊕S} {n:Nat} (J:Nat->S->Prop) (Q:R->Prop) (f:∀ j s,j<n->J j s->(∃ s',body j s= .inr s'∧J (j+1) s')∨∃ r,body j s= .inl r∧Q r):∀ m k s,m+k=n->J k s->(∃ s',ax body m k s= .inr s'∧J n s')∨∃ r,ax body m k s= .inl r∧Q r
 |0,k,s,e,h=> .inl ⟨s,rfl,by rw[show n=k by omega];exact h⟩
 |m+1,k,s,e,h=>by
  rcases f k s (by omega) h with⟨s',a,b⟩|⟨r,a,b⟩
  ·rcases wl J Q f m (k+1) s' (by omega) b with⟨s'',c,d⟩|⟨r,c,d⟩
   ·exact .inl ⟨s'',by rw[ax,a];exact c,d⟩
   ·exact .inr ⟨r,by rw[ax,a];exact c,d⟩
  ·exact .inr ⟨r,by rw[ax,a];rfl,b⟩
/-- A loop that finds nothing. -/
theorem sq {R:Type} {n:Nat} {b:Nat->Unit->R⊕Unit} (hb:∀ j,j<n->b j ()= .inr ()):ax b (n-0) 0 ()= .inr ():=by
 obtain⟨s',a,_⟩:=ux (body:=b) (n:=n) (fun _ _=>True) (fun j s hj _=>⟨(),hb j hj,trivial⟩) (n-0) 0 () (by omega) trivial;exact a
/-! ### Counting -/
theorem ia {n:Int} (a: -9223372036854775808<=n) (b:n<=9223372036854775807):IntKind.i64.wrap n=n:=by
 rw[IntKind.wrap_i64];omega
/-! ### Marks -/
/-! ### From weight to smallness -/
/-! ### Marks of a function -/
structure MkF {α:Type} (m:α->Int->Int×α) (h:α->Int->Int) (w:α->Nat):Prop where
 go:∀ x k,0<=k->k+32*(w x:Int)<=4611686018427387904->k<=(m x k).1∧(m x k).1<=k+32*(w x:Int)∧h (m x k).2 k=(m x k).1
structure Oe {α:Type} (m:α->Int->Int×α) (w:α->Nat):Prop where
 go:∀ x k,0<=k->k+32*(w x:Int)<=4611686018427387904->k<=(m x k).1∧(m x k).1<=k+32*(w x:Int)
theorem MkF.b {α:Type} {m:α->Int->Int×α} {h:α->Int->Int} {w:α->Nat} (hh:MkF m h w):Oe m w:=⟨fun x k a c=>⟨(hh.go x k a c).1,(hh.go x k a c).2.1⟩⟩
end Go.Proofs.YtdlminfjdodjoaaGreat
