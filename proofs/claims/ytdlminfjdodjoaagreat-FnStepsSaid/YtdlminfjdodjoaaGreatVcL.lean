/-
  Plain laws of the loops that a law runs over its arguments: they copy a list,compare a list with itself,count,mark and look at the marks.
-/
import Derived.Test.YtdlminfjdodjoaaGreatVcI
namespace Go.Proofs.YtdlminfjdodjoaaGreat
open Go.RowKit
/-- A loop whose body keeps a property. -/
theorem Qmn {R S:Type} {body:Nat→S→R⊕S} {n:Nat} (J:Nat→S→Prop) (hs:∀ j s,j<n→J j s→∃ s',body j s= .inr s'∧J (j+1) s'):∀ m k s,m+k=n→J k s→∃ s',rng body m k s= .inr s'∧J n s'
 |0,k,s,e,h=>⟨s,rfl,by rw[show n=k by omega];exact h⟩
 |m+1,k,s,e,h=>by
  obtain⟨s',h1,h2⟩:=hs k s (by omega) h;obtain⟨s'',h3,h4⟩:=Qmn J hs m (k+1) s' (by omega) h2;exact⟨s'',by rw[rng,h1];exact h3,h4⟩
/-- A loop whose body keeps a property,or leaves with a value of a kind. -/
theorem Qzo {R S:Type} {body:Nat→S→R⊕S} {n:Nat} (J:Nat→S→Prop) (Q:R→Prop) (hs:∀ j s,j<n→J j s→(∃ s',body j s= .inr s'∧J (j+1) s')∨∃ r,body j s= .inl r∧Q r):∀ m k s,m+k=n→J k s→(∃ s',rng body m k s= .inr s'∧J n s')∨∃ r,rng body m k s= .inl r∧Q r
 |0,k,s,e,h=> .inl ⟨s,rfl,by rw[show n=k by omega];exact h⟩
 |m+1,k,s,e,h=>by
  rcases hs k s (by omega) h with⟨s',h1,h2⟩|⟨r,h1,h2⟩
  ·rcases Qzo J Q hs m (k+1) s' (by omega) h2 with⟨s'',h3,h4⟩|⟨r,h3,h4⟩
   ·exact .inl ⟨s'',by rw[rng,h1];exact h3,h4⟩
   ·exact .inr ⟨r,by rw[rng,h1];exact h3,h4⟩
  ·exact .inr ⟨r,by rw[rng,h1];rfl,h2⟩
/-- A loop that finds nothing. -/
theorem Qjw {R:Type} {n:Nat} {b:Nat→Unit→R⊕Unit} (hb:∀ j,j<n→b j ()= .inr ()):rng b (n-0) 0 ()= .inr ():=by
 obtain⟨s',h1,_⟩:=Qmn (body:=b) (n:=n) (fun _ _=>True) (fun j s hj _=>⟨(),hb j hj,trivial⟩) (n-0) 0 () (by omega) trivial;exact h1
/-! ### Counting -/
theorem Qdp {n:Int} (h1: -9223372036854775808≤n) (h2:n≤9223372036854775807):IntKind.i64.wrap n=n:=by
 rw[IntKind.wrap_i64];omega
/-! ### Marks -/
/-! ### From weight to smallness -/
/-! ### Marks of a function -/
structure MkF {α:Type} (m:α→Int→Int×α) (h:α→Int→Int) (w:α→Nat):Prop where
 go:∀ x k,0≤k→k+32*(w x:Int)≤4611686018427387904→k≤(m x k).1∧(m x k).1≤k+32*(w x:Int)∧h (m x k).2 k=(m x k).1
structure MkB {α:Type} (m:α→Int→Int×α) (w:α→Nat):Prop where
 go:∀ x k,0≤k→k+32*(w x:Int)≤4611686018427387904→k≤(m x k).1∧(m x k).1≤k+32*(w x:Int)
theorem MkF.b {α:Type} {m:α→Int→Int×α} {h:α→Int→Int} {w:α→Nat} (hh:MkF m h w):MkB m w:=⟨fun x k h0 h1=>⟨(hh.go x k h0 h1).1,(hh.go x k h0 h1).2.1⟩⟩
end Go.Proofs.YtdlminfjdodjoaaGreat
