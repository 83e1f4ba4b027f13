/-
  The stable sort of the library as plain functions over lists: its result is in order,and holds the same elements.
-/
import Derived.Test.YtdlminfjdodjoaaGreatVcP
namespace Go.Proofs.YtdlminfjdodjoaaGreat
open Go.RowKit
section
variable {α:Type} [Inhabited α]
def sw (xs:List α) (i j:Nat):List α:=(xs.set i (gt xs j)).set j (gt xs i)
theorem Qbad {xs:List α} {i j:Nat}:(sw xs i j).length=xs.length:=by simp[sw]
theorem Qaiv {xs:List α} {i j:Nat} (hi:i<xs.length) (hj:j<xs.length) (k:Nat):gt (sw xs i j) k=if k=j then gt xs i else if k=i then gt xs j else gt xs k:=by
 unfold sw
 by_cases h1:k=j
 ·subst h1;rw[Qyg (by simpa using hj),if_pos rfl]
 ·rw[Qrs (fun h=>h1 h.symm),if_neg h1]
  by_cases h2:k=i
  ·subst h2;rw[Qyg hi,if_pos rfl]
  ·rw[Qrs (fun h=>h2 h.symm),if_neg h2]
theorem Qbae {xs:List α} {i j:Nat} (hi:i<xs.length) (hj:j<xs.length):(sw xs i j).Perm xs:=by
 unfold sw;rw[Qdl hi,Qdl hj];exact List.set_set_perm hi hj
/-- The same elements,rearranged within [a,b). -/
structure RP (a b:Nat) (xs ys:List α):Prop where
 len:ys.length=xs.length
 perm:ys.Perm xs
 out:∀ k,k<a∨b≤k→gt ys k=gt xs k
 inn:∀ k,a≤k→k<b→∃ k',a≤k'∧k'<b∧gt ys k=gt xs k'
theorem RP.refl {a b:Nat} (xs:List α):RP a b xs xs:=⟨rfl, .refl _,fun _ _=>rfl,fun k h1 h2=>⟨k,h1,h2,rfl⟩⟩
theorem RP.trans {a b:Nat} {xs ys zs:List α} (h:RP a b xs ys) (g:RP a b ys zs):RP a b xs zs:=
 ⟨g.len.trans h.len,g.perm.trans h.perm,fun k hk=>(g.out k hk).trans (h.out k hk),fun k h1 h2=>by
  obtain⟨k1,a1,b1,e1⟩:=g.inn k h1 h2;obtain⟨k2,a2,b2,e2⟩:=h.inn k1 a1 b1
  exact⟨k2,a2,b2,e1.trans e2⟩⟩
theorem RP.mono {a b a' b':Nat} {xs ys:List α} (h:RP a b xs ys) (ha:a'≤a) (hb:b≤b'):RP a' b' xs ys:=
 ⟨h.len,h.perm,fun k hk=>h.out k (by omega),fun k h1 h2=>by
  by_cases hk:a≤k∧k<b
  ·obtain⟨k1,a1,b1,e1⟩:=h.inn k hk.1 hk.2;exact⟨k1,by omega,by omega,e1⟩
  ·exact⟨k,h1,h2,h.out k (by omega)⟩⟩
theorem RP.sw {a b i j:Nat} {xs:List α} (ha:a≤i∧i<b) (hb:a≤j∧j<b) (hl:b≤xs.length):RP a b xs (sw xs i j):=
 ⟨Qbad,Qbae (by omega) (by omega),fun k hk=>by rw[Qaiv (by omega) (by omega),if_neg (by omega),if_neg (by omega)],fun k h1 h2=>by
  rw[Qaiv (by omega) (by omega)]
  by_cases e1:k=j
  ·exact⟨i,ha.1,ha.2,by rw[if_pos e1]⟩
  ·by_cases e2:k=i
   ·exact⟨j,hb.1,hb.2,by rw[if_neg e1,if_pos e2]⟩
   ·exact⟨k,h1,h2,by rw[if_neg e1,if_neg e2]⟩⟩
variable (lt:α→α→Bool)
/-- What is asked of the comparison. -/
structure Ord:Prop where
 asym:∀ x y,lt x y=true→lt y x=false
 tr:∀ x y z,lt y x=false→lt z y=false→lt z x=false
/-- [a,b) is in order. -/
def SR (a b:Nat) (xs:List α):Prop:=∀ i j,a≤i→i<j→j<b→lt (gt xs j) (gt xs i)=false
variable {lt}
def bsr (p:Nat→Bool):Nat→Nat→Nat→Nat
 |0,i,_=>i
 |f+1,i,j=>cond (decide (i<j)) (cond (p ((i+j) / 2)) (bsr p f ((i+j) / 2+1) j) (bsr p f i ((i+j) / 2))) i
def mvU:Nat→Nat→List α→List α
 |0,_,xs=>xs
 |n+1,k,xs=>mvU n (k+1) (sw xs k (k+1))
def mvD:Nat→Nat→List α→List α
 |0,_,xs=>xs
 |n+1,k,xs=>mvD n (k-1) (sw xs k (k-1))
def swr:Nat→Nat→Nat→List α→List α
 |0,_,_,xs=>xs
 |n+1,a,b,xs=>swr n (a+1) (b+1) (sw xs a b)
def rot:Nat→Nat→Nat→Nat→List α→List α
 |0,_,_,_,xs=>xs
 |f+1,m,i,j,xs=>cond (decide (i=j)) (swr i (m-i) m xs) (cond (decide (j<i)) (rot f m (i-j) j (swr j (m-i) m xs)) (rot f m i (j-i) (swr i (m-i) (m+j-i) xs)))
variable (lt)
def symm:Nat→Nat→Nat→Nat→List α→List α
 |0,_,_,_,xs=>xs
 |f+1,a,m,b,xs=>
  cond (decide (m-a=1)) (mvU (bsr (fun h=>lt (gt xs h) (gt xs a)) (b-m) m b-1-a) a xs)
  (cond (decide (b-m=1)) (mvD (m-bsr (fun h=> !lt (gt xs m) (gt xs h)) (m-a) a m) m xs)
  (let mid:=(a+b) / 2
   let n:=mid+m;let s0:=cond (decide (mid<m)) (n-b) a;let r0:=cond (decide (mid<m)) mid m;let st:=bsr (fun c=> !lt (gt xs (n-1-c)) (gt xs c)) (r0-s0) s0 r0;let en:=n-st;let x1:=cond (decide (st<m) && decide (m<en)) (rot (en-st) m (m-st) (en-m) xs) xs;let x2:=cond (decide (a<st) && decide (st<mid)) (symm f a st mid x1) x1
   cond (decide (mid<en) && decide (en<b)) (symm f mid en b x2) x2))
variable {lt}
theorem SR.le (o:Ord lt) {a b:Nat} {xs:List α} (h:SR lt a b xs) {i j:Nat} (h1:a≤i) (h2:i≤j) (h3:j<b):lt (gt xs j) (gt xs i)=false:=by
 by_cases e:i=j
 ·subst e;cases h4:lt (gt xs i) (gt xs i) with
  |false=>rfl
  |true=>exact(o.asym _ _ h4).symm.trans h4 ▸ rfl
 ·exact h i j h1 (by omega) h3
theorem SR.mono {a b a' b':Nat} {xs:List α} (h:SR lt a b xs) (h1:a≤a') (h2:b'≤b):SR lt a' b' xs:=fun i j hi hj hb=>h i j (by omega) hj (by omega)
theorem SR.same {a b c d:Nat} {xs ys:List α} (h:SR lt a b xs) (r:RP c d xs ys) (hd:b≤c∨d≤a):SR lt a b ys:=fun i j hi hj hb=>by
 rw[r.out i (by omega),r.out j (by omega)];exact h i j hi hj hb
variable (lt)
variable {lt}
theorem SR.one {a b:Nat} {xs:List α} (h:b≤a+1):SR lt a b xs:=fun i j _ _ _=>by omega
end
end Go.Proofs.YtdlminfjdodjoaaGreat
