/-
  The stable sort of the library as plain functions over lists: its result is in order,and holds the same elements.
-/
import Derived.Test.YtdlminfjdodjoaaGreatVcP
namespace Go.Proofs.YtdlminfjdodjoaaGreat
set_option linter.unusedVariables false
set_option linter.unusedSimpArgs false
open Go.RowKit
section
variable {α:Type} [Inhabited α]
def sw (xs:List α) (i j:Nat):List α:=(xs.set i (gt xs j)).set j (gt xs i)
theorem Jq {xs:List α} {i j:Nat}:(sw xs i j).length=xs.length:=by simp[sw]
theorem lF {xs:List α} {i j:Nat} (hi:i<xs.length) (hj:j<xs.length) (k:Nat):gt (sw xs i j) k=if k=j then gt xs i else if k=i then gt xs j else gt xs k:=by
 unfold sw
 by_cases a:k=j
 ·subst a;rw[Mq (by simpa using hj),if_pos rfl]
 ·rw[mN (fun h=>a h.symm),if_neg a]
  by_cases b:k=i
  ·subst b;rw[Mq hi,if_pos rfl]
  ·rw[mN (fun h=>b h.symm),if_neg b]
theorem Jr {xs:List α} {i j:Nat} (hi:i<xs.length) (hj:j<xs.length):(sw xs i j).Perm xs:=by
 unfold sw;rw[gj hi,gj hj];exact List.set_set_perm hi hj
/-- The same elements,rearranged within [a,b). -/
structure RP (a b:Nat) (xs ys:List α):Prop where
 len:ys.length=xs.length
 perm:ys.Perm xs
 out:∀ k,k<a∨b<=k->gt ys k=gt xs k
 inn:∀ k,a<=k->k<b->∃ k',a<=k'∧k'<b∧gt ys k=gt xs k'
theorem RP.refl {a b:Nat} (xs:List α):RP a b xs xs:=⟨rfl, .refl _,fun _ _=>rfl,fun k c d=>⟨k,c,d,rfl⟩⟩
theorem RP.trans {a b:Nat} {xs ys zs:List α} (h:RP a b xs ys) (g:RP a b ys zs):RP a b xs zs:=
 ⟨g.len.trans h.len,g.perm.trans h.perm,fun k hk=>(g.out k hk).trans (h.out k hk),fun k l m=>by
  obtain⟨n,c,e,i⟩:=g.inn k l m;obtain⟨k2,d,f,j⟩:=h.inn n c e
  exact⟨k2,d,f,i.trans j⟩⟩
theorem RP.mono {a b a' b':Nat} {xs ys:List α} (h:RP a b xs ys) (ha:a'<=a) (hb:b<=b'):RP a' b' xs ys:=
 ⟨h.len,h.perm,fun k hk=>h.out k (by omega),fun k d e=>by
  by_cases hk:a<=k∧k<b
  ·obtain⟨f,_,_,c⟩:=h.inn k hk.1 hk.2;exact⟨f,by omega,by omega,c⟩
  ·exact⟨k,d,e,h.out k (by omega)⟩⟩
theorem RP.sw {a b i j:Nat} {xs:List α} (ha:a<=i∧i<b) (hb:a<=j∧j<b) (hl:b<=xs.length):RP a b xs (sw xs i j):=
 ⟨Jq,Jr (by omega) (by omega),fun k hk=>by rw[lF (by omega) (by omega),if_neg (by omega),if_neg (by omega)],fun k e f=>by
  rw[lF (by omega) (by omega)]
  by_cases c:k=j
  ·exact⟨i,ha.1,ha.2,by rw[if_pos c]⟩
  ·by_cases d:k=i
   ·exact⟨j,hb.1,hb.2,by rw[if_neg c,if_pos d]⟩
   ·exact⟨k,e,f,by rw[if_neg c,if_neg d]⟩⟩
variable (lt:α->α->Bool)
/-- What is asked of the comparison. -/
structure Of:Prop where
 asym:∀ x y,lt x y=true->lt y x=false
 tr:∀ x y z,lt y x=false->lt z y=false->lt z x=false
/-- [a,b) is in order. -/
def SR (a b:Nat) (xs:List α):Prop:=∀ i j,a<=i->i<j->j<b->lt (gt xs j) (gt xs i)=false
variable {lt}
def oC (p:Nat->Bool):Nat->Nat->Nat->Nat
 |0,i,_=>i
 |f+1,i,j=>cond (decide (i<j)) (cond (p ((i+j) / 2)) (oC p f ((i+j) / 2+1) j) (oC p f i ((i+j) / 2))) i
def Oc:Nat->Nat->List α->List α
 |0,_,xs=>xs
 |n+1,k,xs=>Oc n (k+1) (sw xs k (k+1))
def Ob:Nat->Nat->List α->List α
 |0,_,xs=>xs
 |n+1,k,xs=>Ob n (k-1) (sw xs k (k-1))
def sX:Nat->Nat->Nat->List α->List α
 |0,_,_,xs=>xs
 |n+1,a,b,xs=>sX n (a+1) (b+1) (sw xs a b)
def Nx:Nat->Nat->Nat->Nat->List α->List α
 |0,_,_,_,xs=>xs
 |f+1,m,i,j,xs=>cond (decide (i=j)) (sX i (m-i) m xs) (cond (decide (j<i)) (Nx f m (i-j) j (sX j (m-i) m xs)) (Nx f m i (j-i) (sX i (m-i) (m+j-i) xs)))
variable (lt)
def symm:Nat->Nat->Nat->Nat->List α->List α
 |0,_,_,_,xs=>xs
 |f+1,a,m,b,xs=>
  cond (decide (m-a=1)) (Oc (oC (fun h=>lt (gt xs h) (gt xs a)) (b-m) m b-1-a) a xs)
  (cond (decide (b-m=1)) (Ob (m-oC (fun h=> !lt (gt xs m) (gt xs h)) (m-a) a m) m xs)
  (let mid:=(a+b) / 2
   let n:=mid+m;let e:=cond (decide (mid<m)) (n-b) a;let d:=cond (decide (mid<m)) mid m;let st:=oC (fun c=> !lt (gt xs (n-1-c)) (gt xs c)) (d-e) e d;let en:=n-st;let g:=cond (decide (st<m) && decide (m<en)) (Nx (en-st) m (m-st) (en-m) xs) xs;let i:=cond (decide (a<st) && decide (st<mid)) (symm f a st mid g) g
   cond (decide (mid<en) && decide (en<b)) (symm f mid en b i) i))
variable {lt}
theorem SR.le (o:Of lt) {a b:Nat} {xs:List α} (h:SR lt a b xs) {i j:Nat} (d:a<=i) (g:i<=j) (f:j<b):lt (gt xs j) (gt xs i)=false:=by
 by_cases e:i=j
 ·subst e;cases c:lt (gt xs i) (gt xs i) with
  |false=>rfl
  |true=>exact(o.asym _ _ c).symm.trans c ▸ rfl
 ·exact h i j d (by omega) f
theorem SR.mono {a b a' b':Nat} {xs:List α} (h:SR lt a b xs) (c:a<=a') (d:b'<=b):SR lt a' b' xs:=fun i j hi hj hb=>h i j (by omega) hj (by omega)
theorem SR.same {a b c d:Nat} {xs ys:List α} (h:SR lt a b xs) (r:RP c d xs ys) (hd:b<=c∨d<=a):SR lt a b ys:=fun i j hi hj hb=>by
 rw[r.out i (by omega),r.out j (by omega)];exact h i j hi hj hb
variable (lt)
variable {lt}
theorem SR.one {a b:Nat} {xs:List α} (h:b<=a+1):SR lt a b xs:=fun i j _ _ _=>by omega
end
end Go.Proofs.YtdlminfjdodjoaaGreat
