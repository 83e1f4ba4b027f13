/-
  Loops as plain functions of lists.
-/
import Derived.Test.YtdlminfjdodjoaaGreatVcL
namespace Go.Proofs.YtdlminfjdodjoaaGreat
set_option linter.unusedVariables false
set_option linter.unusedSimpArgs false
open Go.RowKit
theorem pp {α R S:Type} [Inhabited α] {xs:List α} {f:S->α->S} {b:Nat->S->R⊕S} (hb:∀ j s,j<xs.length->b j s= .inr (f s (gt xs j))) (s:S):ax b (xs.length-0) 0 s= .inr (xs.foldl f s):=by
 have h:∀ m k s,m+k=xs.length->ax b m k s= .inr ((xs.drop k).foldl f s):=by
  intro m
  induction m with
  |zero=>intro k s hk;rw[ax,List.drop_of_length_le (by omega)];rfl
  |succ m ih=>
   intro k s hk;rw[ax,hb k s (by omega),List.drop_eq_getElem_cons (by omega),List.foldl_cons];show ax b m (k+1) _=_;rw[ih (k+1) _ (by omega),gj (by omega)]
 rw[h _ 0 s (by omega),List.drop_zero]
theorem qS {α R:Type} [Inhabited α] {xs:List α} {p:α->Bool} {r:R} {b:Nat->Unit->R⊕Unit} (hb:∀ j,j<xs.length->b j ()=cond (p (gt xs j)) (.inl r) (.inr ())):ax b (xs.length-0) 0 ()=cond (xs.any p) (.inl r) (.inr ()):=by
 have h:∀ m k,m+k=xs.length->ax b m k ()=cond ((xs.drop k).any p) (.inl r) (.inr ()):=by
  intro m
  induction m with
  |zero=>intro k hk;rw[ax,List.drop_of_length_le (by omega)];rfl
  |succ m ih=>
   intro k hk;rw[ax,hb k (by omega),List.drop_eq_getElem_cons (by omega),List.any_cons, <- gj (by omega)];cases p (gt xs k) with
   |true=>rfl
   |false=>exact ih (k+1) (by omega)
 rw[h _ 0 (by omega),List.drop_zero]
theorem bS {α R:Type} [Inhabited α] {xs:List α} {p:α->Bool} {r:R} {b:Nat->Unit->R⊕Unit} (hb:∀ j,j<xs.length->b j ()=cond (p (gt xs j)) (.inr ()) (.inl r)):ax b (xs.length-0) 0 ()=cond (xs.all p) (.inr ()) (.inl r):=by
 rw[qS (p:=fun x=> !p x) (r:=r) (fun j hj=>by rw[hb j hj];cases p (gt xs j) <;>rfl)];have:xs.all p= !xs.any fun x=> !p x:=by simp[List.all_eq_not_any_not]
 rw[this];cases (xs.any fun x=> !p x) <;>rfl
theorem zk {α β:Type} (p:α->Bool) (g:α->β):∀ (xs:List α) (d:List β),xs.foldl (fun d v=>cond (p v) (d++[g v]) d) d=d++(xs.filter p).map g
 | [],d=>by simp
 |x::xs,d=>by
  rw[List.foldl_cons,zk p g xs];cases h:p x <;>simp[h]
theorem gG {α:Type} (p:α->Bool) (xs d:List α):xs.foldl (fun d v=>cond (p v) (d++[v]) d) d=d++xs.filter p:=by
 have:=zk p id xs d
 simpa using this
theorem gM {α:Type} [Inhabited α] {ys zs:List α} {x:α} {k:Nat} (h:ys.length=k):gt (ys++x::zs) k=x:=by
 subst h;unfold gt;rw[List.getD_eq_getElem?_getD,List.getElem?_append_right (Nat.le_refl _),Nat.sub_self];rfl
theorem Fg {α R:Type} [Inhabited α] {f:α->α} {xs:List α} {b:Nat->List α->R⊕List α} (hb:∀ j s,j<xs.length->gt s j=gt xs j->b j s= .inr (s.set j (f (gt xs j)))):ax b (xs.length-0) 0 xs= .inr (xs.map f):=by
 have h:∀ m k,m+k=xs.length->ax b m k ((xs.take k).map f++xs.drop k)= .inr (xs.map f):=by
  intro m
  induction m with
  |zero=>intro k hk;rw[ax,List.drop_of_length_le (by omega),List.take_of_length_le (by omega)];simp
  |succ m ih=>
   intro k hk;have hlt:k<xs.length:=by omega
   have hd:xs.drop k=gt xs k::xs.drop (k+1):=by rw[List.drop_eq_getElem_cons hlt,gj hlt]
   have hl:((xs.take k).map f).length=k:=by simp;omega
   have hg:gt ((xs.take k).map f++xs.drop k) k=gt xs k:=by
    rw[hd];exact gM hl
   rw[ax,hb k _ hlt hg];show ax b m (k+1) _=_;have a:((xs.take k).map f++xs.drop k).set k (f (gt xs k))=(xs.take (k+1)).map f++xs.drop (k+1):=by
    rw[hd,List.set_append_right _ _ (by omega),hl,Nat.sub_self,List.set_cons_zero,List.take_add_one,List.getElem?_eq_getElem hlt, <- gj hlt];simp
   rw[a,ih (k+1) (by omega)]
 have:=h (xs.length-0) 0 (by omega)
 simpa using this
/-- A loop that ends with one answer where a test fails. -/
def sx {α S:Type} (c:S->α->Bool) (f:S->α->S):List α->S->Option S
 | [],s=>some s
 |x::xs,s=>cond (c s x) (sx c f xs (f s x)) none
theorem iW {α R S:Type} [Inhabited α] {xs:List α} {r:R} {c:S->α->Bool} {f:S->α->S} {b:Nat->S->R⊕S} (hb:∀ j s,j<xs.length->b j s=cond (c s (gt xs j)) (.inr (f s (gt xs j))) (.inl r)) (s:S):
 ax b (xs.length-0) 0 s=(sx c f xs s).elim (.inl r) .inr:=by
 have h:∀ m k s,m+k=xs.length->ax b m k s=(sx c f (xs.drop k) s).elim (.inl r) .inr:=by
  intro m
  induction m with
  |zero=>intro k s hk;rw[ax,List.drop_of_length_le (by omega)];rfl
  |succ m ih=>
   intro k s hk;rw[ax,hb k s (by omega),List.drop_eq_getElem_cons (by omega),sx, <- gj (by omega)];cases c s (gt xs k) with
   |true=>exact ih (k+1) _ (by omega)
   |false=>rfl
 rw[h _ 0 s (by omega),List.drop_zero]
theorem re {R:Type} {n:Nat} {p:Nat->Bool} {r:R} {b:Nat->Unit->R⊕Unit} (hb:∀ j,j<n->b j ()=cond (p j) (.inr ()) (.inl r)):ax b (n-0) 0 ()=cond ((List.range n).all p) (.inr ()) (.inl r):=by
 have h:∀ m k,m+k=n->ax b m k ()=cond ((List.range' k m).all p) (.inr ()) (.inl r):=by
  intro m
  induction m with
  |zero=>intro k hk;rfl
  |succ m ih=>
   intro k hk;rw[ax,hb k (by omega),List.range'_succ,List.all_cons];cases p k with
   |true=>exact ih (k+1) (by omega)
   |false=>rfl
 rw[h _ 0 (by omega),List.range_eq_range'];rfl
/-- Ways of saying a test. -/
theorem bE (b x:Bool):cond b x false=(b && x):=by cases b <;>rfl
theorem Mj (b x:Bool):cond b false x=(!b && x):=by cases b <;>rfl
theorem pU (b x:Bool):Sum.elim id (fun(_:Unit)=>x) (cond b (.inr ()) (.inl false))=(b && x):=by cases b <;>rfl
theorem Ba (a b:Int):decide (a<b)= !decide (b<=a):=by
 by_cases h:a<b
 ·rw[decide_eq_true h,decide_eq_false (show ¬ b<=a by omega)];rfl
 ·rw[decide_eq_false h,decide_eq_true (show b<=a by omega)];rfl
/-- A loop that a test at its head may leave. -/
theorem wq {R S:Type} {b:Nat->S->R⊕(S⊕S)} (hb:∀ j s,b j s= .inr (.inl s)):∀ m k s,gq b m k s= .inr s
 |0,_,_=>rfl
 |m+1,k,s=>by rw[gq,hb];rfl
theorem iY {R S:Type} {b:Nat->S->R⊕S} {b':Nat->S->R⊕(S⊕S)} {n:Nat} (h:∀ j s,j<n->b' j s=Sum.elim Sum.inl (fun s=>Sum.inr (Sum.inr s)) (b j s)):∀ m k s,m+k=n->gq b' m k s=ax b m k s
 |0,_,_,_=>rfl
 |m+1,k,s,e=>by
  rw[gq,ax,h k s (by omega)];cases b k s with
  |inl r=>rfl
  |inr s'=>exact iY h m (k+1) s' (by omega)
/-- The first numbers,taken as a list. -/
theorem Fi {α R S:Type} [Inhabited α] {xs:List α} {b:Nat->S->R⊕S} {n:Nat} (hn:n<=xs.length) (s:S):ax b (n-0) 0 s=ax b ((xs.take n).length-0) 0 s:=by rw[List.length_take,Nat.min_eq_left hn]
theorem Bs {α:Type} [Inhabited α] {xs:List α} {n j:Nat} (h:j<n):gt (xs.take n) j=gt xs j:=by
 unfold gt;rw[List.getD_eq_getElem?_getD,List.getD_eq_getElem?_getD,List.getElem?_take,if_pos h]
theorem yV {a b:Int} {p:Prop} [Decidable p] (h:((a==b) !=decide p)=false):a=b↔p:=by
 by_cases c:a=b <;>by_cases d:p <;>simp_all
theorem yU {a b:Int} {p:Prop} [Decidable p] (h:(decide p==(a==b))=false):p ↔ ¬ a=b:=by
 by_cases c:a=b <;>by_cases d:p <;>simp_all
theorem sy {α:Type} {xs:List (List α)} {i:Nat} {y:List α} (h:y.length=(gt xs i).length) (j:Nat):(gt (xs.set i y) j).length=(gt xs j).length:=by
 by_cases e:i=j
 ·subst e
  by_cases hl:i<xs.length
  ·rw[Mq hl,h]
  ·rw[List.set_eq_of_length_le (by omega)]
 ·rw[mN e]
/-- A search beside the search for the place alone. -/
theorem iX {R:Type} {c:Nat->Bool} {F:Nat->R} {b:Nat->Unit->R⊕Unit} {b':Nat->Unit->Int⊕Unit} (hb:∀ j,b j ()=cond (c j) (.inl (F j)) (.inr ())) (hb':∀ j,b' j ()=cond (c j) (.inl ((j:Nat):Int)) (.inr ())):
 ∀ m k,ax b m k ()=Sum.elim (fun r=> .inl (F r.toNat)) (fun _=> .inr ()) (ax b' m k ())
 |0,_=>rfl
 |m+1,k=>by
  rw[ax,ax,hb,hb'];cases c k with
  |true=>show Sum.inl (F k)=Sum.inl (F (Int.toNat (k:Int)));rw[Int.toNat_natCast]
  |false=>exact iX hb hb' m (k+1)
/-- A search that may end early. -/
theorem tx {R:Type} {P:R->Prop} {n:Nat} {b:Nat->Unit->R⊕Unit} (hb:∀ j,j<n->(∃ r,b j ()= .inl r∧P r)∨b j ()= .inr ()):∀ m k,m+k=n->(∃ r,ax b m k ()= .inl r∧P r)∨ax b m k ()= .inr ()
 |0,_,_=> .inr rfl
 |m+1,k,e=>by
  rw[ax];rcases hb k (by omega) with⟨r,a,c⟩|a
  ·rw[a];exact .inl ⟨r,rfl,c⟩
  ·rw[a];exact tx hb m (k+1) (by omega)
/-! ### Lists of numbers that rise -/
end Go.Proofs.YtdlminfjdodjoaaGreat
