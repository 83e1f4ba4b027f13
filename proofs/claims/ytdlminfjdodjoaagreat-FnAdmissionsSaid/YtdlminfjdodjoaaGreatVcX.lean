/-
  Elements that own memory,moved from one list of the call's own into another.
-/
import Derived.Test.YtdlminfjdodjoaaGreatVcW
import Derived.Test.YtdlminfjdodjoaaGreatVcS
namespace Go.Proofs.YtdlminfjdodjoaaGreat
set_option linter.unusedVariables false
set_option linter.unusedSimpArgs false
open Go.RowKit
section
variable {α:Type} {E:Ty α} {e:TypeId} {B:Nat} {w0:World} {is:List It}
/-- Rows of cells of which nothing is asked. -/
def fe (E:Ty α):Ck α where
 s:=E.sz
 R:=fun cs _=>cs.length=E.sz∧∀ u∈cs,u.oneCell'=true
 len:=fun h=>h.1
 one:=fun h=>h.2
theorem zj {w:World} {cs:List Value} {x:α} (a:cs.length=E.sz) (b:cs.all Value.oneCell'=true):Els (el (fe E)) w [] cs [(cs,x)]:=by
 have h:=eg (E:=el (fe E)) (w:=w) (L1:=[]) (c1:=cs) (x:=(cs,x)) ⟨rfl,rfl,a,List.all_eq_true.1 b⟩ ix;rw[List.append_nil cs] at h;exact h
theorem mL {K:Ck α}:uj (el K):=⟨fun h _=>⟨rfl,h⟩⟩
theorem gA {K1 K2:Ck α} (hR:∀ cs x,K1.R cs x->K2.R cs x) {w:World}:∀ {ps:List (List Value×α)} {L:List Nat} {cs:List Value},Els (el K1) w L cs ps->Els (el K2) w L cs ps
 | [],_,_,h=>h
 |_::_,_,_,⟨L1,a,c1,b,e,h,⟨d,k2,f⟩,c⟩=>⟨L1,a,c1,b,e,h,⟨d,k2,hR _ _ f⟩,gA hR c⟩
theorem Mem.ckMap {K1 K2:Ck α} (a:K2.s=K1.s) (hR:∀ cs x,K1.R cs x->K2.R cs x) {w:World} {v:Value} {ps:List (List Value×α)} (h:Mem B w0 (Qg (ab (el K1) e) [v] ps::is) w):Mem B w0 (Qg (ab (el K2) e) [v] ps::is) w:=
 h.perm fun L hL=>by
  obtain⟨v',hv,cells,L',rfl,hrow,hels⟩:=hL;refine⟨_,⟨v',hv,cells,L',rfl,?_,gA hR hels⟩, .refl _⟩;have hr:w.ownsRow 0 e K1.s v' ps.length cells:=hrow;rw[<- a] at hr;exact hr
theorem Mem.toCkA {w:World} {v:Value} {xs:List α} (h:Mem B w0 (Qg (ab E e) [v] xs::is) w):∃ ps:List (List Value×α),ps.map Prod.snd=xs∧Mem B w0 (Qg (ab (el (fe E)) e) [v] ps::jt E ps::is) w:=by
 obtain⟨ps,a,b⟩:=h.toCk;exact⟨ps,a,Mem.ckMap (K1:=oO E ps) (K2:=fe E) rfl (fun cs x (hx:(cs,x)∈ps∧cs.length=E.sz∧∀ u∈cs,u.oneCell'=true)=>hx.2) b⟩
theorem EC.append {w:World}:∀ {ps qs:List (List Value×α)} {L K:List Nat},EC E w L ps->EC E w K qs->EC E w (L++K) (ps++qs)
 | [],_,_,_,h,k=>by rw[show _=([]:List Nat) from h];exact k
 |p::ps,_,_,_,⟨L1,a,e,b,c⟩,k=>by subst e;exact⟨L1,a++_,by simp,b,c.append k⟩
theorem Mem.ckOne {w:World} {cs:List Value} {x:α} (h:Mem B w0 (Qg E cs x::is) w):Mem B w0 (jt E [(cs,x)]::is) w:=
 h.perm fun L hL=>⟨L,⟨L,[],by simp,hL,rfl⟩, .refl _⟩
theorem Mem.swap {w:World} {i j:It} (h:Mem B w0 (i::j::is) w):Mem B w0 (j::i::is) w:=by
 obtain⟨_,⟨L1,_,rfl,d,c,a,rfl,e,f⟩,g,k⟩:=h.sep;have hp:(c++(L1++a)).Perm (L1++(c++a)):=by
  rw[<- List.append_assoc, <- List.append_assoc];exact List.perm_append_comm.append_right a
 exact⟨h.base,h.below,c++(L1++a),⟨c,L1++a,rfl,e,L1,a,rfl,d,f⟩,hp.nodup_iff.2 g,fun b hb=>k b (hp.mem_iff.1 hb)⟩
theorem Mem.swap3 {w:World} {i j k:It} (h:Mem B w0 (i::j::k::is) w):Mem B w0 (i::k::j::is) w:=by
 have a:Mem B w0 (k::i::j::is) w:=h.front (n:=2) rfl;exact a.swap
theorem Mem.ckCat2 {w:World} {i:It} {ps qs:List (List Value×α)} (h:Mem B w0 (i::jt E ps::jt E qs::is) w):Mem B w0 (i::jt E (ps++qs)::is) w:=by
 obtain⟨_,⟨c,_,rfl,d,L1,_,rfl,e,a,b,rfl,f,g⟩,j,k⟩:=h.sep;exact⟨h.base,h.below,c++(L1++a++b),⟨c,L1++a++b,rfl,d,L1++a,b,rfl,EC.append e f,g⟩,by rw[List.append_assoc L1];exact j,by rw[List.append_assoc L1];exact k⟩
theorem oT {P:Program} {N:Nat} {Q:Exit->Act->World->Prop} {L:List (Nat×Value)} {cd:Code} {v:Value} {xs:List α} {js:List It} (hmv:∀ w,Mem B w0 is w->Mem B w0 (Qg (ab E e) [v] xs::js) w)
 (h:∀ ps:List (List Value×α),ps.map Prod.snd=xs->CM P N B w0 cd Q L (Qg (ab (el (fe E)) e) [v] ps::jt E ps::js)):CM P N B w0 cd Q L is:=fun w c=>by
 obtain⟨ps,a,b⟩:=(hmv w c).toCkA;exact h ps a w b
theorem Mem.emptyAs {β:Type} {F:Ty β} {w:World} {v:Value} (hsz:E.sz=F.sz) (h:Mem B w0 (Qg (ab E e) [v] []::is) w):Mem B w0 (Qg (ab F e) [v] []::is) w:=h.perm fun L hL=>by
 obtain⟨v',hv,cells,L',rfl,hrow,hels⟩:=hL;obtain⟨rfl,rfl⟩:=hels;refine⟨_,⟨v',hv,[],[],rfl,?_,rfl,rfl⟩, .refl _⟩;have hr:w.ownsRow 0 e E.sz v' 0 []:=hrow;rw[hsz] at hr;exact hr
/-- One element put into its place. -/
theorem Mem.ckInsert {w:World} {v:Value} {ps:List (List Value×α)} {xs:List α} {cs:List Value} {x:α} {k:Nat} (hps:ps.map Prod.snd=xs)
 (h:Mem B w0 (Qg E cs x::Qg (ab (el (fe E)) e) [v] (List.take k ps++[(cs,x)]++List.drop k ps)::jt E ps::is) w):Mem B w0 (Qg (ab E e) [v] (List.take k xs++[x]++List.drop k xs)::is) w:=by
 have c:Mem B w0 (Qg (ab (el (fe E)) e) [v] (List.take k ps++[(cs,x)]++List.drop k ps)::jt E ps::jt E [(cs,x)]::is) w:=h.ckOne.swap.swap3;have hp:(List.take k ps++[(cs,x)]++List.drop k ps).Perm (ps++[(cs,x)]):=by
  have a:(List.take k ps++([(cs,x)]++List.drop k ps)).Perm (List.take k ps++(List.drop k ps++[(cs,x)])):=List.perm_append_comm.append_left _;rw[<- List.append_assoc, <- List.append_assoc,List.take_append_drop] at a;exact a
 have b:=Mem.ofCk (E:=E) (K:=fe E) rfl hp c.ckCat2;rw[List.map_append,List.map_append,List.map_take,List.map_drop,hps] at b;exact b
end
/-! ### Elements of a list that is seen as rows of cells;rows that are put together anew -/
section
variable {α:Type} [Inhabited α] {E:Ty α} {e:TypeId} {B N:Nat} {w0:World} {is js:List It} {P:Program} {Q:Exit->Act->World->Prop} {L:List (Nat×Value)} {cd:Code}
theorem dC {ps:List (List Value×α)} {xs:List α} {k:Nat} (hps:ps.map Prod.snd=xs) (hk:k<xs.length) (hmv:∀ w,Mem B w0 is w->Mem B w0 (jt E ps::js) w)
 (h:∀ f d,E.rd f d (gt ps k).1 (gt xs k)->CM P N B w0 cd Q L is):CM P N B w0 cd Q L is:=fun w c=>by
 subst hps;rw[List.length_map] at hk;obtain⟨_,⟨L1,_,rfl,a,_⟩,_,_⟩:=(hmv w c).sep;obtain⟨_,e,k2⟩:=EC.mem (E:=E) a (gt ps k) (bt hk);refine h w w.heap.size ?_ w c;rw[gQ];exact E.own_rd k2 fun b hb=>EC.lt a b (e b hb)
theorem dB {ps:List (List Value×α)} {K:List Value} {A:Option Addr} {n c k:Nat} (hcs:(gt ps k).1=K) (hk:k<n) (hmv:∀ w,Mem B w0 is w->Mem B w0 (Qg (ab (el (fe E)) e) [.slice A n c] ps::js) w)
 (h:CM P N B w0 cd Q L (ey (el (fe E)) e A n c ps k K::js)):CM P N B w0 cd Q L is:=
 qr hk hmv fun ck w a=>by
  obtain⟨_,⟨L1,d,rfl,⟨f,b,_⟩,g⟩,i,j⟩:=a.sep;subst f;rw[hcs] at b;subst b;exact h w ⟨a.base,a.below,d,g,i,j⟩
theorem Mem.ckClose {ps:List (List Value×α)} {K:List Value} {A:Option Addr} {n c k:Nat} {w:World} (hcs:(gt ps k).1=K) (a:K.length=E.sz) (b:K.all Value.oneCell'=true) (h:Mem B w0 (ey (el (fe E)) e A n c ps k K::js) w):Mem B w0 (Qg (ab (el (fe E)) e) [.slice A n c] ps::js) w:=by
 obtain⟨L,s,d,f⟩:=h.sep;have hR:(fe E).R (gt ps k).1 (gt ps k).2:=by
  show(gt ps k).1.length=E.sz∧∀ u∈(gt ps k).1,u.oneCell'=true;rw[hcs];exact⟨a,List.all_eq_true.1 b⟩
 exact Mem.unfocus0 (E:=el (fe E)) (ck:=K) (k:=k) ⟨h.base,h.below,L,⟨[],L,rfl,⟨rfl,hcs.symm,hR⟩,s⟩,d,f⟩
theorem lH {ps:List α} {m:Nat} (h:m<ps.length):List.take m ps++[gt ps m]=List.take (m+1) ps:=by
 rw[List.take_add_one,List.getElem?_eq_getElem h,gj h];rfl
theorem Mk {ps:List (List Value×α)} {xs:List α} {k:Nat} {K:List Value} (hps:ps.map Prod.snd=xs) (hcs:(gt ps k).1=K):(K,gt xs k)=gt ps k:=by
 subst hps;subst hcs;rw[gQ]
theorem Bg {ps:List (List Value×α)} {xs:List α} {m k:Nat} {K:List Value} (hmk:m=k) (hps:ps.map Prod.snd=xs) (hk:k<xs.length) (hcs:(gt ps k).1=K):List.take m ps++[(K,gt xs k)]=List.take (m+1) ps:=by
 rw[Mk hps hcs];subst hmk;subst hps;rw[List.length_map] at hk;exact lH hk
/-- A list,up to place k,with p put in ahead of place n. -/
def ii (n:Nat) (ps:List α) (p:α):Nat->List α
 |0=>[]
 |k+1=>cond (k==n) (ii n ps p k++[p]++[gt ps k]) (ii n ps p k++[gt ps k])
theorem xG {ps:List (List Value×α)} {xs:List α} {n k:Nat} {p:List Value×α} {K:List Value} (h:n=k) (hps:ps.map Prod.snd=xs) (hcs:(gt ps k).1=K):ii n ps p k++[p]++[(K,gt xs k)]=ii n ps p (k+1):=by
 rw[ii,Mk hps hcs,beq_iff_eq.2 h.symm];rfl
theorem fB {ps:List (List Value×α)} {xs:List α} {n k:Nat} {p:List Value×α} {K:List Value} (h:n≠k) (hps:ps.map Prod.snd=xs) (hcs:(gt ps k).1=K):ii n ps p k++[(K,gt xs k)]=ii n ps p (k+1):=by
 rw[ii,Mk hps hcs,beq_eq_false_iff_ne.2 (Ne.symm h)];rfl
theorem Lq {n:Nat} {ps:List α} {p:α}:∀ k,k<=ps.length->ii n ps p k=if n<k then List.take n ps++[p]++List.drop n (List.take k ps) else List.take k ps
 |0,_=>by rw[if_neg (by omega)];rfl
 |k+1,hk=>by
  have ih:=Lq (n:=n) (ps:=ps) (p:=p) k (by omega);have hl:(List.take k ps).length=k:=by rw[List.length_take];omega
  rw[ii,ih, <- lH (ps:=ps) (m:=k) (by omega)]
  by_cases a:k=n
  ·subst a;rw[beq_self_eq_true,if_neg (by omega),if_pos (by omega),List.drop_append_of_le_length (by omega),List.drop_eq_nil_of_le (by omega)];rfl
  ·rw[beq_eq_false_iff_ne.2 a]
   by_cases b:n<k
   ·rw[if_pos b,if_pos (by omega),List.drop_append_of_le_length (by omega)];simp
   ·rw[if_neg b,if_neg (by omega)];rfl
theorem xI {n:Nat} {ps:List α} {p:α}:∀ k,(ii n ps p k).length<=k+1:=by
 have h:∀ k,(ii n ps p k).length<=k+(if n<k then 1 else 0):=by
  intro k
  induction k with
  |zero=>exact Nat.zero_le _
  |succ k ih=>
   rw[ii]
   by_cases b:k=n
   ·rw[beq_iff_eq.2 b,cond_true,if_pos (by omega)];rw[if_neg (by omega)] at ih;simp only[List.length_append,List.length_cons,List.length_nil];omega
   ·rw[beq_eq_false_iff_ne.2 b,cond_false];simp only[List.length_append,List.length_cons,List.length_nil]
    by_cases a:n<k
    ·rw[if_pos a] at ih;rw[if_pos (by omega)];omega
    ·rw[if_neg a] at ih;rw[if_neg (by omega)];omega
 intro k;have:=h k
 by_cases a:n<k
 ·rw[if_pos a] at this;exact this
 ·rw[if_neg a] at this;omega
theorem xH {n k:Nat} {ps:List α} {p:α} (hk:k=ps.length) (h:n<k):ii n ps p k=List.take n ps++[p]++List.drop n ps:=by
 rw[Lq k (by omega),if_pos h,hk,List.take_length]
theorem xJ {n k:Nat} {ps:List α} {p:α} (hk:k=ps.length) (h: ¬ n<k):ii n ps p k=List.take k ps:=by
 rw[Lq k (by omega),if_neg h]
end
theorem Jt {α:Type} {k:Nat} {ps:List α} {p:α} (hk:k=ps.length):List.take k ps++[p]=List.take k ps++[p]++List.drop k ps:=by
 rw[List.drop_eq_nil_of_le (by omega),List.append_nil]
end Go.Proofs.YtdlminfjdodjoaaGreat
