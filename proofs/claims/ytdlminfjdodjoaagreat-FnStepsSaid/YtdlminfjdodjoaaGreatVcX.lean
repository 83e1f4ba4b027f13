/-
  Elements that own memory,moved from one list of the call's own into another.
-/
import Derived.Test.YtdlminfjdodjoaaGreatVcW
import Derived.Test.YtdlminfjdodjoaaGreatVcS
namespace Go.Proofs.YtdlminfjdodjoaaGreat
open Go.RowKit
section
variable {α:Type} {E:Ty α} {e:TypeId} {B:Nat} {w0:World} {is:List It}
/-- Rows of cells of which nothing is asked. -/
def ckA (E:Ty α):Ck α where
 s:=E.sz
 R:=fun cs _=>cs.length=E.sz∧∀ u∈cs,u.oneCell'=true
 len:=fun h=>h.1
 one:=fun h=>h.2
theorem Qrq {w:World} {cs:List Value} {x:α} (h1:cs.length=E.sz) (h2:cs.all Value.oneCell'=true):Els (tCk (ckA E)) w [] cs [(cs,x)]:=by
 have h:=Qdc (E:=tCk (ckA E)) (w:=w) (L1:=[]) (c1:=cs) (x:=(cs,x)) ⟨rfl,rfl,h1,List.all_eq_true.1 h2⟩ Qfa;rw[List.append_nil cs] at h;exact h
theorem Qafa {K:Ck α}:Qmu (tCk K):=⟨fun h _=>⟨rfl,h⟩⟩
theorem Qaeu {K1 K2:Ck α} (hR:∀ cs x,K1.R cs x→K2.R cs x) {w:World}:∀ {ps:List (List Value×α)} {L:List Nat} {cs:List Value},Els (tCk K1) w L cs ps→Els (tCk K2) w L cs ps
 | [],_,_,h=>h
 |_::_,_,_,⟨L1,L2,c1,c2,e,h,⟨k1,k2,k3⟩,h2⟩=>⟨L1,L2,c1,c2,e,h,⟨k1,k2,hR _ _ k3⟩,Qaeu hR h2⟩
theorem Mem.ckMap {K1 K2:Ck α} (hs:K2.s=K1.s) (hR:∀ cs x,K1.R cs x→K2.R cs x) {w:World} {v:Value} {ps:List (List Value×α)} (h:Mem B w0 (Qh (tSl (tCk K1) e) [v] ps::is) w):Mem B w0 (Qh (tSl (tCk K2) e) [v] ps::is) w:=
 h.perm fun L hL=>by
  obtain⟨v',hv,cells,L',rfl,hrow,hels⟩:=hL;refine⟨_,⟨v',hv,cells,L',rfl,?_,Qaeu hR hels⟩, .refl _⟩;have hr:w.ownsRow 0 e K1.s v' ps.length cells:=hrow;rw[← hs] at hr;exact hr
theorem Mem.toCkA {w:World} {v:Value} {xs:List α} (h:Mem B w0 (Qh (tSl E e) [v] xs::is) w):∃ ps:List (List Value×α),ps.map Prod.snd=xs∧Mem B w0 (Qh (tSl (tCk (ckA E)) e) [v] ps::iCk E ps::is) w:=by
 obtain⟨ps,h1,h2⟩:=h.toCk;exact⟨ps,h1,Mem.ckMap (K1:=ckOf E ps) (K2:=ckA E) rfl (fun cs x (hx:(cs,x)∈ps∧cs.length=E.sz∧∀ u∈cs,u.oneCell'=true)=>hx.2) h2⟩
theorem EC.append {w:World}:∀ {ps qs:List (List Value×α)} {L K:List Nat},EC E w L ps→EC E w K qs→EC E w (L++K) (ps++qs)
 | [],_,_,_,h,k=>by rw[show _=([]:List Nat) from h];exact k
 |p::ps,_,_,_,⟨L1,L2,e,h1,h2⟩,k=>by subst e;exact⟨L1,L2++_,by simp,h1,h2.append k⟩
theorem Mem.ckOne {w:World} {cs:List Value} {x:α} (h:Mem B w0 (Qh E cs x::is) w):Mem B w0 (iCk E [(cs,x)]::is) w:=
 h.perm fun L hL=>⟨L,⟨L,[],by simp,hL,rfl⟩, .refl _⟩
theorem Mem.swap {w:World} {i j:It} (h:Mem B w0 (i::j::is) w):Mem B w0 (j::i::is) w:=by
 obtain⟨_,⟨L1,_,rfl,h1,L2,L3,rfl,h2,h3⟩,h4,h5⟩:=h.sep;have hp:(L2++(L1++L3)).Perm (L1++(L2++L3)):=by
  rw[← List.append_assoc, ← List.append_assoc];exact List.perm_append_comm.append_right L3
 exact⟨h.base,h.below,L2++(L1++L3),⟨L2,L1++L3,rfl,h2,L1,L3,rfl,h1,h3⟩,hp.nodup_iff.2 h4,fun b hb=>h5 b (hp.mem_iff.1 hb)⟩
theorem Mem.swap3 {w:World} {i j k:It} (h:Mem B w0 (i::j::k::is) w):Mem B w0 (i::k::j::is) w:=by
 have h1:Mem B w0 (k::i::j::is) w:=h.front (n:=2) rfl;exact h1.swap
theorem Mem.ckCat2 {w:World} {i:It} {ps qs:List (List Value×α)} (h:Mem B w0 (i::iCk E ps::iCk E qs::is) w):Mem B w0 (i::iCk E (ps++qs)::is) w:=by
 obtain⟨_,⟨L0,_,rfl,h0,L1,_,rfl,h1,L2,L3,rfl,h2,h3⟩,h4,h5⟩:=h.sep;exact⟨h.base,h.below,L0++(L1++L2++L3),⟨L0,L1++L2++L3,rfl,h0,L1++L2,L3,rfl,EC.append h1 h2,h3⟩,by rw[List.append_assoc L1];exact h4,by rw[List.append_assoc L1];exact h5⟩
theorem Qabx {P:Program} {N:Nat} {Q:Exit→Act→World→Prop} {L:List (Nat×Value)} {cd:Code} {v:Value} {xs:List α} {js:List It} (hmv:∀ w,Mem B w0 is w→Mem B w0 (Qh (tSl E e) [v] xs::js) w)
 (h:∀ ps:List (List Value×α),ps.map Prod.snd=xs→CM P N B w0 cd Q L (Qh (tSl (tCk (ckA E)) e) [v] ps::iCk E ps::js)):CM P N B w0 cd Q L is:=fun w hm=>by
 obtain⟨ps,h1,h2⟩:=(hmv w hm).toCkA;exact h ps h1 w h2
theorem Mem.emptyAs {β:Type} {F:Ty β} {w:World} {v:Value} (hsz:E.sz=F.sz) (h:Mem B w0 (Qh (tSl E e) [v] []::is) w):Mem B w0 (Qh (tSl F e) [v] []::is) w:=h.perm fun L hL=>by
 obtain⟨v',hv,cells,L',rfl,hrow,hels⟩:=hL;obtain⟨rfl,rfl⟩:=hels;refine⟨_,⟨v',hv,[],[],rfl,?_,rfl,rfl⟩, .refl _⟩;have hr:w.ownsRow 0 e E.sz v' 0 []:=hrow;rw[hsz] at hr;exact hr
/-- One element put into its place. -/
theorem Mem.ckInsert {w:World} {v:Value} {ps:List (List Value×α)} {xs:List α} {cs:List Value} {x:α} {k:Nat} (hps:ps.map Prod.snd=xs)
 (h:Mem B w0 (Qh E cs x::Qh (tSl (tCk (ckA E)) e) [v] (List.take k ps++[(cs,x)]++List.drop k ps)::iCk E ps::is) w):Mem B w0 (Qh (tSl E e) [v] (List.take k xs++[x]++List.drop k xs)::is) w:=by
 have h1:Mem B w0 (Qh (tSl (tCk (ckA E)) e) [v] (List.take k ps++[(cs,x)]++List.drop k ps)::iCk E ps::iCk E [(cs,x)]::is) w:=h.ckOne.swap.swap3;have hp:(List.take k ps++[(cs,x)]++List.drop k ps).Perm (ps++[(cs,x)]):=by
  have h2:(List.take k ps++([(cs,x)]++List.drop k ps)).Perm (List.take k ps++(List.drop k ps++[(cs,x)])):=List.perm_append_comm.append_left _;rw[← List.append_assoc, ← List.append_assoc,List.take_append_drop] at h2;exact h2
 have h3:=Mem.ofCk (E:=E) (K:=ckA E) rfl hp h1.ckCat2;rw[List.map_append,List.map_append,List.map_take,List.map_drop,hps] at h3;exact h3
end
/-! ### Elements of a list that is seen as rows of cells;rows that are put together anew -/
section
variable {α:Type} [Inhabited α] {E:Ty α} {e:TypeId} {B N:Nat} {w0:World} {is js:List It} {P:Program} {Q:Exit→Act→World→Prop} {L:List (Nat×Value)} {cd:Code}
theorem Qajx {ps:List (List Value×α)} {xs:List α} {k:Nat} (hps:ps.map Prod.snd=xs) (hk:k<xs.length) (hmv:∀ w,Mem B w0 is w→Mem B w0 (iCk E ps::js) w)
 (h:∀ w1 B1,E.rd w1 B1 (gt ps k).1 (gt xs k)→CM P N B w0 cd Q L is):CM P N B w0 cd Q L is:=fun w hm=>by
 subst hps;rw[List.length_map] at hk;obtain⟨_,⟨L1,L2,rfl,h1,h2⟩,h3,h4⟩:=(hmv w hm).sep;obtain⟨L3,k1,k2⟩:=EC.mem (E:=E) h1 (gt ps k) (Qav hk);refine h w w.heap.size ?_ w hm;rw[Qafm];exact E.own_rd k2 fun b hb=>EC.lt h1 b (k1 b hb)
theorem Qajw {ps:List (List Value×α)} {K:List Value} {A:Option Addr} {n c k:Nat} (hcs:(gt ps k).1=K) (hk:k<n) (hmv:∀ w,Mem B w0 is w→Mem B w0 (Qh (tSl (tCk (ckA E)) e) [.slice A n c] ps::js) w)
 (h:CM P N B w0 cd Q L (Qcu (tCk (ckA E)) e A n c ps k K::js)):CM P N B w0 cd Q L is:=
 Qkb hk hmv fun ck w hm=>by
  obtain⟨_,⟨L1,L2,rfl,⟨h1,h2,_⟩,h3⟩,h4,h5⟩:=hm.sep;subst h1;rw[hcs] at h2;subst h2;exact h w ⟨hm.base,hm.below,L2,h3,h4,h5⟩
theorem Mem.ckClose {ps:List (List Value×α)} {K:List Value} {A:Option Addr} {n c k:Nat} {w:World} (hcs:(gt ps k).1=K) (h1:K.length=E.sz) (h2:K.all Value.oneCell'=true) (h:Mem B w0 (Qcu (tCk (ckA E)) e A n c ps k K::js) w):Mem B w0 (Qh (tSl (tCk (ckA E)) e) [.slice A n c] ps::js) w:=by
 obtain⟨L,s,h3,h4⟩:=h.sep;have hR:(ckA E).R (gt ps k).1 (gt ps k).2:=by
  show(gt ps k).1.length=E.sz∧∀ u∈(gt ps k).1,u.oneCell'=true;rw[hcs];exact⟨h1,List.all_eq_true.1 h2⟩
 exact Mem.unfocus0 (E:=tCk (ckA E)) (ck:=K) (k:=k) ⟨h.base,h.below,L,⟨[],L,rfl,⟨rfl,hcs.symm,hR⟩,s⟩,h3,h4⟩
theorem Qbah {ps:List α} {m:Nat} (h:m<ps.length):List.take m ps++[gt ps m]=List.take (m+1) ps:=by
 rw[List.take_add_one,List.getElem?_eq_getElem h,Qdl h];rfl
theorem Qaer {ps:List (List Value×α)} {xs:List α} {k:Nat} {K:List Value} (hps:ps.map Prod.snd=xs) (hcs:(gt ps k).1=K):(K,gt xs k)=gt ps k:=by
 subst hps;subst hcs;rw[Qafm]
/-- A list,up to place k,with p put in ahead of place n. -/
def Qec (n:Nat) (ps:List α) (p:α):Nat→List α
 |0=>[]
 |k+1=>cond (k==n) (Qec n ps p k++[p]++[gt ps k]) (Qec n ps p k++[gt ps k])
theorem Qanh {ps:List (List Value×α)} {xs:List α} {n k:Nat} {p:List Value×α} {K:List Value} (h:n=k) (hps:ps.map Prod.snd=xs) (hcs:(gt ps k).1=K):Qec n ps p k++[p]++[(K,gt xs k)]=Qec n ps p (k+1):=by
 rw[Qec,Qaer hps hcs,beq_iff_eq.2 h.symm];rfl
theorem Qadl {ps:List (List Value×α)} {xs:List α} {n k:Nat} {p:List Value×α} {K:List Value} (h:n≠k) (hps:ps.map Prod.snd=xs) (hcs:(gt ps k).1=K):Qec n ps p k++[(K,gt xs k)]=Qec n ps p (k+1):=by
 rw[Qec,Qaer hps hcs,beq_eq_false_iff_ne.2 (Ne.symm h)];rfl
theorem Qxo {n:Nat} {ps:List α} {p:α}:∀ k,k≤ps.length→Qec n ps p k=if n<k then List.take n ps++[p]++List.drop n (List.take k ps) else List.take k ps
 |0,_=>by rw[if_neg (by omega)];rfl
 |k+1,hk=>by
  have ih:=Qxo (n:=n) (ps:=ps) (p:=p) k (by omega);have hl:(List.take k ps).length=k:=by rw[List.length_take];omega
  rw[Qec,ih, ← Qbah (ps:=ps) (m:=k) (by omega)]
  by_cases h1:k=n
  ·subst h1;rw[beq_self_eq_true,if_neg (by omega),if_pos (by omega),List.drop_append_of_le_length (by omega),List.drop_eq_nil_of_le (by omega)];rfl
  ·rw[beq_eq_false_iff_ne.2 h1]
   by_cases h2:n<k
   ·rw[if_pos h2,if_pos (by omega),List.drop_append_of_le_length (by omega)];simp
   ·rw[if_neg h2,if_neg (by omega)];rfl
theorem Qanj {n:Nat} {ps:List α} {p:α}:∀ k,(Qec n ps p k).length≤k+1:=by
 have h:∀ k,(Qec n ps p k).length≤k+(if n<k then 1 else 0):=by
  intro k
  induction k with
  |zero=>exact Nat.zero_le _
  |succ k ih=>
   rw[Qec]
   by_cases h1:k=n
   ·rw[beq_iff_eq.2 h1,cond_true,if_pos (by omega)];rw[if_neg (by omega)] at ih;simp only[List.length_append,List.length_cons,List.length_nil];omega
   ·rw[beq_eq_false_iff_ne.2 h1,cond_false];simp only[List.length_append,List.length_cons,List.length_nil]
    by_cases h2:n<k
    ·rw[if_pos h2] at ih;rw[if_pos (by omega)];omega
    ·rw[if_neg h2] at ih;rw[if_neg (by omega)];omega
 intro k;have:=h k
 by_cases h2:n<k
 ·rw[if_pos h2] at this;exact this
 ·rw[if_neg h2] at this;omega
theorem Qani {n k:Nat} {ps:List α} {p:α} (hk:k=ps.length) (h:n<k):Qec n ps p k=List.take n ps++[p]++List.drop n ps:=by
 rw[Qxo k (by omega),if_pos h,hk,List.take_length]
theorem Qank {n k:Nat} {ps:List α} {p:α} (hk:k=ps.length) (h: ¬ n<k):Qec n ps p k=List.take k ps:=by
 rw[Qxo k (by omega),if_neg h]
end
theorem Qbag {α:Type} {k:Nat} {ps:List α} {p:α} (hk:k=ps.length):List.take k ps++[p]=List.take k ps++[p]++List.drop k ps:=by
 rw[List.drop_eq_nil_of_le (by omega),List.append_nil]
end Go.Proofs.YtdlminfjdodjoaaGreat
