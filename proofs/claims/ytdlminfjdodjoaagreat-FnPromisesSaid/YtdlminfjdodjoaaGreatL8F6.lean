/-
  Contracts of functions,printed by a program of ours.
-/
import Derived.Test.YtdlminfjdodjoaaGreatL8F5
namespace Go.Proofs.YtdlminfjdodjoaaGreat
set_option linter.unusedVariables false
set_option linter.unusedSimpArgs false
open Go.RowKit
set_option maxRecDepth 100000
set_option maxHeartbeats 4000000
open _root_.Go.Proofs.Tryz
def Om (d:ah) (b:Nat) (a:Int):Int⊕(Int):=
 Sum.inr (IntKind.i64.wrap (a+((((gt d.c b)).length:Nat):Int)))
def zt (a:ah):Int:=
 Sum.elim id (fun(s:Int)=>s) (ay (R:=Int) (fun k (s:Int)=>Om a k s) (a.c.length-0) 0 0)
theorem fY:Cb Tryz.prog 197:=⟨f197,_,func197,rfl,by decide⟩
theorem gZ (w:World) (A:List Value) (a:ah) (x:ez.rd w w.heap.size A a):
 Calls Tryz.prog 197 #[.agg A.toArray] w (rI w (zt a)):=by
 obtain⟨_,rfl,I⟩:=pe x;obtain⟨_,p,t,rfl,H,_⟩:=Ql I;refine fp (L:=[(0, .agg #[.slice p a.c.length t,iV a.g])]) (N:=19) func197 ?_;refine sr ?_;refine dq rfl (Qe rfl) (by decide) (fun F=>?_);refine wa (aa (sr (wa (aa (Qk (sr ?_))))));refine wv (vf bq rfl fh) ?_;refine wv (vl 0 0 cm) ?_;refine wv (bc cm) ?_;refine wm (aa (aw ?_));refine dj (S:=Int) (R:=Unit) (fun k (s:Int)=>Om a k s) a.c.length 0 0 () (fun s=>[(3,iV s.2.1),(7, .slice p a.c.length t),(8,nI a.c.length),(9,nI s.1)]) (fun s=>[Qa F 34 [.slice p a.c.length t,iV a.g]]) (fun s=>True) dy trivial ?_;rintro⟨f,y,⟨⟩⟩ j _ _ e e';dsimp only at j ⊢;subst e e';obtain⟨_,b,_⟩:=j;refine sr ?_;refine wv cz ?_;refine aa (Qk ?_);rcases dp f a.c.length with⟨d,i⟩|⟨d,i⟩
 ·refine Qr rfl i ?_;refine aj (Qi (Qk (aw (sr ?_))));obtain⟨r,rfl,m,o⟩:=H (by omega);refine wv (bx 1 f cm im) ?_;obtain⟨_,u,n⟩:=o f _ (dz (show f<a.c.length from by omega));obtain⟨_,rfl,v⟩:=u;obtain⟨_,_,_,rfl,_,_⟩:=Ql v;refine wv (fun W D=>cl db rfl rfl ((D.cell0 (show(r.add (f*1)).block<w.heap.size from by rw[bh];exact m.1)).trans (n 0 _ rfl))) ?_;refine wa (aa (ak (wm (wm ?_))));refine wv (bc db) ?_;refine wv kd ?_;refine wa (au (bi (Qi (ak ?_))));refine wv (bs f 1 (by omega)) ?_;refine wm (au ?_);exact br (f+1,(IntKind.i64.wrap (y+((((gt a.c f)).length:Nat):Int))),()) dy ag ⟨(by omega),nx b (rfl),trivial⟩ rl
 refine Qw rfl i ?_;refine co (ao (ao ?_));have l:=dk d b;refine cp (Qi (sr (wm (wa (aa (Qm ?_))))));exact oa (h:=bt l (rfl))
def vt (e:(List Int)) (c:Nat) (a:(List (List Qz))) (d:Nat) (b:(List Qz)):(ah×Int)⊕((List Qz)):=
 cond (mW (gt (gt a c) d) e) (Sum.inr (b++[(gt (gt a c) d)])) (Sum.inr b)
def qK (c:(List Int)) (b:Nat) (a:(List (List Qz))):(ah×Int)⊕((List (List Qz))):=
 Sum.elim Sum.inl (fun(s:(List Qz))=>Sum.inr (a.set b s)) (ay (R:=(ah×Int)) (fun k (s:(List Qz))=>vt c b a k s) ((gt a b).length-0) 0 [])
def oc (a:ah) (b:(List Int)):(ah×Int):=
 cond (tj a) (Sum.elim id (fun(s:(List (List Qz)))=>((⟨s,a.g⟩:ah),(IntKind.i64.wrap ((zt a)-(zt (⟨s,a.g⟩:ah)))))) (ay (R:=(ah×Int)) (fun k (s:(List (List Qz)))=>qK b k s) (a.c.length-0) 0 a.c)) (a,0)
theorem yT:Cb Tryz.prog 145:=⟨f145,_,func145,rfl,by decide⟩
theorem Bo (w:World) (z0:List Value) (d:ah) (z1:Value) (B:(List Int)) (s0:ez.rd w w.heap.size z0 d) (t0:ce Qb w w.heap.size z1 B) (K:mo 68719476736 d) (u0:B.length<=68719476736):
 Calls Tryz.prog 145 #[.agg z0.toArray,z1] w fun e w'=>∃ v:List Value,e= .returned (.tuple #[.agg v.toArray,iV ((oc d B).2)])∧Mem w.heap.size w [Qh ez v (oc d B).1] w':=by
 obtain⟨_,rfl,r2⟩:=pe s0;obtain⟨_,A4,c5,rfl,_,r7⟩:=Ql r2;obtain⟨_,A9,Z,rfl,_,r0⟩:=Ql t0;have:d.c.length<=68719476736:=K.1;have:B.length<=68719476736:=u0;refine jn (L:=[(0, .agg #[.slice A4 d.c.length c5,iV d.g]),(1, .slice A9 B.length Z)]) (N:=53) func145 ?_;refine sr ?_;refine dq rfl (Qe rfl) (by decide) (fun g0=>?_);refine ca bn rfl (Qe rfl) (by decide) (fun h0=>?_);refine wa (aa (sr ?_));refine wv (fun W l=>Qv (cs:=[.slice A4 d.c.length c5,iV d.g]) bq bn rfl rfl (l.boxCells (n:=1) rfl)) ?_;refine io ez d (Qp Nq rfl) (fun W l=>wq W _ d (km (x:=d) (l.rdS0 r7)) K) (fun _=>?_);refine ng ?_;rintro _ rfl;refine fm 0 ?_;rintro r o rfl E0;refine ca bn rfl (Qe rfl) (by decide) (fun I=>?_);let I3:It:=iS (ab Qy 163) 100 r o d.c;let I4:It:=Qa g0 34 [.slice A4 d.c.length c5,iV d.g];let Y:List It:=[Qa h0 34 [.slice none 0 0,iV 0],I4];refine sb 0 [.slice r d.c.length o,iV d.g] (I3::Y) ag bn ?_;refine aa (Qk (sr ?_));refine wv (fun W l=>Qv (cs:=[.slice A4 d.c.length c5,iV d.g]) bq bn rfl rfl (l.boxCells (n:=3) rfl)) ?_;refine eo (Qp fM rfl) (fun W l=>hU W _ d (km (x:=d) (l.rdS0 r7)) K) ?_;refine wv dc ?_;refine aa ?_;rcases bd (tj d) with F|F
 ·refine Qw rfl (nt F) ?_;refine aj (Qi (Qk (sr ?_)));refine wv (vf bq rfl fh) ?_;refine wv (vl 0 0 cm) ?_;refine wv (bc cm) ?_;refine wm (aa (aw ?_));let I5:It:=Qa I 34 [.slice r d.c.length o,iV d.g];refine dj (S:=(List (List Qz))) (R:=Unit) (fun k (s:(List (List Qz)))=>qK B k s) d.c.length 0 d.c () (fun s=>[(1, .slice A9 B.length Z),(2,bp g0),(4,bp h0),(6,bp I),(19, .slice r d.c.length o),(20,nI d.c.length),(21,nI s.1)]) (fun s=>(I5::Qh (ab (ab Qy 163) 100) [.slice r d.c.length o] s.2.1::Y)) (fun s=>∀ j,s.1<=j->gt s.2.1 j=gt d.c j) jx (fun _ _=>rfl) ?_;rintro⟨a,b,⟨⟩⟩ i0 _ _ e e';dsimp only at i0 ⊢;subst e e';obtain⟨_,M,T⟩:=i0;refine sr ?_;refine wv cz ?_;refine aa (Qk ?_);rcases dp a d.c.length with⟨U,c0⟩|⟨U,c0⟩
  ·have:(gt b a).length<=68719476736:=by rw[T a (Nat.le_refl _)];exact(K.2 _ (bl (by omega))).1
   refine Qr rfl c0 ?_;refine aj (Qi (Qk (aw (sr (wm ?_)))));refine nv (n:=1) rfl (by omega) ?_;rintro D rfl;refine wv (bx 1 a cm im) ?_;let K1:List Value:=[.slice (sA D) d.c.length o,iV d.g];let z:List It:=Qa I 34 K1::Y;refine sh (E:=(ab Qy 163)) (e:=100) (A:=(sA D)) (n:=d.c.length) (c:=o) (xs:=b) (k:=a) (js:=z) (by omega) (pk [1,0,2,3]) (fun k0=>?_);refine pi (γ:=Value) (js:=fun g=>[Qh (ab Qy 163) [g] (gt b a)]) (C:=fun g=>k0=[g]) (fun _ _ h=>tp h) ?_;rintro _ rfl;refine fm 0 ?_;rintro J a0 rfl F0;refine wv (fun W l=>cl db rfl rfl (l.focInt (i:=1) rfl rfl)) ?_;refine wa (wa (aa (sr ?_)));refine eh (E:=Qy) db ct (Qe rfl) (by decide) (fun p0=>?_);refine wa (aa (Qk (sr (wm ?_))));refine wv (bc db) ?_;refine wm (aa (aw ?_));refine ey (fun W l=>Mem.toRest (l.pick [1,0,2,3,4,5] (by decide))) ?_;refine dj (S:=(List Qz)) (R:=Option Addr×Nat) (fun k (s:(List Qz))=>vt B a b k s) ((gt b a).length) 0 [] ((sA p0),0) (fun s=>[(1, .slice A9 B.length Z),(2,bp g0),(4,bp h0),(6,bp I),(7,nI a),(9, .slice s.2.2.1 s.2.1.length s.2.2.2),(19, .slice (sA D) d.c.length o),(20,nI d.c.length),(21,nI a),(27, .slice J (gt b a).length a0),(28,nI ((gt b a).length)),(29,nI s.1)]) (fun s=>(ou Qy 163 J ((gt b a).length) (gt b a) s.1::iS Qy 163 s.2.2.1 s.2.2.2 s.2.1::fg (ab Qy 163) 100 (sA D) d.c.length o b a [.slice J (gt b a).length a0]::z)) (fun s=>s.2.1.length<=0+s.1) rt (Nat.le_refl _) ?_;rintro⟨f,p,⟨t,u⟩⟩ j0 _ _ e e';dsimp only at j0 ⊢;subst e e';obtain⟨_,H,_⟩:=j0;refine sr ?_;refine wv cz ?_;refine aa (Qk ?_);rcases dp f ((gt b a).length) with⟨V,d0⟩|⟨V,d0⟩
   ·refine Qr rfl d0 ?_;refine aj (Qi (Qk (aw (sr ?_))));refine mG (n:=0) rfl (by omega) ?_;rintro e0 rfl;refine wv (bx 4 f db ct) ?_;let I6:It:=fg (ab Qy 163) 100 (sA D) d.c.length o b a [.slice (sA e0) (gt b a).length a0];refine mH (E:=Qy) (e:=163) (A:=(sA e0)) (n:=(gt b a).length) (xs:=(gt b a)) (k:=f) (js:=(iS Qy 163 t u p::I6::z)) (by omega) ag (fun _=>?_);refine oG ?_;rintro _ rfl;refine fm 0 ?_;rintro X b0 rfl G0;let K2:List Value:=[iV ((gt (gt b a) f).Id), .slice X ((gt (gt b a) f).m).length b0,iV ((gt (gt b a) f).x),iV ((gt (gt b a) f).y)];refine wv (fun W l=>Qv (cs:=K2) dh ct rfl rfl (l.restCells (i:=1) rfl rfl)) ?_;refine ca ct rfl (Qe rfl) (by decide) (fun q0=>?_);let I7:It:=pz Qy 163 (sA e0) ((gt b a).length) (gt b a) f K2;refine sb 0 K2 (iS Qb 3 X b0 ((gt (gt b a) f).m)::I7::iS Qy 163 t u p::I6::z) ag ct ?_;refine aa (sr ?_);refine wv (fun W l=>Qv (cs:=K2) dh ct rfl rfl (l.boxCells (n:=0) rfl)) ?_;refine wm ?_;refine eo (Qp zO rfl) (fun W l=>Cz W _ (gt (gt b a) f) _ B (nm (x:=(gt (gt b a) f)) (l.rdSI (n:=1) rfl)) (l.rdS0 r0)) ?_;refine aa ?_;rcases bd (mW (gt (gt b a) f) B) with G|G
    ·refine Qr rfl G ?_;refine ak (wm ?_);refine wv (fun W l=>Qv (cs:=K2) dh ct rfl rfl (l.boxCells (n:=0) rfl)) ?_;refine di (cs:=K2) db ct rfl (by decide) (by decide) rfl (by kernel_rfl) (Qe rfl) (by decide) (fun _=>?_);refine fi Qy 163 (.slice t p.length u) p (gt (gt b a) f) [iS Qb 3 X b0 ((gt (gt b a) f).m)] (Qa q0 163 K2::I7::I6::z) K2 (pk [0,4,2,1,3,5,6,7,8]) (fun _ _ hs=>Els.single (pf (x:=(gt (gt b a) f)) hs)) db ct (show(p.length+1)*48<=140737488355328 from by omega) (fun _=>?_);refine fm 0 ?_;rintro n0 o0 rfl H0;refine wa (au (bi (Qi (ak ?_))));refine wv (bs f 1 (by omega)) ?_;refine wm (au ?_);refine cc (fun W l=>Mem.restNext (l.pick [2,0,1,3,4,5,6] (by decide))) ?_;exact br (f+1,(p++[(gt (gt b a) f)]),(n0,o0)) rt (pk [0,1,3,4,5,6]) ⟨(by omega),nx H (Qd G (rfl)),(show(p++[(gt (gt b a) f)]).length<=0+(f+1) from by first|omega|(simp only[List.length_append,List.length_cons,List.length_nil] at *;omega))⟩ (show(gt b a).length-(f+1)<(gt b a).length-f from by omega)
    refine Qw rfl G ?_;refine aj (bi (Qi (ak ?_)));refine wv (bs f 1 (by omega)) ?_;refine wm (au ?_);refine cc (fun W l=>Mem.restNext (l.pick [2,0,1,3,4,5,6,7] (by decide))) ?_;exact br (f+1,p,(t,u)) rt (pk [0,3,4,5,6,7]) ⟨(by omega),nx H (Qf G (rfl)),(show p.length<=0+(f+1) from by first|omega|(simp only[List.length_append,List.length_cons,List.length_nil] at *;omega))⟩ (show(gt b a).length-(f+1)<(gt b a).length-f from by omega)
   refine Qw rfl d0 ?_;refine co (ao (ao ?_));have l0:=dk V H;refine cp (Qi (ak ?_));refine wv (vf bq rfl fh) ?_;refine wv (vl 3 0 cm) ?_;refine wm (wm ?_);refine wv (bx 1 a cm im) ?_;let I8:It:=ou Qy 163 J ((gt b a).length) (gt b a) f;refine sf 0 1 [.slice t p.length u] (I8::iS Qy 163 t u p::z) (pk [2,0,1,3,4,5]) im ?_;refine au (bi (Qi (ak ?_)));refine wv (bs a 1 (by omega)) ?_;refine wm (au ?_);refine cc (fun W l=>Mem.unfocus (Mem.join (is:=[iS Qy 163 t u p]) (js:=(fg (ab Qy 163) 100 (sA D) d.c.length o b a [.slice t p.length u]::(I8::z))) (fun _ _ hs=>Sep.one hs) (l.pick [2,0,1,3,4,5] (by decide)))) ?_;exact br (a+1,(b.set a p),()) jx (pk [2,0,3,4]) ⟨(by omega),nx M (bt l0 (rfl)),(show ∀ j,(a+1)<=j->gt (b.set a p) j=gt d.c j from by intro j hj;rw[mP (by omega)];exact T j (by omega))⟩ rl
  refine Qw rfl c0 ?_;refine co (ao (ao ?_));have m0:=dk U M;refine cp (Qi (Qk ?_));let I9:It:=Qh (ab (ab Qy 163) 100) [.slice r d.c.length o] b;refine rb 8 (s:=[I5,I9,I4]) (pk [0,1,3]) ?_;refine qt 8 0 1 rfl (fun W l=>Qv (cs:=[.slice r d.c.length o,iV d.g]) bq bn rfl rfl (l.boxCells (n:=0) rfl)) ?_;refine qt 8 1 3 rfl (fun W l=>Qv (cs:=[.slice A4 d.c.length c5,iV d.g]) bq bn rfl rfl (l.boxCells (n:=2) rfl)) ?_;refine qt 8 3 11 rfl (fun W l=>Qv (cs:=[.slice r d.c.length o,iV d.g]) bq bn rfl rfl (l.boxCells (n:=0) rfl)) ?_;refine qo 8 2 15 rfl ?_;refine eo (Qp fY rfl) (fun W l=>gZ W _ d (km (x:=d) (l.rdS0 r7))) ?_;refine qn (pk [0,1,3]) ?_;refine qo 8 4 31 rfl ?_;refine eo (Qp fY rfl) (fun W l=>gZ W _ (⟨b,d.g⟩:ah) (km (x:=(⟨b,d.g⟩:ah)) (l.rdSI (n:=1) rfl))) ?_;refine qn (pk [0,1,3]) ?_;refine qt 8 5 63 rfl (fun W l=>ox rfl rfl) ?_;refine qo 8 6 127 rfl ?_;refine sb 0 [.slice r d.c.length o,iV d.g] [I5,I9,I4] (pk [2,0,1,3]) bn ?_;refine qn (pk [1,2,3]) ?_;refine qt 8 7 255 rfl (fun W l=>lz rfl) ?_;refine fz (by kernel_rfl) ?_;refine Qi (Qm ?_);have O:=(show oc d B=((⟨b,d.g⟩:ah),(IntKind.i64.wrap ((zt d)-(zt (⟨b,d.g⟩:ah))))) from Qd F (bt m0 (rfl)));refine gb rfl (dg (n:=0) rfl rfl bq bn rfl) (dm rfl) (fun W l=>⟨[.slice r d.c.length o,iV d.g],?_,?_⟩)
  ·first|rw[O]|rfl
   try rfl
  rw[O];exact Mem.join (is:=[I9]) (js:=[]) (fun _ _ hs=>jz (x:=(⟨b,d.g⟩:ah)) hs) (l.pick [2] (by decide))
 refine Qr rfl (nf F) ?_;refine sr ?_;refine wv (fun W l=>Qv (cs:=[.slice r d.c.length o,iV d.g]) bq bn rfl rfl (l.boxCells (n:=0) rfl)) ?_;refine sb 0 [.slice r d.c.length o,iV d.g] [Qa I 34 [.slice r d.c.length o,iV d.g],I3,I4] (pk [2,0,1,3]) bn ?_;refine wa (aa (Qm (Qo ?_)));have P:=(show oc d B=(d,0) from Qf F (rfl));refine gb rfl (dg (n:=0) rfl rfl bq bn rfl) (dm rfl) (fun W l=>⟨[.slice r d.c.length o,iV d.g],?_,?_⟩)
 ·first|rw[P]|rfl
  try rfl
 rw[P];exact Mem.join (is:=[I3]) (js:=[]) (fun _ _ hs=>jz (x:=d) hs) (l.pick [2] (by decide))
def lw (x:List Int) (v:Qz):Bool:=x.any (fun t=>mc v t) || v.y == -1
theorem Dg (v:Qz) (x:List Int):mW v x=lw x v:=by
 unfold mW lw;rw[rC (p:=fun t=>mc v t) (r:=true) (fun j _=>by unfold wt;rfl)];cases x.any (fun t=>mc v t) <;>rfl
theorem gP {α:Type} (p:α->Bool):∀ (xs:List α) (s:Bool),xs.foldl (fun s t=>cond s true (p t)) s=(s || xs.any p)
 | [],s=>by simp
 |x::xs,s=>by
  rw[List.foldl_cons,gP p xs];cases s <;>simp
theorem Bp (x:List Int) (k:Nat) (d:List (List Qz)):qK x k d= .inr (d.set k ((gt d k).filter (lw x))):=by
 unfold qK;rw[oh (xs:=gt d k) (f:=fun e v=>cond (lw x v) (e++[v]) e) (fun j s _=>by unfold vt;rw[Dg];cases lw x (gt (gt d k) j) <;>rfl)];show Sum.inr (d.set k _)=_;rw[gL];rfl
def jf (s:Int) (n:Nat):Int:=IntKind.i64.wrap (s+n)
theorem uy (s:Int) (m n:Nat):jf (jf s m) n=jf s (m+n):=by
 unfold jf;simp only[IntKind.wrap_i64];omega
theorem yc (x:List Int):∀ (l:List Qz) (s:Int) (e:List Qz),l.foldl (fun(s:Int×List Qz) v=>cond (lw x v) (s.1,s.2++[v]) (IntKind.i64.wrap (s.1+1),s.2)) (jf s 0,e)=(jf s (l.length-(l.filter (lw x)).length),e++l.filter (lw x))
 | [],s,e=>by simp
 |v::l,s,e=>by
  rw[List.foldl_cons];have hl:=List.length_filter_le (lw x) l;cases h:lw x v with
  |true=>
   rw[cond_true,yc x l s (e++[v])];simp[h]
  |false=>
   have a:(IntKind.i64.wrap (jf s 0+1))=jf (jf s 1) 0:=by
    unfold jf;simp only[IntKind.wrap_i64];omega
   rw[cond_false];dsimp only;rw[a,yc x l (jf s 1) e,uy];simp only[List.filter_cons,h,List.length_cons]
   congr 2
   simp only[Bool.false_eq_true,if_false];omega
theorem Iz (x:List Int) (k:Nat) (s:Int) (d:List (List Qz)):nR x k (jf s 0) d= .inr (jf s ((gt d k).length-((gt d k).filter (lw x)).length),d.set k ((gt d k).filter (lw x))):=by
 unfold nR
 rw[oh (xs:=gt d k) (f:=fun(s:Int×List Qz) v=>cond (lw x v) (s.1,s.2++[v]) (IntKind.i64.wrap (s.1+1),s.2)) (fun j s _=>by
  unfold ya;rw[oh (xs:=x) (f:=fun s t=>cond s true (mc (gt (gt d k) j) t)) (fun i s _=>by unfold yb;cases s <;>rfl),gP];have:((gt (gt d k) j).y == -1 || x.any fun t=>mc (gt (gt d k) j) t)=lw x (gt (gt d k) j):=by unfold lw;rw[Bool.or_comm]
  rw[this];show cond (lw x (gt (gt d k) j)) _ _=_
  cases lw x (gt (gt d k) j) <;>rfl),yc]
 rfl
theorem Ge {R:Type} (xs:List (List Qz)) (b:Nat->Int->R⊕Int) (hb:∀ j s,b j s= .inr (IntKind.i64.wrap (s+((gt xs j).length:Nat)))):ay b (xs.length-0) 0 0= .inr (jf 0 (xs.map List.length).sum):=by
 have h:∀ (l:List (List Qz)) (s:Int),l.foldl (fun(s:Int) v=>IntKind.i64.wrap (s+(v.length:Nat))) (jf s 0)=jf s (l.map List.length).sum:=by
  intro l
  induction l with
  |nil=>intro s;rfl
  |cons v l ih=>
   intro s;have a:IntKind.i64.wrap (jf s 0+(v.length:Nat))=jf (jf s v.length) 0:=by
    unfold jf;simp only[IntKind.wrap_i64];omega
   rw[List.foldl_cons,a,ih,uy];simp
 rw[oh (xs:=xs) (f:=fun(s:Int) v=>IntKind.i64.wrap (s+(v.length:Nat))) (fun j s _=>hb j s)];exact congrArg Sum.inr (h xs 0)
theorem dQ (x:ah):zt x=jf 0 (x.c.map List.length).sum:=by
 unfold zt;rw[Ge x.c _ (fun j s=>by unfold Om;rfl)];rfl
def ix (x:List Int) (d:List (List Qz)):List (List Qz):=d.map fun l=>l.filter (lw x)
theorem wz (x:List Int):∀ d:List (List Qz),((ix x d).map List.length).sum<=(d.map List.length).sum∧∀ s:Int,d.foldl (fun(s:Int) l=>jf s (l.length-(l.filter (lw x)).length)) (jf s 0)=jf s ((d.map List.length).sum-((ix x d).map List.length).sum)
 | []=>⟨by simp[ix],fun s=>rfl⟩
 |l::d=>by
  obtain⟨_,b⟩:=wz x d;have:=List.length_filter_le (lw x) l;have:((ix x (l::d)).map List.length).sum=(l.filter (lw x)).length+((ix x d).map List.length).sum:=by simp[ix]
  have:((l::d).map List.length).sum=l.length+(d.map List.length).sum:=by simp
  refine⟨by omega,fun s=>?_⟩;rw[List.foldl_cons];have a:jf (jf s 0) (l.length-(l.filter (lw x)).length)=jf (jf s (l.length-(l.filter (lw x)).length)) 0:=by
   rw[uy,uy,Nat.zero_add,Nat.add_zero]
  rw[a,b,uy]
  congr 1
  omega
theorem hX (x:ah) (y:List Int) (h:tj x=true):oc x y=(⟨ix y x.c,x.g⟩,jf 0 ((x.c.map List.length).sum-((ix y x.c).map List.length).sum)):=by
 unfold oc;rw[h,cond_true,Gd (xs:=x.c) (f:=fun l=>l.filter (lw y)) (fun j s _ he=>by rw[Bp,he])];show((⟨ix y x.c,x.g⟩:ah),_)=_
 congr 1
 rw[dQ,dQ];have:=(wz y x.c).1;show IntKind.i64.wrap (jf 0 (x.c.map List.length).sum-jf 0 ((ix y x.c).map List.length).sum)=_;unfold jf;simp only[IntKind.wrap_i64];omega
theorem yd (x:ah) (y:List Int) (h:me x=true):lx x y=(⟨ix y x.c,x.g⟩,jf 0 ((x.c.map List.length).sum-((ix y x.c).map List.length).sum)):=by
 unfold lx;rw[h,cond_true];have d:(0:Int)=jf 0 0:=rfl;rw[d];have key:∀ (m k:Nat) (s:Int),m+k=x.c.length->ay (R:=ah×Int) (fun k (s:Int×List (List Qz))=>nR y k s.1 s.2) m k (jf s 0,ix y (x.c.take k)++x.c.drop k)= .inr ((x.c.drop k).foldl (fun(s:Int) l=>jf s (l.length-(l.filter (lw y)).length)) (jf s 0),ix y x.c):=by
  intro m
  induction m with
  |zero=>intro k s hk;rw[ay,List.drop_of_length_le (by omega),List.take_of_length_le (by omega)];simp
  |succ m ih=>
   intro k s hk;have hlt:k<x.c.length:=by omega
   have hd:x.c.drop k=gt x.c k::x.c.drop (k+1):=by rw[List.drop_eq_getElem_cons hlt,gc hlt]
   have hl:(ix y (x.c.take k)).length=k:=by simp[ix];omega
   have hg:gt (ix y (x.c.take k)++x.c.drop k) k=gt x.c k:=by
    rw[hd];exact gS hl
   rw[ay,Iz,hg];show ay _ m (k+1) _=_;have f:(ix y (x.c.take k)++x.c.drop k).set k ((gt x.c k).filter (lw y))=ix y (x.c.take (k+1))++x.c.drop (k+1):=by
    rw[hd,List.set_append_right _ _ (by omega),hl,Nat.sub_self,List.set_cons_zero,List.take_add_one,List.getElem?_eq_getElem hlt, <- gc hlt];simp[ix]
   have b:∀ n,jf s n=jf (jf s n) 0:=fun n=>by rw[uy,Nat.add_zero]
   rw[f,b,ih (k+1) _ (by omega),hd,List.foldl_cons]
   congr 2
   rw[uy,uy,Nat.zero_add,Nat.add_zero]
 have a:=key (x.c.length-0) 0 0 (by omega);rw[List.take_zero,List.drop_zero] at a;have e:ix y []++x.c=x.c:=rfl;rw[e] at a;rw[a,(wz y x.c).2];rfl
theorem eJ (x:ah) (y:List Int):oc x y=lx x y:=by
 cases h:me x with
 |true=>rw[hX x y (by rw[Ms];exact h),yd x y h]
 |false=>
  unfold oc lx;rw[Ms,h];rfl
theorem pG (xs:List Qn) (q:Int):cx xs q<=xs.length:=List.findIdx_le_length
theorem tH {x:Qj} {q:Int} {k:Nat} (hk:k<x.a.length) (h: ¬ cx x.a q<k):decide (q<(gt x.a k).e.Id)=decide (cx x.a q=k):=by
 by_cases c:cx x.a q=k
 ·have b:=pF (xs:=x.a) (q:=q) (by omega);rw[c] at b;rw[decide_eq_true b,decide_eq_true c]
 have b:=pH (xs:=x.a) (q:=q) (j:=k) (by omega);rw[decide_eq_false c,decide_eq_false (by omega)]
theorem kA (x:Qj) (q:bf):
 ay (R:=Qj×Bool) (fun k (s:Bool)=>cI x q k s) (x.a.length-0) 0 false= .inr (decide (cx x.a q.Id<x.a.length)):=by
 have key:∀ m k,m+k=x.a.length->ay (R:=Qj×Bool) (fun k (s:Bool)=>cI x q k s) m k (decide (cx x.a q.Id<k))= .inr (decide (cx x.a q.Id<m+k)):=by
  intro m
  induction m with
  |zero=>intro k _;rw[Nat.zero_add];rfl
  |succ m ih=>
   intro k hk;have hb:cI x q k (decide (cx x.a q.Id<k))= .inr (decide (cx x.a q.Id<k+1)):=by
    unfold cI
    by_cases h:cx x.a q.Id<k
    ·rw[decide_eq_true h,cond_true,decide_eq_true (by omega)]
    rw[decide_eq_false h,cond_false,tH (by omega) h]
    by_cases b:cx x.a q.Id=k
    ·rw[decide_eq_true b,cond_true,decide_eq_true (by omega)]
    rw[decide_eq_false b,cond_false,decide_eq_false (by omega)]
   rw[ay,hb];show ay _ m (k+1) (decide (cx x.a q.Id<k+1))=_;rw[ih (k+1) (by omega)]
   congr 2
   rw[show m+(k+1)=m+1+k by omega]
 have h:=key (x.a.length-0) 0 (by omega);rw[decide_eq_false (Nat.not_lt_zero _)] at h;rw[h];rfl
theorem kV (b:List Int) (D:ar):np 20 (ia b D).1:=by
 unfold ia;have hrw:=kT b D 7 (by omega) (by omega);have hb:=gr b (jh b D 7).2 3;have hb':=hb.2.1 (by omega);have:=gi (n:=2+(Qc b (jh b D 7).2 3).1) (by omega) (by omega);have d:=kL (n:=IntKind.i64.wrap (2+(Qc b (jh b D 7).2 3).1)) hrw.1 (by omega) (by omega) (by omega);have key:∀ (m k:Nat) (s:Int×Nat×Int×(List (List Qz))×Int),np 20 (⟨s.2.2.2.1,s.2.2.2.2⟩:ah)->np 20 (Sum.elim id (fun(s:Int×Nat×Int×(List (List Qz))×Int)=>((⟨s.2.2.2.1,s.2.2.2.2⟩:ah),(⟨s.2.1,s.2.2.1⟩:ar))) (fe (R:=(ah×ar)) (fun k (s:Int×Nat×Int×(List (List Qz))×Int)=>aJ b k s.1 s.2.1 s.2.2.1 s.2.2.2.1 s.2.2.2.2) m k s)).1:=fun m k s e=>by
  obtain⟨s',a,c⟩:=cA (R:=(ah×ar)) (b:=fun k (s:Int×Nat×Int×(List (List Qz))×Int)=>aJ b k s.1 s.2.1 s.2.2.1 s.2.2.2.1 s.2.2.2.2) (P:=fun _ s=>np 20 (⟨s.2.2.2.1,s.2.2.2.2⟩:ah)) (Q:=fun s=>np 20 (⟨s.2.2.2.1,s.2.2.2.2⟩:ah)) (fun k s hp=>by
   show(∃ s',aJ b k s.1 s.2.1 s.2.2.1 s.2.2.2.1 s.2.2.2.2=_∧_)∨∃ s',aJ b k s.1 s.2.1 s.2.2.1 s.2.2.2.1 s.2.2.2.2=_∧_;unfold aJ;cases decide (0<s.1) with
   |true=>exact .inl ⟨_,rfl,xo (by omega) hp _⟩
   |false=>exact .inr ⟨_,rfl,hp⟩) m k s e
  rw[a];exact c.elim id id
 exact key _ _ _ d
theorem Ll {n:Nat} {x:ah} (h:np n x) (y:List Int):np n (⟨ix y x.c,x.g⟩:ah):=by
 refine⟨h.1,(by show 1<=(List.map _ _).length;rw[List.length_map];exact h.2.1),(by show(List.map _ _).length<=8;rw[List.length_map];exact h.2.2.1),fun z hz=>?_⟩;obtain⟨d,a,rfl⟩:=List.mem_map.1 hz;have b:=h.2.2.2 d a;exact⟨Nat.le_trans (List.length_filter_le _ _) b.1,fun v hv=>b.2 v (List.mem_filter.1 hv).1⟩
theorem Bq {n:Nat} {x:ah} (h:np n x) (y:List Int):np n (oc x y).1:=by
 cases a:tj x with
 |true=>rw[hX x y a];exact Ll h y
 |false=>unfold oc;rw[a];exact h
theorem kM {n:Nat} {x:ah} (h:np n x) (y:List Int):np n (lx x y).1:=by
 rw[<- eJ];exact Bq h y
theorem Ak {R S:Type} {P:S->Prop} {c:Bool} {A B:R⊕S} (a:∃ s',A= .inr s'∧P s') (b:∃ s',B= .inr s'∧P s'):∃ s',cond c A B= .inr s'∧P s':=by cases c <;>assumption
theorem Js {id_:bf×ar->bf×ar} (b:List Int) (c:List jj) (t id:Int):∀ (m k:Nat) (s:Int×Nat×Int×(List Int)),(s.1<=3∧s.2.2.2.length+s.1.toNat<=3)->(Sum.elim id_ (fun(s:Int×Nat×Int×(List Int))=>((⟨id,t,c,s.2.2.2⟩:bf),(⟨s.2.1,s.2.2.1⟩:ar))) (fe (R:=(bf×ar)) (fun k (s:Int×Nat×Int×(List Int))=>vm b k s.1 s.2.1 s.2.2.1 s.2.2.2) m k s)).1.o=c∧(Sum.elim id_ (fun(s:Int×Nat×Int×(List Int))=>((⟨id,t,c,s.2.2.2⟩:bf),(⟨s.2.1,s.2.2.1⟩:ar))) (fe (R:=(bf×ar)) (fun k (s:Int×Nat×Int×(List Int))=>vm b k s.1 s.2.1 s.2.2.1 s.2.2.2) m k s)).1.q.length<=3:=fun m k s e=>by
 obtain⟨s',a,d⟩:=cA (R:=(bf×ar)) (b:=fun k (s:Int×Nat×Int×(List Int))=>vm b k s.1 s.2.1 s.2.2.1 s.2.2.2) (P:=fun _ s=>s.1<=3∧s.2.2.2.length+s.1.toNat<=3) (Q:=fun s=>s.2.2.2.length<=3) (fun k s ⟨f,g⟩=>by
  show(∃ s',vm b k s.1 s.2.1 s.2.2.1 s.2.2.2=_∧_)∨∃ s',vm b k s.1 s.2.1 s.2.2.1 s.2.2.2=_∧_;unfold vm
  by_cases h:0<s.1
  ·rw[decide_eq_true h,gi (n:=s.1-1) (by omega) (by omega)];refine .inl ⟨_,rfl,?_,?_⟩
   ·show s.1-1<=3;omega
   show(s.2.2.2++[_]).length+(s.1-1).toNat<=3;rw[List.length_append];show s.2.2.2.length+1+_<=3;omega
  rw[decide_eq_false h]
  exact .inr ⟨_,rfl,by show s.2.2.2.length<=3;omega⟩) m k s e
 rw[a];refine⟨rfl,?_⟩;show s'.2.2.2.length<=3;rcases d with h|h <;>omega
theorem oy (b:List Int) (D:ar) (i:Int):(ff b D i).1.o.length<=3∧(ff b D i).1.q.length<=3:=by
 unfold ff
 obtain⟨a,c,d⟩:=ug (R:=bf×ar) (body:=fun k (s:Nat×Int×List jj)=>nW b D k s.1 s.2.1 s.2.2) (n:=3) (fun k s=>s.2.2.length<=k) (fun k s _ h=>by
  have happ:∀ y,(s.2.2++[y]).length<=k+1:=fun y=>by rw[List.length_append];show s.2.2.length+1<=k+1;omega
  have hkeep:s.2.2.length<=k+1:=by omega
  show ∃ s',nW b D k s.1 s.2.1 s.2.2= .inr s'∧s'.2.2.length<=k+1;unfold nW
  repeat' (first|exact⟨_,rfl,happ _⟩|exact⟨_,rfl,hkeep⟩|apply Ak)) (3-0) 0 ((cy b ((Qc b D 4).2) [3,6,100]).2.i,(cy b ((Qc b D 4).2) [3,6,100]).2.h,[]) (by omega) (Nat.zero_le _)
 rw[c];have hb:=gr b (⟨a.1,a.2.1⟩:ar) 3;have hb':=hb.2.1 (by omega);have hw:=gi (n:=1+(Qc b (⟨a.1,a.2.1⟩:ar) 3).1) (by omega) (by omega);have key:=Js (id_:=id) b a.2.2 (Qc b D 4).1 i ((IntKind.i64.wrap (1+(Qc b (⟨a.1,a.2.1⟩:ar) 3).1)).toNat+1-0) 0 ((IntKind.i64.wrap (1+(Qc b (⟨a.1,a.2.1⟩:ar) 3).1)),(Qc b (⟨a.1,a.2.1⟩:ar) 3).2.i,(Qc b (⟨a.1,a.2.1⟩:ar) 3).2.h,[]) ⟨(by show IntKind.i64.wrap _<=3;omega),(by show 0+(IntKind.i64.wrap _).toNat<=3;omega)⟩;exact⟨Nat.le_trans (Nat.le_of_eq (congrArg List.length key.1)) d,key.2⟩
theorem jF {x:Qj} (h:fr x) (a:Qn):(my x a).length<=4:=Nat.le_trans (rF _ _) (pC h)
def mi (a:Qn):Bool:=((a.t.length:Nat):Int)==0
def pj (n:Int) (a:Qn):Qn:=⟨a.e,a.r,a.t,IntKind.i64.wrap (a.v+1),cond ((Int.tmod (IntKind.i64.wrap (a.v+1)) n)==0) 0 a.A,a.z,a.p⟩
def ot (a:Qn):df:=⟨a.e,a.r,IntKind.i64.wrap (a.v+1),a.p⟩
theorem xa (n:Int):∀ (L:List Qn) (r:List Qn) (d:List df),L.foldl (fun(s:(List Qn)×(List df)) a=>cond (mi a) (s.1,s.2++[ot a]) (s.1++[pj n a],s.2)) (r,d)=(r++(L.filter (fun a=> !mi a)).map (pj n),d++(L.filter mi).map ot)
 | [],r,d=>by simp
 |a::L,r,d=>by
  rw[List.foldl_cons];cases h:mi a with
  |true=>rw[cond_true,xa n L];simp[h]
  |false=>rw[cond_false,xa n L];simp[h]
theorem jC {R:Type} {L:List Qn} {n:Int} {b:Nat->(List Qn)×(List df)->R⊕((List Qn)×(List df))} (hb:∀ k s,k<L.length->b k s= .inr (cond (mi (gt L k)) (s.1,s.2++[ot (gt L k)]) (s.1++[pj n (gt L k)],s.2))) (D:List df):ay b (L.length-0) 0 ([],D)= .inr ((L.filter (fun a=> !mi a)).map (pj n),D++(L.filter mi).map ot):=by
 rw[oh (xs:=L) (f:=fun s a=>cond (mi a) (s.1,s.2++[ot a]) (s.1++[pj n a],s.2)) hb,xa];rfl
def og (x:Qj) (L:List Qn):List Qn:=(L.filter (fun a=> !mi a)).map (pj ((x.d.c.length:Nat):Int))
def uz (x:Qj) (L:List Qn):List df:=x.f++(L.filter mi).map ot
def qd (x:Qj):List fy:=cond (decide (0<(((bv x).length:Nat):Int))) (x.k++[ue x]) x.k
def ny (x:Qj):Qj:=⟨x.d,Int.tmod (IntKind.i64.wrap (x.j+1)) ((x.d.c.length:Nat):Int),x.l,og x (ja x (bv x)),uz x (ja x (bv x)),qd x,IntKind.i64.wrap (x.n+1)⟩
theorem iO {x:Qj} (h:fr x):mq x=mt (ny x):=by
 have hj:cR x= .inr (⟨x.d,x.j,x.l,ja x (bv x),x.f,qd x,x.n⟩:Qj):=by
  unfold cR qd;cases hp:decide (0<(((bv x).length:Nat):Int)) with
  |true=>rw[cond_true,cond_true,mD h]
  |false=>
   have:=of_decide_eq_false hp;have hn:bv x=[]:=List.eq_nil_of_length_eq_zero (by omega);rw[cond_false,cond_false,hn,Ni]
 unfold mq ny og uz;rw[hj];show Sum.elim id _ (ay (R:=Qj) (fun k (s:(List Qn)×(List df))=>nT (⟨x.d,x.j,x.l,ja x (bv x),x.f,qd x,x.n⟩:Qj) k s.1 s.2) ((ja x (bv x)).length-0) 0 ([],x.f))=_
 rw[jC (n:=((x.d.c.length:Nat):Int)) (b:=fun k (s:(List Qn)×(List df))=>nT (⟨x.d,x.j,x.l,ja x (bv x),x.f,qd x,x.n⟩:Qj) k s.1 s.2) (fun k s hk=>by
  unfold nT mi pj ot sF sG;dsimp only
  cases ((Int.tmod (IntKind.i64.wrap (((gt (ja x (bv x)) k).v)+1)) ((x.d.c.length:Nat):Int))==0) <;>cases ((((gt (ja x (bv x)) k).t).length:Nat):Int)==0 <;>rfl)]
 rfl
def lW (a:Qn):Prop:=tD a.e∧a.t.length<=8∧a.p.length<=1004∧∀ r∈a.p,r.m.length=3
theorem xh {x:Qj} (h:fr x) (a:Qn):∀ r∈my x a,kr r=true:=fun r hr=>by
 obtain⟨v,hv,rfl⟩:=List.mem_map.1 hr;exact xl h (List.mem_filter.1 hv).1
theorem fD {x:Qj} (h:fr x) (ids:List Int):∀ a∈ja x ids,lW a:=fun a ha=>by
 obtain⟨b,hb,rfl⟩:=List.mem_map.1 ha;have:=((ka _).1 h.st).1;obtain⟨c,_,f,_,_,_,d,_⟩:=h.act b hb;have ht:=eZ f;cases decide (b.e.Id∈ids) with
 |false=>exact⟨oX c,by show b.t.length<=8;omega,by show b.p.length<=1004;omega,fun r hr=>((ut r).1 (d r hr)).2.2⟩
 |true=>
  refine⟨oX c,?_,?_,fun r hr=>?_⟩
  ·show(b.t.filter _).length<=8;exact Nat.le_trans (List.length_filter_le _ _) (by omega)
  ·show(b.p++my x b).length<=1004;have:=jF h b;rw[List.length_append];omega
  rcases List.mem_append.1 (show r∈b.p++my x b from hr) with hr|hr
  ·exact((ut r).1 (d r hr)).2.2
  exact((ut r).1 (xh h b r hr)).2.2
theorem jB {x:Qj} {L:List Qn} (h:∀ a∈L,lW a):(og x L).length<=L.length∧∀ a∈og x L,lW a:=by
 unfold og;refine⟨by rw[List.length_map];exact List.length_filter_le _ _,fun a ha=>?_⟩;obtain⟨b,hb,rfl⟩:=List.mem_map.1 ha;exact h b (List.mem_filter.1 hb).1
def dH (f:df):Prop:=tD f.e∧f.p.length<=1004∧∀ r∈f.p,r.m.length=3
theorem Ar {L:List Qn} (h:∀ a∈L,lW a):((L.filter mi).map ot).length<=L.length∧∀ f∈(L.filter mi).map ot,dH f:=by
 refine⟨by rw[List.length_map];exact List.length_filter_le _ _,fun f hf=>?_⟩;obtain⟨b,hb,rfl⟩:=List.mem_map.1 hf;obtain⟨c,_,d,e⟩:=h b (List.mem_filter.1 hb).1;exact⟨c,d,e⟩
theorem Ag {x:Qj} (h:fr x):(ue x).w.length<=8∧(ue x).B.length<=8∧(ue x).p.length<=8:=by
 have:=bB h;unfold ue tq th;dsimp only;rw[List.length_map,List.length_map];omega
theorem jY {l:List ax} {n:Nat} (hn:n<=68719476736) (b:l.length<=n) (a:∀ r∈l,r.m.length=3):l.length<=68719476736∧∀ y∈l,pu 68719476736 y:=
 ⟨by omega,fun y hy=>by have:=a y hy;show y.m.length<=_;omega⟩
theorem tL {a:Qn} (h:lW a):rK 68719476736 a:=by
 obtain⟨⟨_,_,_,_,c1,_,_,_⟩,_,b,c⟩:=h;exact⟨⟨by omega,by omega⟩,by omega,jY (n:=1004) (by decide) b c⟩
theorem tM {f:df} (h:dH f):rM 68719476736 f:=by
 obtain⟨⟨_,_,_,_,c1,_,_,_⟩,a,b⟩:=h;exact⟨⟨by omega,by omega⟩,jY (n:=1004) (by decide) a b⟩
def pq (x:Qj):Bool:=iu x && !decide (100000<=x.n) && !decide (1000<=((x.k.length:Nat):Int)) && !decide (1000<((x.f.length+x.a.length:Nat):Int))
theorem tx (x:Qj):gp x=cond (pq x) (mt (ny x),true) (x,false):=by
 unfold gp pq;cases hE:iu x with
 |false=>rfl
 |true=>
  rw[iO ((nu x).1 hE)];cases decide (100000<=x.n) <;>cases decide (1000<=((x.k.length:Nat):Int)) <;>cases decide (1000<((x.f.length+x.a.length:Nat):Int)) <;>rfl
theorem uw {x:Qj} (h:pq x=true):fr x∧x.n<100000∧x.k.length<1000∧x.f.length+x.a.length<=1000:=by
 unfold pq at h;simp only[Bool.and_eq_true,Bool.not_eq_true',decide_eq_false_iff_not] at h;exact⟨(nu x).1 h.1.1.1,by omega,by omega,by omega⟩
theorem sg (e:Qj):mt e=⟨(lx e.d (e.a.map fun a=>a.r)).1,e.j,e.l,e.a,e.f,e.k,e.n⟩:=by
 unfold mt;rw[oh (R:=Qj) (xs:=e.a) (f:=fun d a=>d++[a.r]) (b:=fun k s=>sV e k s) (fun _ _ _=>rfl)];have:=ti (fun _:Qn=>true) (fun a=>a.r) e.a [];have c:e.a.foldl (fun d a=>d++[a.r]) []=e.a.map fun a=>a.r:=by
  rw[show e.a.foldl (fun d a=>d++[a.r]) []=e.a.foldl (fun d a=>cond true (d++[a.r]) d) [] from rfl,this,List.nil_append,List.filter_eq_self.2 (fun _ _=>rfl)]
 rw[c];rfl
theorem Ft {B:Nat} {d:List (List Qz)} (h:d.length<=B∧∀ y∈d,(y.length<=B∧∀ z∈y,cH B z)) (k:List Int):(ix k d).length<=B∧∀ y∈ix k d,(y.length<=B∧∀ z∈y,cH B z):=by
 unfold ix;refine⟨by rw[List.length_map];exact h.1,fun y hy=>?_⟩;obtain⟨l,hl,rfl⟩:=List.mem_map.1 hy;exact⟨Nat.le_trans (List.length_filter_le _ _) (h.2 l hl).1,fun z hz=>(h.2 l hl).2 z (List.mem_filter.1 hz).1⟩
theorem eN {B:Nat} {s:ah} (h:mo B s) (k:List Int):mo B (lx s k).1:=by
 cases a:me s with
 |false=>rw[show lx s k=(s,0) from by unfold lx;rw[a];rfl];exact h
 |true=>rw[yd s k a];exact Ft h k
theorem Nc {x:Qj} (h:ju 68719476736 x):ju 68719476736 (gp x).1:=by
 rw[tx];cases hc:pq x with
 |false=>exact h
 |true=>
  obtain⟨hE,_,_,_⟩:=uw hc;have hb:=fD hE (bv x);have hl:=tf x (bv x);obtain⟨_,d⟩:=jB (x:=x) hb;obtain⟨f1,f2⟩:=Ar hb;have:=hE.al;rw[cond_true,sg];refine⟨eN h.1 _,h.2.1,⟨?_,fun a ha=>tL (d a ha)⟩,⟨?_,fun f hf=>?_⟩,?_,fun c hc=>?_⟩
  ·show(og x _).length<=_;omega
  ·show(x.f++_).length<=_;rw[List.length_append];omega
  ·rcases List.mem_append.1 (show f∈x.f++_ from hf) with hf|hf
   ·exact h.2.2.2.1.2 f hf
   exact tM (f2 f hf)
  ·show(qd x).length<=_;unfold qd;cases decide (0<(((bv x).length:Nat):Int)) with
   |true=>rw[cond_true,List.length_append];show _+1<=_;omega
   |false=>rw[cond_false];omega
  have hg:cE 68719476736 (ue x):=by
   obtain⟨a,b,c⟩:=Ag hE;exact⟨by omega,by omega,by omega⟩
  have hc':c∈qd x:=hc;unfold qd at hc'
  revert hc'
  cases decide (0<(((bv x).length:Nat):Int)) with
  |true=>
   rw[cond_true];intro hc';rcases List.mem_append.1 hc' with hc'|hc'
   ·exact h.2.2.2.2.2 c hc'
   rw[List.mem_singleton.1 hc'];exact hg
  |false=>rw[cond_false];exact h.2.2.2.2.2 c
def so (x:Qj) (q:bf) (l:Int):Qn:=⟨q,x.d.g,(List.range x.d.c.length).map fun(k:Nat)=>((k:Nat):Int),0,0,l,[]⟩
def mJ (x:Qj) (q:bf) (l:Int):Qj:=⟨x.d,x.j,x.l,((List.take (cx x.a q.Id) x.a++[so x q l])++List.drop (cx x.a q.Id) x.a),x.f,x.k,x.n⟩
def ub (x:Qj) (q:bf) (l:Int):Bool:=iu x && ki q && ci l 0 32 && !decide (0<=da x q.Id) && !decide (8<=((x.a.length:Nat):Int))
theorem tF (n:Nat):(ay (R:=(Qj×Bool)) (fun k (s:(List Int))=>ve k s) (n-0) 0 [])= .inr ((List.range n).map fun(k:Nat)=>((k:Nat):Int)):=by
 have key:∀ m k,ay (R:=(Qj×Bool)) (fun k (s:(List Int))=>ve k s) m k ((List.range k).map fun(k:Nat)=>((k:Nat):Int))= .inr ((List.range (m+k)).map fun(k:Nat)=>((k:Nat):Int)):=by
  intro m
  induction m with
  |zero=>intro k;rw[Nat.zero_add];rfl
  |succ m ih=>
   intro k;have hb:ve k ((List.range k).map fun(k:Nat)=>((k:Nat):Int))= .inr ((List.range (k+1)).map fun(k:Nat)=>((k:Nat):Int)):=by
    unfold ve;rw[List.range_succ,List.map_append];rfl
   rw[ay,hb];show ay _ m (k+1) _=_;rw[ih (k+1),show m+(k+1)=m+1+k by omega]
 have h:=key (n-0) 0;rw[List.range_zero] at h;exact h
theorem dJ (x:Qj) (q:bf) (l:Int):ge x q l=cond (ub x q l) (mJ x q l,true) (x,false):=by
 unfold ge ub;cases iu x with
 |false=>rfl
 |true=>
 cases ki q with
 |false=>rfl
 |true=>
 cases ci l 0 32 with
 |false=>rfl
 |true=>
 cases decide (0<=da x q.Id) with
 |true=>rfl
 |false=>
 cases decide (8<=((x.a.length:Nat):Int)) with
 |true=>rfl
 |false=>
  have ht:ay (R:=(Qj×Bool)) (fun k (s:(List Int))=>ve k s) (x.d.c.length-0) 0 []= .inr ((List.range x.d.c.length).map fun(k:Nat)=>((k:Nat):Int)):=tF _;rw[ht,kA];have hj:=pG x.a q.Id
  by_cases h:cx x.a q.Id<x.a.length
  ·rw[decide_eq_true h];rfl
  have e:x.a.length=cx x.a q.Id:=by omega
  rw[decide_eq_false h];show(((⟨x.d,x.j,x.l,((List.take x.a.length x.a++[so x q l])++List.drop x.a.length x.a),x.f,x.k,x.n⟩:Qj),true))=_;rw[e];rfl
def kx (e:Qj):Prop:=ju 68719476736 e∧(e.d.c.length=0∨np 20 e.d)
theorem uL {e:Qj} (h:kx e):(e.d.c.map List.length).sum<=68719476736:=by
 rcases h.2 with h|h
 ·rw[List.eq_nil_of_length_eq_zero h];decide
 exact lB h
theorem dZ {s:ah} (h:np 20 s):kx (lu s).1:=by
 unfold lu;cases me s with
 |true=>exact⟨⟨cX h,(by show 3<=68719476736;decide),⟨Nat.zero_le _,fun y hy=>by cases hy⟩,⟨Nat.zero_le _,fun y hy=>by cases hy⟩,Nat.zero_le _,fun y hy=>by cases hy⟩, .inr h⟩
 |false=>exact⟨⟨⟨Nat.zero_le _,fun y hy=>by cases hy⟩,Nat.zero_le _,⟨Nat.zero_le _,fun y hy=>by cases hy⟩,⟨Nat.zero_le _,fun y hy=>by cases hy⟩,Nat.zero_le _,fun y hy=>by cases hy⟩, .inl rfl⟩
theorem eI {e:Qj} (h:kx e):kx (mt e):=by
 rw[sg];refine⟨⟨eN h.1.1 _,h.1.2⟩,?_⟩;rcases h.2 with b|b
 ·left
  cases c:me e.d with
  |false=>rw[show lx e.d (e.a.map fun a=>a.r)=(e.d,0) from by unfold lx;rw[c];rfl];exact b
  |true=>have:=((ka _).1 c).1;omega
 exact .inr (kM b _)
theorem zm {e:Qj} (h:kx e):kx (gp e).1:=by
 refine⟨Nc h.1,?_⟩;rw[tx];cases hc:pq e with
 |false=>exact h.2
 |true=>
  have hE:=(uw hc).1;rw[cond_true,sg];rcases h.2 with a|a
  ·have:=((ka _).1 hE.st).1;omega
  exact .inr (kM (x:=(ny e).d) a _)
theorem aW {e:Qj} {q:bf} {l:Int} (h:kx e) (hq:lq 68719476736 q):kx (ge e q l).1:=by
 rw[dJ];cases ha:ub e q l with
 |false=>exact h
 |true=>
  unfold ub at ha;simp only[Bool.and_eq_true,Bool.not_eq_true',decide_eq_false_iff_not] at ha;have hE:=(nu e).1 ha.1.1.1.1;have:=ha.2;have:=((ka _).1 hE.st).1;obtain⟨⟨g,i,f,j⟩,k⟩:=h;refine⟨⟨g,i,⟨?_,fun a b=>?_⟩,j⟩,k⟩
  ·show((List.take _ e.a++[so e q l])++List.drop _ e.a).length<=_;rw[List.length_append,List.length_append,List.length_take,List.length_drop];show _+1+_<=_;omega
  rcases List.mem_append.1 (show a∈(List.take _ e.a++[so e q l])++List.drop _ e.a from b) with b|b
  ·rcases List.mem_append.1 b with b|b
   ·exact f.2 a (List.mem_of_mem_take b)
   rw[List.mem_singleton.1 b];refine⟨hq,?_,Nat.zero_le _,fun y hy=>by cases hy⟩;show((List.range e.d.c.length).map _).length<=_;rw[List.length_map,List.length_range];omega
  exact f.2 a (List.mem_of_mem_drop b)
theorem bC {e:Qj} (h:kx e) (u:fc):kx (nc e u).1:=by
 unfold nc;cases hE:iu e with
 |false=>exact h
 |true=>
 cases (ed e.d u).2 with
 |false=>exact h
 |true=>
  refine eI ⟨⟨kC h.1.1 u,h.1.2⟩,?_⟩;rcases h.2 with a|a
  ·have:=((ka _).1 ((nu e).1 hE).st).1;omega
  exact .inr (xo (by decide) a u)
theorem aY {e:Qj} (h:kx e) (i:Int):kx (na e i).1:=by
 unfold na;cases hE:iu e with
 |false=>exact h
 |true=>
 cases hf:decide (da e i<0) with
 |true=>exact h
 |false=>
  have:=of_decide_eq_false hf;have:=nJ e i;have:=((nu e).1 hE).al;exact eI ⟨uM h.1 (by rw[gi (by omega) (by omega)];omega),h.2⟩
theorem oo {q:bf} (h:q.o.length<=3∧q.q.length<=3):lq 68719476736 q:=⟨by omega,by omega⟩
def cV (a:List Int) (g:Nat) (f:Int) (b:Nat) (c:Int) (e:Qj):(Qj×ar)⊕((Int×Nat×Int×Qj)⊕(Int×Nat×Int×Qj)):=
 cond (decide (0<f)) (cond ((Qc a (⟨b,c⟩:ar) 7).1==0) (Sum.inr (Sum.inr ((IntKind.i64.wrap (f-1)),(cy a (ff a ((Qc a (Qc a (⟨b,c⟩:ar) 7).2 6).2) ((Qc a (Qc a (⟨b,c⟩:ar) 7).2 6).1)).2 [0,0,1,2]).2.i,(cy a (ff a ((Qc a (Qc a (⟨b,c⟩:ar) 7).2 6).2) ((Qc a (Qc a (⟨b,c⟩:ar) 7).2 6).1)).2 [0,0,1,2]).2.h,((ge e (ff a ((Qc a (Qc a (⟨b,c⟩:ar) 7).2 6).2) ((Qc a (Qc a (⟨b,c⟩:ar) 7).2 6).1)).1 (cy a (ff a ((Qc a (Qc a (⟨b,c⟩:ar) 7).2 6).2) ((Qc a (Qc a (⟨b,c⟩:ar) 7).2 6).1)).2 [0,0,1,2]).1).1)))) (cond ((Qc a (⟨b,c⟩:ar) 7).1==1) (Sum.inr (Sum.inr ((IntKind.i64.wrap (f-1)),(cy a (ff a ((Qc a (Qc a (⟨b,c⟩:ar) 7).2 6).2) ((Qc a (Qc a (⟨b,c⟩:ar) 7).2 6).1)).2 [0,0,1,2]).2.i,(cy a (ff a ((Qc a (Qc a (⟨b,c⟩:ar) 7).2 6).2) ((Qc a (Qc a (⟨b,c⟩:ar) 7).2 6).1)).2 [0,0,1,2]).2.h,((ge e (ff a ((Qc a (Qc a (⟨b,c⟩:ar) 7).2 6).2) ((Qc a (Qc a (⟨b,c⟩:ar) 7).2 6).1)).1 (cy a (ff a ((Qc a (Qc a (⟨b,c⟩:ar) 7).2 6).2) ((Qc a (Qc a (⟨b,c⟩:ar) 7).2 6).1)).2 [0,0,1,2]).1).1)))) (cond ((Qc a (⟨b,c⟩:ar) 7).1==2) (Sum.inr (Sum.inr ((IntKind.i64.wrap (f-1)),(kv a (Qc a (⟨b,c⟩:ar) 7).2 e.d).2.i,(kv a (Qc a (⟨b,c⟩:ar) 7).2 e.d).2.h,((nc e (kv a (Qc a (⟨b,c⟩:ar) 7).2 e.d).1).1)))) (cond ((Qc a (⟨b,c⟩:ar) 7).1==3) (Sum.inr (Sum.inr ((IntKind.i64.wrap (f-1)),((Qc a (Qc a (⟨b,c⟩:ar) 7).2 6).2).i,((Qc a (Qc a (⟨b,c⟩:ar) 7).2 6).2).h,((na e ((Qc a (Qc a (⟨b,c⟩:ar) 7).2 6).1)).1)))) (Sum.inr (Sum.inr ((IntKind.i64.wrap (f-1)),(Qc a (⟨b,c⟩:ar) 7).2.i,(Qc a (⟨b,c⟩:ar) 7).2.h,((gp e).1)))))))) (Sum.inr (Sum.inl (f,b,c,e)))
def bk (a:List Int) (b:ar) (c:Int):(Qj×ar):=
 Sum.elim id (fun(s:Int×Nat×Int×Qj)=>(s.2.2.2,(⟨s.2.1,s.2.2.1⟩:ar))) (fe (R:=(Qj×ar)) (fun k (s:Int×Nat×Int×Qj)=>cV a k s.1 s.2.1 s.2.2.1 s.2.2.2) (((Qc a ((ia a b).2) c).1).toNat+1-0) 0 ((Qc a ((ia a b).2) c).1,(Qc a ((ia a b).2) c).2.i,(Qc a ((ia a b).2) c).2.h,((lu ((ia a b).1)).1)))
theorem yU:Cb Tryz.prog 156:=⟨f156,_,func156,rfl,by decide⟩
theorem Kz (B:Nat) (w0:World) (is:List It) (w:World) (p:Nat) (z0:Value) (b:List Int) (O:ar) (x3:ce mx w0 B z0 b) (x1:Int) (P:b.length<=68719476736) (v5:0<=x1∧x1<=14) (v:Mem B w0 (Qa p 177 [z0,nI O.i,iV O.h]::is) w):
 Calls Tryz.prog 156 #[.pointer (sA p),iV x1] w fun e w'=>∃ x:List Value,e= .returned (.agg x.toArray)∧Mem B w0 (Qh cv x ((bk b O x1).1)::Qa p 177 [z0,nI (((bk b O x1).2).i),iV ((bk b O x1).2).h]::is) w':=by
 obtain⟨_,A2,c3,rfl,_,r5⟩:=Ql x3;refine oq (L:=[(0, .pointer (sA p)),(1,iV x1)]) (N:=67) func156 rfl rfl (Nat.le_of_ble_eq_true rfl) (jr rfl (jr rfl mm)) v ?_;have:b.length<=68719476736:=P;refine sr ?_;refine ca ai rfl (Qe rfl) (by decide) (fun p7=>?_);refine aa (sr (wm ?_));let K3:List Value:=[.slice none 0 0,iV 0,iV 0, .slice none 0 0, .slice none 0 0, .slice none 0 0, .slice none 0 0,iV 0];let b2:List It:=Qa p7 39 K3::is;refine dt (χ:=List Value) (val:=fun x=> .agg x.toArray) (js:=fun x=>(Qh ez x ((ia b O).1)::Qa p 177 [.slice A2 b.length c3,nI (((ia b O).2).i),iV ((ia b O).2).h]::b2)) (Qp zQ rfl) (fun W v=>Kp B w0 b2 W p _ b O r5 P (v.front (n:=1) rfl)) (Qe rfl) (by decide) (fun _=>?_);have hsd:=kV b O;refine ng ?_;rintro _ rfl;refine fm 0 ?_;rintro o3 u3 rfl w5;refine li (χ:=List Value) (val:=fun x=> .tuple #[.agg x.toArray, .bool ((lu ((ia b O).1)).2)]) (js:=fun x=>[Qh cv x ((lu ((ia b O).1)).1)]) (Qp zP rfl) (fun W v=>Ir W _ ((ia b O).1) (km (x:=((ia b O).1)) (v.rdSI (n:=0) rfl)) (cX hsd)) (Qe rfl) (by decide) (fun _=>?_);have hnw:=dZ hsd;refine kl ?_;rintro⟨_,_,_,_,_⟩ rfl;refine fm 0 ?_;rintro U1 g2 rfl x5;refine fm 1 ?_;rintro V1 h2 rfl y5;refine fm 2 ?_;rintro W1 i2 rfl z5;refine fm 3 ?_;rintro X1 j2 rfl A5;refine fm 4 ?_;rintro Y1 l2 rfl B5;refine wm ?_;refine wv (fun W v=>gw rfl rfl) ?_;refine wv (fun W v=>gw rfl rfl) ?_;refine ca ai rfl (Qe rfl) (by decide) (fun K=>?_);let K4:List Value:=[.slice U1 (((lu ((ia b O).1)).1).d.c).length g2,iV (((lu ((ia b O).1)).1).d.g),iV (((lu ((ia b O).1)).1).j), .slice V1 (((lu ((ia b O).1)).1).l).length h2, .slice W1 (((lu ((ia b O).1)).1).a).length i2, .slice X1 (((lu ((ia b O).1)).1).f).length j2, .slice Y1 (((lu ((ia b O).1)).1).k).length l2,iV (((lu ((ia b O).1)).1).n)];refine eu (p:=K) (o:=0) (cs':=K4) (fun w v=>v.front (n:=0) rfl) ai rfl (Nat.le_of_ble_eq_true rfl) rfl rfl rfl rfl (Qe rfl) ?_;refine wa (aa (Qk (sr (wm (wm ?_)))));let p3:It:=iS (ab Qy 163) 100 U1 g2 (((lu ((ia b O).1)).1).d.c);let q3:It:=iS Qb 3 V1 h2 (((lu ((ia b O).1)).1).l);let r3:It:=iS Qt 61 W1 i2 (((lu ((ia b O).1)).1).a);let s3:It:=iS bb 80 X1 j2 (((lu ((ia b O).1)).1).f);let t3:It:=iS ba 102 Y1 l2 (((lu ((ia b O).1)).1).k);let G2:It:=iS (ab Qy 163) 100 o3 u3 (((ia b O).1).c);let p0:List It:=G2::b2;let L2:List It:=Qa K 39 K4::p3::q3::r3::s3::t3::p0;refine dt (χ:=Unit) (val:=fun x=>iV ((Qc b ((ia b O).2) x1).1)) (js:=fun x=>(Qa p 177 [.slice A2 b.length c3,nI (((Qc b ((ia b O).2) x1).2).i),iV ((Qc b ((ia b O).2) x1).2).h]::L2)) (Qp iq rfl) (fun W v=>iv B w0 L2 W p _ b ((ia b O).2) r5 x1 P (v.front (n:=7) rfl)) (Qe rfl) (by decide) (fun _=>?_);have hb:=gr b ((ia b O).2) x1;obtain⟨D,d0⟩:∃ G,G=(Qc b ((ia b O).2) x1):=⟨_,rfl⟩;rw[<- d0];rw[<- d0] at hb;refine wa (aa ?_);let F1:=fun k (s:Int×Nat×Int×Qj)=>cV b k s.1 s.2.1 s.2.2.1 s.2.2.2
 let R2:=fe (R:=(Qj×ar)) F1;refine pb (σ:=(Int×Nat×Int×Qj)×(Option Addr×Nat×Option Addr×Nat×Option Addr×Nat×Option Addr×Nat×Option Addr×Nat)) (fun s=>[(4,bp p7),(5,bp K)]) (fun s=>(Qa p 177 [.slice A2 b.length c3,nI s.1.2.1,iV s.1.2.2.1]::Qa K 39 [.slice s.2.1 s.1.2.2.2.d.c.length s.2.2.1,iV s.1.2.2.2.d.g,iV s.1.2.2.2.j, .slice s.2.2.2.1 s.1.2.2.2.l.length s.2.2.2.2.1, .slice s.2.2.2.2.2.1 s.1.2.2.2.a.length s.2.2.2.2.2.2.1, .slice s.2.2.2.2.2.2.2.1 s.1.2.2.2.f.length s.2.2.2.2.2.2.2.2.1, .slice s.2.2.2.2.2.2.2.2.2.1 s.1.2.2.2.k.length s.2.2.2.2.2.2.2.2.2.2,iV s.1.2.2.2.n]::iS (ab Qy 163) 100 s.2.1 s.2.2.1 s.1.2.2.2.d.c::iS Qb 3 s.2.2.2.1 s.2.2.2.2.1 s.1.2.2.2.l::iS Qt 61 s.2.2.2.2.2.1 s.2.2.2.2.2.2.1 s.1.2.2.2.a::iS bb 80 s.2.2.2.2.2.2.2.1 s.2.2.2.2.2.2.2.2.1 s.1.2.2.2.f::iS ba 102 s.2.2.2.2.2.2.2.2.2.1 s.2.2.2.2.2.2.2.2.2.2 s.1.2.2.2.k::p0)) (fun s=>R2 ((D.1).toNat+1-0) 0 (D.1,D.2.i,D.2.h,((lu ((ia b O).1)).1))=Sum.inr s.1) ?_ ?_
 ·refine aw ?_;refine tc (σ:=Nat×(Int×Nat×Int×Qj)×(Option Addr×Nat×Option Addr×Nat×Option Addr×Nat×Option Addr×Nat×Option Addr×Nat)) (fun s=>[(0,bp p),(4,bp p7),(5,bp K),(7,iV s.2.1.1)]) (fun s=>(Qa p 177 [.slice A2 b.length c3,nI s.2.1.2.1,iV s.2.1.2.2.1]::Qa K 39 [.slice s.2.2.1 s.2.1.2.2.2.d.c.length s.2.2.2.1,iV s.2.1.2.2.2.d.g,iV s.2.1.2.2.2.j, .slice s.2.2.2.2.1 s.2.1.2.2.2.l.length s.2.2.2.2.2.1, .slice s.2.2.2.2.2.2.1 s.2.1.2.2.2.a.length s.2.2.2.2.2.2.2.1, .slice s.2.2.2.2.2.2.2.2.1 s.2.1.2.2.2.f.length s.2.2.2.2.2.2.2.2.2.1, .slice s.2.2.2.2.2.2.2.2.2.2.1 s.2.1.2.2.2.k.length s.2.2.2.2.2.2.2.2.2.2.2,iV s.2.1.2.2.2.n]::iS (ab Qy 163) 100 s.2.2.1 s.2.2.2.1 s.2.1.2.2.2.d.c::iS Qb 3 s.2.2.2.2.1 s.2.2.2.2.2.1 s.2.1.2.2.2.l::iS Qt 61 s.2.2.2.2.2.2.1 s.2.2.2.2.2.2.2.1 s.2.1.2.2.2.a::iS bb 80 s.2.2.2.2.2.2.2.2.1 s.2.2.2.2.2.2.2.2.2.1 s.2.1.2.2.2.f::iS ba 102 s.2.2.2.2.2.2.2.2.2.2.1 s.2.2.2.2.2.2.2.2.2.2.2 s.2.1.2.2.2.k::p0)) (fun s=>s.1+((s.2.1.1).toNat)+1<=(D.1).toNat+1∧R2 ((D.1).toNat+1-s.1) s.1 s.2.1=R2 ((D.1).toNat+1-0) 0 (D.1,D.2.i,D.2.h,((lu ((ia b O).1)).1))∧kx s.2.1.2.2.2∧0<=s.2.1.1∧s.2.1.1<=14) (fun s=>(D.1).toNat+1-s.1) (0,(D.1,D.2.i,D.2.h,((lu ((ia b O).1)).1)),(U1,g2,V1,h2,W1,i2,X1,j2,Y1,l2)) dy ⟨(show 0+((D.1).toNat)+1<=(D.1).toNat+1 from by omega),rfl,hnw,(show 0<=D.1 from by omega),(show D.1<=14 from by omega)⟩ ?_;rintro⟨M,⟨I,l0,m0,r⟩,⟨h0,i0,T,Z,U,a0,V,b0,X,c0⟩⟩ F2 _ _ e e';dsimp only at F2 ⊢;subst e e';obtain⟨_,o0,C,_,_⟩:=F2;have hsm:=C.1;have HQ:=uL C;have:=gi (n:=I-1) (by omega) (by omega);refine Qk (sr (wm ?_));refine wv (fun W v=>ij rfl rfl) ?_;refine aa ?_;rcases eg (0<I) with⟨v3,q0⟩|⟨v3,q0⟩
  ·refine Qr rfl q0 ?_;refine aj (Qi (Qk (aw (sr ?_))));let K5:List Value:=[.slice h0 r.d.c.length i0,iV r.d.g,iV r.j, .slice T r.l.length Z, .slice U r.a.length a0, .slice V r.f.length b0, .slice X r.k.length c0,iV r.n];refine wv (fun W v=>Qv (cs:=K5) Qs ai rfl rfl (v.boxCells (n:=1) rfl)) ?_;refine ca ai rfl (Qe rfl) (by decide) (fun g0=>?_);refine eu (p:=g0) (o:=0) (cs':=K5) (fun w v=>v.front (n:=0) rfl) ai rfl (Nat.le_of_ble_eq_true rfl) rfl rfl rfl rfl (Qe rfl) ?_;refine aa (Qk (sr (wm ?_)));let B0:It:=iS (ab Qy 163) 100 h0 i0 r.d.c;let z:List It:=Qa g0 39 K5::Qa K 39 K5::B0::iS Qb 3 T Z r.l::iS Qt 61 U a0 r.a::iS bb 80 V b0 r.f::iS ba 102 X c0 r.k::p0;refine dt (χ:=Unit) (val:=fun x=>iV ((Qc b (⟨l0,m0⟩:ar) 7).1)) (js:=fun x=>(Qa p 177 [.slice A2 b.length c3,nI (((Qc b (⟨l0,m0⟩:ar) 7).2).i),iV ((Qc b (⟨l0,m0⟩:ar) 7).2).h]::z)) (Qp iq rfl) (fun W v=>iv B w0 z W p _ b (⟨l0,m0⟩:ar) r5 7 P (v.front (n:=1) rfl)) (Qe rfl) (by decide) (fun _=>?_);have hb:=gr b (⟨l0,m0⟩:ar) 7;obtain⟨t,k0⟩:∃ G,G=(Qc b (⟨l0,m0⟩:ar) 7):=⟨_,rfl⟩;rw[<- k0];rw[<- k0] at hb;refine aa (aw (Qk (sr ?_)));refine wv (fun W v=>er rfl rfl) ?_;refine wa (aa ?_);rcases fl t.1 0 with⟨w3,r0⟩|⟨w3,r0⟩
   ·refine Qr rfl r0 ?_;refine aj (Qi ?_);refine Qr rfl r0 ?_;obtain⟨A,e0⟩:∃ G,G=(ff b ((Qc b t.2 6).2) ((Qc b t.2 6).1)):=⟨_,rfl⟩;refine iz 13 [12] (s:=(Qa K 39 K5::B0::iS Qb 3 T Z r.l::iS Qt 61 U a0 r.a::iS bb 80 V b0 r.f::iS ba 102 X c0 r.k::p0)) (s2:=z) (pn 10 [2,3,4,5,6,7,8,9]) (pn 10 [1,2,3,4,5,6,7,8,9]) ?_;let K6:List Value:=[.slice A2 b.length c3,nI A.2.i,iV A.2.h];refine py (σ:=Option Addr×Nat×Option Addr×Nat×Nat) (fun s=>z) 13 127 6 (fun s=>[(0,bp p),(4,bp p7),(5,bp K),(7,iV I),(8,bp g0),(34, .agg #[.slice h0 r.d.c.length i0,iV r.d.g,iV r.j, .slice T r.l.length Z, .slice U r.a.length a0, .slice V r.f.length b0, .slice X r.k.length c0,iV r.n]),(39,bp p),(38, .agg #[iV A.1.Id,iV A.1.u, .slice s.1 A.1.o.length s.2.1, .slice s.2.2.1 A.1.q.length s.2.2.2.1]),(40, .slice (some ⟨s.2.2.2.2,0,none⟩) 4 4)]) (fun s=>(Qa s.2.2.2.2 3 [iV 0,iV 0,iV 1,iV 2]::iS cg 180 s.1 s.2.1 A.1.o::iS Qb 3 s.2.2.1 s.2.2.2.1 A.1.q::Qa p 177 K6::z)) ?_ (fun H=>?_)
    ·rintro⟨Z1,m2,a2,n2,o2⟩;show QD _ _ _ _ _ _ _ _ [(0,bp p),(4,bp p7),(5,bp K),(7,iV I),(8,bp g0),(34, .agg #[.slice h0 r.d.c.length i0,iV r.d.g,iV r.j, .slice T r.l.length Z, .slice U r.a.length a0, .slice V r.f.length b0, .slice X r.k.length c0,iV r.n]),(39,bp p),(38, .agg #[iV A.1.Id,iV A.1.u, .slice Z1 A.1.o.length m2, .slice a2 A.1.q.length n2]),(40, .slice (sA o2) 4 4)] _ z _ (Qa o2 3 [iV 0,iV 0,iV 1,iV 2]::iS cg 180 Z1 m2 A.1.o::iS Qb 3 a2 n2 A.1.q::Qa p 177 K6::z);refine mb (n:=1) rfl ?_;intro C5 D5;refine mb (n:=2) rfl ?_;intro E5 F5;refine be 13 7 255 rfl ?_;refine kh (fun W v=>Mem.litOwn (E:=Qb) (xs:=[0,0,1,2]) rfl (show 4<=maxLen from by decide) (fun _=>(du (E:=Qb) (L1:=[]) cq (du (E:=Qb) (L1:=[]) cq (du (E:=Qb) (L1:=[]) cq (du (E:=Qb) (L1:=[]) cq ic))))) (v.front (n:=0) rfl)) ?_;let M2:List It:=iS cg 180 Z1 m2 A.1.o::iS Qb 3 a2 n2 A.1.q::z;refine dt (χ:=Unit) (val:=fun x=>iV ((cy b A.2 [0,0,1,2]).1)) (js:=fun x=>(Qa p 177 [.slice A2 b.length c3,nI (((cy b A.2 [0,0,1,2]).2).i),iV ((cy b A.2 [0,0,1,2]).2).h]::Qh (ab Qb 3) [.slice (sA o2) 4 4] [0,0,1,2]::M2)) (Qp qk rfl) (fun W v=>ra B w0 M2 W p _ b A.2 r5 _ [0,0,1,2] P (Nat.le_of_ble_eq_true rfl) (by first|decide|exact Nat.succ_pos _) ((v.front (n:=0) rfl).front (n:=3) rfl)) (Qe rfl) (by decide) (fun _=>?_);obtain⟨Y,P1⟩:∃ G,G=(cy b A.2 [0,0,1,2]):=⟨_,rfl⟩;rw[<- P1];refine av (pn 13 [5,6,7,8,9,10,11,12]) (pn 13 [4,5,6,7,8,9,10,11,12]) ?_;refine be 13 8 511 rfl ?_;refine li (χ:=List Value) (val:=fun x=> .tuple #[.agg x.toArray, .bool ((ge r A.1 Y.1).2)]) (js:=fun x=>[Qh cv x ((ge r A.1 Y.1).1)]) (Qp Nw rfl) (fun W v=>xn W _ r _ A.1 Y.1 (gm (x:=r) (v.rdSI (n:=6) rfl) (v.rdSI (n:=7) rfl) (v.rdSI (n:=8) rfl) (v.rdSI (n:=9) rfl) (v.rdSI (n:=10) rfl)) (lb (x:=A.1) (v.rdSI (n:=2) rfl) (v.rdSI (n:=3) rfl)) hsm (by first|exact cX hsd|exact oo hqf|exact hus|(rw[e0];exact oo (oy _ _ _)))) (Qe rfl) (by decide) (fun _=>?_);refine kl ?_;rintro⟨_,_,_,_,_⟩ rfl;refine fm 0 ?_;rintro E2 i3 rfl B3;refine fm 1 ?_;rintro K0 l1 rfl C3;refine fm 2 ?_;rintro L0 n1 rfl D3;refine fm 3 ?_;rintro M0 o1 rfl E3;refine fm 4 ?_;rintro N0 p1 rfl F3;refine av (pn 18 [10,11,12,13,14,15,16,17]) (pn 18 [9,10,11,12,13,14,15,16,17]) ?_;refine ae 13 9 1023 rfl ap ?_;refine ae 13 10 2047 rfl (fun W v=>gw rfl rfl) ?_;refine sc 13 11 4095 rfl (fun W=>gw rfl rfl) ?_;refine be 13 12 8191 rfl ?_;let K7:List Value:=[.slice E2 (((ge r A.1 Y.1).1).d.c).length i3,iV (((ge r A.1 Y.1).1).d.g),iV (((ge r A.1 Y.1).1).j), .slice K0 (((ge r A.1 Y.1).1).l).length l1, .slice L0 (((ge r A.1 Y.1).1).a).length n1, .slice M0 (((ge r A.1 Y.1).1).f).length o1, .slice N0 (((ge r A.1 Y.1).1).k).length p1,iV (((ge r A.1 Y.1).1).n)];refine eu (p:=g0) (o:=0) (cs':=K7) (fun w v=>v.front (n:=9) rfl) ai rfl (Nat.le_of_ble_eq_true rfl) rfl rfl rfl rfl (Qe rfl) ?_;refine iy (pn 18 [10,11,12,13,14,15,16,17]) ?_;refine fz (by kernel_rfl) ?_;refine bi (Qi ?_);refine ey (pn 18 [0,1,2,3,4,5,6,10,11,12,13,14,15,16,17]) ?_;refine ak ?_;refine wv (fun W v=>Qv (cs:=K7) Qs ai rfl rfl (v.boxCells (n:=0) rfl)) ?_;refine eu (p:=K) (o:=0) (cs':=K7) (fun w v=>v.front (n:=7) rfl) ai rfl (Nat.le_of_ble_eq_true rfl) rfl rfl rfl rfl (Qe rfl) ?_;refine au (bi (Qi (ak (wm ?_))));refine wv (fun W v=>ox rfl rfl) ?_;refine wa (au ?_);exact br (M+1,((IntKind.i64.wrap (I-1)),Y.2.i,Y.2.h,((ge r A.1 Y.1).1)),(E2,i3,K0,l1,L0,n1,M0,o1,N0,p1)) dy (pn 15 [7,0,2,3,4,5,6,13,14]) ⟨(show(M+1)+(((IntKind.i64.wrap (I-1))).toNat)+1<=(D.1).toNat+1 from by omega),nn o0 (by subst d0 k0 e0 P1;exact Qd q0 (Qd r0 (rfl))),(show kx ((ge r A.1 Y.1).1) from by first|exact zm C|exact aW C (by first|exact oo hqf|(subst_vars;exact oo (oy _ _ _)))|exact bC C _|exact aY C _),(show 0<=(IntKind.i64.wrap (I-1)) from by omega),(show(IntKind.i64.wrap (I-1))<=14 from by omega)⟩ (show(D.1).toNat+1-(M+1)<(D.1).toNat+1-M from by omega)
    refine ae 13 0 1 rfl (fun W v=>Qv (cs:=K5) Qs ai rfl rfl (v.boxCells (n:=1) rfl)) ?_;refine ae 13 1 3 rfl ap ?_;refine ae 13 2 7 rfl ap ?_;refine ae 13 5 39 rfl ap ?_;refine jo [3,6] ?_;refine el 13 47 rfl ?_ ?_
    ·refine dt (χ:=Unit) (val:=fun x=>iV ((Qc b t.2 6).1)) (js:=fun x=>(Qa p 177 [.slice A2 b.length c3,nI (((Qc b t.2 6).2).i),iV ((Qc b t.2 6).2).h]::z)) (Qp iq rfl) (fun W v=>iv B w0 z W p _ b t.2 r5 6 P (v.front (n:=0) rfl)) (Qe rfl) (by decide) (fun _=>?_);have hb:=gr b t.2 6;refine av (pn 10 [2,3,4,5,6,7,8,9]) (pn 10 [1,2,3,4,5,6,7,8,9]) ?_;refine jo [4,6] ?_;refine el 13 63 rfl ?_ ?_
     ·refine dt (χ:=List Value) (val:=fun x=> .agg x.toArray) (js:=fun x=>(Qh eb x ((ff b ((Qc b t.2 6).2) ((Qc b t.2 6).1)).1)::Qa p 177 [.slice A2 b.length c3,nI (((ff b ((Qc b t.2 6).2) ((Qc b t.2 6).1)).2).i),iV ((ff b ((Qc b t.2 6).2) ((Qc b t.2 6).1)).2).h]::z)) (Qp zo rfl) (fun W v=>aH B w0 z W p _ b ((Qc b t.2 6).2) r5 ((Qc b t.2 6).1) P (v.front (n:=0) rfl)) (Qe rfl) (by decide) (fun _=>?_);have hqf:=oy b ((Qc b t.2 6).2) ((Qc b t.2 6).1);rw[<- e0];rw[<- e0] at hqf;refine pa ?_;rintro⟨_,_⟩ rfl;refine fm 0 ?_;rintro p2 T2 rfl G3;refine fm 1 ?_;rintro q2 U2 rfl H3;refine av (pn 12 [4,5,6,7,8,9,10,11]) (pn 12 [3,4,5,6,7,8,9,10,11]) ?_;refine be 13 6 127 rfl ?_;refine di (cs:=[iV 0,iV 0,iV 1,iV 2]) Qq Qg rfl (by decide) (by decide) rfl (by kernel_rfl) (Qe rfl) (by decide) (fun m3=>?_);refine av (pn 13 [5,6,7,8,9,10,11,12]) (pn 13 [4,5,6,7,8,9,10,11,12]) ?_;exact gk pw ag (H (p2,T2,q2,U2,m3))
     refine el 13 111 rfl ?_ ?_
     ·refine di (cs:=[iV 0,iV 0,iV 1,iV 2]) Qq Qg rfl (by decide) (by decide) rfl (by kernel_rfl) (Qe rfl) (by decide) (fun Q1=>?_);refine av (pn 11 [3,4,5,6,7,8,9,10]) (pn 11 [2,3,4,5,6,7,8,9,10]) ?_;refine be 13 4 127 rfl ?_;let H2:It:=Qa Q1 3 [iV 0,iV 0,iV 1,iV 2];refine dt (χ:=List Value) (val:=fun x=> .agg x.toArray) (js:=fun x=>(Qh eb x ((ff b ((Qc b t.2 6).2) ((Qc b t.2 6).1)).1)::Qa p 177 [.slice A2 b.length c3,nI (((ff b ((Qc b t.2 6).2) ((Qc b t.2 6).1)).2).i),iV ((ff b ((Qc b t.2 6).2) ((Qc b t.2 6).1)).2).h]::(H2::z))) (Qp zo rfl) (fun W v=>aH B w0 (H2::z) W p _ b ((Qc b t.2 6).2) r5 ((Qc b t.2 6).1) P (v.front (n:=1) rfl)) (Qe rfl) (by decide) (fun _=>?_);have hqf:=oy b ((Qc b t.2 6).2) ((Qc b t.2 6).1);rw[<- e0];rw[<- e0] at hqf;refine pa ?_;rintro⟨_,_⟩ rfl;refine fm 0 ?_;rintro r2 V2 rfl I3;refine fm 1 ?_;rintro t2 W2 rfl J3;refine av (pn 13 [5,6,7,8,9,10,11,12]) (pn 13 [4,5,6,7,8,9,10,11,12]) ?_;exact gk pw (pn 13 [3,0,1,2,4,5,6,7,8,9,10,11,12]) (H (r2,V2,t2,W2,Q1))
     exact jk
    refine el 13 103 rfl ?_ ?_
    ·refine di (cs:=[iV 0,iV 0,iV 1,iV 2]) Qq Qg rfl (by decide) (by decide) rfl (by kernel_rfl) (Qe rfl) (by decide) (fun R1=>?_);refine av (pn 11 [3,4,5,6,7,8,9,10]) (pn 11 [2,3,4,5,6,7,8,9,10]) ?_;refine be 13 3 111 rfl ?_;let H0:It:=Qa R1 3 [iV 0,iV 0,iV 1,iV 2];refine dt (χ:=Unit) (val:=fun x=>iV ((Qc b t.2 6).1)) (js:=fun x=>(Qa p 177 [.slice A2 b.length c3,nI (((Qc b t.2 6).2).i),iV ((Qc b t.2 6).2).h]::(H0::z))) (Qp iq rfl) (fun W v=>iv B w0 (H0::z) W p _ b t.2 r5 6 P (v.front (n:=1) rfl)) (Qe rfl) (by decide) (fun _=>?_);have hb:=gr b t.2 6;refine av (pn 11 [3,4,5,6,7,8,9,10]) (pn 11 [2,3,4,5,6,7,8,9,10]) ?_;refine be 13 4 127 rfl ?_;refine dt (χ:=List Value) (val:=fun x=> .agg x.toArray) (js:=fun x=>(Qh eb x ((ff b ((Qc b t.2 6).2) ((Qc b t.2 6).1)).1)::Qa p 177 [.slice A2 b.length c3,nI (((ff b ((Qc b t.2 6).2) ((Qc b t.2 6).1)).2).i),iV ((ff b ((Qc b t.2 6).2) ((Qc b t.2 6).1)).2).h]::(H0::z))) (Qp zo rfl) (fun W v=>aH B w0 (H0::z) W p _ b ((Qc b t.2 6).2) r5 ((Qc b t.2 6).1) P (v.front (n:=0) rfl)) (Qe rfl) (by decide) (fun _=>?_);have hqf:=oy b ((Qc b t.2 6).2) ((Qc b t.2 6).1);rw[<- e0];rw[<- e0] at hqf;refine pa ?_;rintro⟨_,_⟩ rfl;refine fm 0 ?_;rintro u2 X2 rfl L3;refine fm 1 ?_;rintro v2 Y2 rfl M3;refine av (pn 13 [5,6,7,8,9,10,11,12]) (pn 13 [4,5,6,7,8,9,10,11,12]) ?_;exact gk pw (pn 13 [3,0,1,2,4,5,6,7,8,9,10,11,12]) (H (u2,X2,v2,Y2,R1))
    exact jk
   refine Qw rfl r0 ?_;refine ak ?_;refine wv (fun W v=>er rfl rfl) ?_;refine wa (aa ?_);rcases fl t.1 1 with⟨j3,j0⟩|⟨j3,j0⟩
   ·refine Qr rfl j0 ?_;obtain⟨y,S⟩:∃ G,G=(ff b ((Qc b t.2 6).2) ((Qc b t.2 6).1)):=⟨_,rfl⟩;refine iz 13 [12] (s:=(Qa K 39 K5::B0::iS Qb 3 T Z r.l::iS Qt 61 U a0 r.a::iS bb 80 V b0 r.f::iS ba 102 X c0 r.k::p0)) (s2:=z) (pn 10 [2,3,4,5,6,7,8,9]) (pn 10 [1,2,3,4,5,6,7,8,9]) ?_;let K8:List Value:=[.slice A2 b.length c3,nI y.2.i,iV y.2.h];refine py (σ:=Option Addr×Nat×Option Addr×Nat×Nat) (fun s=>z) 13 127 6 (fun s=>[(0,bp p),(4,bp p7),(5,bp K),(7,iV I),(8,bp g0),(34, .agg #[.slice h0 r.d.c.length i0,iV r.d.g,iV r.j, .slice T r.l.length Z, .slice U r.a.length a0, .slice V r.f.length b0, .slice X r.k.length c0,iV r.n]),(39,bp p),(38, .agg #[iV y.1.Id,iV y.1.u, .slice s.1 y.1.o.length s.2.1, .slice s.2.2.1 y.1.q.length s.2.2.2.1]),(40, .slice (some ⟨s.2.2.2.2,0,none⟩) 4 4)]) (fun s=>(Qa s.2.2.2.2 3 [iV 0,iV 0,iV 1,iV 2]::iS cg 180 s.1 s.2.1 y.1.o::iS Qb 3 s.2.2.1 s.2.2.2.1 y.1.q::Qa p 177 K8::z)) ?_ (fun H=>?_)
    ·rintro⟨y0,C0,A0,D0,G0⟩;show QD _ _ _ _ _ _ _ _ [(0,bp p),(4,bp p7),(5,bp K),(7,iV I),(8,bp g0),(34, .agg #[.slice h0 r.d.c.length i0,iV r.d.g,iV r.j, .slice T r.l.length Z, .slice U r.a.length a0, .slice V r.f.length b0, .slice X r.k.length c0,iV r.n]),(39,bp p),(38, .agg #[iV y.1.Id,iV y.1.u, .slice y0 y.1.o.length C0, .slice A0 y.1.q.length D0]),(40, .slice (sA G0) 4 4)] _ z _ (Qa G0 3 [iV 0,iV 0,iV 1,iV 2]::iS cg 180 y0 C0 y.1.o::iS Qb 3 A0 D0 y.1.q::Qa p 177 K8::z);refine mb (n:=1) rfl ?_;intro N3 O3;refine mb (n:=2) rfl ?_;intro P3 Q3;refine be 13 7 255 rfl ?_;refine kh (fun W v=>Mem.litOwn (E:=Qb) (xs:=[0,0,1,2]) rfl (show 4<=maxLen from by decide) (fun _=>(du (E:=Qb) (L1:=[]) cq (du (E:=Qb) (L1:=[]) cq (du (E:=Qb) (L1:=[]) cq (du (E:=Qb) (L1:=[]) cq ic))))) (v.front (n:=0) rfl)) ?_;let N2:List It:=iS cg 180 y0 C0 y.1.o::iS Qb 3 A0 D0 y.1.q::z;refine dt (χ:=Unit) (val:=fun x=>iV ((cy b y.2 [0,0,1,2]).1)) (js:=fun x=>(Qa p 177 [.slice A2 b.length c3,nI (((cy b y.2 [0,0,1,2]).2).i),iV ((cy b y.2 [0,0,1,2]).2).h]::Qh (ab Qb 3) [.slice (sA G0) 4 4] [0,0,1,2]::N2)) (Qp qk rfl) (fun W v=>ra B w0 N2 W p _ b y.2 r5 _ [0,0,1,2] P (Nat.le_of_ble_eq_true rfl) (by first|decide|exact Nat.succ_pos _) ((v.front (n:=0) rfl).front (n:=3) rfl)) (Qe rfl) (by decide) (fun _=>?_);obtain⟨J,E0⟩:∃ G,G=(cy b y.2 [0,0,1,2]):=⟨_,rfl⟩;rw[<- E0];refine av (pn 13 [5,6,7,8,9,10,11,12]) (pn 13 [4,5,6,7,8,9,10,11,12]) ?_;refine be 13 8 511 rfl ?_;refine li (χ:=List Value) (val:=fun x=> .tuple #[.agg x.toArray, .bool ((ge r y.1 J.1).2)]) (js:=fun x=>[Qh cv x ((ge r y.1 J.1).1)]) (Qp Nw rfl) (fun W v=>xn W _ r _ y.1 J.1 (gm (x:=r) (v.rdSI (n:=6) rfl) (v.rdSI (n:=7) rfl) (v.rdSI (n:=8) rfl) (v.rdSI (n:=9) rfl) (v.rdSI (n:=10) rfl)) (lb (x:=y.1) (v.rdSI (n:=2) rfl) (v.rdSI (n:=3) rfl)) hsm (by first|exact cX hsd|exact oo hqf|exact hus|(rw[S];exact oo (oy _ _ _)))) (Qe rfl) (by decide) (fun _=>?_);refine kl ?_;rintro⟨_,_,_,_,_⟩ rfl;refine fm 0 ?_;rintro O0 q1 rfl R3;refine fm 1 ?_;rintro P0 r1 rfl S3;refine fm 2 ?_;rintro Q0 s1 rfl T3;refine fm 3 ?_;rintro R0 t1 rfl U3;refine fm 4 ?_;rintro S0 u1 rfl V3;refine av (pn 18 [10,11,12,13,14,15,16,17]) (pn 18 [9,10,11,12,13,14,15,16,17]) ?_;refine ae 13 9 1023 rfl ap ?_;refine ae 13 10 2047 rfl (fun W v=>gw rfl rfl) ?_;refine sc 13 11 4095 rfl (fun W=>gw rfl rfl) ?_;refine be 13 12 8191 rfl ?_;let K9:List Value:=[.slice O0 (((ge r y.1 J.1).1).d.c).length q1,iV (((ge r y.1 J.1).1).d.g),iV (((ge r y.1 J.1).1).j), .slice P0 (((ge r y.1 J.1).1).l).length r1, .slice Q0 (((ge r y.1 J.1).1).a).length s1, .slice R0 (((ge r y.1 J.1).1).f).length t1, .slice S0 (((ge r y.1 J.1).1).k).length u1,iV (((ge r y.1 J.1).1).n)];refine eu (p:=g0) (o:=0) (cs':=K9) (fun w v=>v.front (n:=9) rfl) ai rfl (Nat.le_of_ble_eq_true rfl) rfl rfl rfl rfl (Qe rfl) ?_;refine iy (pn 18 [10,11,12,13,14,15,16,17]) ?_;refine fz (by kernel_rfl) ?_;refine bi (Qi ?_);refine ey (pn 18 [0,1,2,3,4,5,6,10,11,12,13,14,15,16,17]) ?_;refine ak ?_;refine wv (fun W v=>Qv (cs:=K9) Qs ai rfl rfl (v.boxCells (n:=0) rfl)) ?_;refine eu (p:=K) (o:=0) (cs':=K9) (fun w v=>v.front (n:=7) rfl) ai rfl (Nat.le_of_ble_eq_true rfl) rfl rfl rfl rfl (Qe rfl) ?_;refine au (bi (Qi (ak (wm ?_))));refine wv (fun W v=>ox rfl rfl) ?_;refine wa (au ?_);exact br (M+1,((IntKind.i64.wrap (I-1)),J.2.i,J.2.h,((ge r y.1 J.1).1)),(O0,q1,P0,r1,Q0,s1,R0,t1,S0,u1)) dy (pn 15 [7,0,2,3,4,5,6,13,14]) ⟨(show(M+1)+(((IntKind.i64.wrap (I-1))).toNat)+1<=(D.1).toNat+1 from by omega),nn o0 (by subst d0 k0 S E0;exact Qd q0 (Qf r0 (Qd j0 (rfl)))),(show kx ((ge r y.1 J.1).1) from by first|exact zm C|exact aW C (by first|exact oo hqf|(subst_vars;exact oo (oy _ _ _)))|exact bC C _|exact aY C _),(show 0<=(IntKind.i64.wrap (I-1)) from by omega),(show(IntKind.i64.wrap (I-1))<=14 from by omega)⟩ (show(D.1).toNat+1-(M+1)<(D.1).toNat+1-M from by omega)
    refine ae 13 0 1 rfl (fun W v=>Qv (cs:=K5) Qs ai rfl rfl (v.boxCells (n:=1) rfl)) ?_;refine ae 13 1 3 rfl ap ?_;refine ae 13 2 7 rfl ap ?_;refine ae 13 5 39 rfl ap ?_;refine jo [3,6] ?_;refine el 13 47 rfl ?_ ?_
    ·refine dt (χ:=Unit) (val:=fun x=>iV ((Qc b t.2 6).1)) (js:=fun x=>(Qa p 177 [.slice A2 b.length c3,nI (((Qc b t.2 6).2).i),iV ((Qc b t.2 6).2).h]::z)) (Qp iq rfl) (fun W v=>iv B w0 z W p _ b t.2 r5 6 P (v.front (n:=0) rfl)) (Qe rfl) (by decide) (fun _=>?_);have hb:=gr b t.2 6;refine av (pn 10 [2,3,4,5,6,7,8,9]) (pn 10 [1,2,3,4,5,6,7,8,9]) ?_;refine jo [4,6] ?_;refine el 13 63 rfl ?_ ?_
     ·refine dt (χ:=List Value) (val:=fun x=> .agg x.toArray) (js:=fun x=>(Qh eb x ((ff b ((Qc b t.2 6).2) ((Qc b t.2 6).1)).1)::Qa p 177 [.slice A2 b.length c3,nI (((ff b ((Qc b t.2 6).2) ((Qc b t.2 6).1)).2).i),iV ((ff b ((Qc b t.2 6).2) ((Qc b t.2 6).1)).2).h]::z)) (Qp zo rfl) (fun W v=>aH B w0 z W p _ b ((Qc b t.2 6).2) r5 ((Qc b t.2 6).1) P (v.front (n:=0) rfl)) (Qe rfl) (by decide) (fun _=>?_);have hqf:=oy b ((Qc b t.2 6).2) ((Qc b t.2 6).1);rw[<- S];rw[<- S] at hqf;refine pa ?_;rintro⟨_,_⟩ rfl;refine fm 0 ?_;rintro w2 Z2 rfl W3;refine fm 1 ?_;rintro x2 a3 rfl X3;refine av (pn 12 [4,5,6,7,8,9,10,11]) (pn 12 [3,4,5,6,7,8,9,10,11]) ?_;refine be 13 6 127 rfl ?_;refine di (cs:=[iV 0,iV 0,iV 1,iV 2]) Qq Qg rfl (by decide) (by decide) rfl (by kernel_rfl) (Qe rfl) (by decide) (fun n3=>?_);refine av (pn 13 [5,6,7,8,9,10,11,12]) (pn 13 [4,5,6,7,8,9,10,11,12]) ?_;exact gk pw ag (H (w2,Z2,x2,a3,n3))
     refine el 13 111 rfl ?_ ?_
     ·refine di (cs:=[iV 0,iV 0,iV 1,iV 2]) Qq Qg rfl (by decide) (by decide) rfl (by kernel_rfl) (Qe rfl) (by decide) (fun S1=>?_);refine av (pn 11 [3,4,5,6,7,8,9,10]) (pn 11 [2,3,4,5,6,7,8,9,10]) ?_;refine be 13 4 127 rfl ?_;let I2:It:=Qa S1 3 [iV 0,iV 0,iV 1,iV 2];refine dt (χ:=List Value) (val:=fun x=> .agg x.toArray) (js:=fun x=>(Qh eb x ((ff b ((Qc b t.2 6).2) ((Qc b t.2 6).1)).1)::Qa p 177 [.slice A2 b.length c3,nI (((ff b ((Qc b t.2 6).2) ((Qc b t.2 6).1)).2).i),iV ((ff b ((Qc b t.2 6).2) ((Qc b t.2 6).1)).2).h]::(I2::z))) (Qp zo rfl) (fun W v=>aH B w0 (I2::z) W p _ b ((Qc b t.2 6).2) r5 ((Qc b t.2 6).1) P (v.front (n:=1) rfl)) (Qe rfl) (by decide) (fun _=>?_);have hqf:=oy b ((Qc b t.2 6).2) ((Qc b t.2 6).1);rw[<- S];rw[<- S] at hqf;refine pa ?_;rintro⟨_,_⟩ rfl;refine fm 0 ?_;rintro y2 b3 rfl Y3;refine fm 1 ?_;rintro z2 d3 rfl Z3;refine av (pn 13 [5,6,7,8,9,10,11,12]) (pn 13 [4,5,6,7,8,9,10,11,12]) ?_;exact gk pw (pn 13 [3,0,1,2,4,5,6,7,8,9,10,11,12]) (H (y2,b3,z2,d3,S1))
     exact jk
    refine el 13 103 rfl ?_ ?_
    ·refine di (cs:=[iV 0,iV 0,iV 1,iV 2]) Qq Qg rfl (by decide) (by decide) rfl (by kernel_rfl) (Qe rfl) (by decide) (fun T1=>?_);refine av (pn 11 [3,4,5,6,7,8,9,10]) (pn 11 [2,3,4,5,6,7,8,9,10]) ?_;refine be 13 3 111 rfl ?_;let I0:It:=Qa T1 3 [iV 0,iV 0,iV 1,iV 2];refine dt (χ:=Unit) (val:=fun x=>iV ((Qc b t.2 6).1)) (js:=fun x=>(Qa p 177 [.slice A2 b.length c3,nI (((Qc b t.2 6).2).i),iV ((Qc b t.2 6).2).h]::(I0::z))) (Qp iq rfl) (fun W v=>iv B w0 (I0::z) W p _ b t.2 r5 6 P (v.front (n:=1) rfl)) (Qe rfl) (by decide) (fun _=>?_);have hb:=gr b t.2 6;refine av (pn 11 [3,4,5,6,7,8,9,10]) (pn 11 [2,3,4,5,6,7,8,9,10]) ?_;refine be 13 4 127 rfl ?_;refine dt (χ:=List Value) (val:=fun x=> .agg x.toArray) (js:=fun x=>(Qh eb x ((ff b ((Qc b t.2 6).2) ((Qc b t.2 6).1)).1)::Qa p 177 [.slice A2 b.length c3,nI (((ff b ((Qc b t.2 6).2) ((Qc b t.2 6).1)).2).i),iV ((ff b ((Qc b t.2 6).2) ((Qc b t.2 6).1)).2).h]::(I0::z))) (Qp zo rfl) (fun W v=>aH B w0 (I0::z) W p _ b ((Qc b t.2 6).2) r5 ((Qc b t.2 6).1) P (v.front (n:=0) rfl)) (Qe rfl) (by decide) (fun _=>?_);have hqf:=oy b ((Qc b t.2 6).2) ((Qc b t.2 6).1);rw[<- S];rw[<- S] at hqf;refine pa ?_;rintro⟨_,_⟩ rfl;refine fm 0 ?_;rintro B2 e3 rfl a4;refine fm 1 ?_;rintro C2 g3 rfl b4;refine av (pn 13 [5,6,7,8,9,10,11,12]) (pn 13 [4,5,6,7,8,9,10,11,12]) ?_;exact gk pw (pn 13 [3,0,1,2,4,5,6,7,8,9,10,11,12]) (H (B2,e3,C2,g3,T1))
    exact jk
   refine Qw rfl j0 ?_;refine sr ?_;refine wv (fun W v=>er rfl rfl) ?_;refine wa (aa ?_);rcases fl t.1 2 with⟨k3,n0⟩|⟨k3,n0⟩
   ·refine Qr rfl n0 ?_;let O2:List It:=Qa K 39 K5::iS Qb 3 T Z r.l::iS Qt 61 U a0 r.a::iS bb 80 V b0 r.f::iS ba 102 X c0 r.k::p0;let v0:List It:=Qa g0 39 K5::O2;refine iz 10 [9] (s:=O2) (s2:=v0) (pn 10 [2,4,5,6,7,8,9]) (pn 10 [1,2,4,5,6,7,8,9]) ?_;refine ae 10 0 1 rfl (fun W v=>Qv (cs:=K5) Qs ai rfl rfl (v.boxCells (n:=1) rfl)) ?_;refine ae 10 1 3 rfl ap ?_;refine ae 10 2 7 rfl (vf Qs rfl bn) ?_;let J0:List Value:=[.slice h0 r.d.c.length i0,iV r.d.g];refine ae 10 3 15 rfl (fun W v=>Qv (cs:=J0) bq bn rfl rfl (v.boxPart (n:=1) rfl rfl)) ?_;refine be 10 4 31 rfl ?_;let Q2:List Value:=[.slice A2 b.length c3,nI t.2.i,iV t.2.h];refine kh (js:=(Qh ez J0 r.d::(Qa p 177 Q2::v0))) (fun W v=>Mem.join (is:=[B0]) (js:=(Qa p 177 Q2::v0)) (fun _ _ hs=>jz (x:=r.d) hs) (v.front (n:=3) rfl)) ?_;refine dt (χ:=List Value) (val:=fun x=> .agg x.toArray) (js:=fun x=>(Qh nh x ((kv b t.2 r.d).1)::Qa p 177 [.slice A2 b.length c3,nI (((kv b t.2 r.d).2).i),iV ((kv b t.2 r.d).2).h]::Qh ez J0 r.d::v0)) (Qp Ns rfl) (fun W v=>yu B w0 v0 W p _ b t.2 r5 _ r.d P hsm.1 (HQ) ((v.front (n:=0) rfl).front (n:=1) rfl)) (Qe rfl) (by decide) (fun _=>?_);have hus:=yw b t.2 r.d;obtain⟨F,s0⟩:∃ G,G=(kv b t.2 r.d):=⟨_,rfl⟩;rw[<- s0];rw[<- s0] at hus;refine zh ?_;rintro _ rfl;refine fm 0 ?_;rintro D2 h3 rfl c4;refine kh (js:=(Qh ez J0 r.d::iS Qb 3 D2 h3 F.1.Row.m::Qa p 177 [.slice A2 b.length c3,nI F.2.i,iV F.2.h]::v0)) (fun W v=>(v.front (n:=2) rfl)) ?_;refine ng ?_;rintro _ O1;simp +zetaDelta only [List.cons.injEq] at O1;obtain⟨rfl, -, -⟩:=O1;refine av (pn 11 [4,5,6,7,8,9,10]) (pn 11 [3,4,5,6,7,8,9,10]) ?_;refine be 10 5 63 rfl ?_;refine li (χ:=List Value) (val:=fun x=> .tuple #[.agg x.toArray, .bool ((nc r F.1).2)]) (js:=fun x=>[Qh cv x ((nc r F.1).1)]) (Qp Pe rfl) (fun W v=>Jc W _ r _ F.1 (gm (x:=r) (v.rdSI (n:=0) rfl) (v.rdSI (n:=5) rfl) (v.rdSI (n:=6) rfl) (v.rdSI (n:=7) rfl) (v.rdSI (n:=8) rfl)) (dD (x:=F.1) (v.rdSI (n:=1) rfl)) hsm (by first|exact cX hsd|exact oo hqf|exact hus|(rw[s0];exact oo (oy _ _ _)))) (Qe rfl) (by decide) (fun _=>?_);refine kl ?_;rintro⟨_,_,_,_,_⟩ rfl;refine fm 0 ?_;rintro T0 v1 rfl d4;refine fm 1 ?_;rintro U0 w1 rfl e4;refine fm 2 ?_;rintro V0 y1 rfl f4;refine fm 3 ?_;rintro W0 z1 rfl g4;refine fm 4 ?_;rintro X0 A1 rfl h4;refine av (pn 16 [9,10,11,12,13,14,15]) (pn 16 [8,9,10,11,12,13,14,15]) ?_;refine ae 10 6 127 rfl ap ?_;refine ae 10 7 255 rfl (fun W v=>gw rfl rfl) ?_;refine sc 10 8 511 rfl (fun W=>gw rfl rfl) ?_;refine be 10 9 1023 rfl ?_;let c2:List Value:=[.slice T0 (((nc r F.1).1).d.c).length v1,iV (((nc r F.1).1).d.g),iV (((nc r F.1).1).j), .slice U0 (((nc r F.1).1).l).length w1, .slice V0 (((nc r F.1).1).a).length y1, .slice W0 (((nc r F.1).1).f).length z1, .slice X0 (((nc r F.1).1).k).length A1,iV (((nc r F.1).1).n)];refine eu (p:=g0) (o:=0) (cs':=c2) (fun w v=>v.front (n:=8) rfl) ai rfl (Nat.le_of_ble_eq_true rfl) rfl rfl rfl rfl (Qe rfl) ?_;refine iy (pn 16 [9,10,11,12,13,14,15]) ?_;refine fz (by kernel_rfl) ?_;refine bi (Qi (ak ?_));refine wv (fun W v=>Qv (cs:=c2) Qs ai rfl rfl (v.boxCells (n:=0) rfl)) ?_;refine eu (p:=K) (o:=0) (cs':=c2) (fun w v=>v.front (n:=9) rfl) ai rfl (Nat.le_of_ble_eq_true rfl) rfl rfl rfl rfl (Qe rfl) ?_;refine au (bi (Qi (ak (wm ?_))));refine wv (fun W v=>ox rfl rfl) ?_;refine wa (au ?_);exact br (M+1,((IntKind.i64.wrap (I-1)),F.2.i,F.2.h,((nc r F.1).1)),(T0,v1,U0,w1,V0,y1,W0,z1,X0,A1)) dy (pn 16 [9,0,2,3,4,5,6,14,15]) ⟨(show(M+1)+(((IntKind.i64.wrap (I-1))).toNat)+1<=(D.1).toNat+1 from by omega),nn o0 (by subst d0 k0 s0;exact Qd q0 (Qf r0 (Qf j0 (Qd n0 (rfl))))),(show kx ((nc r F.1).1) from by first|exact zm C|exact aW C (by first|exact oo hqf|(subst_vars;exact oo (oy _ _ _)))|exact bC C _|exact aY C _),(show 0<=(IntKind.i64.wrap (I-1)) from by omega),(show(IntKind.i64.wrap (I-1))<=14 from by omega)⟩ (show(D.1).toNat+1-(M+1)<(D.1).toNat+1-M from by omega)
   refine Qw rfl n0 ?_;refine sr ?_;refine wv (fun W v=>er rfl rfl) ?_;refine wa (aa ?_);rcases fl t.1 3 with⟨l3,t0⟩|⟨l3,t0⟩
   ·refine Qr rfl t0 ?_;refine iz 8 [7] (s:=(Qa K 39 K5::B0::iS Qb 3 T Z r.l::iS Qt 61 U a0 r.a::iS bb 80 V b0 r.f::iS ba 102 X c0 r.k::p0)) (s2:=z) (pn 10 [2,3,4,5,6,7,8,9]) (pn 10 [1,2,3,4,5,6,7,8,9]) ?_;refine ae 8 0 1 rfl (fun W v=>Qv (cs:=K5) Qs ai rfl rfl (v.boxCells (n:=1) rfl)) ?_;refine ae 8 1 3 rfl ap ?_;refine be 8 2 7 rfl ?_;refine dt (χ:=Unit) (val:=fun x=>iV ((Qc b t.2 6).1)) (js:=fun x=>(Qa p 177 [.slice A2 b.length c3,nI (((Qc b t.2 6).2).i),iV ((Qc b t.2 6).2).h]::z)) (Qp iq rfl) (fun W v=>iv B w0 z W p _ b t.2 r5 6 P (v.front (n:=0) rfl)) (Qe rfl) (by decide) (fun _=>?_);have hb:=gr b t.2 6;refine av (pn 10 [2,3,4,5,6,7,8,9]) (pn 10 [1,2,3,4,5,6,7,8,9]) ?_;refine be 8 3 15 rfl ?_;refine li (χ:=List Value) (val:=fun x=> .tuple #[.agg x.toArray, .bool ((na r ((Qc b t.2 6).1)).2)]) (js:=fun x=>[Qh cv x ((na r ((Qc b t.2 6).1)).1)]) (Qp Pd rfl) (fun W v=>Hs W _ r ((Qc b t.2 6).1) (gm (x:=r) (v.rdSI (n:=3) rfl) (v.rdSI (n:=4) rfl) (v.rdSI (n:=5) rfl) (v.rdSI (n:=6) rfl) (v.rdSI (n:=7) rfl)) hsm) (Qe rfl) (by decide) (fun _=>?_);refine kl ?_;rintro⟨_,_,_,_,_⟩ rfl;refine fm 0 ?_;rintro Y0 B1 rfl i4;refine fm 1 ?_;rintro Z0 C1 rfl j4;refine fm 2 ?_;rintro a1 D1 rfl k4;refine fm 3 ?_;rintro b1 E1 rfl l4;refine fm 4 ?_;rintro d1 G1 rfl m4;refine av (pn 15 [7,8,9,10,11,12,13,14]) (pn 15 [6,7,8,9,10,11,12,13,14]) ?_;refine ae 8 4 31 rfl ap ?_;refine ae 8 5 63 rfl (fun W v=>gw rfl rfl) ?_;refine sc 8 6 127 rfl (fun W=>gw rfl rfl) ?_;refine be 8 7 255 rfl ?_;let d2:List Value:=[.slice Y0 (((na r ((Qc b t.2 6).1)).1).d.c).length B1,iV (((na r ((Qc b t.2 6).1)).1).d.g),iV (((na r ((Qc b t.2 6).1)).1).j), .slice Z0 (((na r ((Qc b t.2 6).1)).1).l).length C1, .slice a1 (((na r ((Qc b t.2 6).1)).1).a).length D1, .slice b1 (((na r ((Qc b t.2 6).1)).1).f).length E1, .slice d1 (((na r ((Qc b t.2 6).1)).1).k).length G1,iV (((na r ((Qc b t.2 6).1)).1).n)];refine eu (p:=g0) (o:=0) (cs':=d2) (fun w v=>v.front (n:=6) rfl) ai rfl (Nat.le_of_ble_eq_true rfl) rfl rfl rfl rfl (Qe rfl) ?_;refine iy (pn 15 [7,8,9,10,11,12,13,14]) ?_;refine fz (by kernel_rfl) ?_;refine bi (Qi (ak ?_));refine wv (fun W v=>Qv (cs:=d2) Qs ai rfl rfl (v.boxCells (n:=0) rfl)) ?_;refine eu (p:=K) (o:=0) (cs':=d2) (fun w v=>v.front (n:=7) rfl) ai rfl (Nat.le_of_ble_eq_true rfl) rfl rfl rfl rfl (Qe rfl) ?_;refine au (bi (Qi (ak (wm ?_))));refine wv (fun W v=>ox rfl rfl) ?_;refine wa (au ?_);exact br (M+1,((IntKind.i64.wrap (I-1)),((Qc b t.2 6).2).i,((Qc b t.2 6).2).h,((na r ((Qc b t.2 6).1)).1)),(Y0,B1,Z0,C1,a1,D1,b1,E1,d1,G1)) dy (pn 15 [7,0,2,3,4,5,6,13,14]) ⟨(show(M+1)+(((IntKind.i64.wrap (I-1))).toNat)+1<=(D.1).toNat+1 from by omega),nn o0 (by subst d0 k0;exact Qd q0 (Qf r0 (Qf j0 (Qf n0 (Qd t0 (rfl)))))),(show kx ((na r ((Qc b t.2 6).1)).1) from by first|exact zm C|exact aW C (by first|exact oo hqf|(subst_vars;exact oo (oy _ _ _)))|exact bC C _|exact aY C _),(show 0<=(IntKind.i64.wrap (I-1)) from by omega),(show(IntKind.i64.wrap (I-1))<=14 from by omega)⟩ (show(D.1).toNat+1-(M+1)<(D.1).toNat+1-M from by omega)
   refine Qw rfl t0 ?_;refine ak ?_;refine wv (fun W v=>Qv (cs:=K5) Qs ai rfl rfl (v.boxCells (n:=2) rfl)) ?_;refine li (χ:=List Value) (val:=fun x=> .tuple #[.agg x.toArray, .bool ((gp r).2)]) (js:=fun x=>[Qh cv x ((gp r).1)]) (Qp oJ rfl) (fun W v=>kP W _ r (gm (x:=r) (v.rdSI (n:=3) rfl) (v.rdSI (n:=4) rfl) (v.rdSI (n:=5) rfl) (v.rdSI (n:=6) rfl) (v.rdSI (n:=7) rfl)) hsm) (Qe rfl) (by decide) (fun _=>?_);refine kl ?_;rintro⟨_,_,_,_,_⟩ rfl;refine fm 0 ?_;rintro e1 H1 rfl n4;refine fm 1 ?_;rintro g1 I1 rfl o4;refine fm 2 ?_;rintro h1 J1 rfl p4;refine fm 3 ?_;rintro i1 M1 rfl r4;refine fm 4 ?_;rintro j1 N1 rfl s4;refine wm ?_;refine wv (fun W v=>gw rfl rfl) ?_;refine wv (fun W v=>gw rfl rfl) ?_;let e2:List Value:=[.slice e1 (((gp r).1).d.c).length H1,iV (((gp r).1).d.g),iV (((gp r).1).j), .slice g1 (((gp r).1).l).length I1, .slice h1 (((gp r).1).a).length J1, .slice i1 (((gp r).1).f).length M1, .slice j1 (((gp r).1).k).length N1,iV (((gp r).1).n)];refine eu (p:=g0) (o:=0) (cs':=e2) (fun w v=>v.front (n:=6) rfl) ai rfl (Nat.le_of_ble_eq_true rfl) rfl rfl rfl rfl (Qe rfl) ?_;refine au (bi (Qi (ak ?_)));refine wv (fun W v=>Qv (cs:=e2) Qs ai rfl rfl (v.boxCells (n:=0) rfl)) ?_;refine eu (p:=K) (o:=0) (cs':=e2) (fun w v=>v.front (n:=7) rfl) ai rfl (Nat.le_of_ble_eq_true rfl) rfl rfl rfl rfl (Qe rfl) ?_;refine au (bi (Qi (ak (wm ?_))));refine wv (fun W v=>ox rfl rfl) ?_;refine wa (au ?_);exact br (M+1,((IntKind.i64.wrap (I-1)),t.2.i,t.2.h,((gp r).1)),(e1,H1,g1,I1,h1,J1,i1,M1,j1,N1)) dy (pn 15 [7,0,2,3,4,5,6,13,14]) ⟨(show(M+1)+(((IntKind.i64.wrap (I-1))).toNat)+1<=(D.1).toNat+1 from by omega),nn o0 (by subst d0 k0;exact Qd q0 (Qf r0 (Qf j0 (Qf n0 (Qf t0 (rfl)))))),(show kx ((gp r).1) from by first|exact zm C|exact aW C (by first|exact oo hqf|(subst_vars;exact oo (oy _ _ _)))|exact bC C _|exact aY C _),(show 0<=(IntKind.i64.wrap (I-1)) from by omega),(show(IntKind.i64.wrap (I-1))<=14 from by omega)⟩ (show(D.1).toNat+1-(M+1)<(D.1).toNat+1-M from by omega)
  refine Qw rfl q0 ?_;refine co (ao (ao (cp ?_)));exact kg ((I,l0,m0,r),(h0,i0,T,Z,U,a0,V,b0,X,c0)) ig ag (nz o0 (by subst d0;exact Qf q0 (rfl)))
 rintro⟨⟨I,l0,m0,r⟩,⟨h0,i0,T,Z,U,a0,V,b0,X,c0⟩⟩ k1;dsimp only at k1;let S2:List Value:=[.slice A2 b.length c3,nI l0,iV m0];let u0:List Value:=[.slice h0 r.d.c.length i0,iV r.d.g,iV r.j, .slice T r.l.length Z, .slice U r.a.length a0, .slice V r.f.length b0, .slice X r.k.length c0,iV r.n];let J2:It:=iS (ab Qy 163) 100 h0 i0 r.d.c;show QM 67 _ _ _ .normal [(4,bp p7),(5,bp K)] (Qa p 177 S2::Qa K 39 u0::J2::iS Qb 3 T Z r.l::iS Qt 61 U a0 r.a::iS bb 80 V b0 r.f::iS ba 102 X c0 r.k::p0);refine Qi (sr ?_);refine wv (fun W v=>Qv (cs:=u0) Qs ai rfl rfl (v.boxCells (n:=1) rfl)) ?_;refine eu (p:=p7) (o:=0) (cs':=u0) (fun w v=>v.front (n:=8) rfl) ai rfl (Nat.le_of_ble_eq_true rfl) rfl rfl rfl rfl (Qe rfl) ?_;refine aa (Qm ?_);let P2:List It:=Qa p7 39 u0::Qa p 177 S2::Qa K 39 u0::G2::is;refine cc (js:=(Qh cv u0 r::P2)) (fun W v=>Mem.join (is:=[J2,iS Qb 3 T Z r.l,iS Qt 61 U a0 r.a,iS bb 80 V b0 r.f,iS ba 102 X c0 r.k]) (js:=P2) (fun _ _ hs=>gl (x:=r) hs) (v.pickN 9 [3,4,5,6,7,0,1,2,8] (by decide))) ?_;have F0:=(show bk b O x1=(r,(⟨l0,m0⟩:ar)) from by subst d0;exact bt k1 (rfl));refine ep rfl (dg (n:=1) rfl rfl Qs ai rfl) (fun W v=>⟨u0,?_,?_⟩)
 ·first|rw[F0]|rfl
 rw[F0];exact(v.pickN 5 [0,2] (by decide))
def mf  : (List (List Int)):=
 [[0,1,2],[0,2,1],[1,0,2],[1,2,0],[2,0,1],[2,1,0]]
theorem zG:Cb Tryz.prog 175:=⟨f175,_,func175,rfl,by decide⟩
theorem Jy (w:World)  :
 Calls Tryz.prog 175 #[] w (rL w (ab (ab Qb 3) 25) (mf)):=by
 refine Rl (L:=[]) (N:=8) func175 ?_;refine sr (wa (aa (sr ?_)));refine di (cs:=[iV 0,iV 1,iV 2]) Qq Qg rfl (by decide) (by decide) rfl (by kernel_rfl) (Qe rfl) (by decide) (fun d=>?_);refine di (cs:=[iV 0,iV 2,iV 1]) Qq Qg rfl (by decide) (by decide) rfl (by kernel_rfl) (Qe rfl) (by decide) (fun e=>?_);refine di (cs:=[iV 1,iV 0,iV 2]) Qq Qg rfl (by decide) (by decide) rfl (by kernel_rfl) (Qe rfl) (by decide) (fun f=>?_);refine di (cs:=[iV 1,iV 2,iV 0]) Qq Qg rfl (by decide) (by decide) rfl (by kernel_rfl) (Qe rfl) (by decide) (fun g=>?_);refine di (cs:=[iV 2,iV 0,iV 1]) Qq Qg rfl (by decide) (by decide) rfl (by kernel_rfl) (Qe rfl) (by decide) (fun h=>?_);refine di (cs:=[iV 2,iV 1,iV 0]) Qq Qg rfl (by decide) (by decide) rfl (by kernel_rfl) (Qe rfl) (by decide) (fun i=>?_);let K1:List Value:=[.slice (sA d) 3 3, .slice (sA e) 3 3, .slice (sA f) 3 3, .slice (sA g) 3 3, .slice (sA h) 3 3, .slice (sA i) 3 3];refine di (cs:=K1) underlying191 cb rfl (by decide) (by decide) rfl (by kernel_rfl) (Qe rfl) (by decide) (fun c=>?_);refine wa (aa (Qm ?_));refine cc (fun W a=>Mem.litOwn (E:=Qb) (xs:=[0,1,2]) rfl (show 3<=maxLen from by decide) (fun _=>(du (E:=Qb) (L1:=[]) cq (du (E:=Qb) (L1:=[]) cq (du (E:=Qb) (L1:=[]) cq ic)))) (a.pick [6,0,1,2,3,4,5] (by decide))) ?_;refine cc (fun W a=>Mem.litOwn (E:=Qb) (xs:=[0,2,1]) rfl (show 3<=maxLen from by decide) (fun _=>(du (E:=Qb) (L1:=[]) cq (du (E:=Qb) (L1:=[]) cq (du (E:=Qb) (L1:=[]) cq ic)))) (a.pick [6,0,1,2,3,4,5] (by decide))) ?_;refine cc (fun W a=>Mem.litOwn (E:=Qb) (xs:=[1,0,2]) rfl (show 3<=maxLen from by decide) (fun _=>(du (E:=Qb) (L1:=[]) cq (du (E:=Qb) (L1:=[]) cq (du (E:=Qb) (L1:=[]) cq ic)))) (a.pick [6,0,1,2,3,4,5] (by decide))) ?_;refine cc (fun W a=>Mem.litOwn (E:=Qb) (xs:=[1,2,0]) rfl (show 3<=maxLen from by decide) (fun _=>(du (E:=Qb) (L1:=[]) cq (du (E:=Qb) (L1:=[]) cq (du (E:=Qb) (L1:=[]) cq ic)))) (a.pick [6,0,1,2,3,4,5] (by decide))) ?_;refine cc (fun W a=>Mem.litOwn (E:=Qb) (xs:=[2,0,1]) rfl (show 3<=maxLen from by decide) (fun _=>(du (E:=Qb) (L1:=[]) cq (du (E:=Qb) (L1:=[]) cq (du (E:=Qb) (L1:=[]) cq ic)))) (a.pick [6,0,1,2,3,4,5] (by decide))) ?_;refine cc (fun W a=>Mem.litOwn (E:=Qb) (xs:=[2,1,0]) rfl (show 3<=maxLen from by decide) (fun _=>(du (E:=Qb) (L1:=[]) cq (du (E:=Qb) (L1:=[]) cq (du (E:=Qb) (L1:=[]) cq ic)))) (a.pick [6,0,1,2,3,4,5] (by decide))) ?_;refine cc (js:=(Qh (ab (ab Qb 3) 25) [.slice (sA c) 6 6] [[0,1,2],[0,2,1],[1,0,2],[1,2,0],[2,0,1],[2,1,0]]::[])) (fun W a=>Mem.join (is:=(Qa c 25 K1::[Qh (ab Qb 3) [.slice (sA d) 3 3] [0,1,2],Qh (ab Qb 3) [.slice (sA e) 3 3] [0,2,1],Qh (ab Qb 3) [.slice (sA f) 3 3] [1,0,2],Qh (ab Qb 3) [.slice (sA g) 3 3] [1,2,0],Qh (ab Qb 3) [.slice (sA h) 3 3] [2,0,1],Qh (ab Qb 3) [.slice (sA i) 3 3] [2,1,0]])) (js:=[]) (Dt (bH (bH (bH (bH (bH (bH Aq))))))) (a.pick [6,5,4,3,2,1,0] (by decide))) ?_;have b:=(show mf  = [[0,1,2],[0,2,1],[1,0,2],[1,2,0],[2,0,1],[2,1,0]] from rfl);refine ep rfl (dm rfl) (fun W a=>⟨.slice (sA c) 6 6,?_,?_⟩)
 ·first|rw[b]|rfl
 rw[b];exact a
theorem iR (k:Nat) (h:k<6):(gt mf k).length=3:=by
 have:k=0∨k=1∨k=2∨k=3∨k=4∨k=5:=by omega
 rcases this with rfl|rfl|rfl|rfl|rfl|rfl <;>rfl
def qi (a:List Int) (b:ar):((List Int)×ar):=
 cond ((et a ((Qc a b 6).2) 12).1) (((gt mf (((Qc a b 6).1).toNat)).set 0 (cy a (et a ((Qc a b 6).2) 12).2 [(-1),0,3]).1),(cy a (et a ((Qc a b 6).2) 12).2 [(-1),0,3]).2) ((gt mf (((Qc a b 6).1).toNat)),(et a ((Qc a b 6).2) 12).2)
theorem yK:Cb Tryz.prog 118:=⟨f118,_,func118,rfl,by decide⟩
theorem Jw (B:Nat) (F:World) (is:List It) (w:World) (p:Nat) (z0:Value) (a:List Int) (b:ar) (Z:ce mx F B z0 a) (o:a.length<=68719476736) (d:Mem B F (Qa p 177 [z0,nI b.i,iV b.h]::is) w):
 Calls Tryz.prog 118 #[.pointer (sA p)] w fun e w'=>∃ x:Value,e= .returned (x)∧Mem B F (Qh (ab Qb 3) [x] ((qi a b).1)::Qa p 177 [z0,nI (((qi a b).2).i),iV ((qi a b).2).h]::is) w':=by
 obtain⟨_,z,D,rfl,_,Y⟩:=Ql Z;refine oq (L:=[(0, .pointer (sA p))]) (N:=19) func118 rfl rfl (Nat.le_of_ble_eq_true rfl) (jr rfl mm) d ?_;have:a.length<=68719476736:=o;have:mf.length=6:=rfl;refine sr (wa (aa (sr ?_)));refine eh (E:=Qb) Qq Qg (Qe rfl) (by decide) (fun p7=>?_);refine lg (ab (ab Qb 3) 25) mf (Qp zG rfl) (fun W d=>Jy W ) (fun _=>?_);refine fm 0 ?_;rintro T v rfl c0;refine wm ?_;let I3:It:=Qh (ab Qb 3) [.slice (sA p7) 0 0] [];let J8:List It:=iS (ab Qb 3) 25 T v mf::I3::is;refine dt (χ:=Unit) (val:=fun x=>iV ((Qc a b 6).1)) (js:=fun x=>(Qa p 177 [.slice z a.length D,nI (((Qc a b 6).2).i),iV ((Qc a b 6).2).h]::J8)) (Qp iq rfl) (fun W d=>iv B F J8 W p _ a b Y 6 o (d.front (n:=2) rfl)) (Qe rfl) (by decide) (fun _=>?_);have hb:=gr a b 6;have U:=iR (Qc a b 6).1.toNat (by omega);have:([]++gt mf (Qc a b 6).1.toNat).length=3:=U;refine nv (n:=1) rfl (by omega) ?_;rintro M rfl;refine wv (fun W d=>gx (sz:=1) (k:=(Qc a b 6).1) underlying191 cb rfl rfl rfl (by omega) (by omega)) ?_;let K1:List Value:=[.slice z a.length D,nI (((Qc a b 6).2).i),iV (((Qc a b 6).2).h)];refine sh (E:=(ab Qb 3)) (e:=25) (A:=(sA M)) (n:=mf.length) (c:=v) (xs:=mf) (k:=(((Qc a b 6).1).toNat)) (js:=(Qa p 177 K1::I3::is)) (by omega) (fun W d=>(d.front (n:=1) rfl)) (fun K=>?_);refine pi (γ:=Value) (js:=fun g=>[Qh (ab Qb 3) [g] (gt mf (((Qc a b 6).1).toNat))]) (C:=fun g=>K=[g]) (fun _ _ h=>tp h) ?_;rintro _ rfl;refine fm 0 ?_;rintro H J rfl d0;refine wv (fun W d=>cl Qq rfl rfl (d.focInt (i:=1) rfl rfl)) ?_;let K2:List Value:=[.slice H (gt mf (((Qc a b 6).1).toNat)).length J];let P:It:=iS Qb 3 H J (gt mf (((Qc a b 6).1).toNat));let R:It:=fg (ab Qb 3) 25 (sA M) mf.length v mf (((Qc a b 6).1).toNat) K2;refine fv Qb Qb 3 (.slice (sA p7) 0 0) [] (gt mf (((Qc a b 6).1).toNat)) (P::R::Qa p 177 K1::is) (fun W d=>(d.front (n:=3) rfl)) (fun W d=>fx fj (d.rdSI (n:=0) rfl)) Qq Qg (show(0+(gt mf (((Qc a b 6).1).toNat)).length)*8<=140737488355328 from by omega) (fun _=>?_);refine fm 0 ?_;rintro I y rfl e0;refine wa (aa (Qk (sr (wm ?_))));let I6:It:=iS Qb 3 I y (gt mf (((Qc a b 6).1).toNat));let S:List It:=I6::P::R::is;refine dt (χ:=Unit) (val:=fun x=> .bool ((et a ((Qc a b 6).2) 12).1)) (js:=fun x=>(Qa p 177 [.slice z a.length D,nI (((et a ((Qc a b 6).2) 12).2).i),iV ((et a ((Qc a b 6).2) 12).2).h]::S)) (Qp pP rfl) (fun W d=>sJ B F S W p _ a ((Qc a b 6).2) Y 12 o (d.front (n:=3) rfl)) (Qe rfl) (by decide) (fun _=>?_);obtain⟨f,m⟩:∃ G,G=(et a ((Qc a b 6).2) 12):=⟨_,rfl⟩;rw[<- m];refine aa ?_;rcases bd f.1 with l|l
 ·refine Qr rfl l ?_;refine ak (wm (wm ?_));refine di (cs:=[iV (-1),iV 0,iV 3]) Qq Qg rfl (by decide) (by decide) rfl (by kernel_rfl) (Qe rfl) (by decide) (fun X=>?_);refine kh (fun W d=>Mem.litOwn (E:=Qb) (xs:=[(-1),0,3]) rfl (show 3<=maxLen from by decide) (fun _=>(du (E:=Qb) (L1:=[]) cq (du (E:=Qb) (L1:=[]) cq (du (E:=Qb) (L1:=[]) cq ic)))) (d.front (n:=0) rfl)) ?_;let I7:It:=Qh (ab Qb 3) [.slice (sA X) 3 3] [(-1),0,3];refine dt (χ:=Unit) (val:=fun x=>iV ((cy a f.2 [(-1),0,3]).1)) (js:=fun x=>(Qa p 177 [.slice z a.length D,nI (((cy a f.2 [(-1),0,3]).2).i),iV ((cy a f.2 [(-1),0,3]).2).h]::I7::S)) (Qp qk rfl) (fun W d=>ra B F S W p _ a f.2 Y _ [(-1),0,3] o (Nat.le_of_ble_eq_true rfl) (by first|decide|exact Nat.succ_pos _) ((d.front (n:=0) rfl).front (n:=1) rfl)) (Qe rfl) (by decide) (fun _=>?_);obtain⟨j,r⟩:∃ G,G=(cy a f.2 [(-1),0,3]):=⟨_,rfl⟩;rw[<- r];refine nv (n:=2) rfl (by omega) ?_;rintro O rfl;refine wv (bx 1 0 Qq Qg) ?_;refine mI (E:=Qb) (e:=3) (u:=iV j.1) (k:=0) (p:=O) (n:=(gt mf (((Qc a b 6).1).toNat)).length) (xs:=(gt mf (((Qc a b 6).1).toNat))) (eis:=[]) (js:=(Qa p 177 [.slice z a.length D,nI j.2.i,iV j.2.h]::I7::P::R::is)) (yv:=j.1) (fun W d=>(d.front (n:=2) rfl)) (fun _ _ V=>(Sep.nil V ▸ cq)) rfl Qg rfl (by omega) rfl rfl (Qe rfl) ?_;refine aa (Qk ?_);refine ey (pn 5 [0,1]) ?_;refine ak (wm (wa (aa (Qm ?_))));have s:=(show qi a b=(((gt mf (((Qc a b 6).1).toNat)).set 0 j.1),j.2) from by subst m r;exact Qd l (rfl));refine ep rfl (dm rfl) (fun W d=>⟨.slice (sA O) (gt mf (((Qc a b 6).1).toNat)).length y,?_,?_⟩)
  ·first|rw[s]|rfl
  rw[s];exact d
 refine Qw rfl l ?_;refine aj (Qi (sr (wm (wa (aa (Qm ?_))))));refine cc (fun W d=>Mem.unfocus0 (Mem.join (is:=[P]) (js:=(R::(Qa p 177 [.slice z a.length D,nI f.2.i,iV f.2.h]::I6::is))) (fun _ _ V=>Sep.one V) ((d.front (n:=3) rfl).front (n:=3) rfl))) ?_;have t:=(show qi a b=((gt mf (((Qc a b 6).1).toNat)),f.2) from by subst m;exact Qf l (rfl));refine ep rfl (dm rfl) (fun W d=>⟨.slice I (gt mf (((Qc a b 6).1).toNat)).length y,?_,?_⟩)
 ·first|rw[t]|rfl
 rw[t];exact(((d.front (n:=1) rfl).front (n:=2) rfl).front (n:=2) rfl).tail
theorem Mq {x:Qj} {i:Int} (h:decide (0<=da x i)=false):∀ j,j<x.a.length->(gt x.a j).e.Id≠i:=by
 have c:=of_decide_eq_false h;unfold da at c;have hr:ay (R:=Int) (fun k (_:Unit)=>nb x i k) (x.a.length-0) 0 ()= .inr ():=by
  rcases vd (P:=fun(r:Int)=>0<=r) (n:=x.a.length) (b:=fun k (_:Unit)=>nb x i k) (fun j hj=>by
   show(∃ r,nb x i j=_∧_)∨nb x i j=_;unfold nb;cases (gt x.a j).e.Id==i
   ·exact .inr rfl
   exact .inl ⟨_,rfl,Int.natCast_nonneg _⟩) (x.a.length-0) 0 (by omega) with⟨r,e,hp⟩|e
  ·rw[e] at c;exact absurd hp c
  exact e
 intro j hj e;have hb:nb x i j= .inr ():=rD _ _ hr j (Nat.zero_le _) (by omega);unfold nb at hb;rw[beq_iff_eq.2 e] at hb;cases hb
theorem Mo {v w:Qz} (h:nd v w=true):nd w v=true:=by
 rw[aX,decide_eq_true_eq] at h ⊢;omega
theorem oC {α:Type} [Inhabited α] {l:List α} {i:Nat} (h:i<l.length) (y:α):∃ a b,l=a++gt l i::b∧l.set i y=a++y::b:=by
 refine⟨l.take i,l.drop (i+1),?_,?_⟩
 ·rw[gc h,List.getElem_cons_drop];exact(List.take_append_drop i l).symm
 rw[List.set_eq_take_append_cons_drop,if_pos h]
theorem Hj {S:List (List Qz)} {i k:Nat} (hi:i<S.length) (hk:k<(gt S i).length) (v':Qz):∃ L,S.flatten.Perm (gt (gt S i) k::L)∧(S.set i ((gt S i).set k v')).flatten.Perm (v'::L):=by
 obtain⟨a,b,f,g⟩:=oC hi ((gt S i).set k v');obtain⟨c,d,f1,f2⟩:=oC hk v';have e:=congrArg List.flatten f;generalize gt (gt S i) k=v at f1 ⊢;rw[f1] at e;refine⟨(a.flatten++c)++(d++b.flatten),?_,?_⟩
 ·rw[e,show(a++(c++v::d)::b).flatten=(a.flatten++c)++v::(d++b.flatten) by simp];exact List.perm_middle
 rw[g,f2,show(a++(c++v'::d)::b).flatten=(a.flatten++c)++v'::(d++b.flatten) by simp];exact List.perm_middle
theorem jV {S:List (List Qz)} {j:Nat} (hj:j<S.length) (n:Qz):(S.set j (gt S j++[n])).flatten.Perm (n::S.flatten):=by
 obtain⟨a,b,c,d⟩:=oC hj (gt S j++[n]);have e:=congrArg List.flatten c;rw[d,e,show(a++(gt S j++[n])::b).flatten=(a.flatten++gt S j)++n::b.flatten by simp,show(a++gt S j::b).flatten=(a.flatten++gt S j)++b.flatten by simp];exact List.perm_middle
theorem rH {S:List (List Qz)} {i:Nat} {s':List Qz} (hi:i<S.length) (f:Qz->Bool) (h:jt f s'=jt f (gt S i)):(S.set i s').flatMap (jt f)=S.flatMap (jt f):=by
 obtain⟨a,b,c,d⟩:=oC hi s';have e:=congrArg (List.flatMap (jt f)) c;rw[d,e];simp only[List.flatMap_append,List.flatMap_cons,h]
theorem cD (f:Qz->Bool) (s t:List Qz):jt f (s++t)=jt f s++jt f t:=by
 unfold jt;rw[List.filter_append,List.map_append]
theorem rG {f:Qz->Bool} {n:Qz} (h:f n=false):jt f [n]=[]:=by
 unfold jt;rw[List.filter_cons,h];rfl
theorem jS {f:Qz->Bool} {n:Qz} (h:f n=true):jt f [n]=[⟨n.Id,n.m⟩]:=by
 unfold jt;rw[List.filter_cons,h];rfl
theorem Hg {f:Qz->Bool} {s:List Qz} {k:Nat} (hk:k<s.length) {t:Int} (h:f ⟨(gt s k).Id,(gt s k).m,(gt s k).x,t⟩=f (gt s k)):jt f (s.set k ⟨(gt s k).Id,(gt s k).m,(gt s k).x,t⟩)=jt f s:=by
 obtain⟨a,b,c,d⟩:=oC hk ⟨(gt s k).Id,(gt s k).m,(gt s k).x,t⟩;have e:=congrArg (jt f) c;rw[d,e, <- List.singleton_append, <- List.singleton_append (l:=b),cD,cD,cD,cD]
 congr 2
 cases hf:f (gt s k) with
 |true=>rw[jS hf,jS (by rw[h];exact hf)]
 |false=>rw[rG hf,rG (by rw[h];exact hf)]
def mA (x:ah) (id:Int) (r:Int×Int):Prop:=0<=r.1∧r.1.toNat<x.c.length∧r.2.toNat<(gt x.c r.1.toNat).length∧(gt (gt x.c r.1.toNat) r.2.toNat).Id=id∧(gt (gt x.c r.1.toNat) r.2.toNat).y= -1
theorem uY (x:ah) (id:Int):((Qx x id).1<0∧∀ w∈x.c.flatten,w.Id=id->w.y ≠ -1)∨mA x id (Qx x id):=by
 have inner:∀ i,i<x.c.length->(rf x id i= .inr ()∧∀ q,q<(gt x.c i).length->(gt (gt x.c i) q).Id=id->(gt (gt x.c i) q).y ≠ -1)∨∃ r,rf x id i= .inl r∧mA x id r:=by
  intro i hi;unfold rf
  have key:=xd (n:=(gt x.c i).length) (body:=fun k (_:Unit)=>tn x id i k) (fun k (_:Unit)=>∀ q,q<k->(gt (gt x.c i) q).Id=id->(gt (gt x.c i) q).y ≠ -1) (mA x id) (fun k s hk hJ=>by
   show(∃ s',tn x id i k= .inr s'∧_)∨∃ r,tn x id i k= .inl r∧_;unfold tn
   by_cases a:(gt (gt x.c i) k).Id=id
   ·by_cases b:(gt (gt x.c i) k).y= -1
    ·refine .inr ⟨(((i:Nat):Int),((k:Nat):Int)),?_,?_⟩
     ·rw[beq_iff_eq.2 a,beq_iff_eq.2 b];rfl
     unfold mA;simp only[Int.toNat_natCast];exact⟨by omega,hi,hk,a,b⟩
    refine .inl ⟨(),?_,fun q hq=>?_⟩
    ·rw[beq_iff_eq.2 a,beq_eq_false_iff_ne.2 b];rfl
    rcases Nat.lt_succ_iff_lt_or_eq.1 hq with h|rfl
    ·exact hJ q h
    exact fun _=>b
   refine .inl ⟨(),?_,fun q hq=>?_⟩
   ·rw[beq_eq_false_iff_ne.2 a];rfl
   rcases Nat.lt_succ_iff_lt_or_eq.1 hq with h|rfl
   ·exact hJ q h
   exact fun h'=>absurd h' a) ((gt x.c i).length-0) 0 () (by omega) (fun q hq=>absurd hq (by omega))
  rcases key with⟨s',e,h⟩|⟨r,e,h⟩
  ·rw[e];exact .inl ⟨rfl,h⟩
  rw[e];exact .inr ⟨r,rfl,h⟩
 have key:=xd (n:=x.c.length) (body:=fun k (_:Unit)=>rf x id k) (fun k (_:Unit)=>∀ p,p<k->∀ q,q<(gt x.c p).length->(gt (gt x.c p) q).Id=id->(gt (gt x.c p) q).y ≠ -1) (mA x id) (fun k s hk hJ=>by
  show(∃ s',rf x id k= .inr s'∧_)∨∃ r,rf x id k= .inl r∧_;rcases inner k hk with⟨e,h⟩|⟨r,e,h⟩
  ·refine .inl ⟨(),e,fun p hp=>?_⟩;rcases Nat.lt_succ_iff_lt_or_eq.1 hp with h'|rfl
   ·exact hJ p h'
   exact h
  exact .inr ⟨r,e,h⟩) (x.c.length-0) 0 () (by omega) (fun p hp=>absurd hp (by omega))
 unfold Qx;rcases key with⟨s',e,h⟩|⟨r,e,h⟩
 ·rw[e];refine .inl ⟨(by show(-1:Int)<0;decide),fun w hw=>?_⟩;obtain⟨s,d,hw⟩:=List.mem_flatten.1 hw;obtain⟨p,hp,rfl⟩:=List.mem_iff_getElem.1 d;obtain⟨q,hq,rfl⟩:=List.mem_iff_getElem.1 hw;have:=h p hp q (by rw[gc hp];exact hq);rw[gc hp] at this;rw[gc hq] at this;exact this
 rw[e];exact .inr h
def Rc (x:ah) (u:fc) (y:ah):Prop:=
 y.g=x.g+1∧x.g<100000∧y.c.length=x.c.length∧(∀ s∈y.c,s.length<=4) ∧
 (∀ t:Int,t<=x.g->y.c.flatMap (jt fun v=>qy v t)=x.c.flatMap (jt fun v=>qy v t)) ∧
 ∃ (o nw L:List Qz),x.c.flatten.Perm (o++L)∧y.c.flatten.Perm (nw++(o.map (fun v=>(⟨v.Id,v.m,v.x,x.g+1⟩:Qz))++L))∧(∀ w∈L,w.Id=u.Row.Id->w.y ≠ -1) ∧
  (∀ v∈o,v.Id=u.Row.Id∧v.y= -1) ∧
  ((u.Kind=1∧o=[]∧nw=[⟨u.Row.Id,u.Row.m,x.g+1, -1⟩])∨(u.Kind=2∧(∃ v,o=[v])∧nw=[])∨(u.Kind=3∧∃ v,o=[v]∧nw=[⟨u.Row.Id,v.m.set u.Field.toNat u.Value,x.g+1, -1⟩]))
theorem lP {id b t:Int} {vs:List Int} (h:t<b):qy ⟨id,vs,b, -1⟩ t=false:=by
 show mc _ t=false;rw[mF];exact decide_eq_false (by show ¬ (b<=t∧_);omega)
theorem Mi {v:Qz} {d t:Int} (h:t<d) (hd:v.y= -1):qy ⟨v.Id,v.m,v.x,d⟩ t=qy v t:=by
 show mc _ t=mc _ t;rw[mF,mF];apply decide_eq_decide.2;show(v.x<=t∧(d= -1∨t<d))↔_;omega
theorem jW {S:List (List Qz)} {j:Nat} {n:Qz} (a:∀ s∈S,s.length<=4) (hj:(gt S j).length<4):∀ s∈S.set j (gt S j++[n]),s.length<=4:=fun s b=>by
 rcases List.mem_or_eq_of_mem_set b with h|rfl
 ·exact a s h
 rw[List.length_append];show _+1<=4;omega
theorem xN {x:ah} {u:fc} (hx:aR x) (h:(ed x u).2=true):su u=true∧Rc x u (ed x u).1:=by
 have d:=(ka x).2 hx;obtain⟨⟨_,_⟩,⟨_,_⟩,r,hv,hp⟩:=hx;cases hu:su u with
 |false=>unfold ed at h;rw[d,hu] at h;cases h
 |true=>
 refine⟨rfl,?_⟩
 by_cases ht:100000<=x.g
 ·unfold ed at h;rw[d,hu,decide_eq_true ht] at h;cases h
 have hw:IntKind.i64.wrap (x.g+1)=x.g+1:=gi (by omega) (by omega);obtain⟨hk,_,_,_⟩:=ye hu;have l:=kN x;rcases uY x u.Row.Id with⟨f1,f2⟩|⟨C,n,D,E,p⟩
 ·by_cases f:u.Kind=1
  ·by_cases hr:dx x<0
   ·exfalso
    unfold ed at h;rw[d,hu,decide_eq_false ht,decide_eq_true f1,beq_iff_eq.2 f,bne_iff_ne.2 (show u.Kind≠2 by omega),decide_eq_true hr] at h;cases h
   have e:ed x u=(⟨x.c.set (dx x).toNat (gt x.c (dx x).toNat++[⟨u.Row.Id,u.Row.m,x.g+1, -1⟩]),x.g+1⟩,true):=by
    unfold ed;rw[d,hu,decide_eq_false ht,decide_eq_true f1,beq_iff_eq.2 f,bne_iff_ne.2 (show u.Kind≠2 by omega),decide_eq_false hr,decide_eq_false (show ¬ 0<=(Qx x u.Row.Id).1 by omega),beq_eq_false_iff_ne.2 (show ¬ u.Kind=3 by omega),hw];rfl
   obtain⟨_,o,B⟩:=l.resolve_left hr;rw[e];refine⟨rfl,by omega,List.length_set,jW r B,fun t ht'=>rH o _ ?_,[],_,x.c.flatten, .refl _,jV o _,f2,(fun v hv=>by cases hv), .inl ⟨f,rfl,rfl⟩⟩;rw[cD,rG (lP (by omega)),List.append_nil]
  exfalso
  unfold ed at h;rw[d,hu,decide_eq_false ht,decide_eq_true f1,beq_eq_false_iff_ne.2 f] at h;cases h
 have hne:∀ v':Qz,∃ L,x.c.flatten.Perm (gt (gt x.c (Qx x u.Row.Id).1.toNat) (Qx x u.Row.Id).2.toNat::L)∧(x.c.set (Qx x u.Row.Id).1.toNat ((gt x.c (Qx x u.Row.Id).1.toNat).set (Qx x u.Row.Id).2.toNat v')).flatten.Perm (v'::L)∧∀ w∈L,w.Id=u.Row.Id->w.y ≠ -1:=by
  intro v';obtain⟨L,i,j⟩:=Hj n D v';refine⟨L,i,j,fun w hw hid hd=>?_⟩;have z:=(i.pairwise_iff (R:=fun a b=>nd b a=true) (fun h=>Mo h)).1 hp;have:=(List.pairwise_cons.1 z).1 w hw;rw[aX,decide_eq_true_eq] at this;omega
 have hvis:∀ t,t<=x.g->jt (fun v=>qy v t) ((gt x.c (Qx x u.Row.Id).1.toNat).set (Qx x u.Row.Id).2.toNat ⟨(gt (gt x.c (Qx x u.Row.Id).1.toNat) (Qx x u.Row.Id).2.toNat).Id,(gt (gt x.c (Qx x u.Row.Id).1.toNat) (Qx x u.Row.Id).2.toNat).m,(gt (gt x.c (Qx x u.Row.Id).1.toNat) (Qx x u.Row.Id).2.toNat).x,x.g+1⟩)=jt (fun v=>qy v t) (gt x.c (Qx x u.Row.Id).1.toNat):=
  fun t ht'=>Hg D (Mi (by omega) p)
 by_cases f:u.Kind=1
 ·exfalso
  unfold ed at h;rw[d,hu,decide_eq_false ht,decide_eq_false (show ¬ (Qx x u.Row.Id).1<0 by omega),beq_iff_eq.2 f] at h;cases h
 have h4':∀ v':Qz,∀ s∈x.c.set (Qx x u.Row.Id).1.toNat ((gt x.c (Qx x u.Row.Id).1.toNat).set (Qx x u.Row.Id).2.toNat v'),s.length<=4:=fun v' s hs'=>by
  rcases List.mem_or_eq_of_mem_set hs' with h'|rfl
  ·exact r s h'
  rw[List.length_set];exact r _ (bl n)
 by_cases k2:u.Kind=2
 ·have e:ed x u=(⟨x.c.set (Qx x u.Row.Id).1.toNat ((gt x.c (Qx x u.Row.Id).1.toNat).set (Qx x u.Row.Id).2.toNat ⟨(gt (gt x.c (Qx x u.Row.Id).1.toNat) (Qx x u.Row.Id).2.toNat).Id,(gt (gt x.c (Qx x u.Row.Id).1.toNat) (Qx x u.Row.Id).2.toNat).m,(gt (gt x.c (Qx x u.Row.Id).1.toNat) (Qx x u.Row.Id).2.toNat).x,x.g+1⟩),x.g+1⟩,true):=by
   unfold ed il;rw[d,hu,decide_eq_false ht,decide_eq_false (show ¬ (Qx x u.Row.Id).1<0 by omega),beq_eq_false_iff_ne.2 f,show(u.Kind !=2)=false from by rw[k2];rfl,decide_eq_true C,beq_eq_false_iff_ne.2 (show ¬ u.Kind=3 by omega),hw];rfl
  obtain⟨L,i,j,A⟩:=hne ⟨(gt (gt x.c (Qx x u.Row.Id).1.toNat) (Qx x u.Row.Id).2.toNat).Id,(gt (gt x.c (Qx x u.Row.Id).1.toNat) (Qx x u.Row.Id).2.toNat).m,(gt (gt x.c (Qx x u.Row.Id).1.toNat) (Qx x u.Row.Id).2.toNat).x,x.g+1⟩;rw[e];exact⟨rfl,by omega,List.length_set,h4' _,fun t ht'=>rH n _ (hvis t ht'),[_],[],L,i,j,A,(fun v hv=>by rw[List.mem_singleton.1 hv];exact⟨E,p⟩), .inr (.inl ⟨k2,⟨_,rfl⟩,rfl⟩)⟩
 have F:u.Kind=3:=by omega
 by_cases hr:dx x<0
 ·exfalso
  unfold ed at h;rw[d,hu,decide_eq_false ht,decide_eq_false (show ¬ (Qx x u.Row.Id).1<0 by omega),beq_eq_false_iff_ne.2 f,bne_iff_ne.2 k2,decide_eq_true hr] at h;cases h
 obtain⟨_,o,B⟩:=l.resolve_left hr;have e:ed x u=(⟨(x.c.set (Qx x u.Row.Id).1.toNat ((gt x.c (Qx x u.Row.Id).1.toNat).set (Qx x u.Row.Id).2.toNat ⟨(gt (gt x.c (Qx x u.Row.Id).1.toNat) (Qx x u.Row.Id).2.toNat).Id,(gt (gt x.c (Qx x u.Row.Id).1.toNat) (Qx x u.Row.Id).2.toNat).m,(gt (gt x.c (Qx x u.Row.Id).1.toNat) (Qx x u.Row.Id).2.toNat).x,x.g+1⟩)).set (dx x).toNat (gt (x.c.set (Qx x u.Row.Id).1.toNat ((gt x.c (Qx x u.Row.Id).1.toNat).set (Qx x u.Row.Id).2.toNat ⟨(gt (gt x.c (Qx x u.Row.Id).1.toNat) (Qx x u.Row.Id).2.toNat).Id,(gt (gt x.c (Qx x u.Row.Id).1.toNat) (Qx x u.Row.Id).2.toNat).m,(gt (gt x.c (Qx x u.Row.Id).1.toNat) (Qx x u.Row.Id).2.toNat).x,x.g+1⟩)) (dx x).toNat++[⟨u.Row.Id,(gt (gt x.c (Qx x u.Row.Id).1.toNat) (Qx x u.Row.Id).2.toNat).m.set u.Field.toNat u.Value,x.g+1, -1⟩]),x.g+1⟩,true):=by
  unfold ed vg il;rw[d,hu,decide_eq_false ht,decide_eq_false (show ¬ (Qx x u.Row.Id).1<0 by omega),beq_eq_false_iff_ne.2 f,bne_iff_ne.2 k2,decide_eq_false hr,decide_eq_true C,beq_iff_eq.2 F,hw];rfl
 obtain⟨L,i,j,A⟩:=hne ⟨(gt (gt x.c (Qx x u.Row.Id).1.toNat) (Qx x u.Row.Id).2.toNat).Id,(gt (gt x.c (Qx x u.Row.Id).1.toNat) (Qx x u.Row.Id).2.toNat).m,(gt (gt x.c (Qx x u.Row.Id).1.toNat) (Qx x u.Row.Id).2.toNat).x,x.g+1⟩;have k:=h4' ⟨(gt (gt x.c (Qx x u.Row.Id).1.toNat) (Qx x u.Row.Id).2.toNat).Id,(gt (gt x.c (Qx x u.Row.Id).1.toNat) (Qx x u.Row.Id).2.toNat).m,(gt (gt x.c (Qx x u.Row.Id).1.toNat) (Qx x u.Row.Id).2.toNat).x,x.g+1⟩;rw[e];generalize hS:x.c.set (Qx x u.Row.Id).1.toNat ((gt x.c (Qx x u.Row.Id).1.toNat).set (Qx x u.Row.Id).2.toNat ⟨(gt (gt x.c (Qx x u.Row.Id).1.toNat) (Qx x u.Row.Id).2.toNat).Id,(gt (gt x.c (Qx x u.Row.Id).1.toNat) (Qx x u.Row.Id).2.toNat).m,(gt (gt x.c (Qx x u.Row.Id).1.toNat) (Qx x u.Row.Id).2.toNat).x,x.g+1⟩)=S at j k ⊢;have hl:S.length=x.c.length:=by rw[<- hS,List.length_set]
 have hg:(gt S (dx x).toNat).length<4:=by rw[<- hS,mQ List.length_set];exact B
 have r2':(dx x).toNat<S.length:=by rw[hl];exact o
 refine⟨rfl,by omega,(by show(S.set _ _).length=_;rw[List.length_set,hl]),jW k hg,fun t ht'=>?_,[_],[_],L,i,(jV r2' _).trans (j.cons _),A,(fun v hv=>by rw[List.mem_singleton.1 hv];exact⟨E,p⟩), .inr (.inr ⟨F,_,rfl,rfl⟩)⟩;show(S.set _ _).flatMap _=_;rw[rH r2' _ (by rw[cD,rG (lP (by omega)),List.append_nil]), <- hS];exact rH n _ (hvis t ht')
theorem xO {u:fc} (h:su u=true):(u.Kind=1->kr u.Row=true)∧(u.Kind=3->0<=u.Value∧u.Value<=99):=by
 unfold su at h;refine⟨fun k=>?_,fun k=>?_⟩
 ·rw[beq_iff_eq.2 k,cond_true] at h;cases a:kr u.Row with
  |true=>rfl
  |false=>rw[a] at h;cases h
 rw[beq_eq_false_iff_ne.2 (show ¬ u.Kind=1 by omega),beq_eq_false_iff_ne.2 (show ¬ u.Kind=2 by omega),beq_iff_eq.2 k,kk u.Value] at h
 by_cases hv:0<=u.Value∧u.Value<=99
 ·exact hv
 rw[decide_eq_false hv] at h
 revert h
 cases ci u.Row.Id 0 999 <;>cases ((u.Row.m.length:Nat):Int)==0 <;>cases ci u.Field 0 2 <;>intro h <;>cases h
theorem xL {x y:ah} {u:fc} (hx:aR x) (hu:su u=true) (h:Rc x u y):aR y:=by
 obtain⟨⟨_,_⟩,⟨_,_⟩,_,hv,hp⟩:=hx;obtain⟨c,_,_,s,_,o,nw,L,f,i,l,j,n⟩:=h;obtain⟨p,r⟩:=xO hu;have hvp:∀ v∈o++L,ms v x.g=true:=fun v h=>hv v (f.mem_iff.2 h)
 have hpp:=(f.pairwise_iff (R:=fun a b=>nd b a=true) (fun h=>Mo h)).1 hp;have vL:∀ w∈L,ms w (x.g+1)=true:=fun w hw=>by
  have h:=hvp w (List.mem_append_right _ hw);rw[zn (by omega)] at h ⊢;exact⟨h.1,h.2.1,by omega,by omega⟩
 have vK:∀ v∈o,ms (⟨v.Id,v.m,v.x,x.g+1⟩:Qz) (x.g+1)=true:=fun w hw=>by
  have h:=hvp w (List.mem_append_left _ hw);rw[zn (by omega)] at h ⊢;exact⟨h.1,h.2.1,(by show w.x<=_;omega), .inr (by show w.x+1<=x.g+1∧x.g+1<=x.g+1;omega)⟩
 have vN:∀ vs,kr (⟨u.Row.Id,vs⟩:ax)=true->ms (⟨u.Row.Id,vs,x.g+1, -1⟩:Qz) (x.g+1)=true:=fun vs h=>by
  rw[zn (by omega)];exact⟨h,(by show 0<=x.g+1;omega),(by show x.g+1<=x.g+1;omega), .inl rfl⟩
 have aN:∀ vs,∀ w∈L,nd w (⟨u.Row.Id,vs,x.g+1, -1⟩:Qz)=true:=fun vs w hw=>by
  have h:=hvp w (List.mem_append_right _ hw);rw[zn (by omega)] at h;have:=l w hw;rw[aX,decide_eq_true_eq];show w.Id≠u.Row.Id∨(w.y ≠ -1∧w.y<=x.g+1)∨_;omega
 have aK:∀ v,o=[v]->∀ w∈L,nd w (⟨v.Id,v.m,v.x,x.g+1⟩:Qz)=true:=fun v e w hw=>by
  rw[e] at hpp;have h:=(List.pairwise_cons.1 hpp).1 w hw;have:=j v (by rw[e];exact List.mem_singleton.2 rfl);rw[aX,decide_eq_true_eq] at h ⊢;show w.Id≠v.Id∨(w.y ≠ -1∧w.y<=v.x)∨_;omega
 have pL:L.Pairwise (fun a b=>nd b a=true):=(List.pairwise_append.1 hpp).2.1;rw[<- c] at vL vK vN;have key:(∀ v∈nw++(o.map (fun v=>(⟨v.Id,v.m,v.x,x.g+1⟩:Qz))++L),ms v y.g=true)∧(nw++(o.map (fun v=>(⟨v.Id,v.m,v.x,x.g+1⟩:Qz))++L)).Pairwise (fun a b=>nd b a=true):=by
  rw[<- c] at aN aK ⊢;rcases n with⟨k,rfl,rfl⟩|⟨k,⟨v,rfl⟩,rfl⟩|⟨k,v,rfl,rfl⟩
  ·have hn:=vN u.Row.m (p k);rw[<- c];refine⟨fun w hw=>?_,List.pairwise_cons.2 ⟨fun w hw=>aN _ w hw,pL⟩⟩;rcases List.mem_cons.1 hw with rfl|h
   ·exact hn
   exact vL w h
  ·refine⟨fun w hw=>?_,List.pairwise_cons.2 ⟨fun w hw=>aK v rfl w hw,pL⟩⟩;rcases List.mem_cons.1 hw with rfl|h
   ·exact vK v (List.mem_singleton.2 rfl)
   exact vL w h
  have hr:=hvp v (List.mem_append_left _ (List.mem_singleton.2 rfl));rw[zn (by omega),ut] at hr;have d:=j v (List.mem_singleton.2 rfl)
  have hn:=vN (v.m.set u.Field.toNat u.Value) (by
   rw[ut];refine⟨fun z hz=>?_,?_,?_⟩
   ·rcases List.mem_or_eq_of_mem_set hz with h|rfl
    ·exact hr.1.1 z h
    exact r k
   ·show 0<=u.Row.Id∧u.Row.Id<=999;rw[<- d.1];exact hr.1.2.1
   show(v.m.set _ _).length=3
   rw[List.length_set];exact hr.1.2.2)
  rw[<- c];refine⟨fun w hw=>?_,List.pairwise_cons.2 ⟨fun w hw=>?_,List.pairwise_cons.2 ⟨fun w hw=>aK v rfl w hw,pL⟩⟩⟩
  ·rcases List.mem_cons.1 hw with rfl|h
   ·exact hn
   rcases List.mem_cons.1 h with rfl|h
   ·exact vK v (List.mem_singleton.2 rfl)
   exact vL w h
  rcases List.mem_cons.1 hw with rfl|h
  ·rw[aX,decide_eq_true_eq];exact .inr (.inl ⟨(by show y.g ≠ -1;omega),(by show y.g<=y.g;omega)⟩)
  exact aN _ w h
 refine⟨by omega,by omega,s,fun v h=>key.1 v (i.mem_iff.1 h),?_⟩;exact(i.pairwise_iff (R:=fun a b=>nd b a=true) (fun h=>Mo h)).2 key.2
theorem eM (k:List Int) (S:List (List Qz)):(ix k S).flatten=S.flatten.filter (lw k):=by
 unfold ix;rw[List.filter_flatten]
theorem eL {x:ah} (hx:aR x) (k:List Int):aR (⟨ix k x.c,x.g⟩:ah):=by
 obtain⟨hl,hn,b,hv,hp⟩:=hx;refine⟨?_,hn,fun s d=>?_,fun v h=>?_,?_⟩
 ·show 1<=(List.map _ _).length∧(List.map _ _).length<=8;rw[List.length_map];exact hl
 ·obtain⟨e,a,rfl⟩:=List.mem_map.1 d;exact Nat.le_trans (List.length_filter_le _ _) (b e a)
 ·have h':v∈(ix k x.c).flatten:=h;rw[eM] at h';exact hv v (List.mem_filter.1 h').1
 show(ix k x.c).flatten.Pairwise _;rw[eM];exact hp.filter _
def ro (n c y:Int):Int:=if c<=y then y-c else y-c+n
def sq (n c:Int):Int:=if c+1=n then 0 else c+1
theorem Ea {n:Nat} {c:Int} (a:0<=c) (b:c<((n:Nat):Int)) (hn:n<=1000):Int.tmod (IntKind.i64.wrap (c+1)) ((n:Nat):Int)=sq ((n:Nat):Int) c:=by
 rw[gi (by omega) (by omega),Int.tmod_eq_emod_of_nonneg (by omega)];unfold sq
 by_cases h:c+1=((n:Nat):Int)
 ·rw[if_pos h,h,Int.emod_self]
 rw[if_neg h,Int.emod_eq_of_lt (by omega) (by omega)]
theorem gD {n c y:Int} (hc:0<=c∧c<n) (hy:0<=y∧y<n) (hne:y≠c):ro n (sq n c) y=ro n c y-1:=by
 unfold ro sq
 split <;>split <;>split <;>omega
theorem mN {n c y:Int} (hc:0<=c∧c<n) (hy:0<=y∧y<n):0<=ro n c y∧ro n c y<n:=by
 unfold ro
 split <;>omega
theorem Ap {n c y:Int} (hc:0<=c∧c<n) (hy:0<=y∧y<n):ro n c y=0↔y=c:=by
 unfold ro
 split <;>omega
def wN (n:Nat) (c:Int) (a:Qn):Prop:=∃ q r:Int,a.v=n*q+r∧0<=r∧r<((n:Nat):Int)∧0<=q ∧
 ((a.t.length:Int)+q<=((n:Nat):Int)-1∨(a.A=0∧(a.t.length:Int)+q<=((n:Nat):Int)∧∀ y∈a.t,ro ((n:Nat):Int) c y+r<((n:Nat):Int)))
def se (n:Nat) (c:Int) (a:Qn):Prop:=
 ((n:Nat):Int)<=(a.t.length:Int)+a.v∧a.p.length+4*a.t.length<=4*n∧a.A<=(a.p.length:Int) ∧
 (a.z=0->∀ y∈a.t,ro ((n:Nat):Int) c y+a.v<((n:Nat):Int))∧(a.z≠0->wN n c a)
def lY (n:Nat) (f:df):Prop:=((n:Nat):Int)<=f.n∧f.n<=((n:Nat):Int)*((n:Nat):Int)∧f.p.length<=4*n
structure mk (K:Nat) (e:Qj):Prop where
 pro:∀ a∈e.a,se e.d.c.length e.j a
 dn:∀ f∈e.f,lY e.d.c.length f
 cnt:e.f.length+e.a.length<=K
 led:e.k.length<=K
theorem gH:∀ {l:List Int} {c:Int},l.Pairwise (fun a b=>a<b)->c∈l->(l.filter (fun y=>y !=c)).length+1=l.length
 | [],_,_,h=>by cases h
 |x::l,c,hp,h=>by
  rw[List.pairwise_cons] at hp;rcases List.mem_cons.1 h with rfl|h
  ·have e:l.filter (fun y=>y !=c)=l:=List.filter_eq_self.2 fun y hy=>bne_iff_ne.2 (by have:=hp.1 y hy;omega)
   rw[List.filter_cons_of_neg (by simp),e,List.length_cons]
  have:=hp.1 c h;rw[List.filter_cons_of_pos (p:=fun y=>y !=c) (bne_iff_ne.2 (show x≠c by omega)),List.length_cons,gH hp.2 h,List.length_cons]
theorem gX (l:List Int) (c:Int):ov l c=true↔c∈l:=by
 rw[pZ,List.any_eq_true];constructor
 ·rintro⟨y,hy,he⟩;rw[<- beq_iff_eq.1 he];exact hy
 intro h;exact⟨c,h,beq_self_eq_true _⟩
theorem tJ {n:Nat} {q r:Int} (hn:0<n) (a:0<=r) (b:r<((n:Nat):Int)) (hq:0<=q) (hb:((n:Nat):Int)*q+r+1<=1000000):((Int.tmod (IntKind.i64.wrap (((n:Nat):Int)*q+r+1)) ((n:Nat):Int))==0)=decide (r+1=((n:Nat):Int)):=by
 have:0<=((n:Nat):Int)*q:=Int.mul_nonneg (by omega) hq;rw[gi (by omega) (by omega),Int.tmod_eq_emod_of_nonneg (by omega)];have e:((n:Nat):Int)*q+r+1=(r+1)+((n:Nat):Int)*q:=by omega
 rw[e,Int.add_mul_emod_self_left]
 by_cases h:r+1=((n:Nat):Int)
 ·rw[h,Int.emod_self,decide_eq_true rfl];rfl
 rw[Int.emod_eq_of_lt (by omega) (by omega),decide_eq_false h];exact beq_eq_false_iff_ne.2 (by omega)
theorem oZ {n:Nat} {c:Int} {a:Qn} (h:se n c a) (hc:0<=c∧c<((n:Nat):Int)) (ht:tz n a.t) (hn:n<=8):a.v<((n:Nat):Int)*((n:Nat):Int)∧(a.z=0->a.v<((n:Nat):Int)):=by
 obtain⟨_,_,_,f,g⟩:=h;have hpos:=ht.2.2;obtain⟨y,hy⟩:=List.exists_mem_of_length_pos hpos;have d:=ht.1 y hy;have hd:=mN hc d;have hnn:((n:Nat):Int)<=((n:Nat):Int)*((n:Nat):Int):=by
  have:=Int.mul_le_mul_of_nonneg_left (show(1:Int)<=((n:Nat):Int) by omega) (show 0<=((n:Nat):Int) by omega);omega
 by_cases b:a.z=0
 ·have:=f b y hy;exact⟨by omega,fun _=>by omega⟩
 obtain⟨q,r,e,_,_,_,hq⟩:=g b;refine⟨?_,fun h=>absurd h b⟩;have hqn:q<=((n:Nat):Int)-1:=by rcases hq with hq|hq <;>omega
 have:=Int.mul_le_mul_of_nonneg_left hqn (show 0<=((n:Nat):Int) by omega);rw[Int.mul_sub,Int.mul_one] at this;omega
def gq (x:Qj) (a:Qn):Qn:=cond (pm x.j a) (aO x a) a
theorem Nj {x:Qj} (h:fr x):ja x (bv x)=x.a.map (gq x):=by
 unfold ja;refine List.map_congr_left fun a ha=>?_
 unfold gq;have e:decide (a.e.Id∈bv x)=pm x.j a:=by
  rw[Bool.eq_iff_iff,decide_eq_true_iff];constructor
  ·intro c;obtain⟨i,hi,he,hf,hb⟩:=zl h c;obtain⟨j,hj,rfl⟩:=List.mem_iff_getElem.1 ha;rw[<- gc hj] at he hf ⊢;have b:=aZ h.srt hj;rw[hf] at b;have:i=j:=by omega
   rw[<- this];exact hb
  intro hb;rw[bA h];exact List.mem_map.2 ⟨a,List.mem_filter.2 ⟨ha,hb⟩,rfl⟩
 rw[e]
theorem Nn {a:Qn} (h:a.z=0∨a.A<a.z):qb a=true:=by
 unfold qb
 by_cases b:a.z=0
 ·rw[beq_iff_eq.2 b];rfl
 rw[beq_eq_false_iff_ne.2 b];exact decide_eq_true (by omega)
structure Nd (x:Qj) (a b:Qn):Prop where
 query:b.e=a.e
 time:b.r=a.r
 age:b.v=a.v
 cap:b.z=a.z
 tod:b.t=a.t.filter (fun y=>y !=x.j)∨b.t=a.t
 hit:x.j∈a.t->qb a=true->b.t.length+1=a.t.length
 sub:∀ y∈b.t,y∈a.t∧(qb a=true->y≠x.j)
 len:b.t.length<=a.t.length∧a.t.length<=b.t.length+1
 rws:a.p.length<=b.p.length∧b.p.length+4*b.t.length<=a.p.length+4*a.t.length
 snt:a.A<=b.A∧b.A<=a.A+((b.p.length:Int)-(a.p.length:Int))
 still: ¬ (x.j∈a.t∧qb a=true)->b=a
theorem cY {x:Qj} (h:fr x) {a:Qn} (ha:a∈x.a):Nd x a (gq x a):=by
 obtain⟨hq,htm,hto,hag,hse,hca,hro⟩:=h.act a ha;have d:=jF h a;cases hp:pm x.j a with
 |true=>
  have e:gq x a=aO x a:=by unfold gq;rw[hp];rfl
  rw[e];unfold pm at hp;rw[Bool.and_eq_true] at hp;have hc:=(gX _ _).1 hp.2;have hl:=gH hto.2.1 hc;have hw:IntKind.i64.wrap (a.A+(((my x a).length:Nat):Int))=a.A+(((my x a).length:Nat):Int):=gi (by omega) (by omega);refine⟨rfl,rfl,rfl,rfl, .inl rfl,fun _ _=>hl,fun y hy=>?_,?_,?_,?_,fun hn=>absurd ⟨hc,hp.1⟩ hn⟩
  ·have:=List.mem_filter.1 (show y∈a.t.filter (fun y=>y !=x.j) from hy);exact⟨this.1,fun _=>bne_iff_ne.1 this.2⟩
  ·show(a.t.filter (fun y=>y !=x.j)).length<=_∧_<=(a.t.filter (fun y=>y !=x.j)).length+1;omega
  ·show a.p.length<=(a.p++my x a).length∧(a.p++my x a).length+4*(a.t.filter (fun y=>y !=x.j)).length<=_;rw[List.length_append];omega
  show a.A<=IntKind.i64.wrap _∧IntKind.i64.wrap _<=a.A+((((a.p++my x a).length:Nat):Int)-_);rw[hw,List.length_append];omega
 |false=>
  have e:gq x a=a:=by unfold gq;rw[hp];rfl
  rw[e];have hn: ¬ (x.j∈a.t∧qb a=true):=fun⟨c,b⟩=>by
   unfold pm at hp;rw[b,(gX _ _).2 c] at hp;cases hp
  exact⟨rfl,rfl,rfl,rfl, .inr rfl,fun c b=>absurd ⟨c,b⟩ hn,fun y hy=>⟨hy,fun b he=>hn ⟨he ▸ hy,b⟩⟩,by omega,by omega,by omega,fun _=>rfl⟩
theorem xG {x:Qj} (h:fr x) {a:Qn} (ha:a∈x.a) (hp:se x.d.c.length x.j a) {b:Qn} (hb:Nd x a b) (hne:0<b.t.length):
 se x.d.c.length (sq ((x.d.c.length:Nat):Int) x.j) (pj ((x.d.c.length:Nat):Int) b):=by
 obtain⟨hq,htm,hto,hag,hse,hca,hro⟩:=h.act a ha;have p:=((ka _).1 h.st).1;have hc:=h.cur;have hage:=(oZ hp hc hto p.2).1;obtain⟨_,_,_,s,u⟩:=hp;have hl:=hb.len;have hrw:=hb.rws;have hsn:=hb.snt;have hw:IntKind.i64.wrap (b.v+1)=a.v+1:=by rw[hb.age];exact gi (by omega) (by omega)
 have hnc:0<=sq ((x.d.c.length:Nat):Int) x.j∧sq ((x.d.c.length:Nat):Int) x.j<((x.d.c.length:Nat):Int):=by unfold sq;split <;>omega
 unfold se pj;dsimp only;rw[hw,hb.cap];refine⟨by omega,by omega,?_,fun g y hy=>?_,fun g=>?_⟩
 ·cases (Int.tmod (a.v+1) ((x.d.c.length:Nat):Int))==0
  ·show b.A<=_;omega
  show(0:Int)<=_;omega
 ·have hy':=hb.sub y hy;have hyr:=hto.1 y hy'.1;rw[gD hc hyr (hy'.2 (Nn (.inl g)))];have:=s g y hy'.1;omega
 obtain⟨q,r,e,w,z,i,hqq⟩:=u g;have f:((x.d.c.length:Nat):Int)*q+r+1<=1000000:=by omega
 have hrs:=tJ (n:=x.d.c.length) (by omega) w z i f;rw[show((x.d.c.length:Nat):Int)*q+r+1=a.v+1 by omega,show IntKind.i64.wrap (a.v+1)=a.v+1 from gi (by omega) (by omega)] at hrs;rw[hrs]
 by_cases hr:r+1=((x.d.c.length:Nat):Int)
 ·rw[decide_eq_true hr];refine⟨q+1,0,?_,by omega,by omega,by omega, .inr ⟨rfl,?_,fun y hy=>?_⟩⟩
  ·show a.v+1=_;rw[Int.mul_add,Int.mul_one];omega
  ·show(b.t.length:Int)+(q+1)<=_;rcases hqq with hqq|⟨k,l,dd⟩
   ·omega
   by_cases hcm:x.j∈a.t
   ·have:=hb.hit hcm (Nn (.inr (by omega)));omega
   exfalso
   obtain⟨y,hy⟩:=List.exists_mem_of_length_pos hto.2.2;have o:=dd y hy;have:=mN hc (hto.1 y hy);exact hcm (((Ap hc (hto.1 y hy)).1 (by omega)) ▸ hy)
  have:=mN hnc (hto.1 y (hb.sub y hy).1);show ro _ _ y+0<_;omega
 rw[decide_eq_false hr];refine⟨q,r+1,?_,by omega,by omega,i,?_⟩
 ·show a.v+1=_;omega
 rcases hqq with hqq|⟨k,l,dd⟩
 ·left;show(b.t.length:Int)+q<=_;omega
 by_cases hcm:x.j∈a.t
 ·have:=hb.hit hcm (Nn (.inr (by omega)))
  left;show(b.t.length:Int)+q<=_;omega
 have m:=hb.still (fun hh=>hcm hh.1);subst m
 right
 refine⟨k,l,fun y hy=>?_⟩;have o:=dd y hy;show ro _ _ y+(r+1)<_;rw[gD hc (hto.1 y hy) (fun e=>hcm (e ▸ hy))];omega
theorem Nb {x:Qj} (h:fr x) {a:Qn} (ha:a∈x.a) (hp:se x.d.c.length x.j a) {b:Qn} (hb:Nd x a b) (he:b.t.length=0):
 lY x.d.c.length (ot b)∧(a.z=0->(ot b).n<=((x.d.c.length:Nat):Int)):=by
 obtain⟨hq,htm,hto,hag,hse,hca,hro⟩:=h.act a ha;have g:=((ka _).1 h.st).1;have hc:=h.cur;obtain⟨hage,e⟩:=oZ hp hc hto g.2;obtain⟨_,_,_,_,_⟩:=hp;have hl:=hb.len;have hrw:=hb.rws;have hpos:=hto.2.2;have hw:IntKind.i64.wrap (b.v+1)=a.v+1:=by rw[hb.age];exact gi (by omega) (by omega)
 have hst:(ot b).n=a.v+1:=hw;refine⟨⟨by rw[hst];omega,by rw[hst];omega,by show b.p.length<=_;omega⟩,fun f=>by have:=e f;rw[hst];omega⟩
theorem xB {x:Qj} (h:fr x) {a:Qn} (ha:a∈x.a) (hp:se x.d.c.length x.j a) (hne:0<(gq x a).t.length):aV x.d (pj ((x.d.c.length:Nat):Int) (gq x a)):=by
 have hb:=cY h ha;obtain⟨hq,htm,hto,hag,hse,hca,hro⟩:=h.act a ha;have b:=((ka _).1 h.st).1;have hc:=h.cur;have hage:=(oZ hp hc hto b.2).1;obtain⟨_,_,_,_,_⟩:=hp;have hl:=hb.len;have hrw:=hb.rws;have hsn:=hb.snt;have hw:IntKind.i64.wrap ((gq x a).v+1)=a.v+1:=by rw[hb.age];exact gi (by omega) (by omega)
 have hnn:((x.d.c.length:Nat):Int)*((x.d.c.length:Nat):Int)<=64:=by
  have:=Int.mul_le_mul_of_nonneg_left (show((x.d.c.length:Nat):Int)<=8 by omega) (show 0<=((x.d.c.length:Nat):Int) by omega);omega
 unfold aV pj;dsimp only;rw[hw,hb.cap,hb.query,hb.time];refine⟨hq,htm,⟨fun y hy=>hto.1 y (hb.sub y hy).1,?_,hne⟩,by omega,?_,hca,?_,?_⟩
 ·rcases hb.tod with e|e
  ·rw[e];exact hto.2.1.filter _
  rw[e];exact hto.2.1
 ·cases (Int.tmod (a.v+1) ((x.d.c.length:Nat):Int))==0
  ·show 0<=(gq x a).A∧(gq x a).A<=1000;omega
  show(0:Int)<=0∧(0:Int)<=1000;omega
 ·intro r hr;unfold gq at hr
  revert hr
  cases pm x.j a with
  |false=>exact fun hr=>hro.1 r hr
  |true=>
   intro hr;rcases List.mem_append.1 (show r∈a.p++my x a from hr) with hr|hr
   ·exact hro.1 r hr
   exact xh h a r hr
 omega
theorem aP (x:Qj) (a:Qn):(gq x a).e=a.e:=by
 unfold gq;cases pm x.j a <;>rfl
theorem Ah {x:Qj} (h:fr x) (hn:0<(bv x).length):qw (ue x)=true:=by
 have:=bB h;have:=((ka _).1 h.st).1;have hc:=h.cur;have hsg:=pC h;have hq:∀ y∈bv x,(0<=y∧y<=23)∧(0<=(mj x y).e.u∧(mj x y).e.u<=3):=fun y hy=>by
  obtain⟨i,hi,he,hf,_⟩:=zl h hy;have ho:=oX (h.act _ (bl hi)).1;have e:mj x y=gt x.a i:=by unfold mj;rw[hf,Int.toNat_natCast]
  rw[e, <- he];exact⟨ho.1,ho.2.1⟩
 have hset:nk (bv x)=true:=dY (eB h) fun y hy=>(hq y hy).1
 unfold qw ue tq th;dsimp only;rw[hset,List.length_map,List.length_map,cond_true,beq_eq_false_iff_ne.2 (show((bv x).length:Int)≠0 by omega),cond_false,decide_eq_false (show ¬ 8<((bv x).length:Int) by omega),cond_false,bne_self_eq_false,cond_false,cond_false,kk,decide_eq_true (show 0<=x.j∧x.j<=7 by omega),kk,decide_eq_true (show(0:Int)<=(((lp x).length:Nat):Int)∧(((lp x).length:Nat):Int)<=4 by have:(lp x).length<=4:=hsg;omega)]
 rw[qq (fun k hk=>by
  unfold vh;dsimp only;have hk':k<(bv x).length:=hk;have b:gt ((bv x).map fun y=>(mj x y).e.u) k=(mj x (gt (bv x) k)).e.u:=by rw[gc (by rw[List.length_map];exact hk'),List.getElem_map,gc hk']
  have c:gt ((bv x).map fun y=>(((my x (mj x y)).length:Nat):Int)) k=(((my x (mj x (gt (bv x) k))).length:Nat):Int):=by rw[gc (by rw[List.length_map];exact hk'),List.getElem_map,gc hk']
  have hl:(my x (mj x (gt (bv x) k))).length<=(lp x).length:=rF _ _;rw[b,c,kk,decide_eq_true (hq _ (bl hk')).2,kk,decide_eq_true (by omega)]
  rfl)]
 rfl
theorem My {s:ah} (h:me s=true) (k:List Int):(lx s k).1=⟨ix k s.c,s.g⟩:=by rw[yd s k h]
theorem bW (k:List Int) (d:List (List Qz)):(ix k d).length=d.length:=by unfold ix;rw[List.length_map]
theorem eX {K:Nat} {x:Qj} (h:fr x) (hd:mk K x) (hc:pq x=true):fr (gp x).1∧mk (K+1) (gp x).1:=by
 obtain⟨_,c1,_,_⟩:=uw hc;have y:=(ka _).1 h.st;have:=y.1;have hcur:=h.cur;have hstp:=h.stp;have hal:=h.al;have hnx:=Ea hcur.1 hcur.2 (by omega);have hnc:0<=sq ((x.d.c.length:Nat):Int) x.j∧sq ((x.d.c.length:Nat):Int) x.j<((x.d.c.length:Nat):Int):=by unfold sq;split <;>omega
 have hnn:((x.d.c.length:Nat):Int)*((x.d.c.length:Nat):Int)<=64:=by
  have:=Int.mul_le_mul_of_nonneg_left (show((x.d.c.length:Nat):Int)<=8 by omega) (show 0<=((x.d.c.length:Nat):Int) by omega);omega
 rw[tx,hc,cond_true,sg];have hr:=My (s:=(ny x).d) h.st ((ny x).a.map fun a=>a.r);rw[hr];have hL:ja x (bv x)=x.a.map (gq x):=Nj h;have hrest:∀ a∈(ny x).a,∃ b∈x.a,0<(gq x b).t.length∧a=pj ((x.d.c.length:Nat):Int) (gq x b):=fun a ha=>by
  have ha:a∈og x (ja x (bv x)):=ha;unfold og at ha;rw[hL] at ha;obtain⟨b,hb,rfl⟩:=List.mem_map.1 ha;obtain⟨m,i⟩:=List.mem_filter.1 hb;obtain⟨u,v,rfl⟩:=List.mem_map.1 m;refine⟨u,v,?_,rfl⟩;unfold mi at i
  by_cases hz:(gq x u).t.length=0
  ·rw[hz] at i;cases i
  omega
 have hdone:∀ f∈(ny x).f,f∈x.f∨∃ b∈x.a,(gq x b).t.length=0∧f=ot (gq x b):=fun f hf=>by
  have hf:f∈uz x (ja x (bv x)):=hf;unfold uz at hf;rw[hL] at hf;rcases List.mem_append.1 hf with hf|hf
  ·exact .inl hf
  obtain⟨b,hb,rfl⟩:=List.mem_map.1 hf;obtain⟨m,i⟩:=List.mem_filter.1 hb;obtain⟨u,v,rfl⟩:=List.mem_map.1 m;refine .inr ⟨u,v,?_,rfl⟩;unfold mi at i;have:=beq_iff_eq.1 i;omega
 have hcount:(ny x).f.length+(ny x).a.length=x.f.length+x.a.length:=by
  show(uz x (ja x (bv x))).length+(og x (ja x (bv x))).length=_;unfold uz og;have hp:∀ l:List Qn,(l.filter mi).length+(l.filter fun a=> !mi a).length=l.length:=fun l=>by
   induction l with
   |nil=>rfl
   |cons a l ih=>cases he:mi a <;>simp[he] <;>omega
  have:=hp (ja x (bv x));rw[List.length_append,List.length_map,List.length_map];have:=tf x (bv x);omega
 have hled:(ny x).k.length<=x.k.length+1∧∀ c∈(ny x).k,c∈x.k∨qw c=true:=by
  show(qd x).length<=_∧∀ c∈qd x,_;unfold qd
  by_cases hp:0<(((bv x).length:Nat):Int)
  ·rw[decide_eq_true hp,cond_true,List.length_append];refine⟨Nat.le_refl _,fun c hc=>?_⟩;rcases List.mem_append.1 hc with hc|hc
   ·exact .inl hc
   rw[List.mem_singleton.1 hc];exact .inr (Ah h (by omega))
  rw[decide_eq_false hp,cond_false];exact⟨Nat.le_succ _,fun c hc=> .inl hc⟩
 have:(ny x).a.length<=x.a.length:=by
  have:=(jB (x:=x) (fD h (bv x))).1;have:=tf x (bv x);show(og x (ja x (bv x))).length<=_;omega
 constructor
 ·refine⟨?_,?_,h.ord,?_,?_,?_,?_,fun a ha=>?_,?_,fun f hf=>?_,fun c hc=>?_⟩
  ·exact(ka _).2 (eL y _)
  ·show 0<=Int.tmod _ _∧Int.tmod _ _<(((ix _ x.d.c).length:Nat):Int);rw[bW,hnx];exact hnc
  ·show(ny x).a.length<=8;omega
  ·show 0<=IntKind.i64.wrap (x.n+1)∧IntKind.i64.wrap (x.n+1)<=100000;rw[gi (by omega) (by omega)];omega
  ·show(ny x).f.length<=1000;omega
  ·show(ny x).k.length<=1000;omega
  ·obtain⟨b,hb,hne,rfl⟩:=hrest a ha;obtain⟨o,k2,B,C⟩:=xB h hb (hd.pro b hb) hne;refine⟨o,k2,?_,C⟩;show tz (ix _ x.d.c).length _;rw[bW];exact B
  ·show(og x (ja x (bv x))).Pairwise _;unfold og;rw[hL,List.pairwise_map];refine List.Pairwise.filter _ ?_;rw[List.pairwise_map];refine h.srt.imp fun {a b} hab=>?_
   show(gq x a).e.Id<(gq x b).e.Id;rw[aP,aP];exact hab
  ·rcases hdone f hf with hf|⟨b,hb,he,rfl⟩
   ·exact h.fin f hf
   have hF:=cY h hb;obtain⟨o,k2⟩:=Nb h hb (hd.pro b hb) hF he;obtain⟨hq,htm,_,hag,_,_,hro⟩:=h.act b hb;refine⟨?_,?_,?_,?_⟩
   ·show ki (gq x b).e=true;rw[aP];exact hq
   ·show 0<=(gq x b).r∧(gq x b).r<=x.d.g;rw[hF.time];exact htm
   ·have:=o.1;have:=o.2.1;omega
   have:=o.2.2;refine⟨fun r hr=>?_,by omega⟩;have hr:r∈(gq x b).p:=hr;unfold gq at hr
   revert hr
   cases pm x.j b with
   |false=>exact fun hr=>hro.1 r hr
   |true=>
    intro hr;rcases List.mem_append.1 (show r∈b.p++my x b from hr) with hr|hr
    ·exact hro.1 r hr
    exact xh h b r hr
  rcases hled.2 c hc with hc|hc
  ·exact h.led c hc
  exact hc
 refine⟨fun a ha=>?_,fun f hf=>?_,?_,?_⟩
 ·obtain⟨b,hb,hne,rfl⟩:=hrest a ha;show se (ix _ x.d.c).length (Int.tmod _ _) _;rw[bW,hnx];exact xG h hb (hd.pro b hb) (cY h hb) hne
 ·show lY (ix _ x.d.c).length f;rw[bW];rcases hdone f hf with hf|⟨b,hb,he,rfl⟩
  ·exact hd.dn f hf
  exact(Nb h hb (hd.pro b hb) (cY h hb) he).1
 ·have:=hd.cnt;show(ny x).f.length+(ny x).a.length<=_;omega
 have:=hd.led;show(ny x).k.length<=_;omega
theorem eK {K:Nat} {e:Qj} (h:fr e) (hd:mk K e):fr (mt e)∧mk K (mt e):=by
 rw[sg,My h.st];have hl:(ix (e.a.map fun a=>a.r) e.d.c).length=e.d.c.length:=bW _ _;refine⟨⟨(ka _).2 (eL ((ka _).1 h.st) _),?_,h.ord,h.al,h.stp,h.dl,h.ll,fun a ha=>?_,h.srt,h.fin,h.led⟩,⟨fun a ha=>?_,fun f hf=>?_,hd.cnt,hd.led⟩⟩
 ·show 0<=e.j∧e.j<(((ix _ e.d.c).length:Nat):Int);rw[hl];exact h.cur
 ·obtain⟨b,k2,g,i⟩:=h.act a ha;exact⟨b,k2,by show tz (ix _ e.d.c).length _;rw[hl];exact g,i⟩
 ·show se (ix _ e.d.c).length _ _;rw[hl];exact hd.pro a ha
 show lY (ix _ e.d.c).length _;rw[hl];exact hd.dn f hf
theorem eA {s:ah} (h:me s=true):fr (⟨s,0,[0,1,2],[],[],[],0⟩:Qj)∧mk 0 (⟨s,0,[0,1,2],[],[],[],0⟩:Qj):=by
 have:=((ka _).1 h).1
 exact⟨⟨h,by show(0:Int)<=0∧(0:Int)<((s.c.length:Nat):Int);omega,rfl,Nat.zero_le _,(by show(0:Int)<=0∧(0:Int)<=100000;decide),Nat.zero_le _,Nat.zero_le _,fun a ha=>(by cases ha),List.Pairwise.nil,fun a ha=>(by cases ha),fun a ha=>(by cases ha)⟩,
  ⟨fun a ha=>(by cases ha),fun a ha=>(by cases ha),Nat.le_refl _,Nat.le_refl _⟩⟩
theorem Nl {x:Qj} {q:bf} {l:Int} (h:ub x q l=true):fr x∧ki q=true∧(0<=l∧l<=32)∧(∀ j,j<x.a.length->(gt x.a j).e.Id≠q.Id)∧x.a.length<8:=by
 unfold ub at h;simp only[Bool.and_eq_true,Bool.not_eq_true',kk,decide_eq_true_iff] at h;obtain⟨⟨⟨⟨c,d⟩,f⟩,g⟩,b⟩:=h;have b:=of_decide_eq_false b;exact⟨(nu x).1 c,d,f,Mq g,by omega⟩
theorem Dy (n:Nat) (hn:0<n):tz n ((List.range n).map fun(k:Nat)=>((k:Nat):Int)):=by
 refine⟨fun y hy=>?_,?_,by rw[List.length_map,List.length_range];exact hn⟩
 ·obtain⟨k,hk,rfl⟩:=List.mem_map.1 hy;have:=List.mem_range.1 hk;omega
 rw[List.pairwise_map];exact List.pairwise_lt_range.imp fun h=>by omega
theorem Dz {x:Qj} {q:bf} {l:Int} (h:ub x q l=true):aV x.d (so x q l)∧se x.d.c.length x.j (so x q l):=by
 obtain⟨hE,hq,hl,hf,_⟩:=Nl h;have a:=(ka _).1 hE.st;have:=a.1;have hc:=hE.cur;have ht:=Dy x.d.c.length (by omega);have hlen:(so x q l).t.length=x.d.c.length:=by show((List.range x.d.c.length).map _).length=_;rw[List.length_map,List.length_range]
 refine⟨⟨hq,⟨a.2.1.1,Int.le_refl _⟩,ht,⟨Int.le_refl _,(by show(0:Int)<=100000;decide)⟩,⟨Int.le_refl _,(by show(0:Int)<=1000;decide)⟩,hl,fun r hr=>(by cases hr),Nat.zero_le _⟩,?_,?_,Int.le_refl _,fun _ y hy=>?_,fun _=>⟨0,0,?_,Int.le_refl _,by omega,Int.le_refl _, .inr ⟨rfl,?_,fun y hy=>?_⟩⟩⟩
 ·rw[hlen];show _<=_+(0:Int);omega
 ·rw[hlen];show 0+_<=_;omega
 ·have:=mN hc (ht.1 y hy);show _+(0:Int)<_;omega
 ·show(0:Int)=_;omega
 ·rw[hlen];omega
 have:=mN hc (ht.1 y hy);omega
theorem tG {K:Nat} {x:Qj} {q:bf} {l:Int} (hb:ub x q l=true) (hd:mk K x):fr (mJ x q l)∧mk (K+1) (mJ x q l):=by
 obtain⟨h,hq,hl,hf,_⟩:=Nl hb;obtain⟨n,o⟩:=Dz hb;have hj:=pG x.a q.Id;have hlen:(mJ x q l).a.length=x.a.length+1:=by
  show((List.take _ x.a++[so x q l])++List.drop _ x.a).length=_;rw[List.length_append,List.length_append,List.length_take,List.length_drop];show _+1+_=_;omega
 have d:∀ a∈(mJ x q l).a,a∈x.a∨a=so x q l:=fun a ha=>by
  rcases List.mem_append.1 (show a∈(List.take (cx x.a q.Id) x.a++[so x q l])++List.drop (cx x.a q.Id) x.a from ha) with ha|ha
  ·rcases List.mem_append.1 ha with ha|ha
   ·exact .inl (List.mem_of_mem_take ha)
   exact .inr (List.mem_singleton.1 ha)
  exact .inl (List.mem_of_mem_drop ha)
 have htk:∀ a∈x.a.take (cx x.a q.Id),a.e.Id<q.Id:=fun a ha=>by
  obtain⟨i,hi,rfl⟩:=List.mem_iff_getElem.1 ha;rw[List.length_take] at hi;rw[List.getElem_take];have c:=pH (xs:=x.a) (q:=q.Id) (j:=i) (by omega);have m:=hf i (by omega);rw[gc (by omega)] at c m;omega
 have hdr:∀ a∈x.a.drop (cx x.a q.Id),q.Id<a.e.Id:=fun a ha=>by
  obtain⟨i,hi,rfl⟩:=List.mem_iff_getElem.1 ha;rw[List.length_drop] at hi;rw[List.getElem_drop];have c:=pF (xs:=x.a) (q:=q.Id) (by omega);rw[gc (by omega)] at c
  by_cases g:i=0
  ·subst g;exact c
  have:=List.pairwise_iff_getElem.1 h.srt (cx x.a q.Id) (cx x.a q.Id+i) (by omega) (by omega) (by omega);omega
 refine⟨⟨h.st,h.cur,h.ord,by rw[hlen];omega,h.stp,h.dl,h.ll,fun a ha=>?_,?_,h.fin,h.led⟩,⟨fun a ha=>?_,hd.dn,?_,?_⟩⟩
 ·rcases d a ha with ha|rfl
  ·exact h.act a ha
  exact n
 ·show((x.a.take (cx x.a q.Id)++[so x q l])++x.a.drop (cx x.a q.Id)).Pairwise _;rw[List.pairwise_append,List.pairwise_append];refine⟨⟨h.srt.sublist (List.take_sublist _ _),List.pairwise_singleton _ _,fun a ha b hb'=>?_⟩,h.srt.sublist (List.drop_sublist _ _),fun a ha b hb'=>?_⟩
  ·rw[List.mem_singleton.1 hb'];exact htk a ha
  rcases List.mem_append.1 ha with ha|ha
  ·have:=htk a ha;have:=hdr b hb';omega
  rw[List.mem_singleton.1 ha];exact hdr b hb'
 ·rcases d a ha with ha|rfl
  ·exact hd.pro a ha
  exact o
 ·have:=hd.cnt;rw[hlen];show x.f.length+_<=_;omega
 have:=hd.led;show x.k.length<=_;omega
theorem Ao {α:Type} (l:List α) {k k2:Nat} (h:k<=k2):(l.take k++l.drop k2).Sublist l:=by
 have a:(l.drop k2).Sublist (l.drop k):=by
  rw[show k2=k+(k2-k) by omega, <- List.drop_drop];exact List.drop_sublist _ _
 have:=(List.Sublist.refl (l.take k)).append a;rw[List.take_append_drop] at this;exact this
theorem uE {K:Nat} {x:Qj} (h:fr x) (hd:mk K x) {k k2:Nat} (hk:k<=k2):fr (⟨x.d,x.j,x.l,(List.take k x.a++List.drop k2 x.a),x.f,x.k,x.n⟩:Qj)∧mk K (⟨x.d,x.j,x.l,(List.take k x.a++List.drop k2 x.a),x.f,x.k,x.n⟩:Qj):=by
 have hsub:=Ao x.a hk;have hle:=hsub.length_le;have:=h.al;have:=hd.cnt
 exact⟨⟨h.st,h.cur,h.ord,by show(x.a.take k++x.a.drop k2).length<=8;omega,h.stp,h.dl,h.ll,fun a ha=>h.act a (hsub.subset ha),h.srt.sublist hsub,h.fin,h.led⟩,
  ⟨fun a ha=>hd.pro a (hsub.subset ha),hd.dn,by show x.f.length+(x.a.take k++x.a.drop k2).length<=K;omega,hd.led⟩⟩
theorem xM {K:Nat} {x:Qj} {u:fc} (h:fr x) (hd:mk K x) (hu:(ed x.d u).2=true):fr (⟨(ed x.d u).1,x.j,x.l,x.a,x.f,x.k,x.n⟩:Qj)∧mk K (⟨(ed x.d u).1,x.j,x.l,x.a,x.f,x.k,x.n⟩:Qj):=by
 have e:=(ka _).1 h.st;have:=e.1;obtain⟨p,b⟩:=xN e hu;have hst:=xL e p b;have hn:=b.1;have hl:(ed x.d u).1.c.length=x.d.c.length:=b.2.2.1;refine⟨⟨(ka _).2 hst,?_,h.ord,h.al,h.stp,h.dl,h.ll,fun a ha=>?_,h.srt,fun f hf=>?_,h.led⟩,⟨fun a ha=>?_,fun f hf=>?_,hd.cnt,hd.led⟩⟩
 ·show 0<=x.j∧x.j<(((ed x.d u).1.c.length:Nat):Int);rw[hl];exact h.cur
 ·obtain⟨i,k2,m,o⟩:=h.act a ha;refine⟨i,⟨k2.1,?_⟩,?_,o⟩
  ·show a.r<=(ed x.d u).1.g;rw[hn];omega
  show tz (ed x.d u).1.c.length _;rw[hl];exact m
 ·obtain⟨i,k2,m,o⟩:=h.fin f hf;refine⟨i,⟨k2.1,?_⟩,m,o⟩;show f.r<=(ed x.d u).1.g;rw[hn];omega
 ·show se (ed x.d u).1.c.length _ _;rw[hl];exact hd.pro a ha
 show lY (ed x.d u).1.c.length _;rw[hl];exact hd.dn f hf
def px (k:Nat) (e:Qj):Prop:=kx e∧(e.d.c.length=0∨(fr e∧mk k e∧e.n<=((k:Nat):Int)))
theorem dR {j k:Nat} {e:Qj} (h:mk j e) (hk:j<=k):mk k e:=⟨h.pro,h.dn,Nat.le_trans h.cnt hk,Nat.le_trans h.led hk⟩
theorem lZ {j k:Nat} {e:Qj} (h:px j e) (hk:j<=k):px k e:=⟨h.1,h.2.imp id fun g=>⟨g.1,dR g.2.1 hk,by have:=g.2.2;omega⟩⟩
theorem qZ {e:Qj} (h:e.d.c.length=0):iu e=false:=by
 cases hE:iu e with
 |false=>rfl
 |true=>have:=((ka _).1 ((nu e).1 hE).st).1;omega
theorem uJ {k:Nat} {e:Qj} (h:px k e):px (k+1) (gp e).1:=by
 refine⟨zm h.1,?_⟩;cases hc:pq e with
 |false=>
  rw[tx,hc,cond_false];exact(lZ h (Nat.le_succ k)).2
 |true=>
  have hE:=(uw hc).1;rcases h.2 with a|a
  ·have:=qZ a;rw[(nu e).2 hE] at this;cases this
  obtain⟨b,c⟩:=eX hE a.2.1 hc;refine .inr ⟨b,c,?_⟩;rw[tx,hc,cond_true,sg];show IntKind.i64.wrap (e.n+1)<=_;have:=hE.stp;have:=a.2.2;rw[gi (by omega) (by omega)];omega
theorem dS {k:Nat} {e:Qj} {q:bf} {l:Int} (h:px k e) (hq:lq 68719476736 q):px (k+1) (ge e q l).1:=by
 refine⟨aW h.1 hq,?_⟩;rw[dJ];cases hb:ub e q l with
 |false=>exact(lZ h (Nat.le_succ k)).2
 |true=>
  have hE:=(Nl hb).1;rcases h.2 with a|a
  ·have:=qZ a;rw[(nu e).2 hE] at this;cases this
  obtain⟨b,c⟩:=tG hb a.2.1;refine .inr ⟨b,c,?_⟩;show e.n<=_;have:=a.2.2;omega
theorem eO (e:Qj):(mt e).n=e.n:=by rw[sg]
theorem uK {k:Nat} {e:Qj} (h:px k e) (u:fc):px (k+1) (nc e u).1:=by
 refine⟨bC h.1 u,?_⟩;have b:=lZ h (Nat.le_succ k);unfold nc;cases hE:iu e with
 |false=>exact b.2
 |true=>
 cases hu:(ed e.d u).2 with
 |false=>exact b.2
 |true=>
  rcases b.2 with a|a
  ·rw[qZ a] at hE;cases hE
  have hx:=xM a.1 a.2.1 hu;obtain⟨c,f⟩:=eK hx.1 hx.2;refine .inr ⟨c,f,?_⟩;show(mt _).n<=_;rw[eO];exact a.2.2
theorem uF {x:Qj} (h:fr x) {i:Int} (a: ¬ da x i<0):(IntKind.i64.wrap (da x i+1)).toNat=(da x i).toNat+1:=by
 have:=nJ x i;have:=h.al;rw[gi (by omega) (by omega)];omega
theorem uH {k:Nat} {e:Qj} (h:px k e) (i:Int):px (k+1) (na e i).1:=by
 refine⟨aY h.1 i,?_⟩;have b:=lZ h (Nat.le_succ k);unfold na;cases hE:iu e with
 |false=>exact b.2
 |true=>
 cases hf:decide (da e i<0) with
 |true=>exact b.2
 |false=>
  rcases b.2 with a|a
  ·rw[qZ a] at hE;cases hE
  have hy:=uE a.1 a.2.1 (show(da e i).toNat<=(IntKind.i64.wrap (da e i+1)).toNat by rw[uF a.1 (of_decide_eq_false hf)];omega);obtain⟨c,d⟩:=eK hy.1 hy.2;refine .inr ⟨c,d,?_⟩;show(mt _).n<=_;rw[eO];exact a.2.2
theorem uI {s:ah} (h:np 20 s):px 0 (lu s).1:=by
 refine⟨dZ h,?_⟩;unfold lu;cases a:me s with
 |true=>exact .inr ⟨(eA a).1,(eA a).2,Int.le_refl _⟩
 |false=>exact .inl rfl
theorem kZ (b:List Int) (D:ar) {n:Int} (hn:0<=n∧n<=14):px 14 (bk b D n).1:=by
 have hr:=gr b ((ia b D).2) n;have f:=uI (kV b D);unfold bk;have g:(Qc b ((ia b D).2) n).1<=14:=by
  by_cases h:0<n
  ·have:=hr.2.1 h;omega
  have:=hr.2.2 (show n<=0 by omega);omega
 generalize hM:(Qc b ((ia b D).2) n).1=M at hr g
 obtain⟨s',e,h⟩:=nB (R:=Qj×ar) (b:=fun k (s:Int×Nat×Int×Qj)=>cV b k s.1 s.2.1 s.2.2.1 s.2.2.2) (n:=M.toNat+1) (P:=fun k s=>s.1=M-((k:Nat):Int)∧0<=s.1∧px k s.2.2.2) (Q:=fun s=>px 14 s.2.2.2) (fun k s hk d=>by
  obtain⟨i,c1,c,y⟩:=s;dsimp only at d;obtain⟨_,_,a⟩:=d;show(∃ s',cV b k i c1 c y=_∧_)∨∃ s',cV b k i c1 c y=_∧_;unfold cV
  by_cases hi:0<i
  ·have hw:=gi (n:=i-1) (by omega) (by omega);rw[decide_eq_true hi,cond_true,hw]
   left
   generalize (Qc b (⟨c1,c⟩:ar) 7).1=z;cases z==0 with
   |true=>exact⟨_,rfl,by dsimp only;omega,by dsimp only;omega,dS a (oo (oy _ _ _))⟩
   |false=>
   cases z==1 with
   |true=>exact⟨_,rfl,by dsimp only;omega,by dsimp only;omega,dS a (oo (oy _ _ _))⟩
   |false=>
   cases z==2 with
   |true=>exact⟨_,rfl,by dsimp only;omega,by dsimp only;omega,uK a _⟩
   |false=>
   cases z==3 with
   |true=>exact⟨_,rfl,by dsimp only;omega,by dsimp only;omega,uH a _⟩
   |false=>exact⟨_,rfl,by dsimp only;omega,by dsimp only;omega,uJ a⟩
  rw[decide_eq_false hi,cond_false]
  right
  exact⟨_,rfl,lZ a (by omega)⟩) (M.toNat+1-0) 0 (M,(Qc b ((ia b D).2) n).2.i,(Qc b ((ia b D).2) n).2.h,((lu ((ia b D).1)).1)) (by omega) ⟨by dsimp only;omega,by dsimp only;omega,f⟩
 rw[e];rcases h with h|h
 ·exact h
 obtain⟨_,_,_⟩:s'.1=M-((M.toNat+1:Nat):Int)∧0<=s'.1∧_:=h;omega
theorem Ky (b:List Int) (D:ar) {n:Int} (hn:0<=n∧n<=14):kx (bk b D n).1:=(kZ b D hn).1
def lf (b:List Int) (e:ar):(Qj×ar):=
 cond ((Qc b ((bk b e 14).2) 16).1==0) ((⟨((bk b e 14).1).d,(cy b (Qc b ((bk b e 14).2) 16).2 [(-1),8]).1,((bk b e 14).1).l,((bk b e 14).1).a,((bk b e 14).1).f,((bk b e 14).1).k,((bk b e 14).1).n⟩:Qj),(cy b (Qc b ((bk b e 14).2) 16).2 [(-1),8]).2) (cond ((Qc b ((bk b e 14).2) 16).1==1) ((⟨((bk b e 14).1).d,((bk b e 14).1).j,((bk b e 14).1).l,((bk b e 14).1).a,((bk b e 14).1).f,((bk b e 14).1).k,(cy b (Qc b ((bk b e 14).2) 16).2 [(-1),99999,100000,100001]).1⟩:Qj),(cy b (Qc b ((bk b e 14).2) 16).2 [(-1),99999,100000,100001]).2) (cond ((Qc b ((bk b e 14).2) 16).1==2) ((⟨(⟨((bk b e 14).1).d.c,(-1)⟩:ah),((bk b e 14).1).j,((bk b e 14).1).l,((bk b e 14).1).a,((bk b e 14).1).f,((bk b e 14).1).k,((bk b e 14).1).n⟩:Qj),(Qc b ((bk b e 14).2) 16).2) (cond ((Qc b ((bk b e 14).2) 16).1==3) ((⟨((bk b e 14).1).d,((bk b e 14).1).j,(qi b (Qc b ((bk b e 14).2) 16).2).1,((bk b e 14).1).a,((bk b e 14).1).f,((bk b e 14).1).k,((bk b e 14).1).n⟩:Qj),(qi b (Qc b ((bk b e 14).2) 16).2).2) (((bk b e 14).1),(Qc b ((bk b e 14).2) 16).2))))
theorem Nz:Cb Tryz.prog 88:=⟨f88,_,func88,rfl,by decide⟩
theorem yy (B:Nat) (w0:World) (is:List It) (w:World) (p:Nat) (z0:Value) (b:List Int) (m:ar) (F0:ce mx w0 B z0 b) (Z:b.length<=68719476736) (r:Mem B w0 (Qa p 177 [z0,nI m.i,iV m.h]::is) w):
 Calls Tryz.prog 88 #[.pointer (sA p)] w fun e w'=>∃ x:List Value,e= .returned (.agg x.toArray)∧Mem B w0 (Qh cv x ((lf b m).1)::Qa p 177 [z0,nI (((lf b m).2).i),iV ((lf b m).2).h]::is) w':=by
 obtain⟨_,A2,c3,rfl,_,r5⟩:=Ql F0;refine oq (L:=[(0, .pointer (sA p))]) (N:=30) func88 rfl rfl (Nat.le_of_ble_eq_true rfl) (jr rfl mm) r ?_;have:b.length<=68719476736:=Z;refine sr ?_;refine ca ai rfl (Qe rfl) (by decide) (fun Y=>?_);refine aa (sr (wm ?_));let K1:List Value:=[.slice none 0 0,iV 0,iV 0, .slice none 0 0, .slice none 0 0, .slice none 0 0, .slice none 0 0,iV 0];let m0:List It:=Qa Y 39 K1::is;refine dt (χ:=List Value) (val:=fun x=> .agg x.toArray) (js:=fun x=>(Qh cv x ((bk b m 14).1)::Qa p 177 [.slice A2 b.length c3,nI (((bk b m 14).2).i),iV ((bk b m 14).2).h]::m0)) (Qp yU rfl) (fun W r=>Kz B w0 m0 W p _ b m r5 14 Z (⟨by decide,by decide⟩) (r.front (n:=1) rfl)) (Qe rfl) (by decide) (fun _=>?_);have hrw:=Ky b m (n:=14) ⟨by decide,by decide⟩;refine kl ?_;rintro⟨_,_,_,_,_⟩ rfl;refine fm 0 ?_;rintro F S rfl G0;refine fm 1 ?_;rintro a0 b0 rfl H0;refine fm 2 ?_;rintro H T rfl I0;refine fm 3 ?_;rintro I U rfl J0;refine fm 4 ?_;rintro J V rfl K0;refine ca ai rfl (Qe rfl) (by decide) (fun t=>?_);let K2:List Value:=[.slice F (((bk b m 14).1).d.c).length S,iV (((bk b m 14).1).d.g),iV (((bk b m 14).1).j), .slice a0 (((bk b m 14).1).l).length b0, .slice H (((bk b m 14).1).a).length T, .slice I (((bk b m 14).1).f).length U, .slice J (((bk b m 14).1).k).length V,iV (((bk b m 14).1).n)];refine eu (p:=t) (o:=0) (cs':=K2) (fun w r=>r.front (n:=0) rfl) ai rfl (Nat.le_of_ble_eq_true rfl) rfl rfl rfl rfl (Qe rfl) ?_;refine aa (Qk (sr (wm ?_)));let K:It:=iS (ab Qy 163) 100 F S (((bk b m 14).1).d.c);let M:It:=iS Qb 3 a0 b0 (((bk b m 14).1).l);let O:It:=iS Qt 61 H T (((bk b m 14).1).a);let P:It:=iS bb 80 I U (((bk b m 14).1).f);let R:It:=iS ba 102 J V (((bk b m 14).1).k);let y:List It:=Qa t 39 K2::K::M::O::P::R::m0;refine dt (χ:=Unit) (val:=fun x=>iV ((Qc b ((bk b m 14).2) 16).1)) (js:=fun x=>(Qa p 177 [.slice A2 b.length c3,nI (((Qc b ((bk b m 14).2) 16).2).i),iV ((Qc b ((bk b m 14).2) 16).2).h]::y)) (Qp iq rfl) (fun W r=>iv B w0 y W p _ b ((bk b m 14).2) r5 16 Z (r.front (n:=6) rfl)) (Qe rfl) (by decide) (fun _=>?_);have hb:=gr b ((bk b m 14).2) 16;obtain⟨s,u⟩:∃ G,G=(Qc b ((bk b m 14).2) 16):=⟨_,rfl⟩;rw[<- u];rw[<- u] at hb;refine aa (aw (sr ?_));refine wv (fun W r=>er rfl rfl) ?_;refine wa (aa ?_);rcases fl s.1 0 with⟨y0,z⟩|⟨y0,z⟩
 ·refine Qr rfl z ?_;refine ak (wm ?_);refine di (cs:=[iV (-1),iV 8]) Qq Qg rfl (by decide) (by decide) rfl (by kernel_rfl) (Qe rfl) (by decide) (fun D0=>?_);refine kh (fun W r=>Mem.litOwn (E:=Qb) (xs:=[(-1),8]) rfl (show 2<=maxLen from by decide) (fun _=>(du (E:=Qb) (L1:=[]) cq (du (E:=Qb) (L1:=[]) cq ic))) (r.front (n:=0) rfl)) ?_;let o0:It:=Qh (ab Qb 3) [.slice (sA D0) 2 2] [(-1),8];refine dt (χ:=Unit) (val:=fun x=>iV ((cy b s.2 [(-1),8]).1)) (js:=fun x=>(Qa p 177 [.slice A2 b.length c3,nI (((cy b s.2 [(-1),8]).2).i),iV ((cy b s.2 [(-1),8]).2).h]::o0::y)) (Qp qk rfl) (fun W r=>ra B w0 y W p _ b s.2 r5 _ [(-1),8] Z (Nat.le_of_ble_eq_true rfl) (by first|decide|exact Nat.succ_pos _) ((r.front (n:=0) rfl).front (n:=1) rfl)) (Qe rfl) (by decide) (fun _=>?_);obtain⟨A,d0⟩:∃ G,G=(cy b s.2 [(-1),8]):=⟨_,rfl⟩;rw[<- d0];refine wv (vf Qs rfl Qg) ?_;let K3:List Value:=[.slice F (((bk b m 14).1).d.c).length S,iV (((bk b m 14).1).d.g),iV A.1, .slice a0 (((bk b m 14).1).l).length b0, .slice H (((bk b m 14).1).a).length T, .slice I (((bk b m 14).1).f).length U, .slice J (((bk b m 14).1).k).length V,iV (((bk b m 14).1).n)];refine eu (p:=t) (o:=2) (cs':=K3) (fun w r=>r.front (n:=2) rfl) Qg rfl (Nat.le_of_ble_eq_true rfl) rfl rfl rfl rfl (Qe rfl) ?_;refine au (bi (Qi (sr ?_)));refine wv (fun W r=>Qv (cs:=K3) Qs ai rfl rfl (r.boxCells (n:=0) rfl)) ?_;refine eu (p:=Y) (o:=0) (cs':=K3) (fun w r=>r.front (n:=8) rfl) ai rfl (Nat.le_of_ble_eq_true rfl) rfl rfl rfl rfl (Qe rfl) ?_;refine aa (Qm ?_);let K4:List Value:=[.slice A2 b.length c3,nI A.2.i,iV A.2.h];let q0:List It:=Qa Y 39 K3::Qa t 39 K3::Qa p 177 K4::o0::is;refine cc (js:=(Qh cv K3 (⟨((bk b m 14).1).d,A.1,((bk b m 14).1).l,((bk b m 14).1).a,((bk b m 14).1).f,((bk b m 14).1).k,((bk b m 14).1).n⟩:Qj)::q0)) (fun W r=>Mem.join (is:=[K,M,O,P,R]) (js:=q0) (fun _ _ hs=>gl (x:=(⟨((bk b m 14).1).d,A.1,((bk b m 14).1).l,((bk b m 14).1).a,((bk b m 14).1).f,((bk b m 14).1).k,((bk b m 14).1).n⟩:Qj)) hs) (r.pickN 9 [4,5,6,7,8,0,1,2,3] (by decide))) ?_;have h0:=(show lf b m=((⟨((bk b m 14).1).d,A.1,((bk b m 14).1).l,((bk b m 14).1).a,((bk b m 14).1).f,((bk b m 14).1).k,((bk b m 14).1).n⟩:Qj),A.2) from by subst u d0;exact Qd z (rfl));refine ep rfl (dg (n:=1) rfl rfl Qs ai rfl) (fun W r=>⟨K3,?_,?_⟩)
  ·first|rw[h0]|rfl
  rw[h0];exact(r.pickN 5 [0,3] (by decide))
 refine Qw rfl z ?_;refine sr ?_;refine wv (fun W r=>er rfl rfl) ?_;refine wa (aa ?_);rcases fl s.1 1 with⟨A0,D⟩|⟨A0,D⟩
 ·refine Qr rfl D ?_;refine ak (wm ?_);refine di (cs:=[iV (-1),iV 99999,iV 100000,iV 100001]) Qq Qg rfl (by decide) (by decide) rfl (by kernel_rfl) (Qe rfl) (by decide) (fun E0=>?_);refine kh (fun W r=>Mem.litOwn (E:=Qb) (xs:=[(-1),99999,100000,100001]) rfl (show 4<=maxLen from by decide) (fun _=>(du (E:=Qb) (L1:=[]) cq (du (E:=Qb) (L1:=[]) cq (du (E:=Qb) (L1:=[]) cq (du (E:=Qb) (L1:=[]) cq ic))))) (r.front (n:=0) rfl)) ?_;let p0:It:=Qh (ab Qb 3) [.slice (sA E0) 4 4] [(-1),99999,100000,100001];refine dt (χ:=Unit) (val:=fun x=>iV ((cy b s.2 [(-1),99999,100000,100001]).1)) (js:=fun x=>(Qa p 177 [.slice A2 b.length c3,nI (((cy b s.2 [(-1),99999,100000,100001]).2).i),iV ((cy b s.2 [(-1),99999,100000,100001]).2).h]::p0::y)) (Qp qk rfl) (fun W r=>ra B w0 y W p _ b s.2 r5 _ [(-1),99999,100000,100001] Z (Nat.le_of_ble_eq_true rfl) (by first|decide|exact Nat.succ_pos _) ((r.front (n:=0) rfl).front (n:=1) rfl)) (Qe rfl) (by decide) (fun _=>?_);obtain⟨C,e0⟩:∃ G,G=(cy b s.2 [(-1),99999,100000,100001]):=⟨_,rfl⟩;rw[<- e0];refine wv (vf Qs rfl Qg) ?_;let K5:List Value:=[.slice F (((bk b m 14).1).d.c).length S,iV (((bk b m 14).1).d.g),iV (((bk b m 14).1).j), .slice a0 (((bk b m 14).1).l).length b0, .slice H (((bk b m 14).1).a).length T, .slice I (((bk b m 14).1).f).length U, .slice J (((bk b m 14).1).k).length V,iV C.1];refine eu (p:=t) (o:=7) (cs':=K5) (fun w r=>r.front (n:=2) rfl) Qg rfl (Nat.le_of_ble_eq_true rfl) rfl rfl rfl rfl (Qe rfl) ?_;refine au (bi (Qi (sr ?_)));refine wv (fun W r=>Qv (cs:=K5) Qs ai rfl rfl (r.boxCells (n:=0) rfl)) ?_;refine eu (p:=Y) (o:=0) (cs':=K5) (fun w r=>r.front (n:=8) rfl) ai rfl (Nat.le_of_ble_eq_true rfl) rfl rfl rfl rfl (Qe rfl) ?_;refine aa (Qm ?_);let K6:List Value:=[.slice A2 b.length c3,nI C.2.i,iV C.2.h];let r0:List It:=Qa Y 39 K5::Qa t 39 K5::Qa p 177 K6::p0::is;refine cc (js:=(Qh cv K5 (⟨((bk b m 14).1).d,((bk b m 14).1).j,((bk b m 14).1).l,((bk b m 14).1).a,((bk b m 14).1).f,((bk b m 14).1).k,C.1⟩:Qj)::r0)) (fun W r=>Mem.join (is:=[K,M,O,P,R]) (js:=r0) (fun _ _ hs=>gl (x:=(⟨((bk b m 14).1).d,((bk b m 14).1).j,((bk b m 14).1).l,((bk b m 14).1).a,((bk b m 14).1).f,((bk b m 14).1).k,C.1⟩:Qj)) hs) (r.pickN 9 [4,5,6,7,8,0,1,2,3] (by decide))) ?_;have i0:=(show lf b m=((⟨((bk b m 14).1).d,((bk b m 14).1).j,((bk b m 14).1).l,((bk b m 14).1).a,((bk b m 14).1).f,((bk b m 14).1).k,C.1⟩:Qj),C.2) from by subst u e0;exact Qf z (Qd D (rfl)));refine ep rfl (dg (n:=1) rfl rfl Qs ai rfl) (fun W r=>⟨K5,?_,?_⟩)
  ·first|rw[i0]|rfl
  rw[i0];exact(r.pickN 5 [0,3] (by decide))
 refine Qw rfl D ?_;refine sr ?_;refine wv (fun W r=>er rfl rfl) ?_;refine wa (aa ?_);rcases fl s.1 2 with⟨B0,X⟩|⟨B0,X⟩
 ·refine Qr rfl X ?_;refine ak ?_;refine wv (vf Qs rfl bn) ?_;refine wv (fun W r=>ir (o:=1) bq rfl Qg (by decide) rfl rfl) ?_;let K7:List Value:=[.slice F (((bk b m 14).1).d.c).length S,iV (-1),iV (((bk b m 14).1).j), .slice a0 (((bk b m 14).1).l).length b0, .slice H (((bk b m 14).1).a).length T, .slice I (((bk b m 14).1).f).length U, .slice J (((bk b m 14).1).k).length V,iV (((bk b m 14).1).n)];refine eu (p:=t) (o:=1) (cs':=K7) (fun w r=>r.front (n:=1) rfl) Qg rfl (Nat.le_of_ble_eq_true rfl) rfl rfl rfl rfl (Qe rfl) ?_;refine au (bi (Qi (sr ?_)));refine wv (fun W r=>Qv (cs:=K7) Qs ai rfl rfl (r.boxCells (n:=0) rfl)) ?_;refine eu (p:=Y) (o:=0) (cs':=K7) (fun w r=>r.front (n:=7) rfl) ai rfl (Nat.le_of_ble_eq_true rfl) rfl rfl rfl rfl (Qe rfl) ?_;refine aa (Qm ?_);let K8:List Value:=[.slice A2 b.length c3,nI s.2.i,iV s.2.h];refine cc (js:=(Qh cv K7 (⟨(⟨((bk b m 14).1).d.c,(-1)⟩:ah),((bk b m 14).1).j,((bk b m 14).1).l,((bk b m 14).1).a,((bk b m 14).1).f,((bk b m 14).1).k,((bk b m 14).1).n⟩:Qj)::(Qa Y 39 K7::Qa t 39 K7::Qa p 177 K8::is))) (fun W r=>Mem.join (is:=[K,M,O,P,R]) (js:=(Qa Y 39 K7::Qa t 39 K7::Qa p 177 K8::is)) (fun _ _ hs=>gl (x:=(⟨(⟨((bk b m 14).1).d.c,(-1)⟩:ah),((bk b m 14).1).j,((bk b m 14).1).l,((bk b m 14).1).a,((bk b m 14).1).f,((bk b m 14).1).k,((bk b m 14).1).n⟩:Qj)) hs) (r.pickN 8 [3,4,5,6,7,0,1,2] (by decide))) ?_;have j0:=(show lf b m=((⟨(⟨((bk b m 14).1).d.c,(-1)⟩:ah),((bk b m 14).1).j,((bk b m 14).1).l,((bk b m 14).1).a,((bk b m 14).1).f,((bk b m 14).1).k,((bk b m 14).1).n⟩:Qj),s.2) from by subst u;exact Qf z (Qf D (Qd X (rfl))));refine ep rfl (dg (n:=1) rfl rfl Qs ai rfl) (fun W r=>⟨K7,?_,?_⟩)
  ·first|rw[j0]|rfl
  rw[j0];exact((((r.front (n:=3) rfl).front (n:=1) rfl).front (n:=2) rfl).tail.front (n:=2) rfl).tail
 refine Qw rfl X ?_;refine sr ?_;refine wv (fun W r=>er rfl rfl) ?_;refine wa (aa ?_);rcases fl s.1 3 with⟨C0,c0⟩|⟨C0,c0⟩
 ·refine Qr rfl c0 ?_;refine ak (wm ?_);refine dt (χ:=Value) (val:=fun x=>x) (js:=fun x=>(Qh (ab Qb 3) [x] ((qi b s.2).1)::Qa p 177 [.slice A2 b.length c3,nI (((qi b s.2).2).i),iV ((qi b s.2).2).h]::y)) (Qp yK rfl) (fun W r=>Jw B w0 y W p _ b s.2 r5 Z (r.front (n:=0) rfl)) (Qe rfl) (by decide) (fun _=>?_);obtain⟨v,g0⟩:∃ G,G=(qi b s.2):=⟨_,rfl⟩;rw[<- g0];refine fm 0 ?_;rintro n0 u0 rfl L0;refine wv (vf Qs rfl cb) ?_;let K9:List Value:=[.slice F (((bk b m 14).1).d.c).length S,iV (((bk b m 14).1).d.g),iV (((bk b m 14).1).j), .slice n0 v.1.length u0, .slice H (((bk b m 14).1).a).length T, .slice I (((bk b m 14).1).f).length U, .slice J (((bk b m 14).1).k).length V,iV (((bk b m 14).1).n)];refine eu (p:=t) (o:=3) (cs':=K9) (fun w r=>r.front (n:=2) rfl) cb rfl (Nat.le_of_ble_eq_true rfl) rfl rfl rfl rfl (Qe rfl) ?_;refine au (bi (Qi (sr ?_)));refine wv (fun W r=>Qv (cs:=K9) Qs ai rfl rfl (r.boxCells (n:=0) rfl)) ?_;refine eu (p:=Y) (o:=0) (cs':=K9) (fun w r=>r.front (n:=8) rfl) ai rfl (Nat.le_of_ble_eq_true rfl) rfl rfl rfl rfl (Qe rfl) ?_;refine aa (Qm ?_);let v0:List Value:=[.slice A2 b.length c3,nI v.2.i,iV v.2.h];let s0:List It:=Qa Y 39 K9::Qa t 39 K9::Qa p 177 v0::M::is;refine cc (js:=(Qh cv K9 (⟨((bk b m 14).1).d,((bk b m 14).1).j,v.1,((bk b m 14).1).a,((bk b m 14).1).f,((bk b m 14).1).k,((bk b m 14).1).n⟩:Qj)::s0)) (fun W r=>Mem.join (is:=[K,iS Qb 3 n0 u0 v.1,O,P,R]) (js:=s0) (fun _ _ hs=>gl (x:=(⟨((bk b m 14).1).d,((bk b m 14).1).j,v.1,((bk b m 14).1).a,((bk b m 14).1).f,((bk b m 14).1).k,((bk b m 14).1).n⟩:Qj)) hs) (r.pickN 9 [4,2,6,7,8,0,1,3,5] (by decide))) ?_;have k0:=(show lf b m=((⟨((bk b m 14).1).d,((bk b m 14).1).j,v.1,((bk b m 14).1).a,((bk b m 14).1).f,((bk b m 14).1).k,((bk b m 14).1).n⟩:Qj),v.2) from by subst u g0;exact Qf z (Qf D (Qf X (Qd c0 (rfl)))));refine ep rfl (dg (n:=1) rfl rfl Qs ai rfl) (fun W r=>⟨K9,?_,?_⟩)
  ·first|rw[k0]|rfl
  rw[k0];exact(r.pickN 5 [0,3] (by decide))
 refine Qw rfl c0 ?_;refine aj (bi (Qi (sr ?_)));refine wv (fun W r=>Qv (cs:=K2) Qs ai rfl rfl (r.boxCells (n:=1) rfl)) ?_;refine eu (p:=Y) (o:=0) (cs':=K2) (fun w r=>r.front (n:=7) rfl) ai rfl (Nat.le_of_ble_eq_true rfl) rfl rfl rfl rfl (Qe rfl) ?_;refine aa (Qm ?_);let t0:List Value:=[.slice A2 b.length c3,nI s.2.i,iV s.2.h];refine cc (js:=(Qh cv K2 ((bk b m 14).1)::(Qa Y 39 K2::Qa p 177 t0::Qa t 39 K2::is))) (fun W r=>Mem.join (is:=[K,M,O,P,R]) (js:=(Qa Y 39 K2::Qa p 177 t0::Qa t 39 K2::is)) (fun _ _ hs=>gl (x:=((bk b m 14).1)) hs) (r.pickN 8 [3,4,5,6,7,0,1,2] (by decide))) ?_;have l0:=(show lf b m=(((bk b m 14).1),s.2) from by subst u;exact Qf z (Qf D (Qf X (Qf c0 (rfl)))));refine ep rfl (dg (n:=1) rfl rfl Qs ai rfl) (fun W r=>⟨K2,?_,?_⟩)
 ·first|rw[l0]|rfl
 rw[l0];exact((((r.front (n:=2) rfl).front (n:=1) rfl).front (n:=2) rfl).tail.front (n:=2) rfl).tail
def cw (a:(List Int)):Qj:=
 (lf a (jm a)).1
theorem Pf:Cb Tryz.prog 43:=⟨f43,_,func43,rfl,by decide⟩
theorem Hw (w:World) (P:Value) (e:(List Int)) (J:ce mx w w.heap.size P e) (B:e.length<=68719476736):
 Calls Tryz.prog 43 #[P] w (rO w cv (cw e)):=by
 obtain⟨_,F,H,rfl,_,O⟩:=Ql J;have:e.length<=68719476736:=B;refine fp (L:=[(0, .slice F e.length H)]) (N:=6) func43 ?_;refine sr ?_;refine ca ai rfl (Qe rfl) (by decide) (fun M=>?_);refine aa (sr (wm ?_));refine li (χ:=Nat) (val:=fun p=> .pointer (sA p)) (js:=fun p=>[Qa p 177 [.slice F e.length H,nI ((jm e).i),iV ((jm e).h)]]) (Qp pT rfl) (fun W E=>sI W _ e (E.rdS0 O) B) (Qe rfl) (by decide) (fun I=>?_);let K1:List Value:=[.slice none 0 0,iV 0,iV 0, .slice none 0 0, .slice none 0 0, .slice none 0 0, .slice none 0 0,iV 0];refine dt (χ:=List Value) (val:=fun x=> .agg x.toArray) (js:=fun x=>(Qh cv x ((lf e (jm e)).1)::Qa I 177 [.slice F e.length H,nI (((lf e (jm e)).2).i),iV ((lf e (jm e)).2).h]::[Qa M 39 K1])) (Qp Nz rfl) (fun W E=>yy w.heap.size w [Qa M 39 K1] W I _ e (jm e) O B E) (Qe rfl) (by decide) (fun _=>?_);obtain⟨b,m⟩:∃ G,G=(lf e (jm e)):=⟨_,rfl⟩;rw[<- m];refine kl ?_;rintro⟨_,_,_,_,_⟩ rfl;refine fm 0 ?_;rintro C D rfl S;refine fm 1 ?_;rintro r v rfl T;refine fm 2 ?_;rintro s y rfl U;refine fm 3 ?_;rintro t z rfl V;refine fm 4 ?_;rintro u A rfl X;let K2:List Value:=[.slice C b.1.d.c.length D,iV b.1.d.g,iV b.1.j, .slice r b.1.l.length v, .slice s b.1.a.length y, .slice t b.1.f.length z, .slice u b.1.k.length A,iV b.1.n];let K:It:=iS (ab Qy 163) 100 C D b.1.d.c;refine sb 0 K2 [K,iS Qb 3 r v b.1.l,iS Qt 61 s y b.1.a,iS bb 80 t z b.1.f,iS ba 102 u A b.1.k,Qa I 177 [.slice F e.length H,nI b.2.i,iV b.2.h]] (pk [6,0,1,2,3,4,5]) ai ?_;refine aa (Qm ?_);have o:=(show cw e=b.1 from by subst m;exact rfl);refine ep rfl (dg (n:=0) rfl rfl Qs ai rfl) (fun W E=>⟨K2,?_,?_⟩)
 ·first|rw[o]|rfl
 rw[o];exact Mem.join (is:=[K,iS Qb 3 r v b.1.l,iS Qt 61 s y b.1.a,iS bb 80 t z b.1.f,iS ba 102 u A b.1.k]) (js:=[]) (fun _ _ R=>gl (x:=b.1) R) (E.pick [1,2,3,4,5] (by decide))
def wj (a:bf):bf:=
 a
theorem pJ:Cb Tryz.prog 109:=⟨f109,_,func109,rfl,by decide⟩
theorem Cp (w:World) (v:List Value) (a:bf) (r:eb.rd w w.heap.size v a) (k:lq 68719476736 a):
 Calls Tryz.prog 109 #[.agg v.toArray] w (rO w eb (wj a)):=by
 obtain⟨_,_,rfl,G,H⟩:=oz r;obtain⟨_,s,t,rfl,_,I⟩:=Ql G;obtain⟨_,g,h,rfl,_,p⟩:=Ql H;have:=k.1;have:=k.2;refine fp (L:=[(0, .agg #[iV a.Id,iV a.u, .slice s a.o.length t, .slice g a.q.length h])]) (N:=13) func109 ?_;refine sr ?_;refine dq rfl (Qe rfl) (by decide) (fun l=>?_);refine ca cn rfl (Qe rfl) (by decide) (fun j=>?_);refine aa (sr ?_);refine eh (E:=cg) gj kn (Qe rfl) (by decide) (fun m=>?_);refine wv (vf cr rfl ld) ?_;refine wv (vl 2 2 gj) ?_;let K1:List Value:=[iV 0,iV 0, .slice none 0 0, .slice none 0 0];refine fv cg cg 180 (.slice (sA m) 0 0) [] a.o [Qa j 58 K1,Qa l 58 [iV a.Id,iV a.u, .slice s a.o.length t, .slice g a.q.length h]] ag (fun W i=>fx (pY (va fj (va fj fj))) (i.rdS0 I)) gj kn (show(0+a.o.length)*24<=140737488355328 from by omega) (fun _=>?_);refine fm 0 ?_;rintro b c rfl C;refine wv (vf cr rfl ld) ?_;refine sb 2 [iV a.Id,iV a.u, .slice b a.o.length c, .slice g a.q.length h] [iS cg 180 b c a.o,Qa j 58 K1] (pk [2,0,1]) ld ?_;refine aa (sr ?_);refine wv (vf cr rfl cb) ?_;refine wv (vl 0 3 Qq) ?_;refine lg (ab Qb 3) a.q (Qp si rfl) (fun W i=>sn W _ a.q (i.rdS0 p) k.2) (fun _=>?_);refine fm 0 ?_;rintro d e rfl D;refine wv (vf cr rfl cb) ?_;let K2:List Value:=[iV a.Id,iV a.u, .slice b a.o.length c, .slice d a.q.length e];refine sb 3 K2 [iS Qb 3 d e a.q,iS cg 180 b c a.o,Qa j 58 K1] (pk [1,0,2,3]) cb ?_;refine aa (sr ?_);refine wv (fun W i=>Qv (cs:=K2) cr cn rfl rfl (i.boxCells (n:=0) rfl)) ?_;refine sb 0 K2 [Qa l 58 K2,iS Qb 3 d e a.q,iS cg 180 b c a.o] (pk [3,0,1,2]) cn ?_;refine aa (Qm ?_);have f:=(show wj a=a from rfl);refine ep rfl (dg (n:=0) rfl rfl cr cn rfl) (fun W i=>⟨K2,?_,?_⟩)
 ·first|rw[f]|rfl
 rw[f];exact Mem.join (is:=[iS cg 180 b c a.o,iS Qb 3 d e a.q]) (js:=[]) (fun _ _ y=>tv (x:=a) y) (i.pick [3,2] (by decide))
theorem Cq (a:bf):wj a=a:=by
 rfl
theorem qQ (w:World) (d:List Value) (a:bf) (b:eb.rd w w.heap.size d a) (c:lq 68719476736 a):
 Calls Tryz.prog 109 #[.agg d.toArray] w (rO w eb a):=by
 have h:=Cp w d a b c;rw[Cq] at h;exact h
def wl (a:ax):ax:=
 a
theorem zR:Cb Tryz.prog 206:=⟨f206,_,func206,rfl,by decide⟩
theorem Cr (w:World) (l:List Value) (a:ax) (i:bo.rd w w.heap.size l a) (e:pu 68719476736 a):
 Calls Tryz.prog 206 #[.agg l.toArray] w (rO w bo (wl a)):=by
 obtain⟨_,rfl,t⟩:=pd i;obtain⟨_,j,k,rfl,_,u⟩:=Ql t;have:a.m.length<=68719476736:=e;refine fp (L:=[(0, .agg #[iV a.Id, .slice j a.m.length k])]) (N:=9) func206 ?_;refine sr ?_;refine dq rfl (Qe rfl) (by decide) (fun r=>?_);refine ca ej rfl (Qe rfl) (by decide) (fun h=>?_);refine aa (Qk ?_);let g:It:=Qa r 70 [iV a.Id, .slice j a.m.length k];refine iz 7 [6] (s:=[g]) (s2:=[Qa h 70 [iV 0, .slice none 0 0],g]) (pk [1]) ag ?_;refine ae 7 0 1 rfl (vf gn rfl Qg) ?_;refine ae 7 1 3 rfl (vl 1 0 Qu) ?_;refine ae 7 2 7 rfl (vf gn rfl cb) ?_;refine ae 7 3 15 rfl (vl 1 1 Qq) ?_;refine be 7 4 31 rfl ?_;refine lg (ab Qb 3) a.m (Qp si rfl) (fun W f=>sn W _ a.m (f.rdS0 u) e) (fun _=>?_);refine fm 0 ?_;rintro b c rfl p;refine av (pk [2]) (pk [1,2]) ?_;refine ae 7 5 63 rfl (fun W f=>ew (cs:=[iV a.Id, .slice b a.m.length c]) rfl (by kernel_rfl)) ?_;refine be 7 6 127 rfl ?_;refine sb 0 [iV a.Id, .slice b a.m.length c] [iS Qb 3 b c a.m,g] (pk [1,0,2]) ej ?_;refine iy (pk [2]) ?_;refine fz (by kernel_rfl) ?_;refine Qi (Qm ?_);have d:=(show wl a=a from rfl);refine ep rfl (dg (n:=0) rfl rfl gn ej rfl) (fun W f=>⟨[iV a.Id, .slice b a.m.length c],?_,?_⟩)
 ·first|rw[d]|rfl
 rw[d];exact Mem.join (is:=[iS Qb 3 b c a.m]) (js:=[]) (fun _ _ o=>sa (x:=a) o) (f.pick [1] (by decide))
theorem Ct (a:ax):wl a=a:=by
 rfl
theorem Cs (w:World) (d:List Value) (a:ax) (b:bo.rd w w.heap.size d a) (c:pu 68719476736 a):
 Calls Tryz.prog 206 #[.agg d.toArray] w (rO w bo a):=by
 have h:=Cr w d a b c;rw[Ct] at h;exact h
def wn (c:(List ax)) (b:Nat) (a:(List ax)):(List ax)⊕((List ax)):=
 Sum.inr (a++[(gt c b)])
def qR (a:(List ax)):(List ax):=
 Sum.elim id (fun(s:(List ax))=>s) (ay (R:=(List ax)) (fun k (s:(List ax))=>wn a k s) (a.length-0) 0 [])
theorem fW:Cb Tryz.prog 183:=⟨f183,_,func183,rfl,by decide⟩
theorem Cu (w:World) (V:Value) (a:(List ax)) (M:ce bo w w.heap.size V a) (o:(a.length<=68719476736∧∀ y∈a,pu 68719476736 y)):
 Calls Tryz.prog 183 #[V] w (rL w (ab bo 70) (qR a)):=by
 obtain⟨_,O,P,rfl,q4,_⟩:=Ql M;have:a.length<=68719476736:=o.1;refine fp (L:=[(0, .slice O a.length P)]) (N:=20) func183 ?_;refine sr (wa (aa (sr ?_)));refine eh (E:=bo) fk ej (Qe rfl) (by decide) (fun p7=>?_);refine wa (aa (Qk (sr (wm ?_))));refine wv (bc fk) ?_;refine wm (aa (aw ?_));refine dj (S:=(List ax)) (R:=Option Addr×Nat) (fun k (s:(List ax))=>wn a k s) a.length 0 [] ((sA p7),0) (fun s=>[(3, .slice s.2.2.1 s.2.1.length s.2.2.2),(7, .slice O a.length P),(8,nI a.length),(9,nI s.1)]) (fun s=>[iS bo 70 s.2.2.1 s.2.2.2 s.2.1]) (fun s=>s.2.1.length<=0+s.1) dy (Nat.le_refl _) ?_;rintro⟨b,c,⟨h,i⟩⟩ r _ _ e e';dsimp only at r ⊢;subst e e';obtain⟨_,d,_⟩:=r;refine sr ?_;refine wv cz ?_;refine aa (Qk ?_);rcases dp b a.length with⟨g,j⟩|⟨g,j⟩
 ·refine Qr rfl j ?_;refine aj (Qi (Qk (aw (sr ?_))));obtain⟨D,rfl,v,A⟩:=q4 (by omega);refine wv (bx 2 b fk ej) ?_;obtain⟨_,H,z⟩:=A b _ (dz (show b<a.length from by omega));obtain⟨_,rfl,J⟩:=pd H;have:((gt a b).m).length<=68719476736:=(o.2 _ (bl (show b<a.length from by omega)));obtain⟨_,B,F,rfl,_,K⟩:=Ql J;let K1:List Value:=[iV ((gt a b).Id), .slice B ((gt a b).m).length F];refine wv (fun W l=>Qv (cs:=K1) gn ej rfl rfl (l.elCells (show(D.add (b*2)).block<w.heap.size from by rw[bh];exact v.1) z)) ?_;refine ca ej rfl (Qe rfl) (by decide) (fun I=>?_);refine sb 0 K1 [iS bo 70 h i c] ag ej ?_;refine aa (ak (wm ?_));refine wv (fun W l=>Qv (cs:=K1) gn ej rfl rfl (l.boxCells (n:=0) rfl)) ?_;refine io bo (gt a b) (Qp zR rfl) (fun W l=>Cs W _ (gt a b) (pv (x:=(gt a b)) (l.rdS0 K)) (o.2 _ (bl (show b<a.length from by omega)))) (fun _=>?_);refine ta ?_;rintro _ rfl;refine fm 0 ?_;rintro p t rfl a0;let K2:List Value:=[iV ((gt a b).Id), .slice p ((gt a b).m).length t];refine di (cs:=K2) fk ej rfl (by decide) (by decide) rfl (by kernel_rfl) (Qe rfl) (by decide) (fun _=>?_);refine fi bo 70 (.slice h c.length i) c (gt a b) [iS Qb 3 p t ((gt a b).m)] [Qa I 70 K1] K2 (pk [0,3,1,2]) (fun _ _ X=>Els.single (sa (x:=(gt a b)) X)) fk ej (show(c.length+1)*32<=140737488355328 from by omega) (fun _=>?_);refine fm 0 ?_;rintro C G rfl b0;refine wa (au (bi (Qi (ak ?_))));refine wv (bs b 1 (by omega)) ?_;refine wm (au ?_);exact br (b+1,(c++[(gt a b)]),(C,G)) dy (pk [0]) ⟨(by omega),nx d (rfl),(show(c++[(gt a b)]).length<=0+(b+1) from by first|omega|(simp only[List.length_append,List.length_cons,List.length_nil] at *;omega))⟩ rl
 refine Qw rfl j ?_;refine co (ao (ao ?_));have u:=dk g d;refine cp (Qi (sr (wm (wa (aa (Qm ?_))))));have f:=(show qR a=c from bt u (rfl));refine ep rfl (dm rfl) (fun W l=>⟨.slice h c.length i,?_,?_⟩)
 ·first|rw[f]|rfl
 rw[f];exact l
theorem Cv (a:(List ax)):qR a=a:=by
 unfold qR;rw[qr (xs:=a) (b:=fun k s=>wn a k s) (fun _ _=>rfl)];rfl
theorem iC (w:World) (d:Value) (a:(List ax)) (b:ce bo w w.heap.size d a) (c:(a.length<=68719476736∧∀ y∈a,pu 68719476736 y)):
 Calls Tryz.prog 183 #[d] w (rL w (ab bo 70) a):=by
 have h:=Cu w d a b c;rw[Cv] at h;exact h
def vx (a:Qn):Qn:=
 a
theorem yQ:Cb Tryz.prog 139:=⟨f139,_,func139,rfl,by decide⟩
theorem Ca (w:World) (T:List Value) (a:Qn) (S:Qt.rd w w.heap.size T a) (b:rK 68719476736 a):
 Calls Tryz.prog 139 #[.agg T.toArray] w (rO w Qt (vx a)):=by
 obtain⟨_,_,_,_,rfl,r2,r4,r6,r8⟩:=mw S;obtain⟨_,C,F,rfl,_,M⟩:=Ql r2;obtain⟨_,D,G,rfl,_,O⟩:=Ql r4;obtain⟨_,E,H,rfl,_,P⟩:=Ql r6;obtain⟨_,k,m,rfl,_,R⟩:=Ql r8;have:=b.1.1;have:=b.1.2;have:=b.2.1;have:=b.2.2.1;refine fp (L:=[(0, .agg #[iV a.e.Id,iV a.e.u, .slice C a.e.o.length F, .slice D a.e.q.length G,iV a.r, .slice E a.t.length H,iV a.v,iV a.A,iV a.z, .slice k a.p.length m])]) (N:=16) func139 ?_;refine sr ?_;refine dq rfl (Qe rfl) (by decide) (fun J=>?_);refine ca bz rfl (Qe rfl) (by decide) (fun I=>?_);refine aa (Qk ?_);let K1:List Value:=[iV 0,iV 0, .slice none 0 0, .slice none 0 0,iV 0, .slice none 0 0,iV 0,iV 0,iV 0, .slice none 0 0];refine iz 15 [10,12,14] (s:=[Qa I 61 K1]) (s2:=[Qa I 61 K1,Qa J 61 [iV a.e.Id,iV a.e.u, .slice C a.e.o.length F, .slice D a.e.q.length G,iV a.r, .slice E a.t.length H,iV a.v,iV a.A,iV a.z, .slice k a.p.length m]]) (pk [0]) ag ?_;refine ae 15 0 1 rfl (vf bu rfl cn) ?_;refine ae 15 1 3 rfl (fun W h=>Qv (cs:=[iV a.e.Id,iV a.e.u, .slice C a.e.o.length F, .slice D a.e.q.length G]) cr cn rfl rfl (h.boxPart (n:=1) rfl rfl)) ?_;refine ae 15 3 11 rfl (vf bu rfl cb) ?_;refine ae 15 4 27 rfl (vl 1 5 Qq) ?_;refine ae 15 6 91 rfl (vf bu rfl kp) ?_;refine ae 15 7 219 rfl (vl 1 9 fk) ?_;refine be 15 2 223 rfl ?_;refine io eb a.e (Qp pJ rfl) (fun W h=>qQ W _ a.e (lb (x:=a.e) (h.rdS0 M) (h.rdS0 O)) b.1) (fun _=>?_);refine pa ?_;rintro⟨_,_⟩ rfl;refine fm 0 ?_;rintro c f rfl d0;refine fm 1 ?_;rintro d g rfl e0;refine av (pk [2]) (pk [2,3]) ?_;refine ae 15 9 735 rfl (vf bu rfl cn) ?_;refine be 15 5 767 rfl ?_;refine lg (ab Qb 3) a.t (Qp si rfl) (fun W h=>sn W _ a.t (h.rdS0 P) b.2.1) (fun _=>?_);refine fm 0 ?_;rintro i j rfl g0;refine av (pk [3]) (pk [3,4]) ?_;refine be 15 8 1023 rfl ?_;refine lg (ab bo 70) a.p (Qp fW rfl) (fun W h=>iC W _ a.p (h.rdS0 R) b.2.2) (fun _=>?_);refine fm 0 ?_;rintro l y rfl h0;refine av (pk [4]) (pk [4,5]) ?_;refine be 15 10 2047 rfl ?_;let K:List It:=[iS bo 70 l y a.p,iS Qb 3 i j a.t,iS cg 180 c f a.e.o,iS Qb 3 d g a.e.q,Qa I 61 K1];refine sb 0 [iV a.e.Id,iV a.e.u, .slice c a.e.o.length f, .slice d a.e.q.length g,iV a.r, .slice E a.t.length H,iV a.v,iV a.A,iV a.z, .slice k a.p.length m] K (pk [5,0,1,2,3,4]) cn ?_;refine iy (pk [5]) ?_;refine qt 15 11 4095 rfl (vf bu rfl cb) ?_;refine qo 15 12 8191 rfl ?_;refine sb 5 [iV a.e.Id,iV a.e.u, .slice c a.e.o.length f, .slice d a.e.q.length g,iV a.r, .slice i a.t.length j,iV a.v,iV a.A,iV a.z, .slice k a.p.length m] K ag cb ?_;refine qn (pk [5]) ?_;refine qt 15 13 16383 rfl (vf bu rfl kp) ?_;refine qo 15 14 32767 rfl ?_;let K2:List Value:=[iV a.e.Id,iV a.e.u, .slice c a.e.o.length f, .slice d a.e.q.length g,iV a.r, .slice i a.t.length j,iV a.v,iV a.A,iV a.z, .slice l a.p.length y];refine sb 9 K2 K ag kp ?_;refine qn (pk [5]) ?_;refine fz (by kernel_rfl) ?_;refine Qi (sr ?_);refine wv (fun W h=>Qv (cs:=K2) bu bz rfl rfl (h.boxCells (n:=0) rfl)) ?_;refine sb 0 K2 [Qa J 61 K2,iS bo 70 l y a.p,iS Qb 3 i j a.t,iS cg 180 c f a.e.o,iS Qb 3 d g a.e.q] (pk [5,0,1,2,3,4]) bz ?_;refine aa (Qm ?_);have B:=(show vx a=a from rfl);refine ep rfl (dg (n:=0) rfl rfl bu bz rfl) (fun W h=>⟨K2,?_,?_⟩)
 ·first|rw[B]|rfl
 rw[B];exact Mem.join (is:=[iS cg 180 c f a.e.o,iS Qb 3 d g a.e.q,iS Qb 3 i j a.t,iS bo 70 l y a.p]) (js:=[]) (fun _ _ U=>mv (x:=a) U) (h.pick [4,5,3,2] (by decide))
theorem Cd (a:Qn):vx a=a:=by
 rfl
theorem Cc (w:World) (d:List Value) (a:Qn) (b:Qt.rd w w.heap.size d a) (c:rK 68719476736 a):
 Calls Tryz.prog 139 #[.agg d.toArray] w (rO w Qt a):=by
 have h:=Ca w d a b c;rw[Cd] at h;exact h
def wh (a:df):df:=
 a
theorem fQ:Cb Tryz.prog 125:=⟨f125,_,func125,rfl,by decide⟩
theorem Cj (w:World) (H:List Value) (a:df) (F:bb.rd w w.heap.size H a) (g:rM 68719476736 a):
 Calls Tryz.prog 125 #[.agg H.toArray] w (rO w bb (wh a)):=by
 obtain⟨_,_,_,rfl,Y,Z,r6⟩:=uk F;obtain⟨_,A,B,rfl,_,C⟩:=Ql Y;obtain⟨_,l,t,rfl,_,D⟩:=Ql Z;obtain⟨_,m,v,rfl,_,E⟩:=Ql r6;have:=g.1.1;have:=g.1.2;have:=g.2.1;refine fp (L:=[(0, .agg #[iV a.e.Id,iV a.e.u, .slice A a.e.o.length B, .slice l a.e.q.length t,iV a.r,iV a.n, .slice m a.p.length v])]) (N:=12) func125 ?_;refine sr ?_;refine dq rfl (Qe rfl) (by decide) (fun z=>?_);refine ca gg rfl (Qe rfl) (by decide) (fun y=>?_);refine aa (Qk ?_);let K1:List Value:=[iV 0,iV 0, .slice none 0 0, .slice none 0 0,iV 0,iV 0, .slice none 0 0];refine iz 10 [7,9] (s:=[Qa y 80 K1]) (s2:=[Qa y 80 K1,Qa z 80 [iV a.e.Id,iV a.e.u, .slice A a.e.o.length B, .slice l a.e.q.length t,iV a.r,iV a.n, .slice m a.p.length v]]) (pk [0]) ag ?_;refine ae 10 0 1 rfl (vf iw rfl cn) ?_;refine ae 10 1 3 rfl (fun W h=>Qv (cs:=[iV a.e.Id,iV a.e.u, .slice A a.e.o.length B, .slice l a.e.q.length t]) cr cn rfl rfl (h.boxPart (n:=1) rfl rfl)) ?_;refine ae 10 3 11 rfl (vf iw rfl kp) ?_;refine ae 10 4 27 rfl (vl 1 6 fk) ?_;refine be 10 2 31 rfl ?_;refine io eb a.e (Qp pJ rfl) (fun W h=>qQ W _ a.e (lb (x:=a.e) (h.rdS0 C) (h.rdS0 D)) g.1) (fun _=>?_);refine pa ?_;rintro⟨_,_⟩ rfl;refine fm 0 ?_;rintro b d rfl R;refine fm 1 ?_;rintro c f rfl S;refine av (pk [2]) (pk [2,3]) ?_;refine ae 10 6 95 rfl (vf iw rfl cn) ?_;refine be 10 5 127 rfl ?_;refine lg (ab bo 70) a.p (Qp fW rfl) (fun W h=>iC W _ a.p (h.rdS0 E) g.2) (fun _=>?_);refine fm 0 ?_;rintro i j rfl T;refine av (pk [3]) (pk [3,4]) ?_;refine be 10 7 255 rfl ?_;let G:List It:=[iS bo 70 i j a.p,iS cg 180 b d a.e.o,iS Qb 3 c f a.e.q,Qa y 80 K1];refine sb 0 [iV a.e.Id,iV a.e.u, .slice b a.e.o.length d, .slice c a.e.q.length f,iV a.r,iV a.n, .slice m a.p.length v] G (pk [4,0,1,2,3]) cn ?_;refine iy (pk [4]) ?_;refine qt 10 8 511 rfl (vf iw rfl kp) ?_;refine qo 10 9 1023 rfl ?_;let K2:List Value:=[iV a.e.Id,iV a.e.u, .slice b a.e.o.length d, .slice c a.e.q.length f,iV a.r,iV a.n, .slice i a.p.length j];refine sb 6 K2 G ag kp ?_;refine qn (pk [4]) ?_;refine fz (by kernel_rfl) ?_;refine Qi (sr ?_);refine wv (fun W h=>Qv (cs:=K2) iw gg rfl rfl (h.boxCells (n:=0) rfl)) ?_;refine sb 0 K2 [Qa z 80 K2,iS bo 70 i j a.p,iS cg 180 b d a.e.o,iS Qb 3 c f a.e.q] (pk [4,0,1,2,3]) gg ?_;refine aa (Qm ?_);have k:=(show wh a=a from rfl);refine ep rfl (dg (n:=0) rfl rfl iw gg rfl) (fun W h=>⟨K2,?_,?_⟩)
 ·first|rw[k]|rfl
 rw[k];exact Mem.join (is:=[iS cg 180 b d a.e.o,iS Qb 3 c f a.e.q,iS bo 70 i j a.p]) (js:=[]) (fun _ _ I=>tu (x:=a) I) (h.pick [3,4,2] (by decide))
theorem Cm (a:df):wh a=a:=by
 rfl
theorem iB (w:World) (d:List Value) (a:df) (b:bb.rd w w.heap.size d a) (c:rM 68719476736 a):
 Calls Tryz.prog 125 #[.agg d.toArray] w (rO w bb a):=by
 have h:=Cj w d a b c;rw[Cm] at h;exact h
def vy (a:fy):fy:=
 a
theorem yR:Cb Tryz.prog 140:=⟨f140,_,func140,rfl,by decide⟩
theorem Ce (w:World) (G:List Value) (a:fy) (A:ba.rd w w.heap.size G a) (d:cE 68719476736 a):
 Calls Tryz.prog 140 #[.agg G.toArray] w (rO w ba (vy a)):=by
 obtain⟨_,_,_,rfl,X,Y,Z⟩:=rz A;obtain⟨_,E,F,rfl,_,v⟩:=Ql X;obtain⟨_,m,o,rfl,_,y⟩:=Ql Y;obtain⟨_,g,i,rfl,_,z⟩:=Ql Z;have:=d.1;have:=d.2.1;have:=d.2.2;refine fp (L:=[(0, .agg #[iV a.D,iV a.C, .slice E a.w.length F, .slice m a.B.length o, .slice g a.p.length i])]) (N:=16) func140 ?_;refine sr ?_;refine dq rfl (Qe rfl) (by decide) (fun t=>?_);refine ca je rfl (Qe rfl) (by decide) (fun r=>?_);refine aa (Qk ?_);let K1:List Value:=[iV 0,iV 0, .slice none 0 0, .slice none 0 0, .slice none 0 0];refine iz 15 [10,12,14] (s:=[Qa r 102 K1]) (s2:=[Qa r 102 K1,Qa t 102 [iV a.D,iV a.C, .slice E a.w.length F, .slice m a.B.length o, .slice g a.p.length i]]) (pk [0]) ag ?_;refine ae 15 0 1 rfl (vf ft rfl cb) ?_;refine ae 15 1 3 rfl (vl 1 2 Qq) ?_;refine ae 15 3 11 rfl (vf ft rfl cb) ?_;refine ae 15 4 27 rfl (vl 1 3 Qq) ?_;refine ae 15 6 91 rfl (vf ft rfl cb) ?_;refine ae 15 7 219 rfl (vl 1 4 Qq) ?_;refine be 15 2 223 rfl ?_;refine lg (ab Qb 3) a.w (Qp si rfl) (fun W k=>sn W _ a.w (k.rdS0 v) d.1) (fun _=>?_);refine fm 0 ?_;rintro b c rfl P;refine av (pk [1]) (pk [1,2]) ?_;refine ae 15 9 735 rfl (vf ft rfl cb) ?_;refine be 15 5 767 rfl ?_;refine lg (ab Qb 3) a.B (Qp si rfl) (fun W k=>sn W _ a.B (k.rdS0 y) d.2.1) (fun _=>?_);refine fm 0 ?_;rintro e f rfl R;refine av (pk [2]) (pk [2,3]) ?_;refine be 15 8 1023 rfl ?_;refine lg (ab Qb 3) a.p (Qp si rfl) (fun W k=>sn W _ a.p (k.rdS0 z) d.2.2) (fun _=>?_);refine fm 0 ?_;rintro h j rfl S;refine av (pk [3]) (pk [3,4]) ?_;refine be 15 10 2047 rfl ?_;let u:List It:=[iS Qb 3 h j a.p,iS Qb 3 e f a.B,iS Qb 3 b c a.w,Qa r 102 K1];refine sb 2 [iV a.D,iV a.C, .slice b a.w.length c, .slice m a.B.length o, .slice g a.p.length i] u (pk [4,0,1,2,3]) cb ?_;refine iy (pk [4]) ?_;refine qt 15 11 4095 rfl (vf ft rfl cb) ?_;refine qo 15 12 8191 rfl ?_;refine sb 3 [iV a.D,iV a.C, .slice b a.w.length c, .slice e a.B.length f, .slice g a.p.length i] u ag cb ?_;refine qn (pk [4]) ?_;refine qt 15 13 16383 rfl (vf ft rfl cb) ?_;refine qo 15 14 32767 rfl ?_;let K2:List Value:=[iV a.D,iV a.C, .slice b a.w.length c, .slice e a.B.length f, .slice h a.p.length j];refine sb 4 K2 u ag cb ?_;refine qn (pk [4]) ?_;refine fz (by kernel_rfl) ?_;refine Qi (sr ?_);refine wv (fun W k=>Qv (cs:=K2) ft je rfl rfl (k.boxCells (n:=0) rfl)) ?_;refine sb 0 K2 [Qa t 102 K2,iS Qb 3 h j a.p,iS Qb 3 e f a.B,iS Qb 3 b c a.w] (pk [4,0,1,2,3]) je ?_;refine aa (Qm ?_);have l:=(show vy a=a from rfl);refine ep rfl (dg (n:=0) rfl rfl ft je rfl) (fun W k=>⟨K2,?_,?_⟩)
 ·first|rw[l]|rfl
 rw[l];exact Mem.join (is:=[iS Qb 3 b c a.w,iS Qb 3 e f a.B,iS Qb 3 h j a.p]) (js:=[]) (fun _ _ H=>dB (x:=a) H) (k.pick [4,3,2] (by decide))
theorem Cg (a:fy):vy a=a:=by
 rfl
theorem Cf (w:World) (d:List Value) (a:fy) (b:ba.rd w w.heap.size d a) (c:cE 68719476736 a):
 Calls Tryz.prog 140 #[.agg d.toArray] w (rO w ba a):=by
 have h:=Ce w d a b c;rw[Cg] at h;exact h
end Go.Proofs.YtdlminfjdodjoaaGreat
