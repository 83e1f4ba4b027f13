/-
  Contracts of functions,printed by a program of ours.
-/
import Derived.Test.YtdlminfjdodjoaaGreatL7F5
namespace Go.Proofs.YtdlminfjdodjoaaGreat
set_option linter.unusedVariables false
set_option linter.unusedSimpArgs false
open Go.RowKit
set_option maxRecDepth 100000
set_option maxHeartbeats 4000000
open _root_.Go.Proofs.Tryz
def Mw (d:Qy) (c:Nat) (b:Int):Int⊕(Int):=
 Sum.inr (IntKind.i64.wrap (b+((((gt d.a c)).length:Nat):Int)))
def zn (b:Qy):Int:=
 Sum.elim id (fun(s:Int)=>s) (ax (R:=Int) (fun k (s:Int)=>Mw b k s) (b.a.length-0) 0 0)
theorem fS:Cb Tryz.prog 197:=⟨f197,_,func197,rfl,by decide⟩
theorem gV (w:World) (z:List Value) (b:Qy) (v:em.rd w w.heap.size z b):
 Calls Tryz.prog 197 #[.agg z.toArray] w (rI w (zn b)):=by
 obtain⟨_,rfl,H⟩:=ox v;obtain⟨_,o,r,rfl,G,_⟩:=Qn H;refine gb (L:=[(0, .agg #[.slice o b.a.length r,iV b.e])]) (N:=19) func197 ?_;refine sr ?_;refine ei rfl (Qf rfl) (by decide) (fun E=>?_);refine wa (aa (sr (wa (aa (Qi (sr ?_))))));refine wv (vf ay rfl fp) ?_;refine wv (vl 0 0 bx) ?_;refine wv (bh bx) ?_;refine wm (aa (aw ?_));refine dw (S:=Int) (R:=Unit) (fun k (s:Int)=>Mw b k s) b.a.length 0 0 () (fun s=>[(3,iV s.2.1),(7, .slice o b.a.length r),(8,nI b.a.length),(9,nI s.1)]) (fun s=>[Qa E 34 [.slice o b.a.length r,iV b.e]]) (fun s=>True) eo trivial ?_;rintro⟨f,x,⟨⟩⟩ i _ _ e e';dsimp only at i ⊢;subst e e';obtain⟨_,c,_⟩:=i;refine sr ?_;refine wv df ?_;refine aa (Qi ?_);rcases dz f b.a.length with⟨d,g⟩|⟨d,g⟩
 ·refine Qr rfl g ?_;refine an (Qj (Qi (aw (sr ?_))));obtain⟨p,rfl,l,n⟩:=G (by omega);refine wv (bv 1 f bx gh) ?_;obtain⟨_,t,m⟩:=n f _ (er (show f<b.a.length from by omega));obtain⟨_,rfl,u⟩:=t;obtain⟨_,_,_,rfl,_,_⟩:=Qn u;refine wv (fun W C=>ci cl rfl rfl ((C.cell0 (show(p.add (f*1)).block<w.heap.size from by rw[bj];exact l.1)).trans (m 0 _ rfl))) ?_;refine wa (aa (ao (wm (wm ?_))));refine wv (bh cl) ?_;refine wv lc ?_;refine wa (bb (bq (Qj (ao ?_))));refine wv (cb f 1 (by omega)) ?_;refine wm (bb ?_);exact bu (f+1,(IntKind.i64.wrap (x+((((gt b.a f)).length:Nat):Int))),()) eo ai ⟨(by omega),nx c (rfl),trivial⟩ rl
 refine ah rfl g ?_;refine dj (av (av ?_));have j:=dx d c;refine dk (Qj (sr (wm (wa (aa (Ql ?_))))));exact aP (h:=ca j (rfl))
def Nf (e:(List Int)) (c:Nat) (a:(List (List Qx))) (d:Nat) (b:(List Qx)):(Qy×Int)⊕((List Qx)):=
 cond (mQ (gt (gt a c) d) e) (Sum.inr (b++[(gt (gt a c) d)])) (Sum.inr b)
def qG (c:(List Int)) (b:Nat) (a:(List (List Qx))):(Qy×Int)⊕((List (List Qx))):=
 Sum.elim Sum.inl (fun(s:(List Qx))=>Sum.inr (a.set b s)) (ax (R:=(Qy×Int)) (fun k (s:(List Qx))=>Nf c b a k s) ((gt a b).length-0) 0 [])
def nz (b:Qy) (c:(List Int)):(Qy×Int):=
 cond (qz b) (Sum.elim id (fun(s:(List (List Qx)))=>((⟨s,b.e⟩:Qy),(IntKind.i64.wrap ((zn b)-(zn (⟨s,b.e⟩:Qy)))))) (ax (R:=(Qy×Int)) (fun k (s:(List (List Qx)))=>qG c k s) (b.a.length-0) 0 b.a)) (b,0)
theorem zM:Cb Tryz.prog 145:=⟨f145,_,func145,rfl,by decide⟩
theorem Ch (w:World) (z0:List Value) (f:Qy) (z1:Value) (B:(List Int)) (s0:em.rd w w.heap.size z0 f) (t0:ce Qb w w.heap.size z1 B) (K:ma 68719476736 f) (u0:B.length<=68719476736):
 Calls Tryz.prog 145 #[.agg z0.toArray,z1] w fun e w'=>∃ v:List Value,e= .returned (.tuple #[.agg v.toArray,iV ((nz f B).2)])∧Mem w.heap.size w [Qg em v (nz f B).1] w':=by
 obtain⟨_,rfl,r2⟩:=ox s0;obtain⟨_,A4,c5,rfl,_,r7⟩:=Qn r2;obtain⟨_,A9,Z,rfl,_,r0⟩:=Qn t0;have:f.a.length<=68719476736:=K.1;have:B.length<=68719476736:=u0;refine ji (L:=[(0, .agg #[.slice A4 f.a.length c5,iV f.e]),(1, .slice A9 B.length Z)]) (N:=53) func145 ?_;refine sr ?_;refine ei rfl (Qf rfl) (by decide) (fun g0=>?_);refine br au rfl (Qf rfl) (by decide) (fun h0=>?_);refine wa (aa (sr ?_));refine wv (fun W o=>Qw (cs:=[.slice A4 f.a.length c5,iV f.e]) ay au rfl rfl (o.boxCells (n:=1) rfl)) ?_;refine io em f (Qo uo rfl) (fun W o=>ut W _ f (jf (x:=f) (o.rdS0 r7)) K) (fun _=>?_);refine lb ?_;rintro _ rfl;refine fm 0 ?_;rintro t p rfl E0;refine br au rfl (Qf rfl) (by decide) (fun I=>?_);let I3:It:=iS (ab Qp 163) 100 t p f.a;let I4:It:=Qa g0 34 [.slice A4 f.a.length c5,iV f.e];let Y:List It:=[Qa h0 34 [.slice none 0 0,iV 0],I4];refine sb 0 [.slice t f.a.length p,iV f.e] (I3::Y) ai au ?_;refine aa (Qi (sr ?_));refine wv (fun W o=>Qw (cs:=[.slice A4 f.a.length c5,iV f.e]) ay au rfl rfl (o.boxCells (n:=3) rfl)) ?_;refine fk (Qo Lv rfl) (fun W o=>Nc W _ f (jf (x:=f) (o.rdS0 r7)) K) ?_;refine wv dm ?_;refine aa ?_;rcases bd (qz f) with F|F
 ·refine ah rfl (nt F) ?_;refine an (Qj (Qi (sr ?_)));refine wv (vf ay rfl fp) ?_;refine wv (vl 0 0 bx) ?_;refine wv (bh bx) ?_;refine wm (aa (aw ?_));let I5:It:=Qa I 34 [.slice t f.a.length p,iV f.e];refine dw (S:=(List (List Qx))) (R:=Unit) (fun k (s:(List (List Qx)))=>qG B k s) f.a.length 0 f.a () (fun s=>[(1, .slice A9 B.length Z),(2,bp g0),(4,bp h0),(6,bp I),(19, .slice t f.a.length p),(20,nI f.a.length),(21,nI s.1)]) (fun s=>(I5::Qg (ab (ab Qp 163) 100) [.slice t f.a.length p] s.2.1::Y)) (fun s=>∀ j,s.1<=j->gt s.2.1 j=gt f.a j) lq (fun _ _=>rfl) ?_;rintro⟨b,d,⟨⟩⟩ i0 _ _ e e';dsimp only at i0 ⊢;subst e e';obtain⟨_,M,T⟩:=i0;refine sr ?_;refine wv df ?_;refine aa (Qi ?_);rcases dz b f.a.length with⟨U,c0⟩|⟨U,c0⟩
  ·have:(gt d b).length<=68719476736:=by rw[T b (Nat.le_refl _)];exact(K.2 _ (bt (by omega))).1
   refine Qr rfl c0 ?_;refine an (Qj (Qi (aw (sr (wm ?_)))));refine my (n:=1) rfl (by omega) ?_;rintro D rfl;refine wv (bv 1 b bx gh) ?_;let K1:List Value:=[.slice (sA D) f.a.length p,iV f.e];let z:List It:=Qa I 34 K1::Y;refine pj (E:=(ab Qp 163)) (e:=100) (A:=(sA D)) (n:=f.a.length) (c:=p) (xs:=d) (k:=b) (js:=z) (by omega) (pk [1,0,2,3]) (fun k0=>?_);refine nn (γ:=Value) (js:=fun g=>[Qg (ab Qp 163) [g] (gt d b)]) (C:=fun g=>k0=[g]) (fun _ _ h=>pt h) ?_;rintro _ rfl;refine fm 0 ?_;rintro J a0 rfl F0;refine wv (fun W o=>ci cl rfl rfl (o.focInt (i:=1) rfl rfl)) ?_;refine wa (wa (aa (sr ?_)));refine ez (E:=Qp) cl co (Qf rfl) (by decide) (fun p0=>?_);refine wa (aa (Qi (sr (wm ?_))));refine wv (bh cl) ?_;refine wm (aa (aw ?_));refine ek (fun W o=>Mem.toRest (o.pick [1,0,2,3,4,5] (by decide))) ?_;refine dw (S:=(List Qx)) (R:=Option Addr×Nat) (fun k (s:(List Qx))=>Nf B b d k s) ((gt d b).length) 0 [] ((sA p0),0) (fun s=>[(1, .slice A9 B.length Z),(2,bp g0),(4,bp h0),(6,bp I),(7,nI b),(9, .slice s.2.2.1 s.2.1.length s.2.2.2),(19, .slice (sA D) f.a.length p),(20,nI f.a.length),(21,nI b),(27, .slice J (gt d b).length a0),(28,nI ((gt d b).length)),(29,nI s.1)]) (fun s=>(qb Qp 163 J ((gt d b).length) (gt d b) s.1::iS Qp 163 s.2.2.1 s.2.2.2 s.2.1::ey (ab Qp 163) 100 (sA D) f.a.length p d b [.slice J (gt d b).length a0]::z)) (fun s=>s.2.1.length<=0+s.1) tz (Nat.le_refl _) ?_;rintro⟨l,r,⟨u,y⟩⟩ j0 _ _ e e';dsimp only at j0 ⊢;subst e e';obtain⟨_,H,_⟩:=j0;refine sr ?_;refine wv df ?_;refine aa (Qi ?_);rcases dz l ((gt d b).length) with⟨V,d0⟩|⟨V,d0⟩
   ·refine Qr rfl d0 ?_;refine an (Qj (Qi (aw (sr ?_))));refine Ll (n:=0) rfl (by omega) ?_;rintro e0 rfl;refine wv (bv 4 l cl co) ?_;let I6:It:=ey (ab Qp 163) 100 (sA D) f.a.length p d b [.slice (sA e0) (gt d b).length a0];refine Lm (E:=Qp) (e:=163) (A:=(sA e0)) (n:=(gt d b).length) (xs:=(gt d b)) (k:=l) (js:=(iS Qp 163 u y r::I6::z)) (by omega) ai (fun _=>?_);refine cT ?_;rintro _ rfl;refine fm 0 ?_;rintro X b0 rfl G0;let K2:List Value:=[iV ((gt (gt d b) l).Id), .slice X ((gt (gt d b) l).m).length b0,iV ((gt (gt d b) l).w),iV ((gt (gt d b) l).x)];refine wv (fun W o=>Qw (cs:=K2) dq co rfl rfl (o.restCells (i:=1) rfl rfl)) ?_;refine br co rfl (Qf rfl) (by decide) (fun q0=>?_);let I7:It:=ry Qp 163 (sA e0) ((gt d b).length) (gt d b) l K2;refine sb 0 K2 (iS Qb 3 X b0 ((gt (gt d b) l).m)::I7::iS Qp 163 u y r::I6::z) ai co ?_;refine aa (sr ?_);refine wv (fun W o=>Qw (cs:=K2) dq co rfl rfl (o.boxCells (n:=0) rfl)) ?_;refine wm ?_;refine fk (Qo Ak rfl) (fun W o=>Ds W _ (gt (gt d b) l) _ B (og (x:=(gt (gt d b) l)) (o.rdSI (n:=1) rfl)) (o.rdS0 r0)) ?_;refine aa ?_;rcases bd (mQ (gt (gt d b) l) B) with G|G
    ·refine Qr rfl G ?_;refine ao (wm ?_);refine wv (fun W o=>Qw (cs:=K2) dq co rfl rfl (o.boxCells (n:=0) rfl)) ?_;refine eb (cs:=K2) cl co rfl (by decide) (by decide) rfl (by kernel_rfl) (Qf rfl) (by decide) (fun _=>?_);refine ga Qp 163 (.slice u r.length y) r (gt (gt d b) l) [iS Qb 3 X b0 ((gt (gt d b) l).m)] (Qa q0 163 K2::I7::I6::z) K2 (pk [0,4,2,1,3,5,6,7,8]) (fun _ _ hs=>Els.single (mh (x:=(gt (gt d b) l)) hs)) cl co (show(r.length+1)*48<=140737488355328 from by omega) (fun _=>?_);refine fm 0 ?_;rintro n0 o0 rfl H0;refine wa (bb (bq (Qj (ao ?_))));refine wv (cb l 1 (by omega)) ?_;refine wm (bb ?_);refine bz (fun W o=>Mem.restNext (o.pick [2,0,1,3,4,5,6] (by decide))) ?_;exact bu (l+1,(r++[(gt (gt d b) l)]),(n0,o0)) tz (pk [0,1,3,4,5,6]) ⟨(by omega),nx H (Qc G (rfl)),(show(r++[(gt (gt d b) l)]).length<=0+(l+1) from by first|omega|(simp only[List.length_append,List.length_cons,List.length_nil] at *;omega))⟩ (show(gt d b).length-(l+1)<(gt d b).length-l from by omega)
    refine ah rfl G ?_;refine an (bq (Qj (ao ?_)));refine wv (cb l 1 (by omega)) ?_;refine wm (bb ?_);refine bz (fun W o=>Mem.restNext (o.pick [2,0,1,3,4,5,6,7] (by decide))) ?_;exact bu (l+1,r,(u,y)) tz (pk [0,3,4,5,6,7]) ⟨(by omega),nx H (Qe G (rfl)),(show r.length<=0+(l+1) from by first|omega|(simp only[List.length_append,List.length_cons,List.length_nil] at *;omega))⟩ (show(gt d b).length-(l+1)<(gt d b).length-l from by omega)
   refine ah rfl d0 ?_;refine dj (av (av ?_));have l0:=dx V H;refine dk (Qj (ao ?_));refine wv (vf ay rfl fp) ?_;refine wv (vl 3 0 bx) ?_;refine wm (wm ?_);refine wv (bv 1 b bx gh) ?_;let I8:It:=qb Qp 163 J ((gt d b).length) (gt d b) l;refine sf 0 1 [.slice u r.length y] (I8::iS Qp 163 u y r::z) (pk [2,0,1,3,4,5]) gh ?_;refine bb (bq (Qj (ao ?_)));refine wv (cb b 1 (by omega)) ?_;refine wm (bb ?_);refine bz (fun W o=>Mem.unfocus (Mem.join (is:=[iS Qp 163 u y r]) (js:=(ey (ab Qp 163) 100 (sA D) f.a.length p d b [.slice u r.length y]::(I8::z))) (fun _ _ hs=>Sep.one hs) (o.pick [2,0,1,3,4,5] (by decide)))) ?_;exact bu (b+1,(d.set b r),()) lq (pk [2,0,3,4]) ⟨(by omega),nx M (ca l0 (rfl)),(show ∀ j,(b+1)<=j->gt (d.set b r) j=gt f.a j from by intro j hj;rw[mN (by omega)];exact T j (by omega))⟩ rl
  refine ah rfl c0 ?_;refine dj (av (av ?_));have m0:=dx U M;refine dk (Qj (Qi ?_));let I9:It:=Qg (ab (ab Qp 163) 100) [.slice t f.a.length p] d;refine rb 8 (s:=[I5,I9,I4]) (pk [0,1,3]) ?_;refine qt 8 0 1 rfl (fun W o=>Qw (cs:=[.slice t f.a.length p,iV f.e]) ay au rfl rfl (o.boxCells (n:=0) rfl)) ?_;refine qt 8 1 3 rfl (fun W o=>Qw (cs:=[.slice A4 f.a.length c5,iV f.e]) ay au rfl rfl (o.boxCells (n:=2) rfl)) ?_;refine qt 8 3 11 rfl (fun W o=>Qw (cs:=[.slice t f.a.length p,iV f.e]) ay au rfl rfl (o.boxCells (n:=0) rfl)) ?_;refine qo 8 2 15 rfl ?_;refine fk (Qo fS rfl) (fun W o=>gV W _ f (jf (x:=f) (o.rdS0 r7))) ?_;refine qn (pk [0,1,3]) ?_;refine qo 8 4 31 rfl ?_;refine fk (Qo fS rfl) (fun W o=>gV W _ (⟨d,f.e⟩:Qy) (jf (x:=(⟨d,f.e⟩:Qy)) (o.rdSI (n:=1) rfl))) ?_;refine qn (pk [0,1,3]) ?_;refine qt 8 5 63 rfl (fun W o=>ph rfl rfl) ?_;refine qo 8 6 127 rfl ?_;refine sb 0 [.slice t f.a.length p,iV f.e] [I5,I9,I4] (pk [2,0,1,3]) au ?_;refine qn (pk [1,2,3]) ?_;refine qt 8 7 255 rfl (fun W o=>np rfl) ?_;refine fr (by kernel_rfl) ?_;refine Qj (Ql ?_);have O:=(show nz f B=((⟨d,f.e⟩:Qy),(IntKind.i64.wrap ((zn f)-(zn (⟨d,f.e⟩:Qy))))) from Qc F (ca m0 (rfl)));refine et rfl (cr (n:=0) rfl rfl ay au rfl) (cz rfl) (fun W o=>⟨[.slice t f.a.length p,iV f.e],?_,?_⟩)
  ·first|rw[O]|rfl
   try rfl
  rw[O];exact Mem.join (is:=[I9]) (js:=[]) (fun _ _ hs=>gg (x:=(⟨d,f.e⟩:Qy)) hs) (o.pick [2] (by decide))
 refine Qr rfl (nf F) ?_;refine sr ?_;refine wv (fun W o=>Qw (cs:=[.slice t f.a.length p,iV f.e]) ay au rfl rfl (o.boxCells (n:=0) rfl)) ?_;refine sb 0 [.slice t f.a.length p,iV f.e] [Qa I 34 [.slice t f.a.length p,iV f.e],I3,I4] (pk [2,0,1,3]) au ?_;refine wa (aa (Ql (Qm ?_)));have P:=(show nz f B=(f,0) from Qe F (rfl));refine et rfl (cr (n:=0) rfl rfl ay au rfl) (cz rfl) (fun W o=>⟨[.slice t f.a.length p,iV f.e],?_,?_⟩)
 ·first|rw[P]|rfl
  try rfl
 rw[P];exact Mem.join (is:=[I3]) (js:=[]) (fun _ _ hs=>gg (x:=f) hs) (o.pick [2] (by decide))
def lv (x:List Int) (v:Qx):Bool:=x.any (fun t=>ny v t) || v.x == -1
theorem Du (v:Qx) (x:List Int):mQ v x=lv x v:=by
 unfold mQ lv;rw[qS (p:=fun t=>ny v t) (r:=true) (fun j _=>by unfold vy;rfl)];cases x.any (fun t=>ny v t) <;>rfl
theorem gJ {α:Type} (p:α->Bool):∀ (xs:List α) (s:Bool),xs.foldl (fun s t=>cond s true (p t)) s=(s || xs.any p)
 | [],s=>by simp
 |x::xs,s=>by
  rw[List.foldl_cons,gJ p xs];cases s <;>simp
theorem Ci (x:List Int) (k:Nat) (d:List (List Qx)):qG x k d= .inr (d.set k ((gt d k).filter (lv x))):=by
 unfold qG;rw[pp (xs:=gt d k) (f:=fun e v=>cond (lv x v) (e++[v]) e) (fun j s _=>by unfold Nf;rw[Du];cases lv x (gt (gt d k) j) <;>rfl)];show Sum.inr (d.set k _)=_;rw[gG];rfl
def jg (s:Int) (n:Nat):Int:=IntKind.i64.wrap (s+n)
theorem uq (s:Int) (m n:Nat):jg (jg s m) n=jg s (m+n):=by
 unfold jg;simp only[IntKind.wrap_i64];omega
theorem xu (x:List Int):∀ (l:List Qx) (s:Int) (e:List Qx),l.foldl (fun(s:Int×List Qx) v=>cond (lv x v) (s.1,s.2++[v]) (IntKind.i64.wrap (s.1+1),s.2)) (jg s 0,e)=(jg s (l.length-(l.filter (lv x)).length),e++l.filter (lv x))
 | [],s,e=>by simp
 |v::l,s,e=>by
  rw[List.foldl_cons];have hl:=List.length_filter_le (lv x) l;cases h:lv x v with
  |true=>
   rw[cond_true,xu x l s (e++[v])];simp[h]
  |false=>
   have a:(IntKind.i64.wrap (jg s 0+1))=jg (jg s 1) 0:=by
    unfold jg;simp only[IntKind.wrap_i64];omega
   rw[cond_false];dsimp only;rw[a,xu x l (jg s 1) e,uq];simp only[List.filter_cons,h,List.length_cons]
   congr 2
   simp only[Bool.false_eq_true,if_false];omega
theorem Hd (x:List Int) (k:Nat) (s:Int) (d:List (List Qx)):nF x k (jg s 0) d= .inr (jg s ((gt d k).length-((gt d k).filter (lv x)).length),d.set k ((gt d k).filter (lv x))):=by
 unfold nF
 rw[pp (xs:=gt d k) (f:=fun(s:Int×List Qx) v=>cond (lv x v) (s.1,s.2++[v]) (IntKind.i64.wrap (s.1+1),s.2)) (fun j s _=>by
  unfold xr;rw[pp (xs:=x) (f:=fun s t=>cond s true (ny (gt (gt d k) j) t)) (fun i s _=>by unfold xt;cases s <;>rfl),gJ];have:((gt (gt d k) j).x == -1 || x.any fun t=>ny (gt (gt d k) j) t)=lv x (gt (gt d k) j):=by unfold lv;rw[Bool.or_comm]
  rw[this];show cond (lv x (gt (gt d k) j)) _ _=_
  cases lv x (gt (gt d k) j) <;>rfl),xu]
 rfl
theorem Fh {R:Type} (xs:List (List Qx)) (b:Nat->Int->R⊕Int) (hb:∀ j s,b j s= .inr (IntKind.i64.wrap (s+((gt xs j).length:Nat)))):ax b (xs.length-0) 0 0= .inr (jg 0 (xs.map List.length).sum):=by
 have h:∀ (l:List (List Qx)) (s:Int),l.foldl (fun(s:Int) v=>IntKind.i64.wrap (s+(v.length:Nat))) (jg s 0)=jg s (l.map List.length).sum:=by
  intro l
  induction l with
  |nil=>intro s;rfl
  |cons v l ih=>
   intro s;have a:IntKind.i64.wrap (jg s 0+(v.length:Nat))=jg (jg s v.length) 0:=by
    unfold jg;simp only[IntKind.wrap_i64];omega
   rw[List.foldl_cons,a,ih,uq];simp
 rw[pp (xs:=xs) (f:=fun(s:Int) v=>IntKind.i64.wrap (s+(v.length:Nat))) (fun j s _=>hb j s)];exact congrArg Sum.inr (h xs 0)
theorem dI (x:Qy):zn x=jg 0 (x.a.map List.length).sum:=by
 unfold zn;rw[Fh x.a _ (fun j s=>by unfold Mw;rfl)];rfl
def ja (x:List Int) (d:List (List Qx)):List (List Qx):=d.map fun l=>l.filter (lv x)
theorem wh (x:List Int):∀ d:List (List Qx),((ja x d).map List.length).sum<=(d.map List.length).sum∧∀ s:Int,d.foldl (fun(s:Int) l=>jg s (l.length-(l.filter (lv x)).length)) (jg s 0)=jg s ((d.map List.length).sum-((ja x d).map List.length).sum)
 | []=>⟨by simp[ja],fun s=>rfl⟩
 |l::d=>by
  obtain⟨_,b⟩:=wh x d;have:=List.length_filter_le (lv x) l;have:((ja x (l::d)).map List.length).sum=(l.filter (lv x)).length+((ja x d).map List.length).sum:=by simp[ja]
  have:((l::d).map List.length).sum=l.length+(d.map List.length).sum:=by simp
  refine⟨by omega,fun s=>?_⟩;rw[List.foldl_cons];have a:jg (jg s 0) (l.length-(l.filter (lv x)).length)=jg (jg s (l.length-(l.filter (lv x)).length)) 0:=by
   rw[uq,uq,Nat.zero_add,Nat.add_zero]
  rw[a,b,uq]
  congr 1
  omega
theorem gY (x:Qy) (y:List Int) (h:qz x=true):nz x y=(⟨ja y x.a,x.e⟩,jg 0 ((x.a.map List.length).sum-((ja y x.a).map List.length).sum)):=by
 unfold nz;rw[h,cond_true,Fg (xs:=x.a) (f:=fun l=>l.filter (lv y)) (fun j s _ he=>by rw[Ci,he])];show((⟨ja y x.a,x.e⟩:Qy),_)=_
 congr 1
 rw[dI,dI];have:=(wh y x.a).1;show IntKind.i64.wrap (jg 0 (x.a.map List.length).sum-jg 0 ((ja y x.a).map List.length).sum)=_;unfold jg;simp only[IntKind.wrap_i64];omega
theorem xv (x:Qy) (y:List Int) (h:mb x=true):lx x y=(⟨ja y x.a,x.e⟩,jg 0 ((x.a.map List.length).sum-((ja y x.a).map List.length).sum)):=by
 unfold lx;rw[h,cond_true];have d:(0:Int)=jg 0 0:=rfl;rw[d];have key:∀ (m k:Nat) (s:Int),m+k=x.a.length->ax (R:=Qy×Int) (fun k (s:Int×List (List Qx))=>nF y k s.1 s.2) m k (jg s 0,ja y (x.a.take k)++x.a.drop k)= .inr ((x.a.drop k).foldl (fun(s:Int) l=>jg s (l.length-(l.filter (lv y)).length)) (jg s 0),ja y x.a):=by
  intro m
  induction m with
  |zero=>intro k s hk;rw[ax,List.drop_of_length_le (by omega),List.take_of_length_le (by omega)];simp
  |succ m ih=>
   intro k s hk;have hlt:k<x.a.length:=by omega
   have hd:x.a.drop k=gt x.a k::x.a.drop (k+1):=by rw[List.drop_eq_getElem_cons hlt,gj hlt]
   have hl:(ja y (x.a.take k)).length=k:=by simp[ja];omega
   have hg:gt (ja y (x.a.take k)++x.a.drop k) k=gt x.a k:=by
    rw[hd];exact gM hl
   rw[ax,Hd,hg];show ax _ m (k+1) _=_;have g:(ja y (x.a.take k)++x.a.drop k).set k ((gt x.a k).filter (lv y))=ja y (x.a.take (k+1))++x.a.drop (k+1):=by
    rw[hd,List.set_append_right _ _ (by omega),hl,Nat.sub_self,List.set_cons_zero,List.take_add_one,List.getElem?_eq_getElem hlt, <- gj hlt];simp[ja]
   have c:∀ n,jg s n=jg (jg s n) 0:=fun n=>by rw[uq,Nat.add_zero]
   rw[g,c,ih (k+1) _ (by omega),hd,List.foldl_cons]
   congr 2
   rw[uq,uq,Nat.zero_add,Nat.add_zero]
 have b:=key (x.a.length-0) 0 0 (by omega);rw[List.take_zero,List.drop_zero] at b;have f:ja y []++x.a=x.a:=rfl;rw[f] at b;rw[b,(wh y x.a).2];rfl
theorem dY (x:Qy) (y:List Int):nz x y=lx x y:=by
 cases h:mb x with
 |true=>rw[gY x y (by rw[lY];exact h),xv x y h]
 |false=>
  unfold nz lx;rw[lY,h];rfl
theorem mE (xs:List Qq) (q:Int):db xs q<=xs.length:=List.findIdx_le_length
theorem tD {x:Qk} {q:Int} {k:Nat} (hk:k<x.c.length) (h: ¬ db x.c q<k):decide (q<(gt x.c k).g.Id)=decide (db x.c q=k):=by
 by_cases b:db x.c q=k
 ·have a:=pC (xs:=x.c) (q:=q) (by omega);rw[b] at a;rw[decide_eq_true a,decide_eq_true b]
 have a:=pD (xs:=x.c) (q:=q) (j:=k) (by omega);rw[decide_eq_false b,decide_eq_false (by omega)]
theorem jV (x:Qk) (q:bk):
 ax (R:=Qk×Bool) (fun k (s:Bool)=>cA x q k s) (x.c.length-0) 0 false= .inr (decide (db x.c q.Id<x.c.length)):=by
 have key:∀ m k,m+k=x.c.length->ax (R:=Qk×Bool) (fun k (s:Bool)=>cA x q k s) m k (decide (db x.c q.Id<k))= .inr (decide (db x.c q.Id<m+k)):=by
  intro m
  induction m with
  |zero=>intro k _;rw[Nat.zero_add];rfl
  |succ m ih=>
   intro k hk;have hb:cA x q k (decide (db x.c q.Id<k))= .inr (decide (db x.c q.Id<k+1)):=by
    unfold cA
    by_cases h:db x.c q.Id<k
    ·rw[decide_eq_true h,cond_true,decide_eq_true (by omega)]
    rw[decide_eq_false h,cond_false,tD (by omega) h]
    by_cases a:db x.c q.Id=k
    ·rw[decide_eq_true a,cond_true,decide_eq_true (by omega)]
    rw[decide_eq_false a,cond_false,decide_eq_false (by omega)]
   rw[ax,hb];show ax _ m (k+1) (decide (db x.c q.Id<k+1))=_;rw[ih (k+1) (by omega)]
   congr 2
   rw[show m+(k+1)=m+1+k by omega]
 have h:=key (x.c.length-0) 0 (by omega);rw[decide_eq_false (Nat.not_lt_zero _)] at h;rw[h];rfl
theorem kW (b:List Int) (D:ar):nl 20 (ij b D).1:=by
 unfold ij;have hrw:=kS b D 7 (by omega) (by omega);have hb:=gv b (jh b D 7).2 3;have hb':=hb.2.1 (by omega);have:=ia (n:=2+(Qd b (jh b D 7).2 3).1) (by omega) (by omega);have d:=kN (n:=IntKind.i64.wrap (2+(Qd b (jh b D 7).2 3).1)) hrw.1 (by omega) (by omega) (by omega);have key:∀ (m k:Nat) (s:Int×Nat×Int×(List (List Qx))×Int),nl 20 (⟨s.2.2.2.1,s.2.2.2.2⟩:Qy)->nl 20 (Sum.elim id (fun(s:Int×Nat×Int×(List (List Qx))×Int)=>((⟨s.2.2.2.1,s.2.2.2.2⟩:Qy),(⟨s.2.1,s.2.2.1⟩:ar))) (gq (R:=(Qy×ar)) (fun k (s:Int×Nat×Int×(List (List Qx))×Int)=>aE b k s.1 s.2.1 s.2.2.1 s.2.2.2.1 s.2.2.2.2) m k s)).1:=fun m k s e=>by
  obtain⟨s',a,c⟩:=mV (R:=(Qy×ar)) (b:=fun k (s:Int×Nat×Int×(List (List Qx))×Int)=>aE b k s.1 s.2.1 s.2.2.1 s.2.2.2.1 s.2.2.2.2) (P:=fun _ s=>nl 20 (⟨s.2.2.2.1,s.2.2.2.2⟩:Qy)) (Q:=fun s=>nl 20 (⟨s.2.2.2.1,s.2.2.2.2⟩:Qy)) (fun k s hp=>by
   show(∃ s',aE b k s.1 s.2.1 s.2.2.1 s.2.2.2.1 s.2.2.2.2=_∧_)∨∃ s',aE b k s.1 s.2.1 s.2.2.1 s.2.2.2.1 s.2.2.2.2=_∧_;unfold aE;cases decide (0<s.1) with
   |true=>exact .inl ⟨_,rfl,xf (by omega) hp _⟩
   |false=>exact .inr ⟨_,rfl,hp⟩) m k s e
  rw[a];exact c.elim id id
 exact key _ _ _ d
theorem Jp {n:Nat} {x:Qy} (h:nl n x) (y:List Int):nl n (⟨ja y x.a,x.e⟩:Qy):=by
 refine⟨h.1,(by show 1<=(List.map _ _).length;rw[List.length_map];exact h.2.1),(by show(List.map _ _).length<=8;rw[List.length_map];exact h.2.2.1),fun z hz=>?_⟩;obtain⟨d,b,rfl⟩:=List.mem_map.1 hz;have c:=h.2.2.2 d b;exact⟨Nat.le_trans (List.length_filter_le _ _) c.1,fun v hv=>c.2 v (List.mem_filter.1 hv).1⟩
theorem Cj {n:Nat} {x:Qy} (h:nl n x) (y:List Int):nl n (nz x y).1:=by
 cases a:qz x with
 |true=>rw[gY x y a];exact Jp h y
 |false=>unfold nz;rw[a];exact h
theorem kO {n:Nat} {x:Qy} (h:nl n x) (y:List Int):nl n (lx x y).1:=by
 rw[<- dY];exact Cj h y
theorem Bi {R S:Type} {P:S->Prop} {c:Bool} {A B:R⊕S} (a:∃ s',A= .inr s'∧P s') (b:∃ s',B= .inr s'∧P s'):∃ s',cond c A B= .inr s'∧P s':=by cases c <;>assumption
theorem Hw {id_:bk×ar->bk×ar} (b:List Int) (c:List jj) (t id:Int):∀ (m k:Nat) (s:Int×Nat×Int×(List Int)),(s.1<=3∧s.2.2.2.length+s.1.toNat<=3)->(Sum.elim id_ (fun(s:Int×Nat×Int×(List Int))=>((⟨id,t,c,s.2.2.2⟩:bk),(⟨s.2.1,s.2.2.1⟩:ar))) (gq (R:=(bk×ar)) (fun k (s:Int×Nat×Int×(List Int))=>ve b k s.1 s.2.1 s.2.2.1 s.2.2.2) m k s)).1.o=c∧(Sum.elim id_ (fun(s:Int×Nat×Int×(List Int))=>((⟨id,t,c,s.2.2.2⟩:bk),(⟨s.2.1,s.2.2.1⟩:ar))) (gq (R:=(bk×ar)) (fun k (s:Int×Nat×Int×(List Int))=>ve b k s.1 s.2.1 s.2.2.1 s.2.2.2) m k s)).1.q.length<=3:=fun m k s e=>by
 obtain⟨s',a,d⟩:=mV (R:=(bk×ar)) (b:=fun k (s:Int×Nat×Int×(List Int))=>ve b k s.1 s.2.1 s.2.2.1 s.2.2.2) (P:=fun _ s=>s.1<=3∧s.2.2.2.length+s.1.toNat<=3) (Q:=fun s=>s.2.2.2.length<=3) (fun k s ⟨f,g⟩=>by
  show(∃ s',ve b k s.1 s.2.1 s.2.2.1 s.2.2.2=_∧_)∨∃ s',ve b k s.1 s.2.1 s.2.2.1 s.2.2.2=_∧_;unfold ve
  by_cases h:0<s.1
  ·rw[decide_eq_true h,ia (n:=s.1-1) (by omega) (by omega)];refine .inl ⟨_,rfl,?_,?_⟩
   ·show s.1-1<=3;omega
   show(s.2.2.2++[_]).length+(s.1-1).toNat<=3;rw[List.length_append];show s.2.2.2.length+1+_<=3;omega
  rw[decide_eq_false h]
  exact .inr ⟨_,rfl,by show s.2.2.2.length<=3;omega⟩) m k s e
 rw[a];refine⟨rfl,?_⟩;show s'.2.2.2.length<=3;rcases d with h|h <;>omega
theorem ov (b:List Int) (D:ar) (i:Int):(fq b D i).1.o.length<=3∧(fq b D i).1.q.length<=3:=by
 unfold fq
 obtain⟨a,c,d⟩:=ux (R:=bk×ar) (body:=fun k (s:Nat×Int×List jj)=>nM b D k s.1 s.2.1 s.2.2) (n:=3) (fun k s=>s.2.2.length<=k) (fun k s _ h=>by
  have happ:∀ y,(s.2.2++[y]).length<=k+1:=fun y=>by rw[List.length_append];show s.2.2.length+1<=k+1;omega
  have hkeep:s.2.2.length<=k+1:=by omega
  show ∃ s',nM b D k s.1 s.2.1 s.2.2= .inr s'∧s'.2.2.length<=k+1;unfold nM
  repeat' (first|exact⟨_,rfl,happ _⟩|exact⟨_,rfl,hkeep⟩|apply Bi)) (3-0) 0 ((cv b ((Qd b D 4).2) [3,6,100]).2.i,(cv b ((Qd b D 4).2) [3,6,100]).2.h,[]) (by omega) (Nat.zero_le _)
 rw[c];have hb:=gv b (⟨a.1,a.2.1⟩:ar) 3;have hb':=hb.2.1 (by omega);have hw:=ia (n:=1+(Qd b (⟨a.1,a.2.1⟩:ar) 3).1) (by omega) (by omega);have key:=Hw (id_:=id) b a.2.2 (Qd b D 4).1 i ((IntKind.i64.wrap (1+(Qd b (⟨a.1,a.2.1⟩:ar) 3).1)).toNat+1-0) 0 ((IntKind.i64.wrap (1+(Qd b (⟨a.1,a.2.1⟩:ar) 3).1)),(Qd b (⟨a.1,a.2.1⟩:ar) 3).2.i,(Qd b (⟨a.1,a.2.1⟩:ar) 3).2.h,[]) ⟨(by show IntKind.i64.wrap _<=3;omega),(by show 0+(IntKind.i64.wrap _).toNat<=3;omega)⟩;exact⟨Nat.le_trans (Nat.le_of_eq (congrArg List.length key.1)) d,key.2⟩
theorem iZ {x:Qk} (h:gu x) (a:Qq):(ob x a).length<=4:=Nat.le_trans (xb _ _) (oZ h)
def oq (a:Qq):Bool:=((a.r.length:Nat):Int)==0
def rv (n:Int) (a:Qq):Qq:=⟨a.g,a.u,a.r,IntKind.i64.wrap (a.y+1),cond ((Int.tmod (IntKind.i64.wrap (a.y+1)) n)==0) 0 a.A,a.z,a.p⟩
def qy (a:Qq):fv:=⟨a.g,a.u,IntKind.i64.wrap (a.y+1),a.p⟩
theorem wi (n:Int):∀ (L:List Qq) (r:List Qq) (d:List fv),L.foldl (fun(s:(List Qq)×(List fv)) a=>cond (oq a) (s.1,s.2++[qy a]) (s.1++[rv n a],s.2)) (r,d)=(r++(L.filter (fun a=> !oq a)).map (rv n),d++(L.filter oq).map qy)
 | [],r,d=>by simp
 |a::L,r,d=>by
  rw[List.foldl_cons];cases h:oq a with
  |true=>rw[cond_true,wi n L];simp[h]
  |false=>rw[cond_false,wi n L];simp[h]
theorem Ex {R:Type} {L:List Qq} {n:Int} {b:Nat->(List Qq)×(List fv)->R⊕((List Qq)×(List fv))} (hb:∀ k s,k<L.length->b k s= .inr (cond (oq (gt L k)) (s.1,s.2++[qy (gt L k)]) (s.1++[rv n (gt L k)],s.2))) (D:List fv):ax b (L.length-0) 0 ([],D)= .inr ((L.filter (fun a=> !oq a)).map (rv n),D++(L.filter oq).map qy):=by
 rw[pp (xs:=L) (f:=fun s a=>cond (oq a) (s.1,s.2++[qy a]) (s.1++[rv n a],s.2)) hb,wi];rfl
def rc (x:Qk) (L:List Qq):List Qq:=(L.filter (fun a=> !oq a)).map (rv ((x.d.a.length:Nat):Int))
def bF (x:Qk) (L:List Qq):List fv:=x.f++(L.filter oq).map qy
def sa (x:Qk):List gn:=cond (decide (0<(((ct x).length:Nat):Int))) (x.j++[tv x]) x.j
def oe (x:Qk):Qk:=⟨x.d,Int.tmod (IntKind.i64.wrap (x.l+1)) ((x.d.a.length:Nat):Int),x.k,rc x (kn x (ct x)),bF x (kn x (ct x)),sa x,IntKind.i64.wrap (x.n+1)⟩
theorem Dv {x:Qk} (h:gu x):ms x=ml (oe x):=by
 have hj:cK x= .inr (⟨x.d,x.l,x.k,kn x (ct x),x.f,sa x,x.n⟩:Qk):=by
  unfold cK sa;cases hp:decide (0<(((ct x).length:Nat):Int)) with
  |true=>rw[cond_true,cond_true,lZ h]
  |false=>
   have:=of_decide_eq_false hp;have hn:ct x=[]:=List.eq_nil_of_length_eq_zero (by omega);rw[cond_false,cond_false,hn,fA]
 unfold ms oe rc bF;rw[hj];show Sum.elim id _ (ax (R:=Qk) (fun k (s:(List Qq)×(List fv))=>nJ (⟨x.d,x.l,x.k,kn x (ct x),x.f,sa x,x.n⟩:Qk) k s.1 s.2) ((kn x (ct x)).length-0) 0 ([],x.f))=_
 rw[Ex (n:=((x.d.a.length:Nat):Int)) (b:=fun k (s:(List Qq)×(List fv))=>nJ (⟨x.d,x.l,x.k,kn x (ct x),x.f,sa x,x.n⟩:Qk) k s.1 s.2) (fun k s hk=>by
  unfold nJ oq rv qy rU rV;dsimp only
  cases ((Int.tmod (IntKind.i64.wrap (((gt (kn x (ct x)) k).y)+1)) ((x.d.a.length:Nat):Int))==0) <;>cases ((((gt (kn x (ct x)) k).r).length:Nat):Int)==0 <;>rfl)]
 rfl
def lS (a:Qq):Prop:=sY a.g∧a.r.length<=8∧a.p.length<=1004∧∀ r∈a.p,r.m.length=3
theorem wt {x:Qk} (h:gu x) (a:Qq):∀ r∈ob x a,kr r=true:=fun r hr=>by
 obtain⟨v,hv,rfl⟩:=List.mem_map.1 hr;exact jQ h (List.mem_filter.1 hv).1
theorem eX {x:Qk} (h:gu x) (ids:List Int):∀ a∈kn x ids,lS a:=fun a ha=>by
 obtain⟨b,hb,rfl⟩:=List.mem_map.1 ha;have:=((la _).1 h.st).1;obtain⟨c,_,e,_,_,_,d,_⟩:=h.act b hb;have ht:=eP e;cases decide (b.g.Id∈ids) with
 |false=>exact⟨oV c,by show b.r.length<=8;omega,by show b.p.length<=1004;omega,fun r hr=>((zc r).1 (d r hr)).2.2⟩
 |true=>
  refine⟨oV c,?_,?_,fun r hr=>?_⟩
  ·show(b.r.filter _).length<=8;exact Nat.le_trans (List.length_filter_le _ _) (by omega)
  ·show(b.p++ob x b).length<=1004;have:=iZ h b;rw[List.length_append];omega
  rcases List.mem_append.1 (show r∈b.p++ob x b from hr) with hr|hr
  ·exact((zc r).1 (d r hr)).2.2
  exact((zc r).1 (wt h b r hr)).2.2
theorem iU {x:Qk} {L:List Qq} (h:∀ a∈L,lS a):(rc x L).length<=L.length∧∀ a∈rc x L,lS a:=by
 unfold rc;refine⟨by rw[List.length_map];exact List.length_filter_le _ _,fun a ha=>?_⟩;obtain⟨b,hb,rfl⟩:=List.mem_map.1 ha;exact h b (List.mem_filter.1 hb).1
def cV (f:fv):Prop:=sY f.g∧f.p.length<=1004∧∀ r∈f.p,r.m.length=3
theorem Bo {L:List Qq} (h:∀ a∈L,lS a):((L.filter oq).map qy).length<=L.length∧∀ f∈(L.filter oq).map qy,cV f:=by
 refine⟨by rw[List.length_map];exact List.length_filter_le _ _,fun f hf=>?_⟩;obtain⟨b,hb,rfl⟩:=List.mem_map.1 hf;obtain⟨c,_,d,e⟩:=h b (List.mem_filter.1 hb).1;exact⟨c,d,e⟩
theorem Be {x:Qk} (h:gu x):(tv x).v.length<=8∧(tv x).B.length<=8∧(tv x).p.length<=8:=by
 have:=mA h;unfold tv nW mJ;dsimp only;rw[List.length_map,List.length_map];omega
theorem jT {l:List bf} {n:Nat} (hn:n<=68719476736) (b:l.length<=n) (a:∀ r∈l,r.m.length=3):l.length<=68719476736∧∀ y∈l,pq 68719476736 y:=
 ⟨by omega,fun y hy=>by have:=a y hy;show y.m.length<=_;omega⟩
theorem tI {a:Qq} (h:lS a):rA 68719476736 a:=by
 obtain⟨⟨_,_,_,_,c1,_,_,_⟩,_,b,c⟩:=h;exact⟨⟨by omega,by omega⟩,by omega,jT (n:=1004) (by decide) b c⟩
theorem tJ {f:fv} (h:cV f):rC 68719476736 f:=by
 obtain⟨⟨_,_,_,_,c1,_,_,_⟩,a,b⟩:=h;exact⟨⟨by omega,by omega⟩,jT (n:=1004) (by decide) a b⟩
def um (x:Qk):Bool:=ka x && !decide (100000<=x.n) && !decide (1000<=((x.j.length:Nat):Int)) && !decide (1000<((x.f.length+x.c.length:Nat):Int))
theorem mC (x:Qk):ly x=cond (um x) (ml (oe x),true) (x,false):=by
 unfold ly um;cases hE:ka x with
 |false=>rfl
 |true=>
  rw[Dv ((pd x).1 hE)];cases decide (100000<=x.n) <;>cases decide (1000<=((x.j.length:Nat):Int)) <;>cases decide (1000<((x.f.length+x.c.length:Nat):Int)) <;>rfl
theorem pE {x:Qk} (h:um x=true):gu x∧x.n<100000∧x.j.length<1000∧x.f.length+x.c.length<=1000:=by
 unfold um at h;simp only[Bool.and_eq_true,Bool.not_eq_true',decide_eq_false_iff_not] at h;exact⟨(pd x).1 h.1.1.1,by omega,by omega,by omega⟩
theorem tm (e:Qk):ml e=⟨(lx e.d (e.c.map fun a=>a.u)).1,e.l,e.k,e.c,e.f,e.j,e.n⟩:=by
 unfold ml;rw[pp (R:=Qk) (xs:=e.c) (f:=fun d a=>d++[a.u]) (b:=fun k s=>sP e k s) (fun _ _ _=>rfl)];have:=zk (fun _:Qq=>true) (fun a=>a.u) e.c [];have g:e.c.foldl (fun d a=>d++[a.u]) []=e.c.map fun a=>a.u:=by
  rw[show e.c.foldl (fun d a=>d++[a.u]) []=e.c.foldl (fun d a=>cond true (d++[a.u]) d) [] from rfl,this,List.nil_append,List.filter_eq_self.2 (fun _ _=>rfl)]
 rw[g];rfl
theorem Ew {B:Nat} {d:List (List Qx)} (h:d.length<=B∧∀ y∈d,(y.length<=B∧∀ z∈y,bZ B z)) (k:List Int):(ja k d).length<=B∧∀ y∈ja k d,(y.length<=B∧∀ z∈y,bZ B z):=by
 unfold ja;refine⟨by rw[List.length_map];exact h.1,fun y hy=>?_⟩;obtain⟨l,hl,rfl⟩:=List.mem_map.1 hy;exact⟨Nat.le_trans (List.length_filter_le _ _) (h.2 l hl).1,fun z hz=>(h.2 l hl).2 z (List.mem_filter.1 hz).1⟩
theorem eD {B:Nat} {s:Qy} (h:ma B s) (k:List Int):ma B (lx s k).1:=by
 cases a:mb s with
 |false=>rw[show lx s k=(s,0) from by unfold lx;rw[a];rfl];exact h
 |true=>rw[xv s k a];exact Ew h k
theorem wP {x:Qk} (h:lz 68719476736 x):lz 68719476736 (ly x).1:=by
 rw[mC];cases hc:um x with
 |false=>exact h
 |true=>
  obtain⟨hE,_,_,_⟩:=pE hc;have hb:=eX hE (ct x);have hl:=tq x (ct x);obtain⟨_,d⟩:=iU (x:=x) hb;obtain⟨f1,f2⟩:=Bo hb;have:=hE.al;rw[cond_true,tm];refine⟨eD h.1 _,h.2.1,⟨?_,fun a ha=>tI (d a ha)⟩,⟨?_,fun f hf=>?_⟩,?_,fun c hc=>?_⟩
  ·show(rc x _).length<=_;omega
  ·show(x.f++_).length<=_;rw[List.length_append];omega
  ·rcases List.mem_append.1 (show f∈x.f++_ from hf) with hf|hf
   ·exact h.2.2.2.1.2 f hf
   exact tJ (f2 f hf)
  ·show(sa x).length<=_;unfold sa;cases decide (0<(((ct x).length:Nat):Int)) with
   |true=>rw[cond_true,List.length_append];show _+1<=_;omega
   |false=>rw[cond_false];omega
  have hg:bW 68719476736 (tv x):=by
   obtain⟨a,b,c⟩:=Be hE;exact⟨by omega,by omega,by omega⟩
  have hc':c∈sa x:=hc;unfold sa at hc'
  revert hc'
  cases decide (0<(((ct x).length:Nat):Int)) with
  |true=>
   rw[cond_true];intro hc';rcases List.mem_append.1 hc' with hc'|hc'
   ·exact h.2.2.2.2.2 c hc'
   rw[List.mem_singleton.1 hc'];exact hg
  |false=>rw[cond_false];exact h.2.2.2.2.2 c
def pf (x:Qk) (q:bk) (l:Int):Qq:=⟨q,x.d.e,(List.range x.d.a.length).map fun(k:Nat)=>((k:Nat):Int),0,0,l,[]⟩
def pa (x:Qk) (q:bk) (l:Int):Qk:=⟨x.d,x.l,x.k,((List.take (db x.c q.Id) x.c++[pf x q l])++List.drop (db x.c q.Id) x.c),x.f,x.j,x.n⟩
def ru (x:Qk) (q:bk) (l:Int):Bool:=ka x && kk q && cm l 0 32 && !decide (0<=da x q.Id) && !decide (8<=((x.c.length:Nat):Int))
theorem tC (n:Nat):(ax (R:=(Qk×Bool)) (fun k (s:(List Int))=>uy k s) (n-0) 0 [])= .inr ((List.range n).map fun(k:Nat)=>((k:Nat):Int)):=by
 have key:∀ m k,ax (R:=(Qk×Bool)) (fun k (s:(List Int))=>uy k s) m k ((List.range k).map fun(k:Nat)=>((k:Nat):Int))= .inr ((List.range (m+k)).map fun(k:Nat)=>((k:Nat):Int)):=by
  intro m
  induction m with
  |zero=>intro k;rw[Nat.zero_add];rfl
  |succ m ih=>
   intro k;have hb:uy k ((List.range k).map fun(k:Nat)=>((k:Nat):Int))= .inr ((List.range (k+1)).map fun(k:Nat)=>((k:Nat):Int)):=by
    unfold uy;rw[List.range_succ,List.map_append];rfl
   rw[ax,hb];show ax _ m (k+1) _=_;rw[ih (k+1),show m+(k+1)=m+1+k by omega]
 have h:=key (n-0) 0;rw[List.range_zero] at h;exact h
theorem oS (x:Qk) (q:bk) (l:Int):ie x q l=cond (ru x q l) (pa x q l,true) (x,false):=by
 unfold ie ru;cases ka x with
 |false=>rfl
 |true=>
 cases kk q with
 |false=>rfl
 |true=>
 cases cm l 0 32 with
 |false=>rfl
 |true=>
 cases decide (0<=da x q.Id) with
 |true=>rfl
 |false=>
 cases decide (8<=((x.c.length:Nat):Int)) with
 |true=>rfl
 |false=>
  have ht:ax (R:=(Qk×Bool)) (fun k (s:(List Int))=>uy k s) (x.d.a.length-0) 0 []= .inr ((List.range x.d.a.length).map fun(k:Nat)=>((k:Nat):Int)):=tC _;rw[ht,jV];have hj:=mE x.c q.Id
  by_cases h:db x.c q.Id<x.c.length
  ·rw[decide_eq_true h];rfl
  have e:x.c.length=db x.c q.Id:=by omega
  rw[decide_eq_false h];show(((⟨x.d,x.l,x.k,((List.take x.c.length x.c++[pf x q l])++List.drop x.c.length x.c),x.f,x.j,x.n⟩:Qk),true))=_;rw[e];rfl
def iu (e:Qk):Prop:=lz 68719476736 e∧(e.d.a.length=0∨nl 20 e.d)
theorem dL {e:Qk} (h:iu e):(e.d.a.map List.length).sum<=68719476736:=by
 rcases h.2 with h|h
 ·rw[List.eq_nil_of_length_eq_zero h];decide
 exact lB h
theorem dR {s:Qy} (h:nl 20 s):iu (lo s).1:=by
 unfold lo;cases mb s with
 |true=>exact⟨⟨cP h,(by show 3<=68719476736;decide),⟨Nat.zero_le _,fun y hy=>by cases hy⟩,⟨Nat.zero_le _,fun y hy=>by cases hy⟩,Nat.zero_le _,fun y hy=>by cases hy⟩, .inr h⟩
 |false=>exact⟨⟨⟨Nat.zero_le _,fun y hy=>by cases hy⟩,Nat.zero_le _,⟨Nat.zero_le _,fun y hy=>by cases hy⟩,⟨Nat.zero_le _,fun y hy=>by cases hy⟩,Nat.zero_le _,fun y hy=>by cases hy⟩, .inl rfl⟩
theorem dX {e:Qk} (h:iu e):iu (ml e):=by
 rw[tm];refine⟨⟨eD h.1.1 _,h.1.2⟩,?_⟩;rcases h.2 with b|b
 ·left
  cases f:mb e.d with
  |false=>rw[show lx e.d (e.c.map fun a=>a.u)=(e.d,0) from by unfold lx;rw[f];rfl];exact b
  |true=>have:=((la _).1 f).1;omega
 exact .inr (kO b _)
theorem aY {e:Qk} (h:iu e):iu (ly e).1:=by
 refine⟨wP h.1,?_⟩;rw[mC];cases hc:um e with
 |false=>exact h.2
 |true=>
  have hE:=(pE hc).1;rw[cond_true,tm];rcases h.2 with a|a
  ·have:=((la _).1 hE.st).1;omega
  exact .inr (kO (x:=(oe e).d) a _)
theorem uh {e:Qk} {q:bk} {l:Int} (h:iu e) (hq:lj 68719476736 q):iu (ie e q l).1:=by
 rw[oS];cases ha:ru e q l with
 |false=>exact h
 |true=>
  unfold ru at ha;simp only[Bool.and_eq_true,Bool.not_eq_true',decide_eq_false_iff_not] at ha;have hE:=(pd e).1 ha.1.1.1.1;have:=ha.2;have:=((la _).1 hE.st).1;obtain⟨⟨g,i,f,j⟩,k⟩:=h;refine⟨⟨g,i,⟨?_,fun a b=>?_⟩,j⟩,k⟩
  ·show((List.take _ e.c++[pf e q l])++List.drop _ e.c).length<=_;rw[List.length_append,List.length_append,List.length_take,List.length_drop];show _+1+_<=_;omega
  rcases List.mem_append.1 (show a∈(List.take _ e.c++[pf e q l])++List.drop _ e.c from b) with b|b
  ·rcases List.mem_append.1 b with b|b
   ·exact f.2 a (List.mem_of_mem_take b)
   rw[List.mem_singleton.1 b];refine⟨hq,?_,Nat.zero_le _,fun y hy=>by cases hy⟩;show((List.range e.d.a.length).map _).length<=_;rw[List.length_map,List.length_range];omega
  exact f.2 a (List.mem_of_mem_drop b)
theorem ul {e:Qk} (h:iu e) (u:dp):iu (jp e u).1:=by
 unfold jp;cases hE:ka e with
 |false=>exact h
 |true=>
 cases (ej e.d u).2 with
 |false=>exact h
 |true=>
  refine dX ⟨⟨xe h.1.1 u,h.1.2⟩,?_⟩;rcases h.2 with a|a
  ·have:=((la _).1 ((pd e).1 hE).st).1;omega
  exact .inr (xf (by decide) a u)
theorem ui {e:Qk} (h:iu e) (i:Int):iu (jn e i).1:=by
 unfold jn;cases hE:ka e with
 |false=>exact h
 |true=>
 cases hf:decide (da e i<0) with
 |true=>exact h
 |false=>
  have:=of_decide_eq_false hf;have:=cD e i;have:=((pd e).1 hE).al;exact dX ⟨uI h.1 (by rw[ia (by omega) (by omega)];omega),h.2⟩
theorem oo {q:bk} (h:q.o.length<=3∧q.q.length<=3):lj 68719476736 q:=⟨by omega,by omega⟩
def cN (a:List Int) (g:Nat) (f:Int) (b:Nat) (c:Int) (e:Qk):(Qk×ar)⊕((Int×Nat×Int×Qk)⊕(Int×Nat×Int×Qk)):=
 cond (decide (0<f)) (cond ((Qd a (⟨b,c⟩:ar) 7).1==0) (Sum.inr (Sum.inr ((IntKind.i64.wrap (f-1)),(cv a (fq a ((Qd a (Qd a (⟨b,c⟩:ar) 7).2 6).2) ((Qd a (Qd a (⟨b,c⟩:ar) 7).2 6).1)).2 [0,0,1,2]).2.i,(cv a (fq a ((Qd a (Qd a (⟨b,c⟩:ar) 7).2 6).2) ((Qd a (Qd a (⟨b,c⟩:ar) 7).2 6).1)).2 [0,0,1,2]).2.h,((ie e (fq a ((Qd a (Qd a (⟨b,c⟩:ar) 7).2 6).2) ((Qd a (Qd a (⟨b,c⟩:ar) 7).2 6).1)).1 (cv a (fq a ((Qd a (Qd a (⟨b,c⟩:ar) 7).2 6).2) ((Qd a (Qd a (⟨b,c⟩:ar) 7).2 6).1)).2 [0,0,1,2]).1).1)))) (cond ((Qd a (⟨b,c⟩:ar) 7).1==1) (Sum.inr (Sum.inr ((IntKind.i64.wrap (f-1)),(cv a (fq a ((Qd a (Qd a (⟨b,c⟩:ar) 7).2 6).2) ((Qd a (Qd a (⟨b,c⟩:ar) 7).2 6).1)).2 [0,0,1,2]).2.i,(cv a (fq a ((Qd a (Qd a (⟨b,c⟩:ar) 7).2 6).2) ((Qd a (Qd a (⟨b,c⟩:ar) 7).2 6).1)).2 [0,0,1,2]).2.h,((ie e (fq a ((Qd a (Qd a (⟨b,c⟩:ar) 7).2 6).2) ((Qd a (Qd a (⟨b,c⟩:ar) 7).2 6).1)).1 (cv a (fq a ((Qd a (Qd a (⟨b,c⟩:ar) 7).2 6).2) ((Qd a (Qd a (⟨b,c⟩:ar) 7).2 6).1)).2 [0,0,1,2]).1).1)))) (cond ((Qd a (⟨b,c⟩:ar) 7).1==2) (Sum.inr (Sum.inr ((IntKind.i64.wrap (f-1)),(dc a (Qd a (⟨b,c⟩:ar) 7).2 e.d).2.i,(dc a (Qd a (⟨b,c⟩:ar) 7).2 e.d).2.h,((jp e (dc a (Qd a (⟨b,c⟩:ar) 7).2 e.d).1).1)))) (cond ((Qd a (⟨b,c⟩:ar) 7).1==3) (Sum.inr (Sum.inr ((IntKind.i64.wrap (f-1)),((Qd a (Qd a (⟨b,c⟩:ar) 7).2 6).2).i,((Qd a (Qd a (⟨b,c⟩:ar) 7).2 6).2).h,((jn e ((Qd a (Qd a (⟨b,c⟩:ar) 7).2 6).1)).1)))) (Sum.inr (Sum.inr ((IntKind.i64.wrap (f-1)),(Qd a (⟨b,c⟩:ar) 7).2.i,(Qd a (⟨b,c⟩:ar) 7).2.h,((ly e).1)))))))) (Sum.inr (Sum.inl (f,b,c,e)))
def bl (a:List Int) (b:ar) (c:Int):(Qk×ar):=
 Sum.elim id (fun(s:Int×Nat×Int×Qk)=>(s.2.2.2,(⟨s.2.1,s.2.2.1⟩:ar))) (gq (R:=(Qk×ar)) (fun k (s:Int×Nat×Int×Qk)=>cN a k s.1 s.2.1 s.2.2.1 s.2.2.2) (((Qd a ((ij a b).2) c).1).toNat+1-0) 0 ((Qd a ((ij a b).2) c).1,(Qd a ((ij a b).2) c).2.i,(Qd a ((ij a b).2) c).2.h,((lo ((ij a b).1)).1)))
theorem zN:Cb Tryz.prog 156:=⟨f156,_,func156,rfl,by decide⟩
theorem Jk (B:Nat) (w0:World) (is:List It) (w:World) (p:Nat) (z0:Value) (b:List Int) (M:ar) (w3:ce mn w0 B z0 b) (x1:Int) (O:b.length<=68719476736) (w5:0<=x1∧x1<=14) (u:Mem B w0 (Qa p 177 [z0,nI M.i,iV M.h]::is) w):
 Calls Tryz.prog 156 #[.pointer (sA p),iV x1] w fun e w'=>∃ x:List Value,e= .returned (.agg x.toArray)∧Mem B w0 (Qg cc x ((bl b M x1).1)::Qa p 177 [z0,nI (((bl b M x1).2).i),iV ((bl b M x1).2).h]::is) w':=by
 obtain⟨_,A2,c3,rfl,_,r5⟩:=Qn w3;refine nv (L:=[(0, .pointer (sA p)),(1,iV x1)]) (N:=67) func156 rfl rfl (Nat.le_of_ble_eq_true rfl) (jl rfl (jl rfl mi)) u ?_;have:b.length<=68719476736:=O;refine sr ?_;refine br Qv rfl (Qf rfl) (by decide) (fun p7=>?_);refine aa (sr (wm ?_));let K3:List Value:=[.slice none 0 0,iV 0,iV 0, .slice none 0 0, .slice none 0 0, .slice none 0 0, .slice none 0 0,iV 0];let a2:List It:=Qa p7 39 K3::is;refine dr (χ:=List Value) (val:=fun x=> .agg x.toArray) (js:=fun x=>(Qg em x ((ij b M).1)::Qa p 177 [.slice A2 b.length c3,nI (((ij b M).2).i),iV ((ij b M).2).h]::a2)) (Qo Am rfl) (fun W u=>Iy B w0 a2 W p _ b M r5 O (u.front (n:=1) rfl)) (Qf rfl) (by decide) (fun _=>?_);have hsd:=kW b M;refine lb ?_;rintro _ rfl;refine fm 0 ?_;rintro n3 t3 rfl x5;refine iv (χ:=List Value) (val:=fun x=> .tuple #[.agg x.toArray, .bool ((lo ((ij b M).1)).2)]) (js:=fun x=>[Qg cc x ((lo ((ij b M).1)).1)]) (Qo Al rfl) (fun W u=>Gz W _ ((ij b M).1) (jf (x:=((ij b M).1)) (u.rdSI (n:=0) rfl)) (cP hsd)) (Qf rfl) (by decide) (fun _=>?_);have hnw:=dR hsd;refine gy ?_;rintro⟨_,_,_,_,_⟩ rfl;refine fm 0 ?_;rintro T1 e2 rfl y5;refine fm 1 ?_;rintro U1 g2 rfl z5;refine fm 2 ?_;rintro V1 h2 rfl A5;refine fm 3 ?_;rintro W1 i2 rfl B5;refine fm 4 ?_;rintro X1 j2 rfl C5;refine wm ?_;refine wv (fun W u=>fb rfl rfl) ?_;refine wv (fun W u=>fb rfl rfl) ?_;refine br Qv rfl (Qf rfl) (by decide) (fun J=>?_);let K4:List Value:=[.slice T1 (((lo ((ij b M).1)).1).d.a).length e2,iV (((lo ((ij b M).1)).1).d.e),iV (((lo ((ij b M).1)).1).l), .slice U1 (((lo ((ij b M).1)).1).k).length g2, .slice V1 (((lo ((ij b M).1)).1).c).length h2, .slice W1 (((lo ((ij b M).1)).1).f).length i2, .slice X1 (((lo ((ij b M).1)).1).j).length j2,iV (((lo ((ij b M).1)).1).n)];refine eu (p:=J) (o:=0) (cs':=K4) (fun w u=>u.front (n:=0) rfl) Qv rfl (Nat.le_of_ble_eq_true rfl) rfl rfl rfl rfl (Qf rfl) ?_;refine wa (aa (Qi (sr (wm (wm ?_)))));let o3:It:=iS (ab Qp 163) 100 T1 e2 (((lo ((ij b M).1)).1).d.a);let p3:It:=iS Qb 3 U1 g2 (((lo ((ij b M).1)).1).k);let q3:It:=iS Qu 61 V1 h2 (((lo ((ij b M).1)).1).c);let r3:It:=iS bg 80 W1 i2 (((lo ((ij b M).1)).1).f);let s3:It:=iS be 102 X1 j2 (((lo ((ij b M).1)).1).j);let F2:It:=iS (ab Qp 163) 100 n3 t3 (((ij b M).1).a);let o0:List It:=F2::a2;let J2:List It:=Qa J 39 K4::o3::p3::q3::r3::s3::o0;refine dr (χ:=Unit) (val:=fun x=>iV ((Qd b ((ij b M).2) x1).1)) (js:=fun x=>(Qa p 177 [.slice A2 b.length c3,nI (((Qd b ((ij b M).2) x1).2).i),iV ((Qd b ((ij b M).2) x1).2).h]::J2)) (Qo iw rfl) (fun W u=>iy B w0 J2 W p _ b ((ij b M).2) r5 x1 O (u.front (n:=7) rfl)) (Qf rfl) (by decide) (fun _=>?_);have hb:=gv b ((ij b M).2) x1;obtain⟨C,c0⟩:∃ G,G=(Qd b ((ij b M).2) x1):=⟨_,rfl⟩;rw[<- c0];rw[<- c0] at hb;refine wa (aa ?_);let F1:=fun k (s:Int×Nat×Int×Qk)=>cN b k s.1 s.2.1 s.2.2.1 s.2.2.2
 let R2:=gq (R:=(Qk×ar)) F1;refine pw (σ:=(Int×Nat×Int×Qk)×(Option Addr×Nat×Option Addr×Nat×Option Addr×Nat×Option Addr×Nat×Option Addr×Nat)) (fun s=>[(4,bp p7),(5,bp J)]) (fun s=>(Qa p 177 [.slice A2 b.length c3,nI s.1.2.1,iV s.1.2.2.1]::Qa J 39 [.slice s.2.1 s.1.2.2.2.d.a.length s.2.2.1,iV s.1.2.2.2.d.e,iV s.1.2.2.2.l, .slice s.2.2.2.1 s.1.2.2.2.k.length s.2.2.2.2.1, .slice s.2.2.2.2.2.1 s.1.2.2.2.c.length s.2.2.2.2.2.2.1, .slice s.2.2.2.2.2.2.2.1 s.1.2.2.2.f.length s.2.2.2.2.2.2.2.2.1, .slice s.2.2.2.2.2.2.2.2.2.1 s.1.2.2.2.j.length s.2.2.2.2.2.2.2.2.2.2,iV s.1.2.2.2.n]::iS (ab Qp 163) 100 s.2.1 s.2.2.1 s.1.2.2.2.d.a::iS Qb 3 s.2.2.2.1 s.2.2.2.2.1 s.1.2.2.2.k::iS Qu 61 s.2.2.2.2.2.1 s.2.2.2.2.2.2.1 s.1.2.2.2.c::iS bg 80 s.2.2.2.2.2.2.2.1 s.2.2.2.2.2.2.2.2.1 s.1.2.2.2.f::iS be 102 s.2.2.2.2.2.2.2.2.2.1 s.2.2.2.2.2.2.2.2.2.2 s.1.2.2.2.j::o0)) (fun s=>R2 ((C.1).toNat+1-0) 0 (C.1,C.2.i,C.2.h,((lo ((ij b M).1)).1))=Sum.inr s.1) ?_ ?_
 ·refine aw ?_;refine zb (σ:=Nat×(Int×Nat×Int×Qk)×(Option Addr×Nat×Option Addr×Nat×Option Addr×Nat×Option Addr×Nat×Option Addr×Nat)) (fun s=>[(0,bp p),(4,bp p7),(5,bp J),(7,iV s.2.1.1)]) (fun s=>(Qa p 177 [.slice A2 b.length c3,nI s.2.1.2.1,iV s.2.1.2.2.1]::Qa J 39 [.slice s.2.2.1 s.2.1.2.2.2.d.a.length s.2.2.2.1,iV s.2.1.2.2.2.d.e,iV s.2.1.2.2.2.l, .slice s.2.2.2.2.1 s.2.1.2.2.2.k.length s.2.2.2.2.2.1, .slice s.2.2.2.2.2.2.1 s.2.1.2.2.2.c.length s.2.2.2.2.2.2.2.1, .slice s.2.2.2.2.2.2.2.2.1 s.2.1.2.2.2.f.length s.2.2.2.2.2.2.2.2.2.1, .slice s.2.2.2.2.2.2.2.2.2.2.1 s.2.1.2.2.2.j.length s.2.2.2.2.2.2.2.2.2.2.2,iV s.2.1.2.2.2.n]::iS (ab Qp 163) 100 s.2.2.1 s.2.2.2.1 s.2.1.2.2.2.d.a::iS Qb 3 s.2.2.2.2.1 s.2.2.2.2.2.1 s.2.1.2.2.2.k::iS Qu 61 s.2.2.2.2.2.2.1 s.2.2.2.2.2.2.2.1 s.2.1.2.2.2.c::iS bg 80 s.2.2.2.2.2.2.2.2.1 s.2.2.2.2.2.2.2.2.2.1 s.2.1.2.2.2.f::iS be 102 s.2.2.2.2.2.2.2.2.2.2.1 s.2.2.2.2.2.2.2.2.2.2.2 s.2.1.2.2.2.j::o0)) (fun s=>s.1+((s.2.1.1).toNat)+1<=(C.1).toNat+1∧R2 ((C.1).toNat+1-s.1) s.1 s.2.1=R2 ((C.1).toNat+1-0) 0 (C.1,C.2.i,C.2.h,((lo ((ij b M).1)).1))∧iu s.2.1.2.2.2∧0<=s.2.1.1∧s.2.1.1<=14) (fun s=>(C.1).toNat+1-s.1) (0,(C.1,C.2.i,C.2.h,((lo ((ij b M).1)).1)),(T1,e2,U1,g2,V1,h2,W1,i2,X1,j2)) eo ⟨(show 0+((C.1).toNat)+1<=(C.1).toNat+1 from by omega),rfl,hnw,(show 0<=C.1 from by omega),(show C.1<=14 from by omega)⟩ ?_;rintro⟨K,⟨F,k0,l0,g⟩,⟨g0,h0,S,Y,T,Z,U,a0,V,b0⟩⟩ E2 _ _ e e';dsimp only at E2 ⊢;subst e e';obtain⟨_,n0,A,_,_⟩:=E2;have hsm:=A.1;have HQ:=dL A;have:=ia (n:=F-1) (by omega) (by omega);refine Qi (sr (wm ?_));refine wv (fun W u=>jz rfl rfl) ?_;refine aa ?_;rcases ff (0<F) with⟨u3,p0⟩|⟨u3,p0⟩
  ·refine Qr rfl p0 ?_;refine an (Qj (Qi (aw (sr ?_))));let K5:List Value:=[.slice g0 g.d.a.length h0,iV g.d.e,iV g.l, .slice S g.k.length Y, .slice T g.c.length Z, .slice U g.f.length a0, .slice V g.j.length b0,iV g.n];refine wv (fun W u=>Qw (cs:=K5) Qs Qv rfl rfl (u.boxCells (n:=1) rfl)) ?_;refine br Qv rfl (Qf rfl) (by decide) (fun e0=>?_);refine eu (p:=e0) (o:=0) (cs':=K5) (fun w u=>u.front (n:=0) rfl) Qv rfl (Nat.le_of_ble_eq_true rfl) rfl rfl rfl rfl (Qf rfl) ?_;refine aa (Qi (sr (wm ?_)));let A0:It:=iS (ab Qp 163) 100 g0 h0 g.d.a;let y:List It:=Qa e0 39 K5::Qa J 39 K5::A0::iS Qb 3 S Y g.k::iS Qu 61 T Z g.c::iS bg 80 U a0 g.f::iS be 102 V b0 g.j::o0;refine dr (χ:=Unit) (val:=fun x=>iV ((Qd b (⟨k0,l0⟩:ar) 7).1)) (js:=fun x=>(Qa p 177 [.slice A2 b.length c3,nI (((Qd b (⟨k0,l0⟩:ar) 7).2).i),iV ((Qd b (⟨k0,l0⟩:ar) 7).2).h]::y)) (Qo iw rfl) (fun W u=>iy B w0 y W p _ b (⟨k0,l0⟩:ar) r5 7 O (u.front (n:=1) rfl)) (Qf rfl) (by decide) (fun _=>?_);have hb:=gv b (⟨k0,l0⟩:ar) 7;obtain⟨r,j0⟩:∃ G,G=(Qd b (⟨k0,l0⟩:ar) 7):=⟨_,rfl⟩;rw[<- j0];rw[<- j0] at hb;refine aa (aw (Qi (sr ?_)));refine wv (fun W u=>ed rfl rfl) ?_;refine wa (aa ?_);rcases fg r.1 0 with⟨v3,q0⟩|⟨v3,q0⟩
   ·refine Qr rfl q0 ?_;refine an (Qj ?_);refine Qr rfl q0 ?_;obtain⟨z,d0⟩:∃ G,G=(fq b ((Qd b r.2 6).2) ((Qd b r.2 6).1)):=⟨_,rfl⟩;refine im 13 [12] (s:=(Qa J 39 K5::A0::iS Qb 3 S Y g.k::iS Qu 61 T Z g.c::iS bg 80 U a0 g.f::iS be 102 V b0 g.j::o0)) (s2:=y) (pn 10 [2,3,4,5,6,7,8,9]) (pn 10 [1,2,3,4,5,6,7,8,9]) ?_;let K6:List Value:=[.slice A2 b.length c3,nI z.2.i,iV z.2.h];refine qx (σ:=Option Addr×Nat×Option Addr×Nat×Nat) (fun s=>y) 13 127 6 (fun s=>[(0,bp p),(4,bp p7),(5,bp J),(7,iV F),(8,bp e0),(34, .agg #[.slice g0 g.d.a.length h0,iV g.d.e,iV g.l, .slice S g.k.length Y, .slice T g.c.length Z, .slice U g.f.length a0, .slice V g.j.length b0,iV g.n]),(39,bp p),(38, .agg #[iV z.1.Id,iV z.1.t, .slice s.1 z.1.o.length s.2.1, .slice s.2.2.1 z.1.q.length s.2.2.2.1]),(40, .slice (some ⟨s.2.2.2.2,0,none⟩) 4 4)]) (fun s=>(Qa s.2.2.2.2 3 [iV 0,iV 0,iV 1,iV 2]::iS cx 180 s.1 s.2.1 z.1.o::iS Qb 3 s.2.2.1 s.2.2.2.1 z.1.q::Qa p 177 K6::y)) ?_ (fun H=>?_)
    ·rintro⟨Y1,l2,Z1,m2,n2⟩;show QD _ _ _ _ _ _ _ _ [(0,bp p),(4,bp p7),(5,bp J),(7,iV F),(8,bp e0),(34, .agg #[.slice g0 g.d.a.length h0,iV g.d.e,iV g.l, .slice S g.k.length Y, .slice T g.c.length Z, .slice U g.f.length a0, .slice V g.j.length b0,iV g.n]),(39,bp p),(38, .agg #[iV z.1.Id,iV z.1.t, .slice Y1 z.1.o.length l2, .slice Z1 z.1.q.length m2]),(40, .slice (sA n2) 4 4)] _ y _ (Qa n2 3 [iV 0,iV 0,iV 1,iV 2]::iS cx 180 Y1 l2 z.1.o::iS Qb 3 Z1 m2 z.1.q::Qa p 177 K6::y);refine mx (n:=1) rfl ?_;intro D5 E5;refine mx (n:=2) rfl ?_;intro F5 G5;refine bc 13 7 255 rfl ?_;refine il (fun W u=>Mem.litOwn (E:=Qb) (xs:=[0,0,1,2]) rfl (show 4<=maxLen from by decide) (fun _=>(eg (E:=Qb) (L1:=[]) cw (eg (E:=Qb) (L1:=[]) cw (eg (E:=Qb) (L1:=[]) cw (eg (E:=Qb) (L1:=[]) cw ix))))) (u.front (n:=0) rfl)) ?_;let L2:List It:=iS cx 180 Y1 l2 z.1.o::iS Qb 3 Z1 m2 z.1.q::y;refine dr (χ:=Unit) (val:=fun x=>iV ((cv b z.2 [0,0,1,2]).1)) (js:=fun x=>(Qa p 177 [.slice A2 b.length c3,nI (((cv b z.2 [0,0,1,2]).2).i),iV ((cv b z.2 [0,0,1,2]).2).h]::Qg (ab Qb 3) [.slice (sA n2) 4 4] [0,0,1,2]::L2)) (Qo py rfl) (fun W u=>qi B w0 L2 W p _ b z.2 r5 _ [0,0,1,2] O (Nat.le_of_ble_eq_true rfl) (by first|decide|exact Nat.succ_pos _) ((u.front (n:=0) rfl).front (n:=3) rfl)) (Qf rfl) (by decide) (fun _=>?_);obtain⟨X,O1⟩:∃ G,G=(cv b z.2 [0,0,1,2]):=⟨_,rfl⟩;rw[<- O1];refine aq (pn 13 [5,6,7,8,9,10,11,12]) (pn 13 [4,5,6,7,8,9,10,11,12]) ?_;refine bc 13 8 511 rfl ?_;refine iv (χ:=List Value) (val:=fun x=> .tuple #[.agg x.toArray, .bool ((ie g z.1 X.1).2)]) (js:=fun x=>[Qg cc x ((ie g z.1 X.1).1)]) (Qo Me rfl) (fun W u=>xd W _ g _ z.1 X.1 (fx (x:=g) (u.rdSI (n:=6) rfl) (u.rdSI (n:=7) rfl) (u.rdSI (n:=8) rfl) (u.rdSI (n:=9) rfl) (u.rdSI (n:=10) rfl)) (md (x:=z.1) (u.rdSI (n:=2) rfl) (u.rdSI (n:=3) rfl)) hsm (by first|exact cP hsd|exact oo hqf|exact hus|(rw[d0];exact oo (ov _ _ _)))) (Qf rfl) (by decide) (fun _=>?_);refine gy ?_;rintro⟨_,_,_,_,_⟩ rfl;refine fm 0 ?_;rintro D2 h3 rfl A3;refine fm 1 ?_;rintro J0 k1 rfl B3;refine fm 2 ?_;rintro K0 l1 rfl C3;refine fm 3 ?_;rintro L0 n1 rfl D3;refine fm 4 ?_;rintro M0 o1 rfl E3;refine aq (pn 18 [10,11,12,13,14,15,16,17]) (pn 18 [9,10,11,12,13,14,15,16,17]) ?_;refine ae 13 9 1023 rfl ap ?_;refine ae 13 10 2047 rfl (fun W u=>fb rfl rfl) ?_;refine tk 13 11 4095 rfl (fun W=>fb rfl rfl) ?_;refine bc 13 12 8191 rfl ?_;let K7:List Value:=[.slice D2 (((ie g z.1 X.1).1).d.a).length h3,iV (((ie g z.1 X.1).1).d.e),iV (((ie g z.1 X.1).1).l), .slice J0 (((ie g z.1 X.1).1).k).length k1, .slice K0 (((ie g z.1 X.1).1).c).length l1, .slice L0 (((ie g z.1 X.1).1).f).length n1, .slice M0 (((ie g z.1 X.1).1).j).length o1,iV (((ie g z.1 X.1).1).n)];refine eu (p:=e0) (o:=0) (cs':=K7) (fun w u=>u.front (n:=9) rfl) Qv rfl (Nat.le_of_ble_eq_true rfl) rfl rfl rfl rfl (Qf rfl) ?_;refine ik (pn 18 [10,11,12,13,14,15,16,17]) ?_;refine fr (by kernel_rfl) ?_;refine bq (Qj ?_);refine ek (pn 18 [0,1,2,3,4,5,6,10,11,12,13,14,15,16,17]) ?_;refine ao ?_;refine wv (fun W u=>Qw (cs:=K7) Qs Qv rfl rfl (u.boxCells (n:=0) rfl)) ?_;refine eu (p:=J) (o:=0) (cs':=K7) (fun w u=>u.front (n:=7) rfl) Qv rfl (Nat.le_of_ble_eq_true rfl) rfl rfl rfl rfl (Qf rfl) ?_;refine bb (bq (Qj (ao (wm ?_))));refine wv (fun W u=>ph rfl rfl) ?_;refine wa (bb ?_);exact bu (K+1,((IntKind.i64.wrap (F-1)),X.2.i,X.2.h,((ie g z.1 X.1).1)),(D2,h3,J0,k1,K0,l1,L0,n1,M0,o1)) eo (pn 15 [7,0,2,3,4,5,6,13,14]) ⟨(show(K+1)+(((IntKind.i64.wrap (F-1))).toNat)+1<=(C.1).toNat+1 from by omega),oy n0 (by subst c0 j0 d0 O1;exact Qc p0 (Qc q0 (rfl))),(show iu ((ie g z.1 X.1).1) from by first|exact aY A|exact uh A (by first|exact oo hqf|(subst_vars;exact oo (ov _ _ _)))|exact ul A _|exact ui A _),(show 0<=(IntKind.i64.wrap (F-1)) from by omega),(show(IntKind.i64.wrap (F-1))<=14 from by omega)⟩ (show(C.1).toNat+1-(K+1)<(C.1).toNat+1-K from by omega)
    refine ae 13 0 1 rfl (fun W u=>Qw (cs:=K5) Qs Qv rfl rfl (u.boxCells (n:=1) rfl)) ?_;refine ae 13 1 3 rfl ap ?_;refine ae 13 2 7 rfl ap ?_;refine ae 13 5 39 rfl ap ?_;refine ju [3,6] ?_;refine fa 13 47 rfl ?_ ?_
    ·refine dr (χ:=Unit) (val:=fun x=>iV ((Qd b r.2 6).1)) (js:=fun x=>(Qa p 177 [.slice A2 b.length c3,nI (((Qd b r.2 6).2).i),iV ((Qd b r.2 6).2).h]::y)) (Qo iw rfl) (fun W u=>iy B w0 y W p _ b r.2 r5 6 O (u.front (n:=0) rfl)) (Qf rfl) (by decide) (fun _=>?_);have hb:=gv b r.2 6;refine aq (pn 10 [2,3,4,5,6,7,8,9]) (pn 10 [1,2,3,4,5,6,7,8,9]) ?_;refine ju [4,6] ?_;refine fa 13 63 rfl ?_ ?_
     ·refine dr (χ:=List Value) (val:=fun x=> .agg x.toArray) (js:=fun x=>(Qg es x ((fq b ((Qd b r.2 6).2) ((Qd b r.2 6).1)).1)::Qa p 177 [.slice A2 b.length c3,nI (((fq b ((Qd b r.2 6).2) ((Qd b r.2 6).1)).2).i),iV ((fq b ((Qd b r.2 6).2) ((Qd b r.2 6).1)).2).h]::y)) (Qo zf rfl) (fun W u=>aB B w0 y W p _ b ((Qd b r.2 6).2) r5 ((Qd b r.2 6).1) O (u.front (n:=0) rfl)) (Qf rfl) (by decide) (fun _=>?_);have hqf:=ov b ((Qd b r.2 6).2) ((Qd b r.2 6).1);rw[<- d0];rw[<- d0] at hqf;refine ow ?_;rintro⟨_,_⟩ rfl;refine fm 0 ?_;rintro o2 S2 rfl F3;refine fm 1 ?_;rintro p2 T2 rfl G3;refine aq (pn 12 [4,5,6,7,8,9,10,11]) (pn 12 [3,4,5,6,7,8,9,10,11]) ?_;refine bc 13 6 127 rfl ?_;refine eb (cs:=[iV 0,iV 0,iV 1,iV 2]) Qt Qh rfl (by decide) (by decide) rfl (by kernel_rfl) (Qf rfl) (by decide) (fun l3=>?_);refine aq (pn 13 [5,6,7,8,9,10,11,12]) (pn 13 [4,5,6,7,8,9,10,11,12]) ?_;exact gp pv ai (H (o2,S2,p2,T2,l3))
     refine fa 13 111 rfl ?_ ?_
     ·refine eb (cs:=[iV 0,iV 0,iV 1,iV 2]) Qt Qh rfl (by decide) (by decide) rfl (by kernel_rfl) (Qf rfl) (by decide) (fun P1=>?_);refine aq (pn 11 [3,4,5,6,7,8,9,10]) (pn 11 [2,3,4,5,6,7,8,9,10]) ?_;refine bc 13 4 127 rfl ?_;let G2:It:=Qa P1 3 [iV 0,iV 0,iV 1,iV 2];refine dr (χ:=List Value) (val:=fun x=> .agg x.toArray) (js:=fun x=>(Qg es x ((fq b ((Qd b r.2 6).2) ((Qd b r.2 6).1)).1)::Qa p 177 [.slice A2 b.length c3,nI (((fq b ((Qd b r.2 6).2) ((Qd b r.2 6).1)).2).i),iV ((fq b ((Qd b r.2 6).2) ((Qd b r.2 6).1)).2).h]::(G2::y))) (Qo zf rfl) (fun W u=>aB B w0 (G2::y) W p _ b ((Qd b r.2 6).2) r5 ((Qd b r.2 6).1) O (u.front (n:=1) rfl)) (Qf rfl) (by decide) (fun _=>?_);have hqf:=ov b ((Qd b r.2 6).2) ((Qd b r.2 6).1);rw[<- d0];rw[<- d0] at hqf;refine ow ?_;rintro⟨_,_⟩ rfl;refine fm 0 ?_;rintro q2 U2 rfl H3;refine fm 1 ?_;rintro r2 V2 rfl I3;refine aq (pn 13 [5,6,7,8,9,10,11,12]) (pn 13 [4,5,6,7,8,9,10,11,12]) ?_;exact gp pv (pn 13 [3,0,1,2,4,5,6,7,8,9,10,11,12]) (H (q2,U2,r2,V2,P1))
     exact jk
    refine fa 13 103 rfl ?_ ?_
    ·refine eb (cs:=[iV 0,iV 0,iV 1,iV 2]) Qt Qh rfl (by decide) (by decide) rfl (by kernel_rfl) (Qf rfl) (by decide) (fun Q1=>?_);refine aq (pn 11 [3,4,5,6,7,8,9,10]) (pn 11 [2,3,4,5,6,7,8,9,10]) ?_;refine bc 13 3 111 rfl ?_;let G0:It:=Qa Q1 3 [iV 0,iV 0,iV 1,iV 2];refine dr (χ:=Unit) (val:=fun x=>iV ((Qd b r.2 6).1)) (js:=fun x=>(Qa p 177 [.slice A2 b.length c3,nI (((Qd b r.2 6).2).i),iV ((Qd b r.2 6).2).h]::(G0::y))) (Qo iw rfl) (fun W u=>iy B w0 (G0::y) W p _ b r.2 r5 6 O (u.front (n:=1) rfl)) (Qf rfl) (by decide) (fun _=>?_);have hb:=gv b r.2 6;refine aq (pn 11 [3,4,5,6,7,8,9,10]) (pn 11 [2,3,4,5,6,7,8,9,10]) ?_;refine bc 13 4 127 rfl ?_;refine dr (χ:=List Value) (val:=fun x=> .agg x.toArray) (js:=fun x=>(Qg es x ((fq b ((Qd b r.2 6).2) ((Qd b r.2 6).1)).1)::Qa p 177 [.slice A2 b.length c3,nI (((fq b ((Qd b r.2 6).2) ((Qd b r.2 6).1)).2).i),iV ((fq b ((Qd b r.2 6).2) ((Qd b r.2 6).1)).2).h]::(G0::y))) (Qo zf rfl) (fun W u=>aB B w0 (G0::y) W p _ b ((Qd b r.2 6).2) r5 ((Qd b r.2 6).1) O (u.front (n:=0) rfl)) (Qf rfl) (by decide) (fun _=>?_);have hqf:=ov b ((Qd b r.2 6).2) ((Qd b r.2 6).1);rw[<- d0];rw[<- d0] at hqf;refine ow ?_;rintro⟨_,_⟩ rfl;refine fm 0 ?_;rintro t2 W2 rfl J3;refine fm 1 ?_;rintro u2 X2 rfl L3;refine aq (pn 13 [5,6,7,8,9,10,11,12]) (pn 13 [4,5,6,7,8,9,10,11,12]) ?_;exact gp pv (pn 13 [3,0,1,2,4,5,6,7,8,9,10,11,12]) (H (t2,W2,u2,X2,Q1))
    exact jk
   refine ah rfl q0 ?_;refine ao ?_;refine wv (fun W u=>ed rfl rfl) ?_;refine wa (aa ?_);rcases fg r.1 1 with⟨i3,i0⟩|⟨i3,i0⟩
   ·refine Qr rfl i0 ?_;obtain⟨v,P⟩:∃ G,G=(fq b ((Qd b r.2 6).2) ((Qd b r.2 6).1)):=⟨_,rfl⟩;refine im 13 [12] (s:=(Qa J 39 K5::A0::iS Qb 3 S Y g.k::iS Qu 61 T Z g.c::iS bg 80 U a0 g.f::iS be 102 V b0 g.j::o0)) (s2:=y) (pn 10 [2,3,4,5,6,7,8,9]) (pn 10 [1,2,3,4,5,6,7,8,9]) ?_;let K8:List Value:=[.slice A2 b.length c3,nI v.2.i,iV v.2.h];refine qx (σ:=Option Addr×Nat×Option Addr×Nat×Nat) (fun s=>y) 13 127 6 (fun s=>[(0,bp p),(4,bp p7),(5,bp J),(7,iV F),(8,bp e0),(34, .agg #[.slice g0 g.d.a.length h0,iV g.d.e,iV g.l, .slice S g.k.length Y, .slice T g.c.length Z, .slice U g.f.length a0, .slice V g.j.length b0,iV g.n]),(39,bp p),(38, .agg #[iV v.1.Id,iV v.1.t, .slice s.1 v.1.o.length s.2.1, .slice s.2.2.1 v.1.q.length s.2.2.2.1]),(40, .slice (some ⟨s.2.2.2.2,0,none⟩) 4 4)]) (fun s=>(Qa s.2.2.2.2 3 [iV 0,iV 0,iV 1,iV 2]::iS cx 180 s.1 s.2.1 v.1.o::iS Qb 3 s.2.2.1 s.2.2.2.1 v.1.q::Qa p 177 K8::y)) ?_ (fun H=>?_)
    ·rintro⟨v0,B0,y0,C0,F0⟩;show QD _ _ _ _ _ _ _ _ [(0,bp p),(4,bp p7),(5,bp J),(7,iV F),(8,bp e0),(34, .agg #[.slice g0 g.d.a.length h0,iV g.d.e,iV g.l, .slice S g.k.length Y, .slice T g.c.length Z, .slice U g.f.length a0, .slice V g.j.length b0,iV g.n]),(39,bp p),(38, .agg #[iV v.1.Id,iV v.1.t, .slice v0 v.1.o.length B0, .slice y0 v.1.q.length C0]),(40, .slice (sA F0) 4 4)] _ y _ (Qa F0 3 [iV 0,iV 0,iV 1,iV 2]::iS cx 180 v0 B0 v.1.o::iS Qb 3 y0 C0 v.1.q::Qa p 177 K8::y);refine mx (n:=1) rfl ?_;intro M3 N3;refine mx (n:=2) rfl ?_;intro O3 P3;refine bc 13 7 255 rfl ?_;refine il (fun W u=>Mem.litOwn (E:=Qb) (xs:=[0,0,1,2]) rfl (show 4<=maxLen from by decide) (fun _=>(eg (E:=Qb) (L1:=[]) cw (eg (E:=Qb) (L1:=[]) cw (eg (E:=Qb) (L1:=[]) cw (eg (E:=Qb) (L1:=[]) cw ix))))) (u.front (n:=0) rfl)) ?_;let M2:List It:=iS cx 180 v0 B0 v.1.o::iS Qb 3 y0 C0 v.1.q::y;refine dr (χ:=Unit) (val:=fun x=>iV ((cv b v.2 [0,0,1,2]).1)) (js:=fun x=>(Qa p 177 [.slice A2 b.length c3,nI (((cv b v.2 [0,0,1,2]).2).i),iV ((cv b v.2 [0,0,1,2]).2).h]::Qg (ab Qb 3) [.slice (sA F0) 4 4] [0,0,1,2]::M2)) (Qo py rfl) (fun W u=>qi B w0 M2 W p _ b v.2 r5 _ [0,0,1,2] O (Nat.le_of_ble_eq_true rfl) (by first|decide|exact Nat.succ_pos _) ((u.front (n:=0) rfl).front (n:=3) rfl)) (Qf rfl) (by decide) (fun _=>?_);obtain⟨I,D0⟩:∃ G,G=(cv b v.2 [0,0,1,2]):=⟨_,rfl⟩;rw[<- D0];refine aq (pn 13 [5,6,7,8,9,10,11,12]) (pn 13 [4,5,6,7,8,9,10,11,12]) ?_;refine bc 13 8 511 rfl ?_;refine iv (χ:=List Value) (val:=fun x=> .tuple #[.agg x.toArray, .bool ((ie g v.1 I.1).2)]) (js:=fun x=>[Qg cc x ((ie g v.1 I.1).1)]) (Qo Me rfl) (fun W u=>xd W _ g _ v.1 I.1 (fx (x:=g) (u.rdSI (n:=6) rfl) (u.rdSI (n:=7) rfl) (u.rdSI (n:=8) rfl) (u.rdSI (n:=9) rfl) (u.rdSI (n:=10) rfl)) (md (x:=v.1) (u.rdSI (n:=2) rfl) (u.rdSI (n:=3) rfl)) hsm (by first|exact cP hsd|exact oo hqf|exact hus|(rw[P];exact oo (ov _ _ _)))) (Qf rfl) (by decide) (fun _=>?_);refine gy ?_;rintro⟨_,_,_,_,_⟩ rfl;refine fm 0 ?_;rintro N0 p1 rfl Q3;refine fm 1 ?_;rintro O0 q1 rfl R3;refine fm 2 ?_;rintro P0 r1 rfl S3;refine fm 3 ?_;rintro Q0 s1 rfl T3;refine fm 4 ?_;rintro R0 t1 rfl U3;refine aq (pn 18 [10,11,12,13,14,15,16,17]) (pn 18 [9,10,11,12,13,14,15,16,17]) ?_;refine ae 13 9 1023 rfl ap ?_;refine ae 13 10 2047 rfl (fun W u=>fb rfl rfl) ?_;refine tk 13 11 4095 rfl (fun W=>fb rfl rfl) ?_;refine bc 13 12 8191 rfl ?_;let K9:List Value:=[.slice N0 (((ie g v.1 I.1).1).d.a).length p1,iV (((ie g v.1 I.1).1).d.e),iV (((ie g v.1 I.1).1).l), .slice O0 (((ie g v.1 I.1).1).k).length q1, .slice P0 (((ie g v.1 I.1).1).c).length r1, .slice Q0 (((ie g v.1 I.1).1).f).length s1, .slice R0 (((ie g v.1 I.1).1).j).length t1,iV (((ie g v.1 I.1).1).n)];refine eu (p:=e0) (o:=0) (cs':=K9) (fun w u=>u.front (n:=9) rfl) Qv rfl (Nat.le_of_ble_eq_true rfl) rfl rfl rfl rfl (Qf rfl) ?_;refine ik (pn 18 [10,11,12,13,14,15,16,17]) ?_;refine fr (by kernel_rfl) ?_;refine bq (Qj ?_);refine ek (pn 18 [0,1,2,3,4,5,6,10,11,12,13,14,15,16,17]) ?_;refine ao ?_;refine wv (fun W u=>Qw (cs:=K9) Qs Qv rfl rfl (u.boxCells (n:=0) rfl)) ?_;refine eu (p:=J) (o:=0) (cs':=K9) (fun w u=>u.front (n:=7) rfl) Qv rfl (Nat.le_of_ble_eq_true rfl) rfl rfl rfl rfl (Qf rfl) ?_;refine bb (bq (Qj (ao (wm ?_))));refine wv (fun W u=>ph rfl rfl) ?_;refine wa (bb ?_);exact bu (K+1,((IntKind.i64.wrap (F-1)),I.2.i,I.2.h,((ie g v.1 I.1).1)),(N0,p1,O0,q1,P0,r1,Q0,s1,R0,t1)) eo (pn 15 [7,0,2,3,4,5,6,13,14]) ⟨(show(K+1)+(((IntKind.i64.wrap (F-1))).toNat)+1<=(C.1).toNat+1 from by omega),oy n0 (by subst c0 j0 P D0;exact Qc p0 (Qe q0 (Qc i0 (rfl)))),(show iu ((ie g v.1 I.1).1) from by first|exact aY A|exact uh A (by first|exact oo hqf|(subst_vars;exact oo (ov _ _ _)))|exact ul A _|exact ui A _),(show 0<=(IntKind.i64.wrap (F-1)) from by omega),(show(IntKind.i64.wrap (F-1))<=14 from by omega)⟩ (show(C.1).toNat+1-(K+1)<(C.1).toNat+1-K from by omega)
    refine ae 13 0 1 rfl (fun W u=>Qw (cs:=K5) Qs Qv rfl rfl (u.boxCells (n:=1) rfl)) ?_;refine ae 13 1 3 rfl ap ?_;refine ae 13 2 7 rfl ap ?_;refine ae 13 5 39 rfl ap ?_;refine ju [3,6] ?_;refine fa 13 47 rfl ?_ ?_
    ·refine dr (χ:=Unit) (val:=fun x=>iV ((Qd b r.2 6).1)) (js:=fun x=>(Qa p 177 [.slice A2 b.length c3,nI (((Qd b r.2 6).2).i),iV ((Qd b r.2 6).2).h]::y)) (Qo iw rfl) (fun W u=>iy B w0 y W p _ b r.2 r5 6 O (u.front (n:=0) rfl)) (Qf rfl) (by decide) (fun _=>?_);have hb:=gv b r.2 6;refine aq (pn 10 [2,3,4,5,6,7,8,9]) (pn 10 [1,2,3,4,5,6,7,8,9]) ?_;refine ju [4,6] ?_;refine fa 13 63 rfl ?_ ?_
     ·refine dr (χ:=List Value) (val:=fun x=> .agg x.toArray) (js:=fun x=>(Qg es x ((fq b ((Qd b r.2 6).2) ((Qd b r.2 6).1)).1)::Qa p 177 [.slice A2 b.length c3,nI (((fq b ((Qd b r.2 6).2) ((Qd b r.2 6).1)).2).i),iV ((fq b ((Qd b r.2 6).2) ((Qd b r.2 6).1)).2).h]::y)) (Qo zf rfl) (fun W u=>aB B w0 y W p _ b ((Qd b r.2 6).2) r5 ((Qd b r.2 6).1) O (u.front (n:=0) rfl)) (Qf rfl) (by decide) (fun _=>?_);have hqf:=ov b ((Qd b r.2 6).2) ((Qd b r.2 6).1);rw[<- P];rw[<- P] at hqf;refine ow ?_;rintro⟨_,_⟩ rfl;refine fm 0 ?_;rintro v2 Y2 rfl V3;refine fm 1 ?_;rintro w2 Z2 rfl W3;refine aq (pn 12 [4,5,6,7,8,9,10,11]) (pn 12 [3,4,5,6,7,8,9,10,11]) ?_;refine bc 13 6 127 rfl ?_;refine eb (cs:=[iV 0,iV 0,iV 1,iV 2]) Qt Qh rfl (by decide) (by decide) rfl (by kernel_rfl) (Qf rfl) (by decide) (fun m3=>?_);refine aq (pn 13 [5,6,7,8,9,10,11,12]) (pn 13 [4,5,6,7,8,9,10,11,12]) ?_;exact gp pv ai (H (v2,Y2,w2,Z2,m3))
     refine fa 13 111 rfl ?_ ?_
     ·refine eb (cs:=[iV 0,iV 0,iV 1,iV 2]) Qt Qh rfl (by decide) (by decide) rfl (by kernel_rfl) (Qf rfl) (by decide) (fun R1=>?_);refine aq (pn 11 [3,4,5,6,7,8,9,10]) (pn 11 [2,3,4,5,6,7,8,9,10]) ?_;refine bc 13 4 127 rfl ?_;let H2:It:=Qa R1 3 [iV 0,iV 0,iV 1,iV 2];refine dr (χ:=List Value) (val:=fun x=> .agg x.toArray) (js:=fun x=>(Qg es x ((fq b ((Qd b r.2 6).2) ((Qd b r.2 6).1)).1)::Qa p 177 [.slice A2 b.length c3,nI (((fq b ((Qd b r.2 6).2) ((Qd b r.2 6).1)).2).i),iV ((fq b ((Qd b r.2 6).2) ((Qd b r.2 6).1)).2).h]::(H2::y))) (Qo zf rfl) (fun W u=>aB B w0 (H2::y) W p _ b ((Qd b r.2 6).2) r5 ((Qd b r.2 6).1) O (u.front (n:=1) rfl)) (Qf rfl) (by decide) (fun _=>?_);have hqf:=ov b ((Qd b r.2 6).2) ((Qd b r.2 6).1);rw[<- P];rw[<- P] at hqf;refine ow ?_;rintro⟨_,_⟩ rfl;refine fm 0 ?_;rintro x2 a3 rfl X3;refine fm 1 ?_;rintro y2 b3 rfl Y3;refine aq (pn 13 [5,6,7,8,9,10,11,12]) (pn 13 [4,5,6,7,8,9,10,11,12]) ?_;exact gp pv (pn 13 [3,0,1,2,4,5,6,7,8,9,10,11,12]) (H (x2,a3,y2,b3,R1))
     exact jk
    refine fa 13 103 rfl ?_ ?_
    ·refine eb (cs:=[iV 0,iV 0,iV 1,iV 2]) Qt Qh rfl (by decide) (by decide) rfl (by kernel_rfl) (Qf rfl) (by decide) (fun S1=>?_);refine aq (pn 11 [3,4,5,6,7,8,9,10]) (pn 11 [2,3,4,5,6,7,8,9,10]) ?_;refine bc 13 3 111 rfl ?_;let H0:It:=Qa S1 3 [iV 0,iV 0,iV 1,iV 2];refine dr (χ:=Unit) (val:=fun x=>iV ((Qd b r.2 6).1)) (js:=fun x=>(Qa p 177 [.slice A2 b.length c3,nI (((Qd b r.2 6).2).i),iV ((Qd b r.2 6).2).h]::(H0::y))) (Qo iw rfl) (fun W u=>iy B w0 (H0::y) W p _ b r.2 r5 6 O (u.front (n:=1) rfl)) (Qf rfl) (by decide) (fun _=>?_);have hb:=gv b r.2 6;refine aq (pn 11 [3,4,5,6,7,8,9,10]) (pn 11 [2,3,4,5,6,7,8,9,10]) ?_;refine bc 13 4 127 rfl ?_;refine dr (χ:=List Value) (val:=fun x=> .agg x.toArray) (js:=fun x=>(Qg es x ((fq b ((Qd b r.2 6).2) ((Qd b r.2 6).1)).1)::Qa p 177 [.slice A2 b.length c3,nI (((fq b ((Qd b r.2 6).2) ((Qd b r.2 6).1)).2).i),iV ((fq b ((Qd b r.2 6).2) ((Qd b r.2 6).1)).2).h]::(H0::y))) (Qo zf rfl) (fun W u=>aB B w0 (H0::y) W p _ b ((Qd b r.2 6).2) r5 ((Qd b r.2 6).1) O (u.front (n:=0) rfl)) (Qf rfl) (by decide) (fun _=>?_);have hqf:=ov b ((Qd b r.2 6).2) ((Qd b r.2 6).1);rw[<- P];rw[<- P] at hqf;refine ow ?_;rintro⟨_,_⟩ rfl;refine fm 0 ?_;rintro z2 d3 rfl Z3;refine fm 1 ?_;rintro B2 e3 rfl a4;refine aq (pn 13 [5,6,7,8,9,10,11,12]) (pn 13 [4,5,6,7,8,9,10,11,12]) ?_;exact gp pv (pn 13 [3,0,1,2,4,5,6,7,8,9,10,11,12]) (H (z2,d3,B2,e3,S1))
    exact jk
   refine ah rfl i0 ?_;refine sr ?_;refine wv (fun W u=>ed rfl rfl) ?_;refine wa (aa ?_);rcases fg r.1 2 with⟨j3,m0⟩|⟨j3,m0⟩
   ·refine Qr rfl m0 ?_;let N2:List It:=Qa J 39 K5::iS Qb 3 S Y g.k::iS Qu 61 T Z g.c::iS bg 80 U a0 g.f::iS be 102 V b0 g.j::o0;let u0:List It:=Qa e0 39 K5::N2;refine im 10 [9] (s:=N2) (s2:=u0) (pn 10 [2,4,5,6,7,8,9]) (pn 10 [1,2,4,5,6,7,8,9]) ?_;refine ae 10 0 1 rfl (fun W u=>Qw (cs:=K5) Qs Qv rfl rfl (u.boxCells (n:=1) rfl)) ?_;refine ae 10 1 3 rfl ap ?_;refine ae 10 2 7 rfl (vf Qs rfl au) ?_;let I0:List Value:=[.slice g0 g.d.a.length h0,iV g.d.e];refine ae 10 3 15 rfl (fun W u=>Qw (cs:=I0) ay au rfl rfl (u.boxPart (n:=1) rfl rfl)) ?_;refine bc 10 4 31 rfl ?_;let P2:List Value:=[.slice A2 b.length c3,nI r.2.i,iV r.2.h];refine il (js:=(Qg em I0 g.d::(Qa p 177 P2::u0))) (fun W u=>Mem.join (is:=[A0]) (js:=(Qa p 177 P2::u0)) (fun _ _ hs=>gg (x:=g.d) hs) (u.front (n:=3) rfl)) ?_;refine dr (χ:=List Value) (val:=fun x=> .agg x.toArray) (js:=fun x=>(Qg jx x ((dc b r.2 g.d).1)::Qa p 177 [.slice A2 b.length c3,nI (((dc b r.2 g.d).2).i),iV ((dc b r.2 g.d).2).h]::Qg em I0 g.d::u0)) (Qo pK rfl) (fun W u=>sL B w0 u0 W p _ b r.2 r5 _ g.d O hsm.1 (HQ) ((u.front (n:=0) rfl).front (n:=1) rfl)) (Qf rfl) (by decide) (fun _=>?_);have hus:=sM b r.2 g.d;obtain⟨D,r0⟩:∃ G,G=(dc b r.2 g.d):=⟨_,rfl⟩;rw[<- r0];rw[<- r0] at hus;refine aJ ?_;rintro _ rfl;refine fm 0 ?_;rintro C2 g3 rfl b4;refine il (js:=(Qg em I0 g.d::iS Qb 3 C2 g3 D.1.Row.m::Qa p 177 [.slice A2 b.length c3,nI D.2.i,iV D.2.h]::u0)) (fun W u=>(u.front (n:=2) rfl)) ?_;refine lb ?_;rintro _ N1;simp +zetaDelta only [List.cons.injEq] at N1;obtain⟨rfl, -, -⟩:=N1;refine aq (pn 11 [4,5,6,7,8,9,10]) (pn 11 [3,4,5,6,7,8,9,10]) ?_;refine bc 10 5 63 rfl ?_;refine iv (χ:=List Value) (val:=fun x=> .tuple #[.agg x.toArray, .bool ((jp g D.1).2)]) (js:=fun x=>[Qg cc x ((jp g D.1).1)]) (Qo Mi rfl) (fun W u=>xy W _ g _ D.1 (fx (x:=g) (u.rdSI (n:=0) rfl) (u.rdSI (n:=5) rfl) (u.rdSI (n:=6) rfl) (u.rdSI (n:=7) rfl) (u.rdSI (n:=8) rfl)) (sk (x:=D.1) (u.rdSI (n:=1) rfl)) hsm (by first|exact cP hsd|exact oo hqf|exact hus|(rw[r0];exact oo (ov _ _ _)))) (Qf rfl) (by decide) (fun _=>?_);refine gy ?_;rintro⟨_,_,_,_,_⟩ rfl;refine fm 0 ?_;rintro S0 u1 rfl c4;refine fm 1 ?_;rintro T0 v1 rfl d4;refine fm 2 ?_;rintro U0 w1 rfl e4;refine fm 3 ?_;rintro V0 y1 rfl g4;refine fm 4 ?_;rintro W0 z1 rfl h4;refine aq (pn 16 [9,10,11,12,13,14,15]) (pn 16 [8,9,10,11,12,13,14,15]) ?_;refine ae 10 6 127 rfl ap ?_;refine ae 10 7 255 rfl (fun W u=>fb rfl rfl) ?_;refine tk 10 8 511 rfl (fun W=>fb rfl rfl) ?_;refine bc 10 9 1023 rfl ?_;let b2:List Value:=[.slice S0 (((jp g D.1).1).d.a).length u1,iV (((jp g D.1).1).d.e),iV (((jp g D.1).1).l), .slice T0 (((jp g D.1).1).k).length v1, .slice U0 (((jp g D.1).1).c).length w1, .slice V0 (((jp g D.1).1).f).length y1, .slice W0 (((jp g D.1).1).j).length z1,iV (((jp g D.1).1).n)];refine eu (p:=e0) (o:=0) (cs':=b2) (fun w u=>u.front (n:=8) rfl) Qv rfl (Nat.le_of_ble_eq_true rfl) rfl rfl rfl rfl (Qf rfl) ?_;refine ik (pn 16 [9,10,11,12,13,14,15]) ?_;refine fr (by kernel_rfl) ?_;refine bq (Qj (ao ?_));refine wv (fun W u=>Qw (cs:=b2) Qs Qv rfl rfl (u.boxCells (n:=0) rfl)) ?_;refine eu (p:=J) (o:=0) (cs':=b2) (fun w u=>u.front (n:=9) rfl) Qv rfl (Nat.le_of_ble_eq_true rfl) rfl rfl rfl rfl (Qf rfl) ?_;refine bb (bq (Qj (ao (wm ?_))));refine wv (fun W u=>ph rfl rfl) ?_;refine wa (bb ?_);exact bu (K+1,((IntKind.i64.wrap (F-1)),D.2.i,D.2.h,((jp g D.1).1)),(S0,u1,T0,v1,U0,w1,V0,y1,W0,z1)) eo (pn 16 [9,0,2,3,4,5,6,14,15]) ⟨(show(K+1)+(((IntKind.i64.wrap (F-1))).toNat)+1<=(C.1).toNat+1 from by omega),oy n0 (by subst c0 j0 r0;exact Qc p0 (Qe q0 (Qe i0 (Qc m0 (rfl))))),(show iu ((jp g D.1).1) from by first|exact aY A|exact uh A (by first|exact oo hqf|(subst_vars;exact oo (ov _ _ _)))|exact ul A _|exact ui A _),(show 0<=(IntKind.i64.wrap (F-1)) from by omega),(show(IntKind.i64.wrap (F-1))<=14 from by omega)⟩ (show(C.1).toNat+1-(K+1)<(C.1).toNat+1-K from by omega)
   refine ah rfl m0 ?_;refine sr ?_;refine wv (fun W u=>ed rfl rfl) ?_;refine wa (aa ?_);rcases fg r.1 3 with⟨k3,s0⟩|⟨k3,s0⟩
   ·refine Qr rfl s0 ?_;refine im 8 [7] (s:=(Qa J 39 K5::A0::iS Qb 3 S Y g.k::iS Qu 61 T Z g.c::iS bg 80 U a0 g.f::iS be 102 V b0 g.j::o0)) (s2:=y) (pn 10 [2,3,4,5,6,7,8,9]) (pn 10 [1,2,3,4,5,6,7,8,9]) ?_;refine ae 8 0 1 rfl (fun W u=>Qw (cs:=K5) Qs Qv rfl rfl (u.boxCells (n:=1) rfl)) ?_;refine ae 8 1 3 rfl ap ?_;refine bc 8 2 7 rfl ?_;refine dr (χ:=Unit) (val:=fun x=>iV ((Qd b r.2 6).1)) (js:=fun x=>(Qa p 177 [.slice A2 b.length c3,nI (((Qd b r.2 6).2).i),iV ((Qd b r.2 6).2).h]::y)) (Qo iw rfl) (fun W u=>iy B w0 y W p _ b r.2 r5 6 O (u.front (n:=0) rfl)) (Qf rfl) (by decide) (fun _=>?_);have hb:=gv b r.2 6;refine aq (pn 10 [2,3,4,5,6,7,8,9]) (pn 10 [1,2,3,4,5,6,7,8,9]) ?_;refine bc 8 3 15 rfl ?_;refine iv (χ:=List Value) (val:=fun x=> .tuple #[.agg x.toArray, .bool ((jn g ((Qd b r.2 6).1)).2)]) (js:=fun x=>[Qg cc x ((jn g ((Qd b r.2 6).1)).1)]) (Qo Mh rfl) (fun W u=>xi W _ g ((Qd b r.2 6).1) (fx (x:=g) (u.rdSI (n:=3) rfl) (u.rdSI (n:=4) rfl) (u.rdSI (n:=5) rfl) (u.rdSI (n:=6) rfl) (u.rdSI (n:=7) rfl)) hsm) (Qf rfl) (by decide) (fun _=>?_);refine gy ?_;rintro⟨_,_,_,_,_⟩ rfl;refine fm 0 ?_;rintro X0 A1 rfl i4;refine fm 1 ?_;rintro Y0 B1 rfl j4;refine fm 2 ?_;rintro Z0 C1 rfl k4;refine fm 3 ?_;rintro a1 D1 rfl l4;refine fm 4 ?_;rintro b1 E1 rfl m4;refine aq (pn 15 [7,8,9,10,11,12,13,14]) (pn 15 [6,7,8,9,10,11,12,13,14]) ?_;refine ae 8 4 31 rfl ap ?_;refine ae 8 5 63 rfl (fun W u=>fb rfl rfl) ?_;refine tk 8 6 127 rfl (fun W=>fb rfl rfl) ?_;refine bc 8 7 255 rfl ?_;let c2:List Value:=[.slice X0 (((jn g ((Qd b r.2 6).1)).1).d.a).length A1,iV (((jn g ((Qd b r.2 6).1)).1).d.e),iV (((jn g ((Qd b r.2 6).1)).1).l), .slice Y0 (((jn g ((Qd b r.2 6).1)).1).k).length B1, .slice Z0 (((jn g ((Qd b r.2 6).1)).1).c).length C1, .slice a1 (((jn g ((Qd b r.2 6).1)).1).f).length D1, .slice b1 (((jn g ((Qd b r.2 6).1)).1).j).length E1,iV (((jn g ((Qd b r.2 6).1)).1).n)];refine eu (p:=e0) (o:=0) (cs':=c2) (fun w u=>u.front (n:=6) rfl) Qv rfl (Nat.le_of_ble_eq_true rfl) rfl rfl rfl rfl (Qf rfl) ?_;refine ik (pn 15 [7,8,9,10,11,12,13,14]) ?_;refine fr (by kernel_rfl) ?_;refine bq (Qj (ao ?_));refine wv (fun W u=>Qw (cs:=c2) Qs Qv rfl rfl (u.boxCells (n:=0) rfl)) ?_;refine eu (p:=J) (o:=0) (cs':=c2) (fun w u=>u.front (n:=7) rfl) Qv rfl (Nat.le_of_ble_eq_true rfl) rfl rfl rfl rfl (Qf rfl) ?_;refine bb (bq (Qj (ao (wm ?_))));refine wv (fun W u=>ph rfl rfl) ?_;refine wa (bb ?_);exact bu (K+1,((IntKind.i64.wrap (F-1)),((Qd b r.2 6).2).i,((Qd b r.2 6).2).h,((jn g ((Qd b r.2 6).1)).1)),(X0,A1,Y0,B1,Z0,C1,a1,D1,b1,E1)) eo (pn 15 [7,0,2,3,4,5,6,13,14]) ⟨(show(K+1)+(((IntKind.i64.wrap (F-1))).toNat)+1<=(C.1).toNat+1 from by omega),oy n0 (by subst c0 j0;exact Qc p0 (Qe q0 (Qe i0 (Qe m0 (Qc s0 (rfl)))))),(show iu ((jn g ((Qd b r.2 6).1)).1) from by first|exact aY A|exact uh A (by first|exact oo hqf|(subst_vars;exact oo (ov _ _ _)))|exact ul A _|exact ui A _),(show 0<=(IntKind.i64.wrap (F-1)) from by omega),(show(IntKind.i64.wrap (F-1))<=14 from by omega)⟩ (show(C.1).toNat+1-(K+1)<(C.1).toNat+1-K from by omega)
   refine ah rfl s0 ?_;refine ao ?_;refine wv (fun W u=>Qw (cs:=K5) Qs Qv rfl rfl (u.boxCells (n:=2) rfl)) ?_;refine iv (χ:=List Value) (val:=fun x=> .tuple #[.agg x.toArray, .bool ((ly g).2)]) (js:=fun x=>[Qg cc x ((ly g).1)]) (Qo Nj rfl) (fun W u=>Hg W _ g (fx (x:=g) (u.rdSI (n:=3) rfl) (u.rdSI (n:=4) rfl) (u.rdSI (n:=5) rfl) (u.rdSI (n:=6) rfl) (u.rdSI (n:=7) rfl)) hsm) (Qf rfl) (by decide) (fun _=>?_);refine gy ?_;rintro⟨_,_,_,_,_⟩ rfl;refine fm 0 ?_;rintro d1 G1 rfl n4;refine fm 1 ?_;rintro e1 H1 rfl o4;refine fm 2 ?_;rintro g1 I1 rfl p4;refine fm 3 ?_;rintro h1 J1 rfl r4;refine fm 4 ?_;rintro i1 M1 rfl s4;refine wm ?_;refine wv (fun W u=>fb rfl rfl) ?_;refine wv (fun W u=>fb rfl rfl) ?_;let d2:List Value:=[.slice d1 (((ly g).1).d.a).length G1,iV (((ly g).1).d.e),iV (((ly g).1).l), .slice e1 (((ly g).1).k).length H1, .slice g1 (((ly g).1).c).length I1, .slice h1 (((ly g).1).f).length J1, .slice i1 (((ly g).1).j).length M1,iV (((ly g).1).n)];refine eu (p:=e0) (o:=0) (cs':=d2) (fun w u=>u.front (n:=6) rfl) Qv rfl (Nat.le_of_ble_eq_true rfl) rfl rfl rfl rfl (Qf rfl) ?_;refine bb (bq (Qj (ao ?_)));refine wv (fun W u=>Qw (cs:=d2) Qs Qv rfl rfl (u.boxCells (n:=0) rfl)) ?_;refine eu (p:=J) (o:=0) (cs':=d2) (fun w u=>u.front (n:=7) rfl) Qv rfl (Nat.le_of_ble_eq_true rfl) rfl rfl rfl rfl (Qf rfl) ?_;refine bb (bq (Qj (ao (wm ?_))));refine wv (fun W u=>ph rfl rfl) ?_;refine wa (bb ?_);exact bu (K+1,((IntKind.i64.wrap (F-1)),r.2.i,r.2.h,((ly g).1)),(d1,G1,e1,H1,g1,I1,h1,J1,i1,M1)) eo (pn 15 [7,0,2,3,4,5,6,13,14]) ⟨(show(K+1)+(((IntKind.i64.wrap (F-1))).toNat)+1<=(C.1).toNat+1 from by omega),oy n0 (by subst c0 j0;exact Qc p0 (Qe q0 (Qe i0 (Qe m0 (Qe s0 (rfl)))))),(show iu ((ly g).1) from by first|exact aY A|exact uh A (by first|exact oo hqf|(subst_vars;exact oo (ov _ _ _)))|exact ul A _|exact ui A _),(show 0<=(IntKind.i64.wrap (F-1)) from by omega),(show(IntKind.i64.wrap (F-1))<=14 from by omega)⟩ (show(C.1).toNat+1-(K+1)<(C.1).toNat+1-K from by omega)
  refine ah rfl p0 ?_;refine dj (av (av (dk ?_)));exact lr ((F,k0,l0,g),(g0,h0,S,Y,T,Z,U,a0,V,b0)) jd ai (ro n0 (by subst c0;exact Qe p0 (rfl)))
 rintro⟨⟨F,k0,l0,g⟩,⟨g0,h0,S,Y,T,Z,U,a0,V,b0⟩⟩ j1;dsimp only at j1;let Q2:List Value:=[.slice A2 b.length c3,nI k0,iV l0];let t0:List Value:=[.slice g0 g.d.a.length h0,iV g.d.e,iV g.l, .slice S g.k.length Y, .slice T g.c.length Z, .slice U g.f.length a0, .slice V g.j.length b0,iV g.n];let I2:It:=iS (ab Qp 163) 100 g0 h0 g.d.a;show QM 67 _ _ _ .normal [(4,bp p7),(5,bp J)] (Qa p 177 Q2::Qa J 39 t0::I2::iS Qb 3 S Y g.k::iS Qu 61 T Z g.c::iS bg 80 U a0 g.f::iS be 102 V b0 g.j::o0);refine Qj (sr ?_);refine wv (fun W u=>Qw (cs:=t0) Qs Qv rfl rfl (u.boxCells (n:=1) rfl)) ?_;refine eu (p:=p7) (o:=0) (cs':=t0) (fun w u=>u.front (n:=8) rfl) Qv rfl (Nat.le_of_ble_eq_true rfl) rfl rfl rfl rfl (Qf rfl) ?_;refine aa (Ql ?_);let O2:List It:=Qa p7 39 t0::Qa p 177 Q2::Qa J 39 t0::F2::is;refine bz (js:=(Qg cc t0 g::O2)) (fun W u=>Mem.join (is:=[I2,iS Qb 3 S Y g.k,iS Qu 61 T Z g.c,iS bg 80 U a0 g.f,iS be 102 V b0 g.j]) (js:=O2) (fun _ _ hs=>fz (x:=g) hs) (u.pickN 9 [3,4,5,6,7,0,1,2,8] (by decide))) ?_;have E0:=(show bl b M x1=(g,(⟨k0,l0⟩:ar)) from by subst c0;exact ca j1 (rfl));refine fj rfl (cr (n:=1) rfl rfl Qs Qv rfl) (fun W u=>⟨t0,?_,?_⟩)
 ·first|rw[E0]|rfl
 rw[E0];exact(u.pickN 5 [0,2] (by decide))
def mg  : (List (List Int)):=
 [[0,1,2],[0,2,1],[1,0,2],[1,2,0],[2,0,1],[2,1,0]]
theorem Ab:Cb Tryz.prog 175:=⟨f175,_,func175,rfl,by decide⟩
theorem Ib (w:World)  :
 Calls Tryz.prog 175 #[] w (rL w (ab (ab Qb 3) 25) (mg)):=by
 refine Ok (L:=[]) (N:=8) func175 ?_;refine sr (wa (aa (sr ?_)));refine eb (cs:=[iV 0,iV 1,iV 2]) Qt Qh rfl (by decide) (by decide) rfl (by kernel_rfl) (Qf rfl) (by decide) (fun d=>?_);refine eb (cs:=[iV 0,iV 2,iV 1]) Qt Qh rfl (by decide) (by decide) rfl (by kernel_rfl) (Qf rfl) (by decide) (fun e=>?_);refine eb (cs:=[iV 1,iV 0,iV 2]) Qt Qh rfl (by decide) (by decide) rfl (by kernel_rfl) (Qf rfl) (by decide) (fun f=>?_);refine eb (cs:=[iV 1,iV 2,iV 0]) Qt Qh rfl (by decide) (by decide) rfl (by kernel_rfl) (Qf rfl) (by decide) (fun g=>?_);refine eb (cs:=[iV 2,iV 0,iV 1]) Qt Qh rfl (by decide) (by decide) rfl (by kernel_rfl) (Qf rfl) (by decide) (fun h=>?_);refine eb (cs:=[iV 2,iV 1,iV 0]) Qt Qh rfl (by decide) (by decide) rfl (by kernel_rfl) (Qf rfl) (by decide) (fun i=>?_);let K1:List Value:=[.slice (sA d) 3 3, .slice (sA e) 3 3, .slice (sA f) 3 3, .slice (sA g) 3 3, .slice (sA h) 3 3, .slice (sA i) 3 3];refine eb (cs:=K1) underlying191 cg rfl (by decide) (by decide) rfl (by kernel_rfl) (Qf rfl) (by decide) (fun c=>?_);refine wa (aa (Ql ?_));refine bz (fun W a=>Mem.litOwn (E:=Qb) (xs:=[0,1,2]) rfl (show 3<=maxLen from by decide) (fun _=>(eg (E:=Qb) (L1:=[]) cw (eg (E:=Qb) (L1:=[]) cw (eg (E:=Qb) (L1:=[]) cw ix)))) (a.pick [6,0,1,2,3,4,5] (by decide))) ?_;refine bz (fun W a=>Mem.litOwn (E:=Qb) (xs:=[0,2,1]) rfl (show 3<=maxLen from by decide) (fun _=>(eg (E:=Qb) (L1:=[]) cw (eg (E:=Qb) (L1:=[]) cw (eg (E:=Qb) (L1:=[]) cw ix)))) (a.pick [6,0,1,2,3,4,5] (by decide))) ?_;refine bz (fun W a=>Mem.litOwn (E:=Qb) (xs:=[1,0,2]) rfl (show 3<=maxLen from by decide) (fun _=>(eg (E:=Qb) (L1:=[]) cw (eg (E:=Qb) (L1:=[]) cw (eg (E:=Qb) (L1:=[]) cw ix)))) (a.pick [6,0,1,2,3,4,5] (by decide))) ?_;refine bz (fun W a=>Mem.litOwn (E:=Qb) (xs:=[1,2,0]) rfl (show 3<=maxLen from by decide) (fun _=>(eg (E:=Qb) (L1:=[]) cw (eg (E:=Qb) (L1:=[]) cw (eg (E:=Qb) (L1:=[]) cw ix)))) (a.pick [6,0,1,2,3,4,5] (by decide))) ?_;refine bz (fun W a=>Mem.litOwn (E:=Qb) (xs:=[2,0,1]) rfl (show 3<=maxLen from by decide) (fun _=>(eg (E:=Qb) (L1:=[]) cw (eg (E:=Qb) (L1:=[]) cw (eg (E:=Qb) (L1:=[]) cw ix)))) (a.pick [6,0,1,2,3,4,5] (by decide))) ?_;refine bz (fun W a=>Mem.litOwn (E:=Qb) (xs:=[2,1,0]) rfl (show 3<=maxLen from by decide) (fun _=>(eg (E:=Qb) (L1:=[]) cw (eg (E:=Qb) (L1:=[]) cw (eg (E:=Qb) (L1:=[]) cw ix)))) (a.pick [6,0,1,2,3,4,5] (by decide))) ?_;refine bz (js:=(Qg (ab (ab Qb 3) 25) [.slice (sA c) 6 6] [[0,1,2],[0,2,1],[1,0,2],[1,2,0],[2,0,1],[2,1,0]]::[])) (fun W a=>Mem.join (is:=(Qa c 25 K1::[Qg (ab Qb 3) [.slice (sA d) 3 3] [0,1,2],Qg (ab Qb 3) [.slice (sA e) 3 3] [0,2,1],Qg (ab Qb 3) [.slice (sA f) 3 3] [1,0,2],Qg (ab Qb 3) [.slice (sA g) 3 3] [1,2,0],Qg (ab Qb 3) [.slice (sA h) 3 3] [2,0,1],Qg (ab Qb 3) [.slice (sA i) 3 3] [2,1,0]])) (js:=[]) (Eh (bG (bG (bG (bG (bG (bG Bn))))))) (a.pick [6,5,4,3,2,1,0] (by decide))) ?_;have b:=(show mg  = [[0,1,2],[0,2,1],[1,0,2],[1,2,0],[2,0,1],[2,1,0]] from rfl);refine fj rfl (cz rfl) (fun W a=>⟨.slice (sA c) 6 6,?_,?_⟩)
 ·first|rw[b]|rfl
 rw[b];exact a
theorem iK (k:Nat) (h:k<6):(gt mg k).length=3:=by
 have:k=0∨k=1∨k=2∨k=3∨k=4∨k=5:=by omega
 rcases this with rfl|rfl|rfl|rfl|rfl|rfl <;>rfl
def mk (a:List Int) (b:ar):((List Int)×ar):=
 cond ((fi a ((Qd a b 6).2) 12).1) (((gt mg (((Qd a b 6).1).toNat)).set 0 (cv a (fi a ((Qd a b 6).2) 12).2 [(-1),0,3]).1),(cv a (fi a ((Qd a b 6).2) 12).2 [(-1),0,3]).2) ((gt mg (((Qd a b 6).1).toNat)),(fi a ((Qd a b 6).2) 12).2)
theorem fJ:Cb Tryz.prog 118:=⟨f118,_,func118,rfl,by decide⟩
theorem kT (B:Nat) (F:World) (is:List It) (w:World) (p:Nat) (z0:Value) (a:List Int) (b:ar) (Z:ce mn F B z0 a) (o:a.length<=68719476736) (d:Mem B F (Qa p 177 [z0,nI b.i,iV b.h]::is) w):
 Calls Tryz.prog 118 #[.pointer (sA p)] w fun e w'=>∃ x:Value,e= .returned (x)∧Mem B F (Qg (ab Qb 3) [x] ((mk a b).1)::Qa p 177 [z0,nI (((mk a b).2).i),iV ((mk a b).2).h]::is) w':=by
 obtain⟨_,z,D,rfl,_,Y⟩:=Qn Z;refine nv (L:=[(0, .pointer (sA p))]) (N:=19) func118 rfl rfl (Nat.le_of_ble_eq_true rfl) (jl rfl mi) d ?_;have:a.length<=68719476736:=o;have:mg.length=6:=rfl;refine sr (wa (aa (sr ?_)));refine ez (E:=Qb) Qt Qh (Qf rfl) (by decide) (fun p7=>?_);refine lg (ab (ab Qb 3) 25) mg (Qo Ab rfl) (fun W d=>Ib W ) (fun _=>?_);refine fm 0 ?_;rintro T v rfl c0;refine wm ?_;let I3:It:=Qg (ab Qb 3) [.slice (sA p7) 0 0] [];let J8:List It:=iS (ab Qb 3) 25 T v mg::I3::is;refine dr (χ:=Unit) (val:=fun x=>iV ((Qd a b 6).1)) (js:=fun x=>(Qa p 177 [.slice z a.length D,nI (((Qd a b 6).2).i),iV ((Qd a b 6).2).h]::J8)) (Qo iw rfl) (fun W d=>iy B F J8 W p _ a b Y 6 o (d.front (n:=2) rfl)) (Qf rfl) (by decide) (fun _=>?_);have hb:=gv a b 6;have U:=iK (Qd a b 6).1.toNat (by omega);have:([]++gt mg (Qd a b 6).1.toNat).length=3:=U;refine my (n:=1) rfl (by omega) ?_;rintro M rfl;refine wv (fun W d=>gx (sz:=1) (k:=(Qd a b 6).1) underlying191 cg rfl rfl rfl (by omega) (by omega)) ?_;let K1:List Value:=[.slice z a.length D,nI (((Qd a b 6).2).i),iV (((Qd a b 6).2).h)];refine pj (E:=(ab Qb 3)) (e:=25) (A:=(sA M)) (n:=mg.length) (c:=v) (xs:=mg) (k:=(((Qd a b 6).1).toNat)) (js:=(Qa p 177 K1::I3::is)) (by omega) (fun W d=>(d.front (n:=1) rfl)) (fun K=>?_);refine nn (γ:=Value) (js:=fun g=>[Qg (ab Qb 3) [g] (gt mg (((Qd a b 6).1).toNat))]) (C:=fun g=>K=[g]) (fun _ _ h=>pt h) ?_;rintro _ rfl;refine fm 0 ?_;rintro H J rfl d0;refine wv (fun W d=>ci Qt rfl rfl (d.focInt (i:=1) rfl rfl)) ?_;let K2:List Value:=[.slice H (gt mg (((Qd a b 6).1).toNat)).length J];let P:It:=iS Qb 3 H J (gt mg (((Qd a b 6).1).toNat));let R:It:=ey (ab Qb 3) 25 (sA M) mg.length v mg (((Qd a b 6).1).toNat) K2;refine fu Qb Qb 3 (.slice (sA p7) 0 0) [] (gt mg (((Qd a b 6).1).toNat)) (P::R::Qa p 177 K1::is) (fun W d=>(d.front (n:=3) rfl)) (fun W d=>fw ft (d.rdSI (n:=0) rfl)) Qt Qh (show(0+(gt mg (((Qd a b 6).1).toNat)).length)*8<=140737488355328 from by omega) (fun _=>?_);refine fm 0 ?_;rintro I y rfl e0;refine wa (aa (Qi (sr (wm ?_))));let I6:It:=iS Qb 3 I y (gt mg (((Qd a b 6).1).toNat));let S:List It:=I6::P::R::is;refine dr (χ:=Unit) (val:=fun x=> .bool ((fi a ((Qd a b 6).2) 12).1)) (js:=fun x=>(Qa p 177 [.slice z a.length D,nI (((fi a ((Qd a b 6).2) 12).2).i),iV ((fi a ((Qd a b 6).2) 12).2).h]::S)) (Qo pM rfl) (fun W d=>rZ B F S W p _ a ((Qd a b 6).2) Y 12 o (d.front (n:=3) rfl)) (Qf rfl) (by decide) (fun _=>?_);obtain⟨f,m⟩:∃ G,G=(fi a ((Qd a b 6).2) 12):=⟨_,rfl⟩;rw[<- m];refine aa ?_;rcases bd f.1 with l|l
 ·refine Qr rfl l ?_;refine ao (wm (wm ?_));refine eb (cs:=[iV (-1),iV 0,iV 3]) Qt Qh rfl (by decide) (by decide) rfl (by kernel_rfl) (Qf rfl) (by decide) (fun X=>?_);refine il (fun W d=>Mem.litOwn (E:=Qb) (xs:=[(-1),0,3]) rfl (show 3<=maxLen from by decide) (fun _=>(eg (E:=Qb) (L1:=[]) cw (eg (E:=Qb) (L1:=[]) cw (eg (E:=Qb) (L1:=[]) cw ix)))) (d.front (n:=0) rfl)) ?_;let I7:It:=Qg (ab Qb 3) [.slice (sA X) 3 3] [(-1),0,3];refine dr (χ:=Unit) (val:=fun x=>iV ((cv a f.2 [(-1),0,3]).1)) (js:=fun x=>(Qa p 177 [.slice z a.length D,nI (((cv a f.2 [(-1),0,3]).2).i),iV ((cv a f.2 [(-1),0,3]).2).h]::I7::S)) (Qo py rfl) (fun W d=>qi B F S W p _ a f.2 Y _ [(-1),0,3] o (Nat.le_of_ble_eq_true rfl) (by first|decide|exact Nat.succ_pos _) ((d.front (n:=0) rfl).front (n:=1) rfl)) (Qf rfl) (by decide) (fun _=>?_);obtain⟨j,r⟩:∃ G,G=(cv a f.2 [(-1),0,3]):=⟨_,rfl⟩;rw[<- r];refine my (n:=2) rfl (by omega) ?_;rintro O rfl;refine wv (bv 1 0 Qt Qh) ?_;refine ze (E:=Qb) (e:=3) (u:=iV j.1) (k:=0) (p:=O) (n:=(gt mg (((Qd a b 6).1).toNat)).length) (xs:=(gt mg (((Qd a b 6).1).toNat))) (eis:=[]) (js:=(Qa p 177 [.slice z a.length D,nI j.2.i,iV j.2.h]::I7::P::R::is)) (yv:=j.1) (fun W d=>(d.front (n:=2) rfl)) (fun _ _ V=>(Sep.nil V ▸ cw)) rfl Qh rfl (by omega) rfl rfl (Qf rfl) ?_;refine aa (Qi ?_);refine ek (pn 5 [0,1]) ?_;refine ao (wm (wa (aa (Ql ?_))));have s:=(show mk a b=(((gt mg (((Qd a b 6).1).toNat)).set 0 j.1),j.2) from by subst m r;exact Qc l (rfl));refine fj rfl (cz rfl) (fun W d=>⟨.slice (sA O) (gt mg (((Qd a b 6).1).toNat)).length y,?_,?_⟩)
  ·first|rw[s]|rfl
  rw[s];exact d
 refine ah rfl l ?_;refine an (Qj (sr (wm (wa (aa (Ql ?_))))));refine bz (fun W d=>Mem.unfocus0 (Mem.join (is:=[P]) (js:=(R::(Qa p 177 [.slice z a.length D,nI f.2.i,iV f.2.h]::I6::is))) (fun _ _ V=>Sep.one V) ((d.front (n:=3) rfl).front (n:=3) rfl))) ?_;have t:=(show mk a b=((gt mg (((Qd a b 6).1).toNat)),f.2) from by subst m;exact Qe l (rfl));refine fj rfl (cz rfl) (fun W d=>⟨.slice I (gt mg (((Qd a b 6).1).toNat)).length y,?_,?_⟩)
 ·first|rw[t]|rfl
 rw[t];exact(((d.front (n:=1) rfl).front (n:=2) rfl).front (n:=2) rfl).tail
theorem dN {x:Qk} {i:Int} (h:decide (0<=da x i)=false):∀ j,j<x.c.length->(gt x.c j).g.Id≠i:=by
 have a:=of_decide_eq_false h;unfold da at a;have hr:ax (R:=Int) (fun k (_:Unit)=>nb x i k) (x.c.length-0) 0 ()= .inr ():=by
  rcases tx (P:=fun(r:Int)=>0<=r) (n:=x.c.length) (b:=fun k (_:Unit)=>nb x i k) (fun j hj=>by
   show(∃ r,nb x i j=_∧_)∨nb x i j=_;unfold nb;cases (gt x.c j).g.Id==i
   ·exact .inr rfl
   exact .inl ⟨_,rfl,Int.natCast_nonneg _⟩) (x.c.length-0) 0 (by omega) with⟨r,e,hp⟩|e
  ·rw[e] at a;exact absurd hp a
  exact e
 intro j hj e;have hb:nb x i j= .inr ():=qT _ _ hr j (Nat.zero_le _) (by omega);unfold nb at hb;rw[beq_iff_eq.2 e] at hb;cases hb
theorem Ks {v w:Qx} (h:nc v w=true):nc w v=true:=by
 rw[aU,decide_eq_true_eq] at h ⊢;omega
theorem nU {α:Type} [Inhabited α] {l:List α} {i:Nat} (h:i<l.length) (y:α):∃ a b,l=a++gt l i::b∧l.set i y=a++y::b:=by
 refine⟨l.take i,l.drop (i+1),?_,?_⟩
 ·rw[gj h,List.getElem_cons_drop];exact(List.take_append_drop i l).symm
 rw[List.set_eq_take_append_cons_drop,if_pos h]
theorem Gf {S:List (List Qx)} {i k:Nat} (hi:i<S.length) (hk:k<(gt S i).length) (v':Qx):∃ L,S.flatten.Perm (gt (gt S i) k::L)∧(S.set i ((gt S i).set k v')).flatten.Perm (v'::L):=by
 obtain⟨a,b,f,g⟩:=nU hi ((gt S i).set k v');obtain⟨c,d,f1,f2⟩:=nU hk v';have e:=congrArg List.flatten f;generalize gt (gt S i) k=v at f1 ⊢;rw[f1] at e;refine⟨(a.flatten++c)++(d++b.flatten),?_,?_⟩
 ·rw[e,show(a++(c++v::d)::b).flatten=(a.flatten++c)++v::(d++b.flatten) by simp];exact List.perm_middle
 rw[g,f2,show(a++(c++v'::d)::b).flatten=(a.flatten++c)++v'::(d++b.flatten) by simp];exact List.perm_middle
theorem jP {S:List (List Qx)} {j:Nat} (hj:j<S.length) (n:Qx):(S.set j (gt S j++[n])).flatten.Perm (n::S.flatten):=by
 obtain⟨a,b,c,d⟩:=nU hj (gt S j++[n]);have e:=congrArg List.flatten c;rw[d,e,show(a++(gt S j++[n])::b).flatten=(a.flatten++gt S j)++n::b.flatten by simp,show(a++gt S j::b).flatten=(a.flatten++gt S j)++b.flatten by simp];exact List.perm_middle
theorem qY {S:List (List Qx)} {i:Nat} {s':List Qx} (hi:i<S.length) (f:Qx->Bool) (h:kq f s'=kq f (gt S i)):(S.set i s').flatMap (kq f)=S.flatMap (kq f):=by
 obtain⟨a,b,c,d⟩:=nU hi s';have e:=congrArg (List.flatMap (kq f)) c;rw[d,e];simp only[List.flatMap_append,List.flatMap_cons,h]
theorem bV (f:Qx->Bool) (s t:List Qx):kq f (s++t)=kq f s++kq f t:=by
 unfold kq;rw[List.filter_append,List.map_append]
theorem qX {f:Qx->Bool} {n:Qx} (h:f n=false):kq f [n]=[]:=by
 unfold kq;rw[List.filter_cons,h];rfl
theorem jO {f:Qx->Bool} {n:Qx} (h:f n=true):kq f [n]=[⟨n.Id,n.m⟩]:=by
 unfold kq;rw[List.filter_cons,h];rfl
theorem Gd {f:Qx->Bool} {s:List Qx} {k:Nat} (hk:k<s.length) {t:Int} (h:f ⟨(gt s k).Id,(gt s k).m,(gt s k).w,t⟩=f (gt s k)):kq f (s.set k ⟨(gt s k).Id,(gt s k).m,(gt s k).w,t⟩)=kq f s:=by
 obtain⟨a,b,c,d⟩:=nU hk ⟨(gt s k).Id,(gt s k).m,(gt s k).w,t⟩;have e:=congrArg (kq f) c;rw[d,e, <- List.singleton_append, <- List.singleton_append (l:=b),bV,bV,bV,bV]
 congr 2
 cases hf:f (gt s k) with
 |true=>rw[jO hf,jO (by rw[h];exact hf)]
 |false=>rw[qX hf,qX (by rw[h];exact hf)]
def lX (x:Qy) (id:Int) (r:Int×Int):Prop:=0<=r.1∧r.1.toNat<x.a.length∧r.2.toNat<(gt x.a r.1.toNat).length∧(gt (gt x.a r.1.toNat) r.2.toNat).Id=id∧(gt (gt x.a r.1.toNat) r.2.toNat).x= -1
theorem uR (x:Qy) (id:Int):((ag x id).1<0∧∀ w∈x.a.flatten,w.Id=id->w.x ≠ -1)∨lX x id (ag x id):=by
 have inner:∀ i,i<x.a.length->(rm x id i= .inr ()∧∀ q,q<(gt x.a i).length->(gt (gt x.a i) q).Id=id->(gt (gt x.a i) q).x ≠ -1)∨∃ r,rm x id i= .inl r∧lX x id r:=by
  intro i hi;unfold rm
  have key:=wl (n:=(gt x.a i).length) (body:=fun k (_:Unit)=>tg x id i k) (fun k (_:Unit)=>∀ q,q<k->(gt (gt x.a i) q).Id=id->(gt (gt x.a i) q).x ≠ -1) (lX x id) (fun k s hk hJ=>by
   show(∃ s',tg x id i k= .inr s'∧_)∨∃ r,tg x id i k= .inl r∧_;unfold tg
   by_cases b:(gt (gt x.a i) k).Id=id
   ·by_cases c:(gt (gt x.a i) k).x= -1
    ·refine .inr ⟨(((i:Nat):Int),((k:Nat):Int)),?_,?_⟩
     ·rw[beq_iff_eq.2 b,beq_iff_eq.2 c];rfl
     unfold lX;simp only[Int.toNat_natCast];exact⟨by omega,hi,hk,b,c⟩
    refine .inl ⟨(),?_,fun q hq=>?_⟩
    ·rw[beq_iff_eq.2 b,beq_eq_false_iff_ne.2 c];rfl
    rcases Nat.lt_succ_iff_lt_or_eq.1 hq with h|rfl
    ·exact hJ q h
    exact fun _=>c
   refine .inl ⟨(),?_,fun q hq=>?_⟩
   ·rw[beq_eq_false_iff_ne.2 b];rfl
   rcases Nat.lt_succ_iff_lt_or_eq.1 hq with h|rfl
   ·exact hJ q h
   exact fun h'=>absurd h' b) ((gt x.a i).length-0) 0 () (by omega) (fun q hq=>absurd hq (by omega))
  rcases key with⟨s',e,h⟩|⟨r,e,h⟩
  ·rw[e];exact .inl ⟨rfl,h⟩
  rw[e];exact .inr ⟨r,rfl,h⟩
 have key:=wl (n:=x.a.length) (body:=fun k (_:Unit)=>rm x id k) (fun k (_:Unit)=>∀ p,p<k->∀ q,q<(gt x.a p).length->(gt (gt x.a p) q).Id=id->(gt (gt x.a p) q).x ≠ -1) (lX x id) (fun k s hk hJ=>by
  show(∃ s',rm x id k= .inr s'∧_)∨∃ r,rm x id k= .inl r∧_;rcases inner k hk with⟨e,h⟩|⟨r,e,h⟩
  ·refine .inl ⟨(),e,fun p hp=>?_⟩;rcases Nat.lt_succ_iff_lt_or_eq.1 hp with h'|rfl
   ·exact hJ p h'
   exact h
  exact .inr ⟨r,e,h⟩) (x.a.length-0) 0 () (by omega) (fun p hp=>absurd hp (by omega))
 unfold ag;rcases key with⟨s',e,h⟩|⟨r,e,h⟩
 ·rw[e];refine .inl ⟨(by show(-1:Int)<0;decide),fun w hw=>?_⟩;obtain⟨s,d,hw⟩:=List.mem_flatten.1 hw;obtain⟨p,hp,rfl⟩:=List.mem_iff_getElem.1 d;obtain⟨q,hq,rfl⟩:=List.mem_iff_getElem.1 hw;have:=h p hp q (by rw[gj hp];exact hq);rw[gj hp] at this;rw[gj hq] at this;exact this
 rw[e];exact .inr h
def Nz (x:Qy) (u:dp) (y:Qy):Prop:=
 y.e=x.e+1∧x.e<100000∧y.a.length=x.a.length∧(∀ s∈y.a,s.length<=4) ∧
 (∀ t:Int,t<=x.e->y.a.flatMap (kq fun v=>ri v t)=x.a.flatMap (kq fun v=>ri v t)) ∧
 ∃ (o nw L:List Qx),x.a.flatten.Perm (o++L)∧y.a.flatten.Perm (nw++(o.map (fun v=>(⟨v.Id,v.m,v.w,x.e+1⟩:Qx))++L))∧(∀ w∈L,w.Id=u.Row.Id->w.x ≠ -1) ∧
  (∀ v∈o,v.Id=u.Row.Id∧v.x= -1) ∧
  ((u.Kind=1∧o=[]∧nw=[⟨u.Row.Id,u.Row.m,x.e+1, -1⟩])∨(u.Kind=2∧(∃ v,o=[v])∧nw=[])∨(u.Kind=3∧∃ v,o=[v]∧nw=[⟨u.Row.Id,v.m.set u.Field.toNat u.Value,x.e+1, -1⟩]))
theorem lN {id b t:Int} {vs:List Int} (h:t<b):ri ⟨id,vs,b, -1⟩ t=false:=by
 show ny _ t=false;rw[mD];exact decide_eq_false (by show ¬ (b<=t∧_);omega)
theorem Kk {v:Qx} {d t:Int} (h:t<d) (hd:v.x= -1):ri ⟨v.Id,v.m,v.w,d⟩ t=ri v t:=by
 show ny _ t=ny _ t;rw[mD,mD];apply decide_eq_decide.2;show(v.w<=t∧(d= -1∨t<d))↔_;omega
theorem jR {S:List (List Qx)} {j:Nat} {n:Qx} (a:∀ s∈S,s.length<=4) (hj:(gt S j).length<4):∀ s∈S.set j (gt S j++[n]),s.length<=4:=fun s b=>by
 rcases List.mem_or_eq_of_mem_set b with h|rfl
 ·exact a s h
 rw[List.length_append];show _+1<=4;omega
theorem wU {x:Qy} {u:dp} (hx:aM x) (h:(ej x u).2=true):qh u=true∧Nz x u (ej x u).1:=by
 have c:=(la x).2 hx;obtain⟨⟨_,_⟩,⟨_,_⟩,o,hv,hp⟩:=hx;cases hu:qh u with
 |false=>unfold ej at h;rw[c,hu] at h;cases h
 |true=>
 refine⟨rfl,?_⟩
 by_cases ht:100000<=x.e
 ·unfold ej at h;rw[c,hu,decide_eq_true ht] at h;cases h
 have hw:IntKind.i64.wrap (x.e+1)=x.e+1:=ia (by omega) (by omega);obtain⟨hk,_,_,_⟩:=nG hu;have j:=xw x;rcases uR x u.Row.Id with⟨f1,f2⟩|⟨z,k,A,B,n⟩
 ·by_cases d:u.Kind=1
  ·by_cases hr:dv x<0
   ·exfalso
    unfold ej at h;rw[c,hu,decide_eq_false ht,decide_eq_true f1,beq_iff_eq.2 d,bne_iff_ne.2 (show u.Kind≠2 by omega),decide_eq_true hr] at h;cases h
   have e:ej x u=(⟨x.a.set (dv x).toNat (gt x.a (dv x).toNat++[⟨u.Row.Id,u.Row.m,x.e+1, -1⟩]),x.e+1⟩,true):=by
    unfold ej;rw[c,hu,decide_eq_false ht,decide_eq_true f1,beq_iff_eq.2 d,bne_iff_ne.2 (show u.Kind≠2 by omega),decide_eq_false hr,decide_eq_false (show ¬ 0<=(ag x u.Row.Id).1 by omega),beq_eq_false_iff_ne.2 (show ¬ u.Kind=3 by omega),hw];rfl
   obtain⟨_,l,y⟩:=j.resolve_left hr;rw[e];refine⟨rfl,by omega,List.length_set,jR o y,fun t ht'=>qY l _ ?_,[],_,x.a.flatten, .refl _,jP l _,f2,(fun v hv=>by cases hv), .inl ⟨d,rfl,rfl⟩⟩;rw[bV,qX (lN (by omega)),List.append_nil]
  exfalso
  unfold ej at h;rw[c,hu,decide_eq_false ht,decide_eq_true f1,beq_eq_false_iff_ne.2 d] at h;cases h
 have hne:∀ v':Qx,∃ L,x.a.flatten.Perm (gt (gt x.a (ag x u.Row.Id).1.toNat) (ag x u.Row.Id).2.toNat::L)∧(x.a.set (ag x u.Row.Id).1.toNat ((gt x.a (ag x u.Row.Id).1.toNat).set (ag x u.Row.Id).2.toNat v')).flatten.Perm (v'::L)∧∀ w∈L,w.Id=u.Row.Id->w.x ≠ -1:=by
  intro v';obtain⟨L,f,g⟩:=Gf k A v';refine⟨L,f,g,fun w hw hid hd=>?_⟩;have p:=(f.pairwise_iff (R:=fun a b=>nc b a=true) (fun h=>Ks h)).1 hp;have:=(List.pairwise_cons.1 p).1 w hw;rw[aU,decide_eq_true_eq] at this;omega
 have hvis:∀ t,t<=x.e->kq (fun v=>ri v t) ((gt x.a (ag x u.Row.Id).1.toNat).set (ag x u.Row.Id).2.toNat ⟨(gt (gt x.a (ag x u.Row.Id).1.toNat) (ag x u.Row.Id).2.toNat).Id,(gt (gt x.a (ag x u.Row.Id).1.toNat) (ag x u.Row.Id).2.toNat).m,(gt (gt x.a (ag x u.Row.Id).1.toNat) (ag x u.Row.Id).2.toNat).w,x.e+1⟩)=kq (fun v=>ri v t) (gt x.a (ag x u.Row.Id).1.toNat):=
  fun t ht'=>Gd A (Kk (by omega) n)
 by_cases d:u.Kind=1
 ·exfalso
  unfold ej at h;rw[c,hu,decide_eq_false ht,decide_eq_false (show ¬ (ag x u.Row.Id).1<0 by omega),beq_iff_eq.2 d] at h;cases h
 have h4':∀ v':Qx,∀ s∈x.a.set (ag x u.Row.Id).1.toNat ((gt x.a (ag x u.Row.Id).1.toNat).set (ag x u.Row.Id).2.toNat v'),s.length<=4:=fun v' s hs'=>by
  rcases List.mem_or_eq_of_mem_set hs' with h'|rfl
  ·exact o s h'
  rw[List.length_set];exact o _ (bt k)
 by_cases k2:u.Kind=2
 ·have e:ej x u=(⟨x.a.set (ag x u.Row.Id).1.toNat ((gt x.a (ag x u.Row.Id).1.toNat).set (ag x u.Row.Id).2.toNat ⟨(gt (gt x.a (ag x u.Row.Id).1.toNat) (ag x u.Row.Id).2.toNat).Id,(gt (gt x.a (ag x u.Row.Id).1.toNat) (ag x u.Row.Id).2.toNat).m,(gt (gt x.a (ag x u.Row.Id).1.toNat) (ag x u.Row.Id).2.toNat).w,x.e+1⟩),x.e+1⟩,true):=by
   unfold ej iq;rw[c,hu,decide_eq_false ht,decide_eq_false (show ¬ (ag x u.Row.Id).1<0 by omega),beq_eq_false_iff_ne.2 d,show(u.Kind !=2)=false from by rw[k2];rfl,decide_eq_true z,beq_eq_false_iff_ne.2 (show ¬ u.Kind=3 by omega),hw];rfl
  obtain⟨L,f,g,r⟩:=hne ⟨(gt (gt x.a (ag x u.Row.Id).1.toNat) (ag x u.Row.Id).2.toNat).Id,(gt (gt x.a (ag x u.Row.Id).1.toNat) (ag x u.Row.Id).2.toNat).m,(gt (gt x.a (ag x u.Row.Id).1.toNat) (ag x u.Row.Id).2.toNat).w,x.e+1⟩;rw[e];exact⟨rfl,by omega,List.length_set,h4' _,fun t ht'=>qY k _ (hvis t ht'),[_],[],L,f,g,r,(fun v hv=>by rw[List.mem_singleton.1 hv];exact⟨B,n⟩), .inr (.inl ⟨k2,⟨_,rfl⟩,rfl⟩)⟩
 have C:u.Kind=3:=by omega
 by_cases hr:dv x<0
 ·exfalso
  unfold ej at h;rw[c,hu,decide_eq_false ht,decide_eq_false (show ¬ (ag x u.Row.Id).1<0 by omega),beq_eq_false_iff_ne.2 d,bne_iff_ne.2 k2,decide_eq_true hr] at h;cases h
 obtain⟨_,l,y⟩:=j.resolve_left hr;have e:ej x u=(⟨(x.a.set (ag x u.Row.Id).1.toNat ((gt x.a (ag x u.Row.Id).1.toNat).set (ag x u.Row.Id).2.toNat ⟨(gt (gt x.a (ag x u.Row.Id).1.toNat) (ag x u.Row.Id).2.toNat).Id,(gt (gt x.a (ag x u.Row.Id).1.toNat) (ag x u.Row.Id).2.toNat).m,(gt (gt x.a (ag x u.Row.Id).1.toNat) (ag x u.Row.Id).2.toNat).w,x.e+1⟩)).set (dv x).toNat (gt (x.a.set (ag x u.Row.Id).1.toNat ((gt x.a (ag x u.Row.Id).1.toNat).set (ag x u.Row.Id).2.toNat ⟨(gt (gt x.a (ag x u.Row.Id).1.toNat) (ag x u.Row.Id).2.toNat).Id,(gt (gt x.a (ag x u.Row.Id).1.toNat) (ag x u.Row.Id).2.toNat).m,(gt (gt x.a (ag x u.Row.Id).1.toNat) (ag x u.Row.Id).2.toNat).w,x.e+1⟩)) (dv x).toNat++[⟨u.Row.Id,(gt (gt x.a (ag x u.Row.Id).1.toNat) (ag x u.Row.Id).2.toNat).m.set u.Field.toNat u.Value,x.e+1, -1⟩]),x.e+1⟩,true):=by
  unfold ej uz iq;rw[c,hu,decide_eq_false ht,decide_eq_false (show ¬ (ag x u.Row.Id).1<0 by omega),beq_eq_false_iff_ne.2 d,bne_iff_ne.2 k2,decide_eq_false hr,decide_eq_true z,beq_iff_eq.2 C,hw];rfl
 obtain⟨L,f,g,r⟩:=hne ⟨(gt (gt x.a (ag x u.Row.Id).1.toNat) (ag x u.Row.Id).2.toNat).Id,(gt (gt x.a (ag x u.Row.Id).1.toNat) (ag x u.Row.Id).2.toNat).m,(gt (gt x.a (ag x u.Row.Id).1.toNat) (ag x u.Row.Id).2.toNat).w,x.e+1⟩;have i:=h4' ⟨(gt (gt x.a (ag x u.Row.Id).1.toNat) (ag x u.Row.Id).2.toNat).Id,(gt (gt x.a (ag x u.Row.Id).1.toNat) (ag x u.Row.Id).2.toNat).m,(gt (gt x.a (ag x u.Row.Id).1.toNat) (ag x u.Row.Id).2.toNat).w,x.e+1⟩;rw[e];generalize hS:x.a.set (ag x u.Row.Id).1.toNat ((gt x.a (ag x u.Row.Id).1.toNat).set (ag x u.Row.Id).2.toNat ⟨(gt (gt x.a (ag x u.Row.Id).1.toNat) (ag x u.Row.Id).2.toNat).Id,(gt (gt x.a (ag x u.Row.Id).1.toNat) (ag x u.Row.Id).2.toNat).m,(gt (gt x.a (ag x u.Row.Id).1.toNat) (ag x u.Row.Id).2.toNat).w,x.e+1⟩)=S at g i ⊢;have hl:S.length=x.a.length:=by rw[<- hS,List.length_set]
 have hg:(gt S (dv x).toNat).length<4:=by rw[<- hS,sy List.length_set];exact y
 have r2':(dv x).toNat<S.length:=by rw[hl];exact l
 refine⟨rfl,by omega,(by show(S.set _ _).length=_;rw[List.length_set,hl]),jR i hg,fun t ht'=>?_,[_],[_],L,f,(jP r2' _).trans (g.cons _),r,(fun v hv=>by rw[List.mem_singleton.1 hv];exact⟨B,n⟩), .inr (.inr ⟨C,_,rfl,rfl⟩)⟩;show(S.set _ _).flatMap _=_;rw[qY r2' _ (by rw[bV,qX (lN (by omega)),List.append_nil]), <- hS];exact qY k _ (hvis t ht')
theorem wV {u:dp} (h:qh u=true):(u.Kind=1->kr u.Row=true)∧(u.Kind=3->0<=u.Value∧u.Value<=99):=by
 unfold qh at h;refine⟨fun k=>?_,fun k=>?_⟩
 ·rw[beq_iff_eq.2 k,cond_true] at h;cases a:kr u.Row with
  |true=>rfl
  |false=>rw[a] at h;cases h
 rw[beq_eq_false_iff_ne.2 (show ¬ u.Kind=1 by omega),beq_eq_false_iff_ne.2 (show ¬ u.Kind=2 by omega),beq_iff_eq.2 k,kl u.Value] at h
 by_cases hv:0<=u.Value∧u.Value<=99
 ·exact hv
 rw[decide_eq_false hv] at h
 revert h
 cases cm u.Row.Id 0 999 <;>cases ((u.Row.m.length:Nat):Int)==0 <;>cases cm u.Field 0 2 <;>intro h <;>cases h
theorem wR {x y:Qy} {u:dp} (hx:aM x) (hu:qh u=true) (h:Nz x u y):aM y:=by
 obtain⟨⟨_,_⟩,⟨_,_⟩,_,hv,hp⟩:=hx;obtain⟨c,_,_,r,_,o,nw,L,f,g,j,i,l⟩:=h;obtain⟨n,p⟩:=wV hu;have hvp:∀ v∈o++L,mu v x.e=true:=fun v h=>hv v (f.mem_iff.2 h)
 have hpp:=(f.pairwise_iff (R:=fun a b=>nc b a=true) (fun h=>Ks h)).1 hp;have vL:∀ w∈L,mu w (x.e+1)=true:=fun w hw=>by
  have h:=hvp w (List.mem_append_right _ hw);rw[zd (by omega)] at h ⊢;exact⟨h.1,h.2.1,by omega,by omega⟩
 have vK:∀ v∈o,mu (⟨v.Id,v.m,v.w,x.e+1⟩:Qx) (x.e+1)=true:=fun w hw=>by
  have h:=hvp w (List.mem_append_left _ hw);rw[zd (by omega)] at h ⊢;exact⟨h.1,h.2.1,(by show w.w<=_;omega), .inr (by show w.w+1<=x.e+1∧x.e+1<=x.e+1;omega)⟩
 have vN:∀ vs,kr (⟨u.Row.Id,vs⟩:bf)=true->mu (⟨u.Row.Id,vs,x.e+1, -1⟩:Qx) (x.e+1)=true:=fun vs h=>by
  rw[zd (by omega)];exact⟨h,(by show 0<=x.e+1;omega),(by show x.e+1<=x.e+1;omega), .inl rfl⟩
 have aN:∀ vs,∀ w∈L,nc w (⟨u.Row.Id,vs,x.e+1, -1⟩:Qx)=true:=fun vs w hw=>by
  have h:=hvp w (List.mem_append_right _ hw);rw[zd (by omega)] at h;have:=j w hw;rw[aU,decide_eq_true_eq];show w.Id≠u.Row.Id∨(w.x ≠ -1∧w.x<=x.e+1)∨_;omega
 have aK:∀ v,o=[v]->∀ w∈L,nc w (⟨v.Id,v.m,v.w,x.e+1⟩:Qx)=true:=fun v e w hw=>by
  rw[e] at hpp;have h:=(List.pairwise_cons.1 hpp).1 w hw;have:=i v (by rw[e];exact List.mem_singleton.2 rfl);rw[aU,decide_eq_true_eq] at h ⊢;show w.Id≠v.Id∨(w.x ≠ -1∧w.x<=v.w)∨_;omega
 have pL:L.Pairwise (fun a b=>nc b a=true):=(List.pairwise_append.1 hpp).2.1;rw[<- c] at vL vK vN;have key:(∀ v∈nw++(o.map (fun v=>(⟨v.Id,v.m,v.w,x.e+1⟩:Qx))++L),mu v y.e=true)∧(nw++(o.map (fun v=>(⟨v.Id,v.m,v.w,x.e+1⟩:Qx))++L)).Pairwise (fun a b=>nc b a=true):=by
  rw[<- c] at aN aK ⊢;rcases l with⟨k,rfl,rfl⟩|⟨k,⟨v,rfl⟩,rfl⟩|⟨k,v,rfl,rfl⟩
  ·have hn:=vN u.Row.m (n k);rw[<- c];refine⟨fun w hw=>?_,List.pairwise_cons.2 ⟨fun w hw=>aN _ w hw,pL⟩⟩;rcases List.mem_cons.1 hw with rfl|h
   ·exact hn
   exact vL w h
  ·refine⟨fun w hw=>?_,List.pairwise_cons.2 ⟨fun w hw=>aK v rfl w hw,pL⟩⟩;rcases List.mem_cons.1 hw with rfl|h
   ·exact vK v (List.mem_singleton.2 rfl)
   exact vL w h
  have hr:=hvp v (List.mem_append_left _ (List.mem_singleton.2 rfl));rw[zd (by omega),zc] at hr;have d:=i v (List.mem_singleton.2 rfl)
  have hn:=vN (v.m.set u.Field.toNat u.Value) (by
   rw[zc];refine⟨fun z hz=>?_,?_,?_⟩
   ·rcases List.mem_or_eq_of_mem_set hz with h|rfl
    ·exact hr.1.1 z h
    exact p k
   ·show 0<=u.Row.Id∧u.Row.Id<=999;rw[<- d.1];exact hr.1.2.1
   show(v.m.set _ _).length=3
   rw[List.length_set];exact hr.1.2.2)
  rw[<- c];refine⟨fun w hw=>?_,List.pairwise_cons.2 ⟨fun w hw=>?_,List.pairwise_cons.2 ⟨fun w hw=>aK v rfl w hw,pL⟩⟩⟩
  ·rcases List.mem_cons.1 hw with rfl|h
   ·exact hn
   rcases List.mem_cons.1 h with rfl|h
   ·exact vK v (List.mem_singleton.2 rfl)
   exact vL w h
  rcases List.mem_cons.1 hw with rfl|h
  ·rw[aU,decide_eq_true_eq];exact .inr (.inl ⟨(by show y.e ≠ -1;omega),(by show y.e<=y.e;omega)⟩)
  exact aN _ w h
 refine⟨by omega,by omega,r,fun v h=>key.1 v (g.mem_iff.1 h),?_⟩;exact(g.pairwise_iff (R:=fun a b=>nc b a=true) (fun h=>Ks h)).2 key.2
theorem eB (k:List Int) (S:List (List Qx)):(ja k S).flatten=S.flatten.filter (lv k):=by
 unfold ja;rw[List.filter_flatten]
theorem eA {x:Qy} (hx:aM x) (k:List Int):aM (⟨ja k x.a,x.e⟩:Qy):=by
 obtain⟨hl,hn,c,hv,hp⟩:=hx;refine⟨?_,hn,fun s d=>?_,fun v h=>?_,?_⟩
 ·show 1<=(List.map _ _).length∧(List.map _ _).length<=8;rw[List.length_map];exact hl
 ·obtain⟨f,b,rfl⟩:=List.mem_map.1 d;exact Nat.le_trans (List.length_filter_le _ _) (c f b)
 ·have h':v∈(ja k x.a).flatten:=h;rw[eB] at h';exact hv v (List.mem_filter.1 h').1
 show(ja k x.a).flatten.Pairwise _;rw[eB];exact hp.filter _
def rx (n c y:Int):Int:=if c<=y then y-c else y-c+n
def so (n c:Int):Int:=if c+1=n then 0 else c+1
theorem En {n:Nat} {c:Int} (a:0<=c) (b:c<((n:Nat):Int)) (hn:n<=1000):Int.tmod (IntKind.i64.wrap (c+1)) ((n:Nat):Int)=so ((n:Nat):Int) c:=by
 rw[ia (by omega) (by omega),Int.tmod_eq_emod_of_nonneg (by omega)];unfold so
 by_cases h:c+1=((n:Nat):Int)
 ·rw[if_pos h,h,Int.emod_self]
 rw[if_neg h,Int.emod_eq_of_lt (by omega) (by omega)]
theorem fY {n c y:Int} (hc:0<=c∧c<n) (hy:0<=y∧y<n) (hne:y≠c):rx n (so n c) y=rx n c y-1:=by
 unfold rx so
 split <;>split <;>split <;>omega
theorem mK {n c y:Int} (hc:0<=c∧c<n) (hy:0<=y∧y<n):0<=rx n c y∧rx n c y<n:=by
 unfold rx
 split <;>omega
theorem Bm {n c y:Int} (hc:0<=c∧c<n) (hy:0<=y∧y<n):rx n c y=0↔y=c:=by
 unfold rx
 split <;>omega
def vX (n:Nat) (c:Int) (a:Qq):Prop:=∃ q r:Int,a.y=n*q+r∧0<=r∧r<((n:Nat):Int)∧0<=q ∧
 ((a.r.length:Int)+q<=((n:Nat):Int)-1∨(a.A=0∧(a.r.length:Int)+q<=((n:Nat):Int)∧∀ y∈a.r,rx ((n:Nat):Int) c y+r<((n:Nat):Int)))
def sl (n:Nat) (c:Int) (a:Qq):Prop:=
 ((n:Nat):Int)<=(a.r.length:Int)+a.y∧a.p.length+4*a.r.length<=4*n∧a.A<=(a.p.length:Int) ∧
 (a.z=0->∀ y∈a.r,rx ((n:Nat):Int) c y+a.y<((n:Nat):Int))∧(a.z≠0->vX n c a)
def lV (n:Nat) (f:fv):Prop:=((n:Nat):Int)<=f.n∧f.n<=((n:Nat):Int)*((n:Nat):Int)∧f.p.length<=4*n
structure oz (K:Nat) (e:Qk):Prop where
 pro:∀ a∈e.c,sl e.d.a.length e.l a
 dn:∀ f∈e.f,lV e.d.a.length f
 cnt:e.f.length+e.c.length<=K
 led:e.j.length<=K
theorem gC:∀ {l:List Int} {c:Int},l.Pairwise (fun a b=>a<b)->c∈l->(l.filter (fun y=>y !=c)).length+1=l.length
 | [],_,_,h=>by cases h
 |x::l,c,hp,h=>by
  rw[List.pairwise_cons] at hp;rcases List.mem_cons.1 h with rfl|h
  ·have e:l.filter (fun y=>y !=c)=l:=List.filter_eq_self.2 fun y hy=>bne_iff_ne.2 (by have:=hp.1 y hy;omega)
   rw[List.filter_cons_of_neg (by simp),e,List.length_cons]
  have:=hp.1 c h;rw[List.filter_cons_of_pos (p:=fun y=>y !=c) (bne_iff_ne.2 (show x≠c by omega)),List.length_cons,gC hp.2 h,List.length_cons]
theorem gR (l:List Int) (c:Int):pe l c=true↔c∈l:=by
 rw[pY,List.any_eq_true];constructor
 ·rintro⟨y,hy,he⟩;rw[<- beq_iff_eq.1 he];exact hy
 intro h;exact⟨c,h,beq_self_eq_true _⟩
theorem tG {n:Nat} {q r:Int} (hn:0<n) (a:0<=r) (b:r<((n:Nat):Int)) (hq:0<=q) (hb:((n:Nat):Int)*q+r+1<=1000000):((Int.tmod (IntKind.i64.wrap (((n:Nat):Int)*q+r+1)) ((n:Nat):Int))==0)=decide (r+1=((n:Nat):Int)):=by
 have:0<=((n:Nat):Int)*q:=Int.mul_nonneg (by omega) hq;rw[ia (by omega) (by omega),Int.tmod_eq_emod_of_nonneg (by omega)];have e:((n:Nat):Int)*q+r+1=(r+1)+((n:Nat):Int)*q:=by omega
 rw[e,Int.add_mul_emod_self_left]
 by_cases h:r+1=((n:Nat):Int)
 ·rw[h,Int.emod_self,decide_eq_true rfl];rfl
 rw[Int.emod_eq_of_lt (by omega) (by omega),decide_eq_false h];exact beq_eq_false_iff_ne.2 (by omega)
theorem Kw {n:Nat} {c:Int} {a:Qq} (h:sl n c a) (hc:0<=c∧c<((n:Nat):Int)) (ht:tn n a.r) (hn:n<=8):a.y<((n:Nat):Int)*((n:Nat):Int)∧(a.z=0->a.y<((n:Nat):Int)):=by
 obtain⟨_,_,_,f,g⟩:=h;have hpos:=ht.2.2;obtain⟨y,hy⟩:=List.exists_mem_of_length_pos hpos;have d:=ht.1 y hy;have hd:=mK hc d;have hnn:((n:Nat):Int)<=((n:Nat):Int)*((n:Nat):Int):=by
  have:=Int.mul_le_mul_of_nonneg_left (show(1:Int)<=((n:Nat):Int) by omega) (show 0<=((n:Nat):Int) by omega);omega
 by_cases b:a.z=0
 ·have:=f b y hy;exact⟨by omega,fun _=>by omega⟩
 obtain⟨q,r,e,_,_,_,hq⟩:=g b;refine⟨?_,fun h=>absurd h b⟩;have hqn:q<=((n:Nat):Int)-1:=by rcases hq with hq|hq <;>omega
 have:=Int.mul_le_mul_of_nonneg_left hqn (show 0<=((n:Nat):Int) by omega);rw[Int.mul_sub,Int.mul_one] at this;omega
def lp (x:Qk) (a:Qq):Qq:=cond (pg x.l a) (aH x a) a
theorem xB {x:Qk} (h:gu x):kn x (ct x)=x.c.map (lp x):=by
 unfold kn;refine List.map_congr_left fun a ha=>?_
 unfold lp;have e:decide (a.g.Id∈ct x)=pg x.l a:=by
  rw[Bool.eq_iff_iff,decide_eq_true_iff];constructor
  ·intro d;obtain⟨i,hi,he,hf,hb⟩:=aW h d;obtain⟨j,hj,rfl⟩:=List.mem_iff_getElem.1 ha;rw[<- gj hj] at he hf ⊢;have b:=aV h.srt hj;rw[hf] at b;have:i=j:=by omega
   rw[<- this];exact hb
  intro hb;rw[aX h];exact List.mem_map.2 ⟨a,List.mem_filter.2 ⟨ha,hb⟩,rfl⟩
 rw[e]
theorem Lu {a:Qq} (h:a.z=0∨a.A<a.z):rz a=true:=by
 unfold rz
 by_cases b:a.z=0
 ·rw[beq_iff_eq.2 b];rfl
 rw[beq_eq_false_iff_ne.2 b];exact decide_eq_true (by omega)
structure Lk (x:Qk) (a b:Qq):Prop where
 query:b.g=a.g
 time:b.u=a.u
 age:b.y=a.y
 cap:b.z=a.z
 tod:b.r=a.r.filter (fun y=>y !=x.l)∨b.r=a.r
 hit:x.l∈a.r->rz a=true->b.r.length+1=a.r.length
 sub:∀ y∈b.r,y∈a.r∧(rz a=true->y≠x.l)
 len:b.r.length<=a.r.length∧a.r.length<=b.r.length+1
 rws:a.p.length<=b.p.length∧b.p.length+4*b.r.length<=a.p.length+4*a.r.length
 snt:a.A<=b.A∧b.A<=a.A+((b.p.length:Int)-(a.p.length:Int))
 still: ¬ (x.l∈a.r∧rz a=true)->b=a
theorem sR {x:Qk} (h:gu x) {a:Qq} (ha:a∈x.c):Lk x a (lp x a):=by
 obtain⟨hq,htm,hto,hag,hse,hca,hro⟩:=h.act a ha;have f:=iZ h a;cases hp:pg x.l a with
 |true=>
  have e:lp x a=aH x a:=by unfold lp;rw[hp];rfl
  rw[e];unfold pg at hp;rw[Bool.and_eq_true] at hp;have hc:=(gR _ _).1 hp.2;have hl:=gC hto.2.1 hc;have hw:IntKind.i64.wrap (a.A+(((ob x a).length:Nat):Int))=a.A+(((ob x a).length:Nat):Int):=ia (by omega) (by omega);refine⟨rfl,rfl,rfl,rfl, .inl rfl,fun _ _=>hl,fun y hy=>?_,?_,?_,?_,fun hn=>absurd ⟨hc,hp.1⟩ hn⟩
  ·have:=List.mem_filter.1 (show y∈a.r.filter (fun y=>y !=x.l) from hy);exact⟨this.1,fun _=>bne_iff_ne.1 this.2⟩
  ·show(a.r.filter (fun y=>y !=x.l)).length<=_∧_<=(a.r.filter (fun y=>y !=x.l)).length+1;omega
  ·show a.p.length<=(a.p++ob x a).length∧(a.p++ob x a).length+4*(a.r.filter (fun y=>y !=x.l)).length<=_;rw[List.length_append];omega
  show a.A<=IntKind.i64.wrap _∧IntKind.i64.wrap _<=a.A+((((a.p++ob x a).length:Nat):Int)-_);rw[hw,List.length_append];omega
 |false=>
  have e:lp x a=a:=by unfold lp;rw[hp];rfl
  rw[e];have hn: ¬ (x.l∈a.r∧rz a=true):=fun⟨d,b⟩=>by
   unfold pg at hp;rw[b,(gR _ _).2 d] at hp;cases hp
  exact⟨rfl,rfl,rfl,rfl, .inr rfl,fun d b=>absurd ⟨d,b⟩ hn,fun y hy=>⟨hy,fun b he=>hn ⟨he ▸ hy,b⟩⟩,by omega,by omega,by omega,fun _=>rfl⟩
theorem wO {x:Qk} (h:gu x) {a:Qq} (ha:a∈x.c) (hp:sl x.d.a.length x.l a) {b:Qq} (hb:Lk x a b) (hne:0<b.r.length):
 sl x.d.a.length (so ((x.d.a.length:Nat):Int) x.l) (rv ((x.d.a.length:Nat):Int) b):=by
 obtain⟨hq,htm,hto,hag,hse,hca,hro⟩:=h.act a ha;have p:=((la _).1 h.st).1;have hc:=h.cur;have hage:=(Kw hp hc hto p.2).1;obtain⟨_,_,_,s,t⟩:=hp;have hl:=hb.len;have hrw:=hb.rws;have hsn:=hb.snt;have hw:IntKind.i64.wrap (b.y+1)=a.y+1:=by rw[hb.age];exact ia (by omega) (by omega)
 have hnc:0<=so ((x.d.a.length:Nat):Int) x.l∧so ((x.d.a.length:Nat):Int) x.l<((x.d.a.length:Nat):Int):=by unfold so;split <;>omega
 unfold sl rv;dsimp only;rw[hw,hb.cap];refine⟨by omega,by omega,?_,fun g y hy=>?_,fun g=>?_⟩
 ·cases (Int.tmod (a.y+1) ((x.d.a.length:Nat):Int))==0
  ·show b.A<=_;omega
  show(0:Int)<=_;omega
 ·have hy':=hb.sub y hy;have hyr:=hto.1 y hy'.1;rw[fY hc hyr (hy'.2 (Lu (.inl g)))];have:=s g y hy'.1;omega
 obtain⟨q,r,e,u,v,i,hqq⟩:=t g;have f:((x.d.a.length:Nat):Int)*q+r+1<=1000000:=by omega
 have hrs:=tG (n:=x.d.a.length) (by omega) u v i f;rw[show((x.d.a.length:Nat):Int)*q+r+1=a.y+1 by omega,show IntKind.i64.wrap (a.y+1)=a.y+1 from ia (by omega) (by omega)] at hrs;rw[hrs]
 by_cases hr:r+1=((x.d.a.length:Nat):Int)
 ·rw[decide_eq_true hr];refine⟨q+1,0,?_,by omega,by omega,by omega, .inr ⟨rfl,?_,fun y hy=>?_⟩⟩
  ·show a.y+1=_;rw[Int.mul_add,Int.mul_one];omega
  ·show(b.r.length:Int)+(q+1)<=_;rcases hqq with hqq|⟨j,k,dd⟩
   ·omega
   by_cases hcm:x.l∈a.r
   ·have:=hb.hit hcm (Lu (.inr (by omega)));omega
   exfalso
   obtain⟨y,hy⟩:=List.exists_mem_of_length_pos hto.2.2;have o:=dd y hy;have:=mK hc (hto.1 y hy);exact hcm (((Bm hc (hto.1 y hy)).1 (by omega)) ▸ hy)
  have:=mK hnc (hto.1 y (hb.sub y hy).1);show rx _ _ y+0<_;omega
 rw[decide_eq_false hr];refine⟨q,r+1,?_,by omega,by omega,i,?_⟩
 ·show a.y+1=_;omega
 rcases hqq with hqq|⟨j,k,dd⟩
 ·left;show(b.r.length:Int)+q<=_;omega
 by_cases hcm:x.l∈a.r
 ·have:=hb.hit hcm (Lu (.inr (by omega)))
  left;show(b.r.length:Int)+q<=_;omega
 have m:=hb.still (fun hh=>hcm hh.1);subst m
 right
 refine⟨j,k,fun y hy=>?_⟩;have o:=dd y hy;show rx _ _ y+(r+1)<_;rw[fY hc (hto.1 y hy) (fun e=>hcm (e ▸ hy))];omega
theorem eO {x:Qk} (h:gu x) {a:Qq} (ha:a∈x.c) (hp:sl x.d.a.length x.l a) {b:Qq} (hb:Lk x a b) (he:b.r.length=0):
 lV x.d.a.length (qy b)∧(a.z=0->(qy b).n<=((x.d.a.length:Nat):Int)):=by
 obtain⟨hq,htm,hto,hag,hse,hca,hro⟩:=h.act a ha;have g:=((la _).1 h.st).1;have hc:=h.cur;obtain⟨hage,e⟩:=Kw hp hc hto g.2;obtain⟨_,_,_,_,_⟩:=hp;have hl:=hb.len;have hrw:=hb.rws;have hpos:=hto.2.2;have hw:IntKind.i64.wrap (b.y+1)=a.y+1:=by rw[hb.age];exact ia (by omega) (by omega)
 have hst:(qy b).n=a.y+1:=hw;refine⟨⟨by rw[hst];omega,by rw[hst];omega,by show b.p.length<=_;omega⟩,fun f=>by have:=e f;rw[hst];omega⟩
theorem wM {x:Qk} (h:gu x) {a:Qq} (ha:a∈x.c) (hp:sl x.d.a.length x.l a) (hne:0<(lp x a).r.length):aR x.d (rv ((x.d.a.length:Nat):Int) (lp x a)):=by
 have hb:=sR h ha;obtain⟨hq,htm,hto,hag,hse,hca,hro⟩:=h.act a ha;have b:=((la _).1 h.st).1;have hc:=h.cur;have hage:=(Kw hp hc hto b.2).1;obtain⟨_,_,_,_,_⟩:=hp;have hl:=hb.len;have hrw:=hb.rws;have hsn:=hb.snt;have hw:IntKind.i64.wrap ((lp x a).y+1)=a.y+1:=by rw[hb.age];exact ia (by omega) (by omega)
 have hnn:((x.d.a.length:Nat):Int)*((x.d.a.length:Nat):Int)<=64:=by
  have:=Int.mul_le_mul_of_nonneg_left (show((x.d.a.length:Nat):Int)<=8 by omega) (show 0<=((x.d.a.length:Nat):Int) by omega);omega
 unfold aR rv;dsimp only;rw[hw,hb.cap,hb.query,hb.time];refine⟨hq,htm,⟨fun y hy=>hto.1 y (hb.sub y hy).1,?_,hne⟩,by omega,?_,hca,?_,?_⟩
 ·rcases hb.tod with e|e
  ·rw[e];exact hto.2.1.filter _
  rw[e];exact hto.2.1
 ·cases (Int.tmod (a.y+1) ((x.d.a.length:Nat):Int))==0
  ·show 0<=(lp x a).A∧(lp x a).A<=1000;omega
  show(0:Int)<=0∧(0:Int)<=1000;omega
 ·intro r hr;unfold lp at hr
  revert hr
  cases pg x.l a with
  |false=>exact fun hr=>hro.1 r hr
  |true=>
   intro hr;rcases List.mem_append.1 (show r∈a.p++ob x a from hr) with hr|hr
   ·exact hro.1 r hr
   exact wt h a r hr
 omega
theorem yw (x:Qk) (a:Qq):(lp x a).g=a.g:=by
 unfold lp;cases pg x.l a <;>rfl
theorem Bf {x:Qk} (h:gu x) (hn:0<(ct x).length):rg (tv x)=true:=by
 have:=mA h;have:=((la _).1 h.st).1;have hc:=h.cur;have hsg:=oZ h;have hq:∀ y∈ct x,(0<=y∧y<=23)∧(0<=(nk x y).g.t∧(nk x y).g.t<=3):=fun y hy=>by
  obtain⟨i,hi,he,hf,_⟩:=aW h hy;have ho:=oV (h.act _ (bt hi)).1;have e:nk x y=gt x.c i:=by unfold nk;rw[hf,Int.toNat_natCast]
  rw[e, <- he];exact⟨ho.1,ho.2.1⟩
 have hset:nh (ct x)=true:=dP (dT h) fun y hy=>(hq y hy).1
 unfold rg tv nW mJ;dsimp only;rw[hset,List.length_map,List.length_map,cond_true,beq_eq_false_iff_ne.2 (show((ct x).length:Int)≠0 by omega),cond_false,decide_eq_false (show ¬ 8<((ct x).length:Int) by omega),cond_false,bne_self_eq_false,cond_false,cond_false,kl,decide_eq_true (show 0<=x.l∧x.l<=7 by omega),kl,decide_eq_true (show(0:Int)<=(((lw x).length:Nat):Int)∧(((lw x).length:Nat):Int)<=4 by have:(lw x).length<=4:=hsg;omega)]
 rw[sq (fun k hk=>by
  unfold va;dsimp only;have hk':k<(ct x).length:=hk;have a:gt ((ct x).map fun y=>(nk x y).g.t) k=(nk x (gt (ct x) k)).g.t:=by rw[gj (by rw[List.length_map];exact hk'),List.getElem_map,gj hk']
  have b:gt ((ct x).map fun y=>(((ob x (nk x y)).length:Nat):Int)) k=(((ob x (nk x (gt (ct x) k))).length:Nat):Int):=by rw[gj (by rw[List.length_map];exact hk'),List.getElem_map,gj hk']
  have hl:(ob x (nk x (gt (ct x) k))).length<=(lw x).length:=xb _ _;rw[a,b,kl,decide_eq_true (hq _ (bt hk')).2,kl,decide_eq_true (by omega)]
  rfl)]
 rfl
theorem eC {s:Qy} (h:mb s=true) (k:List Int):(lx s k).1=⟨ja k s.a,s.e⟩:=by rw[xv s k h]
theorem mT (k:List Int) (d:List (List Qx)):(ja k d).length=d.length:=by unfold ja;rw[List.length_map]
theorem wL {K:Nat} {x:Qk} (h:gu x) (hd:oz K x) (hc:um x=true):gu (ly x).1∧oz (K+1) (ly x).1:=by
 obtain⟨_,c1,_,_⟩:=pE hc;have w:=(la _).1 h.st;have:=w.1;have hcur:=h.cur;have hstp:=h.stp;have hal:=h.al;have hnx:=En hcur.1 hcur.2 (by omega);have hnc:0<=so ((x.d.a.length:Nat):Int) x.l∧so ((x.d.a.length:Nat):Int) x.l<((x.d.a.length:Nat):Int):=by unfold so;split <;>omega
 have hnn:((x.d.a.length:Nat):Int)*((x.d.a.length:Nat):Int)<=64:=by
  have:=Int.mul_le_mul_of_nonneg_left (show((x.d.a.length:Nat):Int)<=8 by omega) (show 0<=((x.d.a.length:Nat):Int) by omega);omega
 rw[mC,hc,cond_true,tm];have hr:=eC (s:=(oe x).d) h.st ((oe x).c.map fun a=>a.u);rw[hr];have hL:kn x (ct x)=x.c.map (lp x):=xB h;have hrest:∀ a∈(oe x).c,∃ b∈x.c,0<(lp x b).r.length∧a=rv ((x.d.a.length:Nat):Int) (lp x b):=fun a ha=>by
  have ha:a∈rc x (kn x (ct x)):=ha;unfold rc at ha;rw[hL] at ha;obtain⟨b,hb,rfl⟩:=List.mem_map.1 ha;obtain⟨k,i⟩:=List.mem_filter.1 hb;obtain⟨o,t,rfl⟩:=List.mem_map.1 k;refine⟨o,t,?_,rfl⟩;unfold oq at i
  by_cases hz:(lp x o).r.length=0
  ·rw[hz] at i;cases i
  omega
 have hdone:∀ f∈(oe x).f,f∈x.f∨∃ b∈x.c,(lp x b).r.length=0∧f=qy (lp x b):=fun f hf=>by
  have hf:f∈bF x (kn x (ct x)):=hf;unfold bF at hf;rw[hL] at hf;rcases List.mem_append.1 hf with hf|hf
  ·exact .inl hf
  obtain⟨b,hb,rfl⟩:=List.mem_map.1 hf;obtain⟨k,i⟩:=List.mem_filter.1 hb;obtain⟨o,t,rfl⟩:=List.mem_map.1 k;refine .inr ⟨o,t,?_,rfl⟩;unfold oq at i;have:=beq_iff_eq.1 i;omega
 have hcount:(oe x).f.length+(oe x).c.length=x.f.length+x.c.length:=by
  show(bF x (kn x (ct x))).length+(rc x (kn x (ct x))).length=_;unfold bF rc;have hp:∀ l:List Qq,(l.filter oq).length+(l.filter fun a=> !oq a).length=l.length:=fun l=>by
   induction l with
   |nil=>rfl
   |cons a l ih=>cases he:oq a <;>simp[he] <;>omega
  have:=hp (kn x (ct x));rw[List.length_append,List.length_map,List.length_map];have:=tq x (ct x);omega
 have hled:(oe x).j.length<=x.j.length+1∧∀ c∈(oe x).j,c∈x.j∨rg c=true:=by
  show(sa x).length<=_∧∀ c∈sa x,_;unfold sa
  by_cases hp:0<(((ct x).length:Nat):Int)
  ·rw[decide_eq_true hp,cond_true,List.length_append];refine⟨Nat.le_refl _,fun c hc=>?_⟩;rcases List.mem_append.1 hc with hc|hc
   ·exact .inl hc
   rw[List.mem_singleton.1 hc];exact .inr (Bf h (by omega))
  rw[decide_eq_false hp,cond_false];exact⟨Nat.le_succ _,fun c hc=> .inl hc⟩
 have:(oe x).c.length<=x.c.length:=by
  have:=(iU (x:=x) (eX h (ct x))).1;have:=tq x (ct x);show(rc x (kn x (ct x))).length<=_;omega
 constructor
 ·refine⟨?_,?_,h.ord,?_,?_,?_,?_,fun a ha=>?_,?_,fun f hf=>?_,fun c hc=>?_⟩
  ·exact(la _).2 (eA w _)
  ·show 0<=Int.tmod _ _∧Int.tmod _ _<(((ja _ x.d.a).length:Nat):Int);rw[mT,hnx];exact hnc
  ·show(oe x).c.length<=8;omega
  ·show 0<=IntKind.i64.wrap (x.n+1)∧IntKind.i64.wrap (x.n+1)<=100000;rw[ia (by omega) (by omega)];omega
  ·show(oe x).f.length<=1000;omega
  ·show(oe x).j.length<=1000;omega
  ·obtain⟨b,hb,hne,rfl⟩:=hrest a ha;obtain⟨m,k2,A,B⟩:=wM h hb (hd.pro b hb) hne;refine⟨m,k2,?_,B⟩;show tn (ja _ x.d.a).length _;rw[mT];exact A
  ·show(rc x (kn x (ct x))).Pairwise _;unfold rc;rw[hL,List.pairwise_map];refine List.Pairwise.filter _ ?_;rw[List.pairwise_map];refine h.srt.imp fun {a b} hab=>?_
   show(lp x a).g.Id<(lp x b).g.Id;rw[yw,yw];exact hab
  ·rcases hdone f hf with hf|⟨b,hb,he,rfl⟩
   ·exact h.fin f hf
   have hF:=sR h hb;obtain⟨m,k2⟩:=eO h hb (hd.pro b hb) hF he;obtain⟨hq,htm,_,hag,_,_,hro⟩:=h.act b hb;refine⟨?_,?_,?_,?_⟩
   ·show kk (lp x b).g=true;rw[yw];exact hq
   ·show 0<=(lp x b).u∧(lp x b).u<=x.d.e;rw[hF.time];exact htm
   ·have:=m.1;have:=m.2.1;omega
   have:=m.2.2;refine⟨fun r hr=>?_,by omega⟩;have hr:r∈(lp x b).p:=hr;unfold lp at hr
   revert hr
   cases pg x.l b with
   |false=>exact fun hr=>hro.1 r hr
   |true=>
    intro hr;rcases List.mem_append.1 (show r∈b.p++ob x b from hr) with hr|hr
    ·exact hro.1 r hr
    exact wt h b r hr
  rcases hled.2 c hc with hc|hc
  ·exact h.led c hc
  exact hc
 refine⟨fun a ha=>?_,fun f hf=>?_,?_,?_⟩
 ·obtain⟨b,hb,hne,rfl⟩:=hrest a ha;show sl (ja _ x.d.a).length (Int.tmod _ _) _;rw[mT,hnx];exact wO h hb (hd.pro b hb) (sR h hb) hne
 ·show lV (ja _ x.d.a).length f;rw[mT];rcases hdone f hf with hf|⟨b,hb,he,rfl⟩
  ·exact hd.dn f hf
  exact(eO h hb (hd.pro b hb) (sR h hb) he).1
 ·have:=hd.cnt;show(oe x).f.length+(oe x).c.length<=_;omega
 have:=hd.led;show(oe x).j.length<=_;omega
theorem dZ {K:Nat} {e:Qk} (h:gu e) (hd:oz K e):gu (ml e)∧oz K (ml e):=by
 rw[tm,eC h.st];have hl:(ja (e.c.map fun a=>a.u) e.d.a).length=e.d.a.length:=mT _ _;refine⟨⟨(la _).2 (eA ((la _).1 h.st) _),?_,h.ord,h.al,h.stp,h.dl,h.ll,fun a ha=>?_,h.srt,h.fin,h.led⟩,⟨fun a ha=>?_,fun f hf=>?_,hd.cnt,hd.led⟩⟩
 ·show 0<=e.l∧e.l<(((ja _ e.d.a).length:Nat):Int);rw[hl];exact h.cur
 ·obtain⟨b,k2,g,i⟩:=h.act a ha;exact⟨b,k2,by show tn (ja _ e.d.a).length _;rw[hl];exact g,i⟩
 ·show sl (ja _ e.d.a).length _ _;rw[hl];exact hd.pro a ha
 show lV (ja _ e.d.a).length _;rw[hl];exact hd.dn f hf
theorem dS {s:Qy} (h:mb s=true):gu (⟨s,0,[0,1,2],[],[],[],0⟩:Qk)∧oz 0 (⟨s,0,[0,1,2],[],[],[],0⟩:Qk):=by
 have:=((la _).1 h).1
 exact⟨⟨h,by show(0:Int)<=0∧(0:Int)<((s.a.length:Nat):Int);omega,rfl,Nat.zero_le _,(by show(0:Int)<=0∧(0:Int)<=100000;decide),Nat.zero_le _,Nat.zero_le _,fun a ha=>(by cases ha),List.Pairwise.nil,fun a ha=>(by cases ha),fun a ha=>(by cases ha)⟩,
  ⟨fun a ha=>(by cases ha),fun a ha=>(by cases ha),Nat.le_refl _,Nat.le_refl _⟩⟩
theorem mF {x:Qk} {q:bk} {l:Int} (h:ru x q l=true):gu x∧kk q=true∧(0<=l∧l<=32)∧(∀ j,j<x.c.length->(gt x.c j).g.Id≠q.Id)∧x.c.length<8:=by
 unfold ru at h;simp only[Bool.and_eq_true,Bool.not_eq_true',kl,decide_eq_true_iff] at h;obtain⟨⟨⟨⟨b,d⟩,e⟩,f⟩,a⟩:=h;have a:=of_decide_eq_false a;exact⟨(pd x).1 b,d,e,dN f,by omega⟩
theorem El (n:Nat) (hn:0<n):tn n ((List.range n).map fun(k:Nat)=>((k:Nat):Int)):=by
 refine⟨fun y hy=>?_,?_,by rw[List.length_map,List.length_range];exact hn⟩
 ·obtain⟨k,hk,rfl⟩:=List.mem_map.1 hy;have:=List.mem_range.1 hk;omega
 rw[List.pairwise_map];exact List.pairwise_lt_range.imp fun h=>by omega
theorem Em {x:Qk} {q:bk} {l:Int} (h:ru x q l=true):aR x.d (pf x q l)∧sl x.d.a.length x.l (pf x q l):=by
 obtain⟨hE,hq,hl,hf,_⟩:=mF h;have b:=(la _).1 hE.st;have:=b.1;have hc:=hE.cur;have ht:=El x.d.a.length (by omega);have hlen:(pf x q l).r.length=x.d.a.length:=by show((List.range x.d.a.length).map _).length=_;rw[List.length_map,List.length_range]
 refine⟨⟨hq,⟨b.2.1.1,Int.le_refl _⟩,ht,⟨Int.le_refl _,(by show(0:Int)<=100000;decide)⟩,⟨Int.le_refl _,(by show(0:Int)<=1000;decide)⟩,hl,fun r hr=>(by cases hr),Nat.zero_le _⟩,?_,?_,Int.le_refl _,fun _ y hy=>?_,fun _=>⟨0,0,?_,Int.le_refl _,by omega,Int.le_refl _, .inr ⟨rfl,?_,fun y hy=>?_⟩⟩⟩
 ·rw[hlen];show _<=_+(0:Int);omega
 ·rw[hlen];show 0+_<=_;omega
 ·have:=mK hc (ht.1 y hy);show _+(0:Int)<_;omega
 ·show(0:Int)=_;omega
 ·rw[hlen];omega
 have:=mK hc (ht.1 y hy);omega
theorem Kq {K:Nat} {x:Qk} {q:bk} {l:Int} (hb:ru x q l=true) (hd:oz K x):gu (pa x q l)∧oz (K+1) (pa x q l):=by
 obtain⟨h,hq,hl,hf,_⟩:=mF hb;obtain⟨n,o⟩:=Em hb;have hj:=mE x.c q.Id;have hlen:(pa x q l).c.length=x.c.length+1:=by
  show((List.take _ x.c++[pf x q l])++List.drop _ x.c).length=_;rw[List.length_append,List.length_append,List.length_take,List.length_drop];show _+1+_=_;omega
 have e:∀ a∈(pa x q l).c,a∈x.c∨a=pf x q l:=fun a ha=>by
  rcases List.mem_append.1 (show a∈(List.take (db x.c q.Id) x.c++[pf x q l])++List.drop (db x.c q.Id) x.c from ha) with ha|ha
  ·rcases List.mem_append.1 ha with ha|ha
   ·exact .inl (List.mem_of_mem_take ha)
   exact .inr (List.mem_singleton.1 ha)
  exact .inl (List.mem_of_mem_drop ha)
 have htk:∀ a∈x.c.take (db x.c q.Id),a.g.Id<q.Id:=fun a ha=>by
  obtain⟨i,hi,rfl⟩:=List.mem_iff_getElem.1 ha;rw[List.length_take] at hi;rw[List.getElem_take];have d:=pD (xs:=x.c) (q:=q.Id) (j:=i) (by omega);have m:=hf i (by omega);rw[gj (by omega)] at d m;omega
 have hdr:∀ a∈x.c.drop (db x.c q.Id),q.Id<a.g.Id:=fun a ha=>by
  obtain⟨i,hi,rfl⟩:=List.mem_iff_getElem.1 ha;rw[List.length_drop] at hi;rw[List.getElem_drop];have d:=pC (xs:=x.c) (q:=q.Id) (by omega);rw[gj (by omega)] at d
  by_cases k:i=0
  ·subst k;exact d
  have:=List.pairwise_iff_getElem.1 h.srt (db x.c q.Id) (db x.c q.Id+i) (by omega) (by omega) (by omega);omega
 refine⟨⟨h.st,h.cur,h.ord,by rw[hlen];omega,h.stp,h.dl,h.ll,fun a ha=>?_,?_,h.fin,h.led⟩,⟨fun a ha=>?_,hd.dn,?_,?_⟩⟩
 ·rcases e a ha with ha|rfl
  ·exact h.act a ha
  exact n
 ·show((x.c.take (db x.c q.Id)++[pf x q l])++x.c.drop (db x.c q.Id)).Pairwise _;rw[List.pairwise_append,List.pairwise_append];refine⟨⟨h.srt.sublist (List.take_sublist _ _),List.pairwise_singleton _ _,fun a ha b hb'=>?_⟩,h.srt.sublist (List.drop_sublist _ _),fun a ha b hb'=>?_⟩
  ·rw[List.mem_singleton.1 hb'];exact htk a ha
  rcases List.mem_append.1 ha with ha|ha
  ·have:=htk a ha;have:=hdr b hb';omega
  rw[List.mem_singleton.1 ha];exact hdr b hb'
 ·rcases e a ha with ha|rfl
  ·exact hd.pro a ha
  exact o
 ·have:=hd.cnt;rw[hlen];show x.f.length+_<=_;omega
 have:=hd.led;show x.j.length<=_;omega
theorem Bl {α:Type} (l:List α) {k k2:Nat} (h:k<=k2):(l.take k++l.drop k2).Sublist l:=by
 have a:(l.drop k2).Sublist (l.drop k):=by
  rw[show k2=k+(k2-k) by omega, <- List.drop_drop];exact List.drop_sublist _ _
 have:=(List.Sublist.refl (l.take k)).append a;rw[List.take_append_drop] at this;exact this
theorem tZ {K:Nat} {x:Qk} (h:gu x) (hd:oz K x) {k k2:Nat} (hk:k<=k2):gu (⟨x.d,x.l,x.k,(List.take k x.c++List.drop k2 x.c),x.f,x.j,x.n⟩:Qk)∧oz K (⟨x.d,x.l,x.k,(List.take k x.c++List.drop k2 x.c),x.f,x.j,x.n⟩:Qk):=by
 have hsub:=Bl x.c hk;have hle:=hsub.length_le;have:=h.al;have:=hd.cnt
 exact⟨⟨h.st,h.cur,h.ord,by show(x.c.take k++x.c.drop k2).length<=8;omega,h.stp,h.dl,h.ll,fun a ha=>h.act a (hsub.subset ha),h.srt.sublist hsub,h.fin,h.led⟩,
  ⟨fun a ha=>hd.pro a (hsub.subset ha),hd.dn,by show x.f.length+(x.c.take k++x.c.drop k2).length<=K;omega,hd.led⟩⟩
theorem wS {K:Nat} {x:Qk} {u:dp} (h:gu x) (hd:oz K x) (hu:(ej x.d u).2=true):gu (⟨(ej x.d u).1,x.l,x.k,x.c,x.f,x.j,x.n⟩:Qk)∧oz K (⟨(ej x.d u).1,x.l,x.k,x.c,x.f,x.j,x.n⟩:Qk):=by
 have g:=(la _).1 h.st;have:=g.1;obtain⟨p,b⟩:=wU g hu;have hst:=wR g p b;have hn:=b.1;have hl:(ej x.d u).1.a.length=x.d.a.length:=b.2.2.1;refine⟨⟨(la _).2 hst,?_,h.ord,h.al,h.stp,h.dl,h.ll,fun a ha=>?_,h.srt,fun f hf=>?_,h.led⟩,⟨fun a ha=>?_,fun f hf=>?_,hd.cnt,hd.led⟩⟩
 ·show 0<=x.l∧x.l<(((ej x.d u).1.a.length:Nat):Int);rw[hl];exact h.cur
 ·obtain⟨i,k2,m,o⟩:=h.act a ha;refine⟨i,⟨k2.1,?_⟩,?_,o⟩
  ·show a.u<=(ej x.d u).1.e;rw[hn];omega
  show tn (ej x.d u).1.a.length _;rw[hl];exact m
 ·obtain⟨i,k2,m,o⟩:=h.fin f hf;refine⟨i,⟨k2.1,?_⟩,m,o⟩;show f.u<=(ej x.d u).1.e;rw[hn];omega
 ·show sl (ej x.d u).1.a.length _ _;rw[hl];exact hd.pro a ha
 show lV (ej x.d u).1.a.length _;rw[hl];exact hd.dn f hf
def px (k:Nat) (e:Qk):Prop:=iu e∧(e.d.a.length=0∨(gu e∧oz k e∧e.n<=((k:Nat):Int)))
theorem uB {j k:Nat} {e:Qk} (h:oz j e) (hk:j<=k):oz k e:=⟨h.pro,h.dn,Nat.le_trans h.cnt hk,Nat.le_trans h.led hk⟩
theorem lW {j k:Nat} {e:Qk} (h:px j e) (hk:j<=k):px k e:=⟨h.1,h.2.imp id fun g=>⟨g.1,uB g.2.1 hk,by have:=g.2.2;omega⟩⟩
theorem qP {e:Qk} (h:e.d.a.length=0):ka e=false:=by
 cases hE:ka e with
 |false=>rfl
 |true=>have:=((la _).1 ((pd e).1 hE).st).1;omega
theorem uE {k:Nat} {e:Qk} (h:px k e):px (k+1) (ly e).1:=by
 refine⟨aY h.1,?_⟩;cases hc:um e with
 |false=>
  rw[mC,hc,cond_false];exact(lW h (Nat.le_succ k)).2
 |true=>
  have hE:=(pE hc).1;rcases h.2 with a|a
  ·have:=qP a;rw[(pd e).2 hE] at this;cases this
  obtain⟨b,c⟩:=wL hE a.2.1 hc;refine .inr ⟨b,c,?_⟩;rw[mC,hc,cond_true,tm];show IntKind.i64.wrap (e.n+1)<=_;have:=hE.stp;have:=a.2.2;rw[ia (by omega) (by omega)];omega
theorem dK {k:Nat} {e:Qk} {q:bk} {l:Int} (h:px k e) (hq:lj 68719476736 q):px (k+1) (ie e q l).1:=by
 refine⟨uh h.1 hq,?_⟩;rw[oS];cases hb:ru e q l with
 |false=>exact(lW h (Nat.le_succ k)).2
 |true=>
  have hE:=(mF hb).1;rcases h.2 with a|a
  ·have:=qP a;rw[(pd e).2 hE] at this;cases this
  obtain⟨b,c⟩:=Kq hb a.2.1;refine .inr ⟨b,c,?_⟩;show e.n<=_;have:=a.2.2;omega
theorem eE (e:Qk):(ml e).n=e.n:=by rw[tm]
theorem uF {k:Nat} {e:Qk} (h:px k e) (u:dp):px (k+1) (jp e u).1:=by
 refine⟨ul h.1 u,?_⟩;have b:=lW h (Nat.le_succ k);unfold jp;cases hE:ka e with
 |false=>exact b.2
 |true=>
 cases hu:(ej e.d u).2 with
 |false=>exact b.2
 |true=>
  rcases b.2 with a|a
  ·rw[qP a] at hE;cases hE
  have hx:=wS a.1 a.2.1 hu;obtain⟨c,f⟩:=dZ hx.1 hx.2;refine .inr ⟨c,f,?_⟩;show(ml _).n<=_;rw[eE];exact a.2.2
theorem dH {x:Qk} (h:gu x) {i:Int} (a: ¬ da x i<0):(IntKind.i64.wrap (da x i+1)).toNat=(da x i).toNat+1:=by
 have:=cD x i;have:=h.al;rw[ia (by omega) (by omega)];omega
theorem uC {k:Nat} {e:Qk} (h:px k e) (i:Int):px (k+1) (jn e i).1:=by
 refine⟨ui h.1 i,?_⟩;have b:=lW h (Nat.le_succ k);unfold jn;cases hE:ka e with
 |false=>exact b.2
 |true=>
 cases hf:decide (da e i<0) with
 |true=>exact b.2
 |false=>
  rcases b.2 with a|a
  ·rw[qP a] at hE;cases hE
  have hy:=tZ a.1 a.2.1 (show(da e i).toNat<=(IntKind.i64.wrap (da e i+1)).toNat by rw[dH a.1 (of_decide_eq_false hf)];omega);obtain⟨c,d⟩:=dZ hy.1 hy.2;refine .inr ⟨c,d,?_⟩;show(ml _).n<=_;rw[eE];exact a.2.2
theorem uD {s:Qy} (h:nl 20 s):px 0 (lo s).1:=by
 refine⟨dR h,?_⟩;unfold lo;cases a:mb s with
 |true=>exact .inr ⟨(dS a).1,(dS a).2,Int.le_refl _⟩
 |false=>exact .inl rfl
theorem kZ (b:List Int) (D:ar) {n:Int} (hn:0<=n∧n<=14):px 14 (bl b D n).1:=by
 have hr:=gv b ((ij b D).2) n;have f:=uD (kW b D);unfold bl;have g:(Qd b ((ij b D).2) n).1<=14:=by
  by_cases h:0<n
  ·have:=hr.2.1 h;omega
  have:=hr.2.2 (show n<=0 by omega);omega
 generalize hM:(Qd b ((ij b D).2) n).1=M at hr g
 obtain⟨s',e,h⟩:=qU (R:=Qk×ar) (b:=fun k (s:Int×Nat×Int×Qk)=>cN b k s.1 s.2.1 s.2.2.1 s.2.2.2) (n:=M.toNat+1) (P:=fun k s=>s.1=M-((k:Nat):Int)∧0<=s.1∧px k s.2.2.2) (Q:=fun s=>px 14 s.2.2.2) (fun k s hk d=>by
  obtain⟨i,c1,c,y⟩:=s;dsimp only at d;obtain⟨_,_,a⟩:=d;show(∃ s',cN b k i c1 c y=_∧_)∨∃ s',cN b k i c1 c y=_∧_;unfold cN
  by_cases hi:0<i
  ·have hw:=ia (n:=i-1) (by omega) (by omega);rw[decide_eq_true hi,cond_true,hw]
   left
   generalize (Qd b (⟨c1,c⟩:ar) 7).1=z;cases z==0 with
   |true=>exact⟨_,rfl,by dsimp only;omega,by dsimp only;omega,dK a (oo (ov _ _ _))⟩
   |false=>
   cases z==1 with
   |true=>exact⟨_,rfl,by dsimp only;omega,by dsimp only;omega,dK a (oo (ov _ _ _))⟩
   |false=>
   cases z==2 with
   |true=>exact⟨_,rfl,by dsimp only;omega,by dsimp only;omega,uF a _⟩
   |false=>
   cases z==3 with
   |true=>exact⟨_,rfl,by dsimp only;omega,by dsimp only;omega,uC a _⟩
   |false=>exact⟨_,rfl,by dsimp only;omega,by dsimp only;omega,uE a⟩
  rw[decide_eq_false hi,cond_false]
  right
  exact⟨_,rfl,lW a (by omega)⟩) (M.toNat+1-0) 0 (M,(Qd b ((ij b D).2) n).2.i,(Qd b ((ij b D).2) n).2.h,((lo ((ij b D).1)).1)) (by omega) ⟨by dsimp only;omega,by dsimp only;omega,f⟩
 rw[e];rcases h with h|h
 ·exact h
 obtain⟨_,_,_⟩:s'.1=M-((M.toNat+1:Nat):Int)∧0<=s'.1∧_:=h;omega
theorem Jj (b:List Int) (D:ar) {n:Int} (hn:0<=n∧n<=14):iu (bl b D n).1:=(kZ b D hn).1
def kc (b:List Int) (e:ar):(Qk×ar):=
 cond ((Qd b ((bl b e 14).2) 16).1==0) ((⟨((bl b e 14).1).d,(cv b (Qd b ((bl b e 14).2) 16).2 [(-1),8]).1,((bl b e 14).1).k,((bl b e 14).1).c,((bl b e 14).1).f,((bl b e 14).1).j,((bl b e 14).1).n⟩:Qk),(cv b (Qd b ((bl b e 14).2) 16).2 [(-1),8]).2) (cond ((Qd b ((bl b e 14).2) 16).1==1) ((⟨((bl b e 14).1).d,((bl b e 14).1).l,((bl b e 14).1).k,((bl b e 14).1).c,((bl b e 14).1).f,((bl b e 14).1).j,(cv b (Qd b ((bl b e 14).2) 16).2 [(-1),99999,100000,100001]).1⟩:Qk),(cv b (Qd b ((bl b e 14).2) 16).2 [(-1),99999,100000,100001]).2) (cond ((Qd b ((bl b e 14).2) 16).1==2) ((⟨(⟨((bl b e 14).1).d.a,(-1)⟩:Qy),((bl b e 14).1).l,((bl b e 14).1).k,((bl b e 14).1).c,((bl b e 14).1).f,((bl b e 14).1).j,((bl b e 14).1).n⟩:Qk),(Qd b ((bl b e 14).2) 16).2) (cond ((Qd b ((bl b e 14).2) 16).1==3) ((⟨((bl b e 14).1).d,((bl b e 14).1).l,(mk b (Qd b ((bl b e 14).2) 16).2).1,((bl b e 14).1).c,((bl b e 14).1).f,((bl b e 14).1).j,((bl b e 14).1).n⟩:Qk),(mk b (Qd b ((bl b e 14).2) 16).2).2) (((bl b e 14).1),(Qd b ((bl b e 14).2) 16).2))))
theorem pR:Cb Tryz.prog 88:=⟨f88,_,func88,rfl,by decide⟩
theorem sN (B:Nat) (w0:World) (is:List It) (w:World) (p:Nat) (z0:Value) (b:List Int) (g:ar) (E0:ce mn w0 B z0 b) (Y:b.length<=68719476736) (m:Mem B w0 (Qa p 177 [z0,nI g.i,iV g.h]::is) w):
 Calls Tryz.prog 88 #[.pointer (sA p)] w fun e w'=>∃ x:List Value,e= .returned (.agg x.toArray)∧Mem B w0 (Qg cc x ((kc b g).1)::Qa p 177 [z0,nI (((kc b g).2).i),iV ((kc b g).2).h]::is) w':=by
 obtain⟨_,A2,c3,rfl,_,r5⟩:=Qn E0;refine nv (L:=[(0, .pointer (sA p))]) (N:=30) func88 rfl rfl (Nat.le_of_ble_eq_true rfl) (jl rfl mi) m ?_;have:b.length<=68719476736:=Y;refine sr ?_;refine br Qv rfl (Qf rfl) (by decide) (fun X=>?_);refine aa (sr (wm ?_));let K1:List Value:=[.slice none 0 0,iV 0,iV 0, .slice none 0 0, .slice none 0 0, .slice none 0 0, .slice none 0 0,iV 0];let l0:List It:=Qa X 39 K1::is;refine dr (χ:=List Value) (val:=fun x=> .agg x.toArray) (js:=fun x=>(Qg cc x ((bl b g 14).1)::Qa p 177 [.slice A2 b.length c3,nI (((bl b g 14).2).i),iV ((bl b g 14).2).h]::l0)) (Qo zN rfl) (fun W m=>Jk B w0 l0 W p _ b g r5 14 Y (⟨by decide,by decide⟩) (m.front (n:=1) rfl)) (Qf rfl) (by decide) (fun _=>?_);have hrw:=Jj b g (n:=14) ⟨by decide,by decide⟩;refine gy ?_;rintro⟨_,_,_,_,_⟩ rfl;refine fm 0 ?_;rintro D R rfl F0;refine fm 1 ?_;rintro Z a0 rfl G0;refine fm 2 ?_;rintro F S rfl H0;refine fm 3 ?_;rintro H T rfl I0;refine fm 4 ?_;rintro I U rfl J0;refine br Qv rfl (Qf rfl) (by decide) (fun s=>?_);let K2:List Value:=[.slice D (((bl b g 14).1).d.a).length R,iV (((bl b g 14).1).d.e),iV (((bl b g 14).1).l), .slice Z (((bl b g 14).1).k).length a0, .slice F (((bl b g 14).1).c).length S, .slice H (((bl b g 14).1).f).length T, .slice I (((bl b g 14).1).j).length U,iV (((bl b g 14).1).n)];refine eu (p:=s) (o:=0) (cs':=K2) (fun w m=>m.front (n:=0) rfl) Qv rfl (Nat.le_of_ble_eq_true rfl) rfl rfl rfl rfl (Qf rfl) ?_;refine aa (Qi (sr (wm ?_)));let J:It:=iS (ab Qp 163) 100 D R (((bl b g 14).1).d.a);let K:It:=iS Qb 3 Z a0 (((bl b g 14).1).k);let M:It:=iS Qu 61 F S (((bl b g 14).1).c);let O:It:=iS bg 80 H T (((bl b g 14).1).f);let P:It:=iS be 102 I U (((bl b g 14).1).j);let v:List It:=Qa s 39 K2::J::K::M::O::P::l0;refine dr (χ:=Unit) (val:=fun x=>iV ((Qd b ((bl b g 14).2) 16).1)) (js:=fun x=>(Qa p 177 [.slice A2 b.length c3,nI (((Qd b ((bl b g 14).2) 16).2).i),iV ((Qd b ((bl b g 14).2) 16).2).h]::v)) (Qo iw rfl) (fun W m=>iy B w0 v W p _ b ((bl b g 14).2) r5 16 Y (m.front (n:=6) rfl)) (Qf rfl) (by decide) (fun _=>?_);have hb:=gv b ((bl b g 14).2) 16;obtain⟨r,t⟩:∃ G,G=(Qd b ((bl b g 14).2) 16):=⟨_,rfl⟩;rw[<- t];rw[<- t] at hb;refine aa (aw (sr ?_));refine wv (fun W m=>ed rfl rfl) ?_;refine wa (aa ?_);rcases fg r.1 0 with⟨v0,y⟩|⟨v0,y⟩
 ·refine Qr rfl y ?_;refine ao (wm ?_);refine eb (cs:=[iV (-1),iV 8]) Qt Qh rfl (by decide) (by decide) rfl (by kernel_rfl) (Qf rfl) (by decide) (fun C0=>?_);refine il (fun W m=>Mem.litOwn (E:=Qb) (xs:=[(-1),8]) rfl (show 2<=maxLen from by decide) (fun _=>(eg (E:=Qb) (L1:=[]) cw (eg (E:=Qb) (L1:=[]) cw ix))) (m.front (n:=0) rfl)) ?_;let n0:It:=Qg (ab Qb 3) [.slice (sA C0) 2 2] [(-1),8];refine dr (χ:=Unit) (val:=fun x=>iV ((cv b r.2 [(-1),8]).1)) (js:=fun x=>(Qa p 177 [.slice A2 b.length c3,nI (((cv b r.2 [(-1),8]).2).i),iV ((cv b r.2 [(-1),8]).2).h]::n0::v)) (Qo py rfl) (fun W m=>qi B w0 v W p _ b r.2 r5 _ [(-1),8] Y (Nat.le_of_ble_eq_true rfl) (by first|decide|exact Nat.succ_pos _) ((m.front (n:=0) rfl).front (n:=1) rfl)) (Qf rfl) (by decide) (fun _=>?_);obtain⟨z,c0⟩:∃ G,G=(cv b r.2 [(-1),8]):=⟨_,rfl⟩;rw[<- c0];refine wv (vf Qs rfl Qh) ?_;let K3:List Value:=[.slice D (((bl b g 14).1).d.a).length R,iV (((bl b g 14).1).d.e),iV z.1, .slice Z (((bl b g 14).1).k).length a0, .slice F (((bl b g 14).1).c).length S, .slice H (((bl b g 14).1).f).length T, .slice I (((bl b g 14).1).j).length U,iV (((bl b g 14).1).n)];refine eu (p:=s) (o:=2) (cs':=K3) (fun w m=>m.front (n:=2) rfl) Qh rfl (Nat.le_of_ble_eq_true rfl) rfl rfl rfl rfl (Qf rfl) ?_;refine bb (bq (Qj (sr ?_)));refine wv (fun W m=>Qw (cs:=K3) Qs Qv rfl rfl (m.boxCells (n:=0) rfl)) ?_;refine eu (p:=X) (o:=0) (cs':=K3) (fun w m=>m.front (n:=8) rfl) Qv rfl (Nat.le_of_ble_eq_true rfl) rfl rfl rfl rfl (Qf rfl) ?_;refine aa (Ql ?_);let K4:List Value:=[.slice A2 b.length c3,nI z.2.i,iV z.2.h];let p0:List It:=Qa X 39 K3::Qa s 39 K3::Qa p 177 K4::n0::is;refine bz (js:=(Qg cc K3 (⟨((bl b g 14).1).d,z.1,((bl b g 14).1).k,((bl b g 14).1).c,((bl b g 14).1).f,((bl b g 14).1).j,((bl b g 14).1).n⟩:Qk)::p0)) (fun W m=>Mem.join (is:=[J,K,M,O,P]) (js:=p0) (fun _ _ hs=>fz (x:=(⟨((bl b g 14).1).d,z.1,((bl b g 14).1).k,((bl b g 14).1).c,((bl b g 14).1).f,((bl b g 14).1).j,((bl b g 14).1).n⟩:Qk)) hs) (m.pickN 9 [4,5,6,7,8,0,1,2,3] (by decide))) ?_;have g0:=(show kc b g=((⟨((bl b g 14).1).d,z.1,((bl b g 14).1).k,((bl b g 14).1).c,((bl b g 14).1).f,((bl b g 14).1).j,((bl b g 14).1).n⟩:Qk),z.2) from by subst t c0;exact Qc y (rfl));refine fj rfl (cr (n:=1) rfl rfl Qs Qv rfl) (fun W m=>⟨K3,?_,?_⟩)
  ·first|rw[g0]|rfl
  rw[g0];exact(m.pickN 5 [0,3] (by decide))
 refine ah rfl y ?_;refine sr ?_;refine wv (fun W m=>ed rfl rfl) ?_;refine wa (aa ?_);rcases fg r.1 1 with⟨y0,C⟩|⟨y0,C⟩
 ·refine Qr rfl C ?_;refine ao (wm ?_);refine eb (cs:=[iV (-1),iV 99999,iV 100000,iV 100001]) Qt Qh rfl (by decide) (by decide) rfl (by kernel_rfl) (Qf rfl) (by decide) (fun D0=>?_);refine il (fun W m=>Mem.litOwn (E:=Qb) (xs:=[(-1),99999,100000,100001]) rfl (show 4<=maxLen from by decide) (fun _=>(eg (E:=Qb) (L1:=[]) cw (eg (E:=Qb) (L1:=[]) cw (eg (E:=Qb) (L1:=[]) cw (eg (E:=Qb) (L1:=[]) cw ix))))) (m.front (n:=0) rfl)) ?_;let o0:It:=Qg (ab Qb 3) [.slice (sA D0) 4 4] [(-1),99999,100000,100001];refine dr (χ:=Unit) (val:=fun x=>iV ((cv b r.2 [(-1),99999,100000,100001]).1)) (js:=fun x=>(Qa p 177 [.slice A2 b.length c3,nI (((cv b r.2 [(-1),99999,100000,100001]).2).i),iV ((cv b r.2 [(-1),99999,100000,100001]).2).h]::o0::v)) (Qo py rfl) (fun W m=>qi B w0 v W p _ b r.2 r5 _ [(-1),99999,100000,100001] Y (Nat.le_of_ble_eq_true rfl) (by first|decide|exact Nat.succ_pos _) ((m.front (n:=0) rfl).front (n:=1) rfl)) (Qf rfl) (by decide) (fun _=>?_);obtain⟨A,d0⟩:∃ G,G=(cv b r.2 [(-1),99999,100000,100001]):=⟨_,rfl⟩;rw[<- d0];refine wv (vf Qs rfl Qh) ?_;let K5:List Value:=[.slice D (((bl b g 14).1).d.a).length R,iV (((bl b g 14).1).d.e),iV (((bl b g 14).1).l), .slice Z (((bl b g 14).1).k).length a0, .slice F (((bl b g 14).1).c).length S, .slice H (((bl b g 14).1).f).length T, .slice I (((bl b g 14).1).j).length U,iV A.1];refine eu (p:=s) (o:=7) (cs':=K5) (fun w m=>m.front (n:=2) rfl) Qh rfl (Nat.le_of_ble_eq_true rfl) rfl rfl rfl rfl (Qf rfl) ?_;refine bb (bq (Qj (sr ?_)));refine wv (fun W m=>Qw (cs:=K5) Qs Qv rfl rfl (m.boxCells (n:=0) rfl)) ?_;refine eu (p:=X) (o:=0) (cs':=K5) (fun w m=>m.front (n:=8) rfl) Qv rfl (Nat.le_of_ble_eq_true rfl) rfl rfl rfl rfl (Qf rfl) ?_;refine aa (Ql ?_);let K6:List Value:=[.slice A2 b.length c3,nI A.2.i,iV A.2.h];let q0:List It:=Qa X 39 K5::Qa s 39 K5::Qa p 177 K6::o0::is;refine bz (js:=(Qg cc K5 (⟨((bl b g 14).1).d,((bl b g 14).1).l,((bl b g 14).1).k,((bl b g 14).1).c,((bl b g 14).1).f,((bl b g 14).1).j,A.1⟩:Qk)::q0)) (fun W m=>Mem.join (is:=[J,K,M,O,P]) (js:=q0) (fun _ _ hs=>fz (x:=(⟨((bl b g 14).1).d,((bl b g 14).1).l,((bl b g 14).1).k,((bl b g 14).1).c,((bl b g 14).1).f,((bl b g 14).1).j,A.1⟩:Qk)) hs) (m.pickN 9 [4,5,6,7,8,0,1,2,3] (by decide))) ?_;have h0:=(show kc b g=((⟨((bl b g 14).1).d,((bl b g 14).1).l,((bl b g 14).1).k,((bl b g 14).1).c,((bl b g 14).1).f,((bl b g 14).1).j,A.1⟩:Qk),A.2) from by subst t d0;exact Qe y (Qc C (rfl)));refine fj rfl (cr (n:=1) rfl rfl Qs Qv rfl) (fun W m=>⟨K5,?_,?_⟩)
  ·first|rw[h0]|rfl
  rw[h0];exact(m.pickN 5 [0,3] (by decide))
 refine ah rfl C ?_;refine sr ?_;refine wv (fun W m=>ed rfl rfl) ?_;refine wa (aa ?_);rcases fg r.1 2 with⟨A0,V⟩|⟨A0,V⟩
 ·refine Qr rfl V ?_;refine ao ?_;refine wv (vf Qs rfl au) ?_;refine wv (fun W m=>ir (o:=1) ay rfl Qh (by decide) rfl rfl) ?_;let K7:List Value:=[.slice D (((bl b g 14).1).d.a).length R,iV (-1),iV (((bl b g 14).1).l), .slice Z (((bl b g 14).1).k).length a0, .slice F (((bl b g 14).1).c).length S, .slice H (((bl b g 14).1).f).length T, .slice I (((bl b g 14).1).j).length U,iV (((bl b g 14).1).n)];refine eu (p:=s) (o:=1) (cs':=K7) (fun w m=>m.front (n:=1) rfl) Qh rfl (Nat.le_of_ble_eq_true rfl) rfl rfl rfl rfl (Qf rfl) ?_;refine bb (bq (Qj (sr ?_)));refine wv (fun W m=>Qw (cs:=K7) Qs Qv rfl rfl (m.boxCells (n:=0) rfl)) ?_;refine eu (p:=X) (o:=0) (cs':=K7) (fun w m=>m.front (n:=7) rfl) Qv rfl (Nat.le_of_ble_eq_true rfl) rfl rfl rfl rfl (Qf rfl) ?_;refine aa (Ql ?_);let K8:List Value:=[.slice A2 b.length c3,nI r.2.i,iV r.2.h];refine bz (js:=(Qg cc K7 (⟨(⟨((bl b g 14).1).d.a,(-1)⟩:Qy),((bl b g 14).1).l,((bl b g 14).1).k,((bl b g 14).1).c,((bl b g 14).1).f,((bl b g 14).1).j,((bl b g 14).1).n⟩:Qk)::(Qa X 39 K7::Qa s 39 K7::Qa p 177 K8::is))) (fun W m=>Mem.join (is:=[J,K,M,O,P]) (js:=(Qa X 39 K7::Qa s 39 K7::Qa p 177 K8::is)) (fun _ _ hs=>fz (x:=(⟨(⟨((bl b g 14).1).d.a,(-1)⟩:Qy),((bl b g 14).1).l,((bl b g 14).1).k,((bl b g 14).1).c,((bl b g 14).1).f,((bl b g 14).1).j,((bl b g 14).1).n⟩:Qk)) hs) (m.pickN 8 [3,4,5,6,7,0,1,2] (by decide))) ?_;have i0:=(show kc b g=((⟨(⟨((bl b g 14).1).d.a,(-1)⟩:Qy),((bl b g 14).1).l,((bl b g 14).1).k,((bl b g 14).1).c,((bl b g 14).1).f,((bl b g 14).1).j,((bl b g 14).1).n⟩:Qk),r.2) from by subst t;exact Qe y (Qe C (Qc V (rfl))));refine fj rfl (cr (n:=1) rfl rfl Qs Qv rfl) (fun W m=>⟨K7,?_,?_⟩)
  ·first|rw[i0]|rfl
  rw[i0];exact((((m.front (n:=3) rfl).front (n:=1) rfl).front (n:=2) rfl).tail.front (n:=2) rfl).tail
 refine ah rfl V ?_;refine sr ?_;refine wv (fun W m=>ed rfl rfl) ?_;refine wa (aa ?_);rcases fg r.1 3 with⟨B0,b0⟩|⟨B0,b0⟩
 ·refine Qr rfl b0 ?_;refine ao (wm ?_);refine dr (χ:=Value) (val:=fun x=>x) (js:=fun x=>(Qg (ab Qb 3) [x] ((mk b r.2).1)::Qa p 177 [.slice A2 b.length c3,nI (((mk b r.2).2).i),iV ((mk b r.2).2).h]::v)) (Qo fJ rfl) (fun W m=>kT B w0 v W p _ b r.2 r5 Y (m.front (n:=0) rfl)) (Qf rfl) (by decide) (fun _=>?_);obtain⟨u,e0⟩:∃ G,G=(mk b r.2):=⟨_,rfl⟩;rw[<- e0];refine fm 0 ?_;rintro m0 t0 rfl K0;refine wv (vf Qs rfl cg) ?_;let K9:List Value:=[.slice D (((bl b g 14).1).d.a).length R,iV (((bl b g 14).1).d.e),iV (((bl b g 14).1).l), .slice m0 u.1.length t0, .slice F (((bl b g 14).1).c).length S, .slice H (((bl b g 14).1).f).length T, .slice I (((bl b g 14).1).j).length U,iV (((bl b g 14).1).n)];refine eu (p:=s) (o:=3) (cs':=K9) (fun w m=>m.front (n:=2) rfl) cg rfl (Nat.le_of_ble_eq_true rfl) rfl rfl rfl rfl (Qf rfl) ?_;refine bb (bq (Qj (sr ?_)));refine wv (fun W m=>Qw (cs:=K9) Qs Qv rfl rfl (m.boxCells (n:=0) rfl)) ?_;refine eu (p:=X) (o:=0) (cs':=K9) (fun w m=>m.front (n:=8) rfl) Qv rfl (Nat.le_of_ble_eq_true rfl) rfl rfl rfl rfl (Qf rfl) ?_;refine aa (Ql ?_);let u0:List Value:=[.slice A2 b.length c3,nI u.2.i,iV u.2.h];let r0:List It:=Qa X 39 K9::Qa s 39 K9::Qa p 177 u0::K::is;refine bz (js:=(Qg cc K9 (⟨((bl b g 14).1).d,((bl b g 14).1).l,u.1,((bl b g 14).1).c,((bl b g 14).1).f,((bl b g 14).1).j,((bl b g 14).1).n⟩:Qk)::r0)) (fun W m=>Mem.join (is:=[J,iS Qb 3 m0 t0 u.1,M,O,P]) (js:=r0) (fun _ _ hs=>fz (x:=(⟨((bl b g 14).1).d,((bl b g 14).1).l,u.1,((bl b g 14).1).c,((bl b g 14).1).f,((bl b g 14).1).j,((bl b g 14).1).n⟩:Qk)) hs) (m.pickN 9 [4,2,6,7,8,0,1,3,5] (by decide))) ?_;have j0:=(show kc b g=((⟨((bl b g 14).1).d,((bl b g 14).1).l,u.1,((bl b g 14).1).c,((bl b g 14).1).f,((bl b g 14).1).j,((bl b g 14).1).n⟩:Qk),u.2) from by subst t e0;exact Qe y (Qe C (Qe V (Qc b0 (rfl)))));refine fj rfl (cr (n:=1) rfl rfl Qs Qv rfl) (fun W m=>⟨K9,?_,?_⟩)
  ·first|rw[j0]|rfl
  rw[j0];exact(m.pickN 5 [0,3] (by decide))
 refine ah rfl b0 ?_;refine an (bq (Qj (sr ?_)));refine wv (fun W m=>Qw (cs:=K2) Qs Qv rfl rfl (m.boxCells (n:=1) rfl)) ?_;refine eu (p:=X) (o:=0) (cs':=K2) (fun w m=>m.front (n:=7) rfl) Qv rfl (Nat.le_of_ble_eq_true rfl) rfl rfl rfl rfl (Qf rfl) ?_;refine aa (Ql ?_);let s0:List Value:=[.slice A2 b.length c3,nI r.2.i,iV r.2.h];refine bz (js:=(Qg cc K2 ((bl b g 14).1)::(Qa X 39 K2::Qa p 177 s0::Qa s 39 K2::is))) (fun W m=>Mem.join (is:=[J,K,M,O,P]) (js:=(Qa X 39 K2::Qa p 177 s0::Qa s 39 K2::is)) (fun _ _ hs=>fz (x:=((bl b g 14).1)) hs) (m.pickN 8 [3,4,5,6,7,0,1,2] (by decide))) ?_;have k0:=(show kc b g=(((bl b g 14).1),r.2) from by subst t;exact Qe y (Qe C (Qe V (Qe b0 (rfl)))));refine fj rfl (cr (n:=1) rfl rfl Qs Qv rfl) (fun W m=>⟨K2,?_,?_⟩)
 ·first|rw[k0]|rfl
 rw[k0];exact((((m.front (n:=2) rfl).front (n:=1) rfl).front (n:=2) rfl).tail.front (n:=2) rfl).tail
def kv (a:List Int) (b:ar):(bk×ar):=
 cond (((Qd a (fq a ((Qd a b 9).2) ((Qd a b 9).1)).2 10).1)==0) ((⟨(cv a ((Qd a (fq a ((Qd a b 9).2) ((Qd a b 9).1)).2 10).2) [(-1),23,24]).1,(fq a ((Qd a b 9).2) ((Qd a b 9).1)).1.t,(fq a ((Qd a b 9).2) ((Qd a b 9).1)).1.o,(fq a ((Qd a b 9).2) ((Qd a b 9).1)).1.q⟩:bk),(cv a ((Qd a (fq a ((Qd a b 9).2) ((Qd a b 9).1)).2 10).2) [(-1),23,24]).2) (cond (((Qd a (fq a ((Qd a b 9).2) ((Qd a b 9).1)).2 10).1)==1) ((⟨(fq a ((Qd a b 9).2) ((Qd a b 9).1)).1.Id,(cv a ((Qd a (fq a ((Qd a b 9).2) ((Qd a b 9).1)).2 10).2) [(-1),3,4]).1,(fq a ((Qd a b 9).2) ((Qd a b 9).1)).1.o,(fq a ((Qd a b 9).2) ((Qd a b 9).1)).1.q⟩:bk),(cv a ((Qd a (fq a ((Qd a b 9).2) ((Qd a b 9).1)).2 10).2) [(-1),3,4]).2) (cond (((Qd a (fq a ((Qd a b 9).2) ((Qd a b 9).1)).2 10).1)==2) ((⟨(fq a ((Qd a b 9).2) ((Qd a b 9).1)).1.Id,(fq a ((Qd a b 9).2) ((Qd a b 9).1)).1.t,((fq a ((Qd a b 9).2) ((Qd a b 9).1)).1.o++[(⟨(Qd a ((Qd a (fq a ((Qd a b 9).2) ((Qd a b 9).1)).2 10).2) 4).1,3,(cv a (Qd a ((Qd a (fq a ((Qd a b 9).2) ((Qd a b 9).1)).2 10).2) 4).2 [2,3,99,100]).1⟩:jj)]),(fq a ((Qd a b 9).2) ((Qd a b 9).1)).1.q⟩:bk),(cv a (Qd a ((Qd a (fq a ((Qd a b 9).2) ((Qd a b 9).1)).2 10).2) 4).2 [2,3,99,100]).2) (cond (((Qd a (fq a ((Qd a b 9).2) ((Qd a b 9).1)).2 10).1)==3) ((⟨(fq a ((Qd a b 9).2) ((Qd a b 9).1)).1.Id,(fq a ((Qd a b 9).2) ((Qd a b 9).1)).1.t,(fq a ((Qd a b 9).2) ((Qd a b 9).1)).1.o,((fq a ((Qd a b 9).2) ((Qd a b 9).1)).1.q++[(cv a ((Qd a (fq a ((Qd a b 9).2) ((Qd a b 9).1)).2 10).2) [(-1),0,3]).1])⟩:bk),(cv a ((Qd a (fq a ((Qd a b 9).2) ((Qd a b 9).1)).2 10).2) [(-1),0,3]).2) ((fq a ((Qd a b 9).2) ((Qd a b 9).1)).1,((Qd a (fq a ((Qd a b 9).2) ((Qd a b 9).1)).2 10).2)))))
theorem zB:Cb Tryz.prog 107:=⟨f107,_,func107,rfl,by decide⟩
theorem Ht (B:Nat) (T:World) (is:List It) (w:World) (p:Nat) (z0:Value) (b:List Int) (m:ar) (L0:ce mn T B z0 b) (z:b.length<=68719476736) (c:Mem B T (Qa p 177 [z0,nI m.i,iV m.h]::is) w):
 Calls Tryz.prog 107 #[.pointer (sA p)] w fun e w'=>∃ x:List Value,e= .returned (.agg x.toArray)∧Mem B T (Qg es x ((kv b m).1)::Qa p 177 [z0,nI (((kv b m).2).i),iV ((kv b m).2).h]::is) w':=by
 obtain⟨_,F,M,rfl,_,X⟩:=Qn L0;refine nv (L:=[(0, .pointer (sA p))]) (N:=46) func107 rfl rfl (Nat.le_of_ble_eq_true rfl) (jl rfl mi) c ?_;have:b.length<=68719476736:=z;refine sr ?_;refine br dh rfl (Qf rfl) (by decide) (fun P=>?_);refine aa (sr (wm (wm ?_)));let K1:List Value:=[iV 0,iV 0, .slice none 0 0, .slice none 0 0];let A:List It:=Qa P 58 K1::is;refine dr (χ:=Unit) (val:=fun x=>iV ((Qd b m 9).1)) (js:=fun x=>(Qa p 177 [.slice F b.length M,nI (((Qd b m 9).2).i),iV ((Qd b m 9).2).h]::A)) (Qo iw rfl) (fun W c=>iy B T A W p _ b m X 9 z (c.front (n:=1) rfl)) (Qf rfl) (by decide) (fun _=>?_);have hb:=gv b m 9;refine dr (χ:=List Value) (val:=fun x=> .agg x.toArray) (js:=fun x=>(Qg es x ((fq b ((Qd b m 9).2) ((Qd b m 9).1)).1)::Qa p 177 [.slice F b.length M,nI (((fq b ((Qd b m 9).2) ((Qd b m 9).1)).2).i),iV ((fq b ((Qd b m 9).2) ((Qd b m 9).1)).2).h]::A)) (Qo zf rfl) (fun W c=>aB B T A W p _ b ((Qd b m 9).2) X ((Qd b m 9).1) z (c.front (n:=0) rfl)) (Qf rfl) (by decide) (fun _=>?_);have hqf:=ov b ((Qd b m 9).2) ((Qd b m 9).1);obtain⟨a,y⟩:∃ G,G=(fq b ((Qd b m 9).2) ((Qd b m 9).1)):=⟨_,rfl⟩;rw[<- y];rw[<- y] at hqf;refine ow ?_;rintro⟨_,_⟩ rfl;refine fm 0 ?_;rintro j l rfl M0;refine fm 1 ?_;rintro r u rfl N0;refine br dh rfl (Qf rfl) (by decide) (fun f=>?_);let K2:List Value:=[iV a.1.Id,iV a.1.t, .slice j a.1.o.length l, .slice r a.1.q.length u];refine eu (p:=f) (o:=0) (cs':=K2) (fun w c=>c.front (n:=0) rfl) dh rfl (Nat.le_of_ble_eq_true rfl) rfl rfl rfl rfl (Qf rfl) ?_;refine aa (Qi (sr (wm ?_)));let g:List It:=Qa f 58 K2::iS cx 180 j l a.1.o::iS Qb 3 r u a.1.q::A;refine dr (χ:=Unit) (val:=fun x=>iV ((Qd b a.2 10).1)) (js:=fun x=>(Qa p 177 [.slice F b.length M,nI (((Qd b a.2 10).2).i),iV ((Qd b a.2 10).2).h]::g)) (Qo iw rfl) (fun W c=>iy B T g W p _ b a.2 X 10 z (c.front (n:=3) rfl)) (Qf rfl) (by decide) (fun _=>?_);have hb:=gv b a.2 10;refine aa (aw (sr ?_));refine wv (fun W c=>ed rfl rfl) ?_;refine wa (aa ?_);rcases fg ((Qd b a.2 10).1) 0 with⟨D0,C⟩|⟨D0,C⟩
 ·refine Qr rfl C ?_;refine ao (wm ?_);refine eb (cs:=[iV (-1),iV 23,iV 24]) Qt Qh rfl (by decide) (by decide) rfl (by kernel_rfl) (Qf rfl) (by decide) (fun H0=>?_);refine il (fun W c=>Mem.litOwn (E:=Qb) (xs:=[(-1),23,24]) rfl (show 3<=maxLen from by decide) (fun _=>(eg (E:=Qb) (L1:=[]) cw (eg (E:=Qb) (L1:=[]) cw (eg (E:=Qb) (L1:=[]) cw ix)))) (c.front (n:=0) rfl)) ?_;let o0:It:=Qg (ab Qb 3) [.slice (sA H0) 3 3] [(-1),23,24];refine dr (χ:=Unit) (val:=fun x=>iV ((cv b ((Qd b a.2 10).2) [(-1),23,24]).1)) (js:=fun x=>(Qa p 177 [.slice F b.length M,nI (((cv b ((Qd b a.2 10).2) [(-1),23,24]).2).i),iV ((cv b ((Qd b a.2 10).2) [(-1),23,24]).2).h]::o0::g)) (Qo py rfl) (fun W c=>qi B T g W p _ b ((Qd b a.2 10).2) X _ [(-1),23,24] z (Nat.le_of_ble_eq_true rfl) (by first|decide|exact Nat.succ_pos _) ((c.front (n:=0) rfl).front (n:=1) rfl)) (Qf rfl) (by decide) (fun _=>?_);obtain⟨I,Y⟩:∃ G,G=(cv b ((Qd b a.2 10).2) [(-1),23,24]):=⟨_,rfl⟩;rw[<- Y];refine wv (vf di rfl Qh) ?_;let K3:List Value:=[iV I.1,iV a.1.t, .slice j a.1.o.length l, .slice r a.1.q.length u];refine eu (p:=f) (o:=0) (cs':=K3) (fun w c=>c.front (n:=2) rfl) Qh rfl (Nat.le_of_ble_eq_true rfl) rfl rfl rfl rfl (Qf rfl) ?_;refine bb (bq (Qj (sr ?_)));refine wv (fun W c=>Qw (cs:=K3) di dh rfl rfl (c.boxCells (n:=0) rfl)) ?_;refine eu (p:=P) (o:=0) (cs':=K3) (fun w c=>c.front (n:=5) rfl) dh rfl (Nat.le_of_ble_eq_true rfl) rfl rfl rfl rfl (Qf rfl) ?_;refine aa (Ql ?_);let K4:List Value:=[.slice F b.length M,nI I.2.i,iV I.2.h];let r0:List It:=Qa P 58 K3::Qa f 58 K3::Qa p 177 K4::o0::is;refine bz (js:=(Qg es K3 (⟨I.1,a.1.t,a.1.o,a.1.q⟩:bk)::r0)) (fun W c=>Mem.join (is:=[iS cx 180 j l a.1.o,iS Qb 3 r u a.1.q]) (js:=r0) (fun _ _ S=>th (x:=(⟨I.1,a.1.t,a.1.o,a.1.q⟩:bk)) S) ((c.front (n:=5) rfl).front (n:=5) rfl)) ?_;have c0:=(show kv b m=((⟨I.1,a.1.t,a.1.o,a.1.q⟩:bk),I.2) from by subst y Y;exact Qc C (rfl));refine fj rfl (cr (n:=1) rfl rfl di dh rfl) (fun W c=>⟨K3,?_,?_⟩)
  ·first|rw[c0]|rfl
  rw[c0];exact(c.pickN 5 [0,3] (by decide))
 refine ah rfl C ?_;refine sr ?_;refine wv (fun W c=>ed rfl rfl) ?_;refine wa (aa ?_);rcases fg ((Qd b a.2 10).1) 1 with⟨E0,O⟩|⟨E0,O⟩
 ·refine Qr rfl O ?_;refine ao (wm ?_);refine eb (cs:=[iV (-1),iV 3,iV 4]) Qt Qh rfl (by decide) (by decide) rfl (by kernel_rfl) (Qf rfl) (by decide) (fun I0=>?_);refine il (fun W c=>Mem.litOwn (E:=Qb) (xs:=[(-1),3,4]) rfl (show 3<=maxLen from by decide) (fun _=>(eg (E:=Qb) (L1:=[]) cw (eg (E:=Qb) (L1:=[]) cw (eg (E:=Qb) (L1:=[]) cw ix)))) (c.front (n:=0) rfl)) ?_;let p0:It:=Qg (ab Qb 3) [.slice (sA I0) 3 3] [(-1),3,4];refine dr (χ:=Unit) (val:=fun x=>iV ((cv b ((Qd b a.2 10).2) [(-1),3,4]).1)) (js:=fun x=>(Qa p 177 [.slice F b.length M,nI (((cv b ((Qd b a.2 10).2) [(-1),3,4]).2).i),iV ((cv b ((Qd b a.2 10).2) [(-1),3,4]).2).h]::p0::g)) (Qo py rfl) (fun W c=>qi B T g W p _ b ((Qd b a.2 10).2) X _ [(-1),3,4] z (Nat.le_of_ble_eq_true rfl) (by first|decide|exact Nat.succ_pos _) ((c.front (n:=0) rfl).front (n:=1) rfl)) (Qf rfl) (by decide) (fun _=>?_);obtain⟨J,Z⟩:∃ G,G=(cv b ((Qd b a.2 10).2) [(-1),3,4]):=⟨_,rfl⟩;rw[<- Z];refine wv (vf di rfl Qh) ?_;let K5:List Value:=[iV a.1.Id,iV J.1, .slice j a.1.o.length l, .slice r a.1.q.length u];refine eu (p:=f) (o:=1) (cs':=K5) (fun w c=>c.front (n:=2) rfl) Qh rfl (Nat.le_of_ble_eq_true rfl) rfl rfl rfl rfl (Qf rfl) ?_;refine bb (bq (Qj (sr ?_)));refine wv (fun W c=>Qw (cs:=K5) di dh rfl rfl (c.boxCells (n:=0) rfl)) ?_;refine eu (p:=P) (o:=0) (cs':=K5) (fun w c=>c.front (n:=5) rfl) dh rfl (Nat.le_of_ble_eq_true rfl) rfl rfl rfl rfl (Qf rfl) ?_;refine aa (Ql ?_);let K6:List Value:=[.slice F b.length M,nI J.2.i,iV J.2.h];let s0:List It:=Qa P 58 K5::Qa f 58 K5::Qa p 177 K6::p0::is;refine bz (js:=(Qg es K5 (⟨a.1.Id,J.1,a.1.o,a.1.q⟩:bk)::s0)) (fun W c=>Mem.join (is:=[iS cx 180 j l a.1.o,iS Qb 3 r u a.1.q]) (js:=s0) (fun _ _ S=>th (x:=(⟨a.1.Id,J.1,a.1.o,a.1.q⟩:bk)) S) ((c.front (n:=5) rfl).front (n:=5) rfl)) ?_;have d0:=(show kv b m=((⟨a.1.Id,J.1,a.1.o,a.1.q⟩:bk),J.2) from by subst y Z;exact Qe C (Qc O (rfl)));refine fj rfl (cr (n:=1) rfl rfl di dh rfl) (fun W c=>⟨K5,?_,?_⟩)
  ·first|rw[d0]|rfl
  rw[d0];exact(c.pickN 5 [0,3] (by decide))
 refine ah rfl O ?_;refine sr ?_;refine wv (fun W c=>ed rfl rfl) ?_;refine wa (aa ?_);rcases fg ((Qd b a.2 10).1) 2 with⟨F0,R⟩|⟨F0,R⟩
 ·refine Qr rfl R ?_;obtain⟨d,D⟩:∃ G,G=(Qd b ((Qd b a.2 10).2) 4):=⟨_,rfl⟩;let V:List It:=Qa f 58 K2::iS Qb 3 r u a.1.q::A;refine im 12 [11] (s:=(iS Qb 3 r u a.1.q::A)) (s2:=V) (pn 5 [3,4]) (pn 5 [1,3,4]) ?_;let K7:List Value:=[.slice F b.length M,nI d.2.i,iV d.2.h];refine qx (σ:=Nat) (fun s=>V) 12 63 6 (fun s=>[(2,bp P),(3,bp f),(25, .slice j a.1.o.length l),(28,bp p),(27,iV d.1),(29, .slice (sA s) 4 4)]) (fun s=>(Qa s 3 [iV 2,iV 3,iV 99,iV 100]::Qa p 177 K7::g)) ?_ (fun H=>?_)
  ·rintro l0;show QD _ _ _ _ _ _ _ _ [(2,bp P),(3,bp f),(25, .slice j a.1.o.length l),(28,bp p),(27,iV d.1),(29, .slice (sA l0) 4 4)] _ V _ (Qa l0 3 [iV 2,iV 3,iV 99,iV 100]::Qa p 177 K7::g);refine bc 12 6 127 rfl ?_;refine il (fun W c=>Mem.litOwn (E:=Qb) (xs:=[2,3,99,100]) rfl (show 4<=maxLen from by decide) (fun _=>(eg (E:=Qb) (L1:=[]) cw (eg (E:=Qb) (L1:=[]) cw (eg (E:=Qb) (L1:=[]) cw (eg (E:=Qb) (L1:=[]) cw ix))))) (c.front (n:=0) rfl)) ?_;let i0:It:=Qg (ab Qb 3) [.slice (sA l0) 4 4] [2,3,99,100];refine dr (χ:=Unit) (val:=fun x=>iV ((cv b d.2 [2,3,99,100]).1)) (js:=fun x=>(Qa p 177 [.slice F b.length M,nI (((cv b d.2 [2,3,99,100]).2).i),iV ((cv b d.2 [2,3,99,100]).2).h]::i0::g)) (Qo py rfl) (fun W c=>qi B T g W p _ b d.2 X _ [2,3,99,100] z (Nat.le_of_ble_eq_true rfl) (by first|decide|exact Nat.succ_pos _) ((c.front (n:=0) rfl).front (n:=1) rfl)) (Qf rfl) (by decide) (fun _=>?_);obtain⟨k,a0⟩:∃ G,G=(cv b d.2 [2,3,99,100]):=⟨_,rfl⟩;rw[<- a0];refine aq (pn 6 [4,5]) (pn 6 [2,4,5]) ?_;refine ae 12 7 255 rfl (fun W c=>fl (cs:=[iV d.1,iV 3,iV k.1]) rfl (by kernel_rfl)) ?_;refine bc 12 8 511 rfl ?_;refine eb (cs:=[iV d.1,iV 3,iV k.1]) gr ld rfl (by decide) (by decide) rfl (by kernel_rfl) (Qf rfl) (by decide) (fun _=>?_);refine aq (pn 7 [5,6]) (pn 7 [3,5,6]) ?_;refine bc 12 9 1023 rfl ?_;let K8:List Value:=[.slice F b.length M,nI k.2.i,iV k.2.h];refine ga cx 180 (.slice j a.1.o.length l) a.1.o (⟨d.1,3,k.1⟩:jj) [] (Qa p 177 K8::i0::V) [iV d.1,iV 3,iV k.1] (fun W c=>((c.front (n:=4) rfl).front (n:=1) rfl)) (fun _ _ S=>by cases (Sep.nil S);exact(eg (yx (x:=(⟨d.1,3,k.1⟩:jj)) (L:=[]) rfl) ix)) gr ld (show(a.1.o.length+1)*24<=140737488355328 from by omega) (fun _=>?_);refine fm 0 ?_;rintro m0 A0 rfl O0;refine aq (pn 6 [4,5]) (pn 6 [3,4,5]) ?_;refine ae 12 10 2047 rfl (vf di rfl lf) ?_;refine bc 12 11 4095 rfl ?_;let K9:List Value:=[iV a.1.Id,iV a.1.t, .slice m0 (a.1.o++[(⟨d.1,3,k.1⟩:jj)]).length A0, .slice r a.1.q.length u];refine eu (p:=f) (o:=2) (cs':=K9) (fun w c=>c.front (n:=3) rfl) lf rfl (Nat.le_of_ble_eq_true rfl) rfl rfl rfl rfl (Qf rfl) ?_;refine ik (pn 6 [4,5]) ?_;refine fr (by kernel_rfl) ?_;refine bq (Qj (sr ?_));refine wv (fun W c=>Qw (cs:=K9) di dh rfl rfl (c.boxCells (n:=0) rfl)) ?_;refine eu (p:=P) (o:=0) (cs':=K9) (fun w c=>c.front (n:=5) rfl) dh rfl (Nat.le_of_ble_eq_true rfl) rfl rfl rfl rfl (Qf rfl) ?_;refine aa (Ql ?_);let t0:List It:=Qa P 58 K9::Qa f 58 K9::Qa p 177 K8::i0::is;refine bz (js:=(Qg es K9 (⟨a.1.Id,a.1.t,(a.1.o++[(⟨d.1,3,k.1⟩:jj)]),a.1.q⟩:bk)::t0)) (fun W c=>Mem.join (is:=[iS cx 180 m0 A0 (a.1.o++[(⟨d.1,3,k.1⟩:jj)]),iS Qb 3 r u a.1.q]) (js:=t0) (fun _ _ S=>th (x:=(⟨a.1.Id,a.1.t,(a.1.o++[(⟨d.1,3,k.1⟩:jj)]),a.1.q⟩:bk)) S) ((c.front (n:=5) rfl).front (n:=3) rfl)) ?_;have e0:=(show kv b m=((⟨a.1.Id,a.1.t,(a.1.o++[(⟨d.1,3,k.1⟩:jj)]),a.1.q⟩:bk),k.2) from by subst y D a0;exact Qe C (Qe O (Qc R (rfl))));refine fj rfl (cr (n:=1) rfl rfl di dh rfl) (fun W c=>⟨K9,?_,?_⟩)
   ·first|rw[e0]|rfl
   rw[e0];exact(c.pickN 5 [0,3] (by decide))
  refine ae 12 0 1 rfl (vf di rfl lf) ?_;refine ae 12 1 3 rfl (vl 0 2 gr) ?_;refine ae 12 2 7 rfl ap ?_;refine ae 12 4 23 rfl ap ?_;refine ju [3,5] ?_;refine fa 12 31 rfl ?_ ?_
  ·refine dr (χ:=Unit) (val:=fun x=>iV ((Qd b ((Qd b a.2 10).2) 4).1)) (js:=fun x=>(Qa p 177 [.slice F b.length M,nI (((Qd b ((Qd b a.2 10).2) 4).2).i),iV ((Qd b ((Qd b a.2 10).2) 4).2).h]::g)) (Qo iw rfl) (fun W c=>iy B T g W p _ b ((Qd b a.2 10).2) X 4 z (c.front (n:=0) rfl)) (Qf rfl) (by decide) (fun _=>?_);have hb:=gv b ((Qd b a.2 10).2) 4;rw[<- D];rw[<- D] at hb;refine aq (pn 5 [3,4]) (pn 5 [1,3,4]) ?_;refine bc 12 5 63 rfl ?_;refine eb (cs:=[iV 2,iV 3,iV 99,iV 100]) Qt Qh rfl (by decide) (by decide) rfl (by kernel_rfl) (Qf rfl) (by decide) (fun J0=>?_);refine aq (pn 6 [4,5]) (pn 6 [2,4,5]) ?_;exact gp li ai (H J0)
  refine fa 12 55 rfl ?_ ?_
  ·refine eb (cs:=[iV 2,iV 3,iV 99,iV 100]) Qt Qh rfl (by decide) (by decide) rfl (by kernel_rfl) (Qf rfl) (by decide) (fun C0=>?_);refine aq (pn 6 [4,5]) (pn 6 [2,4,5]) ?_;refine bc 12 3 63 rfl ?_;let q0:It:=Qa C0 3 [iV 2,iV 3,iV 99,iV 100];refine dr (χ:=Unit) (val:=fun x=>iV ((Qd b ((Qd b a.2 10).2) 4).1)) (js:=fun x=>(Qa p 177 [.slice F b.length M,nI (((Qd b ((Qd b a.2 10).2) 4).2).i),iV ((Qd b ((Qd b a.2 10).2) 4).2).h]::(q0::g))) (Qo iw rfl) (fun W c=>iy B T (q0::g) W p _ b ((Qd b a.2 10).2) X 4 z (c.front (n:=1) rfl)) (Qf rfl) (by decide) (fun _=>?_);have hb:=gv b ((Qd b a.2 10).2) 4;rw[<- D];rw[<- D] at hb;refine aq (pn 6 [4,5]) (pn 6 [2,4,5]) ?_;exact gp li (pn 6 [1,0,2,3,4,5]) (H C0)
  exact jk
 refine ah rfl R ?_;refine sr ?_;refine wv (fun W c=>ed rfl rfl) ?_;refine wa (aa ?_);rcases fg ((Qd b a.2 10).1) 3 with⟨G0,U⟩|⟨G0,U⟩
 ·refine Qr rfl U ?_;let k0:List It:=iS cx 180 j l a.1.o::A;refine im 9 [8] (s:=k0) (s2:=(Qa f 58 K2::k0)) (pn 5 [2,4]) (pn 5 [1,2,4]) ?_;refine ae 9 0 1 rfl (vf di rfl cg) ?_;refine ae 9 1 3 rfl (vl 0 3 Qt) ?_;refine ae 9 2 7 rfl ap ?_;refine bc 9 3 15 rfl ?_;refine eb (cs:=[iV (-1),iV 0,iV 3]) Qt Qh rfl (by decide) (by decide) rfl (by kernel_rfl) (Qf rfl) (by decide) (fun K0=>?_);refine aq (pn 6 [3,5]) (pn 6 [2,3,5]) ?_;refine bc 9 4 31 rfl ?_;refine il (fun W c=>Mem.litOwn (E:=Qb) (xs:=[(-1),0,3]) rfl (show 3<=maxLen from by decide) (fun _=>(eg (E:=Qb) (L1:=[]) cw (eg (E:=Qb) (L1:=[]) cw (eg (E:=Qb) (L1:=[]) cw ix)))) (c.front (n:=0) rfl)) ?_;let j0:It:=Qg (ab Qb 3) [.slice (sA K0) 3 3] [(-1),0,3];refine dr (χ:=Unit) (val:=fun x=>iV ((cv b ((Qd b a.2 10).2) [(-1),0,3]).1)) (js:=fun x=>(Qa p 177 [.slice F b.length M,nI (((cv b ((Qd b a.2 10).2) [(-1),0,3]).2).i),iV ((cv b ((Qd b a.2 10).2) [(-1),0,3]).2).h]::j0::g)) (Qo py rfl) (fun W c=>qi B T g W p _ b ((Qd b a.2 10).2) X _ [(-1),0,3] z (Nat.le_of_ble_eq_true rfl) (by first|decide|exact Nat.succ_pos _) ((c.front (n:=0) rfl).front (n:=1) rfl)) (Qf rfl) (by decide) (fun _=>?_);obtain⟨v,b0⟩:∃ G,G=(cv b ((Qd b a.2 10).2) [(-1),0,3]):=⟨_,rfl⟩;rw[<- b0];refine aq (pn 6 [3,5]) (pn 6 [2,3,5]) ?_;refine bc 9 5 63 rfl ?_;refine eb (cs:=[iV v.1]) Qt Qh rfl (by decide) (by decide) rfl (by kernel_rfl) (Qf rfl) (by decide) (fun _=>?_);refine aq (pn 7 [4,6]) (pn 7 [3,4,6]) ?_;refine bc 9 6 127 rfl ?_;let v0:List Value:=[.slice F b.length M,nI v.2.i,iV v.2.h];refine ga Qb 3 (.slice r a.1.q.length u) a.1.q v.1 [] (Qa p 177 v0::j0::Qa f 58 K2::k0) [iV v.1] (fun W c=>((c.front (n:=5) rfl).front (n:=1) rfl)) (fun _ _ S=>by cases (Sep.nil S);exact(eg cw ix)) Qt Qh (show(a.1.q.length+1)*8<=140737488355328 from by omega) (fun _=>?_);refine fm 0 ?_;rintro n0 B0 rfl P0;refine aq (pn 6 [4,5]) (pn 6 [3,4,5]) ?_;refine ae 9 7 255 rfl (vf di rfl cg) ?_;refine bc 9 8 511 rfl ?_;let K:List Value:=[iV a.1.Id,iV a.1.t, .slice j a.1.o.length l, .slice n0 (a.1.q++[v.1]).length B0];refine eu (p:=f) (o:=3) (cs':=K) (fun w c=>c.front (n:=3) rfl) cg rfl (Nat.le_of_ble_eq_true rfl) rfl rfl rfl rfl (Qf rfl) ?_;refine ik (pn 6 [4,5]) ?_;refine fr (by kernel_rfl) ?_;refine bq (Qj (sr ?_));refine wv (fun W c=>Qw (cs:=K) di dh rfl rfl (c.boxCells (n:=0) rfl)) ?_;refine eu (p:=P) (o:=0) (cs':=K) (fun w c=>c.front (n:=5) rfl) dh rfl (Nat.le_of_ble_eq_true rfl) rfl rfl rfl rfl (Qf rfl) ?_;refine aa (Ql ?_);let u0:List It:=Qa P 58 K::Qa f 58 K::Qa p 177 v0::j0::is;refine bz (js:=(Qg es K (⟨a.1.Id,a.1.t,a.1.o,(a.1.q++[v.1])⟩:bk)::u0)) (fun W c=>Mem.join (is:=[iS cx 180 j l a.1.o,iS Qb 3 n0 B0 (a.1.q++[v.1])]) (js:=u0) (fun _ _ S=>th (x:=(⟨a.1.Id,a.1.t,a.1.o,(a.1.q++[v.1])⟩:bk)) S) ((c.front (n:=2) rfl).front (n:=5) rfl)) ?_;have g0:=(show kv b m=((⟨a.1.Id,a.1.t,a.1.o,(a.1.q++[v.1])⟩:bk),v.2) from by subst y b0;exact Qe C (Qe O (Qe R (Qc U (rfl)))));refine fj rfl (cr (n:=1) rfl rfl di dh rfl) (fun W c=>⟨K,?_,?_⟩)
  ·first|rw[g0]|rfl
  rw[g0];exact(c.pickN 5 [0,3] (by decide))
 refine ah rfl U ?_;refine an (bq (Qj (sr ?_)));refine wv (fun W c=>Qw (cs:=K2) di dh rfl rfl (c.boxCells (n:=1) rfl)) ?_;refine eu (p:=P) (o:=0) (cs':=K2) (fun w c=>c.front (n:=4) rfl) dh rfl (Nat.le_of_ble_eq_true rfl) rfl rfl rfl rfl (Qf rfl) ?_;refine aa (Ql ?_);let y0:List Value:=[.slice F b.length M,nI (((Qd b a.2 10).2).i),iV (((Qd b a.2 10).2).h)];refine bz (js:=(Qg es K2 a.1::(Qa P 58 K2::Qa p 177 y0::Qa f 58 K2::is))) (fun W c=>Mem.join (is:=[iS cx 180 j l a.1.o,iS Qb 3 r u a.1.q]) (js:=(Qa P 58 K2::Qa p 177 y0::Qa f 58 K2::is)) (fun _ _ S=>th (x:=a.1) S) ((c.front (n:=4) rfl).front (n:=4) rfl)) ?_;have h0:=(show kv b m=(a.1,((Qd b a.2 10).2)) from by subst y;exact Qe C (Qe O (Qe R (Qe U (rfl)))));refine fj rfl (cr (n:=1) rfl rfl di dh rfl) (fun W c=>⟨K2,?_,?_⟩)
 ·first|rw[h0]|rfl
 rw[h0];exact((((c.front (n:=2) rfl).front (n:=1) rfl).front (n:=2) rfl).tail.front (n:=2) rfl).tail
end Go.Proofs.YtdlminfjdodjoaaGreat
