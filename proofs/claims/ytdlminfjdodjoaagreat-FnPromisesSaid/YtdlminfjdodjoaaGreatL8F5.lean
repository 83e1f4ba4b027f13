/-
  Contracts of functions,printed by a program of ours.
-/
import Derived.Test.YtdlminfjdodjoaaGreatL8F4
namespace Go.Proofs.YtdlminfjdodjoaaGreat
set_option linter.unusedVariables false
set_option linter.unusedSimpArgs false
open Go.RowKit
set_option maxRecDepth 100000
set_option maxHeartbeats 4000000
open _root_.Go.Proofs.Tryz
def vb (d:Qj) (c:Nat) (b:(List Int)):(List Int)⊕((List Int)):=
 cond (qb (gt d.a c)) (cond (ov ((gt d.a c).t) d.j) (Sum.inr (b++[(gt d.a c).e.Id])) (Sum.inr b)) (Sum.inr b)
def fb (b:Qj):(List Int):=
 cond (mn b) (Sum.elim id (fun(s:(List Int))=>s) (ay (R:=(List Int)) (fun k (s:(List Int))=>vb b k s) (b.a.length-0) 0 [])) []
theorem Oz:Cb Tryz.prog 22:=⟨f22,_,func22,rfl,by decide⟩
theorem Bn (w:World) (z0:List Value) (h:Qj) (O0:cv.rd w w.heap.size z0 h) (B:ju 68719476736 h):
 Calls Tryz.prog 22 #[.agg z0.toArray] w (rL w (ab Qb 3) (fb h)):=by
 obtain⟨_,_,_,_,_,rfl,r2,r4,r6,r8,B0⟩:=mg O0;obtain⟨_,P,Y,rfl,_,C0⟩:=Ql r2;obtain⟨_,T,Z,rfl,_,D0⟩:=Ql r4;obtain⟨_,U,K,rfl,A0,E0⟩:=Ql r6;obtain⟨_,V,a0,rfl,_,F0⟩:=Ql r8;obtain⟨_,X,b0,rfl,_,G0⟩:=Ql B0;have:h.d.c.length<=68719476736:=B.1.1;have:=B.2.1;have:=B.2.2.1.1;have:=B.2.2.2.1.1;have:=B.2.2.2.2.1;refine fp (L:=[(0, .agg #[.slice P h.d.c.length Y,iV h.d.g,iV h.j, .slice T h.l.length Z, .slice U h.a.length K, .slice V h.f.length a0, .slice X h.k.length b0,iV h.n])]) (N:=35) func22 ?_;refine sr ?_;refine dq rfl (Qe rfl) (by decide) (fun M=>?_);refine wa (aa (sr ?_));refine eh (E:=Qb) Qq Qg (Qe rfl) (by decide) (fun m0=>?_);refine wa (aa (Qk (sr ?_)));let K1:List Value:=[.slice P h.d.c.length Y,iV h.d.g,iV h.j, .slice T h.l.length Z, .slice U h.a.length K, .slice V h.f.length a0, .slice X h.k.length b0,iV h.n];refine wv (fun W y=>Qv (cs:=K1) Qs ai rfl rfl (y.boxCells (n:=1) rfl)) ?_;refine eo (Qp zp rfl) (fun W y=>zv W _ h (gm (x:=h) (y.rdS0 C0) (y.rdS0 D0) (y.rdS0 E0) (y.rdS0 F0) (y.rdS0 G0)) B) ?_;refine wv dc ?_;refine aa ?_;rcases bd (mn h) with G|G
 ·refine Qw rfl (nt G) ?_;refine aj (Qi (Qk (sr ?_)));refine wv (vf Qs rfl dw) ?_;refine wv (vl 1 4 bj) ?_;refine wv (bc bj) ?_;refine wm (aa (aw ?_));refine dj (S:=(List Int)) (R:=Option Addr×Nat) (fun k (s:(List Int))=>vb h k s) h.a.length 0 [] ((sA m0),0) (fun s=>[(1,bp M),(3, .slice s.2.2.1 s.2.1.length s.2.2.2),(12, .slice U h.a.length K),(13,nI h.a.length),(14,nI s.1)]) (fun s=>[iS Qb 3 s.2.2.1 s.2.2.2 s.2.1,Qa M 39 K1]) (fun s=>s.2.1.length<=0+s.1) jw (Nat.le_refl _) ?_;rintro⟨b,i,⟨D,F⟩⟩ g0 _ _ e e';dsimp only at g0 ⊢;subst e e';obtain⟨_,C,_⟩:=g0;refine sr ?_;refine wv cz ?_;refine aa (Qk ?_);rcases dp b h.a.length with⟨O,c0⟩|⟨O,c0⟩
  ·refine Qr rfl c0 ?_;refine aj (Qi (Qk (aw (sr ?_))));obtain⟨h0,rfl,j0,l0⟩:=A0 (by omega);refine wv (bx 10 b bj bz) ?_;obtain⟨_,w0,k0⟩:=l0 b _ (dz (show b<h.a.length from by omega));obtain⟨_,_,_,_,rfl,H0,I0,J0,K0⟩:=mw w0;have:=(B.2.2.1.2 _ (bl (show b<h.a.length from by omega))).1.1;have:=(B.2.2.1.2 _ (bl (show b<h.a.length from by omega))).1.2;have:=(B.2.2.1.2 _ (bl (show b<h.a.length from by omega))).2.1;have:=(B.2.2.1.2 _ (bl (show b<h.a.length from by omega))).2.2.1;obtain⟨_,o0,s0,rfl,_,L0⟩:=Ql H0;obtain⟨_,p0,t0,rfl,_,M0⟩:=Ql I0;obtain⟨_,q0,u0,rfl,_,n0⟩:=Ql J0;obtain⟨_,r0,v0,rfl,_,N0⟩:=Ql K0;let K2:List Value:=[iV ((gt h.a b).e.Id),iV ((gt h.a b).e.u), .slice o0 ((gt h.a b).e.o).length s0, .slice p0 ((gt h.a b).e.q).length t0,iV ((gt h.a b).r), .slice q0 ((gt h.a b).t).length u0,iV ((gt h.a b).v),iV ((gt h.a b).A),iV ((gt h.a b).z), .slice r0 ((gt h.a b).p).length v0];refine wv (fun W y=>Qv (cs:=K2) bu bz rfl rfl (y.elCells (show(h0.add (b*10)).block<w.heap.size from by rw[bh];exact j0.1) k0)) ?_;refine ca bz rfl (Qe rfl) (by decide) (fun y0=>?_);let K3:List Value:=[.slice P h.d.c.length Y,iV h.d.g,iV h.j, .slice T h.l.length Z, .slice (some h0) h.a.length K, .slice V h.f.length a0, .slice X h.k.length b0,iV h.n];refine sb 0 K2 [iS Qb 3 D F i,Qa M 39 K3] ag bz ?_;refine aa (sr ?_);refine wv (fun W y=>Qv (cs:=K2) bu bz rfl rfl (y.boxCells (n:=0) rfl)) ?_;refine eo (Qp Pt rfl) (fun W y=>Cy W _ (gt h.a b) (cZ (x:=(gt h.a b)) (y.rdS0 L0) (y.rdS0 M0) (y.rdS0 n0) (y.rdS0 N0))) ?_;refine wm ?_;rcases bd (qb (gt h.a b)) with m|m
   ·refine wg (vf bu rfl cb) m ?_;refine wg (vl 0 5 Qq) m ?_;refine wg (vf Qs rfl Qg) m ?_;refine wg (vl 2 2 Qu) m ?_;refine ek (Qp oP rfl) (fun W y=>iG W _ ((gt h.a b).t) h.j (y.rdS0 n0)) (bg rfl rfl rfl (bw m rfl)) (by decide) ?_;refine wv (aq m) ?_;refine aa ?_;rcases bd (ov ((gt h.a b).t) h.j) with H|H
    ·refine Qr rfl H ?_;refine ak (wm ?_);refine wv (vf bu rfl cn) ?_;refine wv (fun W y=>ir (o:=0) cr rfl Qg (by decide) rfl rfl) ?_;refine wv (vl 0 0 Qu) ?_;refine di (cs:=[iV ((gt h.a b).e.Id)]) Qq Qg rfl (by decide) (by decide) rfl (by kernel_rfl) (Qe rfl) (by decide) (fun _=>?_);refine fi Qb 3 (.slice D i.length F) i ((gt h.a b).e.Id) [] [Qa y0 61 K2,Qa M 39 K3] [iV ((gt h.a b).e.Id)] (pk [0,2,1,3]) (fun _ _ hs=>by cases (Sep.nil hs);exact(du cq ic)) Qq Qg (show(i.length+1)*8<=140737488355328 from by omega) (fun _=>?_);refine fm 0 ?_;rintro e0 i0 rfl R0;refine wa (au (bi (Qi (ak ?_))));refine wv (bs b 1 (by omega)) ?_;refine wm (au ?_);exact br (b+1,(i++[(gt h.a b).e.Id]),(e0,i0)) jw (pk [0,2]) ⟨(by omega),nx C (Qd m (Qd H (rfl))),(show(i++[(gt h.a b).e.Id]).length<=0+(b+1) from by first|omega|(simp only[List.length_append,List.length_cons,List.length_nil] at *;omega))⟩ rl
    refine Qw rfl H ?_;refine aj (bi (Qi (ak ?_)));refine wv (bs b 1 (by omega)) ?_;refine wm (au ?_);exact br (b+1,i,(D,F)) jw (pk [1,2]) ⟨(by omega),nx C (Qd m (Qf H (rfl))),(show i.length<=0+(b+1) from by first|omega|(simp only[List.length_append,List.length_cons,List.length_nil] at *;omega))⟩ rl
   iterate 6 first|refine ws m ?_|refine wv (an m) ?_
   refine aa ?_;refine Qw rfl rfl ?_;refine aj (bi (Qi (ak ?_)));refine wv (bs b 1 (by omega)) ?_;refine wm (au ?_);exact br (b+1,i,(D,F)) jw (pk [1,2]) ⟨(by omega),nx C (Qf m (rfl)),(show i.length<=0+(b+1) from by first|omega|(simp only[List.length_append,List.length_cons,List.length_nil] at *;omega))⟩ rl
  refine Qw rfl c0 ?_;refine co (ao (ao ?_));have d0:=dk O C;refine cp (Qi (sr (wm (wa (aa (Qm ?_))))));have I:=(show fb h=i from Qd G (bt d0 (rfl)));refine ep rfl (dm rfl) (fun W y=>⟨.slice D i.length F,?_,?_⟩)
  ·first|rw[I]|rfl
  rw[I];exact(y.pick [0] (by decide))
 refine Qr rfl (nf G) ?_;refine sr (wm (wa (aa (Qm (Qo ?_)))));have J:=(show fb h=[] from Qf G (rfl));refine ep rfl (dm rfl) (fun W y=>⟨.slice (sA m0) 0 0,?_,?_⟩)
 ·first|rw[J]|rfl
 rw[J];exact(y.pick [0] (by decide))
theorem xc {n:Nat} {b:Nat->Unit->Bool⊕Unit} (h:∀ j,b j ()= .inr ()∨b j ()= .inl false):∀ m k,ay b m k ()= .inr ()∨ay b m k ()= .inl false
 |0,_=> .inl rfl
 |m+1,k=>by
  rcases h k with a|a
  ·rw[ay,a];exact xc (n:=n) h m (k+1)
  right;rw[ay,a];rfl
theorem zj (x a b:Int):fw x a b=ci x a b:=rfl
theorem vF (x:List Int) (k:Nat):qG x k=nL x k:=by
 unfold qG nL ci
 by_cases b:gt x k<0
 ·have a: ¬ 0<=gt x k:=by omega
  simp only[decide_eq_true b,decide_eq_false a,cond_true,cond_false]
 have a:0<=gt x k:=by omega
 by_cases d:24<=gt x k
 ·have c: ¬ gt x k<=23:=by omega
  simp only[decide_eq_false b,decide_eq_true a,decide_eq_true d,decide_eq_false c,cond_true,cond_false]
 have c:gt x k<=23:=by omega
 simp only[decide_eq_false b,decide_eq_true a,decide_eq_false d,decide_eq_true c,cond_true,cond_false]
theorem vG (x:List Int):bL x=nk x:=by
 unfold bL nk;simp only[vF]
theorem vB (x:fy) (k:Nat):Oo x k=vh x k:=rfl
theorem vC (x:fy) (k:Nat):vh x k= .inr ()∨vh x k= .inl false:=by
 unfold vh;cases ci (gt x.B k) 0 3 <;>cases ci (gt x.p k) 0 x.C <;>simp
theorem vD (x:fy):zu x=qw x:=by
 unfold zu qw;rw[vG];simp only[vB,zj];have d:ci ((x.w.length:Nat):Int) 1 8=cond (((x.w.length:Nat):Int)==0) false (cond (decide (8<((x.w.length:Nat):Int))) false true):=by
  unfold ci
  by_cases a:((x.w.length:Nat):Int)=0
  ·rw[beq_iff_eq.2 a,decide_eq_false (show ¬ 1<=((x.w.length:Nat):Int) by omega)];rfl
  rw[beq_eq_false_iff_ne.2 a,decide_eq_true (show 1<=((x.w.length:Nat):Int) by omega)]
  by_cases c:8<((x.w.length:Nat):Int)
  ·rw[decide_eq_true c,decide_eq_false (show ¬ ((x.w.length:Nat):Int)<=8 by omega)];rfl
  rw[decide_eq_false c,decide_eq_true (show((x.w.length:Nat):Int)<=8 by omega)];rfl
 rw[d];have hr:=xc (n:=0) (b:=fun k (_:Unit)=>vh x k) (vC x) (x.w.length-0) 0;rcases hr with hr|hr <;>rw[hr] <;>cases nk x.w <;>cases (((x.w.length:Nat):Int)==0) <;>cases (decide (8<((x.w.length:Nat):Int))) <;>
  cases (((x.B.length:Nat):Int) !=((x.w.length:Nat):Int)) <;>cases (((x.p.length:Nat):Int) !=((x.w.length:Nat):Int)) <;>cases ci x.D 0 7 <;>cases ci x.C 0 4 <;>rfl
theorem Df (x:Int):bQ x=ci x 0 2:=rfl
def rh (now:Int) (seen:List Qz) (v:Qz):Bool:=ms v now && seen.all fun w=> !(v.Id==w.Id && qp v w)
theorem jO (ok:List Qz->Qz->Bool):∀ (s t seen:List Qz),ks ok seen (s++t)=(ks ok seen s && ks ok (seen++s) t)
 | [],t,seen=>by simp[ks]
 |v::s,t,seen=>by
  show(ok seen v && ks ok (seen++[v]) (s++t))=_;rw[jO ok s t];simp[ks,Bool.and_assoc]
theorem gB (ok:List Qz->Qz->Bool):∀ (l seen:List Qz),tg (fun d v=>ok d v) (fun d v=>d++[v]) l seen=cond (ks ok seen l) (some (seen++l)) none
 | [],seen=>by simp[tg,ks]
 |v::l,seen=>by
  rw[tg,gB ok l];show _=cond (ok seen v && ks ok (seen++[v]) l) _ _;cases ok seen v <;>simp
theorem Bv (x:ah) (i j:Nat) (d:List Qz):ay (R:=Bool) (fun k (_:Unit)=>mT x i j d k) (d.length-0) 0 ()=cond (d.all fun w=> !((gt (gt x.c i) j).Id==w.Id && qp (gt (gt x.c i) j) w)) (.inr ()) (.inl false):=
 bZ fun k _=>by
  unfold mT;cases (gt (gt x.c i) j).Id==(gt d k).Id <;>cases qp (gt (gt x.c i) j) (gt d k) <;>rfl
theorem Bu (x:ah) (i j:Nat) (d:List Qz):qI x i j d=cond (rh x.g d (gt (gt x.c i) j)) (.inr (d++[gt (gt x.c i) j])) (.inl false):=by
 have a:(fun k (_:Unit)=>Ot x i j d k)=fun k (_:Unit)=>mT x i j d k:=rfl
 unfold qI rh;rw[a,Bv,pD,qV,qV];have hr:uf (od (gt (gt x.c i) j))=kr (⟨(gt (gt x.c i) j).Id,(gt (gt x.c i) j).m⟩:ax):=rfl;rw[hr];have hn:((gt (gt x.c i) j).y !=(-1))= !((gt (gt x.c i) j).y==(-1)):=rfl;rw[hn];cases kr (⟨(gt (gt x.c i) j).Id,(gt (gt x.c i) j).m⟩:ax) <;>cases decide (0<=(gt (gt x.c i) j).x∧(gt (gt x.c i) j).x<=x.g) <;>cases (gt (gt x.c i) j).y==(-1) <;>
  cases decide (IntKind.i64.wrap ((gt (gt x.c i) j).x+1)<=(gt (gt x.c i) j).y∧(gt (gt x.c i) j).y<=x.g) <;>cases (d.all fun w=> !((gt (gt x.c i) j).Id==w.Id && qp (gt (gt x.c i) j) w)) <;>rfl
theorem Bt (x:ah) (i:Nat) (d:List Qz):qH x i d=cond (decide ((gt x.c i).length<=4) && ks (rh x.g) d (gt x.c i)) (.inr (d++gt x.c i)) (.inl false):=by
 unfold qH;rw[jD (xs:=gt x.c i) (r:=false) (c:=fun d v=>rh x.g d v) (f:=fun d v=>d++[v]) (fun j s _=>Bu x i j s),gB]
 by_cases h:(gt x.c i).length<=4
 ·rw[decide_eq_true h,decide_eq_false (show ¬ 4<((gt x.c i).length:Int) by omega)];cases ks (rh x.g) d (gt x.c i) <;>rfl
 rw[decide_eq_false h,decide_eq_true (show 4<((gt x.c i).length:Int) by omega)];rfl
theorem gC (ok:List Qz->Qz->Bool):∀ (l:List (List Qz)) (d:List Qz),tg (fun d s=>decide (s.length<=4) && ks ok d s) (fun d s=>d++s) l d=cond (l.all (fun s=>decide (s.length<=4)) && ks ok d l.flatten) (some (d++l.flatten)) none
 | [],d=>by simp[tg,ks]
 |s::l,d=>by
  rw[tg,gC ok l,List.flatten_cons,jO,List.all_cons];cases decide (s.length<=4) <;>cases ks ok d s <;>cases l.all (fun s=>decide (s.length<=4)) <;>simp
theorem Bk (x:ah):tj x=aM (rh x.g) x:=by
 unfold tj aM;rw[jD (xs:=x.c) (r:=false) (c:=fun d s=>decide (s.length<=4) && ks (rh x.g) d s) (f:=fun d s=>d++s) (fun j s _=>Bt x j s),gC,qV,qV];cases decide (1<=(x.c.length:Int)∧(x.c.length:Int)<=8) <;>cases decide (0<=x.g∧x.g<=100000) <;>cases x.c.all (fun s=>decide (s.length<=4)) <;>cases ks (rh x.g) [] x.c.flatten <;>rfl
theorem fA {v:Qz} {now:Int} (hn:now<=100000) (h:ms v now=true):0<=v.x∧v.x<=now∧(v.y= -1∨(v.x+1<=v.y∧v.y<=now)):=by
 rw[pD] at h;simp only[Bool.and_eq_true,Bool.or_eq_true,decide_eq_true_eq,beq_iff_eq] at h;obtain⟨⟨_,b,c⟩,a⟩:=h;rw[gi (by omega) (by omega)] at a;exact⟨b,c,a⟩
theorem mF (v:Qz) (t:Int):mc v t=decide (v.x<=t∧(v.y= -1∨t<v.y)):=by
 unfold mc
 by_cases a:v.x<=t <;>by_cases b:v.y= -1 <;>by_cases c:t<v.y <;>simp[a,b,c]
theorem aX (v w:Qz):nd v w=decide (v.Id≠w.Id∨(v.y ≠ -1∧v.y<=w.x)∨(w.y ≠ -1∧w.y<=v.x)):=by
 unfold nd
 by_cases c:v.Id=w.Id <;>by_cases a:v.y= -1 <;>by_cases d:w.y= -1 <;>by_cases b:v.y<=w.x <;>simp[c,a,d,b] <;> (try rw[a] at b) <;> (try simp_all) <;> (try rfl)
theorem fJ {v w:Qz} {now:Int} (hn:now<=100000) (hv:ms v now=true) (hw:ms w now=true):nd v w= !(v.Id==w.Id && qp v w):=by
 obtain⟨_,_,_⟩:=fA hn hv;obtain⟨_,_,_⟩:=fA hn hw;have c:qp v w=decide ((v.x<=w.x∧(v.y= -1∨w.x<v.y))∨(w.x<=v.x∧(w.y= -1∨v.x<w.y))):=by
  unfold qp;rw[mF,mF]
  by_cases a:(v.x<=w.x∧(v.y= -1∨w.x<v.y)) <;>by_cases b:(w.x<=v.x∧(w.y= -1∨v.x<w.y)) <;>simp[a,b]
 rw[c,aX];have hb:(v.Id==w.Id)=decide (v.Id=w.Id):=by by_cases h:v.Id=w.Id <;>simp[h]
 rw[hb, <- Bool.decide_and, <- decide_not];apply decide_eq_decide.2;omega
theorem jR {now:Int} (hn:now<=100000):∀ (l seen:List Qz),(∀ w∈seen,ms w now=true)->ks (rh now) seen l=ks (om now) seen l
 | [],_,_=>rfl
 |v::l,seen,a=>by
  show(rh now seen v && ks (rh now) (seen++[v]) l)=(om now seen v && ks (om now) (seen++[v]) l);unfold rh om;cases hv:ms v now with
  |false=>rfl
  |true=>
   have e:(seen.all fun w=> !(v.Id==w.Id && qp v w))=seen.all fun w=>nd v w:=by
    rw[Bool.eq_iff_iff,List.all_eq_true,List.all_eq_true];exact⟨fun h w hw=>by rw[fJ hn hv (a w hw)];exact h w hw,fun h w hw=>by rw[<- fJ hn hv (a w hw)];exact h w hw⟩
   have ih:=jR hn l (seen++[v]) (fun w hw=>by
    rcases List.mem_append.1 hw with h|h
    ·exact a w h
    rw[List.mem_singleton.1 h];exact hv)
   unfold rh om at ih;rw[e,ih]
theorem Ms (x:ah):tj x=me x:=by
 rw[Bk,xy];unfold aM
 by_cases h:0<=x.g∧x.g<=100000
 ·rw[jR h.2 _ [] (fun w hw=>by cases hw)]
 rw[decide_eq_false h,Bool.and_false,Bool.false_and];rfl
theorem zk:fw=ci:=rfl
theorem vE (x:jj):mS x=qx x:=by
 unfold mS qx;rw[Df,kk x.G];simp only[bG,Bool.decide_and,Bool.and_assoc]
theorem oY (x:bf):sk x=ki x:=by
 unfold sk ki sN;have a:(fun k (_:Unit)=>qE x k)=fun k (_:Unit)=>vi x k:=by
  funext k u;unfold qE vi;rw[vE]
 have c:(fun k (_:Unit)=>Op x k)=fun k (_:Unit)=>aG x.q k:=rfl
 rw[a,c]
 rw[qe (b:=fun k (_:Unit)=>vi x k) (p:=fun k=>vi x k == .inr ()) (r:=false) (fun k _=>by
  unfold vi
  cases qx (gt x.o k) <;>cases decide (0<((k:Nat):Int)) <;>cases decide ((gt x.o k).Field<=(gt x.o (k-1)).Field) <;>rfl)]
 rw[qe (b:=fun k (_:Unit)=>aG x.q k) (p:=fun k=>aG x.q k == .inr ()) (r:=false) (fun k _=>by
  unfold aG
  cases ci (gt x.q k) 0 2 <;>rfl)]
 simp only[zk,pV,bG,Oa,Ad,Bool.not_not]
 ac_rfl
theorem fH (x:List ax):bS x=ry x:=by
 unfold bS ry vw;have a:(fun k (_:Unit)=>vv x k)=fun k (_:Unit)=>nZ x k:=rfl
 rw[a,qe (p:=fun k=>nZ x k == .inr ()) (r:=false) (fun k _=>by
  unfold nZ
  cases kr (gt x k) <;>rfl)]
 simp only[pV,bG,Bool.and_true]
 ac_rfl
theorem xU (e:Qj) (x:Qn):zy e.d x=uj e x:=by
 unfold zy uj cW;have a:(fun k (_:Unit)=>vu e.d x k)=fun k (_:Unit)=>oB x.t ((e.d.c.length:Nat):Int) k:=rfl
 rw[a,qe (p:=fun k=>oB x.t ((e.d.c.length:Nat):Int) k == .inr ()) (r:=false) (fun k _=>by
  unfold oB
  cases ci (gt x.t k) 0 (IntKind.i64.wrap (((e.d.c.length:Nat):Int)-1)) <;>cases decide (0<((k:Nat):Int)) <;>cases decide (gt x.t k<=gt x.t (k-1)) <;>rfl)]
 rw[oY,fH];simp only[zk,pV,bG]
 ac_rfl
theorem pZ (x:List Int) (i:Int):ov x i=x.any fun y=>y==i:=by
 unfold ov;rw[rC (p:=fun y=>y==i) (r:=true) (fun j _=>rfl)];cases x.any fun y=>y==i <;>rfl
theorem Dh (x a b:Int):ci x a b=(decide (a<=x) && decide (x<=b)):=by
 unfold ci;rw[bG]
theorem iM (x:List Int):bR x=sy x:=by
 unfold bR sy;rw[qe (n:=3) (p:=fun k=>ov x k) (r:=false) (fun k _=>rfl)]
 rw[qe (p:=fun k=>ci (gt x k) 0 2 && !ls (List.take k x) (gt x k)) (r:=false) (fun k _=>by
  unfold sP
  cases ci (gt x k) 0 2 <;>cases ls (List.take k x) (gt x k) <;>rfl)]
 have v:∀ (y:List Int) (i:Int),ls y i=y.any fun z=>z==i:=pZ
 by_cases h:x.length=3
 ·match x,h with
  | [a,b,c],_=>
   simp only[pZ,v,Dh];have l:List.range 3=[0,1,2]:=rfl;have u:[a,b,c].length=3:=rfl;have d:gt [a,b,c] 0=a:=rfl;have e:gt [a,b,c] 1=b:=rfl;have f:gt [a,b,c] 2=c:=rfl;rw[u,l];simp only[List.all_cons,List.all_nil];rw[d,e,f];simp only[List.any_cons,List.any_nil,List.take];simp only[pV,Oa,Bool.and_true,Bool.or_false,Bool.not_false];rw[Bool.eq_iff_iff];simp only[Bool.and_eq_true,Bool.or_eq_true,beq_iff_eq,decide_eq_true_eq,Bool.not_eq_true',Bool.or_eq_false_iff,beq_eq_false_iff_ne,bne,ne_eq];have m:((3:Nat):Int)=3:=rfl;have o:((0:Nat):Int)=0:=rfl;have s:((1:Nat):Int)=1:=rfl;have t:((2:Nat):Int)=2:=rfl;simp only[m,o,s,t,beq_self_eq_true,Bool.not_true,and_true,true_and];constructor <;>intro h <;>omega
 have g:(((x.length:Nat):Int)==3)=false:=beq_eq_false_iff_ne.2 (by omega);have j:(((x.length:Nat):Int) !=3)=true:=bne_iff_ne.2 (by omega);rw[g,j];cases (List.range 3).all fun k=>ov x k <;>rfl
theorem rm (x:Qj):mn x=iu x:=by
 unfold mn iu;have b:(fun k (_:Unit)=>sj x k)=fun k (_:Unit)=>nK x k:=by
  funext k u;unfold sj nK;rw[xU]
 have c:(fun k (_:Unit)=>qB x k)=fun k (_:Unit)=>cL x k:=by
  funext k u;unfold qB cL;rw[oY,fH];rfl
 have d:(fun k (_:Unit)=>qC x k)=fun k (_:Unit)=>rX x k:=by
  funext k u;unfold qC rX;rw[vD]
 rw[b,c,d,Ms,iM];generalize Sum.elim id _ (ay (R:=Bool) (fun k (_:Unit)=>nK x k) (x.a.length-0) 0 ())=t;simp only[zk,bG,Oa]
 ac_rfl
theorem eD (x:Qj) (hl:x.a.length<=9223372036854775807):fb x=bv x:=by
 unfold fb bv;rw[rm];cases h:iu x with
 |false=>
  rw[xg (fun j s=>by unfold sD;rw[h];rfl)];rfl
 |true=>
  rw[jE (n:=x.a.length) (b:=fun k s=>vb x k s) (fun j s hj=>by
   unfold sD vb rV qb;have hw:IntKind.i64.wrap (((x.a.length:Nat):Int)-1)=((x.a.length:Nat):Int)-1:=gi (by omega) (by omega);have hi:ci ((j:Nat):Int) 0 (IntKind.i64.wrap (((x.a.length:Nat):Int)-1))=true:=by
    rw[kk,hw];exact decide_eq_true (by omega)
   have c:ov (gt x.a j).t x.j=ls (gt x.a j).t x.j:=rfl;rw[h,hi,c,Int.toNat_natCast]
   cases (gt x.a j).z==0 <;>cases decide ((gt x.a j).A<(gt x.a j).z) <;>cases ls (gt x.a j).t x.j <;>rfl) _ _ _ (by omega)]
  rfl
theorem xz {x:List Int} (h:sy x=true):∀ y∈x,0<=y∧y<=2:=by
 unfold sy at h
 rw[qe (p:=fun k=>ci (gt x k) 0 2 && !ls (List.take k x) (gt x k)) (r:=false) (fun k _=>by
  unfold sP
  cases ci (gt x k) 0 2 <;>cases ls (List.take k x) (gt x k) <;>rfl)] at h
 intro y hy;obtain⟨k,hk,rfl⟩:=List.getElem_of_mem hy;rw[<- gc hk];cases ha:(List.range x.length).all (fun k=>ci (gt x k) 0 2 && !ls (List.take k x) (gt x k)) with
 |false=>
  rw[ha] at h;cases hl:(((x.length:Nat):Int) !=3) <;>rw[hl] at h <;>cases h
 |true=>
  have a:=List.all_eq_true.1 ha k (List.mem_range.2 hk);cases b:ci (gt x k) 0 2 with
  |false=>rw[b] at a;cases a
  |true=>exact jg b
theorem jP (now:Int):∀ (l seen:List Qz),ks (om now) seen l=true↔(∀ v∈l,ms v now=true)∧(∀ v∈l,∀ w∈seen,nd v w=true)∧l.Pairwise (fun a b=>nd b a=true)
 | [],seen=>by simp[ks]
 |v::l,seen=>by
  have ih:=jP now l (seen++[v]);show(om now seen v && ks (om now) (seen++[v]) l)=true↔_;rw[Bool.and_eq_true,ih];unfold om;rw[Bool.and_eq_true,List.all_eq_true,List.pairwise_cons];constructor
  ·rintro⟨⟨a,b⟩,c,d,e⟩;refine⟨fun w hw=>?_,fun w hw y hy=>?_,fun w hw=>d w hw v (by simp),e⟩
   ·rcases List.mem_cons.1 hw with rfl|h
    ·exact a
    exact c w h
   rcases List.mem_cons.1 hw with rfl|h
   ·exact b y hy
   exact d w h y (List.mem_append_left _ hy)
  rintro⟨a,b,c,d⟩;refine⟨⟨a v (by simp),fun y hy=>b v (by simp) y hy⟩,fun w hw=>a w (List.mem_cons_of_mem _ hw),fun w hw y hy=>?_,d⟩;rcases List.mem_append.1 hy with h|h
  ·exact b w (List.mem_cons_of_mem _ hw) y h
  rw[List.mem_singleton.1 h];exact c w hw
def aR (x:ah):Prop:=(1<=x.c.length∧x.c.length<=8)∧(0<=x.g∧x.g<=100000)∧(∀ s∈x.c,s.length<=4)∧(∀ v∈x.c.flatten,ms v x.g=true)∧x.c.flatten.Pairwise (fun a b=>nd b a=true)
theorem ka (x:ah):me x=true↔aR x:=by
 rw[xy];unfold aM aR;simp only[Bool.and_eq_true,decide_eq_true_eq,List.all_eq_true,jP];constructor
 ·rintro⟨⟨⟨a,b⟩,c⟩,d,_,e⟩;exact⟨by omega,b,c,d,e⟩
 rintro⟨a,b,c,d,e⟩;exact⟨⟨⟨by omega,b⟩,c⟩,d,fun _ _ w hw=>(by cases hw),e⟩
theorem ut (r:ax):kr r=true↔(∀ z∈r.m,0<=z∧z<=99)∧(0<=r.Id∧r.Id<=999)∧r.m.length=3:=by
 unfold kr
 rw[bZ (xs:=r.m) (p:=fun z=>decide (0<=z∧z<=99)) (r:=false) (fun k _=>by
  unfold aE
  rw[kk]),kk]
 have e:(r.m.all fun z=>decide (0<=z∧z<=99))=true↔∀ z∈r.m,0<=z∧z<=99:=by simp only[List.all_eq_true,decide_eq_true_eq]
 rw[<- e];cases (r.m.all fun z=>decide (0<=z∧z<=99)) with
 |false=>exact⟨fun h=>(by cases h),fun h=>(by cases h.1)⟩
 |true=>
  show cond (decide (0<=r.Id∧r.Id<=999)) (((r.m.length:Nat):Int)==3) false=true↔_
  by_cases a:0<=r.Id∧r.Id<=999
  ·rw[decide_eq_true a,cond_true,beq_iff_eq];exact⟨fun h=>⟨rfl,a,by omega⟩,fun h=>by omega⟩
  rw[decide_eq_false a];exact⟨fun h=>(by cases h),fun h=>absurd h.2.1 a⟩
theorem zn {v:Qz} {now:Int} (hn:now<=100000):ms v now=true↔kr (⟨v.Id,v.m⟩:ax)=true∧0<=v.x∧v.x<=now∧(v.y= -1∨(v.x+1<=v.y∧v.y<=now)):=by
 rw[pD];simp only[Bool.and_eq_true,Bool.or_eq_true,decide_eq_true_eq,beq_iff_eq];constructor
 ·rintro⟨⟨a,b,c⟩,d⟩;rw[gi (by omega) (by omega)] at d;exact⟨a,b,c,d⟩
 rintro⟨a,b,c,d⟩;rw[gi (by omega) (by omega)];exact⟨⟨a,b,c⟩,d⟩
def mZ (l:List bf) (k:Nat):Bool:= !decide (0<((k:Nat):Int)) || !decide ((gt l k).Id<=(gt l (k-1)).Id)
theorem gA {α:Type} [Inhabited α] {g:α->Int} {l:List α} (h:∀ k,0<k->k<l.length->g (gt l (k-1))<g (gt l k)):l.Pairwise (fun a b=>g a<g b):=by
 have hc:∀ c i,i+c+1<l.length->g (gt l i)<g (gt l (i+c+1)):=fun c=>by
  induction c with
  |zero=>intro i hi;exact h (i+1) (by omega) hi
  |succ c ih=>
   intro i hi;have a:=ih i (by omega);have b:=h (i+(c+1)+1) (by omega) hi;rw[show i+(c+1)+1-1=i+c+1 by omega] at b;omega
 rw[List.pairwise_iff_getElem];intro i j hi hj hij;have:=hc (j-i-1) i (by omega);rw[show i+(j-i-1)+1=j by omega,gc hi,gc hj] at this;exact this
theorem Mx {l:List bf} (h:mz l=true):l.length<=24∧(∀ q∈l,ki q=true)∧l.Pairwise (fun a b=>a.Id<b.Id):=by
 unfold mz at h
 rw[qe (p:=fun k=>ki (gt l k) && mZ l k) (r:=false) (fun k _=>by
  unfold xp mZ
  cases ki (gt l k) <;>cases decide (0<((k:Nat):Int)) <;>cases decide ((gt l k).Id<=(gt l (k-1)).Id) <;>rfl)] at h
 have ha:(List.range l.length).all (fun k=>ki (gt l k) && mZ l k)=true∧decide (((l.length:Nat):Int)<=24)=true:=by
  revert h
  cases (List.range l.length).all (fun k=>ki (gt l k) && mZ l k) with
  |true=>intro h;exact⟨rfl,h⟩
  |false=>intro h;cases h
 obtain⟨ha,hl⟩:=ha;rw[decide_eq_true_eq] at hl;rw[List.all_eq_true] at ha;refine⟨by omega,fun q hq=>?_,gA (g:=fun q:bf=>q.Id) fun k _ d=>?_⟩
 ·obtain⟨i,hi,rfl⟩:=List.mem_iff_getElem.1 hq;have:=ha i (List.mem_range.2 hi);rw[Bool.and_eq_true] at this;rw[<- gc hi];exact this.1
 have:=ha k (List.mem_range.2 d);rw[Bool.and_eq_true] at this;have c:=this.2;unfold mZ at c;rw[decide_eq_true (show(0:Int)<((k:Nat):Int) by omega),Bool.not_true,Bool.false_or,Bool.not_eq_true',decide_eq_false_iff_not] at c;omega
theorem nB {R S:Type} {b:Nat->S->R⊕(S⊕S)} {n:Nat} {P:Nat->S->Prop} {Q:S->Prop} (h:∀ k s,k<n->P k s->(∃ s',b k s= .inr (.inr s')∧P (k+1) s')∨∃ s',b k s= .inr (.inl s')∧Q s'):∀ m k s,m+k=n->P k s->∃ s',fe b m k s= .inr s'∧(Q s'∨P n s')
 |0,k,s,e,hp=>⟨s,rfl, .inr (by rw[show n=k by omega];exact hp)⟩
 |m+1,k,s,e,hp=>by
  rcases h k s (by omega) hp with⟨s',a,c⟩|⟨s',a,c⟩
  ·obtain⟨s'',d,f⟩:=nB h m (k+1) s' (by omega) c;exact⟨s'',by rw[fe,a];exact d,f⟩
  exact⟨s',by rw[fe,a];rfl, .inl c⟩
theorem wI {l:List bf} {n:Int} (h:((l.length:Nat):Int)<=n∧∀ q∈l,q.o.length<=3∧q.q.length<=3) (hn:n<=100):l.length<=68719476736∧∀ z∈l,lq 68719476736 z:=⟨by omega,fun z hz=>⟨by have:=(h.2 z hz).1;omega,by have:=(h.2 z hz).2;omega⟩⟩
theorem eV (l:List bf) (f v:Int):(kj l f v).length<=l.length:=by
 unfold kj
 obtain⟨s',e,h⟩:=nB (R:=List Int) (b:=fun k (s:List Int)=>aF l f v k s) (n:=l.length) (P:=fun k s=>s.length<=k) (Q:=fun s=>s.length<=l.length) (fun k s hk _=>by
  have happ:∀ y,(s++[y]).length<=k+1:=fun y=>by rw[List.length_append];show s.length+1<=k+1;omega
  show(∃ s',aF l f v k s= .inr (.inr s')∧_)∨∃ s',aF l f v k s= .inr (.inl s')∧_;unfold aF;cases mz l with
  |false=>exact .inr ⟨_,rfl,by omega⟩
  |true=>
  cases ci f 0 2 with
  |false=>exact .inr ⟨_,rfl,by omega⟩
  |true=>
  cases ci v 0 99 with
  |false=>exact .inr ⟨_,rfl,by omega⟩
  |true=>
  cases rc (gt l k) f v with
  |true=>exact .inl ⟨_,rfl,happ _⟩
  |false=>exact .inl ⟨_,rfl,by omega⟩) (l.length-0) 0 [] (by omega) (Nat.zero_le _)
 rw[e];exact h.elim id id
theorem wZ (l:List bf) (f:Int):(jl l f).length<=100∧∀ s∈jl l f,s.E.length<=l.length:=by
 unfold jl;cases mz l with
 |false=>exact⟨Nat.zero_le _,fun s a=>by cases a⟩
 |true=>
 cases ci f 0 2 with
 |false=>exact⟨Nat.zero_le _,fun s a=>by cases a⟩
 |true=>
 obtain⟨d,e,h⟩:=ug (R:=List ga) (body:=fun k (s:List ga)=>vj l f k s) (n:=100) (fun k d=>d.length<=k∧∀ s∈d,s.E.length<=l.length) (fun k d _ ⟨g,b⟩=>by
  have happ:∀ y:ga,y.E.length<=l.length->(d++[y]).length<=k+1∧∀ s∈d++[y],s.E.length<=l.length:=fun y hy=>⟨by rw[List.length_append];show d.length+1<=k+1;omega,fun s a=>by
   rcases List.mem_append.1 a with h|h
   ·exact b s h
   rw[List.mem_singleton.1 h];exact hy⟩
  show ∃ s',vj l f k d= .inr s'∧_;unfold vj
  by_cases c:0<d.length
  ·rw[decide_eq_true (show(0:Int)<((d.length:Nat):Int) by omega),cond_true];cases mr ((gt d (d.length-1)).E) (kj l f ((k:Nat):Int)) with
   |true=>
    refine⟨_,rfl,by rw[List.length_set];omega,fun s a=>?_⟩;rcases List.mem_or_eq_of_mem_set a with h|rfl
    ·exact b s h
    exact b (gt d (d.length-1)) (bl (by omega))
   |false=>exact⟨_,rfl,happ _ (eV _ _ _)⟩
  rw[decide_eq_false (show ¬ (0:Int)<((d.length:Nat):Int) by omega),cond_false]
  exact⟨_,rfl,happ _ (eV _ _ _)⟩) (100-0) 0 [] (by omega) ⟨Nat.zero_le _,fun s a=>by cases a⟩
 rw[e];exact h
theorem tN (l:List bf):lr l=⟨[],[]⟩∨lr l=⟨l,[jl l 0,jl l 1,jl l 2]⟩:=by
 unfold lr;cases mz l with
 |false=>exact .inl rfl
 |true=>exact .inr rfl
theorem tP {l:List bf} {n:Int} (h:((l.length:Nat):Int)<=n∧∀ q∈l,q.o.length<=3∧q.q.length<=3) (hn:n<=100):rN 68719476736 (lr l):=by
 rcases tN l with e|e
 ·rw[e];exact⟨⟨Nat.zero_le _,fun z hz=>by cases hz⟩,Nat.zero_le _,fun z hz=>by cases hz⟩
 rw[e];have a:∀ f,(jl l f).length<=68719476736∧∀ z∈jl l f,rQ 68719476736 z:=fun f=>by
  obtain⟨_,b⟩:=wZ l f;exact⟨by omega,fun z hz=>by have:=b z hz;show z.E.length<=_;omega⟩
 refine⟨wI h hn,(by show 3<=68719476736;decide),fun z hz=>?_⟩;rcases List.mem_cons.1 hz with rfl|hz
 ·exact a 0
 rcases List.mem_cons.1 hz with rfl|hz
 ·exact a 1
 rcases List.mem_cons.1 hz with rfl|hz
 ·exact a 2
 cases hz
def tD (q:bf):Prop:=(0<=q.Id∧q.Id<=23)∧(0<=q.u∧q.u<=3)∧(∀ c∈q.o,(0<=c.Field∧c.Field<=2)∧(0<=c.G∧c.G<=c.H)∧c.H<=99)∧q.o.Pairwise (fun a b=>a.Field<b.Field)∧q.o.length<=3∧(∀ o∈q.q,0<=o∧o<=2)∧1<=q.q.length∧q.q.length<=3
theorem pX {a b:Bool}:cond a b false=true↔a=true∧b=true:=by cases a <;>simp
theorem Aj {a b:Bool}:cond a false b=true↔a=false∧b=true:=by cases a <;>simp
theorem bE {α:Type} [Inhabited α] {xs:List α} {p:α->Bool} {b:Nat->Unit->Bool⊕Unit} (hb:∀ j,j<xs.length->b j ()=cond (p (gt xs j)) (.inr ()) (.inl false)) {X:Bool}:Sum.elim id (fun(_:Unit)=>X) (ay b (xs.length-0) 0 ())=true↔(∀ a∈xs,p a=true)∧X=true:=by
 rw[bZ hb];cases h:xs.all p with
 |true=>exact⟨fun hx=>⟨List.all_eq_true.1 h,hx⟩,fun hx=>hx.2⟩
 |false=>
  refine⟨fun hx=>(by cases hx),fun hx=>?_⟩;rw[List.all_eq_true.2 hx.1] at h;cases h
theorem nC {α:Type} [Inhabited α] {xs:List α} {p:α->Bool} {g:α->Int} {b:Nat->Unit->Bool⊕Unit} (hb:∀ j,j<xs.length->b j ()=cond (p (gt xs j)) (cond (decide (0<((j:Nat):Int))) (cond (decide (g (gt xs j)<=g (gt xs (j-1)))) (.inl false) (.inr ())) (.inr ())) (.inl false)) {X:Bool}:Sum.elim id (fun(_:Unit)=>X) (ay b (xs.length-0) 0 ())=true↔((∀ a∈xs,p a=true)∧xs.Pairwise (fun a b=>g a<g b))∧X=true:=by
 rw[qe (p:=fun k=>p (gt xs k) && (!decide (0<((k:Nat):Int)) || !decide (g (gt xs k)<=g (gt xs (k-1))))) (r:=false) (fun k hk=>by
  rw[hb k hk]
  cases p (gt xs k) <;>cases decide (0<((k:Nat):Int)) <;>cases decide (g (gt xs k)<=g (gt xs (k-1))) <;>rfl)]
 have key:(List.range xs.length).all (fun k=>p (gt xs k) && (!decide (0<((k:Nat):Int)) || !decide (g (gt xs k)<=g (gt xs (k-1)))))=true↔((∀ a∈xs,p a=true)∧xs.Pairwise (fun a b=>g a<g b)):=by
  rw[List.all_eq_true];constructor
  ·intro ha;refine⟨fun q hq=>?_,gA (g:=g) fun k _ e=>?_⟩
   ·obtain⟨i,hi,rfl⟩:=List.mem_iff_getElem.1 hq;have:=ha i (List.mem_range.2 hi);rw[Bool.and_eq_true] at this;rw[<- gc hi];exact this.1
   have:=ha k (List.mem_range.2 e);rw[Bool.and_eq_true] at this;have c:=this.2;rw[decide_eq_true (show(0:Int)<((k:Nat):Int) by omega),Bool.not_true,Bool.false_or,Bool.not_eq_true',decide_eq_false_iff_not] at c;omega
  rintro⟨d,c⟩ k hk;have hk:=List.mem_range.1 hk;rw[Bool.and_eq_true];refine⟨d _ (bl hk),?_⟩
  by_cases f:0<k
  ·rw[decide_eq_false (show ¬ g (gt xs k)<=g (gt xs (k-1)) by
    have:=List.pairwise_iff_getElem.1 c (k-1) k (by omega) hk (by omega);rw[gc hk,gc (by omega)]
    omega)]
   simp
  rw[decide_eq_false (show ¬ (0:Int)<((k:Nat):Int) by omega)];rfl
 rw[<- key];cases (List.range xs.length).all (fun k=>p (gt xs k) && (!decide (0<((k:Nat):Int)) || !decide (g (gt xs k)<=g (gt xs (k-1))))) with
 |true=>exact⟨fun hx=>⟨rfl,hx⟩,fun hx=>hx.2⟩
 |false=>exact⟨fun hx=>(by cases hx),fun hx=>(by cases hx.1)⟩
def tz (n:Nat) (l:List Int):Prop:=(∀ y∈l,0<=y∧y<((n:Nat):Int))∧l.Pairwise (fun a b=>a<b)∧0<l.length
def pA (l:List ax):Prop:=(∀ r∈l,kr r=true)∧l.length<=1000
def aV (s:ah) (a:Qn):Prop:=ki a.e=true∧(0<=a.r∧a.r<=s.g)∧tz s.c.length a.t∧(0<=a.v∧a.v<=100000)∧(0<=a.A∧a.A<=1000)∧(0<=a.z∧a.z<=32)∧pA a.p
def uQ (s:ah) (f:df):Prop:=ki f.e=true∧(0<=f.r∧f.r<=s.g)∧(0<=f.n∧f.n<=100000)∧pA f.p
structure fr (x:Qj):Prop where
 st:me x.d=true
 cur:0<=x.j∧x.j<((x.d.c.length:Nat):Int)
 ord:sy x.l=true
 al:x.a.length<=8
 stp:0<=x.n∧x.n<=100000
 dl:x.f.length<=1000
 ll:x.k.length<=1000
 act:∀ a∈x.a,aV x.d a
 srt:x.a.Pairwise (fun a b=>a.e.Id<b.e.Id)
 fin:∀ f∈x.f,uQ x.d f
 led:∀ c∈x.k,qw c=true
theorem Mt (l:List ax):ry l=true↔pA l:=by
 unfold ry pA;rw[bE (p:=kr) (fun _ _=>rfl),decide_eq_true_iff];constructor <;>rintro⟨a,_⟩ <;>exact⟨a,by omega⟩
theorem xK {n:Nat} (l:List Int) (hn:n<=1000):cW l ((n:Nat):Int)=true↔tz n l:=by
 unfold cW tz;rw[nC (p:=fun y=>ci y 0 (IntKind.i64.wrap (((n:Nat):Int)-1))) (g:=id) (fun _ _=>rfl),decide_eq_true_iff];rw[gi (by omega) (by omega)];simp only[kk,decide_eq_true_iff,id];constructor
 ·rintro⟨⟨a,b⟩,c⟩;exact⟨fun y hy=>by have:=a y hy;omega,b,by omega⟩
 rintro⟨a,b,c⟩;exact⟨⟨fun y hy=>by have:=a y hy;omega,b⟩,by omega⟩
theorem dI (x:Qj) (a:Qn) (h:x.d.c.length<=1000):uj x a=true↔aV x.d a:=by
 unfold uj aV;simp only[pX,kk,decide_eq_true_iff,Mt,xK _ h]
theorem nu (x:Qj):iu x=true↔fr x:=by
 unfold iu;simp only[pX,Aj,kk,decide_eq_true_iff,decide_eq_false_iff_not];constructor
 ·rintro⟨k,m,o,_,s,_,_,l⟩;have u:=((ka _).1 k).1;rw[gi (by omega) (by omega)] at m
  rw[nC (p:=uj x) (g:=fun a=>a.e.Id) (fun _ _=>rfl),bE (p:=fun f=>ki f.e && ci f.r 0 x.d.g && ci f.n 0 100000 && ry f.p) (fun j _=>by
   unfold cL
   cases ki (gt x.f j).e <;>cases ci (gt x.f j).r 0 x.d.g <;>cases ci (gt x.f j).n 0 100000 <;>cases ry (gt x.f j).p <;>rfl),bE (p:=qw) (fun _ _=>rfl)] at l
  obtain⟨⟨t,b⟩,c,i,_⟩:=l
  exact⟨k,by omega,o,by omega,s,by omega,by omega,fun a ha=>(dI x a (by omega)).1 (t a ha),b,fun f hf=>by
   have:=c f hf;simp only[Bool.and_eq_true,kk,decide_eq_true_iff,Mt] at this
   exact⟨this.1.1.1,this.1.1.2,this.1.2,this.2⟩,i⟩
 intro h;have u:=((ka _).1 h.st).1;have hcur:=h.cur;have hal:=h.al;have hdl:=h.dl;have hll:=h.ll;rw[gi (by omega) (by omega)]
 rw[nC (p:=uj x) (g:=fun a=>a.e.Id) (fun _ _=>rfl),bE (p:=fun f=>ki f.e && ci f.r 0 x.d.g && ci f.n 0 100000 && ry f.p) (fun j _=>by
  unfold cL
  cases ki (gt x.f j).e <;>cases ci (gt x.f j).r 0 x.d.g <;>cases ci (gt x.f j).n 0 100000 <;>cases ry (gt x.f j).p <;>rfl),bE (p:=qw) (fun _ _=>rfl)]
 refine⟨h.st,by omega,h.ord,by omega,h.stp,by omega,by omega,⟨fun a ha=>(dI x a (by omega)).2 (h.act a ha),h.srt⟩,fun f hf=>?_,h.led,rfl⟩;simp only[Bool.and_eq_true,kk,decide_eq_true_iff,Mt];have:=h.fin f hf;exact⟨⟨⟨this.1,this.2.1⟩,this.2.2.1⟩,this.2.2.2⟩
theorem tK {l:List bf} (c:∀ q∈l,ki q=true) (d:l.Pairwise (fun a b=>a.Id<b.Id)) (e:l.length<=24):mz l=true:=by
 unfold mz;rw[nC (p:=ki) (g:=fun q=>q.Id) (fun _ _=>rfl)];exact⟨⟨c,d⟩,decide_eq_true (by omega)⟩
theorem dL {l:List bf} (hq:mz l=true):lr l=⟨l,[jl l 0,jl l 1,jl l 2]⟩:=by
 unfold lr;rw[hq];rfl
theorem gT {α:Type} [Inhabited α] {xs:List α} {i:Nat} (h: ¬ i<xs.length):gt xs i=default:=by
 unfold gt;rw[List.getD_eq_getElem?_getD,List.getElem?_eq_none (by omega)];rfl
theorem gU {α:Type} [Inhabited α] {P:α->Prop} {d:List α} {k:Nat} {y:α} (h:∀ i,P (gt d i)) (hy:P y):∀ i,P (gt (d.set k y) i):=fun i=>by
 by_cases hi:i=k
 ·subst hi
  by_cases hl:i<d.length
  ·have e:gt (d.set i y) i=y:=by unfold gt;rw[List.getD_eq_getElem?_getD,List.getElem?_set_self hl];rfl
   rw[e];exact hy
  have e:d.set i y=d:=List.set_eq_of_length_le (by omega);rw[e];exact h i
 have e:gt (d.set k y) i=gt d i:=by unfold gt;rw[List.getD_eq_getElem?_getD,List.getD_eq_getElem?_getD,List.getElem?_set_ne (fun e=>hi e.symm)]
 rw[e];exact h i
theorem jZ:∀ (l:List Int) (a b:Int),l.Pairwise (fun x y=>x<y)->(∀ y∈l,a<=y∧y<b)->l.length<=(b-a).toNat
 | [],_,_,_,_=>Nat.zero_le _
 |x::l,a,b,h,hb=>by
  rw[List.pairwise_cons] at h;have:=hb x (List.mem_cons_self ..);have:=jZ l (x+1) b h.2 fun y hy=>⟨by have:=h.1 y hy;omega,(hb y (List.mem_cons_of_mem _ hy)).2⟩
  rw[List.length_cons];omega
theorem eZ {n:Nat} {l:List Int} (h:tz n l):l.length<=n:=by
 have:=jZ l 0 n h.2.1 (fun y hy=>h.1 y hy);omega
theorem eY {x:Qj} (h:fr x) (i:Nat):(gt x.a i).t.length<=8∧(gt x.a i).p.length<=1000+4*0:=by
 by_cases hi:i<x.a.length
 ·have ha:=h.act _ (bl hi);have:=((ka _).1 h.st).1;have:=eZ ha.2.2.1;have:=ha.2.2.2.2.2.2.2;omega
 rw[gT hi];exact⟨Nat.zero_le _,Nat.zero_le _⟩
def pm (c:Int) (a:Qn):Bool:=qb a && ov a.t c
theorem eC (x:Qj):fb x=cond (mn x) ((x.a.filter (pm x.j)).map fun a=>a.e.Id) []:=by
 unfold fb
 rw[oh (xs:=x.a) (f:=fun d a=>cond (pm x.j a) (d++[a.e.Id]) d) (b:=fun k s=>vb x k s) (fun j s _=>by
  unfold vb pm
  cases qb (gt x.a j) <;>cases ov (gt x.a j).t x.j <;>rfl),ti]
 rfl
theorem oX {q:bf} (h:ki q=true):tD q:=by
 unfold ki at h;rw[nC (p:=qx) (g:=fun c=>c.Field) (fun _ _=>rfl)] at h;obtain⟨⟨d,e⟩,a⟩:=h;unfold sN at a;simp only[pX,kk,decide_eq_true_iff] at a;obtain⟨f,i,_,b⟩:=a;rw[bE (p:=fun o=>decide (0<=o∧o<=2)) (fun k _=>by unfold aG;rw[kk])] at b;obtain⟨j,l⟩:=b;rw[decide_eq_true_iff] at l;refine⟨f,i,fun c hc=>?_,e,by omega,fun o ho=>of_decide_eq_true (j o ho),by omega,by omega⟩;have:=d c hc;unfold qx at this;simp only[pX,kk,decide_eq_true_iff] at this;exact this
theorem uV {x y:Qj} (h:x.a.map (fun a=>a.e.Id)=y.a.map (fun a=>a.e.Id)) (i:Int):da x i=da y i:=by
 have hl:x.a.length=y.a.length:=by have:=congrArg List.length h;simpa using this
 unfold da;rw[hl];have e:∀ m k,m+k=y.a.length->ay (R:=Int) (fun k (_:Unit)=>nb x i k) m k ()=ay (R:=Int) (fun k (_:Unit)=>nb y i k) m k ():=by
  intro m
  induction m with
  |zero=>intro k _;rfl
  |succ m ih=>
   intro k hk;have hb:nb x i k=nb y i k:=by
    unfold nb;have b:(x.a.map fun a=>a.e.Id)[k]?=(y.a.map fun a=>a.e.Id)[k]?:=by rw[h]
    rw[List.getElem?_map,List.getElem?_map,dz (show k<x.a.length by omega),dz (show k<y.a.length by omega)] at b;have c:(gt x.a k).e.Id=(gt y.a k).e.Id:=Option.some.inj b;rw[c]
   rw[ay,ay,hb];cases nb y i k with
   |inl r=>rfl
   |inr u=>exact ih (k+1) (by omega)
 rw[e _ _ (by omega)]
theorem aZ {x:Qj} (f:x.a.Pairwise (fun a b=>a.e.Id<b.e.Id)) {i:Nat} (hi:i<x.a.length):da x (gt x.a i).e.Id=((i:Nat):Int):=by
 unfold da;have hne:∀ j,j<i->(gt x.a j).e.Id≠(gt x.a i).e.Id:=fun j hj=>by
  have:=List.pairwise_iff_getElem.1 f j i (by omega) hi hj;rw[gc (by omega),gc hi];omega
 have e:∀ m k,m+k=x.a.length->k<=i->ay (R:=Int) (fun k (_:Unit)=>nb x (gt x.a i).e.Id k) m k ()= .inl ((i:Nat):Int):=by
  intro m
  induction m with
  |zero=>intro k c d;omega
  |succ m ih=>
   intro k c d;rw[ay];show Sum.elim _ _ (nb x (gt x.a i).e.Id k)=_;unfold nb
   by_cases hk:k=i
   ·subst hk;rw[beq_self_eq_true];rfl
   rw[beq_eq_false_iff_ne.2 (hne k (by omega))];exact ih (k+1) (by omega) (by omega)
 rw[e _ _ (by omega) (Nat.zero_le _)];rfl
def ml (x:Qj) (ids:List Int):List bf:=ids.map fun y=>(gt x.a (da x y).toNat).e
theorem eU {x:Qj} {ids:List Int} {k:Nat} (h:k<ids.length):ml x (ids.take (k+1))=ml x (ids.take k)++[(gt x.a (da x (gt ids k)).toNat).e]:=by
 unfold ml;rw[List.take_add_one,dz h,List.map_append];rfl
theorem wW {B:Nat} {x:Qj} (h:ju B x) {ids:List Int} (hl:ids.length<=B):(ml x ids).length<=B∧∀ y∈ml x ids,lq B y:=by
 unfold ml;refine⟨by rw[List.length_map];exact hl,fun y hy=>?_⟩;obtain⟨i,_,rfl⟩:=List.mem_map.1 hy
 by_cases hi:(da x i).toNat<x.a.length
 ·exact(h.2.2.1.2 _ (bl hi)).1
 rw[gT hi];exact⟨Nat.zero_le _,Nat.zero_le _⟩
theorem dT {x:Qj} (h:fr x):x.a.length<=9223372036854775807:=by have:=h.al;omega
theorem bA {x:Qj} (h:fr x):bv x=(x.a.filter (pm x.j)).map fun a=>a.e.Id:=by
 rw[<- eD x (dT h),eC,rm,(nu x).2 h];rfl
theorem eS {x:Qj} (h:fr x):ml x (bv x)=(x.a.filter (pm x.j)).map fun a=>a.e:=by
 rw[bA h];unfold ml;rw[List.map_map];refine List.map_congr_left fun a ha=>?_
 obtain⟨i,hi,rfl⟩:=List.mem_iff_getElem.1 (List.mem_filter.1 ha).1;show(gt x.a (da x (x.a[i]).e.Id).toNat).e=_;rw[<- gc hi,aZ h.srt hi,Int.toNat_natCast]
theorem eR {x:Qj} (h:fr x):mz (ml x (bv x))=true:=by
 rw[eS h];refine tK (fun q hq=>?_) ?_ ?_
 ·obtain⟨a,ha,rfl⟩:=List.mem_map.1 hq;exact(h.act a (List.mem_filter.1 ha).1).1
 ·rw[List.pairwise_map];exact h.srt.filter _
 rw[List.length_map];have:=List.length_filter_le (pm x.j) x.a;have:=h.al;omega
theorem bB {x:Qj} (h:fr x):(bv x).length<=8:=by
 rw[bA h,List.length_map];have:=List.length_filter_le (pm x.j) x.a;have:=h.al;omega
theorem wT {x:Qj} (h:fr x) (y:Int) (hy:y∈bv x):0<=da x y:=by
 rw[bA h] at hy;obtain⟨a,ha,rfl⟩:=List.mem_map.1 hy;obtain⟨i,hi,rfl⟩:=List.mem_iff_getElem.1 (List.mem_filter.1 ha).1;rw[<- gc hi,aZ h.srt hi];omega
theorem eT {x:Qj} (h:fr x):(lr (ml x (bv x))).F.length=3∧rN 68719476736 (lr (ml x (bv x))):=by
 have ha:=eR h;obtain⟨hl,hq,_⟩:=Mx ha
 exact⟨by rw[dL ha];rfl,tP (n:=24) ⟨by omega,fun q hq'=>by
  have:=oX (hq q hq');obtain⟨_,_,_,_,a,_,_,b⟩:=this
  exact⟨a,b⟩⟩ (by decide)⟩
theorem wU {x:Qj} (h:fr x) {j:Nat} (hj:j<(gt x.d.c x.j.toNat).length):(gt (gt x.d.c x.j.toNat) j).m.length=3:=by
 have hc:=h.cur;have a:=(ka _).1 h.st;have hv:=a.2.2.2.1 _ (List.mem_flatten.2 ⟨_,bl (show x.j.toNat<x.d.c.length by omega),bl hj⟩);exact((ut _).1 ((zn a.2.1.2).1 hv).1).2.2
theorem pC {x:Qj} (h:fr x):(gt x.d.c x.j.toNat).length<=4:=by
 have hc:=h.cur;exact((ka _).1 h.st).2.2.1 _ (bl (by omega))
theorem Mz {x:Qj} {d:List Qn} (h:d.map (fun a=>a.e.Id)=x.a.map (fun a=>a.e.Id)) (y:Int):da (⟨x.d,x.j,x.l,d,x.f,x.k,x.n⟩:Qj) y=da x y∧d.length=x.a.length:=by
 refine⟨uV h y,?_⟩;have:=congrArg List.length h;rw[List.length_map,List.length_map] at this;exact this
theorem lR (l:List Int) (c:Int):tm l c=l.filter (fun y=>y !=c):=by
 unfold tm
 rw[oh (xs:=l) (f:=fun d y=>cond (y !=c) (d++[y]) d) (b:=fun k s=>sH l c k s) (fun j s _=>by
  unfold sH
  cases gt l j !=c <;>rfl),ti (fun y=>y !=c) (fun y=>y)]
 show []++_=_;rw[List.nil_append,List.map_id']
theorem Mk (l:List Int) (c:Int):(tm l c).length<=l.length:=by
 rw[lR];exact List.length_filter_le _ _
theorem rJ {d:List Qn} {k:Nat} {y:Qn} (h:y.e.Id=(gt d k).e.Id):(d.set k y).map (fun(a:Qn)=>a.e.Id)=d.map (fun(a:Qn)=>a.e.Id):=by
 refine List.ext_getElem? fun i=>?_
 rw[List.getElem?_map,List.getElem?_map,List.getElem?_set]
 by_cases hk:k=i
 ·subst hk
  by_cases hl:k<d.length
  ·rw[if_pos rfl,if_pos hl,dz hl];exact congrArg some h
  rw[if_pos rfl,if_neg hl,List.getElem?_eq_none (by omega)]
 rw[if_neg hk]
theorem pB {d:List Qn} {k:Nat} {y:Qn} {n m:Nat} (h:∀ i,(gt d i).t.length<=8∧(gt d i).p.length<=n) (hn:n<=m) (b:y.t.length<=(gt d k).t.length) (c:y.p.length+n<=(gt d k).p.length+m):∀ i,(gt (d.set k y) i).t.length<=8∧(gt (d.set k y) i).p.length<=m:=
 gU (P:=fun(a:Qn)=>a.t.length<=8∧a.p.length<=m) (fun i=>by have:=h i;omega) (by have:=h k;omega)
abbrev qz (x0:Qj) (G161:Int) (k190:Nat) (d192:(List Qn)):(List ax):=
 ((gt d192 (G161.toNat)).p++[(⟨(gt (gt x0.d.c (x0.j.toNat)) k190).Id,(gt (gt x0.d.c (x0.j.toNat)) k190).m⟩:ax)])
abbrev vk (x0:Qj) (G161:Int) (k190:Nat) (d192:(List Qn)):(List Qn):=
 (d192.set (G161.toNat) (⟨(gt d192 (G161.toNat)).e,(gt d192 (G161.toNat)).r,(gt d192 (G161.toNat)).t,(gt d192 (G161.toNat)).v,(gt d192 (G161.toNat)).A,(gt d192 (G161.toNat)).z,(qz x0 G161 k190 d192)⟩:Qn))
abbrev cP (x0:Qj) (G161:Int) (s191:Int) (d192:(List Qn)):(List Qn):=
 (d192.set (G161.toNat) (⟨(gt d192 (G161.toNat)).e,(gt d192 (G161.toNat)).r,(tm ((gt d192 (G161.toNat)).t) x0.j),(gt d192 (G161.toNat)).v,(IntKind.i64.wrap (((gt d192 (G161.toNat)).A)+s191)),(gt d192 (G161.toNat)).z,(gt d192 (G161.toNat)).p⟩:Qn))
def cO (a:Qj) (p:(List Int)) (o:(List bf)) (g:Nat) (i:(List Qn)) (e:Nat) (h:Int) (b:(List Qn)):Qj⊕(Int×(List Qn)):=
 cond (ls ((rx (lr o) (⟨(gt (gt a.d.c (a.j.toNat)) e).Id,(gt (gt a.d.c (a.j.toNat)) e).m⟩:ax) a.l).1) (gt p g)) (cond (qy (gt (gt a.d.c (a.j.toNat)) e) ((gt b ((da (⟨a.d,a.j,a.l,i,a.f,a.k,a.n⟩:Qj) (gt p g)).toNat)).r)) (Sum.inr ((IntKind.i64.wrap (h+1)),(vk a (da (⟨a.d,a.j,a.l,i,a.f,a.k,a.n⟩:Qj) (gt p g)) e b))) (Sum.inr (h,b))) (Sum.inr (h,b))
abbrev cQ (x0:Qj) (x1:(List Int)) (d143:(List Int)) (d147:(List Int)):(List fy):=
 (x0.k++[(⟨x0.j,(((gt x0.d.c (x0.j.toNat)).length:Nat):Int),x1,d143,d147⟩:fy)])
def cN (b:Qj) (o:(List Int)) (m:(List bf)) (g:Nat) (h:(List Int)) (i:(List Int)) (a:(List Qn)):Qj⊕((List Int)×(List Int)×(List Qn)):=
 Sum.elim Sum.inl (fun(s:Int×(List Qn))=>Sum.inr ((h++[(gt a ((da (⟨b.d,b.j,b.l,a,b.f,b.k,b.n⟩:Qj) (gt o g)).toNat)).e.u]),(i++[s.1]),(cP b (da (⟨b.d,b.j,b.l,a,b.f,b.k,b.n⟩:Qj) (gt o g)) s.1 s.2))) (ay (R:=Qj) (fun k (s:Int×(List Qn))=>cO b o m g a k s.1 s.2) ((gt b.d.c (b.j.toNat)).length-0) 0 (0,a))
def yg (d:Qj) (f:(List Int)) (c:Nat) (b:(List bf)):Qj⊕((List bf)):=
 Sum.inr (b++[(gt d.a ((da d (gt f c)).toNat)).e])
def sx (b:Qj) (c:(List Int)):Qj:=
 Sum.elim id (fun(s1_:(List bf))=>Sum.elim id (fun(s:(List Int)×(List Int)×(List Qn))=>(⟨b.d,b.j,b.l,s.2.2,b.f,(cQ b c s.1 s.2.1),b.n⟩:Qj)) (ay (R:=Qj) (fun k (s:(List Int)×(List Int)×(List Qn))=>cN b c s1_ k s.1 s.2.1 s.2.2) (c.length-0) 0 ([],[],b.a))) (ay (R:=Qj) (fun k (s:(List bf))=>yg b c k s) (c.length-0) 0 [])
theorem yP:Cb Tryz.prog 133:=⟨f133,_,func133,rfl,by decide⟩
theorem Jh (B:Nat) (w0:World) (is:List It) (w:World) (p:Nat) (z0:List Value) (I:Qj) (z1:Value) (U:(List Int)) (H0:ju 68719476736 I) (A4:U.length<=68719476736) (hE:fr I) (hI:U=bv I) (M:Mem B w0 (Qa p 39 z0::Qh cv z0 I::Qh (ab Qb 3) [z1] U::is) w):
 Calls Tryz.prog 133 #[.pointer (sA p),z1] w fun e w'=>∃ x:List Value,e= .returned (.tuple #[])∧Mem B w0 (Qa p 39 x::Qh cv x (sx I U)::Qh (ab Qb 3) [z1] U::is) w':=by
 refine oq (L:=[(0, .pointer (sA p)),(1,z1)]) (N:=214) func133 rfl rfl (Nat.le_of_ble_eq_true rfl) (jr rfl (jr rfl mm)) M ?_;refine ey (js:=(Qh cv z0 I::Qa p 39 z0::Qh (ab Qb 3) [z1] U::is)) (fun W M=>(M.front (n:=1) rfl)) ?_;refine ph (γ:=Value×Value×Value×Value×Value) (js:=fun g=>[Qh (ab (ab Qy 163) 100) [g.1] I.d.c,Qh (ab Qb 3) [g.2.1] I.l,Qh (ab Qt 61) [g.2.2.1] I.a,Qh (ab bb 80) [g.2.2.2.1] I.f,Qh (ab ba 102) [g.2.2.2.2] I.k]) (C:=fun g=>z0=[g.1,iV I.d.g,iV I.j,g.2.1,g.2.2.1,g.2.2.2.1,g.2.2.2.2,iV I.n]) (fun _ _ h=>oF h) ?_;rintro⟨_,_,_,_,_⟩ rfl;refine ib (n:=0) rfl ?_;rintro A6 c7 rfl m8;refine ib (n:=1) rfl ?_;rintro r0 t0 rfl y6;refine ib (n:=2) rfl ?_;rintro I0 b0 rfl z6;refine ib (n:=3) rfl ?_;rintro s0 u0 rfl B6;refine ib (n:=4) rfl ?_;rintro C0 D0 rfl C6;refine ib (n:=6) rfl ?_;rintro J0 v0 rfl D6;have:I.d.c.length<=68719476736:=H0.1.1;have:=H0.2.1;have:=H0.2.2.1.1;have:=H0.2.2.2.1.1;have:=H0.2.2.2.2.1;have:U.length<=68719476736:=A4;have:=hE.al;have:=hE.cur;have:=((ka _).1 hE.st).1;have:=hE.dl;have:=hE.ll;have:=hE.stp;have:U.length<=8:=by rw[hI];exact bB hE
 have hin:∀ y∈U,0<=da I y:=by rw[hI];exact wT hE
 have ho:=xz hE.ord;have hsg:=pC hE;refine tQ (fun W0 E0=>?_);have o4:=E0.rdSI (n:=0) rfl;have:=bV o4;have p4:=E0.rdSI (n:=1) rfl;have:=bV p4;have V3:=E0.rdSI (n:=2) rfl;have m4:=bV V3;have q4:=E0.rdSI (n:=3) rfl;have:=bV q4;have r4:=E0.rdSI (n:=4) rfl;have:=bV r4;have s4:=E0.rdSI (n:=6) rfl;have n4:=bV s4;have O2:=E0.rdPBox (T:=cv) (n:=5) rfl (gm (x:=I) (E0.rdSI (n:=0) rfl) (E0.rdSI (n:=1) rfl) (E0.rdSI (n:=2) rfl) (E0.rdSI (n:=3) rfl) (E0.rdSI (n:=4) rfl));refine sr ?_;refine eh (E:=(la eb W0 W0.heap.size)) ol cn (Qe rfl) (by decide) (fun l4=>?_);refine wa (aa (Qk (sr (wa (aa (aw ?_))))));refine dj (S:=(List bf)) (R:=Option Addr×Nat) (fun k (s:(List bf))=>yg I U k s) U.length 0 [] ((sA l4),0) (fun s=>[(0,bp p),(1, .slice J0 U.length v0),(4, .slice s.2.2.1 s.2.1.length s.2.2.2),(5,nI s.1)]) (fun s=>[iS (la eb W0 W0.heap.size) 58 s.2.2.1 s.2.2.2 s.2.1]) (fun s=>s.2.1.length<=0+s.1∧s.2.1=ml I (U.take s.1)) dy ⟨Nat.le_refl _,rfl⟩ ?_;rintro⟨d0,c0,⟨k3,M3⟩⟩ l3 _ _ e e';dsimp only at l3 ⊢;subst e e';obtain⟨_,H2,_,I2⟩:=l3;refine Qk (sr (wm (wm ?_)));refine wv (bc Qq) ?_;refine wv cz ?_;refine aa ?_;rcases dp d0 U.length with⟨J2,b3⟩|⟨J2,b3⟩
 ·have k4:=hin _ (bl (show d0<U.length from by omega));have hfl:=nJ I (gt U d0);refine Qr rfl b3 ?_;refine aj (Qi (Qk (aw ?_)));refine rb 19 (s:=[]) (pk []) ?_;refine qt 19 0 1 rfl ap ?_;refine qt 19 1 3 rfl ap ?_;refine qt 19 2 7 rfl (fun W M=>ik rfl) ?_;refine qt 19 3 15 rfl (vf Qs rfl dw) ?_;refine qt 19 4 31 rfl (fun W M=>cl bj rfl rfl (fL O2 rfl rfl M (o:=4) rfl)) ?_;refine qt 19 5 63 rfl ap ?_;refine qt 19 6 127 rfl (fun W M=>ik rfl) ?_;refine qt 19 7 255 rfl (fun W M=>Qv (cs:=[.slice A6 I.d.c.length c7,iV I.d.g,iV I.j, .slice r0 I.l.length t0, .slice I0 I.a.length b0, .slice s0 I.f.length u0, .slice C0 I.k.length D0,iV I.n]) Qs ai rfl rfl (yF O2 rfl rfl M)) ?_;refine qt 19 8 511 rfl ap ?_;refine qt 19 9 1023 rfl ap ?_;obtain⟨b4,rfl,N3,Q3⟩:=n4 (by omega);refine qt 19 10 2047 rfl (bx 1 d0 Qq Qg) ?_;refine qt 19 11 4095 rfl (fun W M=>cl Qu rfl rfl ((M.cell0 (show(b4.add (d0*1)).block<W0.heap.size from by rw[bh];exact N3.1)).trans (jq Q3 d0 (by omega)))) ?_;refine qo 19 12 8191 rfl ?_;refine eo (Qp pS rfl) (fun W M=>rT W _ _ _ _ _ _ _ _ I (gt U d0) (M.rdS0 V3)) ?_;refine qn (pk []) ?_;obtain⟨c4,rfl,O3,R3⟩:=m4 (by omega);refine qt 19 13 16383 rfl (fun W M=>gx (sz:=10) (k:=(da I (gt U d0))) bj bz rfl rfl rfl (by omega) (by omega)) ?_;refine qt 19 14 32767 rfl (vf bu rfl cn) ?_;obtain⟨_,f4,P3⟩:=R3 ((da I (gt U d0)).toNat) _ (dz (show((da I (gt U d0)).toNat)<I.a.length from by omega));obtain⟨_,_,_,_,rfl,t4,u4,w4,x4⟩:=mw f4;have:=(H0.2.2.1.2 _ (bl (show((da I (gt U d0)).toNat)<I.a.length from by omega))).1.1;have:=(H0.2.2.1.2 _ (bl (show((da I (gt U d0)).toNat)<I.a.length from by omega))).1.2;have:=(H0.2.2.1.2 _ (bl (show((da I (gt U d0)).toNat)<I.a.length from by omega))).2.1;have:=(H0.2.2.1.2 _ (bl (show((da I (gt U d0)).toNat)<I.a.length from by omega))).2.2.1;obtain⟨_,W3,d4,rfl,_,y4⟩:=Ql t4;obtain⟨_,X3,e4,rfl,_,z4⟩:=Ql u4;obtain⟨_,_,_,rfl,_,_⟩:=Ql w4;obtain⟨_,_,_,rfl,_,_⟩:=Ql x4;let K1:List Value:=[iV ((gt I.a ((da I (gt U d0)).toNat)).e.Id),iV ((gt I.a ((da I (gt U d0)).toNat)).e.u), .slice W3 ((gt I.a ((da I (gt U d0)).toNat)).e.o).length d4, .slice X3 ((gt I.a ((da I (gt U d0)).toNat)).e.q).length e4];refine qt 19 15 65535 rfl (fun W M=>Qv (cs:=K1) cr cn rfl rfl (M.elPart (show(c4.add (((da I (gt U d0)).toNat)*10)).block<W0.heap.size from by rw[bh];exact O3.1) P3 rfl)) ?_;refine qo 19 16 131071 rfl ?_;refine di (cs:=K1) ol cn rfl (by decide) (by decide) rfl (by kernel_rfl) (Qe rfl) (by decide) (fun _=>?_);refine qn (pk []) ?_;refine qo 19 17 262143 rfl ?_;refine fi (la eb W0 W0.heap.size) 58 (.slice k3 c0.length M3) c0 ((gt I.a ((da I (gt U d0)).toNat)).e) [] [] K1 ag (fun _ _ hs=>by cases (Sep.nil hs);exact(du (E:=(la eb W0 W0.heap.size)) (L1:=[]) ⟨rfl,(lb y4 z4)⟩ ic)) ol cn (show(c0.length+1)*64<=140737488355328 from by first|omega|(have:=hTd _;omega)) (fun _=>?_);refine fm 0 ?_;rintro i3 J3 rfl D4;refine qn (pk []) ?_;refine qt 19 18 524287 rfl (fun W M=>lz rfl) ?_;refine fz (by kernel_rfl) ?_;refine bi (Qi (ak (wm ?_)));refine wv (bs d0 1 (by omega)) ?_;refine wa (au ?_);exact br (d0+1,(c0++[(gt I.a ((da I (gt U d0)).toNat)).e]),(i3,J3)) dy ag ⟨(by omega),nx H2 (rfl),(show(c0++[(gt I.a ((da I (gt U d0)).toNat)).e]).length<=0+(d0+1) from by first|omega|(simp only[List.length_append,List.length_cons,List.length_nil] at *;omega)),(show(c0++[(gt I.a ((da I (gt U d0)).toNat)).e])=ml I (U.take (d0+1)) from by rw[eU (by omega), <- I2])⟩ rl
 refine Qw rfl b3 ?_;refine co (ao (ao ?_));have c3:=dk J2 H2;have hQ:c0=ml I U:=by rw[I2,List.take_of_length_le (by omega)]
 have hf:(lr c0).F.length=3:=by rw[hQ,hI];exact(eT hE).1
 have hbs:rN 68719476736 (lr c0):=by rw[hQ,hI];exact(eT hE).2
 have hqs:c0.length<=68719476736∧∀ y∈c0,lq 68719476736 y:=by rw[hQ];exact wW H0 (by omega)
 refine cp (Qi (sr (wm ?_)));refine io ul (lr c0) (Qp zL rfl) (fun W M=>Hq W _ c0 (M.unbor (M.rdSI (n:=0) rfl)) hqs) (fun _=>?_);refine Lz ?_;rintro⟨_,_⟩ rfl;refine fm 0 ?_;rintro Z1 r2 rfl E4;refine fm 1 ?_;rintro a2 t2 rfl F4;refine ca type204 rfl (Qe rfl) (by decide) (fun i0=>?_);let K2:List Value:=[.slice Z1 ((lr c0).J).length r2, .slice a2 ((lr c0).F).length t2];let S0:It:=iS eb 58 Z1 r2 ((lr c0).J);let T0:It:=iS (ab lc 238) 225 a2 t2 ((lr c0).F);refine sb 0 K2 [S0,T0,iS (la eb W0 W0.heap.size) 58 k3 M3 c0] ag type204 ?_;refine au ?_;refine cc (pk [0,1,2]) ?_;refine wA E0 ?_;refine wD (L':=[(0,bp p),(1, .slice J0 U.length v0),(6,bp i0)]) fu ?_;let n1:List It:=iS Qb 3 J0 v0 U::is;show QM 214 _ _ _ .normal [(0,bp p),(1, .slice J0 U.length v0),(6,bp i0)] (Qa i0 204 K2::S0::T0::iS (ab Qy 163) 100 A6 c7 I.d.c::iS Qb 3 r0 t0 I.l::iS Qt 61 I0 b0 I.a::iS bb 80 s0 u0 I.f::iS ba 102 C0 D0 I.k::Qa p 39 [.slice A6 I.d.c.length c7,iV I.d.g,iV I.j, .slice r0 I.l.length t0, .slice I0 I.a.length b0, .slice s0 I.f.length u0, .slice C0 I.k.length D0,iV I.n]::n1);refine Qi (Qk ?_);refine sd (n:=3) rfl (by omega) ?_;rintro F0 rfl;let K3:List Value:=[.slice (sA F0) I.d.c.length c7,iV I.d.g,iV I.j, .slice r0 I.l.length t0, .slice I0 I.a.length b0, .slice s0 I.f.length u0, .slice C0 I.k.length D0,iV I.n];let u3:List It:=Qa i0 204 K2::S0::T0::iS Qb 3 r0 t0 I.l::iS Qt 61 I0 b0 I.a::iS bb 80 s0 u0 I.f::iS ba 102 C0 D0 I.k::Qa p 39 K3::n1;refine rk (E:=(ab Qy 163)) (e:=100) (A:=(sA F0)) (n:=I.d.c.length) (c:=c7) (xs:=I.d.c) (k:=(I.j.toNat)) (js:=u3) (by omega) (fun W M=>(M.front (n:=3) rfl)) (fun W2=>?_);refine ph (γ:=Value) (js:=fun g=>[Qh (ab Qy 163) [g] (gt I.d.c (I.j.toNat))]) (C:=fun g=>W2=[g]) (fun _ _ h=>tp h) ?_;rintro _ rfl;refine ib (n:=0) rfl ?_;rintro N0 q0 rfl G4;refine kf (by kernel_rfl) (by kernel_rfl) ?_;refine qm ?_;refine qv (fun W M=>ik rfl) ?_;refine qv (vf Qs rfl bn) ?_;refine qv (fun W M=>ir (o:=0) bq rfl fh (by decide) rfl rfl) ?_;refine qv (vl 9 0 cm) ?_;refine qm ?_;refine qv (fun W M=>ik rfl) ?_;refine qv (vf Qs rfl Qg) ?_;refine qv (vl 9 2 Qu) ?_;refine qv (fun W M=>gx (sz:=1) (k:=I.j) cm im rfl rfl rfl (by omega) (by omega)) ?_;refine qv (fun W M=>cl db rfl rfl (M.focInt (i:=1) rfl rfl)) ?_;refine qv (fun W M=>lz rfl) ?_;refine fq (Qk ?_);let K4:List Value:=[.slice N0 (gt I.d.c (I.j.toNat)).length q0];let K0:It:=iS Qy 163 N0 q0 (gt I.d.c (I.j.toNat));let L0:It:=fg (ab Qy 163) 100 (sA F0) I.d.c.length c7 I.d.c (I.j.toNat) K4;let M0:List It:=K0::L0::u3;refine iz 12 [11] (s:=M0) (s2:=M0) ag ag ?_;let K5:List Value:=[iV 0,iV 0, .slice none 0 0, .slice none 0 0, .slice none 0 0];refine py (σ:=Option Addr×Nat×Nat) (fun s=>M0) 12 2047 1 (fun s=>[(0,bp p),(1, .slice J0 U.length v0),(6,bp i0),(7, .slice N0 (gt I.d.c (I.j.toNat)).length q0),(63, .agg #[iV I.j,nI ((gt I.d.c (I.j.toNat)).length), .slice s.1 U.length s.2.1, .slice none 0 0, .slice none 0 0]),(8, .pointer (some (⟨s.2.2,0,none⟩:Addr)))]) (fun s=>(Qa s.2.2 102 K5::iS Qb 3 s.1 s.2.1 U::M0)) ?_ (fun H=>?_)
 ·rintro⟨e0,g0,V⟩;show QD _ _ _ _ _ _ _ _ [(0,bp p),(1, .slice J0 U.length v0),(6,bp i0),(7, .slice N0 (gt I.d.c (I.j.toNat)).length q0),(63, .agg #[iV I.j,nI ((gt I.d.c (I.j.toNat)).length), .slice e0 U.length g0, .slice none 0 0, .slice none 0 0]),(8,bp V)] _ M0 _ (Qa V 102 K5::iS Qb 3 e0 g0 U::M0);refine mb (n:=1) rfl ?_;intro H4 I4;refine be 12 11 4095 rfl ?_;let K6:List Value:=[iV I.j,nI ((gt I.d.c (I.j.toNat)).length), .slice e0 U.length g0, .slice none 0 0, .slice none 0 0];refine eu (p:=V) (o:=0) (cs':=K6) (fun w M=>M.front (n:=0) rfl) je rfl (Nat.le_of_ble_eq_true rfl) rfl rfl rfl rfl (Qe rfl) ?_;refine iy (pn 13 [2,3,4,5,6,7,8,9,10,11,12]) ?_;refine fz (by kernel_rfl) ?_;refine Qi (Qk (sr (wa (aa (aw ?_)))));refine ey (js:=(Qh (ab Qb 3) [.slice none 0 0] []::Qa V 102 K6::iS Qb 3 e0 g0 U::M0)) (fun W M=>M.addNil (E:=Qb) (e:=3)) ?_;let w3:List It:=Qa V 102 K6::iS Qb 3 e0 g0 U::K0::L0::Qa i0 204 K2::S0::T0::iS Qb 3 r0 t0 I.l::iS Qt 61 I0 b0 I.a::iS bb 80 s0 u0 I.f::iS ba 102 C0 D0 I.k::Qa p 39 K3::iS Qb 3 J0 v0 U::Qh (ab Qb 3) [.slice none 0 0] []::is;refine ey (js:=w3) (pn 14 [1,2,3,4,5,6,7,8,9,10,11,12,13,0]) ?_;refine ey (js:=(Qh (ab Qb 3) [.slice none 0 0] []::w3)) (fun W M=>M.addNil (E:=Qb) (e:=3)) ?_;refine ey (js:=(Qa V 102 K6::iS Qb 3 e0 g0 U::K0::L0::Qa i0 204 K2::S0::T0::iS Qb 3 r0 t0 I.l::iS Qt 61 I0 b0 I.a::iS bb 80 s0 u0 I.f::iS ba 102 C0 D0 I.k::Qa p 39 K3::iS Qb 3 J0 v0 U::Qh (ab Qb 3) [.slice none 0 0] []::Qh (ab Qb 3) [.slice none 0 0] []::is)) (pn 15 [1,2,3,4,5,6,7,8,9,10,11,12,13,14,0]) ?_;refine dj (S:=(List Int)×(List Int)×(List Qn)) (R:=Option Addr×Nat×Option Addr×Nat) (fun k (s:(List Int)×(List Int)×(List Qn))=>cN I U c0 k s.1 s.2.1 s.2.2) U.length 0 ([],[],I.a) (none,0,none,0) (fun s=>[(0,bp p),(1, .slice J0 U.length v0),(6,bp i0),(7, .slice N0 (gt I.d.c (I.j.toNat)).length q0),(8,bp V),(9,nI s.1)]) (fun s=>(Qa V 102 [iV I.j,nI ((gt I.d.c (I.j.toNat)).length), .slice e0 U.length g0, .slice s.2.2.1 s.2.1.1.length s.2.2.2.1, .slice s.2.2.2.2.1 s.2.1.2.1.length s.2.2.2.2.2]::iS Qb 3 e0 g0 U::K0::L0::Qa i0 204 K2::S0::T0::iS Qb 3 r0 t0 I.l::Qh (ab Qt 61) [.slice I0 I.a.length b0] s.2.1.2.2::iS bb 80 s0 u0 I.f::iS ba 102 C0 D0 I.k::Qa p 39 K3::iS Qb 3 J0 v0 U::iS Qb 3 s.2.2.1 s.2.2.2.1 s.2.1.1::iS Qb 3 s.2.2.2.2.1 s.2.2.2.2.2 s.2.1.2.1::is)) (fun s=>s.2.1.1.length<=0+s.1∧s.2.1.2.1.length<=0+s.1∧s.2.1.2.2.map (fun(a:Qn)=>a.e.Id)=I.a.map (fun(a:Qn)=>a.e.Id)∧∀ i,(gt s.2.1.2.2 i).t.length<=8∧(gt s.2.1.2.2 i).p.length<=1000+4*s.1) lh ⟨Nat.le_refl _,Nat.le_refl _,rfl,eY hE⟩ ?_;rintro⟨X,⟨Y,Z,O⟩,⟨X0,b1,O0,P0⟩⟩ p2 _ _ e e';dsimp only at p2 ⊢;subst e e';obtain⟨_,R1,_,_,S1,h3⟩:=p2;refine Qk (sr (wm (wm ?_)));refine wv (bc Qq) ?_;refine wv cz ?_;refine aa ?_;rcases dp X U.length with⟨T1,P1⟩|⟨T1,P1⟩
  ·have k4:=hin _ (bl (show X<U.length from by omega));have hfl:=nJ I (gt U X);obtain⟨hfq,hdl⟩:=Mz S1 (gt U X);refine Qr rfl P1 ?_;refine aj (Qi (Qk (aw (Qk ?_))));refine sd (n:=12) rfl (by omega) ?_;rintro Q0 rfl;refine kf (by kernel_rfl) (by kernel_rfl) ?_;refine qm ?_;refine qv (fun W M=>ik rfl) ?_;refine qv (fun W M=>Qv (cs:=K3) Qs ai rfl rfl (M.boxCells (n:=11) rfl)) ?_;refine qm (qm ?_);refine qv (bx 1 X Qq Qg) ?_;refine qv (fun W M=>cl Qu rfl rfl (M.ownInt (i:=12) rfl (by omega))) ?_;refine jp (Qp pS rfl) (fun W M=>rT W _ _ _ _ _ _ _ _ (⟨I.d,I.j,I.l,O,I.f,I.k,I.n⟩:Qj) (gt U X) (M.rdSI (n:=8) rfl)) (Qe rfl) (by decide) ?_;obtain⟨b,G0⟩:∃ G,G=(da (⟨I.d,I.j,I.l,O,I.f,I.k,I.n⟩:Qj) (gt U X)):=⟨_,rfl⟩;rw[<- G0] at hfq ⊢;refine qv (fun W M=>lz rfl) ?_;refine fq (Qk ?_);refine sd (n:=8) rfl (by omega) ?_;rintro h0 rfl;let K7:List Value:=[iV I.j,nI ((gt I.d.c (I.j.toNat)).length), .slice e0 U.length g0, .slice X0 Y.length b1, .slice O0 Z.length P0];let K8:List Value:=[.slice (sA F0) I.d.c.length c7,iV I.d.g,iV I.j, .slice r0 I.l.length t0, .slice (sA h0) I.a.length b0, .slice s0 I.f.length u0, .slice C0 I.k.length D0,iV I.n];let x3:List It:=iS Qb 3 O0 P0 Z::is;refine rk (E:=Qt) (e:=61) (A:=(sA h0)) (n:=I.a.length) (c:=b0) (xs:=O) (k:=(b.toNat)) (js:=(Qa V 102 K7::iS Qb 3 e0 g0 U::K0::L0::Qa i0 204 K2::S0::T0::iS Qb 3 r0 t0 I.l::iS bb 80 s0 u0 I.f::iS ba 102 C0 D0 I.k::Qa p 39 K8::iS Qb 3 (sA Q0) v0 U::iS Qb 3 X0 b1 Y::x3)) (by omega) (fun W M=>(M.front (n:=8) rfl)) (fun X2=>?_);refine ph (γ:=Value×Value×Value×Value) (js:=fun g=>[Qh (ab cg 180) [g.1] ((gt O (b.toNat)).e.o),Qh (ab Qb 3) [g.2.1] ((gt O (b.toNat)).e.q),Qh (ab Qb 3) [g.2.2.1] ((gt O (b.toNat)).t),Qh (ab bo 70) [g.2.2.2] ((gt O (b.toNat)).p)]) (C:=fun g=>X2=[iV ((gt O (b.toNat)).e.Id),iV ((gt O (b.toNat)).e.u),g.1,g.2.1,iV ((gt O (b.toNat)).r),g.2.2.1,iV ((gt O (b.toNat)).v),iV ((gt O (b.toNat)).A),iV ((gt O (b.toNat)).z),g.2.2.2]) (fun _ _ h=>oE h) ?_;rintro⟨_,_,_,_⟩ rfl;refine ib (n:=0) rfl ?_;rintro b2 u2 rfl J4;refine ib (n:=1) rfl ?_;rintro c2 w2 rfl L4;refine ib (n:=2) rfl ?_;rintro d2 x2 rfl M4;refine ib (n:=3) rfl ?_;rintro e2 y2 rfl N4;let K9:List Value:=[iV ((gt O (b.toNat)).e.Id),iV ((gt O (b.toNat)).e.u), .slice b2 ((gt O (b.toNat)).e.o).length u2, .slice c2 ((gt O (b.toNat)).e.q).length w2,iV ((gt O (b.toNat)).r), .slice d2 ((gt O (b.toNat)).t).length x2,iV ((gt O (b.toNat)).v),iV ((gt O (b.toNat)).A),iV ((gt O (b.toNat)).z), .slice e2 ((gt O (b.toNat)).p).length y2];let P2:It:=iS cg 180 b2 u2 ((gt O (b.toNat)).e.o);let Q2:It:=iS Qb 3 c2 w2 ((gt O (b.toNat)).e.q);let R2:It:=iS Qb 3 d2 x2 ((gt O (b.toNat)).t);let S2:It:=iS bo 70 e2 y2 ((gt O (b.toNat)).p);let T2:It:=fg Qt 61 (sA h0) I.a.length b0 O (b.toNat) K9;let y3:List It:=Qa i0 204 K2::S0::T0::iS Qb 3 r0 t0 I.l::iS bb 80 s0 u0 I.f::iS ba 102 C0 D0 I.k::Qa p 39 K8::iS Qb 3 (sA Q0) v0 U::x3;let X1:List It:=iS Qb 3 e0 g0 U::K0::L0::y3;let z3:List It:=P2::Q2::R2::S2::T2::Qa V 102 K7::X1;refine iz 15 [14] (s:=(P2::Q2::R2::S2::T2::X1)) (s2:=z3) (pn 19 [0,1,2,3,4,6,7,8,9,10,11,12,13,14,15,16,18]) (pn 19 [0,1,2,3,4,5,6,7,8,9,10,11,12,13,14,15,16,18]) ?_;refine ae 15 0 1 rfl (vf ft rfl cb) ?_;refine ae 15 1 3 rfl (vl 5 3 Qq) ?_;refine ae 15 2 7 rfl ap ?_;refine ae 15 3 15 rfl (fun W M=>ik rfl) ?_;refine ae 15 4 31 rfl (vf Qs rfl dw) ?_;refine ae 15 5 63 rfl (vl 15 4 bj) ?_;refine ae 15 6 127 rfl ap ?_;refine ae 15 7 255 rfl (fun W M=>gx (sz:=10) (k:=b) bj bz rfl rfl rfl (by omega) (by omega)) ?_;refine ae 15 8 511 rfl (vf bu rfl cn) ?_;refine ae 15 9 1023 rfl (fun W M=>ir (o:=1) cr rfl Qg (by decide) rfl rfl) ?_;refine ae 15 10 2047 rfl (fun W M=>cl Qu rfl rfl (M.focCells (i:=4) rfl rfl 1 _ rfl)) ?_;refine be 15 11 4095 rfl ?_;refine di (cs:=[iV ((gt O (b.toNat)).e.u)]) Qq Qg rfl (by decide) (by decide) rfl (by kernel_rfl) (Qe rfl) (by decide) (fun _=>?_);refine av (pn 20 [1,2,3,4,5,7,8,9,10,11,12,13,14,15,16,17,19]) (pn 20 [1,2,3,4,5,6,7,8,9,10,11,12,13,14,15,16,17,19]) ?_;refine be 15 12 8191 rfl ?_;refine fi Qb 3 (.slice X0 Y.length b1) Y ((gt O (b.toNat)).e.u) [] z3 [iV ((gt O (b.toNat)).e.u)] (fun W M=>((M.front (n:=18) rfl).front (n:=1) rfl)) (fun _ _ hs=>by cases (Sep.nil hs);exact(du cq ic)) Qq Qg (show(Y.length+1)*8<=140737488355328 from by first|omega|(have:=hTd _;omega)) (fun _=>?_);refine fm 0 ?_;rintro i1 k1 rfl O4;refine av (pn 19 [1,2,3,4,5,7,8,9,10,11,12,13,14,15,16,17,18]) (pn 19 [1,2,3,4,5,6,7,8,9,10,11,12,13,14,15,16,17,18]) ?_;refine ae 15 13 16383 rfl (vf ft rfl cb) ?_;refine be 15 14 32767 rfl ?_;let E1:List Value:=[iV I.j,nI ((gt I.d.c (I.j.toNat)).length), .slice e0 U.length g0, .slice i1 (Y++[(gt O (b.toNat)).e.u]).length k1, .slice O0 Z.length P0];refine eu (p:=V) (o:=3) (cs':=E1) (fun w M=>M.front (n:=6) rfl) cb rfl (Nat.le_of_ble_eq_true rfl) rfl rfl rfl rfl (Qe rfl) ?_;refine iy (pn 19 [2,3,4,5,6,7,8,9,10,11,12,13,14,15,16,17,18]) ?_;refine fz (by kernel_rfl) ?_;refine Qi (sr (wa (aa (Qk (sr (wa (aa (aw ?_))))))));let V1:It:=iS Qb 3 i1 k1 (Y++[(gt O (b.toNat)).e.u]);refine ey (fun W M=>Mem.unfocus0 (Mem.join (is:=[P2,Q2,R2,S2]) (js:=(T2::(Qa V 102 E1::V1::X1))) (fun _ _ hs=>mv (x:=(gt O (b.toNat))) hs) (M.pickN 19 [2,3,4,5,6,0,1,7,8,9,10,11,12,13,14,15,16,17,18] (by decide)))) ?_;refine dj (S:=Int×(List Qn)) (R:=Unit) (fun k (s:Int×(List Qn))=>cO I U c0 X O k s.1 s.2) ((gt I.d.c (I.j.toNat)).length) 0 (0,O) () (fun s=>[(0,bp p),(1, .slice (sA Q0) U.length v0),(6,bp i0),(7, .slice N0 (gt I.d.c (I.j.toNat)).length q0),(8,bp V),(9,nI X),(10,iV b),(11,iV s.2.1.1),(12,nI s.1)]) (fun s=>(Qh (ab Qt 61) [.slice (sA h0) I.a.length b0] s.2.1.2::Qa V 102 E1::V1::X1)) (fun s=>s.2.1.2.map (fun(a:Qn)=>a.e.Id)=O.map (fun(a:Qn)=>a.e.Id)∧∀ i,(gt s.2.1.2 i).t.length<=8∧(gt s.2.1.2 i).p.length<=1000+4*X+s.1) pw ⟨rfl,h3⟩ ?_;rintro⟨K,⟨a0,D⟩,⟨⟩⟩ q2 _ _ e e';dsimp only at q2 ⊢;subst e e';obtain⟨_,V0,B0,p0⟩:=q2;refine Qk (sr (wm (wm ?_)));refine wv (bc db) ?_;refine wv cz ?_;refine aa ?_;rcases dp K ((gt I.d.c (I.j.toNat)).length) with⟨U1,Q1⟩|⟨U1,Q1⟩
   ·have hv:=wU hE (show K<_ from by omega);have hTd:=p0;refine Qr rfl Q1 ?_;refine aj (Qi (Qk (aw (Qk ?_))));refine sd (n:=4) rfl (by omega) ?_;rintro d1 rfl;let Z3:List Value:=[.slice (sA d1) (gt I.d.c (I.j.toNat)).length q0];let m1:It:=Qh (ab Qt 61) [.slice (sA h0) I.a.length b0] D;let Y3:It:=fg (ab Qy 163) 100 (sA F0) I.d.c.length c7 I.d.c (I.j.toNat) Z3;let Y0:List It:=Qa V 102 E1::V1::iS Qb 3 e0 g0 U::Y3::y3;refine rk (E:=Qy) (e:=163) (A:=(sA d1)) (n:=(gt I.d.c (I.j.toNat)).length) (c:=q0) (xs:=(gt I.d.c (I.j.toNat))) (k:=K) (js:=(m1::Y0)) (by omega) (fun W M=>(M.front (n:=4) rfl)) (fun Y2=>?_);refine ph (γ:=Value) (js:=fun g=>[Qh (ab Qb 3) [g] ((gt (gt I.d.c (I.j.toNat)) K).m)]) (C:=fun g=>Y2=[iV ((gt (gt I.d.c (I.j.toNat)) K).Id),g,iV ((gt (gt I.d.c (I.j.toNat)) K).x),iV ((gt (gt I.d.c (I.j.toNat)) K).y)]) (fun _ _ h=>lO h) ?_;rintro _ rfl;refine ib (n:=0) rfl ?_;rintro q1 F1 rfl P4;let D3:List Value:=[iV ((gt (gt I.d.c (I.j.toNat)) K).Id), .slice q1 ((gt (gt I.d.c (I.j.toNat)) K).m).length F1,iV ((gt (gt I.d.c (I.j.toNat)) K).x),iV ((gt (gt I.d.c (I.j.toNat)) K).y)];let g1:It:=iS Qb 3 q1 F1 ((gt (gt I.d.c (I.j.toNat)) K).m);let h1:It:=fg Qy 163 (sA d1) ((gt I.d.c (I.j.toNat)).length) q0 (gt I.d.c (I.j.toNat)) K D3;refine iz 13 [12] (s:=(g1::h1::m1::Y0)) (s2:=(g1::h1::m1::Y0)) ag ag ?_;refine ae 13 0 1 rfl ap ?_;refine ae 13 1 3 rfl ap ?_;refine ae 13 2 7 rfl (bx 4 K db ct) ?_;refine ae 13 3 15 rfl (vf dh rfl Qg) ?_;refine ae 13 4 31 rfl (fun W M=>cl Qu rfl rfl (M.focCells (i:=1) rfl rfl 0 _ rfl)) ?_;refine ae 13 5 63 rfl ap ?_;refine ae 13 6 127 rfl ap ?_;refine ae 13 7 255 rfl (bx 4 K db ct) ?_;refine ae 13 8 511 rfl (vf dh rfl cb) ?_;refine ae 13 9 1023 rfl (fun W M=>cl Qq rfl rfl (M.focCells (i:=1) rfl rfl 1 _ rfl)) ?_;let U0:List Value:=[iV ((gt (gt I.d.c (I.j.toNat)) K).Id), .slice q1 ((gt (gt I.d.c (I.j.toNat)) K).m).length F1];refine ae 13 10 2047 rfl (fun W M=>ew (cs:=U0) rfl (by kernel_rfl)) ?_;refine be 13 11 4095 rfl ?_;refine ca ej rfl (Qe rfl) (by decide) (fun R0=>?_);refine av (pn 17 [1,2,3,4,5,6,7,8,9,10,11,12,13,14,15,16]) (pn 17 [1,2,3,4,5,6,7,8,9,10,11,12,13,14,15,16]) ?_;refine be 13 12 8191 rfl ?_;refine eu (p:=R0) (o:=0) (cs':=U0) (fun w M=>M.front (n:=0) rfl) ej rfl (Nat.le_of_ble_eq_true rfl) rfl rfl rfl rfl (Qe rfl) ?_;refine iy (pn 17 [1,2,3,4,5,6,7,8,9,10,11,12,13,14,15,16]) ?_;refine fz (by kernel_rfl) ?_;refine Qi (Qk ?_);refine rb 12 (s:=(Qa R0 70 U0::g1::h1::m1::Y0)) ag ?_;refine qt 12 0 1 rfl (fun W M=>Qv (cs:=K2) vo type204 rfl rfl (M.boxCells (n:=8) rfl)) ?_;refine qt 12 1 3 rfl (fun W M=>Qv (cs:=U0) gn ej rfl rfl (M.boxCells (n:=0) rfl)) ?_;refine qt 12 2 7 rfl ap ?_;refine qt 12 3 15 rfl (fun W M=>ik rfl) ?_;refine qt 12 4 31 rfl (vf Qs rfl cb) ?_;refine qt 12 5 63 rfl (vl 14 3 Qq) ?_;refine qo 12 6 127 rfl ?_;refine li (χ:=Value) (val:=fun x=> .tuple #[x,iV ((rx (lr c0) (⟨(gt (gt I.d.c (I.j.toNat)) K).Id,(gt (gt I.d.c (I.j.toNat)) K).m⟩:ax) I.l).2)]) (js:=fun x=>[Qh (ab Qb 3) [x] ((rx (lr c0) (⟨(gt (gt I.d.c (I.j.toNat)) K).Id,(gt (gt I.d.c (I.j.toNat)) K).m⟩:ax) I.l).1)]) (Qp zM rfl) (fun W M=>Jz W _ (lr c0) _ (⟨(gt (gt I.d.c (I.j.toNat)) K).Id,(gt (gt I.d.c (I.j.toNat)) K).m⟩:ax) _ I.l (Lw (x:=(lr c0)) (M.rdSI (n:=9) rfl) (M.rdSI (n:=10) rfl)) (pv (x:=(⟨(gt (gt I.d.c (I.j.toNat)) K).Id,(gt (gt I.d.c (I.j.toNat)) K).m⟩:ax)) (M.rdSI (n:=1) rfl)) (M.rdSI (n:=11) rfl) hbs (Nat.le_trans (Nat.le_of_eq hv) (by decide)) H0.2.1 (hf) (hv) (ho)) (Qe rfl) (by decide) (fun _=>?_);refine fm 0 ?_;rintro j3 L3 rfl Q4;refine qn (pn 18 [1,2,3,4,5,6,7,8,9,10,11,12,13,14,15,16,17]) ?_;refine qt 12 7 255 rfl ap ?_;refine qt 12 8 511 rfl (fun W M=>gw rfl rfl) ?_;refine qt 12 9 1023 rfl (fun W M=>gw rfl rfl) ?_;refine qt 12 10 2047 rfl (fun W M=>lz rfl) ?_;refine qt 12 11 4095 rfl (fun W M=>lz rfl) ?_;refine fz (by kernel_rfl) ?_;refine Qi (Qk ?_);let W1:It:=iS Qb 3 j3 L3 ((rx (lr c0) (⟨(gt (gt I.d.c (I.j.toNat)) K).Id,(gt (gt I.d.c (I.j.toNat)) K).m⟩:ax) I.l).1);let Z0:List It:=W1::Qa R0 70 U0::g1::h1::Y0;refine rk (E:=Qt) (e:=61) (A:=(sA h0)) (n:=I.a.length) (c:=b0) (xs:=D) (k:=(b.toNat)) (js:=Z0) (by omega) (fun W M=>(M.front (n:=4) rfl)) (fun Z2=>?_);refine ph (γ:=Value×Value×Value×Value) (js:=fun g=>[Qh (ab cg 180) [g.1] ((gt D (b.toNat)).e.o),Qh (ab Qb 3) [g.2.1] ((gt D (b.toNat)).e.q),Qh (ab Qb 3) [g.2.2.1] ((gt D (b.toNat)).t),Qh (ab bo 70) [g.2.2.2] ((gt D (b.toNat)).p)]) (C:=fun g=>Z2=[iV ((gt D (b.toNat)).e.Id),iV ((gt D (b.toNat)).e.u),g.1,g.2.1,iV ((gt D (b.toNat)).r),g.2.2.1,iV ((gt D (b.toNat)).v),iV ((gt D (b.toNat)).A),iV ((gt D (b.toNat)).z),g.2.2.2]) (fun _ _ h=>oE h) ?_;rintro⟨_,_,_,_⟩ rfl;refine ib (n:=0) rfl ?_;rintro j0 m0 rfl R4;refine ib (n:=1) rfl ?_;rintro k0 n0 rfl S4;refine ib (n:=2) rfl ?_;rintro l0 o0 rfl T4;refine ib (n:=3) rfl ?_;rintro y0 A0 rfl U4;refine kf (by kernel_rfl) (by kernel_rfl) ?_;refine qm (qm (qm ?_));refine qv (bx 1 X Qq Qg) ?_;refine qv (fun W M=>cl Qu rfl rfl (M.ownInt (i:=20) rfl (by omega))) ?_;refine jp (Qp pU rfl) (fun W M=>rU W _ ((rx (lr c0) (⟨(gt (gt I.d.c (I.j.toNat)) K).Id,(gt (gt I.d.c (I.j.toNat)) K).m⟩:ax) I.l).1) (gt U X) (M.rdSI (n:=5) rfl)) (Qe rfl) (by decide) ?_;refine qm ?_;rcases bd (ls ((rx (lr c0) (⟨(gt (gt I.d.c (I.j.toNat)) K).Id,(gt (gt I.d.c (I.j.toNat)) K).m⟩:ax) I.l).1) (gt U X)) with P|P
    ·refine qg ap P ?_;refine qg ap P ?_;refine qg (bx 4 K db ct) P ?_;refine qg (fun W M=>Qv (cs:=D3) dh ct rfl rfl (M.focCells (i:=8) rfl rfl)) P ?_;refine qg ap P ?_;refine qg (fun W M=>ik rfl) P ?_;refine qg (vf Qs rfl dw) P ?_;refine qg (vl 19 4 bj) P ?_;refine qg ap P ?_;refine qg (fun W M=>gx (sz:=10) (k:=b) bj bz rfl rfl rfl (by omega) (by omega)) P ?_;refine qg (vf bu rfl Qg) P ?_;refine qg (fun W M=>cl Qu rfl rfl (M.focCells (i:=4) rfl rfl 4 _ rfl)) P ?_;refine jp (Qp fX rfl) (fun W M=>kJ W _ (gt (gt I.d.c (I.j.toNat)) K) ((gt D (b.toNat)).r) (nm (x:=(gt (gt I.d.c (I.j.toNat)) K)) (M.rdSI (n:=7) rfl))) (bg rfl rfl rfl (bw P rfl)) (by decide) ?_;refine qv (aq P) ?_;refine fq ?_;rcases bd (qy (gt (gt I.d.c (I.j.toNat)) K) ((gt D (b.toNat)).r)) with e1|e1
     ·refine Qr rfl e1 ?_;refine Qk ?_;let B1:It:=iS cg 180 j0 m0 ((gt D (b.toNat)).e.o);let C1:It:=iS Qb 3 k0 n0 ((gt D (b.toNat)).e.q);let D1:It:=iS Qb 3 l0 o0 ((gt D (b.toNat)).t);let o1:List It:=B1::C1::D1::Z0;refine pb (σ:=Option Addr×Nat) (fun s=>[(0,bp p),(1, .slice (sA Q0) U.length v0),(6,bp i0),(7, .slice (sA d1) (gt I.d.c (I.j.toNat)).length q0),(8,bp V),(9,nI X),(10,iV b),(11,iV a0),(12,nI K)]) (fun s=>(fg Qt 61 (sA h0) I.a.length b0 D (b.toNat) [iV ((gt D (b.toNat)).e.Id),iV ((gt D (b.toNat)).e.u), .slice j0 ((gt D (b.toNat)).e.o).length m0, .slice k0 ((gt D (b.toNat)).e.q).length n0,iV ((gt D (b.toNat)).r), .slice l0 ((gt D (b.toNat)).t).length o0,iV ((gt D (b.toNat)).v),iV ((gt D (b.toNat)).A),iV ((gt D (b.toNat)).z), .slice s.1 (qz I b K D).length s.2]::iS bo 70 s.1 s.2 (qz I b K D)::o1)) (fun _=>True) ?_ ?_
      ·refine rb 20 (s:=o1) (pn 22 [0,1,2,5,6,7,8,9,10,11,12,13,14,15,16,17,18,19,20,21]) ?_;refine qt 20 0 1 rfl ap ?_;refine qt 20 1 3 rfl (fun W M=>ik rfl) ?_;refine qt 20 2 7 rfl (vf Qs rfl dw) ?_;refine qt 20 3 15 rfl (vl 17 4 bj) ?_;refine qt 20 4 31 rfl ap ?_;refine qt 20 5 63 rfl ap ?_;refine qt 20 6 127 rfl (fun W M=>ik rfl) ?_;refine qt 20 7 255 rfl (vf Qs rfl dw) ?_;refine qt 20 8 511 rfl (vl 17 4 bj) ?_;refine qt 20 9 1023 rfl ap ?_;refine qt 20 10 2047 rfl (fun W M=>gx (sz:=10) (k:=b) bj bz rfl rfl rfl (by omega) (by omega)) ?_;refine qt 20 11 4095 rfl (vf bu rfl kp) ?_;refine qt 20 13 12287 rfl (fun W M=>Qv (cs:=U0) gn ej rfl rfl (M.boxCells (n:=4) rfl)) ?_;refine qa [12,14] ?_;refine qc 20 16383 rfl ?_ ?_
       ·refine wv (fun W M=>cl fk rfl rfl (M.focCells (i:=4) rfl rfl 9 _ rfl)) ?_;refine qn (pn 22 [0,1,2,5,6,7,8,9,10,11,12,13,14,15,16,17,18,19,20,21]) ?_;refine qo 20 14 32767 rfl ?_;refine io bo (⟨(gt (gt I.d.c (I.j.toNat)) K).Id,(gt (gt I.d.c (I.j.toNat)) K).m⟩:ax) (Qp Nu rfl) (fun W M=>yi W _ (⟨(gt (gt I.d.c (I.j.toNat)) K).Id,(gt (gt I.d.c (I.j.toNat)) K).m⟩:ax) (pv (x:=(⟨(gt (gt I.d.c (I.j.toNat)) K).Id,(gt (gt I.d.c (I.j.toNat)) K).m⟩:ax)) (M.rdSI (n:=7) rfl)) (Nat.le_trans (Nat.le_of_eq hv) (by decide))) (fun _=>?_);refine ta ?_;rintro _ rfl;refine fm 0 ?_;rintro h2 A2 rfl V4;refine qn (pn 23 [1,2,3,6,7,8,9,10,11,12,13,14,15,16,17,18,19,20,21,22]) ?_;refine qo 20 15 65535 rfl ?_;let E3:List Value:=[iV ((⟨(gt (gt I.d.c (I.j.toNat)) K).Id,(gt (gt I.d.c (I.j.toNat)) K).m⟩:ax).Id), .slice h2 ((⟨(gt (gt I.d.c (I.j.toNat)) K).Id,(gt (gt I.d.c (I.j.toNat)) K).m⟩:ax).m).length A2];refine di (cs:=E3) fk ej rfl (by decide) (by decide) rfl (by kernel_rfl) (Qe rfl) (by decide) (fun _=>?_);refine qn (pn 24 [2,3,4,7,8,9,10,11,12,13,14,15,16,17,18,19,20,21,22,23]) ?_;refine qo 20 16 131071 rfl ?_;refine fi bo 70 (.slice y0 ((gt D (b.toNat)).p).length A0) ((gt D (b.toNat)).p) (⟨(gt (gt I.d.c (I.j.toNat)) K).Id,(gt (gt I.d.c (I.j.toNat)) K).m⟩:ax) [iS Qb 3 h2 A2 ((⟨(gt (gt I.d.c (I.j.toNat)) K).Id,(gt (gt I.d.c (I.j.toNat)) K).m⟩:ax).m)] (B1::C1::D1::fg Qt 61 (sA h0) I.a.length b0 D (b.toNat) [iV ((gt D (b.toNat)).e.Id),iV ((gt D (b.toNat)).e.u), .slice j0 ((gt D (b.toNat)).e.o).length m0, .slice k0 ((gt D (b.toNat)).e.q).length n0,iV ((gt D (b.toNat)).r), .slice l0 ((gt D (b.toNat)).t).length o0,iV ((gt D (b.toNat)).v),iV ((gt D (b.toNat)).A),iV ((gt D (b.toNat)).z), .slice y0 ((gt D (b.toNat)).p).length A0]::Z0) E3 (fun W M=>(((M.front (n:=1) rfl).front (n:=5) rfl).front (n:=2) rfl)) (fun _ _ hs=>Els.single (sa (x:=(⟨(gt (gt I.d.c (I.j.toNat)) K).Id,(gt (gt I.d.c (I.j.toNat)) K).m⟩:ax)) hs)) fk ej (show(((gt D (b.toNat)).p).length+1)*32<=140737488355328 from by first|omega|(have:=hTd (b.toNat);omega)) (fun _=>?_);refine fm 0 ?_;rintro r1 G1 rfl W4;refine qn (pn 22 [1,2,3,5,6,7,8,9,10,11,12,13,14,15,16,17,18,19,20,21]) ?_;refine qt 20 17 262143 rfl (fun W M=>gx (sz:=10) (k:=b) bj bz rfl rfl rfl (by omega) (by omega)) ?_;refine qt 20 18 524287 rfl (vf bu rfl kp) ?_;refine qo 20 19 1048575 rfl ?_;refine sf 9 10 [iV ((gt D (b.toNat)).e.Id),iV ((gt D (b.toNat)).e.u), .slice j0 ((gt D (b.toNat)).e.o).length m0, .slice k0 ((gt D (b.toNat)).e.q).length n0,iV ((gt D (b.toNat)).r), .slice l0 ((gt D (b.toNat)).t).length o0,iV ((gt D (b.toNat)).v),iV ((gt D (b.toNat)).A),iV ((gt D (b.toNat)).z), .slice r1 (qz I b K D).length G1] (iS bo 70 r1 G1 (qz I b K D)::o1) (fun W M=>(M.front (n:=4) rfl)) kp ?_;refine qn (pn 22 [2,3,4,5,6,7,8,9,10,11,12,13,14,15,16,17,18,19,20,21]) ?_;refine fz (by kernel_rfl) ?_;exact kg (r1,G1) pw ag trivial
       refine qc 20 28671 rfl ?_ ?_
       ·refine io bo (⟨(gt (gt I.d.c (I.j.toNat)) K).Id,(gt (gt I.d.c (I.j.toNat)) K).m⟩:ax) (Qp Nu rfl) (fun W M=>yi W _ (⟨(gt (gt I.d.c (I.j.toNat)) K).Id,(gt (gt I.d.c (I.j.toNat)) K).m⟩:ax) (pv (x:=(⟨(gt (gt I.d.c (I.j.toNat)) K).Id,(gt (gt I.d.c (I.j.toNat)) K).m⟩:ax)) (M.rdSI (n:=7) rfl)) (Nat.le_trans (Nat.le_of_eq hv) (by decide))) (fun _=>?_);refine ta ?_;rintro _ rfl;refine fm 0 ?_;rintro j1 l1 rfl X4;refine qn (pn 23 [1,2,3,6,7,8,9,10,11,12,13,14,15,16,17,18,19,20,21,22]) ?_;refine qa [12,15] ?_;refine qc 20 32767 rfl ?_ ?_
        ·refine wv (fun W M=>cl fk rfl rfl (M.focCells (i:=5) rfl rfl 9 _ rfl)) ?_;refine qn (pn 23 [1,2,3,6,7,8,9,10,11,12,13,14,15,16,17,18,19,20,21,22]) ?_;refine qo 20 15 65535 rfl ?_;let F3:List Value:=[iV ((⟨(gt (gt I.d.c (I.j.toNat)) K).Id,(gt (gt I.d.c (I.j.toNat)) K).m⟩:ax).Id), .slice j1 ((⟨(gt (gt I.d.c (I.j.toNat)) K).Id,(gt (gt I.d.c (I.j.toNat)) K).m⟩:ax).m).length l1];refine di (cs:=F3) fk ej rfl (by decide) (by decide) rfl (by kernel_rfl) (Qe rfl) (by decide) (fun _=>?_);refine qn (pn 24 [2,3,4,7,8,9,10,11,12,13,14,15,16,17,18,19,20,21,22,23]) ?_;refine qo 20 16 131071 rfl ?_;refine fi bo 70 (.slice y0 ((gt D (b.toNat)).p).length A0) ((gt D (b.toNat)).p) (⟨(gt (gt I.d.c (I.j.toNat)) K).Id,(gt (gt I.d.c (I.j.toNat)) K).m⟩:ax) [iS Qb 3 j1 l1 ((⟨(gt (gt I.d.c (I.j.toNat)) K).Id,(gt (gt I.d.c (I.j.toNat)) K).m⟩:ax).m)] (B1::C1::D1::fg Qt 61 (sA h0) I.a.length b0 D (b.toNat) [iV ((gt D (b.toNat)).e.Id),iV ((gt D (b.toNat)).e.u), .slice j0 ((gt D (b.toNat)).e.o).length m0, .slice k0 ((gt D (b.toNat)).e.q).length n0,iV ((gt D (b.toNat)).r), .slice l0 ((gt D (b.toNat)).t).length o0,iV ((gt D (b.toNat)).v),iV ((gt D (b.toNat)).A),iV ((gt D (b.toNat)).z), .slice y0 ((gt D (b.toNat)).p).length A0]::Z0) F3 (fun W M=>(((M.front (n:=1) rfl).front (n:=5) rfl).front (n:=2) rfl)) (fun _ _ hs=>Els.single (sa (x:=(⟨(gt (gt I.d.c (I.j.toNat)) K).Id,(gt (gt I.d.c (I.j.toNat)) K).m⟩:ax)) hs)) fk ej (show(((gt D (b.toNat)).p).length+1)*32<=140737488355328 from by first|omega|(have:=hTd (b.toNat);omega)) (fun _=>?_);refine fm 0 ?_;rintro s1 H1 rfl Y4;refine qn (pn 22 [1,2,3,5,6,7,8,9,10,11,12,13,14,15,16,17,18,19,20,21]) ?_;refine qt 20 17 262143 rfl (fun W M=>gx (sz:=10) (k:=b) bj bz rfl rfl rfl (by omega) (by omega)) ?_;refine qt 20 18 524287 rfl (vf bu rfl kp) ?_;refine qo 20 19 1048575 rfl ?_;refine sf 9 10 [iV ((gt D (b.toNat)).e.Id),iV ((gt D (b.toNat)).e.u), .slice j0 ((gt D (b.toNat)).e.o).length m0, .slice k0 ((gt D (b.toNat)).e.q).length n0,iV ((gt D (b.toNat)).r), .slice l0 ((gt D (b.toNat)).t).length o0,iV ((gt D (b.toNat)).v),iV ((gt D (b.toNat)).A),iV ((gt D (b.toNat)).z), .slice s1 (qz I b K D).length H1] (iS bo 70 s1 H1 (qz I b K D)::o1) (fun W M=>(M.front (n:=4) rfl)) kp ?_;refine qn (pn 22 [2,3,4,5,6,7,8,9,10,11,12,13,14,15,16,17,18,19,20,21]) ?_;refine fz (by kernel_rfl) ?_;exact kg (s1,H1) pw ag trivial
        refine qc 20 61439 rfl ?_ ?_
        ·let G3:List Value:=[iV ((⟨(gt (gt I.d.c (I.j.toNat)) K).Id,(gt (gt I.d.c (I.j.toNat)) K).m⟩:ax).Id), .slice j1 ((⟨(gt (gt I.d.c (I.j.toNat)) K).Id,(gt (gt I.d.c (I.j.toNat)) K).m⟩:ax).m).length l1];refine di (cs:=G3) fk ej rfl (by decide) (by decide) rfl (by kernel_rfl) (Qe rfl) (by decide) (fun _=>?_);refine qn (pn 24 [2,3,4,7,8,9,10,11,12,13,14,15,16,17,18,19,20,21,22,23]) ?_;refine qo 20 12 65535 rfl ?_;refine wv (fun W M=>cl fk rfl rfl (M.focCells (i:=6) rfl rfl 9 _ rfl)) ?_;refine qn (pn 24 [2,3,4,7,8,9,10,11,12,13,14,15,16,17,18,19,20,21,22,23]) ?_;refine qo 20 16 131071 rfl ?_;refine fi bo 70 (.slice y0 ((gt D (b.toNat)).p).length A0) ((gt D (b.toNat)).p) (⟨(gt (gt I.d.c (I.j.toNat)) K).Id,(gt (gt I.d.c (I.j.toNat)) K).m⟩:ax) [iS Qb 3 j1 l1 ((⟨(gt (gt I.d.c (I.j.toNat)) K).Id,(gt (gt I.d.c (I.j.toNat)) K).m⟩:ax).m)] (B1::C1::D1::fg Qt 61 (sA h0) I.a.length b0 D (b.toNat) [iV ((gt D (b.toNat)).e.Id),iV ((gt D (b.toNat)).e.u), .slice j0 ((gt D (b.toNat)).e.o).length m0, .slice k0 ((gt D (b.toNat)).e.q).length n0,iV ((gt D (b.toNat)).r), .slice l0 ((gt D (b.toNat)).t).length o0,iV ((gt D (b.toNat)).v),iV ((gt D (b.toNat)).A),iV ((gt D (b.toNat)).z), .slice y0 ((gt D (b.toNat)).p).length A0]::Z0) G3 (fun W M=>(((M.front (n:=1) rfl).front (n:=5) rfl).front (n:=2) rfl)) (fun _ _ hs=>Els.single (sa (x:=(⟨(gt (gt I.d.c (I.j.toNat)) K).Id,(gt (gt I.d.c (I.j.toNat)) K).m⟩:ax)) hs)) fk ej (show(((gt D (b.toNat)).p).length+1)*32<=140737488355328 from by first|omega|(have:=hTd (b.toNat);omega)) (fun _=>?_);refine fm 0 ?_;rintro t1 I1 rfl Z4;refine qn (pn 22 [1,2,3,5,6,7,8,9,10,11,12,13,14,15,16,17,18,19,20,21]) ?_;refine qt 20 17 262143 rfl (fun W M=>gx (sz:=10) (k:=b) bj bz rfl rfl rfl (by omega) (by omega)) ?_;refine qt 20 18 524287 rfl (vf bu rfl kp) ?_;refine qo 20 19 1048575 rfl ?_;refine sf 9 10 [iV ((gt D (b.toNat)).e.Id),iV ((gt D (b.toNat)).e.u), .slice j0 ((gt D (b.toNat)).e.o).length m0, .slice k0 ((gt D (b.toNat)).e.q).length n0,iV ((gt D (b.toNat)).r), .slice l0 ((gt D (b.toNat)).t).length o0,iV ((gt D (b.toNat)).v),iV ((gt D (b.toNat)).A),iV ((gt D (b.toNat)).z), .slice t1 (qz I b K D).length I1] (iS bo 70 t1 I1 (qz I b K D)::o1) (fun W M=>(M.front (n:=4) rfl)) kp ?_;refine qn (pn 22 [2,3,4,5,6,7,8,9,10,11,12,13,14,15,16,17,18,19,20,21]) ?_;refine fz (by kernel_rfl) ?_;exact kg (t1,I1) pw ag trivial
        exact mC
       exact mC
      rintro⟨g2,z2⟩ -;let a4:List Value:=[iV ((gt D (b.toNat)).e.Id),iV ((gt D (b.toNat)).e.u), .slice j0 ((gt D (b.toNat)).e.o).length m0, .slice k0 ((gt D (b.toNat)).e.q).length n0,iV ((gt D (b.toNat)).r), .slice l0 ((gt D (b.toNat)).t).length o0,iV ((gt D (b.toNat)).v),iV ((gt D (b.toNat)).A),iV ((gt D (b.toNat)).z), .slice g2 (qz I b K D).length z2];let m3:It:=fg Qt 61 (sA h0) I.a.length b0 D (b.toNat) a4;let n3:It:=iS bo 70 g2 z2 (qz I b K D);show QM 214 _ _ _ .normal [(0,bp p),(1, .slice (sA Q0) U.length v0),(6,bp i0),(7, .slice (sA d1) (gt I.d.c (I.j.toNat)).length q0),(8,bp V),(9,nI X),(10,iV b),(11,iV a0),(12,nI K)] (m3::n3::o1);refine uu (n:=1) rfl ?_;intro a5 b5;refine Qi (ak (wm ?_));refine wv kd ?_;refine wa (au (bi (Qi (ak (wm ?_)))));refine wv (bs K 1 (by omega)) ?_;refine wa (au ?_);refine cc (fun W M=>Mem.unfocus (Mem.join (is:=[B1,C1,D1,n3]) (js:=(m3::Z0)) (fun _ _ hs=>mv (x:=(⟨(gt D (b.toNat)).e,(gt D (b.toNat)).r,(gt D (b.toNat)).t,(gt D (b.toNat)).v,(gt D (b.toNat)).A,(gt D (b.toNat)).z,(qz I b K D)⟩:Qn)) hs) (M.pickN 22 [2,3,4,1,0,5,6,7,8,9,10,11,12,13,14,15,16,17,18,19,20,21] (by decide)))) ?_;refine cc (fun W M=>Mem.unfocus0 (Mem.join (is:=[g1]) (js:=(h1::(Qh (ab Qt 61) [.slice (sA h0) I.a.length b0] (vk I b K D)::W1::Qa R0 70 U0::Y0))) (fun _ _ hs=>pf (x:=(gt (gt I.d.c (I.j.toNat)) K)) hs) ((M.front (n:=4) rfl).front (n:=4) rfl))) ?_;exact br (K+1,((IntKind.i64.wrap (a0+1)),(vk I b K D)),()) pw (pn 17 [1,4,5,6,0,7,8,9,10,11,12,13,14,15,16]) ⟨(by omega),nx V0 (by subst G0;exact Qd P (Qd e1 (rfl))),(show(vk I b K D).map (fun(a:Qn)=>a.e.Id)=O.map (fun(a:Qn)=>a.e.Id) from by first|exact B0|exact(rJ (by rfl)).trans B0),(show ∀ i,(gt (vk I b K D) i).t.length<=8∧(gt (vk I b K D) i).p.length<=1000+4*X+(K+1) from by first|exact(fun i=>by have:=p0 i;omega)|exact pB p0 (by omega) (Nat.le_refl _) (by simp only[List.length_append,List.length_cons,List.length_nil];omega))⟩ (show(gt I.d.c (I.j.toNat)).length-(K+1)<(gt I.d.c (I.j.toNat)).length-K from by omega)
     refine Qw rfl e1 ?_;refine aj (bi (Qi (ak (wm ?_))));refine wv (bs K 1 (by omega)) ?_;refine wa (au ?_);refine cc (fun W M=>Mem.unfocus0 (Mem.join (is:=[iS cg 180 j0 m0 ((gt D (b.toNat)).e.o),iS Qb 3 k0 n0 ((gt D (b.toNat)).e.q),iS Qb 3 l0 o0 ((gt D (b.toNat)).t),iS bo 70 y0 A0 ((gt D (b.toNat)).p)]) (js:=(fg Qt 61 (sA h0) I.a.length b0 D (b.toNat) [iV ((gt D (b.toNat)).e.Id),iV ((gt D (b.toNat)).e.u), .slice j0 ((gt D (b.toNat)).e.o).length m0, .slice k0 ((gt D (b.toNat)).e.q).length n0,iV ((gt D (b.toNat)).r), .slice l0 ((gt D (b.toNat)).t).length o0,iV ((gt D (b.toNat)).v),iV ((gt D (b.toNat)).A),iV ((gt D (b.toNat)).z), .slice y0 ((gt D (b.toNat)).p).length A0]::Z0)) (fun _ _ hs=>mv (x:=(gt D (b.toNat))) hs) (M.pickN 22 [0,1,2,3,4,5,6,7,8,9,10,11,12,13,14,15,16,17,18,19,20,21] (by decide)))) ?_;refine cc (fun W M=>Mem.unfocus0 (Mem.join (is:=[g1]) (js:=(h1::(m1::W1::Qa R0 70 U0::Y0))) (fun _ _ hs=>pf (x:=(gt (gt I.d.c (I.j.toNat)) K)) hs) ((M.front (n:=4) rfl).front (n:=4) rfl))) ?_;exact br (K+1,(a0,D),()) pw (pn 17 [1,4,5,6,0,7,8,9,10,11,12,13,14,15,16]) ⟨(by omega),nx V0 (by subst G0;exact Qd P (Qf e1 (rfl))),(show D.map (fun(a:Qn)=>a.e.Id)=O.map (fun(a:Qn)=>a.e.Id) from by first|exact B0|exact(rJ (by rfl)).trans B0),(show ∀ i,(gt D i).t.length<=8∧(gt D i).p.length<=1000+4*X+(K+1) from by first|exact(fun i=>by have:=p0 i;omega)|exact pB p0 (by omega) (Nat.le_refl _) (by simp only[List.length_append,List.length_cons,List.length_nil];omega))⟩ (show(gt I.d.c (I.j.toNat)).length-(K+1)<(gt I.d.c (I.j.toNat)).length-K from by omega)
    refine qs P ?_;refine qs P ?_;refine qs P ?_;refine qs P ?_;refine qs P ?_;refine qs P ?_;refine qs P ?_;refine qs P ?_;refine qs P ?_;refine qs P ?_;refine qs P ?_;refine qs P ?_;refine qs P ?_;refine qv (an P) ?_;refine fq ?_;refine Qw rfl rfl ?_;refine aj (bi (Qi (ak (wm ?_))));refine wv (bs K 1 (by omega)) ?_;refine wa (au ?_);refine cc (fun W M=>Mem.unfocus0 (Mem.join (is:=[iS cg 180 j0 m0 ((gt D (b.toNat)).e.o),iS Qb 3 k0 n0 ((gt D (b.toNat)).e.q),iS Qb 3 l0 o0 ((gt D (b.toNat)).t),iS bo 70 y0 A0 ((gt D (b.toNat)).p)]) (js:=(fg Qt 61 (sA h0) I.a.length b0 D (b.toNat) [iV ((gt D (b.toNat)).e.Id),iV ((gt D (b.toNat)).e.u), .slice j0 ((gt D (b.toNat)).e.o).length m0, .slice k0 ((gt D (b.toNat)).e.q).length n0,iV ((gt D (b.toNat)).r), .slice l0 ((gt D (b.toNat)).t).length o0,iV ((gt D (b.toNat)).v),iV ((gt D (b.toNat)).A),iV ((gt D (b.toNat)).z), .slice y0 ((gt D (b.toNat)).p).length A0]::Z0)) (fun _ _ hs=>mv (x:=(gt D (b.toNat))) hs) (M.pickN 22 [0,1,2,3,4,5,6,7,8,9,10,11,12,13,14,15,16,17,18,19,20,21] (by decide)))) ?_;refine cc (fun W M=>Mem.unfocus0 (Mem.join (is:=[g1]) (js:=(h1::(m1::W1::Qa R0 70 U0::Y0))) (fun _ _ hs=>pf (x:=(gt (gt I.d.c (I.j.toNat)) K)) hs) ((M.front (n:=4) rfl).front (n:=4) rfl))) ?_;exact br (K+1,(a0,D),()) pw (pn 17 [1,4,5,6,0,7,8,9,10,11,12,13,14,15,16]) ⟨(by omega),nx V0 (by subst G0;exact Qf P (rfl)),(show D.map (fun(a:Qn)=>a.e.Id)=O.map (fun(a:Qn)=>a.e.Id) from by first|exact B0|exact(rJ (by rfl)).trans B0),(show ∀ i,(gt D i).t.length<=8∧(gt D i).p.length<=1000+4*X+(K+1) from by first|exact(fun i=>by have:=p0 i;omega)|exact pB p0 (by omega) (Nat.le_refl _) (by simp only[List.length_append,List.length_cons,List.length_nil];omega))⟩ (show(gt I.d.c (I.j.toNat)).length-(K+1)<(gt I.d.c (I.j.toNat)).length-K from by omega)
   refine Qw rfl Q1 ?_;refine co (ao (ao ?_));have d3:=dk U1 V0;have hTd:=p0;refine cp (Qi (sr ?_));refine wv (vf ft rfl cb) ?_;refine wv (vl 1 4 Qq) ?_;refine wm ?_;refine di (cs:=[iV a0]) Qq Qg rfl (by decide) (by decide) rfl (by kernel_rfl) (Qe rfl) (by decide) (fun _=>?_);let A3:List It:=V1::iS Qb 3 e0 g0 U::K0::L0::Qa i0 204 K2::S0::T0::iS Qb 3 r0 t0 I.l::iS bb 80 s0 u0 I.f::iS ba 102 C0 D0 I.k::Qa p 39 K8::iS Qb 3 (sA Q0) v0 U::is;refine fi Qb 3 (.slice O0 Z.length P0) Z a0 [] (Qh (ab Qt 61) [.slice (sA h0) I.a.length b0] D::Qa V 102 E1::A3) [iV a0] (fun W M=>((M.front (n:=15) rfl).front (n:=1) rfl)) (fun _ _ hs=>by cases (Sep.nil hs);exact(du cq ic)) Qq Qg (show(Z.length+1)*8<=140737488355328 from by first|omega|(have:=hTd _;omega)) (fun _=>?_);refine fm 0 ?_;rintro u1 J1 rfl c5;refine wv (vf ft rfl cb) ?_;let H3:List Value:=[iV I.j,nI ((gt I.d.c (I.j.toNat)).length), .slice e0 U.length g0, .slice i1 (Y++[(gt O (b.toNat)).e.u]).length k1, .slice u1 (Z++[a0]).length J1];refine eu (p:=V) (o:=4) (cs':=H3) (fun w M=>M.front (n:=2) rfl) cb rfl (Nat.le_of_ble_eq_true rfl) rfl rfl rfl rfl (Qe rfl) ?_;refine aa (Qk ?_);let V2:List It:=Qa V 102 H3::iS Qb 3 u1 J1 (Z++[a0])::A3;refine rk (E:=Qt) (e:=61) (A:=(sA h0)) (n:=I.a.length) (c:=b0) (xs:=D) (k:=(b.toNat)) (js:=V2) (by omega) (fun W M=>(M.front (n:=2) rfl)) (fun a3=>?_);refine ph (γ:=Value×Value×Value×Value) (js:=fun g=>[Qh (ab cg 180) [g.1] ((gt D (b.toNat)).e.o),Qh (ab Qb 3) [g.2.1] ((gt D (b.toNat)).e.q),Qh (ab Qb 3) [g.2.2.1] ((gt D (b.toNat)).t),Qh (ab bo 70) [g.2.2.2] ((gt D (b.toNat)).p)]) (C:=fun g=>a3=[iV ((gt D (b.toNat)).e.Id),iV ((gt D (b.toNat)).e.u),g.1,g.2.1,iV ((gt D (b.toNat)).r),g.2.2.1,iV ((gt D (b.toNat)).v),iV ((gt D (b.toNat)).A),iV ((gt D (b.toNat)).z),g.2.2.2]) (fun _ _ h=>oE h) ?_;rintro⟨_,_,_,_⟩ rfl;refine ib (n:=0) rfl ?_;rintro w1 M1 rfl d5;refine ib (n:=1) rfl ?_;rintro y1 N1 rfl e5;refine ib (n:=2) rfl ?_;rintro i2 B2 rfl f5;refine ib (n:=3) rfl ?_;rintro A1 O1 rfl g5;let o3:It:=iS cg 180 w1 M1 ((gt D (b.toNat)).e.o);let p3:It:=iS Qb 3 y1 N1 ((gt D (b.toNat)).e.q);let q3:It:=iS Qb 3 i2 B2 ((gt D (b.toNat)).t);let r3:It:=iS bo 70 A1 O1 ((gt D (b.toNat)).p);let Y1:List It:=o3::p3::q3::r3::V2;refine rb 18 (s:=Y1) (pn 19 [0,1,2,3,5,6,7,8,9,10,11,12,13,14,15,16,17,18]) ?_;refine qt 18 0 1 rfl ap ?_;refine qt 18 1 3 rfl (fun W M=>ik rfl) ?_;refine qt 18 2 7 rfl (vf Qs rfl dw) ?_;refine qt 18 3 15 rfl (vl 16 4 bj) ?_;refine qt 18 4 31 rfl ap ?_;refine qt 18 5 63 rfl ap ?_;refine qt 18 6 127 rfl (fun W M=>ik rfl) ?_;refine qt 18 7 255 rfl (vf Qs rfl dw) ?_;refine qt 18 8 511 rfl (vl 16 4 bj) ?_;refine qt 18 9 1023 rfl ap ?_;refine qt 18 10 2047 rfl (fun W M=>gx (sz:=10) (k:=b) bj bz rfl rfl rfl (by omega) (by omega)) ?_;refine qt 18 11 4095 rfl (vf bu rfl Qg) ?_;refine qt 18 13 12287 rfl ap ?_;refine qo 18 12 16383 rfl ?_;refine wv (fun W M=>cl Qu rfl rfl (M.focCells (i:=4) rfl rfl 7 _ rfl)) ?_;refine qn (pn 19 [0,1,2,3,5,6,7,8,9,10,11,12,13,14,15,16,17,18]) ?_;refine qt 18 14 32767 rfl kd ?_;refine qt 18 15 65535 rfl (fun W M=>gx (sz:=10) (k:=b) bj bz rfl rfl rfl (by omega) (by omega)) ?_;refine qt 18 16 131071 rfl (vf bu rfl Qg) ?_;refine qo 18 17 262143 rfl ?_;refine sf 7 10 [iV ((gt D (b.toNat)).e.Id),iV ((gt D (b.toNat)).e.u), .slice w1 ((gt D (b.toNat)).e.o).length M1, .slice y1 ((gt D (b.toNat)).e.q).length N1,iV ((gt D (b.toNat)).r), .slice i2 ((gt D (b.toNat)).t).length B2,iV ((gt D (b.toNat)).v),iV (IntKind.i64.wrap (((gt D (b.toNat)).A)+a0)),iV ((gt D (b.toNat)).z), .slice A1 ((gt D (b.toNat)).p).length O1] Y1 (fun W M=>(M.front (n:=4) rfl)) Qg ?_;refine qn (pn 19 [1,2,3,4,5,6,7,8,9,10,11,12,13,14,15,16,17,18]) ?_;refine fz (by kernel_rfl) ?_;refine Qi ?_;refine rb 21 (s:=Y1) (pn 19 [1,2,3,4,5,6,7,8,9,10,11,12,13,14,15,16,17,18]) ?_;refine qt 21 0 1 rfl ap ?_;refine qt 21 1 3 rfl (fun W M=>ik rfl) ?_;refine qt 21 2 7 rfl (vf Qs rfl dw) ?_;refine qt 21 3 15 rfl (vl 16 4 bj) ?_;refine qt 21 4 31 rfl ap ?_;refine qt 21 5 63 rfl ap ?_;refine qt 21 6 127 rfl (fun W M=>ik rfl) ?_;refine qt 21 7 255 rfl (vf Qs rfl dw) ?_;refine qt 21 8 511 rfl (vl 16 4 bj) ?_;refine qt 21 9 1023 rfl ap ?_;refine qt 21 10 2047 rfl (fun W M=>gx (sz:=10) (k:=b) bj bz rfl rfl rfl (by omega) (by omega)) ?_;refine qt 21 11 4095 rfl (vf bu rfl cb) ?_;refine qt 21 13 12287 rfl ap ?_;refine qt 21 14 28671 rfl (fun W M=>ik rfl) ?_;refine qt 21 15 61439 rfl (vf Qs rfl Qg) ?_;refine qt 21 16 126975 rfl (vl 16 2 Qu) ?_;refine qo 21 12 131071 rfl ?_;refine wv (fun W M=>cl Qq rfl rfl (M.focCells (i:=0) rfl rfl 5 _ rfl)) ?_;refine qn (pn 19 [1,2,3,4,5,6,7,8,9,10,11,12,13,14,15,16,17,18]) ?_;refine qo 21 17 262143 rfl ?_;refine lg (ab Qb 3) (tm ((gt D (b.toNat)).t) I.j) (Qp zN rfl) (fun W M=>Jj W _ ((gt D (b.toNat)).t) I.j (M.rdSI (n:=3) rfl) (show _<=68719476736 from by have:=hTd (b.toNat);omega)) (fun _=>?_);refine fm 0 ?_;rintro j2 C2 rfl h5;refine qn (pn 20 [2,3,4,5,6,7,8,9,10,11,12,13,14,15,16,17,18,19]) ?_;refine qt 21 18 524287 rfl (fun W M=>gx (sz:=10) (k:=b) bj bz rfl rfl rfl (by omega) (by omega)) ?_;refine qt 21 19 1048575 rfl (vf bu rfl cb) ?_;refine qo 21 20 2097151 rfl ?_;let I3:List Value:=[iV ((gt D (b.toNat)).e.Id),iV ((gt D (b.toNat)).e.u), .slice w1 ((gt D (b.toNat)).e.o).length M1, .slice y1 ((gt D (b.toNat)).e.q).length N1,iV ((gt D (b.toNat)).r), .slice j2 (tm ((gt D (b.toNat)).t) I.j).length C2,iV ((gt D (b.toNat)).v),iV (IntKind.i64.wrap (((gt D (b.toNat)).A)+a0)),iV ((gt D (b.toNat)).z), .slice A1 ((gt D (b.toNat)).p).length O1];let s3:It:=iS Qb 3 j2 C2 (tm ((gt D (b.toNat)).t) I.j);refine sf 5 10 I3 (s3::Y1) (fun W M=>(M.front (n:=1) rfl)) cb ?_;refine qn (pn 20 [2,3,4,5,6,7,8,9,10,11,12,13,14,15,16,17,18,19]) ?_;refine fz (by kernel_rfl) ?_;refine bi (Qi (ak (wm ?_)));refine wv (bs X 1 (by omega)) ?_;refine wa (au ?_);refine cc (fun W M=>Mem.unfocus (Mem.join (is:=[o3,p3,s3,r3]) (js:=(fg Qt 61 (sA h0) I.a.length b0 D (b.toNat) I3::(q3::V2))) (fun _ _ hs=>mv (x:=(⟨(gt D (b.toNat)).e,(gt D (b.toNat)).r,(tm ((gt D (b.toNat)).t) I.j),(gt D (b.toNat)).v,(IntKind.i64.wrap (((gt D (b.toNat)).A)+a0)),(gt D (b.toNat)).z,(gt D (b.toNat)).p⟩:Qn)) hs) (M.pickN 20 [2,3,1,5,0,4,6,7,8,9,10,11,12,13,14,15,16,17,18,19] (by decide)))) ?_;exact br (X+1,((Y++[(gt O (b.toNat)).e.u]),(Z++[a0]),(cP I b a0 D)),(i1,k1,u1,J1)) lh (pn 16 [2,5,6,7,8,9,10,11,0,12,13,14,15,4,3]) ⟨(by omega),nx R1 (by subst G0;exact bt d3 (rfl)),(show(Y++[(gt O (b.toNat)).e.u]).length<=0+(X+1) from by first|omega|(simp only[List.length_append,List.length_cons,List.length_nil] at *;omega)),(show(Z++[a0]).length<=0+(X+1) from by first|omega|(simp only[List.length_append,List.length_cons,List.length_nil] at *;omega)),(show(cP I b a0 D).map (fun(a:Qn)=>a.e.Id)=I.a.map (fun(a:Qn)=>a.e.Id) from by exact(rJ (by rfl)).trans (B0.trans S1)),(show ∀ i,(gt (cP I b a0 D) i).t.length<=8∧(gt (cP I b a0 D) i).p.length<=1000+4*(X+1) from by exact pB p0 (by omega) (Mk _ _) (by dsimp only;omega))⟩ rl
  refine Qw rfl P1 ?_;refine co (ao (ao ?_));have e3:=dk T1 R1;refine cp (Qi ?_);refine ey (pn 15 [0,1,2,3,7,8,9,10,11,12,13,14]) ?_;let a1:List Value:=[iV I.j,nI ((gt I.d.c (I.j.toNat)).length), .slice e0 U.length g0, .slice X0 Y.length b1, .slice O0 Z.length P0];let U2:It:=Qh (ab Qt 61) [.slice I0 I.a.length b0] O;let B3:List It:=Qa V 102 a1::K0::L0::iS Qb 3 r0 t0 I.l::U2::iS bb 80 s0 u0 I.f::Qa p 39 K3::n1;let C3:List It:=iS Qb 3 r0 t0 I.l::U2::iS bb 80 s0 u0 I.f::n1;refine iz 11 [10] (s:=(Qa V 102 a1::K0::L0::C3)) (s2:=B3) (pn 12 [0,2,3,4,5,6,9]) (pn 12 [0,2,3,4,5,6,8,9]) ?_;refine ae 11 0 1 rfl ap ?_;refine ae 11 1 3 rfl ap ?_;refine ae 11 2 7 rfl (fun W M=>ik rfl) ?_;refine ae 11 3 15 rfl (vf Qs rfl lv) ?_;refine ae 11 4 31 rfl (vl 6 6 ie) ?_;refine ae 11 5 63 rfl (fun W M=>Qv (cs:=a1) ft je rfl rfl (M.boxCells (n:=0) rfl)) ?_;refine be 11 6 127 rfl ?_;refine di (cs:=a1) ie je rfl (by decide) (by decide) rfl (by kernel_rfl) (Qe rfl) (by decide) (fun S3=>?_);refine av (pn 13 [1,3,4,5,6,7,10]) (pn 13 [1,3,4,5,6,7,9,10]) ?_;refine be 11 7 255 rfl ?_;refine bD (E:=ba) (e:=102) (v:= .slice C0 I.k.length D0) (p:=S3) (q:=1) (xs:=I.k) (ys:=[(⟨I.j,(((gt I.d.c (I.j.toNat)).length:Nat):Int),U,Y,Z⟩:fy)]) (eis:=[iS Qb 3 e0 g0 U,iS Qb 3 X0 b1 Y,iS Qb 3 O0 P0 Z]) (js:=B3) (news:=a1) (pn 13 [0,8,2,11,12,1,3,4,5,6,7,9,10]) (fun _ _ hs=>Els.single (dB (x:=(⟨I.j,(((gt I.d.c (I.j.toNat)).length:Nat):Int),U,Y,Z⟩:fy)) hs)) ie je rfl rfl rfl (Nat.le_of_ble_eq_true rfl) rfl rfl rfl (show(I.k.length+1)*88<=140737488355328 from by first|omega|(have:=hTd _;omega)) (show I.k.length+1<=9223372036854775807 from by first|omega|(have:=hTd _;omega)) (Qe rfl) (by decide) (fun _=>?_);refine fm 0 ?_;rintro l2 D2 rfl i5;refine av (pn 9 [1,2,3,4,5,6,8]) (pn 9 [1,2,3,4,5,6,7,8]) ?_;refine sc 11 8 511 rfl (fun W=>ik rfl) ?_;refine ae 11 9 1023 rfl (vf Qs rfl lv) ?_;refine be 11 10 2047 rfl ?_;let p1:List Value:=[.slice (sA F0) I.d.c.length c7,iV I.d.g,iV I.j, .slice r0 I.l.length t0, .slice I0 I.a.length b0, .slice s0 I.f.length u0, .slice l2 (cQ I U Y Z).length D2,iV I.n];refine eu (p:=p) (o:=6) (cs':=p1) (fun w M=>M.front (n:=7) rfl) lv rfl (Nat.le_of_ble_eq_true rfl) rfl rfl rfl rfl (Qe rfl) ?_;refine iy (pn 9 [2,3,4,5,6,7,8]) ?_;refine fz (by kernel_rfl) ?_;let t3:It:=iS ba 102 l2 D2 (cQ I U Y Z);refine cc (fun W M=>Mem.unfocus0 (Mem.join (is:=[K0]) (js:=(L0::(Qa p 39 p1::t3::Qa V 102 a1::C3))) (fun _ _ hs=>Sep.one hs) ((M.front (n:=4) rfl).front (n:=4) rfl))) ?_;refine cc (js:=(Qh cv p1 (⟨I.d,I.j,I.l,O,I.f,(cQ I U Y Z),I.n⟩:Qj)::(Qa p 39 p1::Qa V 102 a1::n1))) (fun W M=>Mem.join (is:=[iS (ab Qy 163) 100 (sA F0) c7 I.d.c,iS Qb 3 r0 t0 I.l,U2,iS bb 80 s0 u0 I.f,t3]) (js:=(Qa p 39 p1::Qa V 102 a1::n1)) (fun _ _ hs=>gl (x:=(⟨I.d,I.j,I.l,O,I.f,(cQ I U Y Z),I.n⟩:Qj)) hs) (M.pickN 8 [0,4,5,6,2,1,3,7] (by decide))) ?_;have g3:=(show sx I U=(⟨I.d,I.j,I.l,O,I.f,(cQ I U Y Z),I.n⟩:Qj) from bt c3 (bt e3 (rfl)));refine Mu rfl (fun W M=>⟨p1,?_,?_⟩)
  ·rfl
  rw[g3];exact((((M.front (n:=3) rfl).front (n:=1) rfl).front (n:=2) rfl).front (n:=3) rfl).tail
 refine ae 12 0 1 rfl ap ?_;refine ae 12 1 3 rfl (fun W M=>ik rfl) ?_;refine ae 12 2 7 rfl (vf Qs rfl Qg) ?_;refine ae 12 3 15 rfl (vl 9 2 Qu) ?_;refine ae 12 4 31 rfl ap ?_;refine ae 12 5 63 rfl (bc db) ?_;refine ae 12 7 191 rfl ap ?_;refine jo [6,10] ?_;refine el 12 255 rfl ?_ ?_
 ·refine eh (E:=Qb) Qq Qg (Qe rfl) (by decide) (fun L2=>?_);refine av (pn 12 [1,2,3,4,5,6,7,8,9,10,11]) (pn 12 [1,2,3,4,5,6,7,8,9,10,11]) ?_;refine jo [8,10] ?_;refine el 12 511 rfl ?_ ?_
  ·refine fv Qb Qb 3 (.slice (sA L2) 0 0) [] U M0 (fun W M=>(M.front (n:=0) rfl)) (fun W M=>fx fj (M.rdSI (n:=11) rfl)) Qq Qg (show(0+U.length)*8<=140737488355328 from by omega) (fun _=>?_);refine fm 0 ?_;rintro m2 E2 rfl j5;refine av (pn 12 [1,2,3,4,5,6,7,8,9,10,11]) (pn 12 [1,2,3,4,5,6,7,8,9,10,11]) ?_;refine ae 12 9 1023 rfl (fun W M=>ew (cs:=[iV I.j,nI ((gt I.d.c (I.j.toNat)).length), .slice m2 U.length E2, .slice none 0 0, .slice none 0 0]) rfl (by kernel_rfl)) ?_;refine be 12 10 2047 rfl ?_;refine ca je rfl (Qe rfl) (by decide) (fun T3=>?_);refine av (pn 13 [2,3,4,5,6,7,8,9,10,11,12]) (pn 13 [2,3,4,5,6,7,8,9,10,11,12]) ?_;exact gk lh ag (H (m2,E2,T3))
  refine el 12 1279 rfl ?_ ?_
  ·refine ca je rfl (Qe rfl) (by decide) (fun M2=>?_);refine av (pn 13 [2,3,4,5,6,7,8,9,10,11,12]) (pn 13 [2,3,4,5,6,7,8,9,10,11,12]) ?_;refine be 12 8 1535 rfl ?_;refine fv Qb Qb 3 (.slice (sA L2) 0 0) [] U (Qa M2 102 K5::M0) (fun W M=>(M.front (n:=1) rfl)) (fun W M=>fx fj (M.rdSI (n:=12) rfl)) Qq Qg (show(0+U.length)*8<=140737488355328 from by omega) (fun _=>?_);refine fm 0 ?_;rintro n2 F2 rfl k5;refine av (pn 13 [2,3,4,5,6,7,8,9,10,11,12]) (pn 13 [2,3,4,5,6,7,8,9,10,11,12]) ?_;refine ae 12 9 2047 rfl (fun W M=>ew (cs:=[iV I.j,nI ((gt I.d.c (I.j.toNat)).length), .slice n2 U.length F2, .slice none 0 0, .slice none 0 0]) rfl (by kernel_rfl)) ?_;exact gk lh (pn 13 [1,0,2,3,4,5,6,7,8,9,10,11,12]) (H (n2,F2,M2))
  exact jk
 refine el 12 1215 rfl ?_ ?_
 ·refine ca je rfl (Qe rfl) (by decide) (fun N2=>?_);refine av (pn 12 [1,2,3,4,5,6,7,8,9,10,11]) (pn 12 [1,2,3,4,5,6,7,8,9,10,11]) ?_;refine be 12 6 1279 rfl ?_;refine eh (E:=Qb) Qq Qg (Qe rfl) (by decide) (fun U3=>?_);refine av (pn 13 [2,3,4,5,6,7,8,9,10,11,12]) (pn 13 [2,3,4,5,6,7,8,9,10,11,12]) ?_;refine be 12 8 1535 rfl ?_;refine fv Qb Qb 3 (.slice (sA U3) 0 0) [] U (Qa N2 102 K5::M0) (fun W M=>(M.front (n:=0) rfl)) (fun W M=>fx fj (M.rdSI (n:=12) rfl)) Qq Qg (show(0+U.length)*8<=140737488355328 from by omega) (fun _=>?_);refine fm 0 ?_;rintro o2 G2 rfl l5;refine av (pn 13 [2,3,4,5,6,7,8,9,10,11,12]) (pn 13 [2,3,4,5,6,7,8,9,10,11,12]) ?_;refine ae 12 9 2047 rfl (fun W M=>ew (cs:=[iV I.j,nI ((gt I.d.c (I.j.toNat)).length), .slice o2 U.length G2, .slice none 0 0, .slice none 0 0]) rfl (by kernel_rfl)) ?_;exact gk lh (pn 13 [1,0,2,3,4,5,6,7,8,9,10,11,12]) (H (o2,G2,N2))
 exact jk
def jt (vis:Qz->Bool) (s:List Qz):List ax:=(s.filter vis).map fun v=>(⟨v.Id,v.m⟩:ax)
theorem rF (vis:Qz->Bool) (s:List Qz):(jt vis s).length<=s.length:=by
 unfold jt;rw[List.length_map];exact List.length_filter_le _ _
theorem Di {x y:List Int} (h:mr x y=true):x=y:=by
 unfold mr at h
 by_cases hl:x.length=y.length
 ·rw[show(((x.length:Nat):Int) !=((y.length:Nat):Int))=false from by rw[hl,bne_self_eq_false],cond_false,qe (p:=fun k=> !(gt x k !=gt y k)) (r:=false) (fun k _=>by unfold sK;cases gt x k !=gt y k <;>rfl)] at h;have ha:(List.range x.length).all (fun k=> !(gt x k !=gt y k))=true:=by
   cases hc:(List.range x.length).all (fun k=> !(gt x k !=gt y k)) with
   |true=>rfl
   |false=>rw[hc] at h;cases h
  rw[List.all_eq_true] at ha;apply List.ext_getElem hl;intro i a b;have:=ha i (List.mem_range.2 a);rw[Bool.not_eq_true',bne_eq_false_iff_eq,gc a,gc b] at this;exact this
 rw[bne_iff_ne.2 (show((x.length:Nat):Int)≠((y.length:Nat):Int) by omega)] at h;cases h
def oe (s:ga) (v:Int):Bool:=decide (s.I<=v∧v<=s.To)
def pr:List ga->Int->List Int
 | [],_=>[]
 |s::l,v=>cond (oe s v) s.E (pr l v)
theorem uW (l:List ga) (v:Int):mp l v=pr l v:=by
 have key:∀ m k,m+k=l.length->Sum.elim id (fun(_:Unit)=>[]) (ay (R:=List Int) (fun k (_:Unit)=>tl l v k) m k ())=pr (l.drop k) v:=by
  intro m
  induction m with
  |zero=>intro k hk;rw[List.drop_of_length_le (by omega)];rfl
  |succ m ih=>
   intro k hk;have hlt:k<l.length:=by omega
   rw[List.drop_eq_getElem_cons hlt, <- gc hlt,ay];show Sum.elim id (fun(_:Unit)=>[]) (Sum.elim Sum.inl (fun s'=>ay (R:=List Int) (fun k (_:Unit)=>tl l v k) m (k+1) s') (tl l v k))=cond (oe (gt l k) v) (gt l k).E (pr (l.drop (k+1)) v);unfold tl oe;rw[kk];cases decide ((gt l k).I<=v∧v<=(gt l k).To) with
   |true=>rfl
   |false=>exact ih (k+1) (by omega)
 have:=key (l.length-0) 0 (by omega);rw[List.drop_zero] at this;exact this
theorem gJ {z:ga} {v:Int} (h:oe z v=false):∀ p:List ga,pr (p++[z]) v=pr p v
 | []=>by show cond (oe z v) _ _=_;rw[h];rfl
 |s::p=>by show cond (oe s v) _ (pr (p++[z]) v)=cond (oe s v) _ (pr p v);rw[gJ h p]
theorem Of {z:ga} {v:Int} (h:oe z v=true):∀ p:List ga,(∀ s∈p,oe s v=false)->pr (p++[z]) v=z.E
 | [],_=>by show cond (oe z v) _ _=_;rw[h];rfl
 |s::p,hp=>by
  show cond (oe s v) _ (pr (p++[z]) v)=_;rw[hp s (List.mem_cons_self ..),Of h p (fun s' a=>hp s' (List.mem_cons_of_mem _ a))];rfl
theorem gI {z z':ga} {v:Int} (h:oe z v=oe z' v) (a:z.E=z'.E):∀ p:List ga,pr (p++[z]) v=pr (p++[z']) v
 | []=>by show cond (oe z v) _ _=cond (oe z' v) _ _;rw[h,a]
 |s::p=>by show cond (oe s v) _ (pr (p++[z]) v)=cond (oe s v) _ (pr (p++[z']) v);rw[gI h a p]
def Na (T:Int->List Int) (k:Nat) (d:List ga):Prop:=
 (k=0∧d=[])∨∃ p z,d=p++[z]∧z.To=((k:Nat):Int)-1∧z.I<=((k:Nat):Int)-1∧z.E=T (((k:Nat):Int)-1)∧(∀ s∈p,s.To<z.I)∧∀ v:Int,0<=v->v<((k:Nat):Int)->pr d v=T v
theorem xA {l:List bf} {f:Int} (k:Nat) (d:List ga) (h:Na (fun v=>kj l f v) k d):∃ d',vj l f k d= .inr d'∧Na (fun v=>kj l f v) (k+1) d':=by
 unfold vj;rcases h with⟨rfl,rfl⟩|⟨p,z,rfl,_,_,_,c,e⟩
 ·refine⟨[⟨0,0,kj l f 0⟩],rfl, .inr ⟨[],_,rfl,rfl,(by show(0:Int)<=_;omega),rfl,(fun s a=>by cases a),fun v b g=>?_⟩⟩;have hv:v=0:=by omega
  subst hv;rfl
 have hl:(p++[z]).length-1=p.length:=by rw[List.length_append];show p.length+1-1=_;omega
 have hg:gt (p++[z]) p.length=z:=by
  rw[gc (by rw[List.length_append];show p.length<p.length+1;omega),List.getElem_append_right (Nat.le_refl _)];simp
 have hset:∀ y,(p++[z]).set p.length y=p++[y]:=fun y=>by
  rw[List.set_append_right _ _ (Nat.le_refl _),Nat.sub_self];rfl
 rw[decide_eq_true (show(0:Int)<(((p++[z]).length:Nat):Int) by rw[List.length_append];show(0:Int)<((p.length+1:Nat):Int);omega),cond_true,hl,hg,hset];have hz:∀ s∈p,oe s ((k:Nat):Int)=false:=fun s a=>decide_eq_false (by have:=c s a;omega)
 cases hc:mr z.E (kj l f ((k:Nat):Int)) with
 |true=>
  have he:=Di hc;refine⟨_,rfl, .inr ⟨p,_,rfl,(by show((k:Nat):Int)=((k+1:Nat):Int)-1;omega),(by show z.I<=((k+1:Nat):Int)-1;omega),(by show z.E=kj l f (((k+1:Nat):Int)-1);rw[he];congr 1;omega),c,fun v b g=>?_⟩⟩
  by_cases hv:v=((k:Nat):Int)
  ·rw[hv,Of (decide_eq_true (by show z.I<=((k:Nat):Int)∧((k:Nat):Int)<=((k:Nat):Int);omega)) p hz];exact he
  rw[<- e v b (by omega)];refine(gI (z:=z) (z':=⟨z.I,((k:Nat):Int),z.E⟩) (v:=v) ?_ rfl p).symm;unfold oe;apply decide_eq_decide.2;show _↔(z.I<=v∧v<=((k:Nat):Int));omega
 |false=>
  refine⟨_,rfl, .inr ⟨p++[z],_,rfl,(by show((k:Nat):Int)=((k+1:Nat):Int)-1;omega),(by show((k:Nat):Int)<=((k+1:Nat):Int)-1;omega),(by show kj l f ((k:Nat):Int)=kj l f (((k+1:Nat):Int)-1);congr 1;omega),fun s a=>?_,fun v b g=>?_⟩⟩
  ·show s.To<((k:Nat):Int);rcases List.mem_append.1 a with h|h
   ·have:=c s h;omega
   rw[List.mem_singleton.1 h];omega
  by_cases hv:v=((k:Nat):Int)
  ·rw[hv,Of (decide_eq_true (by show((k:Nat):Int)<=((k:Nat):Int)∧((k:Nat):Int)<=((k:Nat):Int);omega)) (p++[z]) (fun s a=>by
    rcases List.mem_append.1 a with h|h
    ·exact hz s h
    rw[List.mem_singleton.1 h];exact decide_eq_false (by omega))]
  rw[gJ (decide_eq_false (by show ¬ (((k:Nat):Int)<=v∧_);omega)),e v b (by omega)]
theorem uX {l:List bf} {f v:Int} (hq:mz l=true) (hf:0<=f∧f<=2) (hv:0<=v∧v<=99):mp (jl l f) v=kj l f v:=by
 rw[uW];unfold jl;rw[hq,kk,decide_eq_true hf,cond_true,cond_true];obtain⟨d,e,h⟩:=ug (R:=List ga) (body:=fun k (s:List ga)=>vj l f k s) (n:=100) (Na (fun v=>kj l f v)) (fun k d _ h=>xA k d h) (100-0) 0 [] (by omega) (.inl ⟨rfl,rfl⟩);rw[e];rcases h with⟨h,_⟩|⟨p,z,_,_,_,_,_,h⟩
 ·exact absurd h (by omega)
 exact h v (by omega) (by show v<100;omega)
theorem wY {l:List bf} {f v:Int} (hq:mz l=true) (hf:0<=f∧f<=2) (hv:0<=v∧v<=99):kj l f v=(l.filter fun q=>rc q f v).map fun q=>q.Id:=by
 unfold kj
 rw[xf (b:=fun k d=>cond (rc (gt l k) f v) (Sum.inr (d++[(gt l k).Id])) (Sum.inr d)) (fun j s=>by
  unfold aF;rw[hq,kk,kk,decide_eq_true hf,decide_eq_true hv]
  cases rc (gt l j) f v <;>rfl)]
 rw[oh (xs:=l) (f:=fun d q=>cond (rc q f v) (d++[q.Id]) d) (b:=fun k d=>cond (rc (gt l k) f v) (Sum.inr (d++[(gt l k).Id])) (Sum.inr d)) (fun j s _=>by cases rc (gt l j) f v <;>rfl),ti];rfl
theorem wJ {q:bf} (h:ki q=true):(0<=q.Id∧q.Id<=23)∧∀ c∈q.o,0<=c.Field∧c.Field<=2:=by
 unfold ki at h
 rw[qe (p:=fun k=>qx (gt q.o k) && (!decide (0<((k:Nat):Int)) || !decide ((gt q.o k).Field<=(gt q.o (k-1)).Field))) (r:=false) (fun k _=>by
  unfold vi
  cases qx (gt q.o k) <;>cases decide (0<((k:Nat):Int)) <;>cases decide ((gt q.o k).Field<=(gt q.o (k-1)).Field) <;>rfl),kk q.Id] at h
 have ha:(List.range q.o.length).all (fun k=>qx (gt q.o k) && (!decide (0<((k:Nat):Int)) || !decide ((gt q.o k).Field<=(gt q.o (k-1)).Field)))=true∧decide (0<=q.Id∧q.Id<=23)=true:=by
  revert h
  cases (List.range q.o.length).all (fun k=>qx (gt q.o k) && (!decide (0<((k:Nat):Int)) || !decide ((gt q.o k).Field<=(gt q.o (k-1)).Field))) <;>cases decide (0<=q.Id∧q.Id<=23) <;>intro h <;>first|exact⟨rfl,rfl⟩|cases h
 obtain⟨ha,hi⟩:=ha;rw[List.all_eq_true] at ha;refine⟨of_decide_eq_true hi,fun c hc=>?_⟩;obtain⟨i,hi,rfl⟩:=List.mem_iff_getElem.1 hc;have:=ha i (List.mem_range.2 hi);rw[Bool.and_eq_true,gc hi] at this;have a:=this.1;unfold qx at a;rw[kk] at a
 by_cases hf:0<=q.o[i].Field∧q.o[i].Field<=2
 ·exact hf
 rw[decide_eq_false hf] at a;cases a
def uv (q:bf) (f v:Int):Bool:=q.o.all fun c=> !(c.Field==f) || decide (c.G<=v∧v<=c.H)
theorem dK (q:bf) (f v:Int):rc q f v=uv q f v:=by
 unfold rc uv
 rw[bZ (xs:=q.o) (p:=fun c=> !(c.Field==f) || decide (c.G<=v∧v<=c.H)) (r:=false) (fun k _=>by
  unfold ym;rw[kk]
  cases (gt q.o k).Field==f <;>cases decide ((gt q.o k).G<=v∧v<=(gt q.o k).H) <;>rfl)]
 cases q.o.all fun c=> !(c.Field==f) || decide (c.G<=v∧v<=c.H) <;>rfl
theorem dY {x:List Int} (c:x.Pairwise (fun a b=>a<b)) (d:∀ y∈x,0<=y∧y<=23):nk x=true:=by
 unfold nk
 rw[qq (fun k hk=>by
  unfold nL;rw[kk,decide_eq_true (d _ (bl hk)),cond_true]
  by_cases e:0<k
  ·rw[decide_eq_true (show(0:Int)<((k:Nat):Int) by omega),decide_eq_false (show ¬ gt x k<=gt x (k-1) by
    have:=List.pairwise_iff_getElem.1 c (k-1) k (by omega) hk (by omega);rw[gc hk,gc (by omega)]
    omega)]
   rfl
  rw[decide_eq_false (show ¬ (0:Int)<((k:Nat):Int) by omega)]
  rfl)]
 rfl
theorem gY {l:List bf} (hq:mz l=true) (p:bf->Bool):nk ((l.filter p).map fun q=>q.Id)=true:=by
 obtain⟨_,a,hpw⟩:=Mx hq;refine dY ?_ (fun y hy=>?_)
 ·rw[List.pairwise_map];exact hpw.filter p
 obtain⟨q,hq',rfl⟩:=List.mem_map.1 hy;exact(wJ (a q (List.mem_filter.1 hq').1)).1
theorem Ay {l:List bf} (h:l.Pairwise (fun a b=>a.Id<b.Id)) {a b:bf} (ha:a∈l) (hb:b∈l) (he:a.Id=b.Id):a=b:=by
 obtain⟨i,hi,rfl⟩:=List.mem_iff_getElem.1 ha;obtain⟨j,hj,rfl⟩:=List.mem_iff_getElem.1 hb;rcases Nat.lt_trichotomy i j with c|rfl|c
 ·have:=List.pairwise_iff_getElem.1 h i j hi hj c;omega
 ·rfl
 have:=List.pairwise_iff_getElem.1 h j i hj hi c;omega
theorem Dx (x:List Int) (i:Int):ls x i=x.any fun y=>y==i:=by
 unfold ls;rw[rC (p:=fun y=>y==i) (r:=true) (fun j _=>rfl)];cases x.any fun y=>y==i <;>rfl
theorem iP {l:List bf} (hq:mz l=true) (r:bf->Bool) {q:bf} (b:q∈l):ls ((l.filter r).map fun q=>q.Id) q.Id=r q:=by
 obtain⟨_,_,hpw⟩:=Mx hq;rw[Dx];cases hr:r q with
 |true=>rw[List.any_eq_true];exact⟨q.Id,List.mem_map.2 ⟨q,List.mem_filter.2 ⟨b,hr⟩,rfl⟩,beq_self_eq_true _⟩
 |false=>
  rw[List.any_eq_false];intro y hy;obtain⟨q',c,rfl⟩:=List.mem_map.1 hy;rw[beq_iff_eq];intro he;obtain⟨d,a⟩:=List.mem_filter.1 c;rw[Ay hpw d b he,hr] at a;cases a
theorem Du {l:List bf} (hq:mz l=true) (p r:bf->Bool):sv ((l.filter p).map fun q=>q.Id) ((l.filter r).map fun q=>q.Id)=(l.filter fun q=>p q && r q).map fun q=>q.Id:=by
 rw[kK,gY hq,gY hq];show List.filter _ (List.map _ _)=_;rw[List.filter_map,List.filter_filter];refine congrArg (List.map _) (List.filter_congr fun q hq'=>?_);show(ls ((l.filter r).map fun q=>q.Id) q.Id && p q)=(p q && r q);rw[iP hq r hq',Bool.and_comm]
def po (r:ax) (k:Nat) (q:bf):Bool:=(List.range k).all fun f=>uv q ((f:Nat):Int) (gt r.m f)
def pp (r:ax) (o:List Int) (q:bf):Bool:=o.all fun f=>uv q f (gt r.m f.toNat)
theorem Eb {o:List Int} (ho:sy o=true):∀ k:Nat,k<3->((k:Nat):Int)∈o:=by
 have a:=iM o;rw[ho] at a;unfold bR at a;rw[qe (n:=3) (p:=fun k=>ov o k) (r:=false) (fun k _=>rfl)] at a;intro k hk;cases ha:(List.range 3).all (fun k=>ov o ((k:Nat):Int)) with
 |false=>rw[ha] at a;cases a
 |true=>
  have b:=List.all_eq_true.1 ha k (List.mem_range.2 hk);have c:ov o ((k:Nat):Int)=o.any fun z=>z==((k:Nat):Int):=pZ o _
  rw[c,List.any_eq_true] at b;obtain⟨z,hz,he⟩:=b;rw[<- beq_iff_eq.1 he];exact hz
theorem xW {o:List Int} (ho:sy o=true) (r:ax) (q:bf):pp r o q=po r 3 q:=by
 rw[Bool.eq_iff_iff];unfold pp po;simp only[List.all_eq_true,List.mem_range];constructor
 ·intro h k hk;have:=h _ (Eb ho k hk);rw[Int.toNat_natCast] at this;exact this
 intro h f hf;have hr:=xz ho f hf;have:=h f.toNat (by omega);rw[Int.toNat_of_nonneg hr.1] at this;exact this
theorem vT {l:List bf} {r:ax} {o:List Int} (hq:mz l=true) (hr:kr r=true) (ho:sy o=true):(rx (lr l) r o).1=(l.filter (po r 3)).map fun q=>q.Id:=by
 obtain⟨hv,_,_⟩:=(ut r).1 hr;have hor:=xz ho;rw[dL hq];have hst:∀ k,k<3->gt [jl l 0,jl l 1,jl l 2] k=jl l ((k:Nat):Int):=fun k hk=>by
  rcases k with _|_|_|k
  ·rfl
  ·rfl
  ·rfl
  omega
 have hfind:∀ f:Int,0<=f∧f<=2->mp (gt [jl l 0,jl l 1,jl l 2] f.toNat) (gt r.m f.toNat)=(l.filter fun q=>uv q f (gt r.m f.toNat)).map fun q=>q.Id:=fun f hf=>by
  rw[hst _ (by omega),Int.toNat_of_nonneg hf.1,uX hq hf (hv _ (bl (by omega))),wY hq hf (hv _ (bl (by omega)))];refine congrArg (List.map _) (List.filter_congr fun q _=>dK q _ _)
 unfold rx;have hall:rv l=(l.filter (pp r (o.take 0))).map fun q=>q.Id:=by
  unfold rv;rw[oh (xs:=l) (f:=fun d q=>d++[q.Id]) (b:=fun k s=>sO l k s) (fun _ _ _=>rfl)];show l.foldl _ []=_;have a:=ti (fun _:bf=>true) (fun q:bf=>q.Id) l [];have c:l.filter (pp r (o.take 0))=l.filter (fun _=>true):=List.filter_congr fun q _=>rfl
  rw[c];exact a
 have hsucc:∀ k,k<o.length->∀ q,pp r (o.take (k+1)) q=(pp r (o.take k) q && uv q (gt o k) (gt r.m (gt o k).toNat)):=fun k hk q=>by
  unfold pp;rw[List.take_add_one,dz hk,List.all_append];simp
 have hmono:∀ k,∀ q,pp r o q=true->pp r (o.take k) q=true:=fun k q h=>by
  unfold pp at h ⊢;rw[List.all_eq_true] at h ⊢;exact fun f hf=>h f (List.mem_of_mem_take hf)
 obtain⟨s',e,h⟩:=nB (R:=(List Int)×Int) (b:=fun k (s:(List Int)×Int)=>aI ⟨l,[jl l 0,jl l 1,jl l 2]⟩ r o k s.1 s.2) (n:=o.length) (P:=fun k s=>s.1=(l.filter (pp r (o.take k))).map fun q=>q.Id) (Q:=fun s=>s.1=(l.filter (pp r o)).map fun q=>q.Id) (fun k s hk g=>by
  show(∃ s',aI _ r o k s.1 s.2=_∧_)∨∃ s',aI _ r o k s.1 s.2=_∧_;unfold aI
  by_cases j:0<s.1.length
  ·rw[decide_eq_true (show(0:Int)<((s.1.length:Nat):Int) by omega),cond_true];refine .inl ⟨_,rfl,?_⟩;show sv s.1 _=_;rw[hfind _ (hor _ (bl hk)),g,Du hq];exact congrArg (List.map _) (List.filter_congr fun q _=>(hsucc k hk q).symm)
  rw[decide_eq_false (show ¬ (0:Int)<((s.1.length:Nat):Int) by omega),cond_false];refine .inr ⟨_,rfl,?_⟩;have hnil:s.1=[]:=List.eq_nil_of_length_eq_zero (by omega);rw[hnil] at g;show s.1=_;rw[hnil];have a:l.filter (pp r (o.take k))=[]:=List.map_eq_nil_iff.1 g.symm;have c:l.filter (pp r o)=[]:=by
   rw[List.filter_eq_nil_iff] at a ⊢;exact fun q hq' h=>a q hq' (hmono k q h)
  rw[c]
  rfl) (o.length-0) 0 ((rv l),0) rfl hall
 have i:l.filter (po r 3)=l.filter (pp r o):=List.filter_congr fun q _=>(xW ho r q).symm
 rw[i];show(Sum.elim id (fun(s:(List Int)×Int)=>(s.1,s.2)) (fe (R:=(List Int)×Int) (fun k (s:(List Int)×Int)=>aI ⟨l,[jl l 0,jl l 1,jl l 2]⟩ r o k s.1 s.2) (o.length-0) 0 ((rv l),0))).1=_;rw[e];rcases h with h|h
 ·exact h
 rw[List.take_length] at h;exact h
def lp (x:Qj):List Qz:=gt x.d.c x.j.toNat
def qf (a:Qn) (v:Qz):Bool:=po (⟨v.Id,v.m⟩:ax) 3 a.e && mc v a.r
def my (x:Qj) (a:Qn):List ax:=jt (qf a) (lp x)
def aO (x:Qj) (a:Qn):Qn:=⟨a.e,a.r,a.t.filter (fun y=>y !=x.j),a.v,IntKind.i64.wrap (a.A+(((my x a).length:Nat):Int)),a.z,a.p++my x a⟩
def ja (x:Qj) (ids:List Int):List Qn:=x.a.map fun a=>cond (decide (a.e.Id∈ids)) (aO x a) a
def mj (x:Qj) (y:Int):Qn:=gt x.a (da x y).toNat
theorem Ni (x:Qj):ja x []=x.a:=by
 unfold ja;have h:∀ a∈x.a,(cond (decide (a.e.Id∈([]:List Int))) (aO x a) a)=a:=fun a _=>by rw[decide_eq_false (by simp)];rfl
 rw[List.map_congr_left h,List.map_id']
theorem tf (x:Qj) (ids:List Int):(ja x ids).length=x.a.length:=by unfold ja;rw[List.length_map]
theorem pE (x:Qj) (ids:List Int) {i:Nat} (hi:i<x.a.length):gt (ja x ids) i=cond (decide ((gt x.a i).e.Id∈ids)) (aO x (gt x.a i)) (gt x.a i):=by
 unfold ja;rw[gc (by rw[List.length_map];exact hi),gc hi,List.getElem_map]
theorem fE (x:Qj) (ids:List Int):(ja x ids).map (fun(a:Qn)=>a.e.Id)=x.a.map (fun(a:Qn)=>a.e.Id):=by
 unfold ja;rw[List.map_map];refine List.map_congr_left fun a _=>?_
 show(cond (decide (a.e.Id∈ids)) (aO x a) a).e.Id=_;cases decide (a.e.Id∈ids) <;>rfl
theorem eB {x:Qj} (h:fr x):(bv x).Pairwise (fun a b=>a<b):=by
 rw[bA h,List.pairwise_map];exact h.srt.filter _
theorem zl {x:Qj} (h:fr x) {y:Int} (hy:y∈bv x):∃ i,i<x.a.length∧(gt x.a i).e.Id=y∧da x y=((i:Nat):Int)∧pm x.j (gt x.a i)=true:=by
 rw[bA h] at hy;obtain⟨a,ha,rfl⟩:=List.mem_map.1 hy;obtain⟨ha,hb⟩:=List.mem_filter.1 ha;obtain⟨i,hi,rfl⟩:=List.mem_iff_getElem.1 ha;rw[<- gc hi] at hb ⊢;exact⟨i,hi,rfl,aZ h.srt hi,hb⟩
theorem vQ {x:Qj} (h:fr x) {k:Nat} (hk:k<(bv x).length):gt (bv x) k ∉ (bv x).take k:=fun a=>by
 obtain⟨j,hj,he⟩:=List.mem_iff_getElem.1 a;rw[List.length_take] at hj;rw[List.getElem_take] at he;have:=List.pairwise_iff_getElem.1 (eB h) j k (by omega) hk (by omega);rw[gc hk] at he;omega
theorem Nh {x:Qj} (h:fr x) {k:Nat} (hk:k<(bv x).length):gt (ja x ((bv x).take k)) (da x (gt (bv x) k)).toNat=mj x (gt (bv x) k):=by
 obtain⟨i,hi,he,hf,_⟩:=zl h (bl hk);unfold mj;rw[hf,Int.toNat_natCast,pE x _ hi,he,decide_eq_false (vQ h hk)];rfl
theorem fF {x:Qj} (h:fr x) {k:Nat} (hk:k<(bv x).length):(ja x ((bv x).take k)).set (da x (gt (bv x) k)).toNat (aO x (mj x (gt (bv x) k)))=ja x ((bv x).take (k+1)):=by
 obtain⟨i,hi,he,hf,_⟩:=zl h (bl hk);unfold mj;rw[hf,Int.toNat_natCast];refine List.ext_getElem (by rw[List.length_set,tf,tf]) fun j _ b=>?_
 have hj:j<x.a.length:=by rw[tf] at b;exact b
 rw[List.getElem_set]
 by_cases hij:i=j
 ·subst hij;rw[if_pos rfl, <- gc b,pE x _ hi,he,decide_eq_true]
  ·rfl
  rw[List.take_add_one,dz hk];simp
 rw[if_neg hij, <- gc b, <- gc (by rw[tf];exact hj),pE x _ hj,pE x _ hj];have hne:(gt x.a j).e.Id≠gt (bv x) k:=fun e=>by
  have c:=aZ h.srt hj;rw[e,hf] at c;omega
 congr 1
 rw[List.take_add_one,dz hk,decide_eq_decide,List.mem_append];simp[hne]
theorem xl {x:Qj} (h:fr x) {v:Qz} (hv:v∈lp x):kr (⟨v.Id,v.m⟩:ax)=true:=by
 have hc:=h.cur;have a:=(ka _).1 h.st;have:=a.2.2.2.1 _ (List.mem_flatten.2 ⟨_,bl (show x.j.toNat<x.d.c.length by omega),hv⟩);exact((zn a.2.1.2).1 this).1
theorem Hh (p:Qz->Bool) {l:List Qz} {j:Nat} (hj:j<l.length):jt p (l.take (j+1))=jt p (l.take j)++cond (p (gt l j)) [(⟨(gt l j).Id,(gt l j).m⟩:ax)] []:=by
 unfold jt;rw[List.take_add_one,dz hj,List.filter_append,List.map_append]
 congr 1
 show List.map _ (List.filter p [gt l j])=_;cases hp:p (gt l j) with
 |true=>rw[List.filter_cons_of_pos hp];rfl
 |false=>rw[List.filter_cons_of_neg (by rw[hp];exact Bool.false_ne_true)];rfl
theorem Hl {α:Type} [Inhabited α] (d:List α) (i:Nat):d.set i (gt d i)=d:=by
 by_cases hi:i<d.length
 ·rw[gc hi];exact List.set_getElem_self hi
 exact List.set_eq_of_length_le (by omega)
theorem gV {α:Type} [Inhabited α] {d:List α} {i:Nat} (hi:i<d.length) (y:α):gt (d.set i y) i=y:=by
 rw[gc (by rw[List.length_set];exact hi),List.getElem_set_self]
def zz (a:Qn) (l:List ax):Qn:=⟨a.e,a.r,a.t,a.v,a.A,a.z,a.p++l⟩
theorem wR {x:Qj} (h:fr x) {k:Nat} (hk:k<(bv x).length) {d:List Qn} (hd:d.map (fun(a:Qn)=>a.e.Id)=x.a.map (fun(a:Qn)=>a.e.Id)) (hc:gt d (da x (gt (bv x) k)).toNat=mj x (gt (bv x) k)):
 ay (R:=Qj) (fun j (s:Int×(List Qn))=>cO x (bv x) (ml x (bv x)) k d j s.1 s.2) ((gt x.d.c (x.j.toNat)).length-0) 0 (0,d)= .inr ((((my x (mj x (gt (bv x) k))).length:Nat):Int),d.set (da x (gt (bv x) k)).toNat (zz (mj x (gt (bv x) k)) (my x (mj x (gt (bv x) k))))):=by
 obtain⟨hfq,hdl⟩:=Mz hd (gt (bv x) k);obtain⟨i,hi,he,hf,hpb⟩:=zl h (bl hk);have ha:mj x (gt (bv x) k)=gt x.a i:=by unfold mj;rw[hf,Int.toNat_natCast]
 have hare:=eR h;have hq:(gt x.a i).e∈ml x (bv x):=by
  rw[eS h];exact List.mem_map.2 ⟨_,List.mem_filter.2 ⟨bl hi,hpb⟩,rfl⟩
 rw[ha] at hc ⊢;rw[hf,Int.toNat_natCast] at hc ⊢;have w:=pC h;obtain⟨s',e,f,b⟩:=ug (R:=Qj) (body:=fun j (s:Int×(List Qn))=>cO x (bv x) (ml x (bv x)) k d j s.1 s.2) (n:=(gt x.d.c (x.j.toNat)).length)
  (fun j s=>s.1=(((jt (qf (gt x.a i)) ((lp x).take j)).length:Nat):Int)∧s.2=d.set i (zz (gt x.a i) (jt (qf (gt x.a i)) ((lp x).take j)))) (fun j s hj y=>by
   obtain⟨o,s2⟩:=s;obtain⟨f,b⟩:=y;dsimp only at f b;show ∃ s',cO x (bv x) (ml x (bv x)) k d j o s2=_∧_;unfold cO;have hrow:=xl h (show gt (gt x.d.c x.j.toNat) j∈lp x from bl hj);have hadm:ls ((rx (lr (ml x (bv x))) (⟨(gt (gt x.d.c (x.j.toNat)) j).Id,(gt (gt x.d.c (x.j.toNat)) j).m⟩:ax) x.l).1) (gt (bv x) k)=po (⟨(gt (gt x.d.c (x.j.toNat)) j).Id,(gt (gt x.d.c (x.j.toNat)) j).m⟩:ax) 3 (gt x.a i).e:=by
    rw[vT hare hrow h.ord, <- he,iP hare _ hq]
   rw[hadm,hfq,hf,Int.toNat_natCast];have hg:gt s2 i=zz (gt x.a i) (jt (qf (gt x.a i)) ((lp x).take j)):=by rw[b];exact gV (by omega) _
   have htm:(gt s2 i).r=(gt x.a i).r:=by rw[hg];rfl
   rw[htm];have hsn:=Hh (qf (gt x.a i)) (l:=lp x) hj;have hvis:qy (gt (gt x.d.c x.j.toNat) j) (gt x.a i).r=mc (gt (lp x) j) (gt x.a i).r:=rfl;have g:po (⟨(gt (gt x.d.c (x.j.toNat)) j).Id,(gt (gt x.d.c (x.j.toNat)) j).m⟩:ax) 3 (gt x.a i).e=po (⟨(gt (lp x) j).Id,(gt (lp x) j).m⟩:ax) 3 (gt x.a i).e:=rfl;rw[hvis,g];have t:=rF (qf (gt x.a i)) ((lp x).take j);rw[List.length_take] at t;have hsl:(lp x).length<=4:=w;cases p:po (⟨(gt (lp x) j).Id,(gt (lp x) j).m⟩:ax) 3 (gt x.a i).e with
   |false=>
    have hb:qf (gt x.a i) (gt (lp x) j)=false:=by unfold qf;rw[p];rfl
    rw[hb] at hsn;refine⟨(o,s2),rfl,?_,?_⟩
    ·dsimp only;rw[hsn,cond_false,List.append_nil];exact f
    dsimp only;rw[hsn,cond_false,List.append_nil];exact b
   |true=>
    cases u:mc (gt (lp x) j) (gt x.a i).r with
    |false=>
     have hb:qf (gt x.a i) (gt (lp x) j)=false:=by unfold qf;rw[p,u];rfl
     rw[hb] at hsn;refine⟨(o,s2),rfl,?_,?_⟩
     ·dsimp only;rw[hsn,cond_false,List.append_nil];exact f
     dsimp only;rw[hsn,cond_false,List.append_nil];exact b
    |true=>
     have hb:qf (gt x.a i) (gt (lp x) j)=true:=by unfold qf;rw[p,u];rfl
     rw[hb] at hsn;refine⟨_,rfl,?_,?_⟩
     ·dsimp only;rw[hsn,cond_true,List.length_append,f,gi (by omega) (by omega)];show _+1=(((_+1:Nat)):Int);omega
     show vk x ((i:Nat):Int) j s2=_;unfold vk qz;rw[Int.toNat_natCast,hg,b,List.set_set,hsn,cond_true];unfold zz;dsimp only;rw[List.append_assoc];rfl) ((gt x.d.c (x.j.toNat)).length-0) 0 (0,d) (by omega) ⟨rfl,by
   show d=d.set i (zz (gt x.a i) (jt (qf (gt x.a i)) ((lp x).take 0)));have v:zz (gt x.a i) (jt (qf (gt x.a i)) ((lp x).take 0))=gt d i:=by
    rw[hc];generalize gt x.a i=a;cases a
    simp[zz,jt]
   rw[v,Hl]⟩
 rw[e];have ht:(lp x).take (gt x.d.c (x.j.toNat)).length=lp x:=List.take_length;rw[ht] at f b;obtain⟨o,s2⟩:=s';dsimp only at f b;rw[f,b];rfl
def tq (x:Qj) (ids:List Int):List Int:=ids.map fun y=>(mj x y).e.u
def th (x:Qj) (ids:List Int):List Int:=ids.map fun y=>(((my x (mj x y)).length:Nat):Int)
def ue (x:Qj):fy:=⟨x.j,(((lp x).length:Nat):Int),bv x,tq x (bv x),th x (bv x)⟩
theorem qY {β:Type} (f:Int->β) {l:List Int} {k:Nat} (hk:k<l.length):(l.take (k+1)).map f=(l.take k).map f++[f (gt l k)]:=by
 rw[List.take_add_one,dz hk,List.map_append];rfl
theorem mD {x:Qj} (h:fr x):sx x (bv x)=⟨x.d,x.j,x.l,ja x (bv x),x.f,x.k++[ue x],x.n⟩:=by
 have:=bB h;unfold sx;obtain⟨q,o,hq⟩:=ug (R:=Qj) (body:=fun k (s:(List bf))=>yg x (bv x) k s) (n:=(bv x).length) (fun k s=>s=ml x ((bv x).take k)) (fun k s hk g=>⟨_,rfl,by rw[eU hk, <- g]⟩) ((bv x).length-0) 0 [] (by omega) rfl;rw[List.take_length] at hq;rw[o,hq];obtain⟨s,p,b,c,e⟩:=ug (R:=Qj) (body:=fun k (s:(List Int)×(List Int)×(List Qn))=>cN x (bv x) (ml x (bv x)) k s.1 s.2.1 s.2.2) (n:=(bv x).length)
  (fun k s=>s.1=tq x ((bv x).take k)∧s.2.1=th x ((bv x).take k)∧s.2.2=ja x ((bv x).take k)) (fun k s hk g=>by
   obtain⟨m,s2,r⟩:=s;obtain⟨b,c,e⟩:=g;dsimp only at b c e;subst e;show ∃ s',cN x (bv x) (ml x (bv x)) k m s2 _=_∧_;unfold cN;rw[wR h hk (fE x _) (Nh h hk),(Mz (fE x ((bv x).take k)) (gt (bv x) k)).1];refine⟨_,rfl,?_,?_,?_⟩
   ·show m++[_]=_;unfold tq at b ⊢;rw[qY _ hk,b,Nh h hk]
   ·show s2++[_]=_;unfold th at c ⊢;rw[qY _ hk,c]
   obtain⟨i,hi,he,hf,hpb⟩:=zl h (bl hk);rw[<- fF h hk];unfold cP;dsimp only;rw[gV (by rw[tf,hf];omega),List.set_set,lR]
   rfl) ((bv x).length-0) 0 ([],[],x.a) (by omega) ⟨rfl,rfl,by rw[List.take_zero,Ni]⟩
 show Sum.elim id _ (ay (R:=Qj) (fun k (s:(List Int)×(List Int)×(List Qn))=>cN x (bv x) (ml x (bv x)) k s.1 s.2.1 s.2.2) ((bv x).length-0) 0 ([],[],x.a))=_;rw[p];obtain⟨m,s2,r⟩:=s;dsimp only at b c e;rw[List.take_length] at b c e;rw[b,c,e];rfl
theorem wX {x:Qj} (h:fr x):(sx x (bv x)).d=x.d:=by rw[mD h]
theorem wV {x:Qj} (h:fr x):(sx x (bv x)).d.c.length=x.d.c.length:=by rw[mD h]
theorem wQ {x:Qj} (h:fr x):(sx x (bv x)).a.length=x.a.length:=by rw[mD h];exact tf _ _
theorem wS {x:Qj} (h:fr x):(sx x (bv x)).f.length=x.f.length:=by rw[mD h]
abbrev sF (E36:Qj) (k95:Nat) (d96:(List Qn)):(List Qn):=
 (d96++[(⟨(gt E36.a k95).e,(gt E36.a k95).r,(gt E36.a k95).t,(IntKind.i64.wrap (((gt E36.a k95).v)+1)),0,(gt E36.a k95).z,(gt E36.a k95).p⟩:Qn)])
abbrev sG (E36:Qj) (k95:Nat) (d96:(List Qn)):(List Qn):=
 (d96++[(⟨(gt E36.a k95).e,(gt E36.a k95).r,(gt E36.a k95).t,(IntKind.i64.wrap (((gt E36.a k95).v)+1)),(gt E36.a k95).A,(gt E36.a k95).z,(gt E36.a k95).p⟩:Qn)])
def nT (b:Qj) (f:Nat) (h:(List Qn)) (g:(List df)):Qj⊕((List Qn)×(List df)):=
 cond ((Int.tmod (IntKind.i64.wrap (((gt b.a f).v)+1)) ((b.d.c.length:Nat):Int))==0) (cond (((((gt b.a f).t).length:Nat):Int)==0) (Sum.inr (h,(g++[(⟨(gt b.a f).e,(gt b.a f).r,(IntKind.i64.wrap (((gt b.a f).v)+1)),(gt b.a f).p⟩:df)]))) (Sum.inr ((sF b f h),g))) (cond (((((gt b.a f).t).length:Nat):Int)==0) (Sum.inr (h,(g++[(⟨(gt b.a f).e,(gt b.a f).r,(IntKind.i64.wrap (((gt b.a f).v)+1)),(gt b.a f).p⟩:df)]))) (Sum.inr ((sG b f h),g)))
def cR (a:Qj):Qj⊕Qj:=
 cond (decide (0<(((bv a).length:Nat):Int))) (Sum.inr (sx a (bv a))) (Sum.inr a)
def mq (b:Qj):Qj:=
 Sum.elim id (fun(s101_:Qj)=>Sum.elim id (fun(s:(List Qn)×(List df))=>(mt (⟨s101_.d,(Int.tmod (IntKind.i64.wrap (s101_.j+1)) ((s101_.d.c.length:Nat):Int)),s101_.l,s.1,s.2,s101_.k,(IntKind.i64.wrap (s101_.n+1))⟩:Qj))) (ay (R:=Qj) (fun k (s:(List Qn)×(List df))=>nT s101_ k s.1 s.2) (s101_.a.length-0) 0 ([],s101_.f))) ((cR b))
theorem Po:Cb Tryz.prog 62:=⟨f62,_,func62,rfl,by decide⟩
theorem Ji (B:Nat) (w0:World) (is:List It) (w:World) (p:Nat) (z0:List Value) (F:Qj) (q0:ju 68719476736 F) (hE:fr F) (D:Mem B w0 (Qa p 39 z0::Qh cv z0 F::is) w):
 Calls Tryz.prog 62 #[.pointer (sA p)] w fun e w'=>∃ x:List Value,e= .returned (.tuple #[])∧Mem B w0 (Qa p 39 x::Qh cv x (mq F)::is) w':=by
 refine oq (L:=[(0, .pointer (sA p))]) (N:=100) func62 rfl rfl (Nat.le_of_ble_eq_true rfl) (jr rfl mm) D ?_;refine ey (js:=(Qh cv z0 F::Qa p 39 z0::is)) (fun W D=>(D.front (n:=1) rfl)) ?_;refine ph (γ:=Value×Value×Value×Value×Value) (js:=fun g=>[Qh (ab (ab Qy 163) 100) [g.1] F.d.c,Qh (ab Qb 3) [g.2.1] F.l,Qh (ab Qt 61) [g.2.2.1] F.a,Qh (ab bb 80) [g.2.2.2.1] F.f,Qh (ab ba 102) [g.2.2.2.2] F.k]) (C:=fun g=>z0=[g.1,iV F.d.g,iV F.j,g.2.1,g.2.2.1,g.2.2.2.1,g.2.2.2.2,iV F.n]) (fun _ _ h=>oF h) ?_;rintro⟨_,_,_,_,_⟩ rfl;refine ib (n:=0) rfl ?_;rintro A6 c7 rfl m8;refine ib (n:=1) rfl ?_;rintro W0 g1 rfl T2;refine ib (n:=2) rfl ?_;rintro X0 h1 rfl U2;refine ib (n:=3) rfl ?_;rintro Y0 i1 rfl V2;refine ib (n:=4) rfl ?_;rintro Z0 j1 rfl W2;have:F.d.c.length<=68719476736:=q0.1.1;have:=q0.2.1;have:=q0.2.2.1.1;have:=q0.2.2.2.1.1;have:=q0.2.2.2.2.1;have:=hE.al;have:=hE.cur;have:=((ka _).1 hE.st).1;have:=hE.dl;have:=hE.ll;have:=hE.stp;refine sr (wm ?_);refine wv (fun W D=>ik rfl) ?_;let K1:List Value:=[.slice A6 F.d.c.length c7,iV F.d.g,iV F.j, .slice W0 F.l.length g1, .slice X0 F.a.length h1, .slice Y0 F.f.length i1, .slice Z0 F.k.length j1,iV F.n];refine wv (fun W D=>Qv (cs:=K1) Qs ai rfl rfl (D.boxCells (n:=5) rfl)) ?_;refine lg (ab Qb 3) (bv F) (Qp Pb rfl) (fun W D=>Iv W _ F (gm (x:=F) (D.rdSI (n:=0) rfl) (D.rdSI (n:=1) rfl) (D.rdSI (n:=2) rfl) (D.rdSI (n:=3) rfl) (D.rdSI (n:=4) rfl)) q0) (fun _=>?_);have:=bB hE;refine fm 0 ?_;rintro a1 k1 rfl X2;refine wa (aa (Qk (sr (wm ?_))));refine wv (bc Qq) ?_;refine wv (fun W D=>ij rfl rfl) ?_;refine aa ?_;refine pb (σ:=Qj×(Option Addr×Nat×Option Addr×Nat×Option Addr×Nat×Option Addr×Nat×Option Addr×Nat)) (fun s=>[(0,bp p)]) (fun s=>(iS (ab Qy 163) 100 s.2.1 s.2.2.1 s.1.d.c::iS Qb 3 s.2.2.2.1 s.2.2.2.2.1 s.1.l::iS Qt 61 s.2.2.2.2.2.1 s.2.2.2.2.2.2.1 s.1.a::iS bb 80 s.2.2.2.2.2.2.2.1 s.2.2.2.2.2.2.2.2.1 s.1.f::iS ba 102 s.2.2.2.2.2.2.2.2.2.1 s.2.2.2.2.2.2.2.2.2.2 s.1.k::Qa p 39 [.slice s.2.1 s.1.d.c.length s.2.2.1,iV s.1.d.g,iV s.1.j, .slice s.2.2.2.1 s.1.l.length s.2.2.2.2.1, .slice s.2.2.2.2.2.1 s.1.a.length s.2.2.2.2.2.2.1, .slice s.2.2.2.2.2.2.2.1 s.1.f.length s.2.2.2.2.2.2.2.2.1, .slice s.2.2.2.2.2.2.2.2.2.1 s.1.k.length s.2.2.2.2.2.2.2.2.2.2,iV s.1.n]::is)) (fun s=>(cR F)=Sum.inr s.1∧s.1.d=F.d∧s.1.d.c.length=F.d.c.length∧s.1.a.length=F.a.length∧s.1.f.length=F.f.length) ?_ ?_
 ·rcases eg (0<(((bv F).length:Nat):Int)) with⟨X1,y0⟩|⟨X1,y0⟩
  ·refine Qr rfl y0 ?_;refine ak (wm (wm ?_));let w1:List It:=iS Qb 3 a1 k1 (bv F)::Qa p 39 K1::is;refine kh (js:=(Qh cv K1 F::w1)) (fun W D=>Mem.join (is:=[iS (ab Qy 163) 100 A6 c7 F.d.c,iS Qb 3 W0 g1 F.l,iS Qt 61 X0 h1 F.a,iS bb 80 Y0 i1 F.f,iS ba 102 Z0 j1 F.k]) (js:=w1) (fun _ _ hs=>gl (x:=F) hs) (D.pickN 7 [1,2,3,4,5,0,6] (by decide))) ?_;refine dt (χ:=List Value) (val:=fun x=> .tuple #[]) (js:=fun x=>(Qa p 39 x::Qh cv x (sx F (bv F))::iS Qb 3 a1 k1 (bv F)::(is))) (Qp yP rfl) (fun W D=>Jh B w0 (is) W p _ F _ (bv F) q0 (show _<=68719476736 from by omega) (hE) (rfl) (((D.front (n:=1) rfl).front (n:=1) rfl).front (n:=2) rfl)) (Qe rfl) (by decide) (fun J1=>?_);have B0:=wX hE;have D0:=wV hE;have E0:=wQ hE;have F0:=wS hE;obtain⟨r0,k0⟩:∃ G,G=(sx F (bv F)):=⟨_,rfl⟩;rw[<- k0];rw[<- k0] at B0;rw[<- k0] at D0;rw[<- k0] at E0;rw[<- k0] at F0;refine kh (js:=(Qh cv J1 r0::Qa p 39 J1::iS Qb 3 a1 k1 (bv F)::is)) (fun W D=>(D.front (n:=1) rfl)) ?_;refine kl ?_;rintro⟨_,_,_,_,_⟩ rfl;refine fm 0 ?_;rintro M1 R1 rfl Y2;refine fm 1 ?_;rintro N1 S1 rfl Z2;refine fm 2 ?_;rintro O1 T1 rfl a3;refine fm 3 ?_;rintro P1 U1 rfl b3;refine fm 4 ?_;rintro Q1 V1 rfl c3;refine au ?_;exact kg (r0,(M1,R1,N1,S1,O1,T1,P1,U1,Q1,V1)) (ef rfl mu) (pn 7 [0,1,2,3,4,5]) ⟨(show(cR F)=Sum.inr r0 from by subst k0;exact Qd y0 (rfl)),(show r0.d=F.d from by first|rfl|exact B0),(show r0.d.c.length=F.d.c.length from by first|rfl|exact D0),(show r0.a.length=F.a.length from by first|rfl|exact E0),(show r0.f.length=F.f.length from by first|rfl|exact F0)⟩
  refine Qw rfl y0 ?_;refine aj ?_;exact kg (F,(A6,c7,W0,g1,X0,h1,Y0,i1,Z0,j1)) (ef rfl mu) (pn 7 [1,2,3,4,5,6]) ⟨(show(cR F)=Sum.inr F from Qf y0 (rfl)),(show F.d=F.d from by first|rfl|exact B0),(show F.d.c.length=F.d.c.length from by first|rfl|exact D0),(show F.a.length=F.a.length from by first|rfl|exact E0),(show F.f.length=F.f.length from by first|rfl|exact F0)⟩
 rintro⟨b,⟨l0,m0,P,T,u0,t0,b1,l1,Y,a0⟩⟩ q1;dsimp only at q1;obtain⟨E1,B0,D0,E0,F0⟩:=q1;let n0:It:=iS (ab Qy 163) 100 l0 m0 b.d.c;show QM 100 _ _ _ .normal [(0,bp p)] (n0::iS Qb 3 P T b.l::iS Qt 61 u0 t0 b.a::iS bb 80 b1 l1 b.f::iS ba 102 Y a0 b.k::Qa p 39 [.slice l0 b.d.c.length m0,iV b.d.g,iV b.j, .slice P b.l.length T, .slice u0 b.a.length t0, .slice b1 b.f.length l1, .slice Y b.k.length a0,iV b.n]::is);refine uu (n:=0) rfl ?_;intro d3 e3;refine uu (n:=1) rfl ?_;intro g3 h3;refine uu (n:=2) rfl ?_;intro i3 j3;refine uu (n:=3) rfl ?_;intro k3 l3;refine uu (n:=4) rfl ?_;intro m3 n3;refine Qi (sr (wm ?_));refine wv (fun W D=>ik rfl) ?_;refine wv (vf Qs rfl bn) ?_;refine wv (fun W D=>ir (o:=0) bq rfl fh (by decide) rfl rfl) ?_;refine wv (vl 5 0 cm) ?_;refine wv (bc cm) ?_;refine wa (aa (sr ?_));refine eh (E:=Qt) bj bz (Qe rfl) (by decide) (fun b2=>?_);refine wa (aa (Qk (sr (wa (aa (aw ?_))))));refine ey (fun W D=>Mem.toRest (D.front (n:=3) rfl)) ?_;refine dj (S:=(List Qn)×(List df)) (R:=Option Addr×Nat×Option Addr×Nat) (fun k (s:(List Qn)×(List df))=>nT b k s.1 s.2) b.a.length 0 ([],b.f) ((sA b2),0,b1,l1) (fun s=>[(0,bp p),(3,nI b.d.c.length),(4, .slice s.2.2.1 s.2.1.1.length s.2.2.2.1),(5,nI s.1)]) (fun s=>(ou Qt 61 u0 b.a.length b.a s.1::iS Qt 61 s.2.2.1 s.2.2.2.1 s.2.1.1::n0::iS Qb 3 P T b.l::iS bb 80 s.2.2.2.2.1 s.2.2.2.2.2 s.2.1.2::iS ba 102 Y a0 b.k::Qa p 39 [.slice l0 b.d.c.length m0,iV b.d.g,iV b.j, .slice P b.l.length T, .slice u0 b.a.length t0, .slice s.2.2.2.2.1 s.2.1.2.length s.2.2.2.2.2, .slice Y b.k.length a0,iV b.n]::is)) (fun s=>s.2.1.1.length<=0+s.1∧s.2.1.2.length<=b.f.length+s.1) dy ⟨Nat.le_refl _,Nat.le_refl _⟩ ?_;rintro⟨m,⟨H,y⟩,⟨c0,d0,U,V⟩⟩ N0 _ _ e e';dsimp only at N0 ⊢;subst e e';obtain⟨_,j0,_,_⟩:=N0;refine Qk (sr (wm (wm ?_)));refine wv (fun W D=>ik rfl) ?_;refine wv (vf Qs rfl dw) ?_;refine wv (vl 6 4 bj) ?_;refine wv (bc bj) ?_;refine wv cz ?_;refine aa ?_;rcases dp m b.a.length with⟨C0,v0⟩|⟨C0,v0⟩
 ·refine Qr rfl v0 ?_;refine aj (Qi (Qk (aw (sr (wm ?_)))));refine wv (fun W D=>ik rfl) ?_;refine wv (vf Qs rfl dw) ?_;refine wv (vl 6 4 bj) ?_;refine wm ?_;refine mG (n:=0) rfl (by omega) ?_;rintro e0 rfl;refine wv (bx 10 m bj bz) ?_;let K2:List Value:=[.slice l0 b.d.c.length m0,iV b.d.g,iV b.j, .slice P b.l.length T, .slice (sA e0) b.a.length t0, .slice U y.length V, .slice Y b.k.length a0,iV b.n];let d1:List It:=iS ba 102 Y a0 b.k::Qa p 39 K2::is;let e1:List It:=n0::iS Qb 3 P T b.l::iS bb 80 U V y::d1;refine mH (E:=Qt) (e:=61) (A:=(sA e0)) (n:=b.a.length) (xs:=b.a) (k:=m) (js:=(iS Qt 61 c0 d0 H::e1)) (by omega) (fun W D=>(D.front (n:=0) rfl)) (fun _=>?_);refine dA ?_;rintro⟨_,_,_,_⟩ rfl;refine fm 0 ?_;rintro J M rfl c2;refine fm 1 ?_;rintro K O rfl d2;refine fm 2 ?_;rintro g0 h0 rfl e2;refine fm 3 ?_;rintro X Z rfl g2;let K3:List Value:=[iV ((gt b.a m).e.Id),iV ((gt b.a m).e.u), .slice J ((gt b.a m).e.o).length M, .slice K ((gt b.a m).e.q).length O,iV ((gt b.a m).r), .slice g0 ((gt b.a m).t).length h0,iV ((gt b.a m).v),iV ((gt b.a m).A),iV ((gt b.a m).z), .slice X ((gt b.a m).p).length Z];refine wv (fun W D=>Qv (cs:=K3) bu bz rfl rfl (D.restCells (i:=4) rfl rfl)) ?_;refine ca bz rfl (Qe rfl) (by decide) (fun b0=>?_);refine eu (p:=b0) (o:=0) (cs':=K3) (fun w D=>D.front (n:=0) rfl) bz rfl (Nat.le_of_ble_eq_true rfl) rfl rfl rfl rfl (Qe rfl) ?_;refine aa (sr ?_);refine wv (vf bu rfl Qg) ?_;refine wv (vl 0 6 Qu) ?_;refine wv kd ?_;refine wv (vf bu rfl Qg) ?_;let K4:List Value:=[iV ((gt b.a m).e.Id),iV ((gt b.a m).e.u), .slice J ((gt b.a m).e.o).length M, .slice K ((gt b.a m).e.q).length O,iV ((gt b.a m).r), .slice g0 ((gt b.a m).t).length h0,iV (IntKind.i64.wrap (((gt b.a m).v)+1)),iV ((gt b.a m).A),iV ((gt b.a m).z), .slice X ((gt b.a m).p).length Z];refine eu (p:=b0) (o:=6) (cs':=K4) (fun w D=>D.front (n:=0) rfl) Qg rfl (Nat.le_of_ble_eq_true rfl) rfl rfl rfl rfl (Qe rfl) ?_;refine aa (Qk (sr ?_));refine wv (vf bu rfl Qg) ?_;refine wv (vl 0 6 Qu) ?_;refine wm ?_;refine wv (fun W D=>cC rfl rfl (by omega)) ?_;refine wv (fun W D=>er rfl rfl) ?_;refine aa ?_;rcases fl (Int.tmod (IntKind.i64.wrap (((gt b.a m).v)+1)) ((b.d.c.length:Nat):Int)) 0 with⟨B1,i0⟩|⟨B1,i0⟩
  ·refine Qr rfl i0 ?_;refine ak ?_;refine wv (vf bu rfl Qg) ?_;let K5:List Value:=[iV ((gt b.a m).e.Id),iV ((gt b.a m).e.u), .slice J ((gt b.a m).e.o).length M, .slice K ((gt b.a m).e.q).length O,iV ((gt b.a m).r), .slice g0 ((gt b.a m).t).length h0,iV (IntKind.i64.wrap (((gt b.a m).v)+1)),iV 0,iV ((gt b.a m).z), .slice X ((gt b.a m).p).length Z];refine eu (p:=b0) (o:=7) (cs':=K5) (fun w D=>D.front (n:=0) rfl) Qg rfl (Nat.le_of_ble_eq_true rfl) rfl rfl rfl rfl (Qe rfl) ?_;refine aa (sr ?_);refine wv (vf bu rfl cb) ?_;refine wv (vl 0 5 Qq) ?_;refine wv (bc Qq) ?_;refine wv (fun W D=>er rfl rfl) ?_;refine aa ?_;rcases fl ((((gt b.a m).t).length:Nat):Int) 0 with⟨C1,o0⟩|⟨C1,o0⟩
   ·refine Qr rfl o0 ?_;let r1:It:=iS Qb 3 g0 h0 ((gt b.a m).t);let s1:It:=pz Qt 61 (sA e0) b.a.length b.a m K3;let x1:List It:=Qa b0 61 K5::r1::s1::iS Qt 61 c0 d0 H::n0::iS Qb 3 P T b.l::d1;refine iz 19 [18] (s:=(Qa b0 61 K5::r1::s1::iS Qt 61 c0 d0 H::n0::iS Qb 3 P T b.l::iS ba 102 Y a0 b.k::is)) (s2:=x1) (pn 12 [0,3,5,6,7,8,10]) (pn 12 [0,3,5,6,7,8,10,11]) ?_;refine ae 19 0 1 rfl ap ?_;refine ae 19 1 3 rfl ap ?_;refine ae 19 2 7 rfl (fun W D=>ik rfl) ?_;refine ae 19 3 15 rfl (vf Qs rfl jv) ?_;refine ae 19 4 31 rfl (vl 7 5 gh) ?_;refine ae 19 5 63 rfl (vf bu rfl cn) ?_;refine ae 19 6 127 rfl (fun W D=>Qv (cs:=[iV ((gt b.a m).e.Id),iV ((gt b.a m).e.u), .slice J ((gt b.a m).e.o).length M, .slice K ((gt b.a m).e.q).length O]) cr cn rfl rfl (D.boxPart (n:=0) rfl rfl)) ?_;refine ae 19 7 255 rfl (vf bu rfl Qg) ?_;refine ae 19 8 511 rfl (vl 0 4 Qu) ?_;refine ae 19 9 1023 rfl (vf bu rfl Qg) ?_;refine ae 19 10 2047 rfl (vl 0 6 Qu) ?_;refine ae 19 11 4095 rfl (vf bu rfl kp) ?_;refine ae 19 12 8191 rfl (vl 0 9 fk) ?_;let K6:List Value:=[iV ((gt b.a m).e.Id),iV ((gt b.a m).e.u), .slice J ((gt b.a m).e.o).length M, .slice K ((gt b.a m).e.q).length O,iV ((gt b.a m).r),iV (IntKind.i64.wrap (((gt b.a m).v)+1)), .slice X ((gt b.a m).p).length Z];refine ae 19 13 16383 rfl (fun W D=>ew (cs:=K6) rfl (by kernel_rfl)) ?_;refine be 19 14 32767 rfl ?_;refine di (cs:=K6) gh gg rfl (by decide) (by decide) rfl (by kernel_rfl) (Qe rfl) (by decide) (fun F1=>?_);refine av (pn 13 [1,4,6,7,8,9,11]) (pn 13 [1,4,6,7,8,9,11,12]) ?_;refine be 19 15 65535 rfl ?_;refine bD (E:=bb) (e:=80) (v:= .slice U y.length V) (p:=F1) (q:=1) (xs:=y) (ys:=[(⟨(gt b.a m).e,(gt b.a m).r,(IntKind.i64.wrap (((gt b.a m).v)+1)),(gt b.a m).p⟩:df)]) (eis:=[iS cg 180 J M ((gt b.a m).e.o),iS Qb 3 K O ((gt b.a m).e.q),iS bo 70 X Z ((gt b.a m).p)]) (js:=x1) (news:=K6) (pn 13 [0,10,2,3,5,1,4,6,7,8,9,11,12]) (fun _ _ hs=>Els.single (tu (x:=(⟨(gt b.a m).e,(gt b.a m).r,(IntKind.i64.wrap (((gt b.a m).v)+1)),(gt b.a m).p⟩:df)) hs)) gh gg rfl rfl rfl (Nat.le_of_ble_eq_true rfl) rfl rfl rfl (show(y.length+1)*104<=140737488355328 from by omega) (show y.length+1<=9223372036854775807 from by omega) (Qe rfl) (by decide) (fun _=>?_);refine fm 0 ?_;rintro G0 O0 rfl h2;refine av (pn 9 [1,2,3,4,5,6,7]) (pn 9 [1,2,3,4,5,6,7,8]) ?_;refine sc 19 16 131071 rfl (fun W=>ik rfl) ?_;refine ae 19 17 262143 rfl (vf Qs rfl jv) ?_;refine be 19 18 524287 rfl ?_;refine eu (p:=p) (o:=5) (cs':=[.slice l0 b.d.c.length m0,iV b.d.g,iV b.j, .slice P b.l.length T, .slice (sA e0) b.a.length t0, .slice G0 (y++[(⟨(gt b.a m).e,(gt b.a m).r,(IntKind.i64.wrap (((gt b.a m).v)+1)),(gt b.a m).p⟩:df)]).length O0, .slice Y b.k.length a0,iV b.n]) (fun w D=>D.front (n:=8) rfl) jv rfl (Nat.le_of_ble_eq_true rfl) rfl rfl rfl rfl (Qe rfl) ?_;refine iy (pn 9 [2,3,4,5,6,7,8]) ?_;refine fz (by kernel_rfl) ?_;refine bi (Qi (ak (wm ?_)));refine wv (bs m 1 (by omega)) ?_;refine wa (au ?_);refine cc (fun W D=>Mem.restNext (D.front (n:=4) rfl)) ?_;exact br (m+1,(H,(y++[(⟨(gt b.a m).e,(gt b.a m).r,(IntKind.i64.wrap (((gt b.a m).v)+1)),(gt b.a m).p⟩:df)])),(c0,d0,G0,O0)) dy (pn 9 [0,5,6,7,2,8,1]) ⟨(by omega),nx j0 (Qd i0 (Qd o0 (rfl))),(show H.length<=0+(m+1) from by first|omega|(simp only[List.length_append,List.length_cons,List.length_nil] at *;omega)),(show(y++[(⟨(gt b.a m).e,(gt b.a m).r,(IntKind.i64.wrap (((gt b.a m).v)+1)),(gt b.a m).p⟩:df)]).length<=b.f.length+(m+1) from by first|omega|(simp only[List.length_append,List.length_cons,List.length_nil] at *;omega))⟩ rl
   refine Qw rfl o0 ?_;refine ak (wm ?_);refine wv (fun W D=>Qv (cs:=K5) bu bz rfl rfl (D.boxCells (n:=0) rfl)) ?_;refine di (cs:=K5) bj bz rfl (by decide) (by decide) rfl (by kernel_rfl) (Qe rfl) (by decide) (fun G1=>?_);refine bD (E:=Qt) (e:=61) (v:= .slice c0 H.length d0) (p:=G1) (q:=1) (xs:=H) (ys:=[(⟨(gt b.a m).e,(gt b.a m).r,(gt b.a m).t,(IntKind.i64.wrap (((gt b.a m).v)+1)),0,(gt b.a m).z,(gt b.a m).p⟩:Qn)]) (eis:=[iS cg 180 J M ((gt b.a m).e.o),iS Qb 3 K O ((gt b.a m).e.q),iS Qb 3 g0 h0 ((gt b.a m).t),iS bo 70 X Z ((gt b.a m).p)]) (js:=(Qa b0 61 K5::pz Qt 61 (sA e0) b.a.length b.a m K3::e1)) (news:=K5) (pn 13 [0,7,2,3,4,5,1,6,8,9,10,11,12]) (fun _ _ hs=>Els.single (mv (x:=(⟨(gt b.a m).e,(gt b.a m).r,(gt b.a m).t,(IntKind.i64.wrap (((gt b.a m).v)+1)),0,(gt b.a m).z,(gt b.a m).p⟩:Qn)) hs)) bj bz rfl rfl rfl (Nat.le_of_ble_eq_true rfl) rfl rfl rfl (show(H.length+1)*144<=140737488355328 from by omega) (show H.length+1<=9223372036854775807 from by omega) (Qe rfl) (by decide) (fun _=>?_);refine fm 0 ?_;rintro o1 z1 rfl i2;refine wa (au (bi (Qi (ak (wm ?_)))));refine wv (bs m 1 (by omega)) ?_;refine wa (au ?_);refine cc (fun W D=>Mem.restNext (D.front (n:=2) rfl)) ?_;exact br (m+1,((sF b m H),y),(o1,z1,U,V)) dy (pn 8 [0,1,3,4,5,6,7]) ⟨(by omega),nx j0 (Qd i0 (Qf o0 (rfl))),(show(sF b m H).length<=0+(m+1) from by first|omega|(simp only[List.length_append,List.length_cons,List.length_nil] at *;omega)),(show y.length<=b.f.length+(m+1) from by first|omega|(simp only[List.length_append,List.length_cons,List.length_nil] at *;omega))⟩ rl
  refine Qw rfl i0 ?_;refine aj (Qi (sr ?_));refine wv (vf bu rfl cb) ?_;refine wv (vl 0 5 Qq) ?_;refine wv (bc Qq) ?_;refine wv (fun W D=>er rfl rfl) ?_;refine aa ?_;rcases fl ((((gt b.a m).t).length:Nat):Int) 0 with⟨D1,p0⟩|⟨D1,p0⟩
  ·refine Qr rfl p0 ?_;let t1:It:=iS Qb 3 g0 h0 ((gt b.a m).t);let u1:It:=pz Qt 61 (sA e0) b.a.length b.a m K3;let y1:List It:=Qa b0 61 K4::t1::u1::iS Qt 61 c0 d0 H::n0::iS Qb 3 P T b.l::d1;refine iz 19 [18] (s:=(Qa b0 61 K4::t1::u1::iS Qt 61 c0 d0 H::n0::iS Qb 3 P T b.l::iS ba 102 Y a0 b.k::is)) (s2:=y1) (pn 12 [0,3,5,6,7,8,10]) (pn 12 [0,3,5,6,7,8,10,11]) ?_;refine ae 19 0 1 rfl ap ?_;refine ae 19 1 3 rfl ap ?_;refine ae 19 2 7 rfl (fun W D=>ik rfl) ?_;refine ae 19 3 15 rfl (vf Qs rfl jv) ?_;refine ae 19 4 31 rfl (vl 7 5 gh) ?_;refine ae 19 5 63 rfl (vf bu rfl cn) ?_;refine ae 19 6 127 rfl (fun W D=>Qv (cs:=[iV ((gt b.a m).e.Id),iV ((gt b.a m).e.u), .slice J ((gt b.a m).e.o).length M, .slice K ((gt b.a m).e.q).length O]) cr cn rfl rfl (D.boxPart (n:=0) rfl rfl)) ?_;refine ae 19 7 255 rfl (vf bu rfl Qg) ?_;refine ae 19 8 511 rfl (vl 0 4 Qu) ?_;refine ae 19 9 1023 rfl (vf bu rfl Qg) ?_;refine ae 19 10 2047 rfl (vl 0 6 Qu) ?_;refine ae 19 11 4095 rfl (vf bu rfl kp) ?_;refine ae 19 12 8191 rfl (vl 0 9 fk) ?_;let K7:List Value:=[iV ((gt b.a m).e.Id),iV ((gt b.a m).e.u), .slice J ((gt b.a m).e.o).length M, .slice K ((gt b.a m).e.q).length O,iV ((gt b.a m).r),iV (IntKind.i64.wrap (((gt b.a m).v)+1)), .slice X ((gt b.a m).p).length Z];refine ae 19 13 16383 rfl (fun W D=>ew (cs:=K7) rfl (by kernel_rfl)) ?_;refine be 19 14 32767 rfl ?_;refine di (cs:=K7) gh gg rfl (by decide) (by decide) rfl (by kernel_rfl) (Qe rfl) (by decide) (fun H1=>?_);refine av (pn 13 [1,4,6,7,8,9,11]) (pn 13 [1,4,6,7,8,9,11,12]) ?_;refine be 19 15 65535 rfl ?_;refine bD (E:=bb) (e:=80) (v:= .slice U y.length V) (p:=H1) (q:=1) (xs:=y) (ys:=[(⟨(gt b.a m).e,(gt b.a m).r,(IntKind.i64.wrap (((gt b.a m).v)+1)),(gt b.a m).p⟩:df)]) (eis:=[iS cg 180 J M ((gt b.a m).e.o),iS Qb 3 K O ((gt b.a m).e.q),iS bo 70 X Z ((gt b.a m).p)]) (js:=y1) (news:=K7) (pn 13 [0,10,2,3,5,1,4,6,7,8,9,11,12]) (fun _ _ hs=>Els.single (tu (x:=(⟨(gt b.a m).e,(gt b.a m).r,(IntKind.i64.wrap (((gt b.a m).v)+1)),(gt b.a m).p⟩:df)) hs)) gh gg rfl rfl rfl (Nat.le_of_ble_eq_true rfl) rfl rfl rfl (show(y.length+1)*104<=140737488355328 from by omega) (show y.length+1<=9223372036854775807 from by omega) (Qe rfl) (by decide) (fun _=>?_);refine fm 0 ?_;rintro H0 P0 rfl j2;refine av (pn 9 [1,2,3,4,5,6,7]) (pn 9 [1,2,3,4,5,6,7,8]) ?_;refine sc 19 16 131071 rfl (fun W=>ik rfl) ?_;refine ae 19 17 262143 rfl (vf Qs rfl jv) ?_;refine be 19 18 524287 rfl ?_;refine eu (p:=p) (o:=5) (cs':=[.slice l0 b.d.c.length m0,iV b.d.g,iV b.j, .slice P b.l.length T, .slice (sA e0) b.a.length t0, .slice H0 (y++[(⟨(gt b.a m).e,(gt b.a m).r,(IntKind.i64.wrap (((gt b.a m).v)+1)),(gt b.a m).p⟩:df)]).length P0, .slice Y b.k.length a0,iV b.n]) (fun w D=>D.front (n:=8) rfl) jv rfl (Nat.le_of_ble_eq_true rfl) rfl rfl rfl rfl (Qe rfl) ?_;refine iy (pn 9 [2,3,4,5,6,7,8]) ?_;refine fz (by kernel_rfl) ?_;refine bi (Qi (ak (wm ?_)));refine wv (bs m 1 (by omega)) ?_;refine wa (au ?_);refine cc (fun W D=>Mem.restNext (D.front (n:=4) rfl)) ?_;exact br (m+1,(H,(y++[(⟨(gt b.a m).e,(gt b.a m).r,(IntKind.i64.wrap (((gt b.a m).v)+1)),(gt b.a m).p⟩:df)])),(c0,d0,H0,P0)) dy (pn 9 [0,5,6,7,2,8,1]) ⟨(by omega),nx j0 (Qf i0 (Qd p0 (rfl))),(show H.length<=0+(m+1) from by first|omega|(simp only[List.length_append,List.length_cons,List.length_nil] at *;omega)),(show(y++[(⟨(gt b.a m).e,(gt b.a m).r,(IntKind.i64.wrap (((gt b.a m).v)+1)),(gt b.a m).p⟩:df)]).length<=b.f.length+(m+1) from by first|omega|(simp only[List.length_append,List.length_cons,List.length_nil] at *;omega))⟩ rl
  refine Qw rfl p0 ?_;refine ak (wm ?_);refine wv (fun W D=>Qv (cs:=K4) bu bz rfl rfl (D.boxCells (n:=0) rfl)) ?_;refine di (cs:=K4) bj bz rfl (by decide) (by decide) rfl (by kernel_rfl) (Qe rfl) (by decide) (fun I1=>?_);refine bD (E:=Qt) (e:=61) (v:= .slice c0 H.length d0) (p:=I1) (q:=1) (xs:=H) (ys:=[(⟨(gt b.a m).e,(gt b.a m).r,(gt b.a m).t,(IntKind.i64.wrap (((gt b.a m).v)+1)),(gt b.a m).A,(gt b.a m).z,(gt b.a m).p⟩:Qn)]) (eis:=[iS cg 180 J M ((gt b.a m).e.o),iS Qb 3 K O ((gt b.a m).e.q),iS Qb 3 g0 h0 ((gt b.a m).t),iS bo 70 X Z ((gt b.a m).p)]) (js:=(Qa b0 61 K4::pz Qt 61 (sA e0) b.a.length b.a m K3::e1)) (news:=K4) (pn 13 [0,7,2,3,4,5,1,6,8,9,10,11,12]) (fun _ _ hs=>Els.single (mv (x:=(⟨(gt b.a m).e,(gt b.a m).r,(gt b.a m).t,(IntKind.i64.wrap (((gt b.a m).v)+1)),(gt b.a m).A,(gt b.a m).z,(gt b.a m).p⟩:Qn)) hs)) bj bz rfl rfl rfl (Nat.le_of_ble_eq_true rfl) rfl rfl rfl (show(H.length+1)*144<=140737488355328 from by omega) (show H.length+1<=9223372036854775807 from by omega) (Qe rfl) (by decide) (fun _=>?_);refine fm 0 ?_;rintro p1 A1 rfl l2;refine wa (au (bi (Qi (ak (wm ?_)))));refine wv (bs m 1 (by omega)) ?_;refine wa (au ?_);refine cc (fun W D=>Mem.restNext (D.front (n:=2) rfl)) ?_;exact br (m+1,((sG b m H),y),(p1,A1,U,V)) dy (pn 8 [0,1,3,4,5,6,7]) ⟨(by omega),nx j0 (Qf i0 (Qf p0 (rfl))),(show(sG b m H).length<=0+(m+1) from by first|omega|(simp only[List.length_append,List.length_cons,List.length_nil] at *;omega)),(show y.length<=b.f.length+(m+1) from by first|omega|(simp only[List.length_append,List.length_cons,List.length_nil] at *;omega))⟩ rl
 refine Qw rfl v0 ?_;refine co (ao (ao ?_));have m1:=dk C0 j0;refine cp (Qi (sr (wm (wm ?_))));refine wv (fun W D=>ik rfl) ?_;refine wv (vf Qs rfl dw) ?_;refine eu (p:=p) (o:=4) (cs':=[.slice l0 b.d.c.length m0,iV b.d.g,iV b.j, .slice P b.l.length T, .slice c0 H.length d0, .slice U y.length V, .slice Y b.k.length a0,iV b.n]) (fun w D=>D.front (n:=6) rfl) dw rfl (Nat.le_of_ble_eq_true rfl) rfl rfl rfl rfl (Qe rfl) ?_;refine aa (sr (wm (wm ?_)));refine wv (fun W D=>ik rfl) ?_;refine wv (vf Qs rfl Qg) ?_;refine wv (vl 0 2 Qu) ?_;refine wv kd ?_;refine wm ?_;refine wv (fun W D=>cC rfl rfl (by omega)) ?_;refine wv (fun W D=>ik rfl) ?_;refine wv (vf Qs rfl Qg) ?_;refine eu (p:=p) (o:=2) (cs':=[.slice l0 b.d.c.length m0,iV b.d.g,iV (Int.tmod (IntKind.i64.wrap (b.j+1)) ((b.d.c.length:Nat):Int)), .slice P b.l.length T, .slice c0 H.length d0, .slice U y.length V, .slice Y b.k.length a0,iV b.n]) (fun w D=>D.front (n:=0) rfl) Qg rfl (Nat.le_of_ble_eq_true rfl) rfl rfl rfl rfl (Qe rfl) ?_;refine aa (sr (wm (wm ?_)));refine wv (fun W D=>ik rfl) ?_;refine wv (vf Qs rfl Qg) ?_;refine wv (vl 0 7 Qu) ?_;refine wv kd ?_;refine wv (fun W D=>ik rfl) ?_;refine wv (vf Qs rfl Qg) ?_;let K8:List Value:=[.slice l0 b.d.c.length m0,iV b.d.g,iV (Int.tmod (IntKind.i64.wrap (b.j+1)) ((b.d.c.length:Nat):Int)), .slice P b.l.length T, .slice c0 H.length d0, .slice U y.length V, .slice Y b.k.length a0,iV (IntKind.i64.wrap (b.n+1))];refine eu (p:=p) (o:=7) (cs':=K8) (fun w D=>D.front (n:=0) rfl) Qg rfl (Nat.le_of_ble_eq_true rfl) rfl rfl rfl rfl (Qe rfl) ?_;refine aa (ak (wm ?_));let s0:It:=ou Qt 61 u0 b.a.length b.a m;refine kh (js:=(Qh cv K8 (⟨b.d,(Int.tmod (IntKind.i64.wrap (b.j+1)) ((b.d.c.length:Nat):Int)),b.l,H,y,b.k,(IntKind.i64.wrap (b.n+1))⟩:Qj)::(Qa p 39 K8::s0::is))) (fun W D=>Mem.join (is:=[n0,iS Qb 3 P T b.l,iS Qt 61 c0 d0 H,iS bb 80 U V y,iS ba 102 Y a0 b.k]) (js:=(Qa p 39 K8::s0::is)) (fun _ _ hs=>gl (x:=(⟨b.d,(Int.tmod (IntKind.i64.wrap (b.j+1)) ((b.d.c.length:Nat):Int)),b.l,H,y,b.k,(IntKind.i64.wrap (b.n+1))⟩:Qj)) hs) (D.pickN 7 [3,4,2,5,6,0,1] (by decide))) ?_;refine dt (χ:=List Value) (val:=fun x=> .tuple #[]) (js:=fun x=>(Qa p 39 x::Qh cv x (mt (⟨b.d,(Int.tmod (IntKind.i64.wrap (b.j+1)) ((b.d.c.length:Nat):Int)),b.l,H,y,b.k,(IntKind.i64.wrap (b.n+1))⟩:Qj))::(s0::is))) (Qp Np rfl) (fun W D=>zc B w0 (s0::is) W p _ (⟨b.d,(Int.tmod (IntKind.i64.wrap (b.j+1)) ((b.d.c.length:Nat):Int)),b.l,H,y,b.k,(IntKind.i64.wrap (b.n+1))⟩:Qj) ⟨(by rw[B0];exact q0.1),(show H.length<=68719476736 from by omega)⟩ ((D.front (n:=0) rfl).front (n:=1) rfl)) (Qe rfl) (by decide) (fun V0=>?_);obtain⟨I,A0⟩:∃ G,G=(mt (⟨b.d,(Int.tmod (IntKind.i64.wrap (b.j+1)) ((b.d.c.length:Nat):Int)),b.l,H,y,b.k,(IntKind.i64.wrap (b.n+1))⟩:Qj)):=⟨_,rfl⟩;rw[<- A0];refine kh (js:=(Qh cv V0 I::Qa p 39 V0::s0::is)) (fun W D=>(D.front (n:=1) rfl)) ?_;refine kl ?_;rintro⟨_,_,_,_,_⟩ rfl;refine fm 0 ?_;rintro I0 Q0 rfl m2;refine fm 1 ?_;rintro J0 R0 rfl n2;refine fm 2 ?_;rintro K0 S0 rfl o2;refine fm 3 ?_;rintro L0 T0 rfl p2;refine fm 4 ?_;rintro M0 U0 rfl q2;refine au ?_;let K9:List Value:=[.slice I0 I.d.c.length Q0,iV I.d.g,iV I.j, .slice J0 I.l.length R0, .slice K0 I.a.length S0, .slice L0 I.f.length T0, .slice M0 I.k.length U0,iV I.n];refine cc (js:=(Qh cv K9 I::(Qa p 39 K9::s0::is))) (fun W D=>Mem.join (is:=[iS (ab Qy 163) 100 I0 Q0 I.d.c,iS Qb 3 J0 R0 I.l,iS Qt 61 K0 S0 I.a,iS bb 80 L0 T0 I.f,iS ba 102 M0 U0 I.k]) (js:=(Qa p 39 K9::s0::is)) (fun _ _ hs=>gl (x:=I) hs) (D.pickN 7 [0,1,2,3,4,5,6] (by decide))) ?_;have n1:=(show mq F=I from by subst A0;exact bt E1 (bt m1 (rfl)));refine Mu rfl (fun W D=>⟨K9,?_,?_⟩)
 ·rfl
 rw[n1];exact(((D.front (n:=0) rfl).front (n:=1) rfl).front (n:=2) rfl).tail
def gp (b:Qj):(Qj×Bool):=
 cond (iu b) (cond (decide (100000<=b.n)) (b,false) (cond (decide (1000<=((b.k.length:Nat):Int))) (b,false) (cond (decide (1000<((b.f.length+b.a.length:Nat):Int))) (b,false) ((mq b),true)))) (b,false)
theorem oJ:Cb Tryz.prog 10:=⟨f10,_,func10,rfl,by decide⟩
theorem kP (w:World) (z0:List Value) (b:Qj) (B0:cv.rd w w.heap.size z0 b) (C:ju 68719476736 b):
 Calls Tryz.prog 10 #[.agg z0.toArray] w fun e w'=>∃ v:List Value,e= .returned (.tuple #[.agg v.toArray, .bool ((gp b).2)])∧Mem w.heap.size w [Qh cv v (gp b).1] w':=by
 obtain⟨_,_,_,_,_,rfl,r2,r4,r6,r8,A0⟩:=mg B0;obtain⟨_,V,g0,rfl,_,o0⟩:=Ql r2;obtain⟨_,X,h0,rfl,_,p0⟩:=Ql r4;obtain⟨_,Y,i0,rfl,_,q0⟩:=Ql r6;obtain⟨_,Z,j0,rfl,_,r0⟩:=Ql r8;obtain⟨_,a0,k0,rfl,_,s0⟩:=Ql A0;have:b.d.c.length<=68719476736:=C.1.1;have:=C.2.1;have:=C.2.2.1.1;have:=C.2.2.2.1.1;have:=C.2.2.2.2.1;refine fp (L:=[(0, .agg #[.slice V b.d.c.length g0,iV b.d.g,iV b.j, .slice X b.l.length h0, .slice Y b.a.length i0, .slice Z b.f.length j0, .slice a0 b.k.length k0,iV b.n])]) (N:=34) func10 ?_;refine sr ?_;refine dq rfl (Qe rfl) (by decide) (fun E=>?_);refine ca ai rfl (Qe rfl) (by decide) (fun y0=>?_);refine wa (aa (sr ?_));let K1:List Value:=[.slice V b.d.c.length g0,iV b.d.g,iV b.j, .slice X b.l.length h0, .slice Y b.a.length i0, .slice Z b.f.length j0, .slice a0 b.k.length k0,iV b.n];refine wv (fun W h=>Qv (cs:=K1) Qs ai rfl rfl (h.boxCells (n:=1) rfl)) ?_;refine io cv b (Qp bF rfl) (fun W h=>cU W _ b (gm (x:=b) (h.rdS0 o0) (h.rdS0 p0) (h.rdS0 q0) (h.rdS0 r0) (h.rdS0 s0)) C) (fun _=>?_);refine kl ?_;rintro⟨_,_,_,_,_⟩ rfl;refine fm 0 ?_;rintro b0 l0 rfl O0;refine fm 1 ?_;rintro p u rfl P0;refine fm 2 ?_;rintro r y rfl Q0;refine fm 3 ?_;rintro s z rfl R0;refine fm 4 ?_;rintro t A rfl S0;refine ca ai rfl (Qe rfl) (by decide) (fun B=>?_);let K2:List Value:=[.slice b0 b.d.c.length l0,iV b.d.g,iV b.j, .slice p b.l.length u, .slice r b.a.length y, .slice s b.f.length z, .slice t b.k.length A,iV b.n];let K3:List Value:=[.slice none 0 0,iV 0,iV 0, .slice none 0 0, .slice none 0 0, .slice none 0 0, .slice none 0 0,iV 0];let J:It:=iS (ab Qy 163) 100 b0 l0 b.d.c;let D:List It:=[Qa y0 39 K3,Qa E 39 K1];refine sb 0 K2 (J::iS Qb 3 p u b.l::iS Qt 61 r y b.a::iS bb 80 s z b.f::iS ba 102 t A b.k::D) ag ai ?_;refine aa (Qk (sr ?_));refine wv (fun W h=>Qv (cs:=K1) Qs ai rfl rfl (h.boxCells (n:=7) rfl)) ?_;refine eo (Qp uc rfl) (fun W h=>uh W _ b (gm (x:=b) (h.rdS0 o0) (h.rdS0 p0) (h.rdS0 q0) (h.rdS0 r0) (h.rdS0 s0)) C) ?_;refine wv dc ?_;refine wm ?_;rcases bd (iu b) with i|i
 ·have hE:=(nu _).1 i;refine wg (vf Qs rfl Qg) (nt i) ?_;refine wg (vl 7 7 Qu) (nt i) ?_;refine wg (fun W h=>ow rfl rfl) (nt i) ?_;refine wv (an (nt i)) ?_;refine wm ?_;rcases eg (100000<=b.n) with⟨u0,o⟩|⟨u0,o⟩
  ·iterate 15 first|refine ws o ?_|refine wv (aq o) ?_|refine wm ?_|refine wk ?_|refine wv (aq rfl) ?_
   refine aa ?_;refine Qr rfl rfl ?_;refine sr ?_;refine wv (fun W h=>Qv (cs:=K2) Qs ai rfl rfl (h.boxCells (n:=0) rfl)) ?_;refine sb 0 K2 [Qa B 39 K2,J,iS Qb 3 p u b.l,iS Qt 61 r y b.a,iS bb 80 s z b.f,iS ba 102 t A b.k,Qa E 39 K1] (pk [6,0,1,2,3,4,5,7]) ai ?_;refine wa (aa (Qm (Qo ?_)));have P:=(show gp b=(b,false) from Qd i (Qd o (rfl)));refine gb rfl (dg (n:=0) rfl rfl Qs ai rfl) (dm rfl) (fun W h=>⟨K2,?_,?_⟩)
   ·first|rw[P]|rfl
    try rfl
   rw[P];exact Mem.join (is:=[J,iS Qb 3 p u b.l,iS Qt 61 r y b.a,iS bb 80 s z b.f,iS ba 102 t A b.k]) (js:=[]) (fun _ _ I=>gl (x:=b) I) (h.pick [2,3,4,5,6] (by decide))
  refine wg (vf Qs rfl lv) o ?_;refine wg (vl 7 6 ie) o ?_;refine wg (bc ie) o ?_;refine wg (fun W h=>ow rfl rfl) o ?_;refine wv (an o) ?_;refine wm ?_;rcases eg (1000<=((b.k.length:Nat):Int)) with⟨v0,m⟩|⟨v0,m⟩
  ·iterate 9 first|refine ws m ?_|refine wv (aq m) ?_
   refine aa ?_;refine Qr rfl rfl ?_;refine sr ?_;refine wv (fun W h=>Qv (cs:=K2) Qs ai rfl rfl (h.boxCells (n:=0) rfl)) ?_;refine sb 0 K2 [Qa B 39 K2,J,iS Qb 3 p u b.l,iS Qt 61 r y b.a,iS bb 80 s z b.f,iS ba 102 t A b.k,Qa E 39 K1] (pk [6,0,1,2,3,4,5,7]) ai ?_;refine wa (aa (Qm (Qo ?_)));have R:=(show gp b=(b,false) from Qd i (Qf o (Qd m (rfl))));refine gb rfl (dg (n:=0) rfl rfl Qs ai rfl) (dm rfl) (fun W h=>⟨K2,?_,?_⟩)
   ·first|rw[R]|rfl
    try rfl
   rw[R];exact Mem.join (is:=[J,iS Qb 3 p u b.l,iS Qt 61 r y b.a,iS bb 80 s z b.f,iS ba 102 t A b.k]) (js:=[]) (fun _ _ I=>gl (x:=b) I) (h.pick [2,3,4,5,6] (by decide))
  refine wg (vf Qs rfl jv) m ?_;refine wg (vl 7 5 gh) m ?_;refine wg (bc gh) m ?_;refine wg (vf Qs rfl dw) m ?_;refine wg (vl 7 4 bj) m ?_;refine wg (bc bj) m ?_;refine wg (bs b.f.length b.a.length (by omega)) m ?_;refine wg (fun W h=>ij rfl rfl) m ?_;refine wv (an m) ?_;refine aa ?_;rcases eg (1000<((b.f.length+b.a.length:Nat):Int)) with⟨w0,F⟩|⟨w0,F⟩
  ·refine Qr rfl F ?_;refine sr ?_;refine wv (fun W h=>Qv (cs:=K2) Qs ai rfl rfl (h.boxCells (n:=0) rfl)) ?_;refine sb 0 K2 [Qa B 39 K2,J,iS Qb 3 p u b.l,iS Qt 61 r y b.a,iS bb 80 s z b.f,iS ba 102 t A b.k,Qa E 39 K1] (pk [6,0,1,2,3,4,5,7]) ai ?_;refine wa (aa (Qm (Qo ?_)));have S:=(show gp b=(b,false) from Qd i (Qf o (Qf m (Qd F (rfl)))));refine gb rfl (dg (n:=0) rfl rfl Qs ai rfl) (dm rfl) (fun W h=>⟨K2,?_,?_⟩)
   ·first|rw[S]|rfl
    try rfl
   rw[S];exact Mem.join (is:=[J,iS Qb 3 p u b.l,iS Qt 61 r y b.a,iS bb 80 s z b.f,iS ba 102 t A b.k]) (js:=[]) (fun _ _ I=>gl (x:=b) I) (h.pick [2,3,4,5,6] (by decide))
  refine Qw rfl F ?_;refine aj (Qi (sr ?_));refine kh (js:=(Qh cv K2 b::(Qa B 39 K2::D))) (fun W h=>Mem.join (is:=[J,iS Qb 3 p u b.l,iS Qt 61 r y b.a,iS bb 80 s z b.f,iS ba 102 t A b.k]) (js:=(Qa B 39 K2::D)) (fun _ _ I=>gl (x:=b) I) (h.pick [1,2,3,4,5,0,6,7] (by decide))) ?_;refine dt (χ:=List Value) (val:=fun x=> .tuple #[]) (js:=fun x=>(Qa B 39 x::Qh cv x (mq b)::D)) (Qp Po rfl) (fun W h=>Ji w.heap.size w D W B _ b C (hE) (h.pick [1,0,2,3] (by decide))) (Qe rfl) (by decide) (fun t0=>?_);refine kh (js:=(Qh cv t0 (mq b)::Qa B 39 t0::D)) (pk [1,0,2,3]) ?_;refine kl ?_;rintro⟨_,_,_,_,_⟩ rfl;refine fm 0 ?_;rintro c0 m0 rfl T0;refine fm 1 ?_;rintro T U rfl U0;refine fm 2 ?_;rintro d0 n0 rfl V0;refine fm 3 ?_;rintro e0 M rfl C0;refine fm 4 ?_;rintro K O rfl D0;refine aa (sr ?_);let K4:List Value:=[.slice c0 ((mq b).d.c).length m0,iV ((mq b).d.g),iV ((mq b).j), .slice T ((mq b).l).length U, .slice d0 ((mq b).a).length n0, .slice e0 ((mq b).f).length M, .slice K ((mq b).k).length O,iV ((mq b).n)];refine wv (fun W h=>Qv (cs:=K4) Qs ai rfl rfl (h.boxCells (n:=5) rfl)) ?_;let I6:It:=iS (ab Qy 163) 100 c0 m0 ((mq b).d.c);let I7:It:=iS Qt 61 d0 n0 ((mq b).a);let I8:It:=iS bb 80 e0 M ((mq b).f);let I9:It:=iS ba 102 K O ((mq b).k);refine sb 0 K4 [I6,iS Qb 3 T U ((mq b).l),I7,I8,I9,Qa B 39 K4,Qa E 39 K1] (pk [6,0,1,2,3,4,5,7]) ai ?_;refine wa (aa (Qm ?_));have G:=(show gp b=((mq b),true) from Qd i (Qf o (Qf m (Qf F (rfl)))));refine gb rfl (dg (n:=0) rfl rfl Qs ai rfl) (dm rfl) (fun W h=>⟨K4,?_,?_⟩)
  ·first|rw[G]|rfl
   try rfl
  rw[G];exact Mem.join (is:=[I6,iS Qb 3 T U ((mq b).l),I7,I8,I9]) (js:=[]) (fun _ _ I=>gl (x:=(mq b)) I) (h.pick [1,2,3,4,5] (by decide))
 refine ws (nf i) ?_;refine ws (nf i) ?_;refine ws (nf i) ?_
 iterate 17 first|refine wv (aq (nf i)) ?_|refine wm ?_|refine wk ?_|refine wv (aq rfl) ?_
 refine aa ?_;refine Qr rfl rfl ?_;refine sr ?_;refine wv (fun W h=>Qv (cs:=K2) Qs ai rfl rfl (h.boxCells (n:=0) rfl)) ?_;refine sb 0 K2 [Qa B 39 K2,J,iS Qb 3 p u b.l,iS Qt 61 r y b.a,iS bb 80 s z b.f,iS ba 102 t A b.k,Qa E 39 K1] (pk [6,0,1,2,3,4,5,7]) ai ?_;refine wa (aa (Qm (Qo ?_)));have H:=(show gp b=(b,false) from Qf i (rfl));refine gb rfl (dg (n:=0) rfl rfl Qs ai rfl) (dm rfl) (fun W h=>⟨K2,?_,?_⟩)
 ·first|rw[H]|rfl
  try rfl
 rw[H];exact Mem.join (is:=[J,iS Qb 3 p u b.l,iS Qt 61 r y b.a,iS bb 80 s z b.f,iS ba 102 t A b.k]) (js:=[]) (fun _ _ I=>gl (x:=b) I) (h.pick [2,3,4,5,6] (by decide))
def wt (b:Qz) (c:(List Int)) (a:Nat):Bool⊕(Unit):=
 cond (mc b (gt c a)) (Sum.inl true) (Sum.inr ())
def mW (a:Qz) (b:(List Int)):Bool:=
 Sum.elim id (fun(s:Unit)=>(a.y==(-1))) (ay (R:=Bool) (fun k (_:Unit)=>wt a b k) (b.length-0) 0 ())
theorem zO:Cb Tryz.prog 196:=⟨f196,_,func196,rfl,by decide⟩
theorem Cz (w:World) (G:List Value) (b:Qz) (H:Value) (f:(List Int)) (A:Qy.rd w w.heap.size G b) (B:ce Qb w w.heap.size H f):
 Calls Tryz.prog 196 #[.agg G.toArray,H] w (rB w (mW b f)):=by
 obtain⟨_,rfl,J⟩:=ni A;obtain⟨_,C,E,rfl,_,K⟩:=Ql J;obtain⟨_,D,o,rfl,z,_⟩:=Ql B;refine jn (L:=[(0, .agg #[iV b.Id, .slice C b.m.length E,iV b.x,iV b.y]),(1, .slice D f.length o)]) (N:=20) func196 ?_;refine sr ?_;refine dq rfl (Qe rfl) (by decide) (fun u=>?_);refine wa (aa (Qk (sr (wm ?_))));refine wv (bc Qq) ?_;refine wm (aa (aw ?_));let K1:List Value:=[iV b.Id, .slice C b.m.length E,iV b.x,iV b.y];refine dj (S:=Unit) (R:=Unit) (fun k (_:Unit)=>wt b f k) f.length 0 () () (fun s=>[(2,bp u),(7, .slice D f.length o),(8,nI f.length),(9,nI s.1)]) (fun s=>[Qa u 163 K1]) (fun s=>True) dy trivial ?_;rintro⟨a,⟨⟩,⟨⟩⟩ l _ _ e e';dsimp only at l ⊢;subst e e';obtain⟨_,d,_⟩:=l;refine sr ?_;refine wv cz ?_;refine aa (Qk ?_);rcases dp a f.length with⟨g,i⟩|⟨g,i⟩
 ·refine Qr rfl i ?_;refine aj (Qi (Qk (aw (sr ?_))));obtain⟨v,rfl,r,t⟩:=z (by omega);refine wv (bx 1 a Qq Qg) ?_;refine wv (fun W j=>cl Qu rfl rfl ((j.cell0 (show(v.add (a*1)).block<w.heap.size from by rw[bh];exact r.1)).trans (jq t a (by omega)))) ?_;refine wa (aa (sr ?_));refine wv (fun W j=>Qv (cs:=K1) dh ct rfl rfl (j.boxCells (n:=0) rfl)) ?_;refine wm ?_;refine eo (Qp pO rfl) (fun W j=>qJ W _ b (gt f a) (nm (x:=b) (j.rdS0 K))) ?_;refine aa ?_;rcases bd (mc b (gt f a)) with c|c
  ·refine Qr rfl c ?_;refine sr (wa (aa (Qm (az (Qo (Qo (az (Qo ?_))))))));exact am (h:=dv (nr d (Qd c (rfl))) rfl)
  refine Qw rfl c ?_;refine aj (bi (Qi (ak ?_)));refine wv (bs a 1 (by omega)) ?_;refine wm (au ?_);exact br (a+1,(),()) dy ag ⟨(by omega),nx d (Qf c (rfl)),trivial⟩ rl
 refine Qw rfl i ?_;refine co (ao (ao ?_));have p:=dk g d;refine cp (Qi (sr ?_));refine wv (vf dh rfl Qg) ?_;refine wv (vl 0 3 Qu) ?_;refine wv (fun W j=>er rfl rfl) ?_;refine wa (aa (Qm ?_));exact am (h:=bt p (rfl))
def wo (d:ah) (a:Nat) (b:Nat) (e:(List Qz)):ah⊕((List Qz)):=
 Sum.inr (e++[(⟨(gt (gt d.c a) b).Id,((gt (gt d.c a) b).m),(gt (gt d.c a) b).x,(gt (gt d.c a) b).y⟩:Qz)])
def qS (d:ah) (a:Nat) (b:(List (List Qz))):ah⊕((List (List Qz))):=
 Sum.elim Sum.inl (fun(s:(List Qz))=>Sum.inr (b++[s])) (ay (R:=ah) (fun k (s:(List Qz))=>wo d a k s) (((gt d.c a)).length-0) 0 [])
def qT (a:ah):ah:=
 Sum.elim id (fun(s:(List (List Qz)))=>(⟨s,a.g⟩:ah)) (ay (R:=ah) (fun k (s:(List (List Qz)))=>qS a k s) (a.c.length-0) 0 [])
theorem Nq:Cb Tryz.prog 138:=⟨f138,_,func138,rfl,by decide⟩
theorem Cw (w:World) (z0:List Value) (d:ah) (s0:ez.rd w w.heap.size z0 d) (u:mo 68719476736 d):
 Calls Tryz.prog 138 #[.agg z0.toArray] w (rO w ez (qT d)):=by
 obtain⟨_,rfl,r2⟩:=pe s0;obtain⟨_,A4,O,rfl,q6,_⟩:=Ql r2;have:d.c.length<=68719476736:=u.1;refine fp (L:=[(0, .agg #[.slice A4 d.c.length O,iV d.g])]) (N:=48) func138 ?_;refine sr ?_;refine dq rfl (Qe rfl) (by decide) (fun p9=>?_);refine ca bn rfl (Qe rfl) (by decide) (fun l=>?_);refine aa (sr ?_);refine wv (vf bq rfl Qg) ?_;refine wv (vl 1 1 Qu) ?_;refine wv (fun W o=>ew (cs:=[.slice none 0 0,iV d.g]) rfl (by kernel_rfl)) ?_;refine ca bn rfl (Qe rfl) (by decide) (fun t=>?_);let I3:It:=Qa p9 34 [.slice A4 d.c.length O,iV d.g];refine sb 0 [.slice none 0 0,iV d.g] [Qa l 34 [.slice none 0 0,iV 0],I3] ag bn ?_;refine aa (Qk (sr ?_));refine wv (vf bq rfl fh) ?_;refine wv (vl 2 0 cm) ?_;refine wv (bc cm) ?_;refine wm (aa (aw ?_));refine ey (fun W o=>(o.addNil (E:=(ab Qy 163)) (e:=100)).last) ?_;refine dj (S:=(List (List Qz))) (R:=Option Addr×Nat) (fun k (s:(List (List Qz)))=>qS d k s) d.c.length 0 [] (none,0) (fun s=>[(2,bp l),(3,bp t),(13, .slice A4 d.c.length O),(14,nI d.c.length),(15,nI s.1)]) (fun s=>[Qa t 34 [.slice s.2.2.1 s.2.1.length s.2.2.2,iV d.g],Qa l 34 [.slice none 0 0,iV 0],I3,iS (ab Qy 163) 100 s.2.2.1 s.2.2.2 s.2.1]) (fun s=>s.2.1.length<=0+s.1) jw (Nat.le_refl _) ?_;rintro⟨a,f,⟨i,j⟩⟩ K _ _ e e';dsimp only at K ⊢;subst e e';obtain⟨_,v,_⟩:=K;refine sr ?_;refine wv cz ?_;refine aa (Qk ?_);rcases dp a d.c.length with⟨B,H⟩|⟨B,H⟩
 ·refine Qr rfl H ?_;refine aj (Qi (Qk (aw (sr ?_))));obtain⟨F,rfl,V,a0⟩:=q6 (by omega);refine wv (bx 1 a cm im) ?_;obtain⟨_,l0,Y⟩:=a0 a _ (dz (show a<d.c.length from by omega));have:(gt d.c a).length<=68719476736:=(u.2 _ (bl (show a<d.c.length from by omega))).1;obtain⟨_,rfl,p0⟩:=l0;obtain⟨_,d0,i0,rfl,o0,_⟩:=Ql p0;refine wv (fun W o=>cl db rfl rfl ((o.cell0 (show(F.add (a*1)).block<w.heap.size from by rw[bh];exact V.1)).trans (Y 0 _ rfl))) ?_;refine wa (aa (sr ?_));refine eh (E:=Qy) db ct (Qe rfl) (by decide) (fun n0=>?_);refine wa (aa (Qk (sr (wm ?_))));refine wv (bc db) ?_;refine wm (aa (aw ?_));let I4:It:=Qa t 34 [.slice i f.length j,iV d.g];let I5:It:=Qa p9 34 [.slice (some F) d.c.length O,iV d.g];let J6:List It:=[I4,Qa l 34 [.slice none 0 0,iV 0],I5,iS (ab Qy 163) 100 i j f];refine dj (S:=(List Qz)) (R:=Option Addr×Nat) (fun k (s:(List Qz))=>wo d a k s) (((gt d.c a)).length) 0 [] ((sA n0),0) (fun s=>[(2,bp l),(3,bp t),(6, .slice s.2.2.1 s.2.1.length s.2.2.2),(13, .slice (some F) d.c.length O),(14,nI d.c.length),(15,nI a),(20, .slice d0 ((gt d.c a)).length i0),(21,nI (((gt d.c a)).length)),(22,nI s.1)]) (fun s=>(iS Qy 163 s.2.2.1 s.2.2.2 s.2.1::J6)) (fun s=>s.2.1.length<=0+s.1) pw (Nat.le_refl _) ?_;rintro⟨b,h,⟨p,r⟩⟩ M _ _ e e';dsimp only at M ⊢;subst e e';obtain⟨_,z,_⟩:=M;refine sr ?_;refine wv cz ?_;refine aa (Qk ?_);rcases dp b (((gt d.c a)).length) with⟨C,I⟩|⟨C,I⟩
  ·refine Qr rfl I ?_;refine aj (Qi (Qk (aw (sr ?_))));obtain⟨h0,rfl,X,b0⟩:=o0 (by omega);refine wv (bx 4 b db ct) ?_;obtain⟨_,m0,Z⟩:=b0 b _ (dz (show b<((gt d.c a)).length from by omega));obtain⟨_,rfl,q0⟩:=ni m0;have:((gt (gt d.c a) b).m).length<=68719476736:=((u.2 _ (bl (show a<d.c.length from by omega))).2 _ (bl (show b<((gt d.c a)).length from by omega)));obtain⟨_,e0,j0,rfl,_,r0⟩:=Ql q0;let K1:List Value:=[iV ((gt (gt d.c a) b).Id), .slice e0 ((gt (gt d.c a) b).m).length j0,iV ((gt (gt d.c a) b).x),iV ((gt (gt d.c a) b).y)];refine wv (fun W o=>Qv (cs:=K1) dh ct rfl rfl (o.elCells (show(h0.add (b*4)).block<w.heap.size from by rw[bh];exact X.1) Z)) ?_;refine ca ct rfl (Qe rfl) (by decide) (fun c0=>?_);refine sb 0 K1 (iS Qy 163 p r h::J6) ag ct ?_;refine aa ?_;refine rb 14 (s:=(Qa c0 163 K1::J6)) (pk [0,2,3,4,5]) ?_;refine qt 14 0 1 rfl ap ?_;refine qt 14 1 3 rfl (vf dh rfl Qg) ?_;refine qt 14 2 7 rfl (vl 0 0 Qu) ?_;refine qt 14 3 15 rfl (vf dh rfl cb) ?_;refine qt 14 4 31 rfl (vl 0 1 Qq) ?_;refine qt 14 6 95 rfl (vf dh rfl Qg) ?_;refine qt 14 7 223 rfl (vl 0 2 Qu) ?_;refine qt 14 8 479 rfl (vf dh rfl Qg) ?_;refine qt 14 9 991 rfl (vl 0 3 Qu) ?_;refine qo 14 5 1023 rfl ?_;refine lg (ab Qb 3) ((gt (gt d.c a) b).m) (Qp si rfl) (fun W o=>sn W _ ((gt (gt d.c a) b).m) (o.rdS0 r0) ((u.2 _ (bl (show a<d.c.length from by omega))).2 _ (bl (show b<((gt d.c a)).length from by omega)))) (fun _=>?_);refine fm 0 ?_;rintro J P rfl D0;refine qn (pk [1,3,4,5,6]) ?_;let K2:List Value:=[iV ((gt (gt d.c a) b).Id), .slice J ((gt (gt d.c a) b).m).length P,iV ((gt (gt d.c a) b).x),iV ((gt (gt d.c a) b).y)];refine qt 14 10 2047 rfl (fun W o=>ew (cs:=K2) rfl (by kernel_rfl)) ?_;refine qo 14 11 4095 rfl ?_;refine di (cs:=K2) db ct rfl (by decide) (by decide) rfl (by kernel_rfl) (Qe rfl) (by decide) (fun _=>?_);refine qn (pk [2,4,5,6,7]) ?_;refine qo 14 12 8191 rfl ?_;refine fi Qy 163 (.slice p h.length r) h (⟨(gt (gt d.c a) b).Id,((gt (gt d.c a) b).m),(gt (gt d.c a) b).x,(gt (gt d.c a) b).y⟩:Qz) [iS Qb 3 J P ((gt (gt d.c a) b).m)] (Qa c0 163 K1::J6) K2 (pk [0,3,1,2,4,5,6,7]) (fun _ _ hs=>Els.single (pf (x:=(⟨(gt (gt d.c a) b).Id,((gt (gt d.c a) b).m),(gt (gt d.c a) b).x,(gt (gt d.c a) b).y⟩:Qz)) hs)) db ct (show(h.length+1)*48<=140737488355328 from by omega) (fun _=>?_);refine fm 0 ?_;rintro g0 k0 rfl E0;refine qn (pk [1,2,3,4,5]) ?_;refine qt 14 13 16383 rfl (fun W o=>lz rfl) ?_;refine fz (by kernel_rfl) ?_;refine bi (Qi (ak ?_));refine wv (bs b 1 (by omega)) ?_;refine wm (au ?_);exact br (b+1,(h++[(⟨(gt (gt d.c a) b).Id,((gt (gt d.c a) b).m),(gt (gt d.c a) b).x,(gt (gt d.c a) b).y⟩:Qz)]),(g0,k0)) pw (pk [0,2,3,4,5]) ⟨(by omega),nx z (rfl),(show(h++[(⟨(gt (gt d.c a) b).Id,((gt (gt d.c a) b).m),(gt (gt d.c a) b).x,(gt (gt d.c a) b).y⟩:Qz)]).length<=0+(b+1) from by first|omega|(simp only[List.length_append,List.length_cons,List.length_nil] at *;omega))⟩ (show((gt d.c a)).length-(b+1)<((gt d.c a)).length-b from by omega)
  refine Qw rfl I ?_;refine co (ao (ao ?_));have T:=dk C z;refine cp (Qi (ak ?_));refine wv (vf bq rfl fh) ?_;refine wv (vl 1 0 cm) ?_;refine wm ?_;refine di (cs:=[.slice p h.length r]) cm im rfl (by decide) (by decide) rfl (by kernel_rfl) (Qe rfl) (by decide) (fun _=>?_);refine fi (ab Qy 163) 100 (.slice i f.length j) f h [iS Qy 163 p r h] [I4,Qa l 34 [.slice none 0 0,iV 0],I5] [.slice p h.length r] (pk [0,5,1,2,3,4]) (fun _ _ hs=>Els.single (Sep.one hs)) cm im (show(f.length+1)*24<=140737488355328 from by omega) (fun _=>?_);refine fm 0 ?_;rintro D G rfl F0;refine wv (vf bq rfl fh) ?_;refine sb 0 [.slice D (f++[h]).length G,iV d.g] [iS (ab Qy 163) 100 D G (f++[h]),Qa l 34 [.slice none 0 0,iV 0],I5] (pk [1,0,2,3]) fh ?_;refine au (bi (Qi (ak ?_)));refine wv (bs a 1 (by omega)) ?_;refine wm (au ?_);exact br (a+1,(f++[h]),(D,G)) jw (pk [0,2,3,1]) ⟨(by omega),nx v (bt T (rfl)),(show(f++[h]).length<=0+(a+1) from by first|omega|(simp only[List.length_append,List.length_cons,List.length_nil] at *;omega))⟩ rl
 refine Qw rfl H ?_;refine co (ao (ao ?_));have U:=dk B v;refine cp (Qi (sr ?_));refine wv (fun W o=>Qv (cs:=[.slice i f.length j,iV d.g]) bq bn rfl rfl (o.boxCells (n:=0) rfl)) ?_;refine sb 0 [.slice i f.length j,iV d.g] [Qa t 34 [.slice i f.length j,iV d.g],I3,iS (ab Qy 163) 100 i j f] (pk [1,0,2,3]) bn ?_;refine aa (Qm ?_);have A:=(show qT d=(⟨f,d.g⟩:ah) from bt U (rfl));refine ep rfl (dg (n:=0) rfl rfl bq bn rfl) (fun W o=>⟨[.slice i f.length j,iV d.g],?_,?_⟩)
 ·first|rw[A]|rfl
 rw[A];exact Mem.join (is:=[iS (ab Qy 163) 100 i j f]) (js:=[]) (fun _ _ hs=>jz (x:=(⟨f,d.g⟩:ah)) hs) (o.pick [3] (by decide))
theorem Cx (a:ah):qT a=a:=by
 unfold qT;rw[qr (xs:=a.c) (b:=fun k s=>qS a k s) (fun j s=>by unfold qS;rw[qr (xs:=gt a.c j) (b:=fun k s=>wo a j k s) (fun _ _=>rfl)];rfl)];rfl
theorem wq (w:World) (d:List Value) (a:ah) (b:ez.rd w w.heap.size d a) (c:mo 68719476736 a):
 Calls Tryz.prog 138 #[.agg d.toArray] w (rO w ez a):=by
 have h:=Cw w d a b c;rw[Cx] at h;exact h
end Go.Proofs.YtdlminfjdodjoaaGreat
