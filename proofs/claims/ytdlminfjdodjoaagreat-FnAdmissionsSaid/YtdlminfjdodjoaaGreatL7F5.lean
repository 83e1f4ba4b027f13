/-
  Contracts of functions,printed by a program of ours.
-/
import Derived.Test.YtdlminfjdodjoaaGreatL7F4
namespace Go.Proofs.YtdlminfjdodjoaaGreat
set_option linter.unusedVariables false
set_option linter.unusedSimpArgs false
open Go.RowKit
set_option maxRecDepth 100000
set_option maxHeartbeats 4000000
open _root_.Go.Proofs.Tryz
def bM (d:Qk) (b:Nat) (a:(List Int)):(List Int)⊕((List Int)):=
 cond (rz (gt d.c b)) (cond (pe ((gt d.c b).r) d.l) (Sum.inr (a++[(gt d.c b).g.Id])) (Sum.inr a)) (Sum.inr a)
def zp (a:Qk):(List Int):=
 cond (ot a) (Sum.elim id (fun(s:(List Int))=>s) (ax (R:=(List Int)) (fun k (s:(List Int))=>bM a k s) (a.c.length-0) 0 [])) []
theorem Oj:Cb Tryz.prog 22:=⟨f22,_,func22,rfl,by decide⟩
theorem Oh (w:World) (z0:List Value) (h:Qk) (O0:cc.rd w w.heap.size z0 h) (B:lz 68719476736 h):
 Calls Tryz.prog 22 #[.agg z0.toArray] w (rL w (ab Qb 3) (zp h)):=by
 obtain⟨_,_,_,_,_,rfl,r2,r4,r6,r8,B0⟩:=nq O0;obtain⟨_,P,Y,rfl,_,C0⟩:=Qn r2;obtain⟨_,T,Z,rfl,_,D0⟩:=Qn r4;obtain⟨_,U,K,rfl,A0,E0⟩:=Qn r6;obtain⟨_,V,a0,rfl,_,F0⟩:=Qn r8;obtain⟨_,X,b0,rfl,_,G0⟩:=Qn B0;have:h.d.a.length<=68719476736:=B.1.1;have:=B.2.1;have:=B.2.2.1.1;have:=B.2.2.2.1.1;have:=B.2.2.2.2.1;refine gb (L:=[(0, .agg #[.slice P h.d.a.length Y,iV h.d.e,iV h.l, .slice T h.k.length Z, .slice U h.c.length K, .slice V h.f.length a0, .slice X h.j.length b0,iV h.n])]) (N:=35) func22 ?_;refine sr ?_;refine ei rfl (Qf rfl) (by decide) (fun M=>?_);refine wa (aa (sr ?_));refine ez (E:=Qb) Qt Qh (Qf rfl) (by decide) (fun m0=>?_);refine wa (aa (Qi (sr ?_)));let K1:List Value:=[.slice P h.d.a.length Y,iV h.d.e,iV h.l, .slice T h.k.length Z, .slice U h.c.length K, .slice V h.f.length a0, .slice X h.j.length b0,iV h.n];refine wv (fun W v=>Qw (cs:=K1) Qs Qv rfl rfl (v.boxCells (n:=1) rfl)) ?_;refine fk (Qo bC rfl) (fun W v=>bJ W _ h (fx (x:=h) (v.rdS0 C0) (v.rdS0 D0) (v.rdS0 E0) (v.rdS0 F0) (v.rdS0 G0)) B) ?_;refine wv dm ?_;refine aa ?_;rcases bd (ot h) with G|G
 ·refine ah rfl (nt G) ?_;refine an (Qj (Qi (sr ?_)));refine wv (vf Qs rfl ef) ?_;refine wv (vl 1 4 bo) ?_;refine wv (bh bo) ?_;refine wm (aa (aw ?_));refine dw (S:=(List Int)) (R:=Option Addr×Nat) (fun k (s:(List Int))=>bM h k s) h.c.length 0 [] ((sA m0),0) (fun s=>[(1,bp M),(3, .slice s.2.2.1 s.2.1.length s.2.2.2),(12, .slice U h.c.length K),(13,nI h.c.length),(14,nI s.1)]) (fun s=>[iS Qb 3 s.2.2.1 s.2.2.2 s.2.1,Qa M 39 K1]) (fun s=>s.2.1.length<=0+s.1) mm (Nat.le_refl _) ?_;rintro⟨b,i,⟨D,F⟩⟩ g0 _ _ e e';dsimp only at g0 ⊢;subst e e';obtain⟨_,C,_⟩:=g0;refine sr ?_;refine wv df ?_;refine aa (Qi ?_);rcases dz b h.c.length with⟨O,c0⟩|⟨O,c0⟩
  ·refine Qr rfl c0 ?_;refine an (Qj (Qi (aw (sr ?_))));obtain⟨h0,rfl,j0,l0⟩:=A0 (by omega);refine wv (bv 10 b bo cq) ?_;obtain⟨_,w0,k0⟩:=l0 b _ (er (show b<h.c.length from by omega));obtain⟨_,_,_,_,rfl,H0,I0,J0,K0⟩:=ng w0;have:=(B.2.2.1.2 _ (bt (show b<h.c.length from by omega))).1.1;have:=(B.2.2.1.2 _ (bt (show b<h.c.length from by omega))).1.2;have:=(B.2.2.1.2 _ (bt (show b<h.c.length from by omega))).2.1;have:=(B.2.2.1.2 _ (bt (show b<h.c.length from by omega))).2.2.1;obtain⟨_,o0,s0,rfl,_,L0⟩:=Qn H0;obtain⟨_,p0,t0,rfl,_,M0⟩:=Qn I0;obtain⟨_,q0,u0,rfl,_,n0⟩:=Qn J0;obtain⟨_,r0,v0,rfl,_,N0⟩:=Qn K0;let K2:List Value:=[iV ((gt h.c b).g.Id),iV ((gt h.c b).g.t), .slice o0 ((gt h.c b).g.o).length s0, .slice p0 ((gt h.c b).g.q).length t0,iV ((gt h.c b).u), .slice q0 ((gt h.c b).r).length u0,iV ((gt h.c b).y),iV ((gt h.c b).A),iV ((gt h.c b).z), .slice r0 ((gt h.c b).p).length v0];refine wv (fun W v=>Qw (cs:=K2) cy cq rfl rfl (v.elCells (show(h0.add (b*10)).block<w.heap.size from by rw[bj];exact j0.1) k0)) ?_;refine br cq rfl (Qf rfl) (by decide) (fun y0=>?_);let K3:List Value:=[.slice P h.d.a.length Y,iV h.d.e,iV h.l, .slice T h.k.length Z, .slice (some h0) h.c.length K, .slice V h.f.length a0, .slice X h.j.length b0,iV h.n];refine sb 0 K2 [iS Qb 3 D F i,Qa M 39 K3] ai cq ?_;refine aa (sr ?_);refine wv (fun W v=>Qw (cs:=K2) cy cq rfl rfl (v.boxCells (n:=0) rfl)) ?_;refine fk (Qo Nq rfl) (fun W v=>Dr W _ (gt h.c b) (cQ (x:=(gt h.c b)) (v.rdS0 L0) (v.rdS0 M0) (v.rdS0 n0) (v.rdS0 N0))) ?_;refine wm ?_;rcases bd (rz (gt h.c b)) with m|m
   ·refine wg (vf cy rfl cg) m ?_;refine wg (vl 0 5 Qt) m ?_;refine wg (vf Qs rfl Qh) m ?_;refine wg (vl 2 2 Qz) m ?_;refine ep (Qo oK rfl) (fun W v=>hY W _ ((gt h.c b).r) h.l (v.rdS0 n0)) (az rfl rfl rfl (bw m rfl)) (by decide) ?_;refine wv (am m) ?_;refine aa ?_;rcases bd (pe ((gt h.c b).r) h.l) with H|H
    ·refine Qr rfl H ?_;refine ao (wm ?_);refine wv (vf cy rfl dh) ?_;refine wv (fun W v=>ir (o:=0) di rfl Qh (by decide) rfl rfl) ?_;refine wv (vl 0 0 Qz) ?_;refine eb (cs:=[iV ((gt h.c b).g.Id)]) Qt Qh rfl (by decide) (by decide) rfl (by kernel_rfl) (Qf rfl) (by decide) (fun _=>?_);refine ga Qb 3 (.slice D i.length F) i ((gt h.c b).g.Id) [] [Qa y0 61 K2,Qa M 39 K3] [iV ((gt h.c b).g.Id)] (pk [0,2,1,3]) (fun _ _ hs=>by cases (Sep.nil hs);exact(eg cw ix)) Qt Qh (show(i.length+1)*8<=140737488355328 from by omega) (fun _=>?_);refine fm 0 ?_;rintro e0 i0 rfl R0;refine wa (bb (bq (Qj (ao ?_))));refine wv (cb b 1 (by omega)) ?_;refine wm (bb ?_);exact bu (b+1,(i++[(gt h.c b).g.Id]),(e0,i0)) mm (pk [0,2]) ⟨(by omega),nx C (Qc m (Qc H (rfl))),(show(i++[(gt h.c b).g.Id]).length<=0+(b+1) from by first|omega|(simp only[List.length_append,List.length_cons,List.length_nil] at *;omega))⟩ rl
    refine ah rfl H ?_;refine an (bq (Qj (ao ?_)));refine wv (cb b 1 (by omega)) ?_;refine wm (bb ?_);exact bu (b+1,i,(D,F)) mm (pk [1,2]) ⟨(by omega),nx C (Qc m (Qe H (rfl))),(show i.length<=0+(b+1) from by first|omega|(simp only[List.length_append,List.length_cons,List.length_nil] at *;omega))⟩ rl
   iterate 6 first|refine ws m ?_|refine wv (ak m) ?_
   refine aa ?_;refine ah rfl rfl ?_;refine an (bq (Qj (ao ?_)));refine wv (cb b 1 (by omega)) ?_;refine wm (bb ?_);exact bu (b+1,i,(D,F)) mm (pk [1,2]) ⟨(by omega),nx C (Qe m (rfl)),(show i.length<=0+(b+1) from by first|omega|(simp only[List.length_append,List.length_cons,List.length_nil] at *;omega))⟩ rl
  refine ah rfl c0 ?_;refine dj (av (av ?_));have d0:=dx O C;refine dk (Qj (sr (wm (wa (aa (Ql ?_))))));have I:=(show zp h=i from Qc G (ca d0 (rfl)));refine fj rfl (cz rfl) (fun W v=>⟨.slice D i.length F,?_,?_⟩)
  ·first|rw[I]|rfl
  rw[I];exact(v.pick [0] (by decide))
 refine Qr rfl (nf G) ?_;refine sr (wm (wa (aa (Ql (Qm ?_)))));have J:=(show zp h=[] from Qe G (rfl));refine fj rfl (cz rfl) (fun W v=>⟨.slice (sA m0) 0 0,?_,?_⟩)
 ·first|rw[J]|rfl
 rw[J];exact(v.pick [0] (by decide))
theorem wj {n:Nat} {b:Nat->Unit->Bool⊕Unit} (h:∀ j,b j ()= .inr ()∨b j ()= .inl false):∀ m k,ax b m k ()= .inr ()∨ax b m k ()= .inl false
 |0,_=> .inl rfl
 |m+1,k=>by
  rcases h k with a|a
  ·rw[ax,a];exact wj (n:=n) h m (k+1)
  right;rw[ax,a];rfl
theorem sU (x a b:Int):gf x a b=cm x a b:=rfl
theorem uY (x:List Int) (k:Nat):qD x k=nA x k:=by
 unfold qD nA cm
 by_cases b:gt x k<0
 ·have a: ¬ 0<=gt x k:=by omega
  simp only[decide_eq_true b,decide_eq_false a,cond_true,cond_false]
 have a:0<=gt x k:=by omega
 by_cases d:24<=gt x k
 ·have c: ¬ gt x k<=23:=by omega
  simp only[decide_eq_false b,decide_eq_true a,decide_eq_true d,decide_eq_false c,cond_true,cond_false]
 have c:gt x k<=23:=by omega
 simp only[decide_eq_false b,decide_eq_true a,decide_eq_false d,decide_eq_true c,cond_true,cond_false]
theorem uZ (x:List Int):bK x=nh x:=by
 unfold bK nh;simp only[uY]
theorem uT (x:gn) (k:Nat):My x k=va x k:=rfl
theorem uU (x:gn) (k:Nat):va x k= .inr ()∨va x k= .inl false:=by
 unfold va;cases cm (gt x.B k) 0 3 <;>cases cm (gt x.p k) 0 x.C <;>simp
theorem uV (x:gn):zo x=rg x:=by
 unfold zo rg;rw[uZ];simp only[uT,sU];have d:cm ((x.v.length:Nat):Int) 1 8=cond (((x.v.length:Nat):Int)==0) false (cond (decide (8<((x.v.length:Nat):Int))) false true):=by
  unfold cm
  by_cases a:((x.v.length:Nat):Int)=0
  ·rw[beq_iff_eq.2 a,decide_eq_false (show ¬ 1<=((x.v.length:Nat):Int) by omega)];rfl
  rw[beq_eq_false_iff_ne.2 a,decide_eq_true (show 1<=((x.v.length:Nat):Int) by omega)]
  by_cases c:8<((x.v.length:Nat):Int)
  ·rw[decide_eq_true c,decide_eq_false (show ¬ ((x.v.length:Nat):Int)<=8 by omega)];rfl
  rw[decide_eq_false c,decide_eq_true (show((x.v.length:Nat):Int)<=8 by omega)];rfl
 rw[d];have hr:=wj (n:=0) (b:=fun k (_:Unit)=>va x k) (uU x) (x.v.length-0) 0;rcases hr with hr|hr <;>rw[hr] <;>cases nh x.v <;>cases (((x.v.length:Nat):Int)==0) <;>cases (decide (8<((x.v.length:Nat):Int))) <;>
  cases (((x.B.length:Nat):Int) !=((x.v.length:Nat):Int)) <;>cases (((x.p.length:Nat):Int) !=((x.v.length:Nat):Int)) <;>cases cm x.D 0 7 <;>cases cm x.C 0 4 <;>rfl
theorem iG (x:Int):uu x=cm x 0 2:=rfl
def rp (now:Int) (seen:List Qx) (v:Qx):Bool:=mu v now && seen.all fun w=> !(v.Id==w.Id && ra v w)
theorem jK (ok:List Qx->Qx->Bool):∀ (s t seen:List Qx),kp ok seen (s++t)=(kp ok seen s && kp ok (seen++s) t)
 | [],t,seen=>by simp[kp]
 |v::s,t,seen=>by
  show(ok seen v && kp ok (seen++[v]) (s++t))=_;rw[jK ok s t];simp[kp,Bool.and_assoc]
theorem fV (ok:List Qx->Qx->Bool):∀ (l seen:List Qx),sx (fun d v=>ok d v) (fun d v=>d++[v]) l seen=cond (kp ok seen l) (some (seen++l)) none
 | [],seen=>by simp[sx,kp]
 |v::l,seen=>by
  rw[sx,fV ok l];show _=cond (ok seen v && kp ok (seen++[v]) l) _ _;cases ok seen v <;>simp
theorem Co (x:Qy) (i j:Nat) (d:List Qx):ax (R:=Bool) (fun k (_:Unit)=>mP x i j d k) (d.length-0) 0 ()=cond (d.all fun w=> !((gt (gt x.a i) j).Id==w.Id && ra (gt (gt x.a i) j) w)) (.inr ()) (.inl false):=
 bS fun k _=>by
  unfold mP;cases (gt (gt x.a i) j).Id==(gt d k).Id <;>cases ra (gt (gt x.a i) j) (gt d k) <;>rfl
theorem Cn (x:Qy) (i j:Nat) (d:List Qx):qF x i j d=cond (rp x.e d (gt (gt x.a i) j)) (.inr (d++[gt (gt x.a i) j])) (.inl false):=by
 have b:(fun k (_:Unit)=>Nb x i j d k)=fun k (_:Unit)=>mP x i j d k:=rfl
 unfold qF rp;rw[b,Co,pA,qN,qN];have hr:sn (ta (gt (gt x.a i) j))=kr (⟨(gt (gt x.a i) j).Id,(gt (gt x.a i) j).m⟩:bf):=rfl;rw[hr];have hn:((gt (gt x.a i) j).x !=(-1))= !((gt (gt x.a i) j).x==(-1)):=rfl;rw[hn];cases kr (⟨(gt (gt x.a i) j).Id,(gt (gt x.a i) j).m⟩:bf) <;>cases decide (0<=(gt (gt x.a i) j).w∧(gt (gt x.a i) j).w<=x.e) <;>cases (gt (gt x.a i) j).x==(-1) <;>
  cases decide (IntKind.i64.wrap ((gt (gt x.a i) j).w+1)<=(gt (gt x.a i) j).x∧(gt (gt x.a i) j).x<=x.e) <;>cases (d.all fun w=> !((gt (gt x.a i) j).Id==w.Id && ra (gt (gt x.a i) j) w)) <;>rfl
theorem Cm (x:Qy) (i:Nat) (d:List Qx):qE x i d=cond (decide ((gt x.a i).length<=4) && kp (rp x.e) d (gt x.a i)) (.inr (d++gt x.a i)) (.inl false):=by
 unfold qE;rw[iW (xs:=gt x.a i) (r:=false) (c:=fun d v=>rp x.e d v) (f:=fun d v=>d++[v]) (fun j s _=>Cn x i j s),fV]
 by_cases h:(gt x.a i).length<=4
 ·rw[decide_eq_true h,decide_eq_false (show ¬ 4<((gt x.a i).length:Int) by omega)];cases kp (rp x.e) d (gt x.a i) <;>rfl
 rw[decide_eq_false h,decide_eq_true (show 4<((gt x.a i).length:Int) by omega)];rfl
theorem fW (ok:List Qx->Qx->Bool):∀ (l:List (List Qx)) (d:List Qx),sx (fun d s=>decide (s.length<=4) && kp ok d s) (fun d s=>d++s) l d=cond (l.all (fun s=>decide (s.length<=4)) && kp ok d l.flatten) (some (d++l.flatten)) none
 | [],d=>by simp[sx,kp]
 |s::l,d=>by
  rw[sx,fW ok l,List.flatten_cons,jK,List.all_cons];cases decide (s.length<=4) <;>cases kp ok d s <;>cases l.all (fun s=>decide (s.length<=4)) <;>simp
theorem Cf (x:Qy):qz x=aG (rp x.e) x:=by
 unfold qz aG;rw[iW (xs:=x.a) (r:=false) (c:=fun d s=>decide (s.length<=4) && kp (rp x.e) d s) (f:=fun d s=>d++s) (fun j s _=>Cm x j s),fW,qN,qN];cases decide (1<=(x.a.length:Int)∧(x.a.length:Int)<=8) <;>cases decide (0<=x.e∧x.e<=100000) <;>cases x.a.all (fun s=>decide (s.length<=4)) <;>cases kp (rp x.e) [] x.a.flatten <;>rfl
theorem eU {v:Qx} {now:Int} (hn:now<=100000) (h:mu v now=true):0<=v.w∧v.w<=now∧(v.x= -1∨(v.w+1<=v.x∧v.x<=now)):=by
 rw[pA] at h;simp only[Bool.and_eq_true,Bool.or_eq_true,decide_eq_true_eq,beq_iff_eq] at h;obtain⟨⟨_,b,c⟩,a⟩:=h;rw[ia (by omega) (by omega)] at a;exact⟨b,c,a⟩
theorem mD (v:Qx) (t:Int):ny v t=decide (v.w<=t∧(v.x= -1∨t<v.x)):=by
 unfold ny
 by_cases a:v.w<=t <;>by_cases b:v.x= -1 <;>by_cases c:t<v.x <;>simp[a,b,c]
theorem aU (v w:Qx):nc v w=decide (v.Id≠w.Id∨(v.x ≠ -1∧v.x<=w.w)∨(w.x ≠ -1∧w.x<=v.w)):=by
 unfold nc
 by_cases c:v.Id=w.Id <;>by_cases a:v.x= -1 <;>by_cases d:w.x= -1 <;>by_cases b:v.x<=w.w <;>simp[c,a,d,b] <;> (try rw[a] at b) <;> (try simp_all) <;> (try rfl)
theorem fE {v w:Qx} {now:Int} (hn:now<=100000) (hv:mu v now=true) (hw:mu w now=true):nc v w= !(v.Id==w.Id && ra v w):=by
 obtain⟨_,_,_⟩:=eU hn hv;obtain⟨_,_,_⟩:=eU hn hw;have c:ra v w=decide ((v.w<=w.w∧(v.x= -1∨w.w<v.x))∨(w.w<=v.w∧(w.x= -1∨v.w<w.x))):=by
  unfold ra;rw[mD,mD]
  by_cases a:(v.w<=w.w∧(v.x= -1∨w.w<v.x)) <;>by_cases b:(w.w<=v.w∧(w.x= -1∨v.w<w.x)) <;>simp[a,b]
 rw[c,aU];have hb:(v.Id==w.Id)=decide (v.Id=w.Id):=by by_cases h:v.Id=w.Id <;>simp[h]
 rw[hb, <- Bool.decide_and, <- decide_not];apply decide_eq_decide.2;omega
theorem jN {now:Int} (hn:now<=100000):∀ (l seen:List Qx),(∀ w∈seen,mu w now=true)->kp (rp now) seen l=kp (ol now) seen l
 | [],_,_=>rfl
 |v::l,seen,a=>by
  show(rp now seen v && kp (rp now) (seen++[v]) l)=(ol now seen v && kp (ol now) (seen++[v]) l);unfold rp ol;cases hv:mu v now with
  |false=>rfl
  |true=>
   have e:(seen.all fun w=> !(v.Id==w.Id && ra v w))=seen.all fun w=>nc v w:=by
    rw[Bool.eq_iff_iff,List.all_eq_true,List.all_eq_true];exact⟨fun h w hw=>by rw[fE hn hv (a w hw)];exact h w hw,fun h w hw=>by rw[<- fE hn hv (a w hw)];exact h w hw⟩
   have ih:=jN hn l (seen++[v]) (fun w hw=>by
    rcases List.mem_append.1 hw with h|h
    ·exact a w h
    rw[List.mem_singleton.1 h];exact hv)
   unfold rp ol at ih;rw[e,ih]
theorem lY (x:Qy):qz x=mb x:=by
 rw[Cf,xp];unfold aG
 by_cases h:0<=x.e∧x.e<=100000
 ·rw[jN h.2 _ [] (fun w hw=>by cases hw)]
 rw[decide_eq_false h,Bool.and_false,Bool.false_and];rfl
theorem za:gf=cm:=rfl
theorem uW (x:jj):mO x=rh x:=by
 unfold mO rh;rw[iG,kl x.G];simp only[bE,Bool.decide_and,Bool.and_assoc]
theorem Ku (x:bk):tw x=kk x:=by
 unfold tw kk sE;have a:(fun k (_:Unit)=>qB x k)=fun k (_:Unit)=>vb x k:=by
  funext k u;unfold qB vb;rw[uW]
 have c:(fun k (_:Unit)=>Mz x k)=fun k (_:Unit)=>aA x.q k:=rfl
 rw[a,c]
 rw[re (b:=fun k (_:Unit)=>vb x k) (p:=fun k=>vb x k == .inr ()) (r:=false) (fun k _=>by
  unfold vb
  cases rh (gt x.o k) <;>cases decide (0<((k:Nat):Int)) <;>cases decide ((gt x.o k).Field<=(gt x.o (k-1)).Field) <;>rfl)]
 rw[re (b:=fun k (_:Unit)=>aA x.q k) (p:=fun k=>aA x.q k == .inr ()) (r:=false) (fun k _=>by
  unfold aA
  cases cm (gt x.q k) 0 2 <;>rfl)]
 simp only[za,pU,bE,Mj,Ba,Bool.not_not]
 ac_rfl
theorem fC (x:List bf):bN x=si x:=by
 unfold bN si Ni;have a:(fun k (_:Unit)=>Nh x k)=fun k (_:Unit)=>nR x k:=rfl
 rw[a,re (p:=fun k=>nR x k == .inr ()) (r:=false) (fun k _=>by
  unfold nR
  cases kr (gt x k) <;>rfl)]
 simp only[pU,bE,Bool.and_true]
 ac_rfl
theorem xD (e:Qk) (x:Qq):zq e.d x=ub e x:=by
 unfold zq ub cO;have b:(fun k (_:Unit)=>Ng e.d x k)=fun k (_:Unit)=>nT x.r ((e.d.a.length:Nat):Int) k:=rfl
 rw[b,re (p:=fun k=>nT x.r ((e.d.a.length:Nat):Int) k == .inr ()) (r:=false) (fun k _=>by
  unfold nT
  cases cm (gt x.r k) 0 (IntKind.i64.wrap (((e.d.a.length:Nat):Int)-1)) <;>cases decide (0<((k:Nat):Int)) <;>cases decide (gt x.r k<=gt x.r (k-1)) <;>rfl)]
 rw[Ku,fC];simp only[za,pU,bE]
 ac_rfl
theorem pY (x:List Int) (i:Int):pe x i=x.any fun y=>y==i:=by
 unfold pe;rw[qS (p:=fun y=>y==i) (r:=true) (fun j _=>rfl)];cases x.any fun y=>y==i <;>rfl
theorem Dw (x a b:Int):cm x a b=(decide (a<=x) && decide (x<=b)):=by
 unfold cm;rw[bE]
theorem wc (x:List Int):uv x=qj x:=by
 unfold uv qj;rw[re (n:=3) (p:=fun k=>pe x k) (r:=false) (fun k _=>rfl)]
 rw[re (p:=fun k=>cm (gt x k) 0 2 && !ln (List.take k x) (gt x k)) (r:=false) (fun k _=>by
  unfold sG
  cases cm (gt x k) 0 2 <;>cases ln (List.take k x) (gt x k) <;>rfl)]
 have v:∀ (y:List Int) (i:Int),ln y i=y.any fun z=>z==i:=pY
 by_cases h:x.length=3
 ·match x,h with
  | [a,b,c],_=>
   simp only[pY,v,Dw];have l:List.range 3=[0,1,2]:=rfl;have u:[a,b,c].length=3:=rfl;have d:gt [a,b,c] 0=a:=rfl;have e:gt [a,b,c] 1=b:=rfl;have f:gt [a,b,c] 2=c:=rfl;rw[u,l];simp only[List.all_cons,List.all_nil];rw[d,e,f];simp only[List.any_cons,List.any_nil,List.take];simp only[pU,Mj,Bool.and_true,Bool.or_false,Bool.not_false];rw[Bool.eq_iff_iff];simp only[Bool.and_eq_true,Bool.or_eq_true,beq_iff_eq,decide_eq_true_eq,Bool.not_eq_true',Bool.or_eq_false_iff,beq_eq_false_iff_ne,bne,ne_eq];have m:((3:Nat):Int)=3:=rfl;have o:((0:Nat):Int)=0:=rfl;have s:((1:Nat):Int)=1:=rfl;have t:((2:Nat):Int)=2:=rfl;simp only[m,o,s,t,beq_self_eq_true,Bool.not_true,and_true,true_and];constructor <;>intro h <;>omega
 have g:(((x.length:Nat):Int)==3)=false:=beq_eq_false_iff_ne.2 (by omega);have j:(((x.length:Nat):Int) !=3)=true:=bne_iff_ne.2 (by omega);rw[g,j];cases (List.range 3).all fun k=>pe x k <;>rfl
theorem tl (x:Qk):ot x=ka x:=by
 unfold ot ka;have a:(fun k (_:Unit)=>sm x k)=fun k (_:Unit)=>mZ x k:=by
  funext k u;unfold sm mZ;rw[xD]
 have b:(fun k (_:Unit)=>pZ x k)=fun k (_:Unit)=>cE x k:=by
  funext k u;unfold pZ cE;rw[Ku,fC];rfl
 have d:(fun k (_:Unit)=>qA x k)=fun k (_:Unit)=>rN x k:=by
  funext k u;unfold qA rN;rw[uV]
 rw[a,b,d,lY,wc];generalize Sum.elim id _ (ax (R:=Bool) (fun k (_:Unit)=>mZ x k) (x.c.length-0) 0 ())=t;simp only[za,bE,Mj]
 ac_rfl
theorem vC (x:Qk) (hl:x.c.length<=9223372036854775807):zp x=ct x:=by
 unfold zp ct;rw[tl];cases h:ka x with
 |false=>
  rw[wq (fun j s=>by unfold rT;rw[h];rfl)];rfl
 |true=>
  rw[iY (n:=x.c.length) (b:=fun k s=>bM x k s) (fun j s hj=>by
   unfold rT bM rM rz;have hw:IntKind.i64.wrap (((x.c.length:Nat):Int)-1)=((x.c.length:Nat):Int)-1:=ia (by omega) (by omega);have hi:cm ((j:Nat):Int) 0 (IntKind.i64.wrap (((x.c.length:Nat):Int)-1))=true:=by
    rw[kl,hw];exact decide_eq_true (by omega)
   have a:pe (gt x.c j).r x.l=ln (gt x.c j).r x.l:=rfl;rw[h,hi,a,Int.toNat_natCast]
   cases (gt x.c j).z==0 <;>cases decide ((gt x.c j).A<(gt x.c j).z) <;>cases ln (gt x.c j).r x.l <;>rfl) _ _ _ (by omega)]
  rfl
theorem xq {x:List Int} (h:qj x=true):∀ y∈x,0<=y∧y<=2:=by
 unfold qj at h
 rw[re (p:=fun k=>cm (gt x k) 0 2 && !ln (List.take k x) (gt x k)) (r:=false) (fun k _=>by
  unfold sG
  cases cm (gt x k) 0 2 <;>cases ln (List.take k x) (gt x k) <;>rfl)] at h
 intro y hy;obtain⟨k,hk,rfl⟩:=List.getElem_of_mem hy;rw[<- gj hk];cases ha:(List.range x.length).all (fun k=>cm (gt x k) 0 2 && !ln (List.take k x) (gt x k)) with
 |false=>
  rw[ha] at h;cases hl:(((x.length:Nat):Int) !=3) <;>rw[hl] at h <;>cases h
 |true=>
  have a:=List.all_eq_true.1 ha k (List.mem_range.2 hk);cases b:cm (gt x k) 0 2 with
  |false=>rw[b] at a;cases a
  |true=>exact jw b
theorem jL (now:Int):∀ (l seen:List Qx),kp (ol now) seen l=true↔(∀ v∈l,mu v now=true)∧(∀ v∈l,∀ w∈seen,nc v w=true)∧l.Pairwise (fun a b=>nc b a=true)
 | [],seen=>by simp[kp]
 |v::l,seen=>by
  have ih:=jL now l (seen++[v]);show(ol now seen v && kp (ol now) (seen++[v]) l)=true↔_;rw[Bool.and_eq_true,ih];unfold ol;rw[Bool.and_eq_true,List.all_eq_true,List.pairwise_cons];constructor
  ·rintro⟨⟨a,b⟩,c,d,e⟩;refine⟨fun w hw=>?_,fun w hw y hy=>?_,fun w hw=>d w hw v (by simp),e⟩
   ·rcases List.mem_cons.1 hw with rfl|h
    ·exact a
    exact c w h
   rcases List.mem_cons.1 hw with rfl|h
   ·exact b y hy
   exact d w h y (List.mem_append_left _ hy)
  rintro⟨a,b,c,d⟩;refine⟨⟨a v (by simp),fun y hy=>b v (by simp) y hy⟩,fun w hw=>a w (List.mem_cons_of_mem _ hw),fun w hw y hy=>?_,d⟩;rcases List.mem_append.1 hy with h|h
  ·exact b w (List.mem_cons_of_mem _ hw) y h
  rw[List.mem_singleton.1 h];exact c w hw
def aM (x:Qy):Prop:=(1<=x.a.length∧x.a.length<=8)∧(0<=x.e∧x.e<=100000)∧(∀ s∈x.a,s.length<=4)∧(∀ v∈x.a.flatten,mu v x.e=true)∧x.a.flatten.Pairwise (fun a b=>nc b a=true)
theorem la (x:Qy):mb x=true↔aM x:=by
 rw[xp];unfold aG aM;simp only[Bool.and_eq_true,decide_eq_true_eq,List.all_eq_true,jL];constructor
 ·rintro⟨⟨⟨a,b⟩,c⟩,d,_,e⟩;exact⟨by omega,b,c,d,e⟩
 rintro⟨a,b,c,d,e⟩;exact⟨⟨⟨by omega,b⟩,c⟩,d,fun _ _ w hw=>(by cases hw),e⟩
theorem zc (r:bf):kr r=true↔(∀ z∈r.m,0<=z∧z<=99)∧(0<=r.Id∧r.Id<=999)∧r.m.length=3:=by
 unfold kr
 rw[bS (xs:=r.m) (p:=fun z=>decide (0<=z∧z<=99)) (r:=false) (fun k _=>by
  unfold zy
  rw[kl]),kl]
 have e:(r.m.all fun z=>decide (0<=z∧z<=99))=true↔∀ z∈r.m,0<=z∧z<=99:=by simp only[List.all_eq_true,decide_eq_true_eq]
 rw[<- e];cases (r.m.all fun z=>decide (0<=z∧z<=99)) with
 |false=>exact⟨fun h=>(by cases h),fun h=>(by cases h.1)⟩
 |true=>
  show cond (decide (0<=r.Id∧r.Id<=999)) (((r.m.length:Nat):Int)==3) false=true↔_
  by_cases a:0<=r.Id∧r.Id<=999
  ·rw[decide_eq_true a,cond_true,beq_iff_eq];exact⟨fun h=>⟨rfl,a,by omega⟩,fun h=>by omega⟩
  rw[decide_eq_false a];exact⟨fun h=>(by cases h),fun h=>absurd h.2.1 a⟩
theorem zd {v:Qx} {now:Int} (hn:now<=100000):mu v now=true↔kr (⟨v.Id,v.m⟩:bf)=true∧0<=v.w∧v.w<=now∧(v.x= -1∨(v.w+1<=v.x∧v.x<=now)):=by
 rw[pA];simp only[Bool.and_eq_true,Bool.or_eq_true,decide_eq_true_eq,beq_iff_eq];constructor
 ·rintro⟨⟨a,b,c⟩,d⟩;rw[ia (by omega) (by omega)] at d;exact⟨a,b,c,d⟩
 rintro⟨a,b,c,d⟩;rw[ia (by omega) (by omega)];exact⟨⟨a,b,c⟩,d⟩
def mS (l:List bk) (k:Nat):Bool:= !decide (0<((k:Nat):Int)) || !decide ((gt l k).Id<=(gt l (k-1)).Id)
theorem fU {α:Type} [Inhabited α] {g:α->Int} {l:List α} (h:∀ k,0<k->k<l.length->g (gt l (k-1))<g (gt l k)):l.Pairwise (fun a b=>g a<g b):=by
 have hc:∀ c i,i+c+1<l.length->g (gt l i)<g (gt l (i+c+1)):=fun c=>by
  induction c with
  |zero=>intro i hi;exact h (i+1) (by omega) hi
  |succ c ih=>
   intro i hi;have a:=ih i (by omega);have b:=h (i+(c+1)+1) (by omega) hi;rw[show i+(c+1)+1-1=i+c+1 by omega] at b;omega
 rw[List.pairwise_iff_getElem];intro i j hi hj hij;have:=hc (j-i-1) i (by omega);rw[show i+(j-i-1)+1=j by omega,gj hi,gj hj] at this;exact this
theorem Ld {l:List bk} (h:na l=true):l.length<=24∧(∀ q∈l,kk q=true)∧l.Pairwise (fun a b=>a.Id<b.Id):=by
 unfold na at h
 rw[re (p:=fun k=>kk (gt l k) && mS l k) (r:=false) (fun k _=>by
  unfold xg mS
  cases kk (gt l k) <;>cases decide (0<((k:Nat):Int)) <;>cases decide ((gt l k).Id<=(gt l (k-1)).Id) <;>rfl)] at h
 have ha:(List.range l.length).all (fun k=>kk (gt l k) && mS l k)=true∧decide (((l.length:Nat):Int)<=24)=true:=by
  revert h
  cases (List.range l.length).all (fun k=>kk (gt l k) && mS l k) with
  |true=>intro h;exact⟨rfl,h⟩
  |false=>intro h;cases h
 obtain⟨ha,hl⟩:=ha;rw[decide_eq_true_eq] at hl;rw[List.all_eq_true] at ha;refine⟨by omega,fun q hq=>?_,fU (g:=fun q:bk=>q.Id) fun k _ d=>?_⟩
 ·obtain⟨i,hi,rfl⟩:=List.mem_iff_getElem.1 hq;have:=ha i (List.mem_range.2 hi);rw[Bool.and_eq_true] at this;rw[<- gj hi];exact this.1
 have:=ha k (List.mem_range.2 d);rw[Bool.and_eq_true] at this;have c:=this.2;unfold mS at c;rw[decide_eq_true (show(0:Int)<((k:Nat):Int) by omega),Bool.not_true,Bool.false_or,Bool.not_eq_true',decide_eq_false_iff_not] at c;omega
theorem qU {R S:Type} {b:Nat->S->R⊕(S⊕S)} {n:Nat} {P:Nat->S->Prop} {Q:S->Prop} (h:∀ k s,k<n->P k s->(∃ s',b k s= .inr (.inr s')∧P (k+1) s')∨∃ s',b k s= .inr (.inl s')∧Q s'):∀ m k s,m+k=n->P k s->∃ s',gq b m k s= .inr s'∧(Q s'∨P n s')
 |0,k,s,e,hp=>⟨s,rfl, .inr (by rw[show n=k by omega];exact hp)⟩
 |m+1,k,s,e,hp=>by
  rcases h k s (by omega) hp with⟨s',a,c⟩|⟨s',a,c⟩
  ·obtain⟨s'',d,f⟩:=qU h m (k+1) s' (by omega) c;exact⟨s'',by rw[gq,a];exact d,f⟩
  exact⟨s',by rw[gq,a];rfl, .inl c⟩
theorem vS {l:List bk} {n:Int} (h:((l.length:Nat):Int)<=n∧∀ q∈l,q.o.length<=3∧q.q.length<=3) (hn:n<=100):l.length<=68719476736∧∀ z∈l,lj 68719476736 z:=⟨by omega,fun z hz=>⟨by have:=(h.2 z hz).1;omega,by have:=(h.2 z hz).2;omega⟩⟩
theorem eN (l:List bk) (f v:Int):(kh l f v).length<=l.length:=by
 unfold kh
 obtain⟨s',e,h⟩:=qU (R:=List Int) (b:=fun k (s:List Int)=>zz l f v k s) (n:=l.length) (P:=fun k s=>s.length<=k) (Q:=fun s=>s.length<=l.length) (fun k s hk _=>by
  have happ:∀ y,(s++[y]).length<=k+1:=fun y=>by rw[List.length_append];show s.length+1<=k+1;omega
  show(∃ s',zz l f v k s= .inr (.inr s')∧_)∨∃ s',zz l f v k s= .inr (.inl s')∧_;unfold zz;cases na l with
  |false=>exact .inr ⟨_,rfl,by omega⟩
  |true=>
  cases cm f 0 2 with
  |false=>exact .inr ⟨_,rfl,by omega⟩
  |true=>
  cases cm v 0 99 with
  |false=>exact .inr ⟨_,rfl,by omega⟩
  |true=>
  cases se (gt l k) f v with
  |true=>exact .inl ⟨_,rfl,happ _⟩
  |false=>exact .inl ⟨_,rfl,by omega⟩) (l.length-0) 0 [] (by omega) (Nat.zero_le _)
 rw[e];exact h.elim id id
theorem wJ (l:List bk) (f:Int):(jo l f).length<=100∧∀ s∈jo l f,s.E.length<=l.length:=by
 unfold jo;cases na l with
 |false=>exact⟨Nat.zero_le _,fun s a=>by cases a⟩
 |true=>
 cases cm f 0 2 with
 |false=>exact⟨Nat.zero_le _,fun s a=>by cases a⟩
 |true=>
 obtain⟨d,e,h⟩:=ux (R:=List gc) (body:=fun k (s:List gc)=>vc l f k s) (n:=100) (fun k d=>d.length<=k∧∀ s∈d,s.E.length<=l.length) (fun k d _ ⟨g,b⟩=>by
  have happ:∀ y:gc,y.E.length<=l.length->(d++[y]).length<=k+1∧∀ s∈d++[y],s.E.length<=l.length:=fun y hy=>⟨by rw[List.length_append];show d.length+1<=k+1;omega,fun s a=>by
   rcases List.mem_append.1 a with h|h
   ·exact b s h
   rw[List.mem_singleton.1 h];exact hy⟩
  show ∃ s',vc l f k d= .inr s'∧_;unfold vc
  by_cases c:0<d.length
  ·rw[decide_eq_true (show(0:Int)<((d.length:Nat):Int) by omega),cond_true];cases mt ((gt d (d.length-1)).E) (kh l f ((k:Nat):Int)) with
   |true=>
    refine⟨_,rfl,by rw[List.length_set];omega,fun s a=>?_⟩;rcases List.mem_or_eq_of_mem_set a with h|rfl
    ·exact b s h
    exact b (gt d (d.length-1)) (bt (by omega))
   |false=>exact⟨_,rfl,happ _ (eN _ _ _)⟩
  rw[decide_eq_false (show ¬ (0:Int)<((d.length:Nat):Int) by omega),cond_false]
  exact⟨_,rfl,happ _ (eN _ _ _)⟩) (100-0) 0 [] (by omega) ⟨Nat.zero_le _,fun s a=>by cases a⟩
 rw[e];exact h
theorem tK (l:List bk):lm l=⟨[],[]⟩∨lm l=⟨l,[jo l 0,jo l 1,jo l 2]⟩:=by
 unfold lm;cases na l with
 |false=>exact .inl rfl
 |true=>exact .inr rfl
theorem tL {l:List bk} {n:Int} (h:((l.length:Nat):Int)<=n∧∀ q∈l,q.o.length<=3∧q.q.length<=3) (hn:n<=100):rD 68719476736 (lm l):=by
 rcases tK l with e|e
 ·rw[e];exact⟨⟨Nat.zero_le _,fun z hz=>by cases hz⟩,Nat.zero_le _,fun z hz=>by cases hz⟩
 rw[e];have a:∀ f,(jo l f).length<=68719476736∧∀ z∈jo l f,rF 68719476736 z:=fun f=>by
  obtain⟨_,b⟩:=wJ l f;exact⟨by omega,fun z hz=>by have:=b z hz;show z.E.length<=_;omega⟩
 refine⟨vS h hn,(by show 3<=68719476736;decide),fun z hz=>?_⟩;rcases List.mem_cons.1 hz with rfl|hz
 ·exact a 0
 rcases List.mem_cons.1 hz with rfl|hz
 ·exact a 1
 rcases List.mem_cons.1 hz with rfl|hz
 ·exact a 2
 cases hz
def sY (q:bk):Prop:=(0<=q.Id∧q.Id<=23)∧(0<=q.t∧q.t<=3)∧(∀ c∈q.o,(0<=c.Field∧c.Field<=2)∧(0<=c.G∧c.G<=c.H)∧c.H<=99)∧q.o.Pairwise (fun a b=>a.Field<b.Field)∧q.o.length<=3∧(∀ o∈q.q,0<=o∧o<=2)∧1<=q.q.length∧q.q.length<=3
theorem pW {a b:Bool}:cond a b false=true↔a=true∧b=true:=by cases a <;>simp
theorem Bh {a b:Bool}:cond a false b=true↔a=false∧b=true:=by cases a <;>simp
theorem bB {α:Type} [Inhabited α] {xs:List α} {p:α->Bool} {b:Nat->Unit->Bool⊕Unit} (hb:∀ j,j<xs.length->b j ()=cond (p (gt xs j)) (.inr ()) (.inl false)) {X:Bool}:Sum.elim id (fun(_:Unit)=>X) (ax b (xs.length-0) 0 ())=true↔(∀ a∈xs,p a=true)∧X=true:=by
 rw[bS hb];cases h:xs.all p with
 |true=>exact⟨fun hx=>⟨List.all_eq_true.1 h,hx⟩,fun hx=>hx.2⟩
 |false=>
  refine⟨fun hx=>(by cases hx),fun hx=>?_⟩;rw[List.all_eq_true.2 hx.1] at h;cases h
theorem mW {α:Type} [Inhabited α] {xs:List α} {p:α->Bool} {g:α->Int} {b:Nat->Unit->Bool⊕Unit} (hb:∀ j,j<xs.length->b j ()=cond (p (gt xs j)) (cond (decide (0<((j:Nat):Int))) (cond (decide (g (gt xs j)<=g (gt xs (j-1)))) (.inl false) (.inr ())) (.inr ())) (.inl false)) {X:Bool}:Sum.elim id (fun(_:Unit)=>X) (ax b (xs.length-0) 0 ())=true↔((∀ a∈xs,p a=true)∧xs.Pairwise (fun a b=>g a<g b))∧X=true:=by
 rw[re (p:=fun k=>p (gt xs k) && (!decide (0<((k:Nat):Int)) || !decide (g (gt xs k)<=g (gt xs (k-1))))) (r:=false) (fun k hk=>by
  rw[hb k hk]
  cases p (gt xs k) <;>cases decide (0<((k:Nat):Int)) <;>cases decide (g (gt xs k)<=g (gt xs (k-1))) <;>rfl)]
 have key:(List.range xs.length).all (fun k=>p (gt xs k) && (!decide (0<((k:Nat):Int)) || !decide (g (gt xs k)<=g (gt xs (k-1)))))=true↔((∀ a∈xs,p a=true)∧xs.Pairwise (fun a b=>g a<g b)):=by
  rw[List.all_eq_true];constructor
  ·intro ha;refine⟨fun q hq=>?_,fU (g:=g) fun k _ e=>?_⟩
   ·obtain⟨i,hi,rfl⟩:=List.mem_iff_getElem.1 hq;have:=ha i (List.mem_range.2 hi);rw[Bool.and_eq_true] at this;rw[<- gj hi];exact this.1
   have:=ha k (List.mem_range.2 e);rw[Bool.and_eq_true] at this;have c:=this.2;rw[decide_eq_true (show(0:Int)<((k:Nat):Int) by omega),Bool.not_true,Bool.false_or,Bool.not_eq_true',decide_eq_false_iff_not] at c;omega
  rintro⟨d,c⟩ k hk;have hk:=List.mem_range.1 hk;rw[Bool.and_eq_true];refine⟨d _ (bt hk),?_⟩
  by_cases f:0<k
  ·rw[decide_eq_false (show ¬ g (gt xs k)<=g (gt xs (k-1)) by
    have:=List.pairwise_iff_getElem.1 c (k-1) k (by omega) hk (by omega);rw[gj hk,gj (by omega)]
    omega)]
   simp
  rw[decide_eq_false (show ¬ (0:Int)<((k:Nat):Int) by omega)];rfl
 rw[<- key];cases (List.range xs.length).all (fun k=>p (gt xs k) && (!decide (0<((k:Nat):Int)) || !decide (g (gt xs k)<=g (gt xs (k-1))))) with
 |true=>exact⟨fun hx=>⟨rfl,hx⟩,fun hx=>hx.2⟩
 |false=>exact⟨fun hx=>(by cases hx),fun hx=>(by cases hx.1)⟩
def tn (n:Nat) (l:List Int):Prop:=(∀ y∈l,0<=y∧y<((n:Nat):Int))∧l.Pairwise (fun a b=>a<b)∧0<l.length
def oX (l:List bf):Prop:=(∀ r∈l,kr r=true)∧l.length<=1000
def aR (s:Qy) (a:Qq):Prop:=kk a.g=true∧(0<=a.u∧a.u<=s.e)∧tn s.a.length a.r∧(0<=a.y∧a.y<=100000)∧(0<=a.A∧a.A<=1000)∧(0<=a.z∧a.z<=32)∧oX a.p
def uL (s:Qy) (f:fv):Prop:=kk f.g=true∧(0<=f.u∧f.u<=s.e)∧(0<=f.n∧f.n<=100000)∧oX f.p
structure gu (x:Qk):Prop where
 st:mb x.d=true
 cur:0<=x.l∧x.l<((x.d.a.length:Nat):Int)
 ord:qj x.k=true
 al:x.c.length<=8
 stp:0<=x.n∧x.n<=100000
 dl:x.f.length<=1000
 ll:x.j.length<=1000
 act:∀ a∈x.c,aR x.d a
 srt:x.c.Pairwise (fun a b=>a.g.Id<b.g.Id)
 fin:∀ f∈x.f,uL x.d f
 led:∀ c∈x.j,rg c=true
theorem Kv (l:List bf):si l=true↔oX l:=by
 unfold si oX;rw[bB (p:=kr) (fun _ _=>rfl),decide_eq_true_iff];constructor <;>rintro⟨a,_⟩ <;>exact⟨a,by omega⟩
theorem wQ {n:Nat} (l:List Int) (hn:n<=1000):cO l ((n:Nat):Int)=true↔tn n l:=by
 unfold cO tn;rw[mW (p:=fun y=>cm y 0 (IntKind.i64.wrap (((n:Nat):Int)-1))) (g:=id) (fun _ _=>rfl),decide_eq_true_iff];rw[ia (by omega) (by omega)];simp only[kl,decide_eq_true_iff,id];constructor
 ·rintro⟨⟨a,b⟩,c⟩;exact⟨fun y hy=>by have:=a y hy;omega,b,by omega⟩
 rintro⟨a,b,c⟩;exact⟨⟨fun y hy=>by have:=a y hy;omega,b⟩,by omega⟩
theorem cW (x:Qk) (a:Qq) (h:x.d.a.length<=1000):ub x a=true↔aR x.d a:=by
 unfold ub aR;simp only[pW,kl,decide_eq_true_iff,Kv,wQ _ h]
theorem pd (x:Qk):ka x=true↔gu x:=by
 unfold ka;simp only[pW,Bh,kl,decide_eq_true_iff,decide_eq_false_iff_not];constructor
 ·rintro⟨k,m,o,_,r,_,_,l⟩;have t:=((la _).1 k).1;rw[ia (by omega) (by omega)] at m
  rw[mW (p:=ub x) (g:=fun a=>a.g.Id) (fun _ _=>rfl),bB (p:=fun f=>kk f.g && cm f.u 0 x.d.e && cm f.n 0 100000 && si f.p) (fun j _=>by
   unfold cE
   cases kk (gt x.f j).g <;>cases cm (gt x.f j).u 0 x.d.e <;>cases cm (gt x.f j).n 0 100000 <;>cases si (gt x.f j).p <;>rfl),bB (p:=rg) (fun _ _=>rfl)] at l
  obtain⟨⟨s,b⟩,c,i,_⟩:=l
  exact⟨k,by omega,o,by omega,r,by omega,by omega,fun a ha=>(cW x a (by omega)).1 (s a ha),b,fun f hf=>by
   have:=c f hf;simp only[Bool.and_eq_true,kl,decide_eq_true_iff,Kv] at this
   exact⟨this.1.1.1,this.1.1.2,this.1.2,this.2⟩,i⟩
 intro h;have t:=((la _).1 h.st).1;have hcur:=h.cur;have hal:=h.al;have hdl:=h.dl;have hll:=h.ll;rw[ia (by omega) (by omega)]
 rw[mW (p:=ub x) (g:=fun a=>a.g.Id) (fun _ _=>rfl),bB (p:=fun f=>kk f.g && cm f.u 0 x.d.e && cm f.n 0 100000 && si f.p) (fun j _=>by
  unfold cE
  cases kk (gt x.f j).g <;>cases cm (gt x.f j).u 0 x.d.e <;>cases cm (gt x.f j).n 0 100000 <;>cases si (gt x.f j).p <;>rfl),bB (p:=rg) (fun _ _=>rfl)]
 refine⟨h.st,by omega,h.ord,by omega,h.stp,by omega,by omega,⟨fun a ha=>(cW x a (by omega)).2 (h.act a ha),h.srt⟩,fun f hf=>?_,h.led,rfl⟩;simp only[Bool.and_eq_true,kl,decide_eq_true_iff,Kv];have:=h.fin f hf;exact⟨⟨⟨this.1,this.2.1⟩,this.2.2.1⟩,this.2.2.2⟩
theorem tH {l:List bk} (c:∀ q∈l,kk q=true) (d:l.Pairwise (fun a b=>a.Id<b.Id)) (e:l.length<=24):na l=true:=by
 unfold na;rw[mW (p:=kk) (g:=fun q=>q.Id) (fun _ _=>rfl)];exact⟨⟨c,d⟩,decide_eq_true (by omega)⟩
theorem cZ {l:List bk} (hq:na l=true):lm l=⟨l,[jo l 0,jo l 1,jo l 2]⟩:=by
 unfold lm;rw[hq];rfl
theorem gN {α:Type} [Inhabited α] {xs:List α} {i:Nat} (h: ¬ i<xs.length):gt xs i=default:=by
 unfold gt;rw[List.getD_eq_getElem?_getD,List.getElem?_eq_none (by omega)];rfl
theorem Bq {α:Type} [Inhabited α] {P:α->Prop} {d:List α} {k:Nat} {y:α} (h:∀ i,P (gt d i)) (hy:P y):∀ i,P (gt (d.set k y) i):=fun i=>by
 by_cases hi:i=k
 ·subst hi
  by_cases hl:i<d.length
  ·have e:gt (d.set i y) i=y:=by unfold gt;rw[List.getD_eq_getElem?_getD,List.getElem?_set_self hl];rfl
   rw[e];exact hy
  have e:d.set i y=d:=List.set_eq_of_length_le (by omega);rw[e];exact h i
 have e:gt (d.set k y) i=gt d i:=by unfold gt;rw[List.getD_eq_getElem?_getD,List.getD_eq_getElem?_getD,List.getElem?_set_ne (fun e=>hi e.symm)]
 rw[e];exact h i
theorem jU:∀ (l:List Int) (a b:Int),l.Pairwise (fun x y=>x<y)->(∀ y∈l,a<=y∧y<b)->l.length<=(b-a).toNat
 | [],_,_,_,_=>Nat.zero_le _
 |x::l,a,b,h,hb=>by
  rw[List.pairwise_cons] at h;have:=hb x (List.mem_cons_self ..);have:=jU l (x+1) b h.2 fun y hy=>⟨by have:=h.1 y hy;omega,(hb y (List.mem_cons_of_mem _ hy)).2⟩
  rw[List.length_cons];omega
theorem eP {n:Nat} {l:List Int} (h:tn n l):l.length<=n:=by
 have:=jU l 0 n h.2.1 (fun y hy=>h.1 y hy);omega
theorem wN {x:Qk} (h:gu x) (i:Nat):(gt x.c i).r.length<=8∧(gt x.c i).p.length<=1000+4*0:=by
 by_cases hi:i<x.c.length
 ·have ha:=h.act _ (bt hi);have:=((la _).1 h.st).1;have:=eP ha.2.2.1;have:=ha.2.2.2.2.2.2.2;omega
 rw[gN hi];exact⟨Nat.zero_le _,Nat.zero_le _⟩
def pg (c:Int) (a:Qq):Bool:=rz a && pe a.r c
theorem vB (x:Qk):zp x=cond (ot x) ((x.c.filter (pg x.l)).map fun a=>a.g.Id) []:=by
 unfold zp
 rw[pp (xs:=x.c) (f:=fun d a=>cond (pg x.l a) (d++[a.g.Id]) d) (b:=fun k s=>bM x k s) (fun j s _=>by
  unfold bM pg
  cases rz (gt x.c j) <;>cases pe (gt x.c j).r x.l <;>rfl),zk]
 rfl
theorem oV {q:bk} (h:kk q=true):sY q:=by
 unfold kk at h;rw[mW (p:=rh) (g:=fun c=>c.Field) (fun _ _=>rfl)] at h;obtain⟨⟨d,e⟩,a⟩:=h;unfold sE at a;simp only[pW,kl,decide_eq_true_iff] at a;obtain⟨f,i,_,b⟩:=a;rw[bB (p:=fun o=>decide (0<=o∧o<=2)) (fun k _=>by unfold aA;rw[kl])] at b;obtain⟨j,l⟩:=b;rw[decide_eq_true_iff] at l;refine⟨f,i,fun c hc=>?_,e,by omega,fun o ho=>of_decide_eq_true (j o ho),by omega,by omega⟩;have:=d c hc;unfold rh at this;simp only[pW,kl,decide_eq_true_iff] at this;exact this
theorem uM {x y:Qk} (h:x.c.map (fun a=>a.g.Id)=y.c.map (fun a=>a.g.Id)) (i:Int):da x i=da y i:=by
 have hl:x.c.length=y.c.length:=by have:=congrArg List.length h;simpa using this
 unfold da;rw[hl];have e:∀ m k,m+k=y.c.length->ax (R:=Int) (fun k (_:Unit)=>nb x i k) m k ()=ax (R:=Int) (fun k (_:Unit)=>nb y i k) m k ():=by
  intro m
  induction m with
  |zero=>intro k _;rfl
  |succ m ih=>
   intro k hk;have hb:nb x i k=nb y i k:=by
    unfold nb;have b:(x.c.map fun a=>a.g.Id)[k]?=(y.c.map fun a=>a.g.Id)[k]?:=by rw[h]
    rw[List.getElem?_map,List.getElem?_map,er (show k<x.c.length by omega),er (show k<y.c.length by omega)] at b;have d:(gt x.c k).g.Id=(gt y.c k).g.Id:=Option.some.inj b;rw[d]
   rw[ax,ax,hb];cases nb y i k with
   |inl r=>rfl
   |inr u=>exact ih (k+1) (by omega)
 rw[e _ _ (by omega)]
theorem aV {x:Qk} (h:x.c.Pairwise (fun a b=>a.g.Id<b.g.Id)) {i:Nat} (hi:i<x.c.length):da x (gt x.c i).g.Id=((i:Nat):Int):=by
 unfold da;have hne:∀ j,j<i->(gt x.c j).g.Id≠(gt x.c i).g.Id:=fun j hj=>by
  have:=List.pairwise_iff_getElem.1 h j i (by omega) hi hj;rw[gj (by omega),gj hi];omega
 have e:∀ m k,m+k=x.c.length->k<=i->ax (R:=Int) (fun k (_:Unit)=>nb x (gt x.c i).g.Id k) m k ()= .inl ((i:Nat):Int):=by
  intro m
  induction m with
  |zero=>intro k d f;omega
  |succ m ih=>
   intro k d f;rw[ax];show Sum.elim _ _ (nb x (gt x.c i).g.Id k)=_;unfold nb
   by_cases hk:k=i
   ·subst hk;rw[beq_self_eq_true];rfl
   rw[beq_eq_false_iff_ne.2 (hne k (by omega))];exact ih (k+1) (by omega) (by omega)
 rw[e _ _ (by omega) (Nat.zero_le _)];rfl
def mo (x:Qk) (ids:List Int):List bk:=ids.map fun y=>(gt x.c (da x y).toNat).g
theorem eK {x:Qk} {ids:List Int} {k:Nat} (h:k<ids.length):mo x (ids.take (k+1))=mo x (ids.take k)++[(gt x.c (da x (gt ids k)).toNat).g]:=by
 unfold mo;rw[List.take_add_one,er h,List.map_append];rfl
theorem wG {B:Nat} {x:Qk} (h:lz B x) {ids:List Int} (hl:ids.length<=B):(mo x ids).length<=B∧∀ y∈mo x ids,lj B y:=by
 unfold mo;refine⟨by rw[List.length_map];exact hl,fun y hy=>?_⟩;obtain⟨i,_,rfl⟩:=List.mem_map.1 hy
 by_cases hi:(da x i).toNat<x.c.length
 ·exact(h.2.2.1.2 _ (bt hi)).1
 rw[gN hi];exact⟨Nat.zero_le _,Nat.zero_le _⟩
theorem uH {x:Qk} (h:gu x):x.c.length<=9223372036854775807:=by have:=h.al;omega
theorem aX {x:Qk} (h:gu x):ct x=(x.c.filter (pg x.l)).map fun a=>a.g.Id:=by
 rw[<- vC x (uH h),vB,tl,(pd x).2 h];rfl
theorem eI {x:Qk} (h:gu x):mo x (ct x)=(x.c.filter (pg x.l)).map fun a=>a.g:=by
 rw[aX h];unfold mo;rw[List.map_map];refine List.map_congr_left fun a ha=>?_
 obtain⟨i,hi,rfl⟩:=List.mem_iff_getElem.1 (List.mem_filter.1 ha).1;show(gt x.c (da x (x.c[i]).g.Id).toNat).g=_;rw[<- gj hi,aV h.srt hi,Int.toNat_natCast]
theorem eH {x:Qk} (h:gu x):na (mo x (ct x))=true:=by
 rw[eI h];refine tH (fun q hq=>?_) ?_ ?_
 ·obtain⟨a,ha,rfl⟩:=List.mem_map.1 hq;exact(h.act a (List.mem_filter.1 ha).1).1
 ·rw[List.pairwise_map];exact h.srt.filter _
 rw[List.length_map];have:=List.length_filter_le (pg x.l) x.c;have:=h.al;omega
theorem mA {x:Qk} (h:gu x):(ct x).length<=8:=by
 rw[aX h,List.length_map];have:=List.length_filter_le (pg x.l) x.c;have:=h.al;omega
theorem wD {x:Qk} (h:gu x) (y:Int) (hy:y∈ct x):0<=da x y:=by
 rw[aX h] at hy;obtain⟨a,ha,rfl⟩:=List.mem_map.1 hy;obtain⟨i,hi,rfl⟩:=List.mem_iff_getElem.1 (List.mem_filter.1 ha).1;rw[<- gj hi,aV h.srt hi];omega
theorem eJ {x:Qk} (h:gu x):(lm (mo x (ct x))).F.length=3∧rD 68719476736 (lm (mo x (ct x))):=by
 have ha:=eH h;obtain⟨hl,hq,_⟩:=Ld ha
 exact⟨by rw[cZ ha];rfl,tL (n:=24) ⟨by omega,fun q hq'=>by
  have:=oV (hq q hq');obtain⟨_,_,_,_,a,_,_,b⟩:=this
  exact⟨a,b⟩⟩ (by decide)⟩
theorem wE {x:Qk} (h:gu x) {j:Nat} (hj:j<(gt x.d.a x.l.toNat).length):(gt (gt x.d.a x.l.toNat) j).m.length=3:=by
 have hc:=h.cur;have b:=(la _).1 h.st;have hv:=b.2.2.2.1 _ (List.mem_flatten.2 ⟨_,bt (show x.l.toNat<x.d.a.length by omega),bt hj⟩);exact((zc _).1 ((zd b.2.1.2).1 hv).1).2.2
theorem oZ {x:Qk} (h:gu x):(gt x.d.a x.l.toNat).length<=4:=by
 have hc:=h.cur;exact((la _).1 h.st).2.2.1 _ (bt (by omega))
theorem Lg {x:Qk} {d:List Qq} (h:d.map (fun a=>a.g.Id)=x.c.map (fun a=>a.g.Id)) (y:Int):da (⟨x.d,x.l,x.k,d,x.f,x.j,x.n⟩:Qk) y=da x y∧d.length=x.c.length:=by
 refine⟨uM h y,?_⟩;have:=congrArg List.length h;rw[List.length_map,List.length_map] at this;exact this
theorem lP (l:List Int) (c:Int):tf l c=l.filter (fun y=>y !=c):=by
 unfold tf
 rw[pp (xs:=l) (f:=fun d y=>cond (y !=c) (d++[y]) d) (b:=fun k s=>rX l c k s) (fun j s _=>by
  unfold rX
  cases gt l j !=c <;>rfl),zk (fun y=>y !=c) (fun y=>y)]
 show []++_=_;rw[List.nil_append,List.map_id']
theorem Km (l:List Int) (c:Int):(tf l c).length<=l.length:=by
 rw[lP];exact List.length_filter_le _ _
theorem qZ {d:List Qq} {k:Nat} {y:Qq} (h:y.g.Id=(gt d k).g.Id):(d.set k y).map (fun(a:Qq)=>a.g.Id)=d.map (fun(a:Qq)=>a.g.Id):=by
 refine List.ext_getElem? fun i=>?_
 rw[List.getElem?_map,List.getElem?_map,List.getElem?_set]
 by_cases hk:k=i
 ·subst hk
  by_cases hl:k<d.length
  ·rw[if_pos rfl,if_pos hl,er hl];exact congrArg some h
  rw[if_pos rfl,if_neg hl,List.getElem?_eq_none (by omega)]
 rw[if_neg hk]
theorem oY {d:List Qq} {k:Nat} {y:Qq} {n m:Nat} (h:∀ i,(gt d i).r.length<=8∧(gt d i).p.length<=n) (hn:n<=m) (b:y.r.length<=(gt d k).r.length) (c:y.p.length+n<=(gt d k).p.length+m):∀ i,(gt (d.set k y) i).r.length<=8∧(gt (d.set k y) i).p.length<=m:=
 Bq (P:=fun(a:Qq)=>a.r.length<=8∧a.p.length<=m) (fun i=>by have:=h i;omega) (by have:=h k;omega)
abbrev rj (x0:Qk) (G161:Int) (k190:Nat) (d192:(List Qq)):(List bf):=
 ((gt d192 (G161.toNat)).p++[(⟨(gt (gt x0.d.a (x0.l.toNat)) k190).Id,(gt (gt x0.d.a (x0.l.toNat)) k190).m⟩:bf)])
abbrev vd (x0:Qk) (G161:Int) (k190:Nat) (d192:(List Qq)):(List Qq):=
 (d192.set (G161.toNat) (⟨(gt d192 (G161.toNat)).g,(gt d192 (G161.toNat)).u,(gt d192 (G161.toNat)).r,(gt d192 (G161.toNat)).y,(gt d192 (G161.toNat)).A,(gt d192 (G161.toNat)).z,(rj x0 G161 k190 d192)⟩:Qq))
abbrev cI (x0:Qk) (G161:Int) (s191:Int) (d192:(List Qq)):(List Qq):=
 (d192.set (G161.toNat) (⟨(gt d192 (G161.toNat)).g,(gt d192 (G161.toNat)).u,(tf ((gt d192 (G161.toNat)).r) x0.l),(gt d192 (G161.toNat)).y,(IntKind.i64.wrap (((gt d192 (G161.toNat)).A)+s191)),(gt d192 (G161.toNat)).z,(gt d192 (G161.toNat)).p⟩:Qq))
def cH (b:Qk) (p:(List Int)) (o:(List bk)) (g:Nat) (i:(List Qq)) (e:Nat) (h:Int) (c:(List Qq)):Qk⊕(Int×(List Qq)):=
 cond (ln ((sh (lm o) (⟨(gt (gt b.d.a (b.l.toNat)) e).Id,(gt (gt b.d.a (b.l.toNat)) e).m⟩:bf) b.k).1) (gt p g)) (cond (ri (gt (gt b.d.a (b.l.toNat)) e) ((gt c ((da (⟨b.d,b.l,b.k,i,b.f,b.j,b.n⟩:Qk) (gt p g)).toNat)).u)) (Sum.inr ((IntKind.i64.wrap (h+1)),(vd b (da (⟨b.d,b.l,b.k,i,b.f,b.j,b.n⟩:Qk) (gt p g)) e c))) (Sum.inr (h,c))) (Sum.inr (h,c))
abbrev cJ (x0:Qk) (x1:(List Int)) (d143:(List Int)) (d147:(List Int)):(List gn):=
 (x0.j++[(⟨x0.l,(((gt x0.d.a (x0.l.toNat)).length:Nat):Int),x1,d143,d147⟩:gn)])
def cG (c:Qk) (o:(List Int)) (m:(List bk)) (e:Nat) (h:(List Int)) (i:(List Int)) (b:(List Qq)):Qk⊕((List Int)×(List Int)×(List Qq)):=
 Sum.elim Sum.inl (fun(s:Int×(List Qq))=>Sum.inr ((h++[(gt b ((da (⟨c.d,c.l,c.k,b,c.f,c.j,c.n⟩:Qk) (gt o e)).toNat)).g.t]),(i++[s.1]),(cI c (da (⟨c.d,c.l,c.k,b,c.f,c.j,c.n⟩:Qk) (gt o e)) s.1 s.2))) (ax (R:=Qk) (fun k (s:Int×(List Qq))=>cH c o m e b k s.1 s.2) ((gt c.d.a (c.l.toNat)).length-0) 0 (0,b))
def ya (d:Qk) (e:(List Int)) (b:Nat) (a:(List bk)):Qk⊕((List bk)):=
 Sum.inr (a++[(gt d.c ((da d (gt e b)).toNat)).g])
def su (a:Qk) (b:(List Int)):Qk:=
 Sum.elim id (fun(s1_:(List bk))=>Sum.elim id (fun(s:(List Int)×(List Int)×(List Qq))=>(⟨a.d,a.l,a.k,s.2.2,a.f,(cJ a b s.1 s.2.1),a.n⟩:Qk)) (ax (R:=Qk) (fun k (s:(List Int)×(List Int)×(List Qq))=>cG a b s1_ k s.1 s.2.1 s.2.2) (b.length-0) 0 ([],[],a.c))) (ax (R:=Qk) (fun k (s:(List bk))=>ya a b k s) (b.length-0) 0 [])
theorem zI:Cb Tryz.prog 133:=⟨f133,_,func133,rfl,by decide⟩
theorem Hl (B:Nat) (w0:World) (is:List It) (w:World) (p:Nat) (z0:List Value) (I:Qk) (z1:Value) (U:(List Int)) (H0:lz 68719476736 I) (B4:U.length<=68719476736) (hE:gu I) (hI:U=ct I) (M:Mem B w0 (Qa p 39 z0::Qg cc z0 I::Qg (ab Qb 3) [z1] U::is) w):
 Calls Tryz.prog 133 #[.pointer (sA p),z1] w fun e w'=>∃ x:List Value,e= .returned (.tuple #[])∧Mem B w0 (Qa p 39 x::Qg cc x (su I U)::Qg (ab Qb 3) [z1] U::is) w':=by
 refine nv (L:=[(0, .pointer (sA p)),(1,z1)]) (N:=214) func133 rfl rfl (Nat.le_of_ble_eq_true rfl) (jl rfl (jl rfl mi)) M ?_;refine ek (js:=(Qg cc z0 I::Qa p 39 z0::Qg (ab Qb 3) [z1] U::is)) (fun W M=>(M.front (n:=1) rfl)) ?_;refine om (γ:=Value×Value×Value×Value×Value) (js:=fun g=>[Qg (ab (ab Qp 163) 100) [g.1] I.d.a,Qg (ab Qb 3) [g.2.1] I.k,Qg (ab Qu 61) [g.2.2.1] I.c,Qg (ab bg 80) [g.2.2.2.1] I.f,Qg (ab be 102) [g.2.2.2.2] I.j]) (C:=fun g=>z0=[g.1,iV I.d.e,iV I.l,g.2.1,g.2.2.1,g.2.2.2.1,g.2.2.2.2,iV I.n]) (fun _ _ h=>nZ h) ?_;rintro⟨_,_,_,_,_⟩ rfl;refine ic (n:=0) rfl ?_;rintro A6 c7 rfl m8;refine ic (n:=1) rfl ?_;rintro r0 t0 rfl C6;refine ic (n:=2) rfl ?_;rintro I0 b0 rfl D6;refine ic (n:=3) rfl ?_;rintro s0 u0 rfl E6;refine ic (n:=4) rfl ?_;rintro C0 D0 rfl F6;refine ic (n:=6) rfl ?_;rintro J0 v0 rfl G6;have:I.d.a.length<=68719476736:=H0.1.1;have:=H0.2.1;have:=H0.2.2.1.1;have:=H0.2.2.2.1.1;have:=H0.2.2.2.2.1;have:U.length<=68719476736:=B4;have:=hE.al;have:=hE.cur;have:=((la _).1 hE.st).1;have:=hE.dl;have:=hE.ll;have:=hE.stp;have:U.length<=8:=by rw[hI];exact mA hE
 have hin:∀ y∈U,0<=da I y:=by rw[hI];exact wD hE
 have ho:=xq hE.ord;have hsg:=oZ hE;refine tM (fun W0 E0=>?_);have p4:=E0.rdSI (n:=0) rfl;have:=bQ p4;have q4:=E0.rdSI (n:=1) rfl;have:=bQ q4;have V3:=E0.rdSI (n:=2) rfl;have n4:=bQ V3;have r4:=E0.rdSI (n:=3) rfl;have:=bQ r4;have s4:=E0.rdSI (n:=4) rfl;have:=bQ s4;have t4:=E0.rdSI (n:=6) rfl;have o4:=bQ t4;have O2:=E0.rdPBox (T:=cc) (n:=5) rfl (fx (x:=I) (E0.rdSI (n:=0) rfl) (E0.rdSI (n:=1) rfl) (E0.rdSI (n:=2) rfl) (E0.rdSI (n:=3) rfl) (E0.rdSI (n:=4) rfl));refine sr ?_;refine ez (E:=(kw es W0 W0.heap.size)) oh dh (Qf rfl) (by decide) (fun m4=>?_);refine wa (aa (Qi (sr (wa (aa (aw ?_))))));refine dw (S:=(List bk)) (R:=Option Addr×Nat) (fun k (s:(List bk))=>ya I U k s) U.length 0 [] ((sA m4),0) (fun s=>[(0,bp p),(1, .slice J0 U.length v0),(4, .slice s.2.2.1 s.2.1.length s.2.2.2),(5,nI s.1)]) (fun s=>[iS (kw es W0 W0.heap.size) 58 s.2.2.1 s.2.2.2 s.2.1]) (fun s=>s.2.1.length<=0+s.1∧s.2.1=mo I (U.take s.1)) eo ⟨Nat.le_refl _,rfl⟩ ?_;rintro⟨d0,c0,⟨k3,M3⟩⟩ l3 _ _ e e';dsimp only at l3 ⊢;subst e e';obtain⟨_,H2,_,I2⟩:=l3;refine Qi (sr (wm (wm ?_)));refine wv (bh Qt) ?_;refine wv df ?_;refine aa ?_;rcases dz d0 U.length with⟨J2,b3⟩|⟨J2,b3⟩
 ·have l4:=hin _ (bt (show d0<U.length from by omega));have hfl:=cD I (gt U d0);refine Qr rfl b3 ?_;refine an (Qj (Qi (aw ?_)));refine rb 19 (s:=[]) (pk []) ?_;refine qt 19 0 1 rfl ap ?_;refine qt 19 1 3 rfl ap ?_;refine qt 19 2 7 rfl (fun W M=>ip rfl) ?_;refine qt 19 3 15 rfl (vf Qs rfl ef) ?_;refine qt 19 4 31 rfl (fun W M=>ci bo rfl rfl (fG O2 rfl rfl M (o:=4) rfl)) ?_;refine qt 19 5 63 rfl ap ?_;refine qt 19 6 127 rfl (fun W M=>ip rfl) ?_;refine qt 19 7 255 rfl (fun W M=>Qw (cs:=[.slice A6 I.d.a.length c7,iV I.d.e,iV I.l, .slice r0 I.k.length t0, .slice I0 I.c.length b0, .slice s0 I.f.length u0, .slice C0 I.j.length D0,iV I.n]) Qs Qv rfl rfl (yY O2 rfl rfl M)) ?_;refine qt 19 8 511 rfl ap ?_;refine qt 19 9 1023 rfl ap ?_;obtain⟨b4,rfl,N3,Q3⟩:=o4 (by omega);refine qt 19 10 2047 rfl (bv 1 d0 Qt Qh) ?_;refine qt 19 11 4095 rfl (fun W M=>ci Qz rfl rfl ((M.cell0 (show(b4.add (d0*1)).block<W0.heap.size from by rw[bj];exact N3.1)).trans (kd Q3 d0 (by omega)))) ?_;refine qo 19 12 8191 rfl ?_;refine fk (Qo pP rfl) (fun W M=>rJ W _ _ _ _ _ _ _ _ I (gt U d0) (M.rdS0 V3)) ?_;refine qn (pk []) ?_;obtain⟨c4,rfl,O3,R3⟩:=n4 (by omega);refine qt 19 13 16383 rfl (fun W M=>gx (sz:=10) (k:=(da I (gt U d0))) bo cq rfl rfl rfl (by omega) (by omega)) ?_;refine qt 19 14 32767 rfl (vf cy rfl dh) ?_;obtain⟨_,g4,P3⟩:=R3 ((da I (gt U d0)).toNat) _ (er (show((da I (gt U d0)).toNat)<I.c.length from by omega));obtain⟨_,_,_,_,rfl,u4,w4,x4,y4⟩:=ng g4;have:=(H0.2.2.1.2 _ (bt (show((da I (gt U d0)).toNat)<I.c.length from by omega))).1.1;have:=(H0.2.2.1.2 _ (bt (show((da I (gt U d0)).toNat)<I.c.length from by omega))).1.2;have:=(H0.2.2.1.2 _ (bt (show((da I (gt U d0)).toNat)<I.c.length from by omega))).2.1;have:=(H0.2.2.1.2 _ (bt (show((da I (gt U d0)).toNat)<I.c.length from by omega))).2.2.1;obtain⟨_,W3,d4,rfl,_,z4⟩:=Qn u4;obtain⟨_,X3,e4,rfl,_,A4⟩:=Qn w4;obtain⟨_,_,_,rfl,_,_⟩:=Qn x4;obtain⟨_,_,_,rfl,_,_⟩:=Qn y4;let K1:List Value:=[iV ((gt I.c ((da I (gt U d0)).toNat)).g.Id),iV ((gt I.c ((da I (gt U d0)).toNat)).g.t), .slice W3 ((gt I.c ((da I (gt U d0)).toNat)).g.o).length d4, .slice X3 ((gt I.c ((da I (gt U d0)).toNat)).g.q).length e4];refine qt 19 15 65535 rfl (fun W M=>Qw (cs:=K1) di dh rfl rfl (M.elPart (show(c4.add (((da I (gt U d0)).toNat)*10)).block<W0.heap.size from by rw[bj];exact O3.1) P3 rfl)) ?_;refine qo 19 16 131071 rfl ?_;refine eb (cs:=K1) oh dh rfl (by decide) (by decide) rfl (by kernel_rfl) (Qf rfl) (by decide) (fun _=>?_);refine qn (pk []) ?_;refine qo 19 17 262143 rfl ?_;refine ga (kw es W0 W0.heap.size) 58 (.slice k3 c0.length M3) c0 ((gt I.c ((da I (gt U d0)).toNat)).g) [] [] K1 ai (fun _ _ hs=>by cases (Sep.nil hs);exact(eg (E:=(kw es W0 W0.heap.size)) (L1:=[]) ⟨rfl,(md z4 A4)⟩ ix)) oh dh (show(c0.length+1)*64<=140737488355328 from by first|omega|(have:=hTd _;omega)) (fun _=>?_);refine fm 0 ?_;rintro i3 J3 rfl E4;refine qn (pk []) ?_;refine qt 19 18 524287 rfl (fun W M=>np rfl) ?_;refine fr (by kernel_rfl) ?_;refine bq (Qj (ao (wm ?_)));refine wv (cb d0 1 (by omega)) ?_;refine wa (bb ?_);exact bu (d0+1,(c0++[(gt I.c ((da I (gt U d0)).toNat)).g]),(i3,J3)) eo ai ⟨(by omega),nx H2 (rfl),(show(c0++[(gt I.c ((da I (gt U d0)).toNat)).g]).length<=0+(d0+1) from by first|omega|(simp only[List.length_append,List.length_cons,List.length_nil] at *;omega)),(show(c0++[(gt I.c ((da I (gt U d0)).toNat)).g])=mo I (U.take (d0+1)) from by rw[eK (by omega), <- I2])⟩ rl
 refine ah rfl b3 ?_;refine dj (av (av ?_));have c3:=dx J2 H2;have hQ:c0=mo I U:=by rw[I2,List.take_of_length_le (by omega)]
 have hf:(lm c0).F.length=3:=by rw[hQ,hI];exact(eJ hE).1
 have hbs:rD 68719476736 (lm c0):=by rw[hQ,hI];exact(eJ hE).2
 have hqs:c0.length<=68719476736∧∀ y∈c0,lj 68719476736 y:=by rw[hQ];exact wG H0 (by omega)
 refine dk (Qj (sr (wm ?_)));refine io ud (lm c0) (Qo Ah rfl) (fun W M=>Gm W _ c0 (M.unbor (M.rdSI (n:=0) rfl)) hqs) (fun _=>?_);refine Kb ?_;rintro⟨_,_⟩ rfl;refine fm 0 ?_;rintro Z1 r2 rfl F4;refine fm 1 ?_;rintro a2 t2 rfl G4;refine br type204 rfl (Qf rfl) (by decide) (fun i0=>?_);let K2:List Value:=[.slice Z1 ((lm c0).J).length r2, .slice a2 ((lm c0).F).length t2];let S0:It:=iS es 58 Z1 r2 ((lm c0).J);let T0:It:=iS (ab kx 238) 225 a2 t2 ((lm c0).F);refine sb 0 K2 [S0,T0,iS (kw es W0 W0.heap.size) 58 k3 M3 c0] ai type204 ?_;refine bb ?_;refine bz (pk [0,1,2]) ?_;refine vI E0 ?_;refine vM (L':=[(0,bp p),(1, .slice J0 U.length v0),(6,bp i0)]) gi ?_;let n1:List It:=iS Qb 3 J0 v0 U::is;show QM 214 _ _ _ .normal [(0,bp p),(1, .slice J0 U.length v0),(6,bp i0)] (Qa i0 204 K2::S0::T0::iS (ab Qp 163) 100 A6 c7 I.d.a::iS Qb 3 r0 t0 I.k::iS Qu 61 I0 b0 I.c::iS bg 80 s0 u0 I.f::iS be 102 C0 D0 I.j::Qa p 39 [.slice A6 I.d.a.length c7,iV I.d.e,iV I.l, .slice r0 I.k.length t0, .slice I0 I.c.length b0, .slice s0 I.f.length u0, .slice C0 I.j.length D0,iV I.n]::n1);refine Qj (Qi ?_);refine qw (n:=3) rfl (by omega) ?_;rintro F0 rfl;let K3:List Value:=[.slice (sA F0) I.d.a.length c7,iV I.d.e,iV I.l, .slice r0 I.k.length t0, .slice I0 I.c.length b0, .slice s0 I.f.length u0, .slice C0 I.j.length D0,iV I.n];let u3:List It:=Qa i0 204 K2::S0::T0::iS Qb 3 r0 t0 I.k::iS Qu 61 I0 b0 I.c::iS bg 80 s0 u0 I.f::iS be 102 C0 D0 I.j::Qa p 39 K3::n1;refine qr (E:=(ab Qp 163)) (e:=100) (A:=(sA F0)) (n:=I.d.a.length) (c:=c7) (xs:=I.d.a) (k:=(I.l.toNat)) (js:=u3) (by omega) (fun W M=>(M.front (n:=3) rfl)) (fun W2=>?_);refine om (γ:=Value) (js:=fun g=>[Qg (ab Qp 163) [g] (gt I.d.a (I.l.toNat))]) (C:=fun g=>W2=[g]) (fun _ _ h=>pt h) ?_;rintro _ rfl;refine ic (n:=0) rfl ?_;rintro N0 q0 rfl H4;refine km (by kernel_rfl) (by kernel_rfl) ?_;refine qm ?_;refine qv (fun W M=>ip rfl) ?_;refine qv (vf Qs rfl au) ?_;refine qv (fun W M=>ir (o:=0) ay rfl fp (by decide) rfl rfl) ?_;refine qv (vl 9 0 bx) ?_;refine qm ?_;refine qv (fun W M=>ip rfl) ?_;refine qv (vf Qs rfl Qh) ?_;refine qv (vl 9 2 Qz) ?_;refine qv (fun W M=>gx (sz:=1) (k:=I.l) bx gh rfl rfl rfl (by omega) (by omega)) ?_;refine qv (fun W M=>ci cl rfl rfl (M.focInt (i:=1) rfl rfl)) ?_;refine qv (fun W M=>np rfl) ?_;refine fy (Qi ?_);let K4:List Value:=[.slice N0 (gt I.d.a (I.l.toNat)).length q0];let K0:It:=iS Qp 163 N0 q0 (gt I.d.a (I.l.toNat));let L0:It:=ey (ab Qp 163) 100 (sA F0) I.d.a.length c7 I.d.a (I.l.toNat) K4;let M0:List It:=K0::L0::u3;refine im 12 [11] (s:=M0) (s2:=M0) ai ai ?_;let K5:List Value:=[iV 0,iV 0, .slice none 0 0, .slice none 0 0, .slice none 0 0];refine qx (σ:=Option Addr×Nat×Nat) (fun s=>M0) 12 2047 1 (fun s=>[(0,bp p),(1, .slice J0 U.length v0),(6,bp i0),(7, .slice N0 (gt I.d.a (I.l.toNat)).length q0),(63, .agg #[iV I.l,nI ((gt I.d.a (I.l.toNat)).length), .slice s.1 U.length s.2.1, .slice none 0 0, .slice none 0 0]),(8, .pointer (some (⟨s.2.2,0,none⟩:Addr)))]) (fun s=>(Qa s.2.2 102 K5::iS Qb 3 s.1 s.2.1 U::M0)) ?_ (fun H=>?_)
 ·rintro⟨e0,g0,V⟩;show QD _ _ _ _ _ _ _ _ [(0,bp p),(1, .slice J0 U.length v0),(6,bp i0),(7, .slice N0 (gt I.d.a (I.l.toNat)).length q0),(63, .agg #[iV I.l,nI ((gt I.d.a (I.l.toNat)).length), .slice e0 U.length g0, .slice none 0 0, .slice none 0 0]),(8,bp V)] _ M0 _ (Qa V 102 K5::iS Qb 3 e0 g0 U::M0);refine mx (n:=1) rfl ?_;intro I4 J4;refine bc 12 11 4095 rfl ?_;let K6:List Value:=[iV I.l,nI ((gt I.d.a (I.l.toNat)).length), .slice e0 U.length g0, .slice none 0 0, .slice none 0 0];refine eu (p:=V) (o:=0) (cs':=K6) (fun w M=>M.front (n:=0) rfl) kf rfl (Nat.le_of_ble_eq_true rfl) rfl rfl rfl rfl (Qf rfl) ?_;refine ik (pn 13 [2,3,4,5,6,7,8,9,10,11,12]) ?_;refine fr (by kernel_rfl) ?_;refine Qj (Qi (sr (wa (aa (aw ?_)))));refine ek (js:=(Qg (ab Qb 3) [.slice none 0 0] []::Qa V 102 K6::iS Qb 3 e0 g0 U::M0)) (fun W M=>M.addNil (E:=Qb) (e:=3)) ?_;let w3:List It:=Qa V 102 K6::iS Qb 3 e0 g0 U::K0::L0::Qa i0 204 K2::S0::T0::iS Qb 3 r0 t0 I.k::iS Qu 61 I0 b0 I.c::iS bg 80 s0 u0 I.f::iS be 102 C0 D0 I.j::Qa p 39 K3::iS Qb 3 J0 v0 U::Qg (ab Qb 3) [.slice none 0 0] []::is;refine ek (js:=w3) (pn 14 [1,2,3,4,5,6,7,8,9,10,11,12,13,0]) ?_;refine ek (js:=(Qg (ab Qb 3) [.slice none 0 0] []::w3)) (fun W M=>M.addNil (E:=Qb) (e:=3)) ?_;refine ek (js:=(Qa V 102 K6::iS Qb 3 e0 g0 U::K0::L0::Qa i0 204 K2::S0::T0::iS Qb 3 r0 t0 I.k::iS Qu 61 I0 b0 I.c::iS bg 80 s0 u0 I.f::iS be 102 C0 D0 I.j::Qa p 39 K3::iS Qb 3 J0 v0 U::Qg (ab Qb 3) [.slice none 0 0] []::Qg (ab Qb 3) [.slice none 0 0] []::is)) (pn 15 [1,2,3,4,5,6,7,8,9,10,11,12,13,14,0]) ?_;refine dw (S:=(List Int)×(List Int)×(List Qq)) (R:=Option Addr×Nat×Option Addr×Nat) (fun k (s:(List Int)×(List Int)×(List Qq))=>cG I U c0 k s.1 s.2.1 s.2.2) U.length 0 ([],[],I.c) (none,0,none,0) (fun s=>[(0,bp p),(1, .slice J0 U.length v0),(6,bp i0),(7, .slice N0 (gt I.d.a (I.l.toNat)).length q0),(8,bp V),(9,nI s.1)]) (fun s=>(Qa V 102 [iV I.l,nI ((gt I.d.a (I.l.toNat)).length), .slice e0 U.length g0, .slice s.2.2.1 s.2.1.1.length s.2.2.2.1, .slice s.2.2.2.2.1 s.2.1.2.1.length s.2.2.2.2.2]::iS Qb 3 e0 g0 U::K0::L0::Qa i0 204 K2::S0::T0::iS Qb 3 r0 t0 I.k::Qg (ab Qu 61) [.slice I0 I.c.length b0] s.2.1.2.2::iS bg 80 s0 u0 I.f::iS be 102 C0 D0 I.j::Qa p 39 K3::iS Qb 3 J0 v0 U::iS Qb 3 s.2.2.1 s.2.2.2.1 s.2.1.1::iS Qb 3 s.2.2.2.2.1 s.2.2.2.2.2 s.2.1.2.1::is)) (fun s=>s.2.1.1.length<=0+s.1∧s.2.1.2.1.length<=0+s.1∧s.2.1.2.2.map (fun(a:Qq)=>a.g.Id)=I.c.map (fun(a:Qq)=>a.g.Id)∧∀ i,(gt s.2.1.2.2 i).r.length<=8∧(gt s.2.1.2.2 i).p.length<=1000+4*s.1) li ⟨Nat.le_refl _,Nat.le_refl _,rfl,wN hE⟩ ?_;rintro⟨X,⟨Y,Z,O⟩,⟨X0,b1,O0,P0⟩⟩ p2 _ _ e e';dsimp only at p2 ⊢;subst e e';obtain⟨_,R1,_,_,S1,h3⟩:=p2;refine Qi (sr (wm (wm ?_)));refine wv (bh Qt) ?_;refine wv df ?_;refine aa ?_;rcases dz X U.length with⟨T1,P1⟩|⟨T1,P1⟩
  ·have l4:=hin _ (bt (show X<U.length from by omega));have hfl:=cD I (gt U X);obtain⟨hfq,hdl⟩:=Lg S1 (gt U X);refine Qr rfl P1 ?_;refine an (Qj (Qi (aw (Qi ?_))));refine qw (n:=12) rfl (by omega) ?_;rintro Q0 rfl;refine km (by kernel_rfl) (by kernel_rfl) ?_;refine qm ?_;refine qv (fun W M=>ip rfl) ?_;refine qv (fun W M=>Qw (cs:=K3) Qs Qv rfl rfl (M.boxCells (n:=11) rfl)) ?_;refine qm (qm ?_);refine qv (bv 1 X Qt Qh) ?_;refine qv (fun W M=>ci Qz rfl rfl (M.ownInt (i:=12) rfl (by omega))) ?_;refine ky (Qo pP rfl) (fun W M=>rJ W _ _ _ _ _ _ _ _ (⟨I.d,I.l,I.k,O,I.f,I.j,I.n⟩:Qk) (gt U X) (M.rdSI (n:=8) rfl)) (Qf rfl) (by decide) ?_;obtain⟨b,G0⟩:∃ G,G=(da (⟨I.d,I.l,I.k,O,I.f,I.j,I.n⟩:Qk) (gt U X)):=⟨_,rfl⟩;rw[<- G0] at hfq ⊢;refine qv (fun W M=>np rfl) ?_;refine fy (Qi ?_);refine qw (n:=8) rfl (by omega) ?_;rintro h0 rfl;let K7:List Value:=[iV I.l,nI ((gt I.d.a (I.l.toNat)).length), .slice e0 U.length g0, .slice X0 Y.length b1, .slice O0 Z.length P0];let K8:List Value:=[.slice (sA F0) I.d.a.length c7,iV I.d.e,iV I.l, .slice r0 I.k.length t0, .slice (sA h0) I.c.length b0, .slice s0 I.f.length u0, .slice C0 I.j.length D0,iV I.n];let x3:List It:=iS Qb 3 O0 P0 Z::is;refine qr (E:=Qu) (e:=61) (A:=(sA h0)) (n:=I.c.length) (c:=b0) (xs:=O) (k:=(b.toNat)) (js:=(Qa V 102 K7::iS Qb 3 e0 g0 U::K0::L0::Qa i0 204 K2::S0::T0::iS Qb 3 r0 t0 I.k::iS bg 80 s0 u0 I.f::iS be 102 C0 D0 I.j::Qa p 39 K8::iS Qb 3 (sA Q0) v0 U::iS Qb 3 X0 b1 Y::x3)) (by omega) (fun W M=>(M.front (n:=8) rfl)) (fun X2=>?_);refine om (γ:=Value×Value×Value×Value) (js:=fun g=>[Qg (ab cx 180) [g.1] ((gt O (b.toNat)).g.o),Qg (ab Qb 3) [g.2.1] ((gt O (b.toNat)).g.q),Qg (ab Qb 3) [g.2.2.1] ((gt O (b.toNat)).r),Qg (ab cn 70) [g.2.2.2] ((gt O (b.toNat)).p)]) (C:=fun g=>X2=[iV ((gt O (b.toNat)).g.Id),iV ((gt O (b.toNat)).g.t),g.1,g.2.1,iV ((gt O (b.toNat)).u),g.2.2.1,iV ((gt O (b.toNat)).y),iV ((gt O (b.toNat)).A),iV ((gt O (b.toNat)).z),g.2.2.2]) (fun _ _ h=>nX h) ?_;rintro⟨_,_,_,_⟩ rfl;refine ic (n:=0) rfl ?_;rintro b2 u2 rfl L4;refine ic (n:=1) rfl ?_;rintro c2 w2 rfl M4;refine ic (n:=2) rfl ?_;rintro d2 x2 rfl N4;refine ic (n:=3) rfl ?_;rintro e2 y2 rfl O4;let K9:List Value:=[iV ((gt O (b.toNat)).g.Id),iV ((gt O (b.toNat)).g.t), .slice b2 ((gt O (b.toNat)).g.o).length u2, .slice c2 ((gt O (b.toNat)).g.q).length w2,iV ((gt O (b.toNat)).u), .slice d2 ((gt O (b.toNat)).r).length x2,iV ((gt O (b.toNat)).y),iV ((gt O (b.toNat)).A),iV ((gt O (b.toNat)).z), .slice e2 ((gt O (b.toNat)).p).length y2];let P2:It:=iS cx 180 b2 u2 ((gt O (b.toNat)).g.o);let Q2:It:=iS Qb 3 c2 w2 ((gt O (b.toNat)).g.q);let R2:It:=iS Qb 3 d2 x2 ((gt O (b.toNat)).r);let S2:It:=iS cn 70 e2 y2 ((gt O (b.toNat)).p);let T2:It:=ey Qu 61 (sA h0) I.c.length b0 O (b.toNat) K9;let y3:List It:=Qa i0 204 K2::S0::T0::iS Qb 3 r0 t0 I.k::iS bg 80 s0 u0 I.f::iS be 102 C0 D0 I.j::Qa p 39 K8::iS Qb 3 (sA Q0) v0 U::x3;let X1:List It:=iS Qb 3 e0 g0 U::K0::L0::y3;let z3:List It:=P2::Q2::R2::S2::T2::Qa V 102 K7::X1;refine im 15 [14] (s:=(P2::Q2::R2::S2::T2::X1)) (s2:=z3) (pn 19 [0,1,2,3,4,6,7,8,9,10,11,12,13,14,15,16,18]) (pn 19 [0,1,2,3,4,5,6,7,8,9,10,11,12,13,14,15,16,18]) ?_;refine ae 15 0 1 rfl (vf gk rfl cg) ?_;refine ae 15 1 3 rfl (vl 5 3 Qt) ?_;refine ae 15 2 7 rfl ap ?_;refine ae 15 3 15 rfl (fun W M=>ip rfl) ?_;refine ae 15 4 31 rfl (vf Qs rfl ef) ?_;refine ae 15 5 63 rfl (vl 15 4 bo) ?_;refine ae 15 6 127 rfl ap ?_;refine ae 15 7 255 rfl (fun W M=>gx (sz:=10) (k:=b) bo cq rfl rfl rfl (by omega) (by omega)) ?_;refine ae 15 8 511 rfl (vf cy rfl dh) ?_;refine ae 15 9 1023 rfl (fun W M=>ir (o:=1) di rfl Qh (by decide) rfl rfl) ?_;refine ae 15 10 2047 rfl (fun W M=>ci Qz rfl rfl (M.focCells (i:=4) rfl rfl 1 _ rfl)) ?_;refine bc 15 11 4095 rfl ?_;refine eb (cs:=[iV ((gt O (b.toNat)).g.t)]) Qt Qh rfl (by decide) (by decide) rfl (by kernel_rfl) (Qf rfl) (by decide) (fun _=>?_);refine aq (pn 20 [1,2,3,4,5,7,8,9,10,11,12,13,14,15,16,17,19]) (pn 20 [1,2,3,4,5,6,7,8,9,10,11,12,13,14,15,16,17,19]) ?_;refine bc 15 12 8191 rfl ?_;refine ga Qb 3 (.slice X0 Y.length b1) Y ((gt O (b.toNat)).g.t) [] z3 [iV ((gt O (b.toNat)).g.t)] (fun W M=>((M.front (n:=18) rfl).front (n:=1) rfl)) (fun _ _ hs=>by cases (Sep.nil hs);exact(eg cw ix)) Qt Qh (show(Y.length+1)*8<=140737488355328 from by first|omega|(have:=hTd _;omega)) (fun _=>?_);refine fm 0 ?_;rintro i1 k1 rfl P4;refine aq (pn 19 [1,2,3,4,5,7,8,9,10,11,12,13,14,15,16,17,18]) (pn 19 [1,2,3,4,5,6,7,8,9,10,11,12,13,14,15,16,17,18]) ?_;refine ae 15 13 16383 rfl (vf gk rfl cg) ?_;refine bc 15 14 32767 rfl ?_;let E1:List Value:=[iV I.l,nI ((gt I.d.a (I.l.toNat)).length), .slice e0 U.length g0, .slice i1 (Y++[(gt O (b.toNat)).g.t]).length k1, .slice O0 Z.length P0];refine eu (p:=V) (o:=3) (cs':=E1) (fun w M=>M.front (n:=6) rfl) cg rfl (Nat.le_of_ble_eq_true rfl) rfl rfl rfl rfl (Qf rfl) ?_;refine ik (pn 19 [2,3,4,5,6,7,8,9,10,11,12,13,14,15,16,17,18]) ?_;refine fr (by kernel_rfl) ?_;refine Qj (sr (wa (aa (Qi (sr (wa (aa (aw ?_))))))));let V1:It:=iS Qb 3 i1 k1 (Y++[(gt O (b.toNat)).g.t]);refine ek (fun W M=>Mem.unfocus0 (Mem.join (is:=[P2,Q2,R2,S2]) (js:=(T2::(Qa V 102 E1::V1::X1))) (fun _ _ hs=>pc (x:=(gt O (b.toNat))) hs) (M.pickN 19 [2,3,4,5,6,0,1,7,8,9,10,11,12,13,14,15,16,17,18] (by decide)))) ?_;refine dw (S:=Int×(List Qq)) (R:=Unit) (fun k (s:Int×(List Qq))=>cH I U c0 X O k s.1 s.2) ((gt I.d.a (I.l.toNat)).length) 0 (0,O) () (fun s=>[(0,bp p),(1, .slice (sA Q0) U.length v0),(6,bp i0),(7, .slice N0 (gt I.d.a (I.l.toNat)).length q0),(8,bp V),(9,nI X),(10,iV b),(11,iV s.2.1.1),(12,nI s.1)]) (fun s=>(Qg (ab Qu 61) [.slice (sA h0) I.c.length b0] s.2.1.2::Qa V 102 E1::V1::X1)) (fun s=>s.2.1.2.map (fun(a:Qq)=>a.g.Id)=O.map (fun(a:Qq)=>a.g.Id)∧∀ i,(gt s.2.1.2 i).r.length<=8∧(gt s.2.1.2 i).p.length<=1000+4*X+s.1) pv ⟨rfl,h3⟩ ?_;rintro⟨K,⟨a0,D⟩,⟨⟩⟩ q2 _ _ e e';dsimp only at q2 ⊢;subst e e';obtain⟨_,V0,B0,p0⟩:=q2;refine Qi (sr (wm (wm ?_)));refine wv (bh cl) ?_;refine wv df ?_;refine aa ?_;rcases dz K ((gt I.d.a (I.l.toNat)).length) with⟨U1,Q1⟩|⟨U1,Q1⟩
   ·have hv:=wE hE (show K<_ from by omega);have hTd:=p0;refine Qr rfl Q1 ?_;refine an (Qj (Qi (aw (Qi ?_))));refine qw (n:=4) rfl (by omega) ?_;rintro d1 rfl;let Z3:List Value:=[.slice (sA d1) (gt I.d.a (I.l.toNat)).length q0];let m1:It:=Qg (ab Qu 61) [.slice (sA h0) I.c.length b0] D;let Y3:It:=ey (ab Qp 163) 100 (sA F0) I.d.a.length c7 I.d.a (I.l.toNat) Z3;let Y0:List It:=Qa V 102 E1::V1::iS Qb 3 e0 g0 U::Y3::y3;refine qr (E:=Qp) (e:=163) (A:=(sA d1)) (n:=(gt I.d.a (I.l.toNat)).length) (c:=q0) (xs:=(gt I.d.a (I.l.toNat))) (k:=K) (js:=(m1::Y0)) (by omega) (fun W M=>(M.front (n:=4) rfl)) (fun Y2=>?_);refine om (γ:=Value) (js:=fun g=>[Qg (ab Qb 3) [g] ((gt (gt I.d.a (I.l.toNat)) K).m)]) (C:=fun g=>Y2=[iV ((gt (gt I.d.a (I.l.toNat)) K).Id),g,iV ((gt (gt I.d.a (I.l.toNat)) K).w),iV ((gt (gt I.d.a (I.l.toNat)) K).x)]) (fun _ _ h=>lM h) ?_;rintro _ rfl;refine ic (n:=0) rfl ?_;rintro q1 F1 rfl Q4;let D3:List Value:=[iV ((gt (gt I.d.a (I.l.toNat)) K).Id), .slice q1 ((gt (gt I.d.a (I.l.toNat)) K).m).length F1,iV ((gt (gt I.d.a (I.l.toNat)) K).w),iV ((gt (gt I.d.a (I.l.toNat)) K).x)];let g1:It:=iS Qb 3 q1 F1 ((gt (gt I.d.a (I.l.toNat)) K).m);let h1:It:=ey Qp 163 (sA d1) ((gt I.d.a (I.l.toNat)).length) q0 (gt I.d.a (I.l.toNat)) K D3;refine im 13 [12] (s:=(g1::h1::m1::Y0)) (s2:=(g1::h1::m1::Y0)) ai ai ?_;refine ae 13 0 1 rfl ap ?_;refine ae 13 1 3 rfl ap ?_;refine ae 13 2 7 rfl (bv 4 K cl co) ?_;refine ae 13 3 15 rfl (vf dq rfl Qh) ?_;refine ae 13 4 31 rfl (fun W M=>ci Qz rfl rfl (M.focCells (i:=1) rfl rfl 0 _ rfl)) ?_;refine ae 13 5 63 rfl ap ?_;refine ae 13 6 127 rfl ap ?_;refine ae 13 7 255 rfl (bv 4 K cl co) ?_;refine ae 13 8 511 rfl (vf dq rfl cg) ?_;refine ae 13 9 1023 rfl (fun W M=>ci Qt rfl rfl (M.focCells (i:=1) rfl rfl 1 _ rfl)) ?_;let U0:List Value:=[iV ((gt (gt I.d.a (I.l.toNat)) K).Id), .slice q1 ((gt (gt I.d.a (I.l.toNat)) K).m).length F1];refine ae 13 10 2047 rfl (fun W M=>fl (cs:=U0) rfl (by kernel_rfl)) ?_;refine bc 13 11 4095 rfl ?_;refine br ew rfl (Qf rfl) (by decide) (fun R0=>?_);refine aq (pn 17 [1,2,3,4,5,6,7,8,9,10,11,12,13,14,15,16]) (pn 17 [1,2,3,4,5,6,7,8,9,10,11,12,13,14,15,16]) ?_;refine bc 13 12 8191 rfl ?_;refine eu (p:=R0) (o:=0) (cs':=U0) (fun w M=>M.front (n:=0) rfl) ew rfl (Nat.le_of_ble_eq_true rfl) rfl rfl rfl rfl (Qf rfl) ?_;refine ik (pn 17 [1,2,3,4,5,6,7,8,9,10,11,12,13,14,15,16]) ?_;refine fr (by kernel_rfl) ?_;refine Qj (Qi ?_);refine rb 12 (s:=(Qa R0 70 U0::g1::h1::m1::Y0)) ai ?_;refine qt 12 0 1 rfl (fun W M=>Qw (cs:=K2) vh type204 rfl rfl (M.boxCells (n:=8) rfl)) ?_;refine qt 12 1 3 rfl (fun W M=>Qw (cs:=U0) ge ew rfl rfl (M.boxCells (n:=0) rfl)) ?_;refine qt 12 2 7 rfl ap ?_;refine qt 12 3 15 rfl (fun W M=>ip rfl) ?_;refine qt 12 4 31 rfl (vf Qs rfl cg) ?_;refine qt 12 5 63 rfl (vl 14 3 Qt) ?_;refine qo 12 6 127 rfl ?_;refine iv (χ:=Value) (val:=fun x=> .tuple #[x,iV ((sh (lm c0) (⟨(gt (gt I.d.a (I.l.toNat)) K).Id,(gt (gt I.d.a (I.l.toNat)) K).m⟩:bf) I.k).2)]) (js:=fun x=>[Qg (ab Qb 3) [x] ((sh (lm c0) (⟨(gt (gt I.d.a (I.l.toNat)) K).Id,(gt (gt I.d.a (I.l.toNat)) K).m⟩:bf) I.k).1)]) (Qo Ai rfl) (fun W M=>Ic W _ (lm c0) _ (⟨(gt (gt I.d.a (I.l.toNat)) K).Id,(gt (gt I.d.a (I.l.toNat)) K).m⟩:bf) _ I.k (Jz (x:=(lm c0)) (M.rdSI (n:=9) rfl) (M.rdSI (n:=10) rfl)) (pu (x:=(⟨(gt (gt I.d.a (I.l.toNat)) K).Id,(gt (gt I.d.a (I.l.toNat)) K).m⟩:bf)) (M.rdSI (n:=1) rfl)) (M.rdSI (n:=11) rfl) hbs (Nat.le_trans (Nat.le_of_eq hv) (by decide)) H0.2.1 (hf) (hv) (ho)) (Qf rfl) (by decide) (fun _=>?_);refine fm 0 ?_;rintro j3 L3 rfl R4;refine qn (pn 18 [1,2,3,4,5,6,7,8,9,10,11,12,13,14,15,16,17]) ?_;refine qt 12 7 255 rfl ap ?_;refine qt 12 8 511 rfl (fun W M=>fb rfl rfl) ?_;refine qt 12 9 1023 rfl (fun W M=>fb rfl rfl) ?_;refine qt 12 10 2047 rfl (fun W M=>np rfl) ?_;refine qt 12 11 4095 rfl (fun W M=>np rfl) ?_;refine fr (by kernel_rfl) ?_;refine Qj (Qi ?_);let W1:It:=iS Qb 3 j3 L3 ((sh (lm c0) (⟨(gt (gt I.d.a (I.l.toNat)) K).Id,(gt (gt I.d.a (I.l.toNat)) K).m⟩:bf) I.k).1);let Z0:List It:=W1::Qa R0 70 U0::g1::h1::Y0;refine qr (E:=Qu) (e:=61) (A:=(sA h0)) (n:=I.c.length) (c:=b0) (xs:=D) (k:=(b.toNat)) (js:=Z0) (by omega) (fun W M=>(M.front (n:=4) rfl)) (fun Z2=>?_);refine om (γ:=Value×Value×Value×Value) (js:=fun g=>[Qg (ab cx 180) [g.1] ((gt D (b.toNat)).g.o),Qg (ab Qb 3) [g.2.1] ((gt D (b.toNat)).g.q),Qg (ab Qb 3) [g.2.2.1] ((gt D (b.toNat)).r),Qg (ab cn 70) [g.2.2.2] ((gt D (b.toNat)).p)]) (C:=fun g=>Z2=[iV ((gt D (b.toNat)).g.Id),iV ((gt D (b.toNat)).g.t),g.1,g.2.1,iV ((gt D (b.toNat)).u),g.2.2.1,iV ((gt D (b.toNat)).y),iV ((gt D (b.toNat)).A),iV ((gt D (b.toNat)).z),g.2.2.2]) (fun _ _ h=>nX h) ?_;rintro⟨_,_,_,_⟩ rfl;refine ic (n:=0) rfl ?_;rintro j0 m0 rfl S4;refine ic (n:=1) rfl ?_;rintro k0 n0 rfl T4;refine ic (n:=2) rfl ?_;rintro l0 o0 rfl U4;refine ic (n:=3) rfl ?_;rintro y0 A0 rfl V4;refine km (by kernel_rfl) (by kernel_rfl) ?_;refine qm (qm (qm ?_));refine qv (bv 1 X Qt Qh) ?_;refine qv (fun W M=>ci Qz rfl rfl (M.ownInt (i:=20) rfl (by omega))) ?_;refine ky (Qo pT rfl) (fun W M=>rK W _ ((sh (lm c0) (⟨(gt (gt I.d.a (I.l.toNat)) K).Id,(gt (gt I.d.a (I.l.toNat)) K).m⟩:bf) I.k).1) (gt U X) (M.rdSI (n:=5) rfl)) (Qf rfl) (by decide) ?_;refine qm ?_;rcases bd (ln ((sh (lm c0) (⟨(gt (gt I.d.a (I.l.toNat)) K).Id,(gt (gt I.d.a (I.l.toNat)) K).m⟩:bf) I.k).1) (gt U X)) with P|P
    ·refine qg ap P ?_;refine qg ap P ?_;refine qg (bv 4 K cl co) P ?_;refine qg (fun W M=>Qw (cs:=D3) dq co rfl rfl (M.focCells (i:=8) rfl rfl)) P ?_;refine qg ap P ?_;refine qg (fun W M=>ip rfl) P ?_;refine qg (vf Qs rfl ef) P ?_;refine qg (vl 19 4 bo) P ?_;refine qg ap P ?_;refine qg (fun W M=>gx (sz:=10) (k:=b) bo cq rfl rfl rfl (by omega) (by omega)) P ?_;refine qg (vf cy rfl Qh) P ?_;refine qg (fun W M=>ci Qz rfl rfl (M.focCells (i:=4) rfl rfl 4 _ rfl)) P ?_;refine ky (Qo fR rfl) (fun W M=>kL W _ (gt (gt I.d.a (I.l.toNat)) K) ((gt D (b.toNat)).u) (og (x:=(gt (gt I.d.a (I.l.toNat)) K)) (M.rdSI (n:=7) rfl))) (az rfl rfl rfl (bw P rfl)) (by decide) ?_;refine qv (am P) ?_;refine fy ?_;rcases bd (ri (gt (gt I.d.a (I.l.toNat)) K) ((gt D (b.toNat)).u)) with e1|e1
     ·refine Qr rfl e1 ?_;refine Qi ?_;let B1:It:=iS cx 180 j0 m0 ((gt D (b.toNat)).g.o);let C1:It:=iS Qb 3 k0 n0 ((gt D (b.toNat)).g.q);let D1:It:=iS Qb 3 l0 o0 ((gt D (b.toNat)).r);let o1:List It:=B1::C1::D1::Z0;refine pw (σ:=Option Addr×Nat) (fun s=>[(0,bp p),(1, .slice (sA Q0) U.length v0),(6,bp i0),(7, .slice (sA d1) (gt I.d.a (I.l.toNat)).length q0),(8,bp V),(9,nI X),(10,iV b),(11,iV a0),(12,nI K)]) (fun s=>(ey Qu 61 (sA h0) I.c.length b0 D (b.toNat) [iV ((gt D (b.toNat)).g.Id),iV ((gt D (b.toNat)).g.t), .slice j0 ((gt D (b.toNat)).g.o).length m0, .slice k0 ((gt D (b.toNat)).g.q).length n0,iV ((gt D (b.toNat)).u), .slice l0 ((gt D (b.toNat)).r).length o0,iV ((gt D (b.toNat)).y),iV ((gt D (b.toNat)).A),iV ((gt D (b.toNat)).z), .slice s.1 (rj I b K D).length s.2]::iS cn 70 s.1 s.2 (rj I b K D)::o1)) (fun _=>True) ?_ ?_
      ·refine rb 20 (s:=o1) (pn 22 [0,1,2,5,6,7,8,9,10,11,12,13,14,15,16,17,18,19,20,21]) ?_;refine qt 20 0 1 rfl ap ?_;refine qt 20 1 3 rfl (fun W M=>ip rfl) ?_;refine qt 20 2 7 rfl (vf Qs rfl ef) ?_;refine qt 20 3 15 rfl (vl 17 4 bo) ?_;refine qt 20 4 31 rfl ap ?_;refine qt 20 5 63 rfl ap ?_;refine qt 20 6 127 rfl (fun W M=>ip rfl) ?_;refine qt 20 7 255 rfl (vf Qs rfl ef) ?_;refine qt 20 8 511 rfl (vl 17 4 bo) ?_;refine qt 20 9 1023 rfl ap ?_;refine qt 20 10 2047 rfl (fun W M=>gx (sz:=10) (k:=b) bo cq rfl rfl rfl (by omega) (by omega)) ?_;refine qt 20 11 4095 rfl (vf cy rfl lh) ?_;refine qt 20 13 12287 rfl (fun W M=>Qw (cs:=U0) ge ew rfl rfl (M.boxCells (n:=4) rfl)) ?_;refine qa [12,14] ?_;refine qc 20 16383 rfl ?_ ?_
       ·refine wv (fun W M=>ci gl rfl rfl (M.focCells (i:=4) rfl rfl 9 _ rfl)) ?_;refine qn (pn 22 [0,1,2,5,6,7,8,9,10,11,12,13,14,15,16,17,18,19,20,21]) ?_;refine qo 20 14 32767 rfl ?_;refine io cn (⟨(gt (gt I.d.a (I.l.toNat)) K).Id,(gt (gt I.d.a (I.l.toNat)) K).m⟩:bf) (Qo Mc rfl) (fun W M=>yc W _ (⟨(gt (gt I.d.a (I.l.toNat)) K).Id,(gt (gt I.d.a (I.l.toNat)) K).m⟩:bf) (pu (x:=(⟨(gt (gt I.d.a (I.l.toNat)) K).Id,(gt (gt I.d.a (I.l.toNat)) K).m⟩:bf)) (M.rdSI (n:=7) rfl)) (Nat.le_trans (Nat.le_of_eq hv) (by decide))) (fun _=>?_);refine ue ?_;rintro _ rfl;refine fm 0 ?_;rintro h2 A2 rfl W4;refine qn (pn 23 [1,2,3,6,7,8,9,10,11,12,13,14,15,16,17,18,19,20,21,22]) ?_;refine qo 20 15 65535 rfl ?_;let E3:List Value:=[iV ((⟨(gt (gt I.d.a (I.l.toNat)) K).Id,(gt (gt I.d.a (I.l.toNat)) K).m⟩:bf).Id), .slice h2 ((⟨(gt (gt I.d.a (I.l.toNat)) K).Id,(gt (gt I.d.a (I.l.toNat)) K).m⟩:bf).m).length A2];refine eb (cs:=E3) gl ew rfl (by decide) (by decide) rfl (by kernel_rfl) (Qf rfl) (by decide) (fun _=>?_);refine qn (pn 24 [2,3,4,7,8,9,10,11,12,13,14,15,16,17,18,19,20,21,22,23]) ?_;refine qo 20 16 131071 rfl ?_;refine ga cn 70 (.slice y0 ((gt D (b.toNat)).p).length A0) ((gt D (b.toNat)).p) (⟨(gt (gt I.d.a (I.l.toNat)) K).Id,(gt (gt I.d.a (I.l.toNat)) K).m⟩:bf) [iS Qb 3 h2 A2 ((⟨(gt (gt I.d.a (I.l.toNat)) K).Id,(gt (gt I.d.a (I.l.toNat)) K).m⟩:bf).m)] (B1::C1::D1::ey Qu 61 (sA h0) I.c.length b0 D (b.toNat) [iV ((gt D (b.toNat)).g.Id),iV ((gt D (b.toNat)).g.t), .slice j0 ((gt D (b.toNat)).g.o).length m0, .slice k0 ((gt D (b.toNat)).g.q).length n0,iV ((gt D (b.toNat)).u), .slice l0 ((gt D (b.toNat)).r).length o0,iV ((gt D (b.toNat)).y),iV ((gt D (b.toNat)).A),iV ((gt D (b.toNat)).z), .slice y0 ((gt D (b.toNat)).p).length A0]::Z0) E3 (fun W M=>(((M.front (n:=1) rfl).front (n:=5) rfl).front (n:=2) rfl)) (fun _ _ hs=>Els.single (ti (x:=(⟨(gt (gt I.d.a (I.l.toNat)) K).Id,(gt (gt I.d.a (I.l.toNat)) K).m⟩:bf)) hs)) gl ew (show(((gt D (b.toNat)).p).length+1)*32<=140737488355328 from by first|omega|(have:=hTd (b.toNat);omega)) (fun _=>?_);refine fm 0 ?_;rintro r1 G1 rfl X4;refine qn (pn 22 [1,2,3,5,6,7,8,9,10,11,12,13,14,15,16,17,18,19,20,21]) ?_;refine qt 20 17 262143 rfl (fun W M=>gx (sz:=10) (k:=b) bo cq rfl rfl rfl (by omega) (by omega)) ?_;refine qt 20 18 524287 rfl (vf cy rfl lh) ?_;refine qo 20 19 1048575 rfl ?_;refine sf 9 10 [iV ((gt D (b.toNat)).g.Id),iV ((gt D (b.toNat)).g.t), .slice j0 ((gt D (b.toNat)).g.o).length m0, .slice k0 ((gt D (b.toNat)).g.q).length n0,iV ((gt D (b.toNat)).u), .slice l0 ((gt D (b.toNat)).r).length o0,iV ((gt D (b.toNat)).y),iV ((gt D (b.toNat)).A),iV ((gt D (b.toNat)).z), .slice r1 (rj I b K D).length G1] (iS cn 70 r1 G1 (rj I b K D)::o1) (fun W M=>(M.front (n:=4) rfl)) lh ?_;refine qn (pn 22 [2,3,4,5,6,7,8,9,10,11,12,13,14,15,16,17,18,19,20,21]) ?_;refine fr (by kernel_rfl) ?_;exact lr (r1,G1) pv ai trivial
       refine qc 20 28671 rfl ?_ ?_
       ·refine io cn (⟨(gt (gt I.d.a (I.l.toNat)) K).Id,(gt (gt I.d.a (I.l.toNat)) K).m⟩:bf) (Qo Mc rfl) (fun W M=>yc W _ (⟨(gt (gt I.d.a (I.l.toNat)) K).Id,(gt (gt I.d.a (I.l.toNat)) K).m⟩:bf) (pu (x:=(⟨(gt (gt I.d.a (I.l.toNat)) K).Id,(gt (gt I.d.a (I.l.toNat)) K).m⟩:bf)) (M.rdSI (n:=7) rfl)) (Nat.le_trans (Nat.le_of_eq hv) (by decide))) (fun _=>?_);refine ue ?_;rintro _ rfl;refine fm 0 ?_;rintro j1 l1 rfl Y4;refine qn (pn 23 [1,2,3,6,7,8,9,10,11,12,13,14,15,16,17,18,19,20,21,22]) ?_;refine qa [12,15] ?_;refine qc 20 32767 rfl ?_ ?_
        ·refine wv (fun W M=>ci gl rfl rfl (M.focCells (i:=5) rfl rfl 9 _ rfl)) ?_;refine qn (pn 23 [1,2,3,6,7,8,9,10,11,12,13,14,15,16,17,18,19,20,21,22]) ?_;refine qo 20 15 65535 rfl ?_;let F3:List Value:=[iV ((⟨(gt (gt I.d.a (I.l.toNat)) K).Id,(gt (gt I.d.a (I.l.toNat)) K).m⟩:bf).Id), .slice j1 ((⟨(gt (gt I.d.a (I.l.toNat)) K).Id,(gt (gt I.d.a (I.l.toNat)) K).m⟩:bf).m).length l1];refine eb (cs:=F3) gl ew rfl (by decide) (by decide) rfl (by kernel_rfl) (Qf rfl) (by decide) (fun _=>?_);refine qn (pn 24 [2,3,4,7,8,9,10,11,12,13,14,15,16,17,18,19,20,21,22,23]) ?_;refine qo 20 16 131071 rfl ?_;refine ga cn 70 (.slice y0 ((gt D (b.toNat)).p).length A0) ((gt D (b.toNat)).p) (⟨(gt (gt I.d.a (I.l.toNat)) K).Id,(gt (gt I.d.a (I.l.toNat)) K).m⟩:bf) [iS Qb 3 j1 l1 ((⟨(gt (gt I.d.a (I.l.toNat)) K).Id,(gt (gt I.d.a (I.l.toNat)) K).m⟩:bf).m)] (B1::C1::D1::ey Qu 61 (sA h0) I.c.length b0 D (b.toNat) [iV ((gt D (b.toNat)).g.Id),iV ((gt D (b.toNat)).g.t), .slice j0 ((gt D (b.toNat)).g.o).length m0, .slice k0 ((gt D (b.toNat)).g.q).length n0,iV ((gt D (b.toNat)).u), .slice l0 ((gt D (b.toNat)).r).length o0,iV ((gt D (b.toNat)).y),iV ((gt D (b.toNat)).A),iV ((gt D (b.toNat)).z), .slice y0 ((gt D (b.toNat)).p).length A0]::Z0) F3 (fun W M=>(((M.front (n:=1) rfl).front (n:=5) rfl).front (n:=2) rfl)) (fun _ _ hs=>Els.single (ti (x:=(⟨(gt (gt I.d.a (I.l.toNat)) K).Id,(gt (gt I.d.a (I.l.toNat)) K).m⟩:bf)) hs)) gl ew (show(((gt D (b.toNat)).p).length+1)*32<=140737488355328 from by first|omega|(have:=hTd (b.toNat);omega)) (fun _=>?_);refine fm 0 ?_;rintro s1 H1 rfl Z4;refine qn (pn 22 [1,2,3,5,6,7,8,9,10,11,12,13,14,15,16,17,18,19,20,21]) ?_;refine qt 20 17 262143 rfl (fun W M=>gx (sz:=10) (k:=b) bo cq rfl rfl rfl (by omega) (by omega)) ?_;refine qt 20 18 524287 rfl (vf cy rfl lh) ?_;refine qo 20 19 1048575 rfl ?_;refine sf 9 10 [iV ((gt D (b.toNat)).g.Id),iV ((gt D (b.toNat)).g.t), .slice j0 ((gt D (b.toNat)).g.o).length m0, .slice k0 ((gt D (b.toNat)).g.q).length n0,iV ((gt D (b.toNat)).u), .slice l0 ((gt D (b.toNat)).r).length o0,iV ((gt D (b.toNat)).y),iV ((gt D (b.toNat)).A),iV ((gt D (b.toNat)).z), .slice s1 (rj I b K D).length H1] (iS cn 70 s1 H1 (rj I b K D)::o1) (fun W M=>(M.front (n:=4) rfl)) lh ?_;refine qn (pn 22 [2,3,4,5,6,7,8,9,10,11,12,13,14,15,16,17,18,19,20,21]) ?_;refine fr (by kernel_rfl) ?_;exact lr (s1,H1) pv ai trivial
        refine qc 20 61439 rfl ?_ ?_
        ·let G3:List Value:=[iV ((⟨(gt (gt I.d.a (I.l.toNat)) K).Id,(gt (gt I.d.a (I.l.toNat)) K).m⟩:bf).Id), .slice j1 ((⟨(gt (gt I.d.a (I.l.toNat)) K).Id,(gt (gt I.d.a (I.l.toNat)) K).m⟩:bf).m).length l1];refine eb (cs:=G3) gl ew rfl (by decide) (by decide) rfl (by kernel_rfl) (Qf rfl) (by decide) (fun _=>?_);refine qn (pn 24 [2,3,4,7,8,9,10,11,12,13,14,15,16,17,18,19,20,21,22,23]) ?_;refine qo 20 12 65535 rfl ?_;refine wv (fun W M=>ci gl rfl rfl (M.focCells (i:=6) rfl rfl 9 _ rfl)) ?_;refine qn (pn 24 [2,3,4,7,8,9,10,11,12,13,14,15,16,17,18,19,20,21,22,23]) ?_;refine qo 20 16 131071 rfl ?_;refine ga cn 70 (.slice y0 ((gt D (b.toNat)).p).length A0) ((gt D (b.toNat)).p) (⟨(gt (gt I.d.a (I.l.toNat)) K).Id,(gt (gt I.d.a (I.l.toNat)) K).m⟩:bf) [iS Qb 3 j1 l1 ((⟨(gt (gt I.d.a (I.l.toNat)) K).Id,(gt (gt I.d.a (I.l.toNat)) K).m⟩:bf).m)] (B1::C1::D1::ey Qu 61 (sA h0) I.c.length b0 D (b.toNat) [iV ((gt D (b.toNat)).g.Id),iV ((gt D (b.toNat)).g.t), .slice j0 ((gt D (b.toNat)).g.o).length m0, .slice k0 ((gt D (b.toNat)).g.q).length n0,iV ((gt D (b.toNat)).u), .slice l0 ((gt D (b.toNat)).r).length o0,iV ((gt D (b.toNat)).y),iV ((gt D (b.toNat)).A),iV ((gt D (b.toNat)).z), .slice y0 ((gt D (b.toNat)).p).length A0]::Z0) G3 (fun W M=>(((M.front (n:=1) rfl).front (n:=5) rfl).front (n:=2) rfl)) (fun _ _ hs=>Els.single (ti (x:=(⟨(gt (gt I.d.a (I.l.toNat)) K).Id,(gt (gt I.d.a (I.l.toNat)) K).m⟩:bf)) hs)) gl ew (show(((gt D (b.toNat)).p).length+1)*32<=140737488355328 from by first|omega|(have:=hTd (b.toNat);omega)) (fun _=>?_);refine fm 0 ?_;rintro t1 I1 rfl a5;refine qn (pn 22 [1,2,3,5,6,7,8,9,10,11,12,13,14,15,16,17,18,19,20,21]) ?_;refine qt 20 17 262143 rfl (fun W M=>gx (sz:=10) (k:=b) bo cq rfl rfl rfl (by omega) (by omega)) ?_;refine qt 20 18 524287 rfl (vf cy rfl lh) ?_;refine qo 20 19 1048575 rfl ?_;refine sf 9 10 [iV ((gt D (b.toNat)).g.Id),iV ((gt D (b.toNat)).g.t), .slice j0 ((gt D (b.toNat)).g.o).length m0, .slice k0 ((gt D (b.toNat)).g.q).length n0,iV ((gt D (b.toNat)).u), .slice l0 ((gt D (b.toNat)).r).length o0,iV ((gt D (b.toNat)).y),iV ((gt D (b.toNat)).A),iV ((gt D (b.toNat)).z), .slice t1 (rj I b K D).length I1] (iS cn 70 t1 I1 (rj I b K D)::o1) (fun W M=>(M.front (n:=4) rfl)) lh ?_;refine qn (pn 22 [2,3,4,5,6,7,8,9,10,11,12,13,14,15,16,17,18,19,20,21]) ?_;refine fr (by kernel_rfl) ?_;exact lr (t1,I1) pv ai trivial
        exact oW
       exact oW
      rintro⟨g2,z2⟩ -;let a4:List Value:=[iV ((gt D (b.toNat)).g.Id),iV ((gt D (b.toNat)).g.t), .slice j0 ((gt D (b.toNat)).g.o).length m0, .slice k0 ((gt D (b.toNat)).g.q).length n0,iV ((gt D (b.toNat)).u), .slice l0 ((gt D (b.toNat)).r).length o0,iV ((gt D (b.toNat)).y),iV ((gt D (b.toNat)).A),iV ((gt D (b.toNat)).z), .slice g2 (rj I b K D).length z2];let m3:It:=ey Qu 61 (sA h0) I.c.length b0 D (b.toNat) a4;let n3:It:=iS cn 70 g2 z2 (rj I b K D);show QM 214 _ _ _ .normal [(0,bp p),(1, .slice (sA Q0) U.length v0),(6,bp i0),(7, .slice (sA d1) (gt I.d.a (I.l.toNat)).length q0),(8,bp V),(9,nI X),(10,iV b),(11,iV a0),(12,nI K)] (m3::n3::o1);refine uk (n:=1) rfl ?_;intro b5 c5;refine Qj (ao (wm ?_));refine wv lc ?_;refine wa (bb (bq (Qj (ao (wm ?_)))));refine wv (cb K 1 (by omega)) ?_;refine wa (bb ?_);refine bz (fun W M=>Mem.unfocus (Mem.join (is:=[B1,C1,D1,n3]) (js:=(m3::Z0)) (fun _ _ hs=>pc (x:=(⟨(gt D (b.toNat)).g,(gt D (b.toNat)).u,(gt D (b.toNat)).r,(gt D (b.toNat)).y,(gt D (b.toNat)).A,(gt D (b.toNat)).z,(rj I b K D)⟩:Qq)) hs) (M.pickN 22 [2,3,4,1,0,5,6,7,8,9,10,11,12,13,14,15,16,17,18,19,20,21] (by decide)))) ?_;refine bz (fun W M=>Mem.unfocus0 (Mem.join (is:=[g1]) (js:=(h1::(Qg (ab Qu 61) [.slice (sA h0) I.c.length b0] (vd I b K D)::W1::Qa R0 70 U0::Y0))) (fun _ _ hs=>mh (x:=(gt (gt I.d.a (I.l.toNat)) K)) hs) ((M.front (n:=4) rfl).front (n:=4) rfl))) ?_;exact bu (K+1,((IntKind.i64.wrap (a0+1)),(vd I b K D)),()) pv (pn 17 [1,4,5,6,0,7,8,9,10,11,12,13,14,15,16]) ⟨(by omega),nx V0 (by subst G0;exact Qc P (Qc e1 (rfl))),(show(vd I b K D).map (fun(a:Qq)=>a.g.Id)=O.map (fun(a:Qq)=>a.g.Id) from by first|exact B0|exact(qZ (by rfl)).trans B0),(show ∀ i,(gt (vd I b K D) i).r.length<=8∧(gt (vd I b K D) i).p.length<=1000+4*X+(K+1) from by first|exact(fun i=>by have:=p0 i;omega)|exact oY p0 (by omega) (Nat.le_refl _) (by simp only[List.length_append,List.length_cons,List.length_nil];omega))⟩ (show(gt I.d.a (I.l.toNat)).length-(K+1)<(gt I.d.a (I.l.toNat)).length-K from by omega)
     refine ah rfl e1 ?_;refine an (bq (Qj (ao (wm ?_))));refine wv (cb K 1 (by omega)) ?_;refine wa (bb ?_);refine bz (fun W M=>Mem.unfocus0 (Mem.join (is:=[iS cx 180 j0 m0 ((gt D (b.toNat)).g.o),iS Qb 3 k0 n0 ((gt D (b.toNat)).g.q),iS Qb 3 l0 o0 ((gt D (b.toNat)).r),iS cn 70 y0 A0 ((gt D (b.toNat)).p)]) (js:=(ey Qu 61 (sA h0) I.c.length b0 D (b.toNat) [iV ((gt D (b.toNat)).g.Id),iV ((gt D (b.toNat)).g.t), .slice j0 ((gt D (b.toNat)).g.o).length m0, .slice k0 ((gt D (b.toNat)).g.q).length n0,iV ((gt D (b.toNat)).u), .slice l0 ((gt D (b.toNat)).r).length o0,iV ((gt D (b.toNat)).y),iV ((gt D (b.toNat)).A),iV ((gt D (b.toNat)).z), .slice y0 ((gt D (b.toNat)).p).length A0]::Z0)) (fun _ _ hs=>pc (x:=(gt D (b.toNat))) hs) (M.pickN 22 [0,1,2,3,4,5,6,7,8,9,10,11,12,13,14,15,16,17,18,19,20,21] (by decide)))) ?_;refine bz (fun W M=>Mem.unfocus0 (Mem.join (is:=[g1]) (js:=(h1::(m1::W1::Qa R0 70 U0::Y0))) (fun _ _ hs=>mh (x:=(gt (gt I.d.a (I.l.toNat)) K)) hs) ((M.front (n:=4) rfl).front (n:=4) rfl))) ?_;exact bu (K+1,(a0,D),()) pv (pn 17 [1,4,5,6,0,7,8,9,10,11,12,13,14,15,16]) ⟨(by omega),nx V0 (by subst G0;exact Qc P (Qe e1 (rfl))),(show D.map (fun(a:Qq)=>a.g.Id)=O.map (fun(a:Qq)=>a.g.Id) from by first|exact B0|exact(qZ (by rfl)).trans B0),(show ∀ i,(gt D i).r.length<=8∧(gt D i).p.length<=1000+4*X+(K+1) from by first|exact(fun i=>by have:=p0 i;omega)|exact oY p0 (by omega) (Nat.le_refl _) (by simp only[List.length_append,List.length_cons,List.length_nil];omega))⟩ (show(gt I.d.a (I.l.toNat)).length-(K+1)<(gt I.d.a (I.l.toNat)).length-K from by omega)
    refine qs P ?_;refine qs P ?_;refine qs P ?_;refine qs P ?_;refine qs P ?_;refine qs P ?_;refine qs P ?_;refine qs P ?_;refine qs P ?_;refine qs P ?_;refine qs P ?_;refine qs P ?_;refine qs P ?_;refine qv (ak P) ?_;refine fy ?_;refine ah rfl rfl ?_;refine an (bq (Qj (ao (wm ?_))));refine wv (cb K 1 (by omega)) ?_;refine wa (bb ?_);refine bz (fun W M=>Mem.unfocus0 (Mem.join (is:=[iS cx 180 j0 m0 ((gt D (b.toNat)).g.o),iS Qb 3 k0 n0 ((gt D (b.toNat)).g.q),iS Qb 3 l0 o0 ((gt D (b.toNat)).r),iS cn 70 y0 A0 ((gt D (b.toNat)).p)]) (js:=(ey Qu 61 (sA h0) I.c.length b0 D (b.toNat) [iV ((gt D (b.toNat)).g.Id),iV ((gt D (b.toNat)).g.t), .slice j0 ((gt D (b.toNat)).g.o).length m0, .slice k0 ((gt D (b.toNat)).g.q).length n0,iV ((gt D (b.toNat)).u), .slice l0 ((gt D (b.toNat)).r).length o0,iV ((gt D (b.toNat)).y),iV ((gt D (b.toNat)).A),iV ((gt D (b.toNat)).z), .slice y0 ((gt D (b.toNat)).p).length A0]::Z0)) (fun _ _ hs=>pc (x:=(gt D (b.toNat))) hs) (M.pickN 22 [0,1,2,3,4,5,6,7,8,9,10,11,12,13,14,15,16,17,18,19,20,21] (by decide)))) ?_;refine bz (fun W M=>Mem.unfocus0 (Mem.join (is:=[g1]) (js:=(h1::(m1::W1::Qa R0 70 U0::Y0))) (fun _ _ hs=>mh (x:=(gt (gt I.d.a (I.l.toNat)) K)) hs) ((M.front (n:=4) rfl).front (n:=4) rfl))) ?_;exact bu (K+1,(a0,D),()) pv (pn 17 [1,4,5,6,0,7,8,9,10,11,12,13,14,15,16]) ⟨(by omega),nx V0 (by subst G0;exact Qe P (rfl)),(show D.map (fun(a:Qq)=>a.g.Id)=O.map (fun(a:Qq)=>a.g.Id) from by first|exact B0|exact(qZ (by rfl)).trans B0),(show ∀ i,(gt D i).r.length<=8∧(gt D i).p.length<=1000+4*X+(K+1) from by first|exact(fun i=>by have:=p0 i;omega)|exact oY p0 (by omega) (Nat.le_refl _) (by simp only[List.length_append,List.length_cons,List.length_nil];omega))⟩ (show(gt I.d.a (I.l.toNat)).length-(K+1)<(gt I.d.a (I.l.toNat)).length-K from by omega)
   refine ah rfl Q1 ?_;refine dj (av (av ?_));have d3:=dx U1 V0;have hTd:=p0;refine dk (Qj (sr ?_));refine wv (vf gk rfl cg) ?_;refine wv (vl 1 4 Qt) ?_;refine wm ?_;refine eb (cs:=[iV a0]) Qt Qh rfl (by decide) (by decide) rfl (by kernel_rfl) (Qf rfl) (by decide) (fun _=>?_);let A3:List It:=V1::iS Qb 3 e0 g0 U::K0::L0::Qa i0 204 K2::S0::T0::iS Qb 3 r0 t0 I.k::iS bg 80 s0 u0 I.f::iS be 102 C0 D0 I.j::Qa p 39 K8::iS Qb 3 (sA Q0) v0 U::is;refine ga Qb 3 (.slice O0 Z.length P0) Z a0 [] (Qg (ab Qu 61) [.slice (sA h0) I.c.length b0] D::Qa V 102 E1::A3) [iV a0] (fun W M=>((M.front (n:=15) rfl).front (n:=1) rfl)) (fun _ _ hs=>by cases (Sep.nil hs);exact(eg cw ix)) Qt Qh (show(Z.length+1)*8<=140737488355328 from by first|omega|(have:=hTd _;omega)) (fun _=>?_);refine fm 0 ?_;rintro u1 J1 rfl d5;refine wv (vf gk rfl cg) ?_;let H3:List Value:=[iV I.l,nI ((gt I.d.a (I.l.toNat)).length), .slice e0 U.length g0, .slice i1 (Y++[(gt O (b.toNat)).g.t]).length k1, .slice u1 (Z++[a0]).length J1];refine eu (p:=V) (o:=4) (cs':=H3) (fun w M=>M.front (n:=2) rfl) cg rfl (Nat.le_of_ble_eq_true rfl) rfl rfl rfl rfl (Qf rfl) ?_;refine aa (Qi ?_);let V2:List It:=Qa V 102 H3::iS Qb 3 u1 J1 (Z++[a0])::A3;refine qr (E:=Qu) (e:=61) (A:=(sA h0)) (n:=I.c.length) (c:=b0) (xs:=D) (k:=(b.toNat)) (js:=V2) (by omega) (fun W M=>(M.front (n:=2) rfl)) (fun a3=>?_);refine om (γ:=Value×Value×Value×Value) (js:=fun g=>[Qg (ab cx 180) [g.1] ((gt D (b.toNat)).g.o),Qg (ab Qb 3) [g.2.1] ((gt D (b.toNat)).g.q),Qg (ab Qb 3) [g.2.2.1] ((gt D (b.toNat)).r),Qg (ab cn 70) [g.2.2.2] ((gt D (b.toNat)).p)]) (C:=fun g=>a3=[iV ((gt D (b.toNat)).g.Id),iV ((gt D (b.toNat)).g.t),g.1,g.2.1,iV ((gt D (b.toNat)).u),g.2.2.1,iV ((gt D (b.toNat)).y),iV ((gt D (b.toNat)).A),iV ((gt D (b.toNat)).z),g.2.2.2]) (fun _ _ h=>nX h) ?_;rintro⟨_,_,_,_⟩ rfl;refine ic (n:=0) rfl ?_;rintro w1 M1 rfl e5;refine ic (n:=1) rfl ?_;rintro y1 N1 rfl g5;refine ic (n:=2) rfl ?_;rintro i2 B2 rfl h5;refine ic (n:=3) rfl ?_;rintro A1 O1 rfl i5;let o3:It:=iS cx 180 w1 M1 ((gt D (b.toNat)).g.o);let p3:It:=iS Qb 3 y1 N1 ((gt D (b.toNat)).g.q);let q3:It:=iS Qb 3 i2 B2 ((gt D (b.toNat)).r);let r3:It:=iS cn 70 A1 O1 ((gt D (b.toNat)).p);let Y1:List It:=o3::p3::q3::r3::V2;refine rb 18 (s:=Y1) (pn 19 [0,1,2,3,5,6,7,8,9,10,11,12,13,14,15,16,17,18]) ?_;refine qt 18 0 1 rfl ap ?_;refine qt 18 1 3 rfl (fun W M=>ip rfl) ?_;refine qt 18 2 7 rfl (vf Qs rfl ef) ?_;refine qt 18 3 15 rfl (vl 16 4 bo) ?_;refine qt 18 4 31 rfl ap ?_;refine qt 18 5 63 rfl ap ?_;refine qt 18 6 127 rfl (fun W M=>ip rfl) ?_;refine qt 18 7 255 rfl (vf Qs rfl ef) ?_;refine qt 18 8 511 rfl (vl 16 4 bo) ?_;refine qt 18 9 1023 rfl ap ?_;refine qt 18 10 2047 rfl (fun W M=>gx (sz:=10) (k:=b) bo cq rfl rfl rfl (by omega) (by omega)) ?_;refine qt 18 11 4095 rfl (vf cy rfl Qh) ?_;refine qt 18 13 12287 rfl ap ?_;refine qo 18 12 16383 rfl ?_;refine wv (fun W M=>ci Qz rfl rfl (M.focCells (i:=4) rfl rfl 7 _ rfl)) ?_;refine qn (pn 19 [0,1,2,3,5,6,7,8,9,10,11,12,13,14,15,16,17,18]) ?_;refine qt 18 14 32767 rfl lc ?_;refine qt 18 15 65535 rfl (fun W M=>gx (sz:=10) (k:=b) bo cq rfl rfl rfl (by omega) (by omega)) ?_;refine qt 18 16 131071 rfl (vf cy rfl Qh) ?_;refine qo 18 17 262143 rfl ?_;refine sf 7 10 [iV ((gt D (b.toNat)).g.Id),iV ((gt D (b.toNat)).g.t), .slice w1 ((gt D (b.toNat)).g.o).length M1, .slice y1 ((gt D (b.toNat)).g.q).length N1,iV ((gt D (b.toNat)).u), .slice i2 ((gt D (b.toNat)).r).length B2,iV ((gt D (b.toNat)).y),iV (IntKind.i64.wrap (((gt D (b.toNat)).A)+a0)),iV ((gt D (b.toNat)).z), .slice A1 ((gt D (b.toNat)).p).length O1] Y1 (fun W M=>(M.front (n:=4) rfl)) Qh ?_;refine qn (pn 19 [1,2,3,4,5,6,7,8,9,10,11,12,13,14,15,16,17,18]) ?_;refine fr (by kernel_rfl) ?_;refine Qj ?_;refine rb 21 (s:=Y1) (pn 19 [1,2,3,4,5,6,7,8,9,10,11,12,13,14,15,16,17,18]) ?_;refine qt 21 0 1 rfl ap ?_;refine qt 21 1 3 rfl (fun W M=>ip rfl) ?_;refine qt 21 2 7 rfl (vf Qs rfl ef) ?_;refine qt 21 3 15 rfl (vl 16 4 bo) ?_;refine qt 21 4 31 rfl ap ?_;refine qt 21 5 63 rfl ap ?_;refine qt 21 6 127 rfl (fun W M=>ip rfl) ?_;refine qt 21 7 255 rfl (vf Qs rfl ef) ?_;refine qt 21 8 511 rfl (vl 16 4 bo) ?_;refine qt 21 9 1023 rfl ap ?_;refine qt 21 10 2047 rfl (fun W M=>gx (sz:=10) (k:=b) bo cq rfl rfl rfl (by omega) (by omega)) ?_;refine qt 21 11 4095 rfl (vf cy rfl cg) ?_;refine qt 21 13 12287 rfl ap ?_;refine qt 21 14 28671 rfl (fun W M=>ip rfl) ?_;refine qt 21 15 61439 rfl (vf Qs rfl Qh) ?_;refine qt 21 16 126975 rfl (vl 16 2 Qz) ?_;refine qo 21 12 131071 rfl ?_;refine wv (fun W M=>ci Qt rfl rfl (M.focCells (i:=0) rfl rfl 5 _ rfl)) ?_;refine qn (pn 19 [1,2,3,4,5,6,7,8,9,10,11,12,13,14,15,16,17,18]) ?_;refine qo 21 17 262143 rfl ?_;refine lg (ab Qb 3) (tf ((gt D (b.toNat)).r) I.l) (Qo Aj rfl) (fun W M=>Hn W _ ((gt D (b.toNat)).r) I.l (M.rdSI (n:=3) rfl) (show _<=68719476736 from by have:=hTd (b.toNat);omega)) (fun _=>?_);refine fm 0 ?_;rintro j2 C2 rfl j5;refine qn (pn 20 [2,3,4,5,6,7,8,9,10,11,12,13,14,15,16,17,18,19]) ?_;refine qt 21 18 524287 rfl (fun W M=>gx (sz:=10) (k:=b) bo cq rfl rfl rfl (by omega) (by omega)) ?_;refine qt 21 19 1048575 rfl (vf cy rfl cg) ?_;refine qo 21 20 2097151 rfl ?_;let I3:List Value:=[iV ((gt D (b.toNat)).g.Id),iV ((gt D (b.toNat)).g.t), .slice w1 ((gt D (b.toNat)).g.o).length M1, .slice y1 ((gt D (b.toNat)).g.q).length N1,iV ((gt D (b.toNat)).u), .slice j2 (tf ((gt D (b.toNat)).r) I.l).length C2,iV ((gt D (b.toNat)).y),iV (IntKind.i64.wrap (((gt D (b.toNat)).A)+a0)),iV ((gt D (b.toNat)).z), .slice A1 ((gt D (b.toNat)).p).length O1];let s3:It:=iS Qb 3 j2 C2 (tf ((gt D (b.toNat)).r) I.l);refine sf 5 10 I3 (s3::Y1) (fun W M=>(M.front (n:=1) rfl)) cg ?_;refine qn (pn 20 [2,3,4,5,6,7,8,9,10,11,12,13,14,15,16,17,18,19]) ?_;refine fr (by kernel_rfl) ?_;refine bq (Qj (ao (wm ?_)));refine wv (cb X 1 (by omega)) ?_;refine wa (bb ?_);refine bz (fun W M=>Mem.unfocus (Mem.join (is:=[o3,p3,s3,r3]) (js:=(ey Qu 61 (sA h0) I.c.length b0 D (b.toNat) I3::(q3::V2))) (fun _ _ hs=>pc (x:=(⟨(gt D (b.toNat)).g,(gt D (b.toNat)).u,(tf ((gt D (b.toNat)).r) I.l),(gt D (b.toNat)).y,(IntKind.i64.wrap (((gt D (b.toNat)).A)+a0)),(gt D (b.toNat)).z,(gt D (b.toNat)).p⟩:Qq)) hs) (M.pickN 20 [2,3,1,5,0,4,6,7,8,9,10,11,12,13,14,15,16,17,18,19] (by decide)))) ?_;exact bu (X+1,((Y++[(gt O (b.toNat)).g.t]),(Z++[a0]),(cI I b a0 D)),(i1,k1,u1,J1)) li (pn 16 [2,5,6,7,8,9,10,11,0,12,13,14,15,4,3]) ⟨(by omega),nx R1 (by subst G0;exact ca d3 (rfl)),(show(Y++[(gt O (b.toNat)).g.t]).length<=0+(X+1) from by first|omega|(simp only[List.length_append,List.length_cons,List.length_nil] at *;omega)),(show(Z++[a0]).length<=0+(X+1) from by first|omega|(simp only[List.length_append,List.length_cons,List.length_nil] at *;omega)),(show(cI I b a0 D).map (fun(a:Qq)=>a.g.Id)=I.c.map (fun(a:Qq)=>a.g.Id) from by exact(qZ (by rfl)).trans (B0.trans S1)),(show ∀ i,(gt (cI I b a0 D) i).r.length<=8∧(gt (cI I b a0 D) i).p.length<=1000+4*(X+1) from by exact oY p0 (by omega) (Km _ _) (by dsimp only;omega))⟩ rl
  refine ah rfl P1 ?_;refine dj (av (av ?_));have e3:=dx T1 R1;refine dk (Qj ?_);refine ek (pn 15 [0,1,2,3,7,8,9,10,11,12,13,14]) ?_;let a1:List Value:=[iV I.l,nI ((gt I.d.a (I.l.toNat)).length), .slice e0 U.length g0, .slice X0 Y.length b1, .slice O0 Z.length P0];let U2:It:=Qg (ab Qu 61) [.slice I0 I.c.length b0] O;let B3:List It:=Qa V 102 a1::K0::L0::iS Qb 3 r0 t0 I.k::U2::iS bg 80 s0 u0 I.f::Qa p 39 K3::n1;let C3:List It:=iS Qb 3 r0 t0 I.k::U2::iS bg 80 s0 u0 I.f::n1;refine im 11 [10] (s:=(Qa V 102 a1::K0::L0::C3)) (s2:=B3) (pn 12 [0,2,3,4,5,6,9]) (pn 12 [0,2,3,4,5,6,8,9]) ?_;refine ae 11 0 1 rfl ap ?_;refine ae 11 1 3 rfl ap ?_;refine ae 11 2 7 rfl (fun W M=>ip rfl) ?_;refine ae 11 3 15 rfl (vf Qs rfl mw) ?_;refine ae 11 4 31 rfl (vl 6 6 jr) ?_;refine ae 11 5 63 rfl (fun W M=>Qw (cs:=a1) gk kf rfl rfl (M.boxCells (n:=0) rfl)) ?_;refine bc 11 6 127 rfl ?_;refine eb (cs:=a1) jr kf rfl (by decide) (by decide) rfl (by kernel_rfl) (Qf rfl) (by decide) (fun S3=>?_);refine aq (pn 13 [1,3,4,5,6,7,10]) (pn 13 [1,3,4,5,6,7,9,10]) ?_;refine bc 11 7 255 rfl ?_;refine aZ (E:=be) (e:=102) (v:= .slice C0 I.j.length D0) (p:=S3) (q:=1) (xs:=I.j) (ys:=[(⟨I.l,(((gt I.d.a (I.l.toNat)).length:Nat):Int),U,Y,Z⟩:gn)]) (eis:=[iS Qb 3 e0 g0 U,iS Qb 3 X0 b1 Y,iS Qb 3 O0 P0 Z]) (js:=B3) (news:=a1) (pn 13 [0,8,2,11,12,1,3,4,5,6,7,9,10]) (fun _ _ hs=>Els.single (nY (x:=(⟨I.l,(((gt I.d.a (I.l.toNat)).length:Nat):Int),U,Y,Z⟩:gn)) hs)) jr kf rfl rfl rfl (Nat.le_of_ble_eq_true rfl) rfl rfl rfl (show(I.j.length+1)*88<=140737488355328 from by first|omega|(have:=hTd _;omega)) (show I.j.length+1<=9223372036854775807 from by first|omega|(have:=hTd _;omega)) (Qf rfl) (by decide) (fun _=>?_);refine fm 0 ?_;rintro l2 D2 rfl k5;refine aq (pn 9 [1,2,3,4,5,6,8]) (pn 9 [1,2,3,4,5,6,7,8]) ?_;refine tk 11 8 511 rfl (fun W=>ip rfl) ?_;refine ae 11 9 1023 rfl (vf Qs rfl mw) ?_;refine bc 11 10 2047 rfl ?_;let p1:List Value:=[.slice (sA F0) I.d.a.length c7,iV I.d.e,iV I.l, .slice r0 I.k.length t0, .slice I0 I.c.length b0, .slice s0 I.f.length u0, .slice l2 (cJ I U Y Z).length D2,iV I.n];refine eu (p:=p) (o:=6) (cs':=p1) (fun w M=>M.front (n:=7) rfl) mw rfl (Nat.le_of_ble_eq_true rfl) rfl rfl rfl rfl (Qf rfl) ?_;refine ik (pn 9 [2,3,4,5,6,7,8]) ?_;refine fr (by kernel_rfl) ?_;let t3:It:=iS be 102 l2 D2 (cJ I U Y Z);refine bz (fun W M=>Mem.unfocus0 (Mem.join (is:=[K0]) (js:=(L0::(Qa p 39 p1::t3::Qa V 102 a1::C3))) (fun _ _ hs=>Sep.one hs) ((M.front (n:=4) rfl).front (n:=4) rfl))) ?_;refine bz (js:=(Qg cc p1 (⟨I.d,I.l,I.k,O,I.f,(cJ I U Y Z),I.n⟩:Qk)::(Qa p 39 p1::Qa V 102 a1::n1))) (fun W M=>Mem.join (is:=[iS (ab Qp 163) 100 (sA F0) c7 I.d.a,iS Qb 3 r0 t0 I.k,U2,iS bg 80 s0 u0 I.f,t3]) (js:=(Qa p 39 p1::Qa V 102 a1::n1)) (fun _ _ hs=>fz (x:=(⟨I.d,I.l,I.k,O,I.f,(cJ I U Y Z),I.n⟩:Qk)) hs) (M.pickN 8 [0,4,5,6,2,1,3,7] (by decide))) ?_;have g3:=(show su I U=(⟨I.d,I.l,I.k,O,I.f,(cJ I U Y Z),I.n⟩:Qk) from ca c3 (ca e3 (rfl)));refine Kx rfl (fun W M=>⟨p1,?_,?_⟩)
  ·rfl
  rw[g3];exact((((M.front (n:=3) rfl).front (n:=1) rfl).front (n:=2) rfl).front (n:=3) rfl).tail
 refine ae 12 0 1 rfl ap ?_;refine ae 12 1 3 rfl (fun W M=>ip rfl) ?_;refine ae 12 2 7 rfl (vf Qs rfl Qh) ?_;refine ae 12 3 15 rfl (vl 9 2 Qz) ?_;refine ae 12 4 31 rfl ap ?_;refine ae 12 5 63 rfl (bh cl) ?_;refine ae 12 7 191 rfl ap ?_;refine ju [6,10] ?_;refine fa 12 255 rfl ?_ ?_
 ·refine ez (E:=Qb) Qt Qh (Qf rfl) (by decide) (fun L2=>?_);refine aq (pn 12 [1,2,3,4,5,6,7,8,9,10,11]) (pn 12 [1,2,3,4,5,6,7,8,9,10,11]) ?_;refine ju [8,10] ?_;refine fa 12 511 rfl ?_ ?_
  ·refine fu Qb Qb 3 (.slice (sA L2) 0 0) [] U M0 (fun W M=>(M.front (n:=0) rfl)) (fun W M=>fw ft (M.rdSI (n:=11) rfl)) Qt Qh (show(0+U.length)*8<=140737488355328 from by omega) (fun _=>?_);refine fm 0 ?_;rintro m2 E2 rfl l5;refine aq (pn 12 [1,2,3,4,5,6,7,8,9,10,11]) (pn 12 [1,2,3,4,5,6,7,8,9,10,11]) ?_;refine ae 12 9 1023 rfl (fun W M=>fl (cs:=[iV I.l,nI ((gt I.d.a (I.l.toNat)).length), .slice m2 U.length E2, .slice none 0 0, .slice none 0 0]) rfl (by kernel_rfl)) ?_;refine bc 12 10 2047 rfl ?_;refine br kf rfl (Qf rfl) (by decide) (fun T3=>?_);refine aq (pn 13 [2,3,4,5,6,7,8,9,10,11,12]) (pn 13 [2,3,4,5,6,7,8,9,10,11,12]) ?_;exact gp li ai (H (m2,E2,T3))
  refine fa 12 1279 rfl ?_ ?_
  ·refine br kf rfl (Qf rfl) (by decide) (fun M2=>?_);refine aq (pn 13 [2,3,4,5,6,7,8,9,10,11,12]) (pn 13 [2,3,4,5,6,7,8,9,10,11,12]) ?_;refine bc 12 8 1535 rfl ?_;refine fu Qb Qb 3 (.slice (sA L2) 0 0) [] U (Qa M2 102 K5::M0) (fun W M=>(M.front (n:=1) rfl)) (fun W M=>fw ft (M.rdSI (n:=12) rfl)) Qt Qh (show(0+U.length)*8<=140737488355328 from by omega) (fun _=>?_);refine fm 0 ?_;rintro n2 F2 rfl m5;refine aq (pn 13 [2,3,4,5,6,7,8,9,10,11,12]) (pn 13 [2,3,4,5,6,7,8,9,10,11,12]) ?_;refine ae 12 9 2047 rfl (fun W M=>fl (cs:=[iV I.l,nI ((gt I.d.a (I.l.toNat)).length), .slice n2 U.length F2, .slice none 0 0, .slice none 0 0]) rfl (by kernel_rfl)) ?_;exact gp li (pn 13 [1,0,2,3,4,5,6,7,8,9,10,11,12]) (H (n2,F2,M2))
  exact jk
 refine fa 12 1215 rfl ?_ ?_
 ·refine br kf rfl (Qf rfl) (by decide) (fun N2=>?_);refine aq (pn 12 [1,2,3,4,5,6,7,8,9,10,11]) (pn 12 [1,2,3,4,5,6,7,8,9,10,11]) ?_;refine bc 12 6 1279 rfl ?_;refine ez (E:=Qb) Qt Qh (Qf rfl) (by decide) (fun U3=>?_);refine aq (pn 13 [2,3,4,5,6,7,8,9,10,11,12]) (pn 13 [2,3,4,5,6,7,8,9,10,11,12]) ?_;refine bc 12 8 1535 rfl ?_;refine fu Qb Qb 3 (.slice (sA U3) 0 0) [] U (Qa N2 102 K5::M0) (fun W M=>(M.front (n:=0) rfl)) (fun W M=>fw ft (M.rdSI (n:=12) rfl)) Qt Qh (show(0+U.length)*8<=140737488355328 from by omega) (fun _=>?_);refine fm 0 ?_;rintro o2 G2 rfl n5;refine aq (pn 13 [2,3,4,5,6,7,8,9,10,11,12]) (pn 13 [2,3,4,5,6,7,8,9,10,11,12]) ?_;refine ae 12 9 2047 rfl (fun W M=>fl (cs:=[iV I.l,nI ((gt I.d.a (I.l.toNat)).length), .slice o2 U.length G2, .slice none 0 0, .slice none 0 0]) rfl (by kernel_rfl)) ?_;exact gp li (pn 13 [1,0,2,3,4,5,6,7,8,9,10,11,12]) (H (o2,G2,N2))
 exact jk
def kq (vis:Qx->Bool) (s:List Qx):List bf:=(s.filter vis).map fun v=>(⟨v.Id,v.m⟩:bf)
theorem xb (vis:Qx->Bool) (s:List Qx):(kq vis s).length<=s.length:=by
 unfold kq;rw[List.length_map];exact List.length_filter_le _ _
theorem Dx {x y:List Int} (h:mt x y=true):x=y:=by
 unfold mt at h
 by_cases hl:x.length=y.length
 ·rw[show(((x.length:Nat):Int) !=((y.length:Nat):Int))=false from by rw[hl,bne_self_eq_false],cond_false,re (p:=fun k=> !(gt x k !=gt y k)) (r:=false) (fun k _=>by unfold sB;cases gt x k !=gt y k <;>rfl)] at h;have ha:(List.range x.length).all (fun k=> !(gt x k !=gt y k))=true:=by
   cases hc:(List.range x.length).all (fun k=> !(gt x k !=gt y k)) with
   |true=>rfl
   |false=>rw[hc] at h;cases h
  rw[List.all_eq_true] at ha;apply List.ext_getElem hl;intro i a b;have:=ha i (List.mem_range.2 a);rw[Bool.not_eq_true',bne_eq_false_iff_eq,gj a,gj b] at this;exact this
 rw[bne_iff_ne.2 (show((x.length:Nat):Int)≠((y.length:Nat):Int) by omega)] at h;cases h
def oa (s:gc) (v:Int):Bool:=decide (s.I<=v∧v<=s.To)
def pm:List gc->Int->List Int
 | [],_=>[]
 |s::l,v=>cond (oa s v) s.E (pm l v)
theorem uO (l:List gc) (v:Int):mr l v=pm l v:=by
 have key:∀ m k,m+k=l.length->Sum.elim id (fun(_:Unit)=>[]) (ax (R:=List Int) (fun k (_:Unit)=>te l v k) m k ())=pm (l.drop k) v:=by
  intro m
  induction m with
  |zero=>intro k hk;rw[List.drop_of_length_le (by omega)];rfl
  |succ m ih=>
   intro k hk;have hlt:k<l.length:=by omega
   rw[List.drop_eq_getElem_cons hlt, <- gj hlt,ax];show Sum.elim id (fun(_:Unit)=>[]) (Sum.elim Sum.inl (fun s'=>ax (R:=List Int) (fun k (_:Unit)=>te l v k) m (k+1) s') (te l v k))=cond (oa (gt l k) v) (gt l k).E (pm (l.drop (k+1)) v);unfold te oa;rw[kl];cases decide ((gt l k).I<=v∧v<=(gt l k).To) with
   |true=>rfl
   |false=>exact ih (k+1) (by omega)
 have:=key (l.length-0) 0 (by omega);rw[List.drop_zero] at this;exact this
theorem gE {z:gc} {v:Int} (h:oa z v=false):∀ p:List gc,pm (p++[z]) v=pm p v
 | []=>by show cond (oa z v) _ _=_;rw[h];rfl
 |s::p=>by show cond (oa s v) _ (pm (p++[z]) v)=cond (oa s v) _ (pm p v);rw[gE h p]
theorem Mn {z:gc} {v:Int} (h:oa z v=true):∀ p:List gc,(∀ s∈p,oa s v=false)->pm (p++[z]) v=z.E
 | [],_=>by show cond (oa z v) _ _=_;rw[h];rfl
 |s::p,hp=>by
  show cond (oa s v) _ (pm (p++[z]) v)=_;rw[hp s (List.mem_cons_self ..),Mn h p (fun s' a=>hp s' (List.mem_cons_of_mem _ a))];rfl
theorem gD {z z':gc} {v:Int} (h:oa z v=oa z' v) (a:z.E=z'.E):∀ p:List gc,pm (p++[z]) v=pm (p++[z']) v
 | []=>by show cond (oa z v) _ _=cond (oa z' v) _ _;rw[h,a]
 |s::p=>by show cond (oa s v) _ (pm (p++[z]) v)=cond (oa s v) _ (pm (p++[z']) v);rw[gD h a p]
def Li (T:Int->List Int) (k:Nat) (d:List gc):Prop:=
 (k=0∧d=[])∨∃ p z,d=p++[z]∧z.To=((k:Nat):Int)-1∧z.I<=((k:Nat):Int)-1∧z.E=T (((k:Nat):Int)-1)∧(∀ s∈p,s.To<z.I)∧∀ v:Int,0<=v->v<((k:Nat):Int)->pm d v=T v
theorem wK {l:List bk} {f:Int} (k:Nat) (d:List gc) (h:Li (fun v=>kh l f v) k d):∃ d',vc l f k d= .inr d'∧Li (fun v=>kh l f v) (k+1) d':=by
 unfold vc;rcases h with⟨rfl,rfl⟩|⟨p,z,rfl,_,_,_,c,e⟩
 ·refine⟨[⟨0,0,kh l f 0⟩],rfl, .inr ⟨[],_,rfl,rfl,(by show(0:Int)<=_;omega),rfl,(fun s a=>by cases a),fun v b g=>?_⟩⟩;have hv:v=0:=by omega
  subst hv;rfl
 have hl:(p++[z]).length-1=p.length:=by rw[List.length_append];show p.length+1-1=_;omega
 have hg:gt (p++[z]) p.length=z:=by
  rw[gj (by rw[List.length_append];show p.length<p.length+1;omega),List.getElem_append_right (Nat.le_refl _)];simp
 have hset:∀ y,(p++[z]).set p.length y=p++[y]:=fun y=>by
  rw[List.set_append_right _ _ (Nat.le_refl _),Nat.sub_self];rfl
 rw[decide_eq_true (show(0:Int)<(((p++[z]).length:Nat):Int) by rw[List.length_append];show(0:Int)<((p.length+1:Nat):Int);omega),cond_true,hl,hg,hset];have hz:∀ s∈p,oa s ((k:Nat):Int)=false:=fun s a=>decide_eq_false (by have:=c s a;omega)
 cases hc:mt z.E (kh l f ((k:Nat):Int)) with
 |true=>
  have he:=Dx hc;refine⟨_,rfl, .inr ⟨p,_,rfl,(by show((k:Nat):Int)=((k+1:Nat):Int)-1;omega),(by show z.I<=((k+1:Nat):Int)-1;omega),(by show z.E=kh l f (((k+1:Nat):Int)-1);rw[he];congr 1;omega),c,fun v b g=>?_⟩⟩
  by_cases hv:v=((k:Nat):Int)
  ·rw[hv,Mn (decide_eq_true (by show z.I<=((k:Nat):Int)∧((k:Nat):Int)<=((k:Nat):Int);omega)) p hz];exact he
  rw[<- e v b (by omega)];refine(gD (z:=z) (z':=⟨z.I,((k:Nat):Int),z.E⟩) (v:=v) ?_ rfl p).symm;unfold oa;apply decide_eq_decide.2;show _↔(z.I<=v∧v<=((k:Nat):Int));omega
 |false=>
  refine⟨_,rfl, .inr ⟨p++[z],_,rfl,(by show((k:Nat):Int)=((k+1:Nat):Int)-1;omega),(by show((k:Nat):Int)<=((k+1:Nat):Int)-1;omega),(by show kh l f ((k:Nat):Int)=kh l f (((k+1:Nat):Int)-1);congr 1;omega),fun s a=>?_,fun v b g=>?_⟩⟩
  ·show s.To<((k:Nat):Int);rcases List.mem_append.1 a with h|h
   ·have:=c s h;omega
   rw[List.mem_singleton.1 h];omega
  by_cases hv:v=((k:Nat):Int)
  ·rw[hv,Mn (decide_eq_true (by show((k:Nat):Int)<=((k:Nat):Int)∧((k:Nat):Int)<=((k:Nat):Int);omega)) (p++[z]) (fun s a=>by
    rcases List.mem_append.1 a with h|h
    ·exact hz s h
    rw[List.mem_singleton.1 h];exact decide_eq_false (by omega))]
  rw[gE (decide_eq_false (by show ¬ (((k:Nat):Int)<=v∧_);omega)),e v b (by omega)]
theorem uQ {l:List bk} {f v:Int} (hq:na l=true) (hf:0<=f∧f<=2) (hv:0<=v∧v<=99):mr (jo l f) v=kh l f v:=by
 rw[uO];unfold jo;rw[hq,kl,decide_eq_true hf,cond_true,cond_true];obtain⟨d,e,h⟩:=ux (R:=List gc) (body:=fun k (s:List gc)=>vc l f k s) (n:=100) (Li (fun v=>kh l f v)) (fun k d _ h=>wK k d h) (100-0) 0 [] (by omega) (.inl ⟨rfl,rfl⟩);rw[e];rcases h with⟨h,_⟩|⟨p,z,_,_,_,_,_,h⟩
 ·exact absurd h (by omega)
 exact h v (by omega) (by show v<100;omega)
theorem wI {l:List bk} {f v:Int} (hq:na l=true) (hf:0<=f∧f<=2) (hv:0<=v∧v<=99):kh l f v=(l.filter fun q=>se q f v).map fun q=>q.Id:=by
 unfold kh
 rw[wo (b:=fun k d=>cond (se (gt l k) f v) (Sum.inr (d++[(gt l k).Id])) (Sum.inr d)) (fun j s=>by
  unfold zz;rw[hq,kl,kl,decide_eq_true hf,decide_eq_true hv]
  cases se (gt l j) f v <;>rfl)]
 rw[pp (xs:=l) (f:=fun d q=>cond (se q f v) (d++[q.Id]) d) (b:=fun k d=>cond (se (gt l k) f v) (Sum.inr (d++[(gt l k).Id])) (Sum.inr d)) (fun j s _=>by cases se (gt l j) f v <;>rfl),zk];rfl
theorem vT {q:bk} (h:kk q=true):(0<=q.Id∧q.Id<=23)∧∀ c∈q.o,0<=c.Field∧c.Field<=2:=by
 unfold kk at h
 rw[re (p:=fun k=>rh (gt q.o k) && (!decide (0<((k:Nat):Int)) || !decide ((gt q.o k).Field<=(gt q.o (k-1)).Field))) (r:=false) (fun k _=>by
  unfold vb
  cases rh (gt q.o k) <;>cases decide (0<((k:Nat):Int)) <;>cases decide ((gt q.o k).Field<=(gt q.o (k-1)).Field) <;>rfl),kl q.Id] at h
 have ha:(List.range q.o.length).all (fun k=>rh (gt q.o k) && (!decide (0<((k:Nat):Int)) || !decide ((gt q.o k).Field<=(gt q.o (k-1)).Field)))=true∧decide (0<=q.Id∧q.Id<=23)=true:=by
  revert h
  cases (List.range q.o.length).all (fun k=>rh (gt q.o k) && (!decide (0<((k:Nat):Int)) || !decide ((gt q.o k).Field<=(gt q.o (k-1)).Field))) <;>cases decide (0<=q.Id∧q.Id<=23) <;>intro h <;>first|exact⟨rfl,rfl⟩|cases h
 obtain⟨ha,hi⟩:=ha;rw[List.all_eq_true] at ha;refine⟨of_decide_eq_true hi,fun c hc=>?_⟩;obtain⟨i,hi,rfl⟩:=List.mem_iff_getElem.1 hc;have:=ha i (List.mem_range.2 hi);rw[Bool.and_eq_true,gj hi] at this;have a:=this.1;unfold rh at a;rw[kl] at a
 by_cases hf:0<=q.o[i].Field∧q.o[i].Field<=2
 ·exact hf
 rw[decide_eq_false hf] at a;cases a
def bA (q:bk) (f v:Int):Bool:=q.o.all fun c=> !(c.Field==f) || decide (c.G<=v∧v<=c.H)
theorem tF (q:bk) (f v:Int):se q f v=bA q f v:=by
 unfold se bA
 rw[bS (xs:=q.o) (p:=fun c=> !(c.Field==f) || decide (c.G<=v∧v<=c.H)) (r:=false) (fun k _=>by
  unfold yf;rw[kl]
  cases (gt q.o k).Field==f <;>cases decide ((gt q.o k).G<=v∧v<=(gt q.o k).H) <;>rfl)]
 cases q.o.all fun c=> !(c.Field==f) || decide (c.G<=v∧v<=c.H) <;>rfl
theorem dP {x:List Int} (c:x.Pairwise (fun a b=>a<b)) (d:∀ y∈x,0<=y∧y<=23):nh x=true:=by
 unfold nh
 rw[sq (fun k hk=>by
  unfold nA;rw[kl,decide_eq_true (d _ (bt hk)),cond_true]
  by_cases e:0<k
  ·rw[decide_eq_true (show(0:Int)<((k:Nat):Int) by omega),decide_eq_false (show ¬ gt x k<=gt x (k-1) by
    have:=List.pairwise_iff_getElem.1 c (k-1) k (by omega) hk (by omega);rw[gj hk,gj (by omega)]
    omega)]
   rfl
  rw[decide_eq_false (show ¬ (0:Int)<((k:Nat):Int) by omega)]
  rfl)]
 rfl
theorem gS {l:List bk} (hq:na l=true) (p:bk->Bool):nh ((l.filter p).map fun q=>q.Id)=true:=by
 obtain⟨_,a,hpw⟩:=Ld hq;refine dP ?_ (fun y hy=>?_)
 ·rw[List.pairwise_map];exact hpw.filter p
 obtain⟨q,hq',rfl⟩:=List.mem_map.1 hy;exact(vT (a q (List.mem_filter.1 hq').1)).1
theorem Bt {l:List bk} (h:l.Pairwise (fun a b=>a.Id<b.Id)) {a b:bk} (ha:a∈l) (hb:b∈l) (he:a.Id=b.Id):a=b:=by
 obtain⟨i,hi,rfl⟩:=List.mem_iff_getElem.1 ha;obtain⟨j,hj,rfl⟩:=List.mem_iff_getElem.1 hb;rcases Nat.lt_trichotomy i j with c|rfl|c
 ·have:=List.pairwise_iff_getElem.1 h i j hi hj c;omega
 ·rfl
 have:=List.pairwise_iff_getElem.1 h j i hj hi c;omega
theorem Ek (x:List Int) (i:Int):ln x i=x.any fun y=>y==i:=by
 unfold ln;rw[qS (p:=fun y=>y==i) (r:=true) (fun j _=>rfl)];cases x.any fun y=>y==i <;>rfl
theorem iI {l:List bk} (hq:na l=true) (r:bk->Bool) {q:bk} (b:q∈l):ln ((l.filter r).map fun q=>q.Id) q.Id=r q:=by
 obtain⟨_,_,hpw⟩:=Ld hq;rw[Ek];cases hr:r q with
 |true=>rw[List.any_eq_true];exact⟨q.Id,List.mem_map.2 ⟨q,List.mem_filter.2 ⟨b,hr⟩,rfl⟩,beq_self_eq_true _⟩
 |false=>
  rw[List.any_eq_false];intro y hy;obtain⟨q',c,rfl⟩:=List.mem_map.1 hy;rw[beq_iff_eq];intro he;obtain⟨d,a⟩:=List.mem_filter.1 c;rw[Bt hpw d b he,hr] at a;cases a
theorem Ei {l:List bk} (hq:na l=true) (p r:bk->Bool):ss ((l.filter p).map fun q=>q.Id) ((l.filter r).map fun q=>q.Id)=(l.filter fun q=>p q && r q).map fun q=>q.Id:=by
 rw[kM,gS hq,gS hq];show List.filter _ (List.map _ _)=_;rw[List.filter_map,List.filter_filter];refine congrArg (List.map _) (List.filter_congr fun q hq'=>?_);show(ln ((l.filter r).map fun q=>q.Id) q.Id && p q)=(p q && r q);rw[iI hq r hq',Bool.and_comm]
def tt (r:bf) (k:Nat) (q:bk):Bool:=(List.range k).all fun f=>bA q ((f:Nat):Int) (gt r.m f)
def pl (r:bf) (o:List Int) (q:bk):Bool:=o.all fun f=>bA q f (gt r.m f.toNat)
theorem Eo {o:List Int} (ho:qj o=true):∀ k:Nat,k<3->((k:Nat):Int)∈o:=by
 have a:=wc o;rw[ho] at a;unfold uv at a;rw[re (n:=3) (p:=fun k=>pe o k) (r:=false) (fun k _=>rfl)] at a;intro k hk;cases ha:(List.range 3).all (fun k=>pe o ((k:Nat):Int)) with
 |false=>rw[ha] at a;cases a
 |true=>
  have b:=List.all_eq_true.1 ha k (List.mem_range.2 hk);have c:pe o ((k:Nat):Int)=o.any fun z=>z==((k:Nat):Int):=pY o _
  rw[c,List.any_eq_true] at b;obtain⟨z,hz,he⟩:=b;rw[<- beq_iff_eq.1 he];exact hz
theorem xF {o:List Int} (ho:qj o=true) (r:bf) (q:bk):pl r o q=tt r 3 q:=by
 rw[Bool.eq_iff_iff];unfold pl tt;simp only[List.all_eq_true,List.mem_range];constructor
 ·intro h k hk;have:=h _ (Eo ho k hk);rw[Int.toNat_natCast] at this;exact this
 intro h f hf;have hr:=xq ho f hf;have:=h f.toNat (by omega);rw[Int.toNat_of_nonneg hr.1] at this;exact this
theorem vE {l:List bk} {r:bf} {o:List Int} (hq:na l=true) (hr:kr r=true) (ho:qj o=true):(sh (lm l) r o).1=(l.filter (tt r 3)).map fun q=>q.Id:=by
 obtain⟨hv,_,_⟩:=(zc r).1 hr;have hor:=xq ho;rw[cZ hq];have hst:∀ k,k<3->gt [jo l 0,jo l 1,jo l 2] k=jo l ((k:Nat):Int):=fun k hk=>by
  rcases k with _|_|_|k
  ·rfl
  ·rfl
  ·rfl
  omega
 have hfind:∀ f:Int,0<=f∧f<=2->mr (gt [jo l 0,jo l 1,jo l 2] f.toNat) (gt r.m f.toNat)=(l.filter fun q=>bA q f (gt r.m f.toNat)).map fun q=>q.Id:=fun f hf=>by
  rw[hst _ (by omega),Int.toNat_of_nonneg hf.1,uQ hq hf (hv _ (bt (by omega))),wI hq hf (hv _ (bt (by omega)))];refine congrArg (List.map _) (List.filter_congr fun q _=>tF q _ _)
 unfold sh;have hall:sg l=(l.filter (pl r (o.take 0))).map fun q=>q.Id:=by
  unfold sg;rw[pp (xs:=l) (f:=fun d q=>d++[q.Id]) (b:=fun k s=>sF l k s) (fun _ _ _=>rfl)];show l.foldl _ []=_;have a:=zk (fun _:bk=>true) (fun q:bk=>q.Id) l [];have c:l.filter (pl r (o.take 0))=l.filter (fun _=>true):=List.filter_congr fun q _=>rfl
  rw[c];exact a
 have hsucc:∀ k,k<o.length->∀ q,pl r (o.take (k+1)) q=(pl r (o.take k) q && bA q (gt o k) (gt r.m (gt o k).toNat)):=fun k hk q=>by
  unfold pl;rw[List.take_add_one,er hk,List.all_append];simp
 have hmono:∀ k,∀ q,pl r o q=true->pl r (o.take k) q=true:=fun k q h=>by
  unfold pl at h ⊢;rw[List.all_eq_true] at h ⊢;exact fun f hf=>h f (List.mem_of_mem_take hf)
 obtain⟨s',e,h⟩:=qU (R:=(List Int)×Int) (b:=fun k (s:(List Int)×Int)=>aD ⟨l,[jo l 0,jo l 1,jo l 2]⟩ r o k s.1 s.2) (n:=o.length) (P:=fun k s=>s.1=(l.filter (pl r (o.take k))).map fun q=>q.Id) (Q:=fun s=>s.1=(l.filter (pl r o)).map fun q=>q.Id) (fun k s hk g=>by
  show(∃ s',aD _ r o k s.1 s.2=_∧_)∨∃ s',aD _ r o k s.1 s.2=_∧_;unfold aD
  by_cases j:0<s.1.length
  ·rw[decide_eq_true (show(0:Int)<((s.1.length:Nat):Int) by omega),cond_true];refine .inl ⟨_,rfl,?_⟩;show ss s.1 _=_;rw[hfind _ (hor _ (bt hk)),g,Ei hq];exact congrArg (List.map _) (List.filter_congr fun q _=>(hsucc k hk q).symm)
  rw[decide_eq_false (show ¬ (0:Int)<((s.1.length:Nat):Int) by omega),cond_false];refine .inr ⟨_,rfl,?_⟩;have hnil:s.1=[]:=List.eq_nil_of_length_eq_zero (by omega);rw[hnil] at g;show s.1=_;rw[hnil];have a:l.filter (pl r (o.take k))=[]:=List.map_eq_nil_iff.1 g.symm;have c:l.filter (pl r o)=[]:=by
   rw[List.filter_eq_nil_iff] at a ⊢;exact fun q hq' h=>a q hq' (hmono k q h)
  rw[c]
  rfl) (o.length-0) 0 ((sg l),0) rfl hall
 have i:l.filter (tt r 3)=l.filter (pl r o):=List.filter_congr fun q _=>(xF ho r q).symm
 rw[i];show(Sum.elim id (fun(s:(List Int)×Int)=>(s.1,s.2)) (gq (R:=(List Int)×Int) (fun k (s:(List Int)×Int)=>aD ⟨l,[jo l 0,jo l 1,jo l 2]⟩ r o k s.1 s.2) (o.length-0) 0 ((sg l),0))).1=_;rw[e];rcases h with h|h
 ·exact h
 rw[List.take_length] at h;exact h
def lw (x:Qk):List Qx:=gt x.d.a x.l.toNat
def qe (a:Qq) (v:Qx):Bool:=tt (⟨v.Id,v.m⟩:bf) 3 a.g && ny v a.u
def ob (x:Qk) (a:Qq):List bf:=kq (qe a) (lw x)
def aH (x:Qk) (a:Qq):Qq:=⟨a.g,a.u,a.r.filter (fun y=>y !=x.l),a.y,IntKind.i64.wrap (a.A+(((ob x a).length:Nat):Int)),a.z,a.p++ob x a⟩
def kn (x:Qk) (ids:List Int):List Qq:=x.c.map fun a=>cond (decide (a.g.Id∈ids)) (aH x a) a
def nk (x:Qk) (y:Int):Qq:=gt x.c (da x y).toNat
theorem fA (x:Qk):kn x []=x.c:=by
 unfold kn;have h:∀ a∈x.c,(cond (decide (a.g.Id∈([]:List Int))) (aH x a) a)=a:=fun a _=>by rw[decide_eq_false (by simp)];rfl
 rw[List.map_congr_left h,List.map_id']
theorem tq (x:Qk) (ids:List Int):(kn x ids).length=x.c.length:=by unfold kn;rw[List.length_map]
theorem pB (x:Qk) (ids:List Int) {i:Nat} (hi:i<x.c.length):gt (kn x ids) i=cond (decide ((gt x.c i).g.Id∈ids)) (aH x (gt x.c i)) (gt x.c i):=by
 unfold kn;rw[gj (by rw[List.length_map];exact hi),gj hi,List.getElem_map]
theorem eZ (x:Qk) (ids:List Int):(kn x ids).map (fun(a:Qq)=>a.g.Id)=x.c.map (fun(a:Qq)=>a.g.Id):=by
 unfold kn;rw[List.map_map];refine List.map_congr_left fun a _=>?_
 show(cond (decide (a.g.Id∈ids)) (aH x a) a).g.Id=_;cases decide (a.g.Id∈ids) <;>rfl
theorem dT {x:Qk} (h:gu x):(ct x).Pairwise (fun a b=>a<b):=by
 rw[aX h,List.pairwise_map];exact h.srt.filter _
theorem aW {x:Qk} (h:gu x) {y:Int} (hy:y∈ct x):∃ i,i<x.c.length∧(gt x.c i).g.Id=y∧da x y=((i:Nat):Int)∧pg x.l (gt x.c i)=true:=by
 rw[aX h] at hy;obtain⟨a,ha,rfl⟩:=List.mem_map.1 hy;obtain⟨ha,hb⟩:=List.mem_filter.1 ha;obtain⟨i,hi,rfl⟩:=List.mem_iff_getElem.1 ha;rw[<- gj hi] at hb ⊢;exact⟨i,hi,rfl,aV h.srt hi,hb⟩
theorem vA {x:Qk} (h:gu x) {k:Nat} (hk:k<(ct x).length):gt (ct x) k ∉ (ct x).take k:=fun a=>by
 obtain⟨j,hj,he⟩:=List.mem_iff_getElem.1 a;rw[List.length_take] at hj;rw[List.getElem_take] at he;have:=List.pairwise_iff_getElem.1 (dT h) j k (by omega) hk (by omega);rw[gj hk] at he;omega
theorem eY {x:Qk} (h:gu x) {k:Nat} (hk:k<(ct x).length):gt (kn x ((ct x).take k)) (da x (gt (ct x) k)).toNat=nk x (gt (ct x) k):=by
 obtain⟨i,hi,he,hf,_⟩:=aW h (bt hk);unfold nk;rw[hf,Int.toNat_natCast,pB x _ hi,he,decide_eq_false (vA h hk)];rfl
theorem xC {x:Qk} (h:gu x) {k:Nat} (hk:k<(ct x).length):(kn x ((ct x).take k)).set (da x (gt (ct x) k)).toNat (aH x (nk x (gt (ct x) k)))=kn x ((ct x).take (k+1)):=by
 obtain⟨i,hi,he,hf,_⟩:=aW h (bt hk);unfold nk;rw[hf,Int.toNat_natCast];refine List.ext_getElem (by rw[List.length_set,tq,tq]) fun j _ a=>?_
 have hj:j<x.c.length:=by rw[tq] at a;exact a
 rw[List.getElem_set]
 by_cases hij:i=j
 ·subst hij;rw[if_pos rfl, <- gj a,pB x _ hi,he,decide_eq_true]
  ·rfl
  rw[List.take_add_one,er hk];simp
 rw[if_neg hij, <- gj a, <- gj (by rw[tq];exact hj),pB x _ hj,pB x _ hj];have hne:(gt x.c j).g.Id≠gt (ct x) k:=fun e=>by
  have b:=aV h.srt hj;rw[e,hf] at b;omega
 congr 1
 rw[List.take_add_one,er hk,decide_eq_decide,List.mem_append];simp[hne]
theorem jQ {x:Qk} (h:gu x) {v:Qx} (hv:v∈lw x):kr (⟨v.Id,v.m⟩:bf)=true:=by
 have hc:=h.cur;have b:=(la _).1 h.st;have:=b.2.2.2.1 _ (List.mem_flatten.2 ⟨_,bt (show x.l.toNat<x.d.a.length by omega),hv⟩);exact((zd b.2.1.2).1 this).1
theorem Ge (p:Qx->Bool) {l:List Qx} {j:Nat} (hj:j<l.length):kq p (l.take (j+1))=kq p (l.take j)++cond (p (gt l j)) [(⟨(gt l j).Id,(gt l j).m⟩:bf)] []:=by
 unfold kq;rw[List.take_add_one,er hj,List.filter_append,List.map_append]
 congr 1
 show List.map _ (List.filter p [gt l j])=_;cases hp:p (gt l j) with
 |true=>rw[List.filter_cons_of_pos hp];rfl
 |false=>rw[List.filter_cons_of_neg (by rw[hp];exact Bool.false_ne_true)];rfl
theorem Gh {α:Type} [Inhabited α] (d:List α) (i:Nat):d.set i (gt d i)=d:=by
 by_cases hi:i<d.length
 ·rw[gj hi];exact List.set_getElem_self hi
 exact List.set_eq_of_length_le (by omega)
theorem gP {α:Type} [Inhabited α] {d:List α} {i:Nat} (hi:i<d.length) (y:α):gt (d.set i y) i=y:=by
 rw[gj (by rw[List.length_set];exact hi),List.getElem_set_self]
def zr (a:Qq) (l:List bf):Qq:=⟨a.g,a.u,a.r,a.y,a.A,a.z,a.p++l⟩
theorem wB {x:Qk} (h:gu x) {k:Nat} (hk:k<(ct x).length) {d:List Qq} (hd:d.map (fun(a:Qq)=>a.g.Id)=x.c.map (fun(a:Qq)=>a.g.Id)) (hc:gt d (da x (gt (ct x) k)).toNat=nk x (gt (ct x) k)):
 ax (R:=Qk) (fun j (s:Int×(List Qq))=>cH x (ct x) (mo x (ct x)) k d j s.1 s.2) ((gt x.d.a (x.l.toNat)).length-0) 0 (0,d)= .inr ((((ob x (nk x (gt (ct x) k))).length:Nat):Int),d.set (da x (gt (ct x) k)).toNat (zr (nk x (gt (ct x) k)) (ob x (nk x (gt (ct x) k))))):=by
 obtain⟨hfq,hdl⟩:=Lg hd (gt (ct x) k);obtain⟨i,hi,he,hf,hpb⟩:=aW h (bt hk);have ha:nk x (gt (ct x) k)=gt x.c i:=by unfold nk;rw[hf,Int.toNat_natCast]
 have hare:=eH h;have hq:(gt x.c i).g∈mo x (ct x):=by
  rw[eI h];exact List.mem_map.2 ⟨_,List.mem_filter.2 ⟨bt hi,hpb⟩,rfl⟩
 rw[ha] at hc ⊢;rw[hf,Int.toNat_natCast] at hc ⊢;have y:=oZ h;obtain⟨s',e,f,b⟩:=ux (R:=Qk) (body:=fun j (s:Int×(List Qq))=>cH x (ct x) (mo x (ct x)) k d j s.1 s.2) (n:=(gt x.d.a (x.l.toNat)).length)
  (fun j s=>s.1=(((kq (qe (gt x.c i)) ((lw x).take j)).length:Nat):Int)∧s.2=d.set i (zr (gt x.c i) (kq (qe (gt x.c i)) ((lw x).take j)))) (fun j s hj z=>by
   obtain⟨p,s2⟩:=s;obtain⟨f,b⟩:=z;dsimp only at f b;show ∃ s',cH x (ct x) (mo x (ct x)) k d j p s2=_∧_;unfold cH;have hrow:=jQ h (show gt (gt x.d.a x.l.toNat) j∈lw x from bt hj);have hadm:ln ((sh (lm (mo x (ct x))) (⟨(gt (gt x.d.a (x.l.toNat)) j).Id,(gt (gt x.d.a (x.l.toNat)) j).m⟩:bf) x.k).1) (gt (ct x) k)=tt (⟨(gt (gt x.d.a (x.l.toNat)) j).Id,(gt (gt x.d.a (x.l.toNat)) j).m⟩:bf) 3 (gt x.c i).g:=by
    rw[vE hare hrow h.ord, <- he,iI hare _ hq]
   rw[hadm,hfq,hf,Int.toNat_natCast];have hg:gt s2 i=zr (gt x.c i) (kq (qe (gt x.c i)) ((lw x).take j)):=by rw[b];exact gP (by omega) _
   have htm:(gt s2 i).u=(gt x.c i).u:=by rw[hg];rfl
   rw[htm];have hsn:=Ge (qe (gt x.c i)) (l:=lw x) hj;have hvis:ri (gt (gt x.d.a x.l.toNat) j) (gt x.c i).u=ny (gt (lw x) j) (gt x.c i).u:=rfl;have o:tt (⟨(gt (gt x.d.a (x.l.toNat)) j).Id,(gt (gt x.d.a (x.l.toNat)) j).m⟩:bf) 3 (gt x.c i).g=tt (⟨(gt (lw x) j).Id,(gt (lw x) j).m⟩:bf) 3 (gt x.c i).g:=rfl;rw[hvis,o];have t:=xb (qe (gt x.c i)) ((lw x).take j);rw[List.length_take] at t;have hsl:(lw x).length<=4:=y;cases r:tt (⟨(gt (lw x) j).Id,(gt (lw x) j).m⟩:bf) 3 (gt x.c i).g with
   |false=>
    have hb:qe (gt x.c i) (gt (lw x) j)=false:=by unfold qe;rw[r];rfl
    rw[hb] at hsn;refine⟨(p,s2),rfl,?_,?_⟩
    ·dsimp only;rw[hsn,cond_false,List.append_nil];exact f
    dsimp only;rw[hsn,cond_false,List.append_nil];exact b
   |true=>
    cases v:ny (gt (lw x) j) (gt x.c i).u with
    |false=>
     have hb:qe (gt x.c i) (gt (lw x) j)=false:=by unfold qe;rw[r,v];rfl
     rw[hb] at hsn;refine⟨(p,s2),rfl,?_,?_⟩
     ·dsimp only;rw[hsn,cond_false,List.append_nil];exact f
     dsimp only;rw[hsn,cond_false,List.append_nil];exact b
    |true=>
     have hb:qe (gt x.c i) (gt (lw x) j)=true:=by unfold qe;rw[r,v];rfl
     rw[hb] at hsn;refine⟨_,rfl,?_,?_⟩
     ·dsimp only;rw[hsn,cond_true,List.length_append,f,ia (by omega) (by omega)];show _+1=(((_+1:Nat)):Int);omega
     show vd x ((i:Nat):Int) j s2=_;unfold vd rj;rw[Int.toNat_natCast,hg,b,List.set_set,hsn,cond_true];unfold zr;dsimp only;rw[List.append_assoc];rfl) ((gt x.d.a (x.l.toNat)).length-0) 0 (0,d) (by omega) ⟨rfl,by
   show d=d.set i (zr (gt x.c i) (kq (qe (gt x.c i)) ((lw x).take 0)));have w:zr (gt x.c i) (kq (qe (gt x.c i)) ((lw x).take 0))=gt d i:=by
    rw[hc];generalize gt x.c i=a;cases a
    simp[zr,kq]
   rw[w,Gh]⟩
 rw[e];have ht:(lw x).take (gt x.d.a (x.l.toNat)).length=lw x:=List.take_length;rw[ht] at f b;obtain⟨p,s2⟩:=s';dsimp only at f b;rw[f,b];rfl
def nW (x:Qk) (ids:List Int):List Int:=ids.map fun y=>(nk x y).g.t
def mJ (x:Qk) (ids:List Int):List Int:=ids.map fun y=>(((ob x (nk x y)).length:Nat):Int)
def tv (x:Qk):gn:=⟨x.l,(((lw x).length:Nat):Int),ct x,nW x (ct x),mJ x (ct x)⟩
theorem iH {β:Type} (f:Int->β) {l:List Int} {k:Nat} (hk:k<l.length):(l.take (k+1)).map f=(l.take k).map f++[f (gt l k)]:=by
 rw[List.take_add_one,er hk,List.map_append];rfl
theorem lZ {x:Qk} (h:gu x):su x (ct x)=⟨x.d,x.l,x.k,kn x (ct x),x.f,x.j++[tv x],x.n⟩:=by
 have:=mA h;unfold su;obtain⟨q,o,hq⟩:=ux (R:=Qk) (body:=fun k (s:(List bk))=>ya x (ct x) k s) (n:=(ct x).length) (fun k s=>s=mo x ((ct x).take k)) (fun k s hk g=>⟨_,rfl,by rw[eK hk, <- g]⟩) ((ct x).length-0) 0 [] (by omega) rfl;rw[List.take_length] at hq;rw[o,hq];obtain⟨s,p,a,b,e⟩:=ux (R:=Qk) (body:=fun k (s:(List Int)×(List Int)×(List Qq))=>cG x (ct x) (mo x (ct x)) k s.1 s.2.1 s.2.2) (n:=(ct x).length)
  (fun k s=>s.1=nW x ((ct x).take k)∧s.2.1=mJ x ((ct x).take k)∧s.2.2=kn x ((ct x).take k)) (fun k s hk g=>by
   obtain⟨m,s2,r⟩:=s;obtain⟨a,b,e⟩:=g;dsimp only at a b e;subst e;show ∃ s',cG x (ct x) (mo x (ct x)) k m s2 _=_∧_;unfold cG;rw[wB h hk (eZ x _) (eY h hk),(Lg (eZ x ((ct x).take k)) (gt (ct x) k)).1];refine⟨_,rfl,?_,?_,?_⟩
   ·show m++[_]=_;unfold nW at a ⊢;rw[iH _ hk,a,eY h hk]
   ·show s2++[_]=_;unfold mJ at b ⊢;rw[iH _ hk,b]
   obtain⟨i,hi,he,hf,hpb⟩:=aW h (bt hk);rw[<- xC h hk];unfold cI;dsimp only;rw[gP (by rw[tq,hf];omega),List.set_set,lP]
   rfl) ((ct x).length-0) 0 ([],[],x.c) (by omega) ⟨rfl,rfl,by rw[List.take_zero,fA]⟩
 show Sum.elim id _ (ax (R:=Qk) (fun k (s:(List Int)×(List Int)×(List Qq))=>cG x (ct x) (mo x (ct x)) k s.1 s.2.1 s.2.2) ((ct x).length-0) 0 ([],[],x.c))=_;rw[p];obtain⟨m,s2,r⟩:=s;dsimp only at a b e;rw[List.take_length] at a b e;rw[a,b,e];rfl
theorem wH {x:Qk} (h:gu x):(su x (ct x)).d=x.d:=by rw[lZ h]
theorem wF {x:Qk} (h:gu x):(su x (ct x)).d.a.length=x.d.a.length:=by rw[lZ h]
theorem wA {x:Qk} (h:gu x):(su x (ct x)).c.length=x.c.length:=by rw[lZ h];exact tq _ _
theorem wC {x:Qk} (h:gu x):(su x (ct x)).f.length=x.f.length:=by rw[lZ h]
abbrev rU (E36:Qk) (k95:Nat) (d96:(List Qq)):(List Qq):=
 (d96++[(⟨(gt E36.c k95).g,(gt E36.c k95).u,(gt E36.c k95).r,(IntKind.i64.wrap (((gt E36.c k95).y)+1)),0,(gt E36.c k95).z,(gt E36.c k95).p⟩:Qq)])
abbrev rV (E36:Qk) (k95:Nat) (d96:(List Qq)):(List Qq):=
 (d96++[(⟨(gt E36.c k95).g,(gt E36.c k95).u,(gt E36.c k95).r,(IntKind.i64.wrap (((gt E36.c k95).y)+1)),(gt E36.c k95).A,(gt E36.c k95).z,(gt E36.c k95).p⟩:Qq)])
def nJ (b:Qk) (e:Nat) (h:(List Qq)) (f:(List fv)):Qk⊕((List Qq)×(List fv)):=
 cond ((Int.tmod (IntKind.i64.wrap (((gt b.c e).y)+1)) ((b.d.a.length:Nat):Int))==0) (cond (((((gt b.c e).r).length:Nat):Int)==0) (Sum.inr (h,(f++[(⟨(gt b.c e).g,(gt b.c e).u,(IntKind.i64.wrap (((gt b.c e).y)+1)),(gt b.c e).p⟩:fv)]))) (Sum.inr ((rU b e h),f))) (cond (((((gt b.c e).r).length:Nat):Int)==0) (Sum.inr (h,(f++[(⟨(gt b.c e).g,(gt b.c e).u,(IntKind.i64.wrap (((gt b.c e).y)+1)),(gt b.c e).p⟩:fv)]))) (Sum.inr ((rV b e h),f)))
def cK (a:Qk):Qk⊕Qk:=
 cond (decide (0<(((ct a).length:Nat):Int))) (Sum.inr (su a (ct a))) (Sum.inr a)
def ms (b:Qk):Qk:=
 Sum.elim id (fun(s101_:Qk)=>Sum.elim id (fun(s:(List Qq)×(List fv))=>(ml (⟨s101_.d,(Int.tmod (IntKind.i64.wrap (s101_.l+1)) ((s101_.d.a.length:Nat):Int)),s101_.k,s.1,s.2,s101_.j,(IntKind.i64.wrap (s101_.n+1))⟩:Qk))) (ax (R:=Qk) (fun k (s:(List Qq)×(List fv))=>nJ s101_ k s.1 s.2) (s101_.c.length-0) 0 ([],s101_.f))) ((cK b))
theorem Np:Cb Tryz.prog 62:=⟨f62,_,func62,rfl,by decide⟩
theorem Hm (B:Nat) (w0:World) (is:List It) (w:World) (p:Nat) (z0:List Value) (H:Qk) (r0:lz 68719476736 H) (hE:gu H) (F:Mem B w0 (Qa p 39 z0::Qg cc z0 H::is) w):
 Calls Tryz.prog 62 #[.pointer (sA p)] w fun e w'=>∃ x:List Value,e= .returned (.tuple #[])∧Mem B w0 (Qa p 39 x::Qg cc x (ms H)::is) w':=by
 refine nv (L:=[(0, .pointer (sA p))]) (N:=100) func62 rfl rfl (Nat.le_of_ble_eq_true rfl) (jl rfl mi) F ?_;refine ek (js:=(Qg cc z0 H::Qa p 39 z0::is)) (fun W F=>(F.front (n:=1) rfl)) ?_;refine om (γ:=Value×Value×Value×Value×Value) (js:=fun g=>[Qg (ab (ab Qp 163) 100) [g.1] H.d.a,Qg (ab Qb 3) [g.2.1] H.k,Qg (ab Qu 61) [g.2.2.1] H.c,Qg (ab bg 80) [g.2.2.2.1] H.f,Qg (ab be 102) [g.2.2.2.2] H.j]) (C:=fun g=>z0=[g.1,iV H.d.e,iV H.l,g.2.1,g.2.2.1,g.2.2.2.1,g.2.2.2.2,iV H.n]) (fun _ _ h=>nZ h) ?_;rintro⟨_,_,_,_,_⟩ rfl;refine ic (n:=0) rfl ?_;rintro A6 c7 rfl m8;refine ic (n:=1) rfl ?_;rintro X0 h1 rfl U2;refine ic (n:=2) rfl ?_;rintro Y0 i1 rfl V2;refine ic (n:=3) rfl ?_;rintro Z0 j1 rfl W2;refine ic (n:=4) rfl ?_;rintro a1 k1 rfl X2;have:H.d.a.length<=68719476736:=r0.1.1;have:=r0.2.1;have:=r0.2.2.1.1;have:=r0.2.2.2.1.1;have:=r0.2.2.2.2.1;have:=hE.al;have:=hE.cur;have:=((la _).1 hE.st).1;have:=hE.dl;have:=hE.ll;have:=hE.stp;refine sr (wm ?_);refine wv (fun W F=>ip rfl) ?_;let K1:List Value:=[.slice A6 H.d.a.length c7,iV H.d.e,iV H.l, .slice X0 H.k.length h1, .slice Y0 H.c.length i1, .slice Z0 H.f.length j1, .slice a1 H.j.length k1,iV H.n];refine wv (fun W F=>Qw (cs:=K1) Qs Qv rfl rfl (F.boxCells (n:=5) rfl)) ?_;refine lg (ab Qb 3) (ct H) (Qo Nl rfl) (fun W F=>Hb W _ H (fx (x:=H) (F.rdSI (n:=0) rfl) (F.rdSI (n:=1) rfl) (F.rdSI (n:=2) rfl) (F.rdSI (n:=3) rfl) (F.rdSI (n:=4) rfl)) r0) (fun _=>?_);have:=mA hE;refine fm 0 ?_;rintro b1 l1 rfl Y2;refine wa (aa (Qi (sr (wm ?_))));refine wv (bh Qt) ?_;refine wv (fun W F=>jz rfl rfl) ?_;refine aa ?_;refine pw (σ:=Qk×(Option Addr×Nat×Option Addr×Nat×Option Addr×Nat×Option Addr×Nat×Option Addr×Nat)) (fun s=>[(0,bp p)]) (fun s=>(iS (ab Qp 163) 100 s.2.1 s.2.2.1 s.1.d.a::iS Qb 3 s.2.2.2.1 s.2.2.2.2.1 s.1.k::iS Qu 61 s.2.2.2.2.2.1 s.2.2.2.2.2.2.1 s.1.c::iS bg 80 s.2.2.2.2.2.2.2.1 s.2.2.2.2.2.2.2.2.1 s.1.f::iS be 102 s.2.2.2.2.2.2.2.2.2.1 s.2.2.2.2.2.2.2.2.2.2 s.1.j::Qa p 39 [.slice s.2.1 s.1.d.a.length s.2.2.1,iV s.1.d.e,iV s.1.l, .slice s.2.2.2.1 s.1.k.length s.2.2.2.2.1, .slice s.2.2.2.2.2.1 s.1.c.length s.2.2.2.2.2.2.1, .slice s.2.2.2.2.2.2.2.1 s.1.f.length s.2.2.2.2.2.2.2.2.1, .slice s.2.2.2.2.2.2.2.2.2.1 s.1.j.length s.2.2.2.2.2.2.2.2.2.2,iV s.1.n]::is)) (fun s=>(cK H)=Sum.inr s.1∧s.1.d=H.d∧s.1.d.a.length=H.d.a.length∧s.1.c.length=H.c.length∧s.1.f.length=H.f.length) ?_ ?_
 ·rcases ff (0<(((ct H).length:Nat):Int)) with⟨Y1,A0⟩|⟨Y1,A0⟩
  ·refine Qr rfl A0 ?_;refine ao (wm (wm ?_));let x1:List It:=iS Qb 3 b1 l1 (ct H)::Qa p 39 K1::is;refine il (js:=(Qg cc K1 H::x1)) (fun W F=>Mem.join (is:=[iS (ab Qp 163) 100 A6 c7 H.d.a,iS Qb 3 X0 h1 H.k,iS Qu 61 Y0 i1 H.c,iS bg 80 Z0 j1 H.f,iS be 102 a1 k1 H.j]) (js:=x1) (fun _ _ hs=>fz (x:=H) hs) (F.pickN 7 [1,2,3,4,5,0,6] (by decide))) ?_;refine dr (χ:=List Value) (val:=fun x=> .tuple #[]) (js:=fun x=>(Qa p 39 x::Qg cc x (su H (ct H))::iS Qb 3 b1 l1 (ct H)::(is))) (Qo zI rfl) (fun W F=>Hl B w0 (is) W p _ H _ (ct H) r0 (show _<=68719476736 from by omega) (hE) (rfl) (((F.front (n:=1) rfl).front (n:=1) rfl).front (n:=2) rfl)) (Qf rfl) (by decide) (fun M1=>?_);have C0:=wH hE;have E0:=wF hE;have F0:=wA hE;have G0:=wC hE;obtain⟨s0,l0⟩:∃ G,G=(su H (ct H)):=⟨_,rfl⟩;rw[<- l0];rw[<- l0] at C0;rw[<- l0] at E0;rw[<- l0] at F0;rw[<- l0] at G0;refine il (js:=(Qg cc M1 s0::Qa p 39 M1::iS Qb 3 b1 l1 (ct H)::is)) (fun W F=>(F.front (n:=1) rfl)) ?_;refine gy ?_;rintro⟨_,_,_,_,_⟩ rfl;refine fm 0 ?_;rintro N1 S1 rfl Z2;refine fm 1 ?_;rintro O1 T1 rfl a3;refine fm 2 ?_;rintro P1 U1 rfl b3;refine fm 3 ?_;rintro Q1 V1 rfl c3;refine fm 4 ?_;rintro R1 W1 rfl d3;refine bb ?_;exact lr (s0,(N1,S1,O1,T1,P1,U1,Q1,V1,R1,W1)) (fc rfl nd) (pn 7 [0,1,2,3,4,5]) ⟨(show(cK H)=Sum.inr s0 from by subst l0;exact Qc A0 (rfl)),(show s0.d=H.d from by first|rfl|exact C0),(show s0.d.a.length=H.d.a.length from by first|rfl|exact E0),(show s0.c.length=H.c.length from by first|rfl|exact F0),(show s0.f.length=H.f.length from by first|rfl|exact G0)⟩
  refine ah rfl A0 ?_;refine an ?_;exact lr (H,(A6,c7,X0,h1,Y0,i1,Z0,j1,a1,k1)) (fc rfl nd) (pn 7 [1,2,3,4,5,6]) ⟨(show(cK H)=Sum.inr H from Qe A0 (rfl)),(show H.d=H.d from by first|rfl|exact C0),(show H.d.a.length=H.d.a.length from by first|rfl|exact E0),(show H.c.length=H.c.length from by first|rfl|exact F0),(show H.f.length=H.f.length from by first|rfl|exact G0)⟩
 rintro⟨b,⟨m0,n0,T,U,v0,u0,d1,m1,Z,b0⟩⟩ r1;dsimp only at r1;obtain⟨F1,C0,E0,F0,G0⟩:=r1;let o0:It:=iS (ab Qp 163) 100 m0 n0 b.d.a;show QM 100 _ _ _ .normal [(0,bp p)] (o0::iS Qb 3 T U b.k::iS Qu 61 v0 u0 b.c::iS bg 80 d1 m1 b.f::iS be 102 Z b0 b.j::Qa p 39 [.slice m0 b.d.a.length n0,iV b.d.e,iV b.l, .slice T b.k.length U, .slice v0 b.c.length u0, .slice d1 b.f.length m1, .slice Z b.j.length b0,iV b.n]::is);refine uk (n:=0) rfl ?_;intro e3 g3;refine uk (n:=1) rfl ?_;intro h3 i3;refine uk (n:=2) rfl ?_;intro j3 k3;refine uk (n:=3) rfl ?_;intro l3 m3;refine uk (n:=4) rfl ?_;intro n3 o3;refine Qj (sr (wm ?_));refine wv (fun W F=>ip rfl) ?_;refine wv (vf Qs rfl au) ?_;refine wv (fun W F=>ir (o:=0) ay rfl fp (by decide) rfl rfl) ?_;refine wv (vl 5 0 bx) ?_;refine wv (bh bx) ?_;refine wa (aa (sr ?_));refine ez (E:=Qu) bo cq (Qf rfl) (by decide) (fun c2=>?_);refine wa (aa (Qi (sr (wa (aa (aw ?_))))));refine ek (fun W F=>Mem.toRest (F.front (n:=3) rfl)) ?_;refine dw (S:=(List Qq)×(List fv)) (R:=Option Addr×Nat×Option Addr×Nat) (fun k (s:(List Qq)×(List fv))=>nJ b k s.1 s.2) b.c.length 0 ([],b.f) ((sA c2),0,d1,m1) (fun s=>[(0,bp p),(3,nI b.d.a.length),(4, .slice s.2.2.1 s.2.1.1.length s.2.2.2.1),(5,nI s.1)]) (fun s=>(qb Qu 61 v0 b.c.length b.c s.1::iS Qu 61 s.2.2.1 s.2.2.2.1 s.2.1.1::o0::iS Qb 3 T U b.k::iS bg 80 s.2.2.2.2.1 s.2.2.2.2.2 s.2.1.2::iS be 102 Z b0 b.j::Qa p 39 [.slice m0 b.d.a.length n0,iV b.d.e,iV b.l, .slice T b.k.length U, .slice v0 b.c.length u0, .slice s.2.2.2.2.1 s.2.1.2.length s.2.2.2.2.2, .slice Z b.j.length b0,iV b.n]::is)) (fun s=>s.2.1.1.length<=0+s.1∧s.2.1.2.length<=b.f.length+s.1) eo ⟨Nat.le_refl _,Nat.le_refl _⟩ ?_;rintro⟨m,⟨I,D⟩,⟨d0,e0,V,X⟩⟩ O0 _ _ e e';dsimp only at O0 ⊢;subst e e';obtain⟨_,k0,_,_⟩:=O0;refine Qi (sr (wm (wm ?_)));refine wv (fun W F=>ip rfl) ?_;refine wv (vf Qs rfl ef) ?_;refine wv (vl 6 4 bo) ?_;refine wv (bh bo) ?_;refine wv df ?_;refine aa ?_;rcases dz m b.c.length with⟨D0,y0⟩|⟨D0,y0⟩
 ·refine Qr rfl y0 ?_;refine an (Qj (Qi (aw (sr (wm ?_)))));refine wv (fun W F=>ip rfl) ?_;refine wv (vf Qs rfl ef) ?_;refine wv (vl 6 4 bo) ?_;refine wm ?_;refine Ll (n:=0) rfl (by omega) ?_;rintro g0 rfl;refine wv (bv 10 m bo cq) ?_;let K2:List Value:=[.slice m0 b.d.a.length n0,iV b.d.e,iV b.l, .slice T b.k.length U, .slice (sA g0) b.c.length u0, .slice V D.length X, .slice Z b.j.length b0,iV b.n];let e1:List It:=iS be 102 Z b0 b.j::Qa p 39 K2::is;let g1:List It:=o0::iS Qb 3 T U b.k::iS bg 80 V X D::e1;refine Lm (E:=Qu) (e:=61) (A:=(sA g0)) (n:=b.c.length) (xs:=b.c) (k:=m) (js:=(iS Qu 61 d0 e0 I::g1)) (by omega) (fun W F=>(F.front (n:=0) rfl)) (fun _=>?_);refine sS ?_;rintro⟨_,_,_,_⟩ rfl;refine fm 0 ?_;rintro K O rfl d2;refine fm 1 ?_;rintro M P rfl e2;refine fm 2 ?_;rintro h0 i0 rfl g2;refine fm 3 ?_;rintro Y a0 rfl h2;let K3:List Value:=[iV ((gt b.c m).g.Id),iV ((gt b.c m).g.t), .slice K ((gt b.c m).g.o).length O, .slice M ((gt b.c m).g.q).length P,iV ((gt b.c m).u), .slice h0 ((gt b.c m).r).length i0,iV ((gt b.c m).y),iV ((gt b.c m).A),iV ((gt b.c m).z), .slice Y ((gt b.c m).p).length a0];refine wv (fun W F=>Qw (cs:=K3) cy cq rfl rfl (F.restCells (i:=4) rfl rfl)) ?_;refine br cq rfl (Qf rfl) (by decide) (fun c0=>?_);refine eu (p:=c0) (o:=0) (cs':=K3) (fun w F=>F.front (n:=0) rfl) cq rfl (Nat.le_of_ble_eq_true rfl) rfl rfl rfl rfl (Qf rfl) ?_;refine aa (sr ?_);refine wv (vf cy rfl Qh) ?_;refine wv (vl 0 6 Qz) ?_;refine wv lc ?_;refine wv (vf cy rfl Qh) ?_;let K4:List Value:=[iV ((gt b.c m).g.Id),iV ((gt b.c m).g.t), .slice K ((gt b.c m).g.o).length O, .slice M ((gt b.c m).g.q).length P,iV ((gt b.c m).u), .slice h0 ((gt b.c m).r).length i0,iV (IntKind.i64.wrap (((gt b.c m).y)+1)),iV ((gt b.c m).A),iV ((gt b.c m).z), .slice Y ((gt b.c m).p).length a0];refine eu (p:=c0) (o:=6) (cs':=K4) (fun w F=>F.front (n:=0) rfl) Qh rfl (Nat.le_of_ble_eq_true rfl) rfl rfl rfl rfl (Qf rfl) ?_;refine aa (Qi (sr ?_));refine wv (vf cy rfl Qh) ?_;refine wv (vl 0 6 Qz) ?_;refine wm ?_;refine wv (fun W F=>qW rfl rfl (by omega)) ?_;refine wv (fun W F=>ed rfl rfl) ?_;refine aa ?_;rcases fg (Int.tmod (IntKind.i64.wrap (((gt b.c m).y)+1)) ((b.d.a.length:Nat):Int)) 0 with⟨C1,j0⟩|⟨C1,j0⟩
  ·refine Qr rfl j0 ?_;refine ao ?_;refine wv (vf cy rfl Qh) ?_;let K5:List Value:=[iV ((gt b.c m).g.Id),iV ((gt b.c m).g.t), .slice K ((gt b.c m).g.o).length O, .slice M ((gt b.c m).g.q).length P,iV ((gt b.c m).u), .slice h0 ((gt b.c m).r).length i0,iV (IntKind.i64.wrap (((gt b.c m).y)+1)),iV 0,iV ((gt b.c m).z), .slice Y ((gt b.c m).p).length a0];refine eu (p:=c0) (o:=7) (cs':=K5) (fun w F=>F.front (n:=0) rfl) Qh rfl (Nat.le_of_ble_eq_true rfl) rfl rfl rfl rfl (Qf rfl) ?_;refine aa (sr ?_);refine wv (vf cy rfl cg) ?_;refine wv (vl 0 5 Qt) ?_;refine wv (bh Qt) ?_;refine wv (fun W F=>ed rfl rfl) ?_;refine aa ?_;rcases fg ((((gt b.c m).r).length:Nat):Int) 0 with⟨D1,p0⟩|⟨D1,p0⟩
   ·refine Qr rfl p0 ?_;let s1:It:=iS Qb 3 h0 i0 ((gt b.c m).r);let t1:It:=ry Qu 61 (sA g0) b.c.length b.c m K3;let y1:List It:=Qa c0 61 K5::s1::t1::iS Qu 61 d0 e0 I::o0::iS Qb 3 T U b.k::e1;refine im 19 [18] (s:=(Qa c0 61 K5::s1::t1::iS Qu 61 d0 e0 I::o0::iS Qb 3 T U b.k::iS be 102 Z b0 b.j::is)) (s2:=y1) (pn 12 [0,3,5,6,7,8,10]) (pn 12 [0,3,5,6,7,8,10,11]) ?_;refine ae 19 0 1 rfl ap ?_;refine ae 19 1 3 rfl ap ?_;refine ae 19 2 7 rfl (fun W F=>ip rfl) ?_;refine ae 19 3 15 rfl (vf Qs rfl me) ?_;refine ae 19 4 31 rfl (vl 7 5 jc) ?_;refine ae 19 5 63 rfl (vf cy rfl dh) ?_;refine ae 19 6 127 rfl (fun W F=>Qw (cs:=[iV ((gt b.c m).g.Id),iV ((gt b.c m).g.t), .slice K ((gt b.c m).g.o).length O, .slice M ((gt b.c m).g.q).length P]) di dh rfl rfl (F.boxPart (n:=0) rfl rfl)) ?_;refine ae 19 7 255 rfl (vf cy rfl Qh) ?_;refine ae 19 8 511 rfl (vl 0 4 Qz) ?_;refine ae 19 9 1023 rfl (vf cy rfl Qh) ?_;refine ae 19 10 2047 rfl (vl 0 6 Qz) ?_;refine ae 19 11 4095 rfl (vf cy rfl lh) ?_;refine ae 19 12 8191 rfl (vl 0 9 gl) ?_;let K6:List Value:=[iV ((gt b.c m).g.Id),iV ((gt b.c m).g.t), .slice K ((gt b.c m).g.o).length O, .slice M ((gt b.c m).g.q).length P,iV ((gt b.c m).u),iV (IntKind.i64.wrap (((gt b.c m).y)+1)), .slice Y ((gt b.c m).p).length a0];refine ae 19 13 16383 rfl (fun W F=>fl (cs:=K6) rfl (by kernel_rfl)) ?_;refine bc 19 14 32767 rfl ?_;refine eb (cs:=K6) jc jy rfl (by decide) (by decide) rfl (by kernel_rfl) (Qf rfl) (by decide) (fun G1=>?_);refine aq (pn 13 [1,4,6,7,8,9,11]) (pn 13 [1,4,6,7,8,9,11,12]) ?_;refine bc 19 15 65535 rfl ?_;refine aZ (E:=bg) (e:=80) (v:= .slice V D.length X) (p:=G1) (q:=1) (xs:=D) (ys:=[(⟨(gt b.c m).g,(gt b.c m).u,(IntKind.i64.wrap (((gt b.c m).y)+1)),(gt b.c m).p⟩:fv)]) (eis:=[iS cx 180 K O ((gt b.c m).g.o),iS Qb 3 M P ((gt b.c m).g.q),iS cn 70 Y a0 ((gt b.c m).p)]) (js:=y1) (news:=K6) (pn 13 [0,10,2,3,5,1,4,6,7,8,9,11,12]) (fun _ _ hs=>Els.single (oA (x:=(⟨(gt b.c m).g,(gt b.c m).u,(IntKind.i64.wrap (((gt b.c m).y)+1)),(gt b.c m).p⟩:fv)) hs)) jc jy rfl rfl rfl (Nat.le_of_ble_eq_true rfl) rfl rfl rfl (show(D.length+1)*104<=140737488355328 from by omega) (show D.length+1<=9223372036854775807 from by omega) (Qf rfl) (by decide) (fun _=>?_);refine fm 0 ?_;rintro H0 P0 rfl i2;refine aq (pn 9 [1,2,3,4,5,6,7]) (pn 9 [1,2,3,4,5,6,7,8]) ?_;refine tk 19 16 131071 rfl (fun W=>ip rfl) ?_;refine ae 19 17 262143 rfl (vf Qs rfl me) ?_;refine bc 19 18 524287 rfl ?_;refine eu (p:=p) (o:=5) (cs':=[.slice m0 b.d.a.length n0,iV b.d.e,iV b.l, .slice T b.k.length U, .slice (sA g0) b.c.length u0, .slice H0 (D++[(⟨(gt b.c m).g,(gt b.c m).u,(IntKind.i64.wrap (((gt b.c m).y)+1)),(gt b.c m).p⟩:fv)]).length P0, .slice Z b.j.length b0,iV b.n]) (fun w F=>F.front (n:=8) rfl) me rfl (Nat.le_of_ble_eq_true rfl) rfl rfl rfl rfl (Qf rfl) ?_;refine ik (pn 9 [2,3,4,5,6,7,8]) ?_;refine fr (by kernel_rfl) ?_;refine bq (Qj (ao (wm ?_)));refine wv (cb m 1 (by omega)) ?_;refine wa (bb ?_);refine bz (fun W F=>Mem.restNext (F.front (n:=4) rfl)) ?_;exact bu (m+1,(I,(D++[(⟨(gt b.c m).g,(gt b.c m).u,(IntKind.i64.wrap (((gt b.c m).y)+1)),(gt b.c m).p⟩:fv)])),(d0,e0,H0,P0)) eo (pn 9 [0,5,6,7,2,8,1]) ⟨(by omega),nx k0 (Qc j0 (Qc p0 (rfl))),(show I.length<=0+(m+1) from by first|omega|(simp only[List.length_append,List.length_cons,List.length_nil] at *;omega)),(show(D++[(⟨(gt b.c m).g,(gt b.c m).u,(IntKind.i64.wrap (((gt b.c m).y)+1)),(gt b.c m).p⟩:fv)]).length<=b.f.length+(m+1) from by first|omega|(simp only[List.length_append,List.length_cons,List.length_nil] at *;omega))⟩ rl
   refine ah rfl p0 ?_;refine ao (wm ?_);refine wv (fun W F=>Qw (cs:=K5) cy cq rfl rfl (F.boxCells (n:=0) rfl)) ?_;refine eb (cs:=K5) bo cq rfl (by decide) (by decide) rfl (by kernel_rfl) (Qf rfl) (by decide) (fun H1=>?_);refine aZ (E:=Qu) (e:=61) (v:= .slice d0 I.length e0) (p:=H1) (q:=1) (xs:=I) (ys:=[(⟨(gt b.c m).g,(gt b.c m).u,(gt b.c m).r,(IntKind.i64.wrap (((gt b.c m).y)+1)),0,(gt b.c m).z,(gt b.c m).p⟩:Qq)]) (eis:=[iS cx 180 K O ((gt b.c m).g.o),iS Qb 3 M P ((gt b.c m).g.q),iS Qb 3 h0 i0 ((gt b.c m).r),iS cn 70 Y a0 ((gt b.c m).p)]) (js:=(Qa c0 61 K5::ry Qu 61 (sA g0) b.c.length b.c m K3::g1)) (news:=K5) (pn 13 [0,7,2,3,4,5,1,6,8,9,10,11,12]) (fun _ _ hs=>Els.single (pc (x:=(⟨(gt b.c m).g,(gt b.c m).u,(gt b.c m).r,(IntKind.i64.wrap (((gt b.c m).y)+1)),0,(gt b.c m).z,(gt b.c m).p⟩:Qq)) hs)) bo cq rfl rfl rfl (Nat.le_of_ble_eq_true rfl) rfl rfl rfl (show(I.length+1)*144<=140737488355328 from by omega) (show I.length+1<=9223372036854775807 from by omega) (Qf rfl) (by decide) (fun _=>?_);refine fm 0 ?_;rintro p1 A1 rfl j2;refine wa (bb (bq (Qj (ao (wm ?_)))));refine wv (cb m 1 (by omega)) ?_;refine wa (bb ?_);refine bz (fun W F=>Mem.restNext (F.front (n:=2) rfl)) ?_;exact bu (m+1,((rU b m I),D),(p1,A1,V,X)) eo (pn 8 [0,1,3,4,5,6,7]) ⟨(by omega),nx k0 (Qc j0 (Qe p0 (rfl))),(show(rU b m I).length<=0+(m+1) from by first|omega|(simp only[List.length_append,List.length_cons,List.length_nil] at *;omega)),(show D.length<=b.f.length+(m+1) from by first|omega|(simp only[List.length_append,List.length_cons,List.length_nil] at *;omega))⟩ rl
  refine ah rfl j0 ?_;refine an (Qj (sr ?_));refine wv (vf cy rfl cg) ?_;refine wv (vl 0 5 Qt) ?_;refine wv (bh Qt) ?_;refine wv (fun W F=>ed rfl rfl) ?_;refine aa ?_;rcases fg ((((gt b.c m).r).length:Nat):Int) 0 with⟨E1,q0⟩|⟨E1,q0⟩
  ·refine Qr rfl q0 ?_;let u1:It:=iS Qb 3 h0 i0 ((gt b.c m).r);let w1:It:=ry Qu 61 (sA g0) b.c.length b.c m K3;let z1:List It:=Qa c0 61 K4::u1::w1::iS Qu 61 d0 e0 I::o0::iS Qb 3 T U b.k::e1;refine im 19 [18] (s:=(Qa c0 61 K4::u1::w1::iS Qu 61 d0 e0 I::o0::iS Qb 3 T U b.k::iS be 102 Z b0 b.j::is)) (s2:=z1) (pn 12 [0,3,5,6,7,8,10]) (pn 12 [0,3,5,6,7,8,10,11]) ?_;refine ae 19 0 1 rfl ap ?_;refine ae 19 1 3 rfl ap ?_;refine ae 19 2 7 rfl (fun W F=>ip rfl) ?_;refine ae 19 3 15 rfl (vf Qs rfl me) ?_;refine ae 19 4 31 rfl (vl 7 5 jc) ?_;refine ae 19 5 63 rfl (vf cy rfl dh) ?_;refine ae 19 6 127 rfl (fun W F=>Qw (cs:=[iV ((gt b.c m).g.Id),iV ((gt b.c m).g.t), .slice K ((gt b.c m).g.o).length O, .slice M ((gt b.c m).g.q).length P]) di dh rfl rfl (F.boxPart (n:=0) rfl rfl)) ?_;refine ae 19 7 255 rfl (vf cy rfl Qh) ?_;refine ae 19 8 511 rfl (vl 0 4 Qz) ?_;refine ae 19 9 1023 rfl (vf cy rfl Qh) ?_;refine ae 19 10 2047 rfl (vl 0 6 Qz) ?_;refine ae 19 11 4095 rfl (vf cy rfl lh) ?_;refine ae 19 12 8191 rfl (vl 0 9 gl) ?_;let K7:List Value:=[iV ((gt b.c m).g.Id),iV ((gt b.c m).g.t), .slice K ((gt b.c m).g.o).length O, .slice M ((gt b.c m).g.q).length P,iV ((gt b.c m).u),iV (IntKind.i64.wrap (((gt b.c m).y)+1)), .slice Y ((gt b.c m).p).length a0];refine ae 19 13 16383 rfl (fun W F=>fl (cs:=K7) rfl (by kernel_rfl)) ?_;refine bc 19 14 32767 rfl ?_;refine eb (cs:=K7) jc jy rfl (by decide) (by decide) rfl (by kernel_rfl) (Qf rfl) (by decide) (fun I1=>?_);refine aq (pn 13 [1,4,6,7,8,9,11]) (pn 13 [1,4,6,7,8,9,11,12]) ?_;refine bc 19 15 65535 rfl ?_;refine aZ (E:=bg) (e:=80) (v:= .slice V D.length X) (p:=I1) (q:=1) (xs:=D) (ys:=[(⟨(gt b.c m).g,(gt b.c m).u,(IntKind.i64.wrap (((gt b.c m).y)+1)),(gt b.c m).p⟩:fv)]) (eis:=[iS cx 180 K O ((gt b.c m).g.o),iS Qb 3 M P ((gt b.c m).g.q),iS cn 70 Y a0 ((gt b.c m).p)]) (js:=z1) (news:=K7) (pn 13 [0,10,2,3,5,1,4,6,7,8,9,11,12]) (fun _ _ hs=>Els.single (oA (x:=(⟨(gt b.c m).g,(gt b.c m).u,(IntKind.i64.wrap (((gt b.c m).y)+1)),(gt b.c m).p⟩:fv)) hs)) jc jy rfl rfl rfl (Nat.le_of_ble_eq_true rfl) rfl rfl rfl (show(D.length+1)*104<=140737488355328 from by omega) (show D.length+1<=9223372036854775807 from by omega) (Qf rfl) (by decide) (fun _=>?_);refine fm 0 ?_;rintro I0 Q0 rfl l2;refine aq (pn 9 [1,2,3,4,5,6,7]) (pn 9 [1,2,3,4,5,6,7,8]) ?_;refine tk 19 16 131071 rfl (fun W=>ip rfl) ?_;refine ae 19 17 262143 rfl (vf Qs rfl me) ?_;refine bc 19 18 524287 rfl ?_;refine eu (p:=p) (o:=5) (cs':=[.slice m0 b.d.a.length n0,iV b.d.e,iV b.l, .slice T b.k.length U, .slice (sA g0) b.c.length u0, .slice I0 (D++[(⟨(gt b.c m).g,(gt b.c m).u,(IntKind.i64.wrap (((gt b.c m).y)+1)),(gt b.c m).p⟩:fv)]).length Q0, .slice Z b.j.length b0,iV b.n]) (fun w F=>F.front (n:=8) rfl) me rfl (Nat.le_of_ble_eq_true rfl) rfl rfl rfl rfl (Qf rfl) ?_;refine ik (pn 9 [2,3,4,5,6,7,8]) ?_;refine fr (by kernel_rfl) ?_;refine bq (Qj (ao (wm ?_)));refine wv (cb m 1 (by omega)) ?_;refine wa (bb ?_);refine bz (fun W F=>Mem.restNext (F.front (n:=4) rfl)) ?_;exact bu (m+1,(I,(D++[(⟨(gt b.c m).g,(gt b.c m).u,(IntKind.i64.wrap (((gt b.c m).y)+1)),(gt b.c m).p⟩:fv)])),(d0,e0,I0,Q0)) eo (pn 9 [0,5,6,7,2,8,1]) ⟨(by omega),nx k0 (Qe j0 (Qc q0 (rfl))),(show I.length<=0+(m+1) from by first|omega|(simp only[List.length_append,List.length_cons,List.length_nil] at *;omega)),(show(D++[(⟨(gt b.c m).g,(gt b.c m).u,(IntKind.i64.wrap (((gt b.c m).y)+1)),(gt b.c m).p⟩:fv)]).length<=b.f.length+(m+1) from by first|omega|(simp only[List.length_append,List.length_cons,List.length_nil] at *;omega))⟩ rl
  refine ah rfl q0 ?_;refine ao (wm ?_);refine wv (fun W F=>Qw (cs:=K4) cy cq rfl rfl (F.boxCells (n:=0) rfl)) ?_;refine eb (cs:=K4) bo cq rfl (by decide) (by decide) rfl (by kernel_rfl) (Qf rfl) (by decide) (fun J1=>?_);refine aZ (E:=Qu) (e:=61) (v:= .slice d0 I.length e0) (p:=J1) (q:=1) (xs:=I) (ys:=[(⟨(gt b.c m).g,(gt b.c m).u,(gt b.c m).r,(IntKind.i64.wrap (((gt b.c m).y)+1)),(gt b.c m).A,(gt b.c m).z,(gt b.c m).p⟩:Qq)]) (eis:=[iS cx 180 K O ((gt b.c m).g.o),iS Qb 3 M P ((gt b.c m).g.q),iS Qb 3 h0 i0 ((gt b.c m).r),iS cn 70 Y a0 ((gt b.c m).p)]) (js:=(Qa c0 61 K4::ry Qu 61 (sA g0) b.c.length b.c m K3::g1)) (news:=K4) (pn 13 [0,7,2,3,4,5,1,6,8,9,10,11,12]) (fun _ _ hs=>Els.single (pc (x:=(⟨(gt b.c m).g,(gt b.c m).u,(gt b.c m).r,(IntKind.i64.wrap (((gt b.c m).y)+1)),(gt b.c m).A,(gt b.c m).z,(gt b.c m).p⟩:Qq)) hs)) bo cq rfl rfl rfl (Nat.le_of_ble_eq_true rfl) rfl rfl rfl (show(I.length+1)*144<=140737488355328 from by omega) (show I.length+1<=9223372036854775807 from by omega) (Qf rfl) (by decide) (fun _=>?_);refine fm 0 ?_;rintro q1 B1 rfl m2;refine wa (bb (bq (Qj (ao (wm ?_)))));refine wv (cb m 1 (by omega)) ?_;refine wa (bb ?_);refine bz (fun W F=>Mem.restNext (F.front (n:=2) rfl)) ?_;exact bu (m+1,((rV b m I),D),(q1,B1,V,X)) eo (pn 8 [0,1,3,4,5,6,7]) ⟨(by omega),nx k0 (Qe j0 (Qe q0 (rfl))),(show(rV b m I).length<=0+(m+1) from by first|omega|(simp only[List.length_append,List.length_cons,List.length_nil] at *;omega)),(show D.length<=b.f.length+(m+1) from by first|omega|(simp only[List.length_append,List.length_cons,List.length_nil] at *;omega))⟩ rl
 refine ah rfl y0 ?_;refine dj (av (av ?_));have n1:=dx D0 k0;refine dk (Qj (sr (wm (wm ?_))));refine wv (fun W F=>ip rfl) ?_;refine wv (vf Qs rfl ef) ?_;refine eu (p:=p) (o:=4) (cs':=[.slice m0 b.d.a.length n0,iV b.d.e,iV b.l, .slice T b.k.length U, .slice d0 I.length e0, .slice V D.length X, .slice Z b.j.length b0,iV b.n]) (fun w F=>F.front (n:=6) rfl) ef rfl (Nat.le_of_ble_eq_true rfl) rfl rfl rfl rfl (Qf rfl) ?_;refine aa (sr (wm (wm ?_)));refine wv (fun W F=>ip rfl) ?_;refine wv (vf Qs rfl Qh) ?_;refine wv (vl 0 2 Qz) ?_;refine wv lc ?_;refine wm ?_;refine wv (fun W F=>qW rfl rfl (by omega)) ?_;refine wv (fun W F=>ip rfl) ?_;refine wv (vf Qs rfl Qh) ?_;refine eu (p:=p) (o:=2) (cs':=[.slice m0 b.d.a.length n0,iV b.d.e,iV (Int.tmod (IntKind.i64.wrap (b.l+1)) ((b.d.a.length:Nat):Int)), .slice T b.k.length U, .slice d0 I.length e0, .slice V D.length X, .slice Z b.j.length b0,iV b.n]) (fun w F=>F.front (n:=0) rfl) Qh rfl (Nat.le_of_ble_eq_true rfl) rfl rfl rfl rfl (Qf rfl) ?_;refine aa (sr (wm (wm ?_)));refine wv (fun W F=>ip rfl) ?_;refine wv (vf Qs rfl Qh) ?_;refine wv (vl 0 7 Qz) ?_;refine wv lc ?_;refine wv (fun W F=>ip rfl) ?_;refine wv (vf Qs rfl Qh) ?_;let K8:List Value:=[.slice m0 b.d.a.length n0,iV b.d.e,iV (Int.tmod (IntKind.i64.wrap (b.l+1)) ((b.d.a.length:Nat):Int)), .slice T b.k.length U, .slice d0 I.length e0, .slice V D.length X, .slice Z b.j.length b0,iV (IntKind.i64.wrap (b.n+1))];refine eu (p:=p) (o:=7) (cs':=K8) (fun w F=>F.front (n:=0) rfl) Qh rfl (Nat.le_of_ble_eq_true rfl) rfl rfl rfl rfl (Qf rfl) ?_;refine aa (ao (wm ?_));let t0:It:=qb Qu 61 v0 b.c.length b.c m;refine il (js:=(Qg cc K8 (⟨b.d,(Int.tmod (IntKind.i64.wrap (b.l+1)) ((b.d.a.length:Nat):Int)),b.k,I,D,b.j,(IntKind.i64.wrap (b.n+1))⟩:Qk)::(Qa p 39 K8::t0::is))) (fun W F=>Mem.join (is:=[o0,iS Qb 3 T U b.k,iS Qu 61 d0 e0 I,iS bg 80 V X D,iS be 102 Z b0 b.j]) (js:=(Qa p 39 K8::t0::is)) (fun _ _ hs=>fz (x:=(⟨b.d,(Int.tmod (IntKind.i64.wrap (b.l+1)) ((b.d.a.length:Nat):Int)),b.k,I,D,b.j,(IntKind.i64.wrap (b.n+1))⟩:Qk)) hs) (F.pickN 7 [3,4,2,5,6,0,1] (by decide))) ?_;refine dr (χ:=List Value) (val:=fun x=> .tuple #[]) (js:=fun x=>(Qa p 39 x::Qg cc x (ml (⟨b.d,(Int.tmod (IntKind.i64.wrap (b.l+1)) ((b.d.a.length:Nat):Int)),b.k,I,D,b.j,(IntKind.i64.wrap (b.n+1))⟩:Qk))::(t0::is))) (Qo Ly rfl) (fun W F=>yr B w0 (t0::is) W p _ (⟨b.d,(Int.tmod (IntKind.i64.wrap (b.l+1)) ((b.d.a.length:Nat):Int)),b.k,I,D,b.j,(IntKind.i64.wrap (b.n+1))⟩:Qk) ⟨(by rw[C0];exact r0.1),(show I.length<=68719476736 from by omega)⟩ ((F.front (n:=0) rfl).front (n:=1) rfl)) (Qf rfl) (by decide) (fun W0=>?_);obtain⟨J,B0⟩:∃ G,G=(ml (⟨b.d,(Int.tmod (IntKind.i64.wrap (b.l+1)) ((b.d.a.length:Nat):Int)),b.k,I,D,b.j,(IntKind.i64.wrap (b.n+1))⟩:Qk)):=⟨_,rfl⟩;rw[<- B0];refine il (js:=(Qg cc W0 J::Qa p 39 W0::t0::is)) (fun W F=>(F.front (n:=1) rfl)) ?_;refine gy ?_;rintro⟨_,_,_,_,_⟩ rfl;refine fm 0 ?_;rintro J0 R0 rfl n2;refine fm 1 ?_;rintro K0 S0 rfl o2;refine fm 2 ?_;rintro L0 T0 rfl p2;refine fm 3 ?_;rintro M0 U0 rfl q2;refine fm 4 ?_;rintro N0 V0 rfl r2;refine bb ?_;let K9:List Value:=[.slice J0 J.d.a.length R0,iV J.d.e,iV J.l, .slice K0 J.k.length S0, .slice L0 J.c.length T0, .slice M0 J.f.length U0, .slice N0 J.j.length V0,iV J.n];refine bz (js:=(Qg cc K9 J::(Qa p 39 K9::t0::is))) (fun W F=>Mem.join (is:=[iS (ab Qp 163) 100 J0 R0 J.d.a,iS Qb 3 K0 S0 J.k,iS Qu 61 L0 T0 J.c,iS bg 80 M0 U0 J.f,iS be 102 N0 V0 J.j]) (js:=(Qa p 39 K9::t0::is)) (fun _ _ hs=>fz (x:=J) hs) (F.pickN 7 [0,1,2,3,4,5,6] (by decide))) ?_;have o1:=(show ms H=J from by subst B0;exact ca F1 (ca n1 (rfl)));refine Kx rfl (fun W F=>⟨K9,?_,?_⟩)
 ·rfl
 rw[o1];exact(((F.front (n:=0) rfl).front (n:=1) rfl).front (n:=2) rfl).tail
def ly (a:Qk):(Qk×Bool):=
 cond (ka a) (cond (decide (100000<=a.n)) (a,false) (cond (decide (1000<=((a.j.length:Nat):Int))) (a,false) (cond (decide (1000<((a.f.length+a.c.length:Nat):Int))) (a,false) ((ms a),true)))) (a,false)
theorem Nj:Cb Tryz.prog 10:=⟨f10,_,func10,rfl,by decide⟩
theorem Hg (w:World) (z0:List Value) (b:Qk) (A0:cc.rd w w.heap.size z0 b) (B:lz 68719476736 b):
 Calls Tryz.prog 10 #[.agg z0.toArray] w fun e w'=>∃ v:List Value,e= .returned (.tuple #[.agg v.toArray, .bool ((ly b).2)])∧Mem w.heap.size w [Qg cc v (ly b).1] w':=by
 obtain⟨_,_,_,_,_,rfl,r2,r4,r6,r8,y0⟩:=nq A0;obtain⟨_,U,e0,rfl,_,n0⟩:=Qn r2;obtain⟨_,V,g0,rfl,_,o0⟩:=Qn r4;obtain⟨_,X,h0,rfl,_,p0⟩:=Qn r6;obtain⟨_,Y,i0,rfl,_,q0⟩:=Qn r8;obtain⟨_,Z,j0,rfl,_,r0⟩:=Qn y0;have:b.d.a.length<=68719476736:=B.1.1;have:=B.2.1;have:=B.2.2.1.1;have:=B.2.2.2.1.1;have:=B.2.2.2.2.1;refine gb (L:=[(0, .agg #[.slice U b.d.a.length e0,iV b.d.e,iV b.l, .slice V b.k.length g0, .slice X b.c.length h0, .slice Y b.f.length i0, .slice Z b.j.length j0,iV b.n])]) (N:=34) func10 ?_;refine sr ?_;refine ei rfl (Qf rfl) (by decide) (fun D=>?_);refine br Qv rfl (Qf rfl) (by decide) (fun w0=>?_);refine wa (aa (sr ?_));let K1:List Value:=[.slice U b.d.a.length e0,iV b.d.e,iV b.l, .slice V b.k.length g0, .slice X b.c.length h0, .slice Y b.f.length i0, .slice Z b.j.length j0,iV b.n];refine wv (fun W g=>Qw (cs:=K1) Qs Qv rfl rfl (g.boxCells (n:=1) rfl)) ?_;refine io cc b (Qo bD rfl) (fun W g=>cM W _ b (fx (x:=b) (g.rdS0 n0) (g.rdS0 o0) (g.rdS0 p0) (g.rdS0 q0) (g.rdS0 r0)) B) (fun _=>?_);refine gy ?_;rintro⟨_,_,_,_,_⟩ rfl;refine fm 0 ?_;rintro a0 k0 rfl N0;refine fm 1 ?_;rintro o t rfl O0;refine fm 2 ?_;rintro p u rfl P0;refine fm 3 ?_;rintro r y rfl Q0;refine fm 4 ?_;rintro s z rfl R0;refine br Qv rfl (Qf rfl) (by decide) (fun A=>?_);let K2:List Value:=[.slice a0 b.d.a.length k0,iV b.d.e,iV b.l, .slice o b.k.length t, .slice p b.c.length u, .slice r b.f.length y, .slice s b.j.length z,iV b.n];let K3:List Value:=[.slice none 0 0,iV 0,iV 0, .slice none 0 0, .slice none 0 0, .slice none 0 0, .slice none 0 0,iV 0];let I:It:=iS (ab Qp 163) 100 a0 k0 b.d.a;let C:List It:=[Qa w0 39 K3,Qa D 39 K1];refine sb 0 K2 (I::iS Qb 3 o t b.k::iS Qu 61 p u b.c::iS bg 80 r y b.f::iS be 102 s z b.j::C) ai Qv ?_;refine aa (Qi (sr ?_));refine wv (fun W g=>Qw (cs:=K1) Qs Qv rfl rfl (g.boxCells (n:=7) rfl)) ?_;refine fk (Qo zh rfl) (fun W g=>zx W _ b (fx (x:=b) (g.rdS0 n0) (g.rdS0 o0) (g.rdS0 p0) (g.rdS0 q0) (g.rdS0 r0)) B) ?_;refine wv dm ?_;refine wm ?_;rcases bd (ka b) with h|h
 ·have hE:=(pd _).1 h;refine wg (vf Qs rfl Qh) (nt h) ?_;refine wg (vl 7 7 Qz) (nt h) ?_;refine wg (fun W g=>oc rfl rfl) (nt h) ?_;refine wv (ak (nt h)) ?_;refine wm ?_;rcases ff (100000<=b.n) with⟨t0,m⟩|⟨t0,m⟩
  ·iterate 15 first|refine ws m ?_|refine wv (am m) ?_|refine wm ?_|refine wk ?_|refine wv (am rfl) ?_
   refine aa ?_;refine Qr rfl rfl ?_;refine sr ?_;refine wv (fun W g=>Qw (cs:=K2) Qs Qv rfl rfl (g.boxCells (n:=0) rfl)) ?_;refine sb 0 K2 [Qa A 39 K2,I,iS Qb 3 o t b.k,iS Qu 61 p u b.c,iS bg 80 r y b.f,iS be 102 s z b.j,Qa D 39 K1] (pk [6,0,1,2,3,4,5,7]) Qv ?_;refine wa (aa (Ql (Qm ?_)));have O:=(show ly b=(b,false) from Qc h (Qc m (rfl)));refine et rfl (cr (n:=0) rfl rfl Qs Qv rfl) (cz rfl) (fun W g=>⟨K2,?_,?_⟩)
   ·first|rw[O]|rfl
    try rfl
   rw[O];exact Mem.join (is:=[I,iS Qb 3 o t b.k,iS Qu 61 p u b.c,iS bg 80 r y b.f,iS be 102 s z b.j]) (js:=[]) (fun _ _ H=>fz (x:=b) H) (g.pick [2,3,4,5,6] (by decide))
  refine wg (vf Qs rfl mw) m ?_;refine wg (vl 7 6 jr) m ?_;refine wg (bh jr) m ?_;refine wg (fun W g=>oc rfl rfl) m ?_;refine wv (ak m) ?_;refine wm ?_;rcases ff (1000<=((b.j.length:Nat):Int)) with⟨u0,i⟩|⟨u0,i⟩
  ·iterate 9 first|refine ws i ?_|refine wv (am i) ?_
   refine aa ?_;refine Qr rfl rfl ?_;refine sr ?_;refine wv (fun W g=>Qw (cs:=K2) Qs Qv rfl rfl (g.boxCells (n:=0) rfl)) ?_;refine sb 0 K2 [Qa A 39 K2,I,iS Qb 3 o t b.k,iS Qu 61 p u b.c,iS bg 80 r y b.f,iS be 102 s z b.j,Qa D 39 K1] (pk [6,0,1,2,3,4,5,7]) Qv ?_;refine wa (aa (Ql (Qm ?_)));have P:=(show ly b=(b,false) from Qc h (Qe m (Qc i (rfl))));refine et rfl (cr (n:=0) rfl rfl Qs Qv rfl) (cz rfl) (fun W g=>⟨K2,?_,?_⟩)
   ·first|rw[P]|rfl
    try rfl
   rw[P];exact Mem.join (is:=[I,iS Qb 3 o t b.k,iS Qu 61 p u b.c,iS bg 80 r y b.f,iS be 102 s z b.j]) (js:=[]) (fun _ _ H=>fz (x:=b) H) (g.pick [2,3,4,5,6] (by decide))
  refine wg (vf Qs rfl me) i ?_;refine wg (vl 7 5 jc) i ?_;refine wg (bh jc) i ?_;refine wg (vf Qs rfl ef) i ?_;refine wg (vl 7 4 bo) i ?_;refine wg (bh bo) i ?_;refine wg (cb b.f.length b.c.length (by omega)) i ?_;refine wg (fun W g=>jz rfl rfl) i ?_;refine wv (ak i) ?_;refine aa ?_;rcases ff (1000<((b.f.length+b.c.length:Nat):Int)) with⟨v0,E⟩|⟨v0,E⟩
  ·refine Qr rfl E ?_;refine sr ?_;refine wv (fun W g=>Qw (cs:=K2) Qs Qv rfl rfl (g.boxCells (n:=0) rfl)) ?_;refine sb 0 K2 [Qa A 39 K2,I,iS Qb 3 o t b.k,iS Qu 61 p u b.c,iS bg 80 r y b.f,iS be 102 s z b.j,Qa D 39 K1] (pk [6,0,1,2,3,4,5,7]) Qv ?_;refine wa (aa (Ql (Qm ?_)));have R:=(show ly b=(b,false) from Qc h (Qe m (Qe i (Qc E (rfl)))));refine et rfl (cr (n:=0) rfl rfl Qs Qv rfl) (cz rfl) (fun W g=>⟨K2,?_,?_⟩)
   ·first|rw[R]|rfl
    try rfl
   rw[R];exact Mem.join (is:=[I,iS Qb 3 o t b.k,iS Qu 61 p u b.c,iS bg 80 r y b.f,iS be 102 s z b.j]) (js:=[]) (fun _ _ H=>fz (x:=b) H) (g.pick [2,3,4,5,6] (by decide))
  refine ah rfl E ?_;refine an (Qj (sr ?_));refine il (js:=(Qg cc K2 b::(Qa A 39 K2::C))) (fun W g=>Mem.join (is:=[I,iS Qb 3 o t b.k,iS Qu 61 p u b.c,iS bg 80 r y b.f,iS be 102 s z b.j]) (js:=(Qa A 39 K2::C)) (fun _ _ H=>fz (x:=b) H) (g.pick [1,2,3,4,5,0,6,7] (by decide))) ?_;refine dr (χ:=List Value) (val:=fun x=> .tuple #[]) (js:=fun x=>(Qa A 39 x::Qg cc x (ms b)::C)) (Qo Np rfl) (fun W g=>Hm w.heap.size w C W A _ b B (hE) (g.pick [1,0,2,3] (by decide))) (Qf rfl) (by decide) (fun s0=>?_);refine il (js:=(Qg cc s0 (ms b)::Qa A 39 s0::C)) (pk [1,0,2,3]) ?_;refine gy ?_;rintro⟨_,_,_,_,_⟩ rfl;refine fm 0 ?_;rintro b0 l0 rfl S0;refine fm 1 ?_;rintro S T rfl T0;refine fm 2 ?_;rintro c0 m0 rfl U0;refine fm 3 ?_;rintro d0 K rfl B0;refine fm 4 ?_;rintro J M rfl C0;refine aa (sr ?_);let K4:List Value:=[.slice b0 ((ms b).d.a).length l0,iV ((ms b).d.e),iV ((ms b).l), .slice S ((ms b).k).length T, .slice c0 ((ms b).c).length m0, .slice d0 ((ms b).f).length K, .slice J ((ms b).j).length M,iV ((ms b).n)];refine wv (fun W g=>Qw (cs:=K4) Qs Qv rfl rfl (g.boxCells (n:=5) rfl)) ?_;let I6:It:=iS (ab Qp 163) 100 b0 l0 ((ms b).d.a);let I7:It:=iS Qu 61 c0 m0 ((ms b).c);let I8:It:=iS bg 80 d0 K ((ms b).f);let I9:It:=iS be 102 J M ((ms b).j);refine sb 0 K4 [I6,iS Qb 3 S T ((ms b).k),I7,I8,I9,Qa A 39 K4,Qa D 39 K1] (pk [6,0,1,2,3,4,5,7]) Qv ?_;refine wa (aa (Ql ?_));have F:=(show ly b=((ms b),true) from Qc h (Qe m (Qe i (Qe E (rfl)))));refine et rfl (cr (n:=0) rfl rfl Qs Qv rfl) (cz rfl) (fun W g=>⟨K4,?_,?_⟩)
  ·first|rw[F]|rfl
   try rfl
  rw[F];exact Mem.join (is:=[I6,iS Qb 3 S T ((ms b).k),I7,I8,I9]) (js:=[]) (fun _ _ H=>fz (x:=(ms b)) H) (g.pick [1,2,3,4,5] (by decide))
 refine ws (nf h) ?_;refine ws (nf h) ?_;refine ws (nf h) ?_
 iterate 17 first|refine wv (am (nf h)) ?_|refine wm ?_|refine wk ?_|refine wv (am rfl) ?_
 refine aa ?_;refine Qr rfl rfl ?_;refine sr ?_;refine wv (fun W g=>Qw (cs:=K2) Qs Qv rfl rfl (g.boxCells (n:=0) rfl)) ?_;refine sb 0 K2 [Qa A 39 K2,I,iS Qb 3 o t b.k,iS Qu 61 p u b.c,iS bg 80 r y b.f,iS be 102 s z b.j,Qa D 39 K1] (pk [6,0,1,2,3,4,5,7]) Qv ?_;refine wa (aa (Ql (Qm ?_)));have G:=(show ly b=(b,false) from Qe h (rfl));refine et rfl (cr (n:=0) rfl rfl Qs Qv rfl) (cz rfl) (fun W g=>⟨K2,?_,?_⟩)
 ·first|rw[G]|rfl
  try rfl
 rw[G];exact Mem.join (is:=[I,iS Qb 3 o t b.k,iS Qu 61 p u b.c,iS bg 80 r y b.f,iS be 102 s z b.j]) (js:=[]) (fun _ _ H=>fz (x:=b) H) (g.pick [2,3,4,5,6] (by decide))
def vy (b:Qx) (c:(List Int)) (a:Nat):Bool⊕(Unit):=
 cond (ny b (gt c a)) (Sum.inl true) (Sum.inr ())
def mQ (a:Qx) (b:(List Int)):Bool:=
 Sum.elim id (fun(s:Unit)=>(a.x==(-1))) (ax (R:=Bool) (fun k (_:Unit)=>vy a b k) (b.length-0) 0 ())
theorem Ak:Cb Tryz.prog 196:=⟨f196,_,func196,rfl,by decide⟩
theorem Ds (w:World) (F:List Value) (b:Qx) (G:Value) (f:(List Int)) (z:Qp.rd w w.heap.size F b) (A:ce Qb w w.heap.size G f):
 Calls Tryz.prog 196 #[.agg F.toArray,G] w (rB w (mQ b f)):=by
 obtain⟨_,rfl,I⟩:=mv z;obtain⟨_,B,D,rfl,_,J⟩:=Qn I;obtain⟨_,C,o,rfl,y,_⟩:=Qn A;refine ji (L:=[(0, .agg #[iV b.Id, .slice B b.m.length D,iV b.w,iV b.x]),(1, .slice C f.length o)]) (N:=20) func196 ?_;refine sr ?_;refine ei rfl (Qf rfl) (by decide) (fun u=>?_);refine wa (aa (Qi (sr (wm ?_))));refine wv (bh Qt) ?_;refine wm (aa (aw ?_));let K1:List Value:=[iV b.Id, .slice B b.m.length D,iV b.w,iV b.x];refine dw (S:=Unit) (R:=Unit) (fun k (_:Unit)=>vy b f k) f.length 0 () () (fun s=>[(2,bp u),(7, .slice C f.length o),(8,nI f.length),(9,nI s.1)]) (fun s=>[Qa u 163 K1]) (fun s=>True) eo trivial ?_;rintro⟨a,⟨⟩,⟨⟩⟩ l _ _ e e';dsimp only at l ⊢;subst e e';obtain⟨_,d,_⟩:=l;refine sr ?_;refine wv df ?_;refine aa (Qi ?_);rcases dz a f.length with⟨g,i⟩|⟨g,i⟩
 ·refine Qr rfl i ?_;refine an (Qj (Qi (aw (sr ?_))));obtain⟨v,rfl,r,t⟩:=y (by omega);refine wv (bv 1 a Qt Qh) ?_;refine wv (fun W j=>ci Qz rfl rfl ((j.cell0 (show(v.add (a*1)).block<w.heap.size from by rw[bj];exact r.1)).trans (kd t a (by omega)))) ?_;refine wa (aa (sr ?_));refine wv (fun W j=>Qw (cs:=K1) dq co rfl rfl (j.boxCells (n:=0) rfl)) ?_;refine wm ?_;refine fk (Qo Lz rfl) (fun W j=>Nd W _ b (gt f a) (og (x:=b) (j.rdS0 J))) ?_;refine aa ?_;rcases bd (ny b (gt f a)) with c|c
  ·refine Qr rfl c ?_;refine sr (wa (aa (Ql (ba (Qm (Qm (ba (Qm ?_))))))));exact aj (h:=eh (nr d (Qc c (rfl))) rfl)
  refine ah rfl c ?_;refine an (bq (Qj (ao ?_)));refine wv (cb a 1 (by omega)) ?_;refine wm (bb ?_);exact bu (a+1,(),()) eo ai ⟨(by omega),nx d (Qe c (rfl)),trivial⟩ rl
 refine ah rfl i ?_;refine dj (av (av ?_));have p:=dx g d;refine dk (Qj (sr ?_));refine wv (vf dq rfl Qh) ?_;refine wv (vl 0 3 Qz) ?_;refine wv (fun W j=>ed rfl rfl) ?_;refine wa (aa (Ql ?_));exact aj (h:=ca p (rfl))
def vw (d:Qy) (b:Nat) (c:Nat) (e:(List Qx)):Qy⊕((List Qx)):=
 Sum.inr (e++[(⟨(gt (gt d.a b) c).Id,((gt (gt d.a b) c).m),(gt (gt d.a b) c).w,(gt (gt d.a b) c).x⟩:Qx)])
def qL (d:Qy) (b:Nat) (c:(List (List Qx))):Qy⊕((List (List Qx))):=
 Sum.elim Sum.inl (fun(s:(List Qx))=>Sum.inr (c++[s])) (ax (R:=Qy) (fun k (s:(List Qx))=>vw d b k s) (((gt d.a b)).length-0) 0 [])
def qM (b:Qy):Qy:=
 Sum.elim id (fun(s:(List (List Qx)))=>(⟨s,b.e⟩:Qy)) (ax (R:=Qy) (fun k (s:(List (List Qx)))=>qL b k s) (b.a.length-0) 0 [])
theorem uo:Cb Tryz.prog 138:=⟨f138,_,func138,rfl,by decide⟩
theorem Dn (w:World) (z0:List Value) (d:Qy) (q0:em.rd w w.heap.size z0 d) (t:ma 68719476736 d):
 Calls Tryz.prog 138 #[.agg z0.toArray] w (rO w em (qM d)):=by
 obtain⟨_,rfl,r2⟩:=ox q0;obtain⟨_,A4,K,rfl,q6,_⟩:=Qn r2;have:d.a.length<=68719476736:=t.1;refine gb (L:=[(0, .agg #[.slice A4 d.a.length K,iV d.e])]) (N:=48) func138 ?_;refine sr ?_;refine ei rfl (Qf rfl) (by decide) (fun p9=>?_);refine br au rfl (Qf rfl) (by decide) (fun j=>?_);refine aa (sr ?_);refine wv (vf ay rfl Qh) ?_;refine wv (vl 1 1 Qz) ?_;refine wv (fun W l=>fl (cs:=[.slice none 0 0,iV d.e]) rfl (by kernel_rfl)) ?_;refine br au rfl (Qf rfl) (by decide) (fun r=>?_);let I3:It:=Qa p9 34 [.slice A4 d.a.length K,iV d.e];refine sb 0 [.slice none 0 0,iV d.e] [Qa j 34 [.slice none 0 0,iV 0],I3] ai au ?_;refine aa (Qi (sr ?_));refine wv (vf ay rfl fp) ?_;refine wv (vl 2 0 bx) ?_;refine wv (bh bx) ?_;refine wm (aa (aw ?_));refine ek (fun W l=>(l.addNil (E:=(ab Qp 163)) (e:=100)).last) ?_;refine dw (S:=(List (List Qx))) (R:=Option Addr×Nat) (fun k (s:(List (List Qx)))=>qL d k s) d.a.length 0 [] (none,0) (fun s=>[(2,bp j),(3,bp r),(13, .slice A4 d.a.length K),(14,nI d.a.length),(15,nI s.1)]) (fun s=>[Qa r 34 [.slice s.2.2.1 s.2.1.length s.2.2.2,iV d.e],Qa j 34 [.slice none 0 0,iV 0],I3,iS (ab Qp 163) 100 s.2.2.1 s.2.2.2 s.2.1]) (fun s=>s.2.1.length<=0+s.1) mm (Nat.le_refl _) ?_;rintro⟨b,f,⟨h,i⟩⟩ I _ _ e e';dsimp only at I ⊢;subst e e';obtain⟨_,u,_⟩:=I;refine sr ?_;refine wv df ?_;refine aa (Qi ?_);rcases dz b d.a.length with⟨z,F⟩|⟨z,F⟩
 ·refine Qr rfl F ?_;refine an (Qj (Qi (aw (sr ?_))));obtain⟨C,rfl,T,Y⟩:=q6 (by omega);refine wv (bv 1 b bx gh) ?_;obtain⟨_,j0,V⟩:=Y b _ (er (show b<d.a.length from by omega));have:(gt d.a b).length<=68719476736:=(t.2 _ (bt (show b<d.a.length from by omega))).1;obtain⟨_,rfl,n0⟩:=j0;obtain⟨_,b0,g0,rfl,m0,_⟩:=Qn n0;refine wv (fun W l=>ci cl rfl rfl ((l.cell0 (show(C.add (b*1)).block<w.heap.size from by rw[bj];exact T.1)).trans (V 0 _ rfl))) ?_;refine wa (aa (sr ?_));refine ez (E:=Qp) cl co (Qf rfl) (by decide) (fun l0=>?_);refine wa (aa (Qi (sr (wm ?_))));refine wv (bh cl) ?_;refine wm (aa (aw ?_));let I4:It:=Qa r 34 [.slice h f.length i,iV d.e];let I5:It:=Qa p9 34 [.slice (some C) d.a.length K,iV d.e];let J6:List It:=[I4,Qa j 34 [.slice none 0 0,iV 0],I5,iS (ab Qp 163) 100 h i f];refine dw (S:=(List Qx)) (R:=Option Addr×Nat) (fun k (s:(List Qx))=>vw d b k s) (((gt d.a b)).length) 0 [] ((sA l0),0) (fun s=>[(2,bp j),(3,bp r),(6, .slice s.2.2.1 s.2.1.length s.2.2.2),(13, .slice (some C) d.a.length K),(14,nI d.a.length),(15,nI b),(20, .slice b0 ((gt d.a b)).length g0),(21,nI (((gt d.a b)).length)),(22,nI s.1)]) (fun s=>(iS Qp 163 s.2.2.1 s.2.2.2 s.2.1::J6)) (fun s=>s.2.1.length<=0+s.1) pv (Nat.le_refl _) ?_;rintro⟨c,g,⟨o,p⟩⟩ J _ _ e e';dsimp only at J ⊢;subst e e';obtain⟨_,v,_⟩:=J;refine sr ?_;refine wv df ?_;refine aa (Qi ?_);rcases dz c (((gt d.a b)).length) with⟨A,G⟩|⟨A,G⟩
  ·refine Qr rfl G ?_;refine an (Qj (Qi (aw (sr ?_))));obtain⟨e0,rfl,U,Z⟩:=m0 (by omega);refine wv (bv 4 c cl co) ?_;obtain⟨_,k0,X⟩:=Z c _ (er (show c<((gt d.a b)).length from by omega));obtain⟨_,rfl,o0⟩:=mv k0;have:((gt (gt d.a b) c).m).length<=68719476736:=((t.2 _ (bt (show b<d.a.length from by omega))).2 _ (bt (show c<((gt d.a b)).length from by omega)));obtain⟨_,c0,h0,rfl,_,p0⟩:=Qn o0;let K1:List Value:=[iV ((gt (gt d.a b) c).Id), .slice c0 ((gt (gt d.a b) c).m).length h0,iV ((gt (gt d.a b) c).w),iV ((gt (gt d.a b) c).x)];refine wv (fun W l=>Qw (cs:=K1) dq co rfl rfl (l.elCells (show(e0.add (c*4)).block<w.heap.size from by rw[bj];exact U.1) X)) ?_;refine br co rfl (Qf rfl) (by decide) (fun a0=>?_);refine sb 0 K1 (iS Qp 163 o p g::J6) ai co ?_;refine aa ?_;refine rb 14 (s:=(Qa a0 163 K1::J6)) (pk [0,2,3,4,5]) ?_;refine qt 14 0 1 rfl ap ?_;refine qt 14 1 3 rfl (vf dq rfl Qh) ?_;refine qt 14 2 7 rfl (vl 0 0 Qz) ?_;refine qt 14 3 15 rfl (vf dq rfl cg) ?_;refine qt 14 4 31 rfl (vl 0 1 Qt) ?_;refine qt 14 6 95 rfl (vf dq rfl Qh) ?_;refine qt 14 7 223 rfl (vl 0 2 Qz) ?_;refine qt 14 8 479 rfl (vf dq rfl Qh) ?_;refine qt 14 9 991 rfl (vl 0 3 Qz) ?_;refine qo 14 5 1023 rfl ?_;refine lg (ab Qb 3) ((gt (gt d.a b) c).m) (Qo pz rfl) (fun W l=>qd W _ ((gt (gt d.a b) c).m) (l.rdS0 p0) ((t.2 _ (bt (show b<d.a.length from by omega))).2 _ (bt (show c<((gt d.a b)).length from by omega)))) (fun _=>?_);refine fm 0 ?_;rintro H M rfl B0;refine qn (pk [1,3,4,5,6]) ?_;let K2:List Value:=[iV ((gt (gt d.a b) c).Id), .slice H ((gt (gt d.a b) c).m).length M,iV ((gt (gt d.a b) c).w),iV ((gt (gt d.a b) c).x)];refine qt 14 10 2047 rfl (fun W l=>fl (cs:=K2) rfl (by kernel_rfl)) ?_;refine qo 14 11 4095 rfl ?_;refine eb (cs:=K2) cl co rfl (by decide) (by decide) rfl (by kernel_rfl) (Qf rfl) (by decide) (fun _=>?_);refine qn (pk [2,4,5,6,7]) ?_;refine qo 14 12 8191 rfl ?_;refine ga Qp 163 (.slice o g.length p) g (⟨(gt (gt d.a b) c).Id,((gt (gt d.a b) c).m),(gt (gt d.a b) c).w,(gt (gt d.a b) c).x⟩:Qx) [iS Qb 3 H M ((gt (gt d.a b) c).m)] (Qa a0 163 K1::J6) K2 (pk [0,3,1,2,4,5,6,7]) (fun _ _ hs=>Els.single (mh (x:=(⟨(gt (gt d.a b) c).Id,((gt (gt d.a b) c).m),(gt (gt d.a b) c).w,(gt (gt d.a b) c).x⟩:Qx)) hs)) cl co (show(g.length+1)*48<=140737488355328 from by omega) (fun _=>?_);refine fm 0 ?_;rintro d0 i0 rfl C0;refine qn (pk [1,2,3,4,5]) ?_;refine qt 14 13 16383 rfl (fun W l=>np rfl) ?_;refine fr (by kernel_rfl) ?_;refine bq (Qj (ao ?_));refine wv (cb c 1 (by omega)) ?_;refine wm (bb ?_);exact bu (c+1,(g++[(⟨(gt (gt d.a b) c).Id,((gt (gt d.a b) c).m),(gt (gt d.a b) c).w,(gt (gt d.a b) c).x⟩:Qx)]),(d0,i0)) pv (pk [0,2,3,4,5]) ⟨(by omega),nx v (rfl),(show(g++[(⟨(gt (gt d.a b) c).Id,((gt (gt d.a b) c).m),(gt (gt d.a b) c).w,(gt (gt d.a b) c).x⟩:Qx)]).length<=0+(c+1) from by first|omega|(simp only[List.length_append,List.length_cons,List.length_nil] at *;omega))⟩ (show((gt d.a b)).length-(c+1)<((gt d.a b)).length-c from by omega)
  refine ah rfl G ?_;refine dj (av (av ?_));have O:=dx A v;refine dk (Qj (ao ?_));refine wv (vf ay rfl fp) ?_;refine wv (vl 1 0 bx) ?_;refine wm ?_;refine eb (cs:=[.slice o g.length p]) bx gh rfl (by decide) (by decide) rfl (by kernel_rfl) (Qf rfl) (by decide) (fun _=>?_);refine ga (ab Qp 163) 100 (.slice h f.length i) f g [iS Qp 163 o p g] [I4,Qa j 34 [.slice none 0 0,iV 0],I5] [.slice o g.length p] (pk [0,5,1,2,3,4]) (fun _ _ hs=>Els.single (Sep.one hs)) bx gh (show(f.length+1)*24<=140737488355328 from by omega) (fun _=>?_);refine fm 0 ?_;rintro B D rfl D0;refine wv (vf ay rfl fp) ?_;refine sb 0 [.slice B (f++[g]).length D,iV d.e] [iS (ab Qp 163) 100 B D (f++[g]),Qa j 34 [.slice none 0 0,iV 0],I5] (pk [1,0,2,3]) fp ?_;refine bb (bq (Qj (ao ?_)));refine wv (cb b 1 (by omega)) ?_;refine wm (bb ?_);exact bu (b+1,(f++[g]),(B,D)) mm (pk [0,2,3,1]) ⟨(by omega),nx u (ca O (rfl)),(show(f++[g]).length<=0+(b+1) from by first|omega|(simp only[List.length_append,List.length_cons,List.length_nil] at *;omega))⟩ rl
 refine ah rfl F ?_;refine dj (av (av ?_));have P:=dx z u;refine dk (Qj (sr ?_));refine wv (fun W l=>Qw (cs:=[.slice h f.length i,iV d.e]) ay au rfl rfl (l.boxCells (n:=0) rfl)) ?_;refine sb 0 [.slice h f.length i,iV d.e] [Qa r 34 [.slice h f.length i,iV d.e],I3,iS (ab Qp 163) 100 h i f] (pk [1,0,2,3]) au ?_;refine aa (Ql ?_);have y:=(show qM d=(⟨f,d.e⟩:Qy) from ca P (rfl));refine fj rfl (cr (n:=0) rfl rfl ay au rfl) (fun W l=>⟨[.slice h f.length i,iV d.e],?_,?_⟩)
 ·first|rw[y]|rfl
 rw[y];exact Mem.join (is:=[iS (ab Qp 163) 100 h i f]) (js:=[]) (fun _ _ hs=>gg (x:=(⟨f,d.e⟩:Qy)) hs) (l.pick [3] (by decide))
theorem Dp (c:Qy):qM c=c:=by
 unfold qM;rw[rf (xs:=c.a) (b:=fun k s=>qL c k s) (fun j s=>by unfold qL;rw[rf (xs:=gt c.a j) (b:=fun k s=>vw c j k s) (fun _ _=>rfl)];rfl)];rfl
theorem ut (w:World) (d:List Value) (a:Qy) (b:em.rd w w.heap.size d a) (c:ma 68719476736 a):
 Calls Tryz.prog 138 #[.agg d.toArray] w (rO w em a):=by
 have h:=Dn w d a b c;rw[Dp] at h;exact h
end Go.Proofs.YtdlminfjdodjoaaGreat
