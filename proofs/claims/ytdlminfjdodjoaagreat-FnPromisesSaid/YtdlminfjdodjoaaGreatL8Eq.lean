/-
  The program and the reference compute the same: plain laws over what the walks showed.
-/
import Derived.Test.YtdlminfjdodjoaaGreatL8Law
namespace Go.Proofs.YtdlminfjdodjoaaGreat
set_option linter.unusedVariables false
set_option linter.unusedSimpArgs false
open Go.RowKit
theorem vU (x:Qj) (i:Int):rp x i=nQ x i:=by
 unfold rp nQ;rw[rm];rfl
theorem Ib {x:Qj} (h:iu x=true):x.a.length<=8:=by
 unfold iu at h;have b:=(pW (zq (zq (zq h).2).2).2).1;have:=of_decide_eq_false b;omega
theorem tI {x:Qj} {q:Int} (d:∀ i j,i<j->j<x.a.length->(gt x.a i).e.Id<(gt x.a j).e.Id) (hn:∀ j,j<x.a.length->(gt x.a j).e.Id≠q) {k:Nat} (hk:k<x.a.length):decide ((gt x.a k).e.Id<q)=decide (k<cx x.a q):=by
 by_cases h:k<cx x.a q
 ·have b:=pH h;have c:=hn k hk;rw[decide_eq_true h,decide_eq_true (by omega)]
 ·have b:=pF (xs:=x.a) (q:=q) (by omega);rw[decide_eq_false h]
  by_cases c:cx x.a q=k
  ·rw[c] at b;exact decide_eq_false (by omega)
  ·have:=d (cx x.a q) k (by omega) hk;exact decide_eq_false (by omega)
theorem Ba {x:Qj} {q:bf} (b:∀ i j,i<j->j<x.a.length->(gt x.a i).e.Id<(gt x.a j).e.Id) (hn:∀ j,j<x.a.length->(gt x.a j).e.Id≠q.Id):
 ay (R:=Qj×Bool) (fun k (s:Nat)=>bI x q k s) (x.a.length-0) 0 0= .inr (cx x.a q.Id):=by
 have key:∀ m k,m+k=x.a.length->ay (R:=Qj×Bool) (fun k (s:Nat)=>bI x q k s) m k (min k (cx x.a q.Id))= .inr (min (m+k) (cx x.a q.Id)):=by
  intro m
  induction m with
  |zero=>intro k _;rw[Nat.zero_add];rfl
  |succ m ih=>
   intro k hk;have hb:bI x q k (min k (cx x.a q.Id))= .inr (min (k+1) (cx x.a q.Id)):=by
    unfold bI;rw[tI b hn (by omega)]
    by_cases h:k<cx x.a q.Id
    ·rw[decide_eq_true h,cond_true,Nat.min_eq_left (by omega),Nat.min_eq_left (by omega)]
    ·rw[decide_eq_false h,cond_false,Nat.min_eq_right (by omega),Nat.min_eq_right (by omega)]
   rw[ay,hb];show ay _ m (k+1) (min (k+1) (cx x.a q.Id))=_;rw[ih (k+1) (by omega)]
   congr 2
   omega
 have h:=key (x.a.length-0) 0 (by omega);rw[Nat.zero_min] at h;rw[h]
 congr 1
 have:=pG x.a q.Id;omega
theorem tE (x:Qj) (q:bf) (l:Int):lm x q l=ge x q l:=by
 cases hE:iu x with
 |false=>
  unfold lm ge;rw[rm,hE];rfl
 |true=>
  have hle:=Ib hE;have c:=hC (x:=x) (by rw[rm];exact hE);unfold lm ge;rw[rm,hE,oY,oW,zj,cond_true,cond_true];cases ki q with
  |false=>rw[cond_false,cond_false]
  |true=>
   rw[cond_true,cond_true];cases ci l 0 32 with
   |false=>rw[cond_false,cond_false]
   |true=>
    rw[cond_true,cond_true];cases hf:decide (0<=da x q.Id) with
    |true=>rw[cond_true,cond_true]
    |false=>
     rw[cond_false,cond_false];have hn:=Mq hf;have b:(((x.a.length:Nat):Int)==8)=decide (8<=((x.a.length:Nat):Int)):=by
      by_cases h:((x.a.length:Nat):Int)=8
      ·rw[beq_iff_eq.2 h,decide_eq_true (by omega)]
      ·rw[beq_eq_false_iff_ne.2 h,decide_eq_false (by omega)]
     rw[b,Ba c hn,kA];have hb:(fun k (s:List Int)=>Ol k s)=fun k (s:List Int)=>ve k s:=rfl
     rw[hb]
     by_cases hj:cx x.a q.Id<x.a.length
     ·rw[decide_eq_true hj];rfl
     ·have he:cx x.a q.Id=x.a.length:=by
       have:=pG x.a q.Id;omega
      rw[decide_eq_false hj,he];rfl
theorem uD (x:Qj) (q:bf) (l b:Int):mR x q l b=nF x q l b:=by
 unfold mR nF;rw[tE];rfl
theorem vc (z:List Int):mr z z=true:=by
 unfold mr;rw[bne_self_eq_false,qq (fun j _=>by unfold sK;rw[bne_self_eq_false];rfl)];rfl
theorem dU (z:List ax):cK z z=true:=by
 unfold cK;rw[bne_self_eq_false,qq (fun j _=>by unfold xv sM;rw[beq_self_eq_true,vc];rfl)];rfl
theorem uO (x:ah):nH x x=true:=by
 unfold nH
 rw[bne_self_eq_false,bne_self_eq_false,qq (fun j _=>by
  unfold xw sT;rw[bne_self_eq_false,qq (fun k _=>by unfold yt;rw[bne_self_eq_false,bne_self_eq_false,bne_self_eq_false,vc];rfl)]
  rfl)]
 rfl
theorem eP (q:bf):aL q q=true:=by
 unfold aL;rw[bne_self_eq_false,bne_self_eq_false,bne_self_eq_false,vc,qq (fun k hk=>by unfold ze;rw[beq_self_eq_true,beq_self_eq_true,beq_self_eq_true];rfl)];rfl
theorem wO (a:Qn):oA a a=true:=by
 unfold oA;rw[eP,beq_self_eq_true,vc,beq_self_eq_true,beq_self_eq_true,beq_self_eq_true,dU];rfl
theorem wP (c:fy):nS c c=true:=by
 unfold nS;rw[beq_self_eq_true,beq_self_eq_true,vc,vc,vc];rfl
theorem uN (x:Qj):nG x x=true:=by
 unfold nG
 rw[uO,bne_self_eq_false,vc,bne_self_eq_false,bne_self_eq_false,bne_self_eq_false,bne_self_eq_false,
  qq (fun k hk=>by unfold xu;rw[wP];rfl),
  qq (fun k hk=>by unfold xt;rw[eP,bne_self_eq_false,bne_self_eq_false,dU];rfl),
  qq (fun k hk=>by unfold xr;rw[wO];rfl)]
 rfl
theorem dV {x:Qj} (c:x.a.Pairwise (fun a b=>a.e.Id<b.e.Id)) {a:Qn} (ha:a∈x.a):∃ j,j<x.a.length∧gt x.a j=a∧da x a.e.Id=((j:Nat):Int):=by
 obtain⟨j,hj,rfl⟩:=List.mem_iff_getElem.1 ha;refine⟨j,hj,gc hj,?_⟩;rw[<- gc hj];exact aZ c hj
theorem xC {x:Qj} (hc:pq x=true):(gp x).1.a=og x (x.a.map (gq x)):=by
 rw[tx,hc,cond_true,sg];show og x (ja x (bv x))=_;rw[Nj (uw hc).1]
theorem xb {x:Qj} {a:Qn} (ha:a∈og x (x.a.map (gq x))):∃ b∈x.a,0<(gq x b).t.length∧a=pj ((x.d.c.length:Nat):Int) (gq x b):=by
 unfold og at ha;obtain⟨b,hb,rfl⟩:=List.mem_map.1 ha;obtain⟨f,e⟩:=List.mem_filter.1 hb;obtain⟨g,h,rfl⟩:=List.mem_map.1 f;refine⟨g,h,?_,rfl⟩;unfold mi at e
 by_cases hz:(gq x g).t.length=0
 ·rw[hz] at e;cases e
 ·omega
theorem Dw {x:Qj} {b:Qn} (hb:b∈x.a) (e:0<(gq x b).t.length):pj ((x.d.c.length:Nat):Int) (gq x b)∈og x (x.a.map (gq x)):=by
 unfold og;refine List.mem_map.2 ⟨gq x b,List.mem_filter.2 ⟨List.mem_map.2 ⟨b,hb,rfl⟩,?_⟩,rfl⟩;unfold mi;rw[beq_eq_false_iff_ne.2 (by omega)];rfl
theorem Lk {x:Qj} (h:fr x) {a b:Qn} (ha:a∈x.a) (hb:b∈x.a) (he:a.e.Id=b.e.Id):a=b:=by
 obtain⟨i,hi,hg,hf⟩:=dV h.srt ha;obtain⟨j,hj,d,c⟩:=dV h.srt hb;rw[he,c] at hf;have:i=j:=by omega
 rw[<- hg, <- d,this]
def mB (l:List df) (i:Int) (f:df):Prop:=∃ b a,l=b++f::a∧f.e.Id=i∧∀ g∈a,g.e.Id≠i
def vH (n:Int) (y:Qj) (a:Qn):Prop:=(∃ b∈y.a,b.e.Id=a.e.Id∧b.z=a.z)∨((∀ b∈y.a,b.e.Id≠a.e.Id)∧∃ f,mB y.f a.e.Id f∧n<=f.n∧f.n<=n*n∧(a.z=0->f.n<=n))
structure uq (e y:Qj) (i:Nat):Prop where
 eng:fr y
 dr:mk (14+i) y
 stp:y.n=e.n+((i:Nat):Int)
 sl:y.d.c.length=e.d.c.length
 age:∀ a∈y.a,((i:Nat):Int)<=a.v
 kept:∀ a∈e.a,vH ((e.d.c.length:Nat):Int) y a
theorem uT {e:Qj} (h:fr e) (hd:mk 14 e):uq e e 0:=
 ⟨h,hd,by omega,rfl,fun a ha=>(h.act a ha).2.2.2.1.1,fun a ha=> .inl ⟨a,ha,rfl,rfl⟩⟩
theorem xE {x:Qj} (hc:pq x=true):(gp x).1.f=uz x (x.a.map (gq x)):=by
 rw[tx,hc,cond_true,sg];show uz x (ja x (bv x))=_;rw[Nj (uw hc).1]
theorem xH {x:Qj} (hc:pq x=true):(gp x).1.d.c.length=x.d.c.length:=by
 rw[tx,hc,cond_true,sg,My (s:=(ny x).d) (uw hc).1.st];exact bW _ _
theorem xJ {x:Qj} (hc:pq x=true):(gp x).1.n=x.n+1:=by
 have h:=(uw hc).1.stp;rw[tx,hc,cond_true,sg];show IntKind.i64.wrap (x.n+1)=_;exact gi (by omega) (by omega)
theorem vM {l l':List df} {i:Int} {f:df} (h:mB l i f) (hn:∀ g∈l',g.e.Id≠i):mB (l++l') i f:=by
 obtain⟨c,d,rfl,a,b⟩:=h;refine⟨c,d++l',by rw[List.append_assoc,List.cons_append],a,fun g hg=>?_⟩;rcases List.mem_append.1 hg with hg|hg
 ·exact b g hg
 ·exact hn g hg
theorem vO (l:List df) {l':List df} {f:df} (hf:f∈l') (hp:l'.Pairwise (fun a b=>a.e.Id<b.e.Id)):mB (l++l') f.e.Id f:=by
 obtain⟨c,d,rfl⟩:=List.append_of_mem hf;refine⟨l++c,d,by rw[List.append_assoc],rfl,fun g hg=>?_⟩;have:=(List.pairwise_cons.1 (List.pairwise_append.1 hp).2.1).1 g hg;omega
theorem uU {e y:Qj} {i:Nat} (h:uq e y i) (hc:pq y=true):uq e (gp y).1 (i+1):=by
 obtain⟨hE,hd⟩:=eX h.eng h.dr hc;have hact:=xC hc;have hdone:=xE hc;refine⟨hE,dR hd (by omega),?_,?_,fun a ha=>?_,fun a ha=>?_⟩
 ·rw[xJ hc,h.stp];omega
 ·rw[xH hc,h.sl]
 ·rw[hact] at ha;obtain⟨b,hb,_,rfl⟩:=xb ha;have s:=h.age b hb;have u:=(h.eng.act b hb).2.2.2.1;show _<=IntKind.i64.wrap ((gq y b).v+1);rw[(cY h.eng hb).age,gi (by omega) (by omega)];omega
 ·have hnew:∀ g∈((y.a.map (gq y)).filter mi).map ot,∃ c∈y.a,g=ot (gq y c)∧(gq y c).t.length=0:=fun g hg=>by
   obtain⟨b,hb,rfl⟩:=List.mem_map.1 hg;obtain⟨n,l⟩:=List.mem_filter.1 hb;obtain⟨c,hcm,rfl⟩:=List.mem_map.1 n;unfold mi at l;have:=beq_iff_eq.1 l;exact⟨c,hcm,rfl,by omega⟩
  have hid:∀ c:Qn,(ot (gq y c)).e.Id=c.e.Id:=fun c=>by show(gq y c).e.Id=_;rw[aP]
  rcases h.kept a ha with⟨b,hb,m,o⟩|⟨hno,f,hf,r⟩
  ·have hF:=cY h.eng hb
   by_cases p:(gq y b).t.length=0
   ·right
    have hp:=Nb h.eng hb (h.dr.pro b hb) hF p;rw[h.sl] at hp;refine⟨fun c hcm hce=>?_,ot (gq y b),?_,hp.1.1,hp.1.2.1,fun hz=>hp.2 (by rw[o];exact hz)⟩
    ·rw[hact] at hcm;obtain⟨k,j,hpos,rfl⟩:=xb hcm;have:k=b:=Lk h.eng j hb (by rw[m, <- hce];show _=(gq y k).e.Id;rw[aP]);subst this;omega
    ·rw[hdone, <- m, <- hid b];refine vO y.f (List.mem_map.2 ⟨gq y b,List.mem_filter.2 ⟨List.mem_map.2 ⟨b,hb,rfl⟩,?_⟩,rfl⟩) ?_
     ·unfold mi;rw[p];rfl
     ·rw[List.pairwise_map];refine List.Pairwise.filter _ ?_;rw[List.pairwise_map];refine h.eng.srt.imp fun {a b} hab=>?_
      rw[hid,hid];exact hab
   ·left
    refine⟨pj ((y.d.c.length:Nat):Int) (gq y b),by rw[hact];exact Dw hb (by omega),?_,?_⟩
    ·show(gq y b).e.Id=_;rw[aP];exact m
    ·show(gq y b).z=_;rw[hF.cap];exact o
  ·right
   refine⟨fun c hcm hce=>?_,f,?_,r⟩
   ·rw[hact] at hcm;obtain⟨k,j,_,rfl⟩:=xb hcm;exact hno k j (by rw[<- hce];show _=(gq y k).e.Id;rw[aP])
   ·rw[hdone];refine vM hf fun g hg=>?_
    obtain⟨c,hcm,rfl,_⟩:=hnew g hg;rw[hid];exact hno c hcm
theorem uR {e y:Qj} {i:Nat} (h:uq e y i) (hst:e.n<=90000) (hi:i<200):pq y=true:=by
 unfold pq;have:=h.stp;have:=h.dr.led;have:=h.dr.cnt;rw[(nu y).2 h.eng,decide_eq_false (show ¬ 100000<=y.n by omega),decide_eq_false (show ¬ 1000<=((y.k.length:Nat):Int) by omega),decide_eq_false (show ¬ 1000<((y.f.length+y.a.length:Nat):Int) by omega)];rfl
theorem uS {e y:Qj} {i:Nat} (h:uq e y i) (ha:0<y.a.length):i<64:=by
 have b:=bl ha;have:=h.age _ b;have f:=((ka _).1 h.eng.st).1;have:=(oZ (h.dr.pro _ b) h.eng.cur (h.eng.act _ b).2.2.1 f.2).1;have hnn:((y.d.c.length:Nat):Int)*((y.d.c.length:Nat):Int)<=64:=by
  have:=Int.mul_le_mul_of_nonneg_left (show((y.d.c.length:Nat):Int)<=8 by omega) (show 0<=((y.d.c.length:Nat):Int) by omega);omega
 omega
theorem dX {e:Qj} (h:fr e) (hd:mk 14 e) (hst:e.n<=90000):∃ i,uq e (pc e) i∧(pc e).a.length=0:=by
 unfold pc
 obtain⟨s',e',h'⟩:=nB (R:=Qj) (b:=fun k (s:Nat×Qj)=>ru k s.1 s.2) (n:=201) (P:=fun k s=>s.1=k∧k<200∧uq e s.2 k) (Q:=fun s=>∃ i,uq e s.2 i∧s.2.a.length=0) (fun k s hk d=>by
  obtain⟨i,y⟩:=s;dsimp only at d;obtain⟨rfl,c,hI⟩:=d;show(∃ s',ru i i y=_∧_)∨∃ s',ru i i y=_∧_;unfold ru;rw[decide_eq_true (show((i:Nat):Int)<200 by omega),(nu y).2 hI.eng,cond_true,cond_true]
  by_cases ha:0<y.a.length
  ·have:=uS hI ha;rw[decide_eq_true (show 0<((y.a.length:Nat):Int) by omega)];exact .inl ⟨_,rfl,rfl,by omega,uU hI (uR hI hst c)⟩
  ·rw[decide_eq_false (show ¬ 0<((y.a.length:Nat):Int) by omega)]
   exact .inr ⟨_,rfl,i,hI,by dsimp only;omega⟩) (201-0) 0 (0,e) (by omega) ⟨rfl,by omega,uT h hd⟩
 rw[e'];rcases h' with h'|h'
 ·exact h'
 ·exact absurd h'.2.1 (by omega)
theorem Aw {a b:List df} {f:df}:gt (a++f::b) a.length=f:=by
 rw[gc (by rw[List.length_append,List.length_cons];omega),List.getElem_append_right (Nat.le_refl _)];simp
theorem Av {a b:List df} {f:df} {j:Nat} (h:a.length<j) (c:j<(a++f::b).length):gt (a++f::b) j∈b:=by
 rw[gc c,List.getElem_append_right (by omega)];rw[List.length_append,List.length_cons] at c;obtain⟨d,rfl⟩:∃ d,j=a.length+1+d:=⟨j-a.length-1,by omega⟩;have e:(f::b)[a.length+1+d-a.length]'(by rw[List.length_cons];omega)=b[d]'(by omega):=by
  have:a.length+1+d-a.length=d+1:=by omega
  simp only[this,List.getElem_cons_succ]
 rw[e];exact List.getElem_mem _
theorem wM {x:Qj} (h:iu x=true) (hl:x.f.length<=1000) {i:Int} {f:df} (hf:mB x.f i f):pl x i=(f,true):=by
 obtain⟨a,b,hd,he,hn⟩:=hf;have hlen:x.f.length=a.length+(b.length+1):=by rw[hd,List.length_append,List.length_cons]
 unfold pl;rw[rm,h,cond_true,gi (by omega) (by omega)];have key:∀ m k (s:Int),((a.length:Nat):Int)<=s->s<((x.f.length:Nat):Int)->s-((a.length:Nat):Int)<((m:Nat):Int)->fe (R:=(df×Bool)) (fun k (s:Int)=>zw x i k s) m k s= .inl (f,true):=by
  intro m
  induction m with
  |zero=>intro k s c d e;omega
  |succ m ih=>
   intro k s c d e;rw[fe]
   by_cases g:s=((a.length:Nat):Int)
   ·have hb:zw x i k s= .inl (f,true):=by
     unfold zw;rw[decide_eq_true (show 0<=s by omega),g,Int.toNat_natCast,hd,Aw,beq_iff_eq.2 he];rfl
    rw[hb];rfl
   ·have hg:gt x.f s.toNat∈b:=by
     rw[hd];exact Av (by omega) (by rw[<- hd];omega)
    have hb:zw x i k s= .inr (.inr (s-1)):=by
     unfold zw;rw[decide_eq_true (show 0<=s by omega),beq_eq_false_iff_ne.2 (hn _ hg),gi (by omega) (by omega)];rfl
    rw[hb];exact ih (k+1) (s-1) (by omega) (by omega) (by omega)
 rw[key (x.f.length+1-0) 0 (((x.f.length:Nat):Int)-1) (by omega) (by omega) (by omega)];rfl
theorem vJ {e:Qj} (h:fr e) (hd:mk 14 e) (hst:e.n<=90000) {a:Qn} (ha:a∈e.a):∃ f,pl (pc e) a.e.Id=(f,true)∧f.n<=rp e a.z∧((e.d.c.length:Nat):Int)<=f.n:=by
 obtain⟨i,hI,g⟩:=dX h hd hst;rcases hI.kept a ha with⟨b,hb,_⟩|⟨_,f,hf,j,k,l⟩
 ·rw[List.eq_nil_of_length_eq_zero g] at hb;cases hb
 ·refine⟨f,wM ((nu _).2 hI.eng) hI.eng.dl hf,?_,j⟩;have hc:=(h.act a ha).2.2.2.2.2.1;have:=((ka _).1 h.st).1;have hnn:((e.d.c.length:Nat):Int)*((e.d.c.length:Nat):Int)<=64:=by
   have:=Int.mul_le_mul_of_nonneg_left (show((e.d.c.length:Nat):Int)<=8 by omega) (show 0<=((e.d.c.length:Nat):Int) by omega);omega
  have:0<=((e.d.c.length:Nat):Int)*((e.d.c.length:Nat):Int):=Int.mul_nonneg (by omega) (by omega);unfold rp;rw[rm,(nu e).2 h,zj,kk,decide_eq_true hc,cond_true,cond_true,gi (by omega) (by omega)]
  by_cases hz:a.z=0
  ·rw[beq_iff_eq.2 hz];exact l hz
  ·rw[beq_eq_false_iff_ne.2 hz];exact k
theorem vI {e:Qj} (h:fr e) (hd:mk 14 e) (hst:e.n<=90000):bK (pc e)=true∧(pc e).a.length=0:=by
 obtain⟨i,hI,g⟩:=dX h hd hst;refine⟨?_,g⟩;generalize pc e=x at hI g;have:=((ka _).1 hI.eng.st).1;have hnn:((x.d.c.length:Nat):Int)*((x.d.c.length:Nat):Int)<=64:=by
  have:=Int.mul_le_mul_of_nonneg_left (show((x.d.c.length:Nat):Int)<=8 by omega) (show 0<=((x.d.c.length:Nat):Int) by omega);omega
 have:0<=((x.d.c.length:Nat):Int)*((x.d.c.length:Nat):Int):=Int.mul_nonneg (by omega) (by omega);unfold bK;rw[rm,(nu x).2 hI.eng,cond_true,g]
 rw[qq (n:=x.f.length) (b:=fun k (_:Unit)=>qD x k) (fun k hk=>by
  unfold qD;have:=(hI.dr.dn _ (bl hk)).2.1;rw[gi (by omega) (by omega),decide_eq_false (by omega)]
  rfl)]
 rfl
theorem vV {e:Qj} (h:fr e) (hd:mk 14 e) (hst:e.n<=90000) (b:List Int) (he:cw b=e) {k:Nat} (hk:k<e.a.length):mX b k= .inr ():=by
 obtain⟨f,g,_,_⟩:=vJ h hd hst (bl hk);unfold mX;rw[he,Mr,g];dsimp only;rw[decide_eq_false (show ¬ rp e (gt e.a k).z<f.n by omega),decide_eq_false (show ¬ f.n<((e.d.c.length:Nat):Int) by omega)];rfl
theorem Dm (b:List Int):wx b=true:=by
 have hA:dG (cw b):=kW _ _;have hb:=fun(d:fr (cw b)) (f:mk 14 (cw b)) (g:(cw b).n<=90000)=>qq (b:=fun k (_:Unit)=>mX b k) (fun k hk=>vV d f g b rfl hk)
 unfold wx;cases qX b with
 |true=>rfl
 |false=>
 rw[cond_false,Mr,uD,vU,beq_self_eq_true,beq_self_eq_true,cond_true,cond_true];have hsb:(qL (aD b)==sE (aD b))=true:=beq_iff_eq.2 rfl;rw[hsb];generalize cw b=e at hA hb ⊢;rw[uN,cond_true];cases hE:iu e with
 |false=>rfl
 |true=>
 cases h:decide (90000<e.n) with
 |true=>rfl
 |false=>
 cases decide (800<((e.k.length:Nat):Int)) with
 |true=>rfl
 |false=>
  have hEe:=(nu e).1 hE;have hd:=hA.2 hE;have hst:=of_decide_eq_false h;rw[hb hEe hd (by omega)];obtain⟨c,k2⟩:=vI hEe hd (by omega);generalize pc e=y at c k2 ⊢;show cond (((y.a.length:Nat):Int)==0) (cond (bK y) true false) false=true;rw[c,k2];rfl
end Go.Proofs.YtdlminfjdodjoaaGreat
