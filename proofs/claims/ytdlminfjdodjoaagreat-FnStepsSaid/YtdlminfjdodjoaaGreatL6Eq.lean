/-
  The program and the reference compute the same: plain laws over what the walks showed.
-/
import Derived.Test.YtdlminfjdodjoaaGreatL6Law
namespace Go.Proofs.YtdlminfjdodjoaaGreat
open Go.RowKit
theorem Qne (z:List Int):Qhk z z=true:=by
 unfold Qhk;rw[bne_self_eq_false,Qjw (fun j _=>by unfold Qwa;rw[bne_self_eq_false];rfl)];rfl
theorem Qacc (z:List Qah):Qpz z z=true:=by
 unfold Qpz;rw[bne_self_eq_false,Qjw (fun j _=>by unfold Qaah Qwc;rw[beq_self_eq_true,Qne];rfl)];rfl
theorem Qaks (x:Qaa):Qsk x x=true:=by
 unfold Qsk
 rw[bne_self_eq_false,bne_self_eq_false,Qjw (fun j _=>by
  unfold Qaai Qwj;rw[bne_self_eq_false,Qjw (fun k _=>by unfold Qabd;rw[bne_self_eq_false,bne_self_eq_false,bne_self_eq_false,Qne];rfl)]
  rfl)]
 rfl
theorem Qavi (z:List Int):Qsb z z=true:=by
 unfold Qsb;rw[bne_self_eq_false,Qjw (fun j _=>by unfold Qzj;rw[bne_self_eq_false];rfl)];rfl
theorem Qatf (l:List Int) (i:Int):Qmm l i=Qik l i:=rfl
theorem Qacu (q:Qba):Qoh q q=true:=by
 unfold Qoh;rw[bne_self_eq_false,bne_self_eq_false,bne_self_eq_false,Qne,Qjw (fun k hk=>by unfold Qabl;rw[beq_self_eq_true,beq_self_eq_true,beq_self_eq_true];rfl)];rfl
theorem Qalz (a:Qp):Qtb a a=true:=by
 unfold Qtb;rw[Qacu,beq_self_eq_true,Qne,beq_self_eq_true,beq_self_eq_true,beq_self_eq_true,Qacc];rfl
theorem Qama (c:Qdi):Qss c c=true:=by
 unfold Qss;rw[beq_self_eq_true,beq_self_eq_true,Qne,Qne,Qne];rfl
theorem Qacb (x:Qk):Qpy x x=true:=by
 unfold Qpy
 rw[Qaks,bne_self_eq_false,Qne,bne_self_eq_false,bne_self_eq_false,bne_self_eq_false,bne_self_eq_false,
  Qjw (fun k hk=>by unfold Qaag;rw[Qama];rfl),
  Qjw (fun k hk=>by unfold Qaaf;rw[Qacu,bne_self_eq_false,bne_self_eq_false,Qacc];rfl),
  Qjw (fun k hk=>by unfold Qaae;rw[Qalz];rfl)]
 rfl
theorem Qaty {x:Qk} (h:Eng x) {a:Qp} (ha:a∈x.a):a.e.Id∈Qay x↔Qhf x.g a=true:=by
 constructor
 ·intro hm;obtain⟨i,hi,he,hf,hb⟩:=Qmw h hm;obtain⟨j,hj,rfl⟩:=List.mem_iff_getElem.1 ha;rw[← Qdl hj] at he hf ⊢;have h2:=Qno h.srt hj;rw[hf] at h2;have:i=j:=by omega
  rw[← this];exact hb
 ·intro hb;rw[Qnp h];exact List.mem_map.2 ⟨a,List.mem_filter.2 ⟨ha,hb⟩,rfl⟩
theorem Qws {x:Qk} (hs:x.a.Pairwise (fun a b=>a.e.Id<b.e.Id)) {a:Qp} (ha:a∈x.a):∃ j,j<x.a.length∧gt x.a j=a∧Qad x a.e.Id=((j:Nat):Int):=by
 obtain⟨j,hj,rfl⟩:=List.mem_iff_getElem.1 ha;refine⟨j,hj,Qdl hj,?_⟩;rw[← Qdl hj];exact Qno hs hj
theorem Qakv {x:Qk} {i:Int} (h:∀ a∈x.a,a.e.Id≠i):Qad x i= -1:=by
 unfold Qad;rw[Qjw (fun k hk=>by unfold Qhh;rw[beq_eq_false_iff_ne.2 (h _ (Qav hk))];rfl)];rfl
theorem Qamp {x:Qk} (hc:Qkc x=true):(Qfd x).1.a=Qir x (x.a.map (Qdu x)):=by
 rw[Qmd,hc,cond_true,Qmc];show Qir x (Qeq x (Qay x))=_;rw[Qadh (Qmz hc).1]
theorem Qaud {x:Qk} {a:Qp} (ha:a∈Qir x (x.a.map (Qdu x))):∃ b∈x.a,0<(Qdu x b).q.length∧a=Qin ((x.d.c.length:Nat):Int) (Qdu x b):=by
 unfold Qir at ha;obtain⟨b,hb,rfl⟩:=List.mem_map.1 ha;obtain⟨hb1,hb2⟩:=List.mem_filter.1 hb;obtain⟨b0,h0,rfl⟩:=List.mem_map.1 hb1;refine⟨b0,h0,?_,rfl⟩;unfold Qia at hb2
 by_cases hz:(Qdu x b0).q.length=0
 ·rw[hz] at hb2;cases hb2
 ·omega
theorem Qatm {x:Qk} {b:Qp} (hb:b∈x.a) (h0:0<(Qdu x b).q.length):Qin ((x.d.c.length:Nat):Int) (Qdu x b)∈Qir x (x.a.map (Qdu x)):=by
 unfold Qir;refine List.mem_map.2 ⟨Qdu x b,List.mem_filter.2 ⟨List.mem_map.2 ⟨b,hb,rfl⟩,?_⟩,rfl⟩;unfold Qia;rw[beq_eq_false_iff_ne.2 (by omega)];rfl
theorem Qayt {x:Qk} (h:Eng x) {a b:Qp} (ha:a∈x.a) (hb:b∈x.a) (he:a.e.Id=b.e.Id):a=b:=by
 obtain⟨i,hi,hg,hf⟩:=Qws h.srt ha;obtain⟨j,hj,hg2,hf2⟩:=Qws h.srt hb;rw[he,hf2] at hf;have:i=j:=by omega
 rw[← hg, ← hg2,this]
theorem Qzl {c:Int} {a:Qp}:Qhf c a=true↔c∈a.q∧Qjn a=true:=by
 unfold Qhf;rw[Bool.and_eq_true,Quc,and_comm]
theorem Qamt {e:Qk} (hd:DrX 14 e) (hc:Qkc e=true) {k:Nat} (hk:k<e.a.length) (b:List Int) (he:Qq b=e) (hs:Qfm e=Qfd e) (hp:Qcq e=Qay e):Qsa b k= .inr ():=by
 have hE:=(Qmz hc).1;obtain⟨hX,_⟩:=Qxe hE hd hc;have hact:=Qamp hc;unfold Qsa;rw[he,hs,hp,Qatf];generalize (Qfd e).1=x at hX hact ⊢;have ha:=Qav hk;generalize gt e.a k=a at ha ⊢;have hpm:Qik (Qay e) a.e.Id=Qhf e.g a:=by
  rw[Bool.eq_iff_iff,Quc,Qaty hE ha]
 rw[hpm];have hF:=Qtf hE ha;have hok:=hE.act a ha;have hto:=hok.2.2.1;have hpos:=hto.2.2;have hlen:=hF.len;have hrw:=hF.rws
 by_cases h0:(Qdu e a).q.length=0
 ·have hneg:Qad x a.e.Id= -1:=by
   refine Qakv fun y hy hye=>?_
   rw[hact] at hy;obtain⟨c,hcm,hc0,rfl⟩:=Qaud hy;have:c=a:=Qayt hE hcm ha (by rw[← hye];show _=(Qdu e c).e.Id;rw[Qtg]);subst this;omega
  rw[hneg,decide_eq_true (by decide),cond_true];have hpt:Qhf e.g a=true:=by
   cases hq:Qhf e.g a with
   |true=>rfl
   |false=>
    have:=hF.still (fun hh=>by rw[Qzl.2 hh] at hq;cases hq);rw[this] at h0;omega
  rw[hpt,cond_true,show a.q.length=1 by omega];rfl
 ·have hm:=Qatm ha (show 0<(Qdu e a).q.length by omega);rw[← hact] at hm;obtain⟨j,hj,hg,hf⟩:=Qws hX.srt hm;have hid:(Qin ((e.d.c.length:Nat):Int) (Qdu e a)).e.Id=a.e.Id:=by show(Qdu e a).e.Id=_;rw[Qtg]
  rw[hid] at hf;rw[hf,decide_eq_false (show ¬ ((j:Nat):Int)<0 by omega),cond_false,Int.toNat_natCast,hg];have htd:(Qin ((e.d.c.length:Nat):Int) (Qdu e a)).q=(Qdu e a).q:=rfl;have hrs:(Qin ((e.d.c.length:Nat):Int) (Qdu e a)).p=(Qdu e a).p:=rfl;have hag:(Qin ((e.d.c.length:Nat):Int) (Qdu e a)).v=IntKind.i64.wrap (a.v+1):=by show IntKind.i64.wrap ((Qdu e a).v+1)=_;rw[hF.age]
  have h8a:=Qxg hto;have h8b:=((Qfo _).1 hE.st).1;rw[htd,hrs,hag,bne_self_eq_false];cases hq:Qhf e.g a with
  |true=>
   have hh:=Qzl.1 hq;have:=hF.hit hh.1 hh.2;unfold Qml;rw[cond_true,Qdp (by omega) (by omega),show(((Qdu e a).q.length:Nat):Int)=((a.q.length:Nat):Int)-1 by omega,bne_self_eq_false,decide_eq_false (show ¬ ((a.p.length+4:Nat):Int)<(((Qdu e a).p.length:Nat):Int) by omega)];rfl
  |false=>
   have hst:=hF.still (fun hh=>by rw[Qzl.2 hh] at hq;cases hq);unfold Qml;rw[hst,cond_false,Qdp (by omega) (by omega),show((a.q.length:Nat):Int)-0=((a.q.length:Nat):Int) by omega,bne_self_eq_false,bne_self_eq_false,decide_eq_false (show ¬ ((a.p.length+4:Nat):Int)<((a.p.length:Nat):Int) by omega)];rfl
theorem Qata (b:List Int):Qzi b=true:=by
 have hA:AnyE (Qq b):=Qain _ _;unfold Qzi;cases Quw b with
 |true=>rfl
 |false=>
 have hp:=Qwx (Qq b) (by have:=hA.1.1.2.2.1.1;omega);have hb:=fun(h1:Qkc (Qq b)=true) (h2:DrX 14 (Qq b))=>Qjw (b:=fun k (_:Unit)=>Qsa b k) (fun k hk=>Qamt h2 h1 hk b rfl (Qre _) hp)
 rw[Qre,hp];generalize Qq b=e at hA hb ⊢;rw[cond_false,bne_self_eq_false,cond_false,Qacb,cond_true,Qavi,cond_true];cases hc:Qkc e with
 |false=>
  rw[Qmd,hc,cond_false,cond_false];exact Qacb e
 |true=>
  have hE:=(Qmz hc).1;have hd:=hA.2 ((Qjc e).2 hE);obtain⟨hX,_⟩:=Qxe hE hd hc;rw[hb hc hd,Qrb,(Qjc _).2 hX];rw[Qmd,hc,cond_true,Qmc,cond_true];have h1:(Qhv e).n=IntKind.i64.wrap (e.n+1):=rfl;have h2:(Qhv e).g=Int.tmod (IntKind.i64.wrap (e.g+1)) ((e.d.c.length:Nat):Int):=rfl;have h3:(((Qhv e).k.length:Nat):Int)=IntKind.i64.wrap (((e.k.length:Nat):Int)+Qml (decide (0<(((Qay e).length:Nat):Int)))):=by
   show(((Qje e).length:Nat):Int)=_;have hl:=hE.ll;unfold Qje Qml;cases decide (0<(((Qay e).length:Nat):Int)) with
   |true=>rw[cond_true,cond_true,Qdp (by omega) (by omega),List.length_append];rfl
   |false=>rw[cond_false,cond_false,Qdp (by omega) (by omega)];omega
  dsimp only;rw[h1,h2,h3,bne_self_eq_false,bne_self_eq_false,bne_self_eq_false];rfl
end Go.Proofs.YtdlminfjdodjoaaGreat
