/-
  The program and the reference compute the same: plain laws over what the walks showed.
-/
import Derived.Test.YtdlminfjdodjoaaGreatL7Law
namespace Go.Proofs.YtdlminfjdodjoaaGreat
set_option linter.unusedVariables false
set_option linter.unusedSimpArgs false
open Go.RowKit
theorem uw (z:List Int):mt z z=true:=by
 unfold mt;rw[bne_self_eq_false,sq (fun j _=>by unfold sB;rw[bne_self_eq_false];rfl)];rfl
theorem dM (z:List bf):cC z z=true:=by
 unfold cC;rw[bne_self_eq_false,sq (fun j _=>by unfold xm sD;rw[beq_self_eq_true,uw];rfl)];rfl
theorem uK (x:Qy):mY x x=true:=by
 unfold mY
 rw[bne_self_eq_false,bne_self_eq_false,sq (fun j _=>by
  unfold xn sK;rw[bne_self_eq_false,sq (fun k _=>by unfold ym;rw[bne_self_eq_false,bne_self_eq_false,bne_self_eq_false,uw];rfl)]
  rfl)]
 rfl
theorem eG (q:bk):aF q q=true:=by
 unfold aF;rw[bne_self_eq_false,bne_self_eq_false,bne_self_eq_false,uw,sq (fun k hk=>by unfold yu;rw[beq_self_eq_true,beq_self_eq_true,beq_self_eq_true];rfl)];rfl
theorem vY (a:Qq):nS a a=true:=by
 unfold nS;rw[eG,beq_self_eq_true,uw,beq_self_eq_true,beq_self_eq_true,beq_self_eq_true,dM];rfl
theorem vZ (c:gn):nH c c=true:=by
 unfold nH;rw[beq_self_eq_true,beq_self_eq_true,uw,uw,uw];rfl
theorem uJ (x:Qk):pb x x=true:=by
 unfold pb
 rw[uK,bne_self_eq_false,uw,bne_self_eq_false,bne_self_eq_false,bne_self_eq_false,bne_self_eq_false,
  sq (fun k hk=>by unfold xl;rw[vZ];rfl),
  sq (fun k hk=>by unfold xk;rw[eG,bne_self_eq_false,bne_self_eq_false,dM];rfl),
  sq (fun k hk=>by unfold xj;rw[vY];rfl)]
 rfl
theorem yS (x:Qk) (q:bk) (l:Int):(pa x q l).c.length=x.c.length+1:=by
 have hj:=mE x.c q.Id;show((List.take _ x.c++[pf x q l])++List.drop _ x.c).length=_;rw[List.length_append,List.length_append,List.length_take,List.length_drop];show _+1+_=_;omega
theorem uA {x:Qk} (h:gu x) {i:Int} (a: ¬ da x i<0):(jn x i).2=true∧(jn x i).1.c.length+1=x.c.length:=by
 have hl:=cD x i;unfold jn;rw[(pd x).2 h,decide_eq_false a,cond_true,cond_false,tm];refine⟨rfl,?_⟩;show(List.take _ x.c++List.drop _ x.c).length+1=_;rw[dH h a,List.length_append,List.length_take,List.length_drop];omega
theorem wT (e:Qk) (u:dp):(jp e u).1.c=e.c:=by
 unfold jp;cases ka e with
 |false=>rfl
 |true=>
 cases (ej e.d u).2 with
 |false=>rfl
 |true=>show(ml _).c=_;rw[tm]
theorem Eb (b:List Int):wd b=true:=by
 have hA:Kr (bn b).1:=yn _ _;unfold wd;cases qO b with
 |true=>rfl
 |false=>
 simp only[Kp,dF,eR,eM,oU,tl,uJ,beq_self_eq_true,bne_self_eq_false,cond_true,cond_false,wT];have ht:cond (jp (cp b).1 (cp b).2).2 true true=true:=by
  cases (jp (cp b).1 (cp b).2).2 <;>rfl
 rw[ht];generalize (bn b).1=e at hA ⊢;generalize (bn b).2.1=q;generalize (bn b).2.2=l;rw[oS];cases hb:ru e q l with
 |false=>rfl
 |true=>
  have hE:=(mF hb).1;have hd:=hA.2 ((pd e).2 hE);have hX:=(Kq hb hd).1;obtain⟨j,hj,hg,hf⟩:=cX hb hd;have hc:=uA hX (i:=q.Id) (by rw[hf];omega);have hlen:=yS e q l;simp only[cond_true];rw[show decide (da (pa e q l) q.Id<0)=false from decide_eq_false (by rw[hf];omega),cond_false,show decide ((((pa e q l).c.length:Nat):Int)<=da (pa e q l) q.Id)=false from decide_eq_false (by rw[hf];omega),cond_false,hf,hlen,bne_self_eq_false,cond_false,Int.toNat_natCast,hg,hc.1,(pd _).2 hX,show(jn (pa e q l) q.Id).1.c.length=e.c.length by omega,bne_self_eq_false];have f:(pf e q l).u=e.d.e:=rfl;have g:(pf e q l).r.length=e.d.a.length:=by show((List.range e.d.a.length).map _).length=_;rw[List.length_map,List.length_range]
  rw[f,g,bne_self_eq_false,bne_self_eq_false];rfl
end Go.Proofs.YtdlminfjdodjoaaGreat
