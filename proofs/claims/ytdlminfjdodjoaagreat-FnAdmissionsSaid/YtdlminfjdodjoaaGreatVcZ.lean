/-
  The last step of a law: the call answers true and leaves all that was there as it was.
-/
import Derived.Test.YtdlminfjdodjoaaGreatVcE
import Derived.ProofKit
namespace Go.Proofs.YtdlminfjdodjoaaGreat
set_option linter.unusedVariables false
set_option linter.unusedSimpArgs false
open Go.ChangeShapes Go.WideShapes Go.ChangeAt Go.RowKit
theorem Es:ownKnob Tryz.prog.godebug=none:=by kernel_rfl
theorem Ea:laidOutB Tryz.prog=true:=by kernel_rfl
/-- The types of a list of parameters can be read,to the bottom. -/
def qR (P:Program) (ts:List TypeId):Bool:=ts.all fun t=>P.readableRec t && decide (t<P.types.size)
theorem lI {H:Type} {enc:TypeId×Value->H} {P:Program} (hl:laidOutB P=true) {W W':World} (hb:Below W.heap.size W W') {sp':Nat->Bool}:
 ∀ {ts:List TypeId} {vs:List Value} {ds:List (DataW H)} {ps:List MemPlace},qR P ts=true->DataW.TrodAll enc P W 0 (fun _=>true) true ts vs ds ps->(∀ x∈ps,x.block<W.heap.size)->(∀ x∈ps,sp' x.block=true)->DataW.TrodAll enc P W' 0 sp' true ts vs ds ps
 | [],[],[],ps,_,h,_,_=>h
 |t::ts,v::vs,d::ds,_,hr,⟨p,q,b,c,rfl⟩,hlt,a=>by
  simp only[qR,List.all_cons,Bool.and_eq_true,decide_eq_true_eq] at hr
  exact⟨p,q,Go.WideElems.Trod_stays hl hr.1.1 hr.1.2 b (fun x hx=>hb.same (hlt x (List.mem_append_left _ hx))) (fun x hx=>a x (List.mem_append_left _ hx)),
   lI hl hb (by simpa [qR] using hr.2) c (fun x hx=>hlt x (List.mem_append_right _ hx)) (fun x hx=>a x (List.mem_append_right _ hx)),rfl⟩
 | [],_::_,_,_,_,h,_,_=>by simp[DataW.TrodAll] at h
 | [],[],_::_,_,_,h,_,_=>by simp[DataW.TrodAll] at h
 |_::_,[],_,_,_,h,_,_=>by simp[DataW.TrodAll] at h
 |_::_,_::_,[],_,_,h,_,_=>by simp[DataW.TrodAll] at h
theorem Ec {H:Type} {enc:TypeId×Value->H} {P:Program} {f:Func} {s:ChangeSpec} {apart fresh handsOn again:Bool} {W W':World} {args:Array Value} {ds gs:List (DataW H)} {before:List MemPlace} {tb:TypeId}
 (hl:laidOutB P=true) (hr:qR P f.params.toList=true) (hv:s.vars=[]) (hres:f.resultTypes= #[tb]) (hb:P.underlying tb=some .bool)
 (hW:DataW.Whole enc P f.params.toList s.vars apart W args.toList ds gs before) (hspec:s.fn H (ds++gs)= { results:=[.lit (.bool true)],args:=ds }) (hB:Below W.heap.size W W'):
 s.post enc P f apart fresh handsOn again W args (.bool true) W':=by
 have hlt:∀ p∈before,p.block<W.heap.size:=fun p hp=>hW.lt p hp
 have hold:∀ p∈before,(fun b=>decide (b<W.heap.size)) p.block=true:=fun p hp=>by simpa using hlt p hp
 have hW':=hW;obtain⟨p,q,hA,hV,hpq,hz,hn⟩:=hW;rw[hv] at hV;have hgq:gs=[]∧q=[]:=by
  cases gs with
  |nil=>exact⟨rfl,hV⟩
  |cons g gs=>exact hV.elim
 obtain⟨rfl,rfl⟩:=hgq;have hvars:∀ sp:Nat->Bool,DataW.TrodVars enc P W' sp s.vars (s.fn H (ds++[])).vars []:=fun sp=>by
  rw[hv,hspec];rfl
 have hpp:before=p:=by rw[hpq];simp
 subst hpp;have hargs:∀ sp:Nat->Bool,(∀ x∈before,sp x.block=true)->DataW.TrodAll enc P W' 0 sp true f.params.toList args.toList (s.fn H (ds++[])).args before:=fun sp hsp=>by
  rw[hspec];exact lI hl hB hr hA hlt hsp
 have hrs:∀ (b:Nat) (sp:Nat->Bool) (hd:Bool),DataW.TrodAll enc P W' b sp hd f.resultTypes.toList (Value.resultList f.resultTypes.size (.bool true)) (s.fn H (ds++[])).results []:=fun b sp hd=>by
  rw[hspec,hres];exact trodAll_mk1 (shut_bool hb true)
 refine⟨ds,[],before,[],before,[],hW',hrs _ _ _,hargs _ hold,hvars _,World.keptBut_mono (fun p hp=>⟨hp,?_⟩) (hB.frame (· ∈ before)),fun _=>?_⟩
 ·exact Or.inr (by simpa using hp)
 ·refine⟨?_,_,_,([]++before)++[],⟨[]++before,[],trodAll_append (hargs _ (fun _ _=>rfl)) (hrs _ _ _),hvars _,rfl,?_,?_⟩,?_⟩
  ·intro j t r ht hr';rw[hres] at ht hr';cases j with
   |zero=>
    simp only[List.getElem?_toArray,List.getElem?_cons_zero,Option.some.injEq] at ht;subst ht;have:r= .bool true:=by simpa [Value.resultList] using hr'.symm
    subst this;exact okWide_bool_mk hb true
   |succ j=>simp at ht
  ·intro b off hp;have hin:MemPlace.cell b off∈before:=by simpa using hp
   rw[hB.frozen (hlt _ hin)];exact hz b off hin
  ·intro ha
   simpa using hn ha
  ·intro p hp _
   simpa using hp
/-! ### How an argument reads -/
structure sW {α:Type} (P:Program) (T:Ty α) (t:TypeId):Prop where
 go:∀ {H:Type} {enc:TypeId×Value->H} {W:World} {sp:Nat->Bool} {held:Bool} {fuel:Nat} {cs:List Value} {x:DataW H×List MemPlace},DataW.trod enc P W 0 sp held fuel t cs=some x->∃ d,T.rd W W.heap.size cs d
theorem Bc {w:World} {a:Addr} {v:Value} (h:w.cell? a=some v):a.block<w.heap.size:=by
 cases hb:w.heap[a.block]? with
 |none=>simp[World.cell?,hb] at h
 |some b=>exact(Array.getElem?_eq_some_iff.1 hb).1
theorem vU {α:Type} [Inhabited α] {P:Program} {E:Ty α} {t e:TypeId} (ht:P.underlying t=some (.slice e)) (hz:P.cellsOf e=E.sz) (l:0<E.sz) (h:sW P E e):sW P (ab E e) t:=by
 refine⟨fun {H enc W sp held fuel cs x} hx=>?_⟩;rcases Go.Deep.open_slice ht hx with⟨rfl,_⟩|⟨a,len,cap,m,n,D,Pl,rfl,_,hlc,hcm,k,_,hel⟩
 ·exact⟨[],_,rfl,by simp,none,0,rfl,fun h=>absurd h (by simp)⟩
 ·have hle:len<=m:=by rw[k];split <;>omega
  have hch:∀ i,i<len->∃ d,∃ cs',W.cells? 0 (a.add (i*E.sz)) E.sz=some cs'∧E.rd W W.heap.size cs' d:=fun i hi=>by
   obtain⟨cs',c,b⟩:=hel i (by omega);obtain⟨d,hd⟩:=h.go b;exact⟨d,cs',by rw[<- hz];exact c,hd⟩
  obtain⟨f,hf⟩:=Go.Deep.choose_lt hch;refine⟨(List.range len).map f,_,rfl,?_,some a,cap,by simp,fun hl=>⟨a,rfl,⟨?_,by simpa using hlc⟩,fun j y hy=>?_⟩⟩
  ·simp only[List.length_map,List.length_range];unfold maxLen at hcm;omega
  ·obtain⟨cs',c,b⟩:=hf 0 (by simpa using hl);obtain⟨_,_,hc⟩:=World.cells?_some c;have hlen:=E.rd_len b;have g:=hc 0 (by omega);rw[List.getElem?_eq_getElem (by omega)] at g;have:=Bc g
   simpa [bj] using this
  ·have hj:j<len:=by
    have:=(List.getElem?_eq_some_iff.1 hy).1
    simpa using this
   have hy':f j=y:=by simpa [hj] using hy
   obtain⟨cs',c,b⟩:=hf j hj;obtain⟨_,hlen,hc⟩:=World.cells?_some c;rw[hy'] at b;refine⟨cs',b,fun o u ho=>?_⟩;have hol:o<cs'.length:=(List.getElem?_eq_some_iff.1 ho).1;rw[hc o (by omega),ho]
/-- A slice,and a struct,as an argument. -/
theorem yT {H:Type} {enc:TypeId×Value->H} {α:Type} {P:Program} {E:Ty α} {t e:TypeId} {W:World} {b:Nat} {sp:Nat->Bool} {held:Bool} {v:Value} {d:DataW H} {ps:List MemPlace} (hR:sW P (ab E e) t) (ht:P.underlying t=some (.slice e))
 (hval:Value.okWide P W .any b t v) (hd:DataW.Trod enc P W 0 sp held t v d ps):∃ xs,ce E W W.heap.size v xs:=by
 obtain⟨a,l,c,rfl⟩:=okWide_slice ht hval;obtain⟨fuel,hf⟩:=hd;obtain⟨xs,u,hu,hr⟩:=hR.go hf;have:u= .slice a l c:=by simpa [Value.cells] using hu.symm
 subst this;exact⟨xs,hr⟩
end Go.Proofs.YtdlminfjdodjoaaGreat
