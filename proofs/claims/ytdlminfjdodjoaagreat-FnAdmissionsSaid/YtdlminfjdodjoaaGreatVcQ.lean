/-
  Calls that write through a pointer.
-/
import Derived.Test.YtdlminfjdodjoaaGreatVcX
import Derived.Test.YtdlminfjdodjoaaGreatVcY
namespace Go.Proofs.YtdlminfjdodjoaaGreat
set_option linter.unusedVariables false
set_option linter.unusedSimpArgs false
open Go.RowKit
section
variable {P:Program} {N B:Nat} {w0:World} {Q:Exit->Act->World->Prop} {L:List (Nat×Value)} {is:List It}
theorem ip {x:Operand} {A:Addr} {w:World} {d:Option Nat} {ty:TypeId} {pos:String} {af:Array Edge} {g:Option (Nat×Bool)} (hx:ev L x=some (.pointer (some A))):RV P L ⟨d, .nilCheck x,ty,pos,af,g⟩ w (.pointer (some A)) w:=fun N a ha=>by
 have b:=ha.eval hx;generalize a.eval=ρ at b ⊢;simp[execOp,b,go_sem]
end
section
variable {α:Type} {P:Program} {N B:Nat} {w0:World} {Q:Exit->Act->World->Prop} {L:List (Nat×Value)} {is:List It} {E:Ty α} {e:TypeId}
end
/-! ### A part of a list cut out in its own place -/
section
variable {α:Type} {E:Ty α} {e:TypeId} {B:Nat} {w0:World} {is js:List It}
theorem EC.dropN {w:World}:∀ {ps:List (List Value×α)} {L:List Nat} (k:Nat),EC E w L ps->∃ L' M,(L'++M).Perm L∧EC E w L' (ps.drop k)
 |_,L,0,h=>⟨L,[],by rw[List.append_nil],h⟩
 | [],L,_+1,h=>⟨L,[],by rw[List.append_nil],h⟩
 |p::ps,_,k+1,⟨L1,c,e,d,a⟩=>by
  subst e;obtain⟨L',M,b,k2⟩:=EC.dropN k a;refine⟨L',L1++M,?_,k2⟩;rw[<- List.append_assoc];refine(List.perm_append_comm.append_right M).trans ?_;rw[List.append_assoc];exact b.append_left L1
theorem EC.cut {w:World}:∀ {ps:List (List Value×α)} {L:List Nat} (k k2:Nat),k<=k2->EC E w L ps->∃ L' M,(L'++M).Perm L∧EC E w L' (ps.take k++ps.drop k2)
 |ps,L,0,k2,_,h=>EC.dropN k2 h
 | [],L,k+1,k2,_,h=>⟨L,[],by rw[List.append_nil],by rw[List.take_nil,List.drop_nil];exact h⟩
 |p::ps,_,k+1,0,hk,_=>absurd hk (by omega)
 |p::ps,_,k+1,k2+1,hk,⟨L1,f,e,a,b⟩=>by
  subst e;obtain⟨L',M,d,c⟩:=EC.cut k k2 (by omega) b;refine⟨L1++L',M,?_,L1,L',rfl,a,c⟩;rw[List.append_assoc];exact d.append_left L1
theorem Mem.ckErase {w:World} {v:Value} {ps:List (List Value×α)} {xs:List α} {k k2:Nat} (hk:k<=k2) (hps:ps.map Prod.snd=xs)
 (h:Mem B w0 (Qg (ab (el (fe E)) e) [v] (List.take k ps++List.drop k2 ps)::jt E ps::is) w):Mem B w0 (Qg (ab E e) [v] (List.take k xs++List.drop k2 xs)::is) w:=by
 obtain⟨_,⟨L1,_,rfl,g,c,a,rfl,i,j⟩,l,m⟩:=h.sep;obtain⟨L',M,hp,hec⟩:=EC.cut k k2 hk (show EC E w c ps from i);have hq:(L1++((L'++M)++a)).Perm (L1++(c++a)):=(hp.append_right a).append_left L1;have f:List.Sublist (L1++(L'++a)) (L1++((L'++M)++a)):=((List.sublist_append_left L' M).append_right a).append_left L1;have n:Mem B w0 (Qg (ab (el (fe E)) e) [v] (List.take k ps++List.drop k2 ps)::jt E (List.take k ps++List.drop k2 ps)::is) w:=
  ⟨h.base,h.below,_,⟨L1,_,rfl,g,L',a,rfl,hec,j⟩,(hq.nodup_iff.2 l).sublist f,fun b hb=>m b (hq.mem_iff.1 (f.subset hb))⟩
 have d:=Mem.ofCk (E:=E) (K:=fe E) rfl (.refl _) n;rw[List.map_append,List.map_take,List.map_drop,hps] at d;exact d
theorem fZ {K:Ck α} {w:World}:∀ {ps:List (List Value×α)} {L:List Nat} {cs:List Value},Els (el K) w L cs ps->∀ p∈ps,K.R p.1 p.2
 | [],_,_,_,p,hp=>by cases hp
 |q::ps,_,_,⟨_,_,_,_,_,_,⟨_,k2,b⟩,a⟩,p,hp=>by
  rcases List.mem_cons.1 hp with rfl|hp
  ·exact b
  ·exact fZ a p hp
theorem Mem.ckTake {K:Ck α} {w:World} {A:Option Addr} {n c k:Nat} {ps:List (List Value×α)} (hk:k<=n) (h:Mem B w0 (Qg (ab (el K) e) [.slice A n c] ps::is) w):Mem B w0 (Qg (ab (el K) e) [.slice A k c] (List.take k ps)::is) w:=
 h.perm fun L hL=>by
  obtain⟨v',hv,cells,L',rfl,hrow,hels⟩:=hL;cases hv
  have hR:=fZ hels;obtain⟨rfl,rfl⟩:=Mm hels;have a:Els (el K) w [] ((List.take k ps).map Prod.fst).flatten (List.take k ps):=Ml fun p hp=>hR p (List.mem_of_mem_take hp)
  have hrow':w.ownsRow 0 e K.s (.slice A n c) ps.length (ps.map Prod.fst).flatten:=hrow;have b:((List.take k ps).map Prod.fst).flatten.length=(List.take k ps).length*K.s:=a.len;have hspl:(ps.map Prod.fst).flatten=((List.take k ps).map Prod.fst).flatten++((List.drop k ps).map Prod.fst).flatten:=by
   rw[<- List.flatten_append, <- List.map_append,List.take_append_drop]
  refine⟨_,⟨.slice A k c,rfl,((List.take k ps).map Prod.fst).flatten,[],rfl,⟨b,?_⟩,a⟩,by cases A <;>exact .refl _⟩;rcases hrow'.2 with⟨d,_⟩|⟨g,cap,cur,d,hb,hg,hn,j,hz,ht⟩
  ·cases d
   have f:k=0:=by omega
   subst f;exact .inl ⟨rfl,rfl⟩
  ·cases d
   have hl:(List.take k ps).length=k:=by rw[List.length_take];omega
   refine .inr ⟨g,c,cur,by rw[hl],hb,hg,by rw[hl];omega,j,hz,?_⟩;have i:=congrArg (List.take ((List.take k ps).length*K.s)) ht;rw[List.take_take,hspl, <- b,List.take_left,Nat.min_eq_left] at i
   ·show List.take ((List.take k ps).length*K.s) cur.toList=_;rw[<- b];exact i
   ·rw[b,hl];exact Nat.mul_le_mul_right _ hk
end
section
variable {P:Program} {N B:Nat} {w0:World} {Q:Exit->Act->World->Prop} {L:List (Nat×Value)} {is:List It}
theorem wz {x y:Operand} {A:Option Addr} {n c t e:Nat} {k:Int} {info:TypeInfo} {w:World} {d:Option Nat} {ty:TypeId} {pos:String} {af:Array Edge} {g:Option (Nat×Bool)} (ht:P.underlying t=some (.slice e)) (hi:P.info? e=some info)
 (hx:ev L x=some (.slice A n c)) (hy:ev L y=some (.int .i64 k)) (a:0<=k) (hk:k.toNat<=c):RV P L ⟨d, .slice t x none (some y) none,ty,pos,af,g⟩ w (.slice A k.toNat c) w:=jI ht hi hx (by rw[hy,Int.toNat_of_nonneg a]) hk
theorem xa {x y:Operand} {A:Option Addr} {n c t e s:Nat} {k:Int} {w:World} {info:TypeInfo} {d:Option Nat} {ty:TypeId} {pos:String} {af:Array Edge} {g:Option (Nat×Bool)} (ht:P.underlying t=some (.slice e)) (hi:P.info? e=some info) (b:info.size=s)
 (hx:ev L x=some (.slice A n c)) (hy:ev L y=some (.int .i64 k)) (a:0<=k) (hk:k.toNat<=n):RV P L ⟨d, .slice t x (some y) none none,ty,pos,af,g⟩ w (.slice (bP A c k.toNat s) (n-k.toNat) (c-k.toNat)) w:=jJ ht hi b hx (by rw[hy,Int.toNat_of_nonneg a]) hk
theorem dA {α:Type} {T:Ty α} {e:TypeId} {cd:Code} {A:Option Addr} {n c i:Nat} {xs:List α} (hi:is[i]?=some (Qg (ab T e) [.slice A n c] xs)) (h:n<=c->CM P N B w0 cd Q L is):CM P N B w0 cd Q L is:=fun w a=>h (iM (a.rdSI hi)) w a
end
/-! ### Bytes,and operations on bits -/
def mn:Ty Int:=lG (fun v n=>v= .int .u8 n) (by rintro _ _ rfl;rfl)
theorem iQ {B:Nat} {w:World} {xs:List Int} {a:Addr} (h:∀ j x,xs[j]?=some x->∃ c',mn.rd w B c' x∧∀ o u,c'[o]?=some u->w.cell? ((a.add (j*mn.sz)).add o)=some u):
 ∀ j,j<xs.length->w.cell? (a.add (j*1))=some (.int .u8 (gt xs j)):=fun j hj=>by
 obtain⟨c',⟨_,rfl,rfl⟩,hc⟩:=h j _ (er hj);exact hc 0 _ rfl
section
variable {P:Program} {L:List (Nat×Value)} {w:World} {d:Option Nat} {ty:TypeId} {pos:String} {af:Array Edge} {g:Option (Nat×Bool)}
theorem jD {x:Operand} {p:Int} {t c:TypeId} (e:P.underlying t=some (.int .u8)) (f:P.underlying c=some (.int .i64)) (hx:ev L x=some (.int .u8 p)):
 RV P L ⟨d, .convert t c x,ty,pos,af,g⟩ w (.int .i64 (IntKind.i64.wrap p)) w:=fun N a ha=>by
 have b:=ha.eval hx;generalize a.eval=ρ at b ⊢;simp[execOp,b,convert,run_underlying e,run_underlying f,Conv.intToInt]
theorem wx {x y:Operand} {p q:Int} {t e:TypeId} (hx:ev L x=some (.int .i64 p)) (hy:ev L y=some (.int .i64 q)):RV P L ⟨d, .binOp .and t x y e,ty,pos,af,g⟩ w (.int .i64 (bits .and .i64 p q)) w:=fun N a ha=>by
 have b:=ha.eval hx;have c:=ha.eval hy;generalize a.eval=ρ at b c ⊢;simp[execOp,b,c,go_sem]
theorem Gb {x y:Operand} {p q:Int} {t e:TypeId} (hx:ev L x=some (.int .i64 p)) (hy:ev L y=some (.int .i64 q)):RV P L ⟨d, .binOp .xor t x y e,ty,pos,af,g⟩ w (.int .i64 (bits .xor .i64 p q)) w:=fun N a ha=>by
 have b:=ha.eval hx;have c:=ha.eval hy;generalize a.eval=ρ at b c ⊢;simp[execOp,b,c,go_sem]
theorem jH {x y:Operand} {k:IntKind} {p q:Int} {t i:TypeId} (e:0<=q) (f:q<=64) (hx:ev L x=some (.int .i64 p)) (hy:ev L y=some (.int k q)):RV P L ⟨d, .binOp .shr t x y i,ty,pos,af,g⟩ w (.int .i64 (p / 2 ^ q.toNat)) w:=fun N a ha=>by
 have b:=ha.eval hx;have c:=ha.eval hy;generalize a.eval=ρ at b c ⊢;have h:=shift_shr (k:= .i64) (yk:=k) p q e f;simp[execOp,b,c,eqGuard,binOp,h]
end
theorem fD (x:Int):0<=bits .and .i64 x 255∧bits .and .i64 x 255<=255:=by
 have h:((BitVec.ofInt 64 x &&& BitVec.ofInt 64 255).toNat)<=255:=by
  rw[BitVec.toNat_and];exact Nat.le_trans Nat.and_le_right (by decide)
 have e:bits .and .i64 x 255=IntKind.i64.wrap ((BitVec.ofInt 64 x &&& BitVec.ofInt 64 255).toNat:Nat):=rfl;rw[e,ia (by omega) (by omega)];omega
/-! ### Values that have been copied out of lists that may be gone: what they hold in numbers is known -/
section
variable {α:Type}
def rr (T:Ty α):Ty α where
 sz:=T.sz
 rd:=fun _ _ cs x=>∃ w B,T.rd w B cs x
 own:=fun _ L cs x=>L=[]∧∃ w B,T.rd w B cs x
 rd_len:=fun⟨_,_,h⟩=>T.rd_len h
 rd_one:=fun⟨_,_,h⟩=>T.rd_one h
 rd_keep:=fun h _=>h
 rd_mono:=fun h _=>h
 own_keep:=fun h _=>h
 own_lt:=by rintro _ _ _ _ ⟨rfl,_⟩ b hb;cases hb
 own_rd:=fun h _=>h.2
theorem Js {T:Ty α} {w:World} {L:List Nat} {cs:List Value} {x:α} (h:(rr T).own w L cs x):∃ g:World×Nat,T.rd g.1 g.2 cs x∧Sep [] w L:=by
 obtain⟨a,w',B',b⟩:=h;exact⟨(w',B'),b,a⟩
theorem Jo {E:Ty α} {B:Nat} {w0 w:World} {is:List It} {u:Value} {ys:List α} (a:Mem B w0 is w) (h:ce E w0 B u ys):mB E (rr E) w u ys:=⟨w0,B,h,fun _ hA=>a.cell0 hA,fun _ _ k _=>⟨rfl,w0,B,k⟩⟩
end
/-! ### A list of which the head is cut away,and that still owns the whole -/
theorem vJ {P:Program} {N B:Nat} {w0:World} {L:List (Nat×Value)} {is:List It} {fn:Func} {R:Ending->World->Prop} {b c d:ResultVar} {f g i:Value} (hr:fn.results= #[b,c,d]) (j:RR P N B w0 L is b f) (k:RR P N B w0 L is c g) (l:RR P N B w0 L is d i) (hR:∀ w,Mem B w0 is w->R (.returned (.tuple #[f,g,i])) w):QM N B w0 (bodyPost P fn R) .ret L is:=fun w hw a ha=>
 ⟨ha.defers,_,by
  have e:results fn a.tmps=(do let vs <- fn.results.mapM (bR a);pure (if h:vs.size=1 then vs[0] else .tuple vs)):=rfl
  rw[e,hr];simp[j w a hw ha,k w a hw ha,l w a hw ha],hR w hw⟩
end Go.Proofs.YtdlminfjdodjoaaGreat
