/-
  Calls that write through a pointer.
-/
import Derived.Test.YtdlminfjdodjoaaGreatVcX
import Derived.Test.YtdlminfjdodjoaaGreatVcY
namespace Go.Proofs.YtdlminfjdodjoaaGreat
open Go.RowKit
section
variable {P:Program} {N B:Nat} {w0:World} {Q:Exit→Act→World→Prop} {L:List (Nat×Value)} {is:List It}
theorem Qeh {x:Operand} {A:Addr} {w:World} {d:Option Nat} {ty:TypeId} {pos:String} {af:Array Edge} {g:Option (Nat×Bool)} (hx:ev L x=some (.pointer (some A))):RV P L ⟨d, .nilCheck x,ty,pos,af,g⟩ w (.pointer (some A)) w:=fun N a ha=>by
 have e0:=ha.eval hx;generalize a.eval=ρ at e0 ⊢;simp[execOp,e0,go_sem]
end
section
variable {α:Type} {P:Program} {N B:Nat} {w0:World} {Q:Exit→Act→World→Prop} {L:List (Nat×Value)} {is:List It} {E:Ty α} {e:TypeId}
end
/-! ### A part of a list cut out in its own place -/
section
variable {α:Type} {E:Ty α} {e:TypeId} {B:Nat} {w0:World} {is js:List It}
theorem EC.dropN {w:World}:∀ {ps:List (List Value×α)} {L:List Nat} (k:Nat),EC E w L ps→∃ L' M,(L'++M).Perm L∧EC E w L' (ps.drop k)
 |_,L,0,h=>⟨L,[],by rw[List.append_nil],h⟩
 | [],L,_+1,h=>⟨L,[],by rw[List.append_nil],h⟩
 |p::ps,_,k+1,⟨L1,L2,e,h1,h2⟩=>by
  subst e;obtain⟨L',M,k1,k2⟩:=EC.dropN k h2;refine⟨L',L1++M,?_,k2⟩;rw[← List.append_assoc];refine(List.perm_append_comm.append_right M).trans ?_;rw[List.append_assoc];exact k1.append_left L1
theorem EC.cut {w:World}:∀ {ps:List (List Value×α)} {L:List Nat} (k k2:Nat),k≤k2→EC E w L ps→∃ L' M,(L'++M).Perm L∧EC E w L' (ps.take k++ps.drop k2)
 |ps,L,0,k2,_,h=>EC.dropN k2 h
 | [],L,k+1,k2,_,h=>⟨L,[],by rw[List.append_nil],by rw[List.take_nil,List.drop_nil];exact h⟩
 |p::ps,_,k+1,0,hk,_=>absurd hk (by omega)
 |p::ps,_,k+1,k2+1,hk,⟨L1,L2,e,h1,h2⟩=>by
  subst e;obtain⟨L',M,k1,h3⟩:=EC.cut k k2 (by omega) h2;refine⟨L1++L',M,?_,L1,L',rfl,h1,h3⟩;rw[List.append_assoc];exact k1.append_left L1
theorem Mem.ckErase {w:World} {v:Value} {ps:List (List Value×α)} {xs:List α} {k k2:Nat} (hk:k≤k2) (hps:ps.map Prod.snd=xs)
 (h:Mem B w0 (Qh (tSl (tCk (ckA E)) e) [v] (List.take k ps++List.drop k2 ps)::iCk E ps::is) w):Mem B w0 (Qh (tSl E e) [v] (List.take k xs++List.drop k2 xs)::is) w:=by
 obtain⟨_,⟨L1,_,rfl,h1,L2,L3,rfl,h2,h3⟩,h4,h5⟩:=h.sep;obtain⟨L',M,hp,hec⟩:=EC.cut k k2 hk (show EC E w L2 ps from h2);have hq:(L1++((L'++M)++L3)).Perm (L1++(L2++L3)):=(hp.append_right L3).append_left L1;have hs:List.Sublist (L1++(L'++L3)) (L1++((L'++M)++L3)):=((List.sublist_append_left L' M).append_right L3).append_left L1;have hm:Mem B w0 (Qh (tSl (tCk (ckA E)) e) [v] (List.take k ps++List.drop k2 ps)::iCk E (List.take k ps++List.drop k2 ps)::is) w:=
  ⟨h.base,h.below,_,⟨L1,_,rfl,h1,L',L3,rfl,hec,h3⟩,(hq.nodup_iff.2 h4).sublist hs,fun b hb=>h5 b (hq.mem_iff.1 (hs.subset hb))⟩
 have h6:=Mem.ofCk (E:=E) (K:=ckA E) rfl (.refl _) hm;rw[List.map_append,List.map_take,List.map_drop,hps] at h6;exact h6
end
section
variable {P:Program} {N B:Nat} {w0:World} {Q:Exit→Act→World→Prop} {L:List (Nat×Value)} {is:List It}
theorem Qave {x y:Operand} {A:Option Addr} {n c t e:Nat} {k:Int} {info:TypeInfo} {w:World} {d:Option Nat} {ty:TypeId} {pos:String} {af:Array Edge} {g:Option (Nat×Bool)} (ht:P.underlying t=some (.slice e)) (hi:P.info? e=some info)
 (hx:ev L x=some (.slice A n c)) (hy:ev L y=some (.int .i64 k)) (h0:0≤k) (hk:k.toNat≤c):RV P L ⟨d, .slice t x none (some y) none,ty,pos,af,g⟩ w (.slice A k.toNat c) w:=Qahd ht hi hx (by rw[hy,Int.toNat_of_nonneg h0]) hk
theorem Qavg {x y:Operand} {A:Option Addr} {n c t e s:Nat} {k:Int} {w:World} {info:TypeInfo} {d:Option Nat} {ty:TypeId} {pos:String} {af:Array Edge} {g:Option (Nat×Bool)} (ht:P.underlying t=some (.slice e)) (hi:P.info? e=some info) (hs:info.size=s)
 (hx:ev L x=some (.slice A n c)) (hy:ev L y=some (.int .i64 k)) (h0:0≤k) (hk:k.toNat≤n):RV P L ⟨d, .slice t x (some y) none none,ty,pos,af,g⟩ w (.slice (Qpm A c k.toNat s) (n-k.toNat) (c-k.toNat)) w:=Qavf ht hi hs hx (by rw[hy,Int.toNat_of_nonneg h0]) hk
theorem Qajv {α:Type} {T:Ty α} {e:TypeId} {cd:Code} {A:Option Addr} {n c i:Nat} {xs:List α} (hi:is[i]?=some (Qh (tSl T e) [.slice A n c] xs)) (h:n≤c→CM P N B w0 cd Q L is):CM P N B w0 cd Q L is:=fun w hm=>h (Qagm (hm.rdSI hi)) w hm
end
/-! ### Bytes,and operations on bits -/
def tU8:Ty Int:=Qaix (fun v n=>v= .int .u8 n) (by rintro _ _ rfl;rfl)
theorem Qagp {B:Nat} {w:World} {xs:List Int} {a:Addr} (h:∀ j x,xs[j]?=some x→∃ c',tU8.rd w B c' x∧∀ o u,c'[o]?=some u→w.cell? ((a.add (j*tU8.sz)).add o)=some u):
 ∀ j,j<xs.length→w.cell? (a.add (j*1))=some (.int .u8 (gt xs j)):=fun j hj=>by
 obtain⟨c',⟨_,rfl,rfl⟩,hc⟩:=h j _ (Qch hj);exact hc 0 _ rfl
section
variable {P:Program} {L:List (Nat×Value)} {w:World} {d:Option Nat} {ty:TypeId} {pos:String} {af:Array Edge} {g:Option (Nat×Bool)}
theorem Qagy {x:Operand} {p:Int} {t t2:TypeId} (h1:P.underlying t=some (.int .u8)) (h2:P.underlying t2=some (.int .i64)) (hx:ev L x=some (.int .u8 p)):
 RV P L ⟨d, .convert t t2 x,ty,pos,af,g⟩ w (.int .i64 (IntKind.i64.wrap p)) w:=fun N a ha=>by
 have e0:=ha.eval hx;generalize a.eval=ρ at e0 ⊢;simp[execOp,e0,convert,run_underlying h1,run_underlying h2,Conv.intToInt]
theorem Qzw {x y:Operand} {p q:Int} {t t2:TypeId} (hx:ev L x=some (.int .i64 p)) (hy:ev L y=some (.int .i64 q)):RV P L ⟨d, .binOp .and t x y t2,ty,pos,af,g⟩ w (.int .i64 (bits .and .i64 p q)) w:=fun N a ha=>by
 have e0:=ha.eval hx;have e1:=ha.eval hy;generalize a.eval=ρ at e0 e1 ⊢;simp[execOp,e0,e1,go_sem]
theorem Qavh {x y:Operand} {p q:Int} {t t2:TypeId} (hx:ev L x=some (.int .i64 p)) (hy:ev L y=some (.int .i64 q)):RV P L ⟨d, .binOp .xor t x y t2,ty,pos,af,g⟩ w (.int .i64 (bits .xor .i64 p q)) w:=fun N a ha=>by
 have e0:=ha.eval hx;have e1:=ha.eval hy;generalize a.eval=ρ at e0 e1 ⊢;simp[execOp,e0,e1,go_sem]
theorem Qahc {x y:Operand} {k:IntKind} {p q:Int} {t t2:TypeId} (h0:0≤q) (h1:q≤64) (hx:ev L x=some (.int .i64 p)) (hy:ev L y=some (.int k q)):RV P L ⟨d, .binOp .shr t x y t2,ty,pos,af,g⟩ w (.int .i64 (p / 2 ^ q.toNat)) w:=fun N a ha=>by
 have e0:=ha.eval hx;have e1:=ha.eval hy;generalize a.eval=ρ at e0 e1 ⊢;have h:=shift_shr (k:= .i64) (yk:=k) p q h0 h1;simp[execOp,e0,e1,eqGuard,binOp,h]
end
theorem Qadn (x:Int):0≤bits .and .i64 x 255∧bits .and .i64 x 255≤255:=by
 have h:((BitVec.ofInt 64 x &&& BitVec.ofInt 64 255).toNat)≤255:=by
  rw[BitVec.toNat_and];exact Nat.le_trans Nat.and_le_right (by decide)
 have e:bits .and .i64 x 255=IntKind.i64.wrap ((BitVec.ofInt 64 x &&& BitVec.ofInt 64 255).toNat:Nat):=rfl;rw[e,Qdp (by omega) (by omega)];omega
/-! ### Values that have been copied out of lists that may be gone: what they hold in numbers is known -/
section
variable {α:Type}
def tSh (T:Ty α):Ty α where
 sz:=T.sz
 rd:=fun _ _ cs x=>∃ w B,T.rd w B cs x
 own:=fun _ L cs x=>L=[]∧∃ w B,T.rd w B cs x
 rd_len:=fun⟨_,_,h⟩=>T.rd_len h
 rd_one:=fun⟨_,_,h⟩=>T.rd_one h
 rd_keep:=fun h _=>h
 rd_mono:=fun h _=>h
 own_keep:=fun h _=>h
 own_lt:=by rintro _ _ _ _ ⟨rfl,_⟩ b hb;cases hb
 own_rd:=fun h _=>h.2
theorem Qbaf {T:Ty α} {w:World} {L:List Nat} {cs:List Value} {x:α} (h:(tSh T).own w L cs x):∃ g:World×Nat,T.rd g.1 g.2 cs x∧Sep [] w L:=by
 obtain⟨h1,w',B',h2⟩:=h;exact⟨(w',B'),h2,h1⟩
theorem Qays {E:Ty α} {B:Nat} {w0 w:World} {is:List It} {u:Value} {ys:List α} (hm:Mem B w0 is w) (h:rdS E w0 B u ys):Qrd E (tSh E) w u ys:=⟨w0,B,h,fun _ hA=>hm.cell0 hA,fun _ _ k _=>⟨rfl,w0,B,k⟩⟩
end
/-! ### A list of which the head is cut away,and that still owns the whole -/
end Go.Proofs.YtdlminfjdodjoaaGreat
