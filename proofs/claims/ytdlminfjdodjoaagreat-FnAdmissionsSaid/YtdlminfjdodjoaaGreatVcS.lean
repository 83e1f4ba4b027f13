/-
  The commonest rules under short names;what 'rfl' or 'decide' shows is filled in.
-/
import Derived.Test.YtdlminfjdodjoaaGreatVcI
namespace Go.Proofs.YtdlminfjdodjoaaGreat
set_option linter.unusedVariables false
set_option linter.unusedSimpArgs false
open Go.RowKit
section
variable {P:Program} {N B:Nat} {w0:World} {Q:Exit->Act->World->Prop} {L:List (Nat×Value)} {is:List It} {ops:Array Oper} {rest:List Oper} {d:Nat} {v:Value} {ty:TypeId} {pos:String} {af:Array Edge} {gd:Option (Nat×Bool)}
theorem wv {o:Oper} (hr:∀ w,Mem B w0 is w->RV P L o w v w) (h:WM P N B w0 ops Q rest ((d,v)::L) is) (hg:o.guard=none:=by rfl) (hd:o.dst=some d:=by rfl) (hN:d<N:=by decide):WM P N B w0 ops Q (o::rest) L is:=sv hr (Qf hg) hd hN h
theorem qv {o:Oper} (hr:∀ w,Mem B w0 is w->RV P L o w v w) (h:QR P N B w0 ops Q rest ((d,v)::L) is) (hg:o.guard=none:=by rfl) (hd:o.dst=some d:=by rfl) (hN:d<N:=by decide):QR P N B w0 ops Q (o::rest) L is:=Kz hr (Qf hg) hd hN h
theorem wm {x:Operand} (h:WM P N B w0 ops Q rest ((d,v)::L) is) (hx:ev L x=some v:=by rfl) (hN:d<N:=by decide):WM P N B w0 ops Q (⟨some d, .move x,ty,pos,af,none⟩::rest) L is:=sv (fun _ _=>wy hx) (Qf rfl) rfl hN h
theorem wa {x:Operand} (h:WM P N B w0 ops Q rest ((d,v)::L) is) (hx:ev L x=some v:=by rfl) (hN:d<N:=by decide):WM P N B w0 ops Q (⟨some d, .assign x,ty,pos,af,none⟩::rest) L is:=sv (fun _ _=>np hx) (Qf rfl) rfl hN h
theorem qm {x:Operand} (h:QR P N B w0 ops Q rest ((d,v)::L) is) (hx:ev L x=some v:=by rfl) (hN:d<N:=by decide):QR P N B w0 ops Q (⟨some d, .move x,ty,pos,af,none⟩::rest) L is:=Kz (fun _ _=>wy hx) (Qf rfl) rfl hN h
theorem wg {o:Oper} {j:Nat} {want:Bool} {d':Nat} {b c:Bool} (hr:∀ w,Mem B w0 is w->RV P L o w v w) (hb:b=c) (h:WM P N B w0 ops Q rest ((d,v)::L) is) (hg:o.guard=some (j,want):=by rfl) (hj:(ops[j]?).bind (·.dst)=some d':=by rfl) (hk:lk L d'=some (.bool b):=by rfl) (hc:(c==want)=true:=by rfl) (hd:o.dst=some d:=by rfl) (hN:d<N:=by decide):WM P N B w0 ops Q (o::rest) L is:=sv hr (az hg hj hk (bw hb hc)) hd hN h
theorem qg {o:Oper} {j:Nat} {want:Bool} {d':Nat} {b c:Bool} (hr:∀ w,Mem B w0 is w->RV P L o w v w) (hb:b=c) (h:QR P N B w0 ops Q rest ((d,v)::L) is) (hg:o.guard=some (j,want):=by rfl) (hj:(ops[j]?).bind (·.dst)=some d':=by rfl) (hk:lk L d'=some (.bool b):=by rfl) (hc:(c==want)=true:=by rfl) (hd:o.dst=some d:=by rfl) (hN:d<N:=by decide):QR P N B w0 ops Q (o::rest) L is:=Kz hr (az hg hj hk (bw hb hc)) hd hN h
theorem ws {o:Oper} {j:Nat} {want:Bool} {d':Nat} {b c:Bool} (hb:b=c) (h:WM P N B w0 ops Q rest ((d,undef)::L) is) (hg:o.guard=some (j,want):=by rfl) (hj:(ops[j]?).bind (·.dst)=some d':=by rfl) (hk:lk L d'=some (.bool b):=by rfl) (hc:(c==want)=false:=by rfl) (hd:o.dst=some d:=by rfl) (hN:d<N:=by decide):WM P N B w0 ops Q (o::rest) L is:=Ln (az hg hj hk (bw hb hc)) hd hN h
theorem qs {o:Oper} {j:Nat} {want:Bool} {d':Nat} {b c:Bool} (hb:b=c) (h:QR P N B w0 ops Q rest ((d,undef)::L) is) (hg:o.guard=some (j,want):=by rfl) (hj:(ops[j]?).bind (·.dst)=some d':=by rfl) (hk:lk L d'=some (.bool b):=by rfl) (hc:(c==want)=false:=by rfl) (hd:o.dst=some d:=by rfl) (hN:d<N:=by decide):QR P N B w0 ops Q (o::rest) L is:=dg (az hg hj hk (bw hb hc)) hd hN h
theorem wu {o:Oper} {j:Nat} {want:Bool} {d':Nat} (h:WM P N B w0 ops Q rest ((d,undef)::L) is) (hg:o.guard=some (j,want):=by rfl) (hj:(ops[j]?).bind (·.dst)=some d':=by rfl) (hk:lk L d'=some undef:=by rfl) (hd:o.dst=some d:=by rfl) (hN:d<N:=by decide):WM P N B w0 ops Q (o::rest) L is:=Ln (eW hg hj hk) hd hN h
theorem qu {o:Oper} {j:Nat} {want:Bool} {d':Nat} (h:QR P N B w0 ops Q rest ((d,undef)::L) is) (hg:o.guard=some (j,want):=by rfl) (hj:(ops[j]?).bind (·.dst)=some d':=by rfl) (hk:lk L d'=some undef:=by rfl) (hd:o.dst=some d:=by rfl) (hN:d<N:=by decide):QR P N B w0 ops Q (o::rest) L is:=dg (eW hg hj hk) hd hN h
theorem sr {id:Nat} {l:List Oper} {y:Code} (h:WM P N B w0 l.toArray (Exit.then (y.wp P Q) Q) l L is):CM P N B w0 (.seq (.region id l.toArray false) y) Q L is:=Qi (ao h)
theorem aa {y:Code} {Q':Exit->Act->World->Prop} (h:CM P N B w0 y Q' L is):WM P N B w0 ops (Exit.then (y.wp P Q') Q) [] L is:=bb (Qj h)
theorem fy {y:Code} {Q':Exit->Act->World->Prop} (h:CM P N B w0 y Q' L is):QR P N B w0 ops (Exit.then (y.wp P Q') Q) [] L is:=Ky (Qj h)
end
/-- A row of marks as a number. -/
def Oa:Nat->Nat->List Bool
 |0,_=>[]
 |n+1,m=>(m % 2==1)::Oa n (m / 2)
def bm (n m:Nat):Array Bool:=(Oa n m).toArray
section
variable {P:Program} {N B:Nat} {w0:World} {Q:Exit->Act->World->Prop} {L:List (Nat×Value)} {is js s:List It} {ops:Array Oper} {rest:List Oper} {d fuel:Nat} {v:Value} {listed:Array Bool} {o:Oper}
theorem qt (n i m:Nat) (hi:ops[i]?=some o) (hv:∀ w,Mem B w0 s w->RV P L o w v w) (h:QB P N B w0 ops Q fuel (bm n m) ((d,v)::L) s is) (hl:listed.setIfInBounds i true=bm n m:=by kernel_rfl) (b:Region.noSelect ops=true:=by kernel_rfl) (hf:Region.free .any ops listed i=true:=by kernel_rfl)
 (hr:(Region.ready .any ops listed).contains i=true:=by kernel_rfl) (hQ:∀ c a w,Q (.panic c) (a.put (some d) v) w->Q (.panic c) a w:=by exact fun _ _ _ h=>h) (hg:o.guard=none:=by rfl) (hd:o.dst=some d:=by rfl) (hN:d<N:=by decide):QB P N B w0 ops Q (fuel+1) listed L s is:=
 vH i hl hi b hf hr hQ hv (Qf hg) hd hN h
theorem qo (n i m:Nat) (hi:ops[i]?=some o) (h:WM P N B w0 ops (Exit.then (fun a w=>Mem B w0 s w∧wpAnyH P .any ops Q (fun w=>Mem B w0 s w) fuel (bm n m) a w) Q) [o] L is) (hl:listed.setIfInBounds i true=bm n m:=by kernel_rfl) (hr:Region.ready .any ops listed=[i]:=by kernel_rfl):QB P N B w0 ops Q (fuel+1) listed L s is:=vG i hl hi hr h
theorem qc (n m:Nat) {i:Nat} {rs:List Nat} (hi:ops[i]?=some o) (h:WM P N B w0 ops (Exit.then (fun a w=>Mem B w0 s w∧wpAnyH P .any ops Q (fun w=>Mem B w0 s w) fuel (bm n m) a w) Q) [o] L is) (b:vj P N B w0 ops Q fuel listed L s is rs) (hl:listed.setIfInBounds i true=bm n m:=by kernel_rfl):vj P N B w0 ops Q fuel listed L s is (i::rs):=dV hl hi h b
theorem rb {id:Nat} {l:List Oper} (n:Nat) (a:∀ w,Mem B w0 is w->Mem B w0 s w) (h:QB P N B w0 l.toArray Q n (bm n 0) L s is) (b:P.follows .mixedOrders=true:=by kernel_rfl) (hn:l.length=n:=by rfl) (hl:Array.replicate n false=bm n 0:=by kernel_rfl):CM P N B w0 (.region id l.toArray true) Q L is:=tP b hn hl a h
theorem qa (rs:List Nat) (h:vj P N B w0 ops Q fuel listed L s is rs) (hr:Region.ready .any ops listed=rs:=by kernel_rfl) (hne:rs≠[]:=by decide):QB P N B w0 ops Q (fuel+1) listed L s is:=dU rs hr hne h
theorem qn (b:∀ w,Mem B w0 js w->Mem B w0 s w) (h:QB P N B w0 ops Q fuel listed L s js):WM P N B w0 ops (Exit.then (fun a w=>Mem B w0 s w∧wpAnyH P .any ops Q (fun w=>Mem B w0 s w) fuel listed a w) Q) [] L js:=bb (vF b h)
theorem wk (h:WM P N B w0 ops Q rest ((d,undef)::L) is) {j:Nat} {want:Bool} {d':Nat} {b:Bool} (hg:o.guard=some (j,want):=by rfl) (hj:(ops[j]?).bind (·.dst)=some d':=by rfl) (hk:lk L d'=some (.bool b):=by rfl) (hc:(b==want)=false:=by rfl) (hd:o.dst=some d:=by rfl) (hN:d<N:=by decide):WM P N B w0 ops Q (o::rest) L is:=Ln (az hg hj hk hc) hd hN h
end
section
variable {P:Program} {B:Nat} {w0:World} {L:List (Nat×Value)} {is:List It} {d:Option Nat} {ty:TypeId} {pos:String} {af:Array Edge} {g:Option (Nat×Bool)}
theorem ai:∀ w,Mem B w0 is w->Mem B w0 is w:=fun _ h=>h
theorem pn (n:Nat) (ns:List Nat) (hn:ns.Nodup:=by decide):∀ w,Mem B w0 is w->Mem B w0 (rq (is.take n) ns++is.drop n) w:=fun _ h=>h.pickN n ns hn
theorem pk (ns:List Nat) (hn:ns.Nodup:=by decide):∀ w,Mem B w0 is w->Mem B w0 (rq is ns) w:=fun _ h=>h.pick ns hn
theorem vf {x:Operand} {A:Addr} {s f o:Nat} {fs:Array Field} {fd:Field} {info:TypeInfo} (b:P.underlying s=some (.struct fs)) (hf:fs[f]?=some fd) (hi:P.info? fd.type=some info) (a:info.size≠0:=by decide) (ho:fd.offset=o:=by rfl) (hx:ev L x=some (.pointer (some A)):=by rfl):
 ∀ w,Mem B w0 is w->RV P L ⟨d, .fieldAddr s x f,ty,pos,af,g⟩ w (.pointer (some (A.add o))) w:=fun _ _=>jE b hf hi a ho hx
theorem vl (n o:Nat) {x:Operand} {p e:Nat} {cs:List Value} {t:TypeId} {td:TypeDesc} {u:Value} (ht:P.underlying t=some td) (hn:is[n]?=some (Qa p e cs):=by rfl) (hu:cs[o]?=some u:=by rfl) (hx:ev L x=some (.pointer (some ((⟨p,0,none⟩:Addr).add o))):=by rfl)
 (hag:(match td with| .struct _| .array _ _=>true|_=>false)=false:=by rfl):∀ w,Mem B w0 is w->RV P L ⟨d, .load t x,ty,pos,af,g⟩ w u w:=fun _ a=>ci ht hag hx (a.boxCell hn hu)
theorem df {x y:Operand} {p q:Int} {t a:TypeId} (hx:ev L x=some (.int .i64 p):=by rfl) (hy:ev L y=some (.int .i64 q):=by rfl):∀ w,Mem B w0 is w->RV P L ⟨d, .binOp .lss t x y a,ty,pos,af,g⟩ w (.bool (decide (p<q))) w:=fun _ _=>Fw hx hy
theorem iz {x y:Operand} {p q:Int} {t a:TypeId} (hx:ev L x=some (.int .i64 p):=by rfl) (hy:ev L y=some (.int .i64 q):=by rfl):∀ w,Mem B w0 is w->RV P L ⟨d, .binOp .neq t x y a,ty,pos,af,g⟩ w (.bool (p !=q)) w:=fun _ _=>Fx hx hy
theorem lc {x y:Operand} {p q:Int} {t a:TypeId} (hx:ev L x=some (.int .i64 p):=by rfl) (hy:ev L y=some (.int .i64 q):=by rfl):∀ w,Mem B w0 is w->RV P L ⟨d, .binOp .add t x y a,ty,pos,af,g⟩ w (.int .i64 (IntKind.i64.wrap (p+q))) w:=fun _ _=>jB hx hy
theorem cb (p q:Nat) (h:p+q<=9223372036854775807) {x y:Operand} {t a:TypeId} (hx:ev L x=some (.int .i64 (p:Int)):=by rfl) (hy:ev L y=some (.int .i64 (q:Int)):=by rfl):∀ w,Mem B w0 is w->RV P L ⟨d, .binOp .add t x y a,ty,pos,af,g⟩ w (.int .i64 ((p+q:Nat):Int)) w:=fun _ _=>jC hx hy h
theorem dm {x:Operand} {b:Bool} {t:TypeId} (hx:ev L x=some (.bool b):=by rfl):∀ w,Mem B w0 is w->RV P L ⟨d, .unOp .not t x,ty,pos,af,g⟩ w (.bool !b) w:=fun _ _=>Fy hx
theorem ap {x:Operand} {v:Value} (hx:ev L x=some v:=by rfl):∀ w,Mem B w0 is w->RV P L ⟨d, .move x,ty,pos,af,g⟩ w v w:=fun _ _=>wy hx
theorem bh {x:Operand} {A:Option Addr} {n c:Nat} {t e:TypeId} (ht:P.underlying t=some (.slice e)) (hx:ev L x=some (.slice A n c):=by rfl):∀ w,Mem B w0 is w->RV P L ⟨d, .call ⟨.builtin .len,#[x],#[t]⟩,ty,pos,af,g⟩ w (.int .i64 n) w:=fun _ _=>Fv ht hx
theorem bv (sz k:Nat) {x i:Operand} {A:Addr} {n c:Nat} {t e:Nat} {info:TypeInfo} (ht:P.underlying t=some (.slice e)) (he:P.info? e=some info) (hx:ev L x=some (.slice (some A) n c):=by rfl) (hsz:info.size=sz:=by rfl) (hi:ev L i=some (.int .i64 (k:Int)):=by rfl) (hk:k<n:=by omega):
 ∀ w,Mem B w0 is w->RV P L ⟨d, .indexAddr t x i,ty,pos,af,g⟩ w (.pointer (some (A.add (k*sz)))) w:=fun _ _=>qf ht he hsz hx hi hk
theorem am {c x y:Operand} {v:Value} {b:Bool} (hb:b=true) (hc:ev L c=some (.bool b):=by rfl) (hx:ev L x=some v:=by rfl):∀ w,Mem B w0 is w->RV P L ⟨d, .pick c x y,ty,pos,af,g⟩ w v w:=fun _ _=>Ga hc hb hx
theorem ak {c x y:Operand} {v:Value} {b:Bool} (hb:b=false) (hc:ev L c=some (.bool b):=by rfl) (hy:ev L y=some v:=by rfl):∀ w,Mem B w0 is w->RV P L ⟨d, .pick c x y,ty,pos,af,g⟩ w v w:=fun _ _=>Fz hc hb hy
end
section
variable {P:Program} {N B:Nat} {w0:World} {L:List (Nat×Value)} {is:List It} {fn:Func} {t:Nat}
theorem aj {a b:Bool} (hr:fn.results= #[.tmp t]:=by rfl) (hv:lk L t=some (.bool a):=by rfl) (h:b=a):QM N B w0 (bodyPost P fn (fun e w'=>e= .returned (.bool b)∧Below B w0 w')) .ret L is:=dW hr hv fun _ c=>⟨Fb h,c.below⟩
theorem aP {a b:Int} (hr:fn.results= #[.tmp t]:=by rfl) (hv:lk L t=some (.int .i64 a):=by rfl) (h:b=a):QM N B w0 (bodyPost P fn (fun e w'=>e= .returned (.int .i64 b)∧Below B w0 w')) .ret L is:=dW hr hv fun _ c=>⟨Fc h,c.below⟩
end
section
variable {P:Program} {N B:Nat} {w0:World} {Q:Exit->Act->World->Prop} {L:List (Nat×Value)} {is js:List It} {ops:Array Oper} {rest:List Oper}
theorem sb (o:Nat) (cs':List Value) (js:List It) {x y:Operand} {p:Nat} {e t:TypeId} {cs:List Value} {v:Value} {info:TypeInfo} {ty:TypeId} {pos:String} {af:Array Edge}
 (hmv:∀ w,Mem B w0 is w->Mem B w0 (Qa p e cs::js) w) (hi:P.info? t=some info) (h:WM P N B w0 ops Q rest L (Qa p e cs'::js)) (hx:ev L x=some (.pointer (some ((⟨p,0,none⟩:Addr).add o))):=by rfl) (hy:ev L y=some v:=by rfl)
 (he:cs.take o++v.cells.toList++cs.drop (o+v.cells.size)=cs':=by rfl) (hz:info.size=v.cells.size:=by rfl) (hl:o+v.cells.size<=cs.length:=by exact Nat.le_of_ble_eq_true rfl) (a:v.cells.toList.all Value.oneCell'=true:=by rfl):WM P N B w0 ops Q (⟨none, .store t x y,ty,pos,af,none⟩::rest) L is:=
 eu hmv hi hz hl a hx hy he (Qf rfl) h
end
theorem jd {L:List (Nat×Value)} {a b:Nat} {c d:Value} (e:lk L a=some c:=by rfl) (f:lk L b=some d:=by rfl):mc [(a,c),(b,d)] L:=(fc e (fc f nd))
theorem gi {L:List (Nat×Value)} {a b k2:Nat} {c d e:Value} (f:lk L a=some c:=by rfl) (g:lk L b=some d:=by rfl) (h:lk L k2=some e:=by rfl):mc [(a,c),(b,d),(k2,e)] L:=(fc f (fc g (fc h nd)))
theorem eo {L:List (Nat×Value)} {a b k2 c:Nat} {d e f g:Value} (h:lk L a=some d:=by rfl) (i:lk L b=some e:=by rfl) (j:lk L k2=some f:=by rfl) (k:lk L c=some g:=by rfl):mc [(a,d),(b,e),(k2,f),(c,g)] L:=(fc h (fc i (fc j (fc k nd))))
theorem mm {L:List (Nat×Value)} {a b k2 c d:Nat} {e f g h i:Value} (j:lk L a=some e:=by rfl) (k:lk L b=some f:=by rfl) (l:lk L k2=some g:=by rfl) (m:lk L c=some h:=by rfl) (n:lk L d=some i:=by rfl):mc [(a,e),(b,f),(k2,g),(c,h),(d,i)] L:=(fc j (fc k (fc l (fc m (fc n nd)))))
theorem li {L:List (Nat×Value)} {a b k2 c d e:Nat} {f g h i j k:Value} (l:lk L a=some f:=by rfl) (m:lk L b=some g:=by rfl) (n:lk L k2=some h:=by rfl) (o:lk L c=some i:=by rfl) (p:lk L d=some j:=by rfl) (r:lk L e=some k:=by rfl):mc [(a,f),(b,g),(k2,h),(c,i),(d,j),(e,k)] L:=(fc l (fc m (fc n (fc o (fc p (fc r nd))))))
theorem lq {L:List (Nat×Value)} {a b k2 c d e f:Nat} {g h i j k l m:Value} (n:lk L a=some g:=by rfl) (o:lk L b=some h:=by rfl) (p:lk L k2=some i:=by rfl) (r:lk L c=some j:=by rfl) (s:lk L d=some k:=by rfl) (t:lk L e=some l:=by rfl) (u:lk L f=some m:=by rfl):mc [(a,g),(b,h),(k2,i),(c,j),(d,k),(e,l),(f,m)] L:=(fc n (fc o (fc p (fc r (fc s (fc t (fc u nd)))))))
theorem mf {L:List (Nat×Value)} {a b k2 c d e f g:Nat} {h i j k l m n o:Value} (p:lk L a=some h:=by rfl) (r:lk L b=some i:=by rfl) (s:lk L k2=some j:=by rfl) (t:lk L c=some k:=by rfl) (u:lk L d=some l:=by rfl) (v:lk L e=some m:=by rfl) (w:lk L f=some n:=by rfl) (x:lk L g=some o:=by rfl):mc [(a,h),(b,i),(k2,j),(c,k),(d,l),(e,m),(f,n),(g,o)] L:=(fc p (fc r (fc s (fc t (fc u (fc v (fc w (fc x nd))))))))
theorem pv {L:List (Nat×Value)} {a b k2 c d e f g h:Nat} {i j k l m n o p r:Value} (s:lk L a=some i:=by rfl) (t:lk L b=some j:=by rfl) (u:lk L k2=some k:=by rfl) (v:lk L c=some l:=by rfl) (w:lk L d=some m:=by rfl) (x:lk L e=some n:=by rfl) (y:lk L f=some o:=by rfl) (z:lk L g=some p:=by rfl) (A:lk L h=some r:=by rfl):mc [(a,i),(b,j),(k2,k),(c,l),(d,m),(e,n),(f,o),(g,p),(h,r)] L:=(fc s (fc t (fc u (fc v (fc w (fc x (fc y (fc z (fc A nd)))))))))
theorem aQ {L:List (Nat×Value)} {d e k2 f g h i j k l a:Nat} {m n o p r s t u v w b:Value} (x:lk L d=some m:=by rfl) (y:lk L e=some n:=by rfl) (z:lk L k2=some o:=by rfl) (A:lk L f=some p:=by rfl) (B:lk L g=some r:=by rfl) (C:lk L h=some s:=by rfl) (D:lk L i=some t:=by rfl) (E:lk L j=some u:=by rfl) (F:lk L k=some v:=by rfl) (G:lk L l=some w:=by rfl) (c:lk L a=some b:=by rfl):mc [(d,m),(e,n),(k2,o),(f,p),(g,r),(h,s),(i,t),(j,u),(k,v),(l,w),(a,b)] L:=(fc x (fc y (fc z (fc A (fc B (fc C (fc D (fc E (fc F (fc G (fc c nd)))))))))))
theorem tz {L:List (Nat×Value)} {i j k2 k l m n o p r a b:Nat} {s t u v w x y z A C c e:Value} (D:lk L i=some s:=by rfl) (E:lk L j=some t:=by rfl) (F:lk L k2=some u:=by rfl) (G:lk L k=some v:=by rfl) (H:lk L l=some w:=by rfl) (I:lk L m=some x:=by rfl) (J:lk L n=some y:=by rfl) (K:lk L o=some z:=by rfl) (M:lk L p=some A:=by rfl) (O:lk L r=some C:=by rfl) (g:lk L a=some c:=by rfl) (h:lk L b=some e:=by rfl):mc [(i,s),(j,t),(k2,u),(k,v),(l,w),(m,x),(n,y),(o,z),(p,A),(r,C),(a,c),(b,e)] L:=(fc D (fc E (fc F (fc G (fc H (fc I (fc J (fc K (fc M (fc O (fc g (fc h nd))))))))))))
section
variable {P:Program} {N B:Nat} {w0:World} {Q:Exit->Act->World->Prop} {L:List (Nat×Value)} {is:List It} {ops:Array Oper} {rest:List Oper} {f:FuncId} {fo:Callee} {xs:Array Operand} {args:Array Value} {d:Nat} {ts:Array TypeId} {ty:TypeId} {pos:String} {af:Array Edge}
theorem io {α:Type} (T:Ty α) (D:α) (hcl:Cl P L fo xs f args) (hc:∀ w,Mem B w0 is w->Calls P f args w fun e w'=>∃ x:List Value,e= .returned (.agg x.toArray)∧Mem w.heap.size w [Qg T x D] w') (h:∀ x:List Value,WM P N B w0 ops Q rest ((d, .agg x.toArray)::L) (Qg T x D::is)) (hN:d<N:=by decide):WM P N B w0 ops Q (⟨some d, .call ⟨fo,xs,ts⟩,ty,pos,af,none⟩::rest) L is:=
 iv (χ:=List Value) (val:=fun x=> .agg x.toArray) (js:=fun x=>[Qg T x D]) hcl hc (Qf rfl) hN h
theorem lg {α:Type} (T:Ty α) (D:α) (hcl:Cl P L fo xs f args) (hc:∀ w,Mem B w0 is w->Calls P f args w fun e w'=>∃ x:Value,e= .returned x∧Mem w.heap.size w [Qg T [x] D] w') (h:∀ x:Value,WM P N B w0 ops Q rest ((d,x)::L) (Qg T [x] D::is)) (hN:d<N:=by decide):WM P N B w0 ops Q (⟨some d, .call ⟨fo,xs,ts⟩,ty,pos,af,none⟩::rest) L is:=
 iv (χ:=Value) (val:=fun x=>x) (js:=fun x=>[Qg T [x] D]) hcl hc (Qf rfl) hN h
theorem fk {v:Value} (hcl:Cl P L fo xs f args) (hc:∀ w,Mem B w0 is w->Calls P f args w fun e w'=>e= .returned v∧Below w.heap.size w w') (h:WM P N B w0 ops Q rest ((d,v)::L) is) (hN:d<N:=by decide):WM P N B w0 ops Q (⟨some d, .call ⟨fo,xs,ts⟩,ty,pos,af,none⟩::rest) L is:=ep hcl hc (Qf rfl) hN h
end
section
variable {P:Program} {N:Nat} {L:List (Nat×Value)} {f:FuncId} {fn:Func} {c:Code} {args:Array Value} {w:World} {R:Ending->World->Prop}
theorem Ok (hf:P.funcs[f]?=some fn) (h:CM P N w.heap.size w c (bodyPost P fn R) L []) (hb:fn.body=some c:=by rfl) (hN:fn.ntmps=N:=by rfl) (a:args.size<=N:=by exact Nat.le_of_ble_eq_true rfl) (hL:∀ k v,lk L k=some v->args[k]?=some v:=by exact mi):Calls P f args w R:=mG hf hb hN a hL h
theorem gb (hf:P.funcs[f]?=some fn) (h:CM P N w.heap.size w c (bodyPost P fn R) L []) (hb:fn.body=some c:=by rfl) (hN:fn.ntmps=N:=by rfl) (a:args.size<=N:=by exact Nat.le_of_ble_eq_true rfl) (hL:∀ k v,lk L k=some v->args[k]?=some v:=by exact jl rfl mi):Calls P f args w R:=mG hf hb hN a hL h
theorem ji (hf:P.funcs[f]?=some fn) (h:CM P N w.heap.size w c (bodyPost P fn R) L []) (hb:fn.body=some c:=by rfl) (hN:fn.ntmps=N:=by rfl) (a:args.size<=N:=by exact Nat.le_of_ble_eq_true rfl) (hL:∀ k v,lk L k=some v->args[k]?=some v:=by exact jl rfl (jl rfl mi)):Calls P f args w R:=mG hf hb hN a hL h
theorem aO (hf:P.funcs[f]?=some fn) (h:CM P N w.heap.size w c (bodyPost P fn R) L []) (hb:fn.body=some c:=by rfl) (hN:fn.ntmps=N:=by rfl) (a:args.size<=N:=by exact Nat.le_of_ble_eq_true rfl) (hL:∀ k v,lk L k=some v->args[k]?=some v:=by exact jl rfl (jl rfl (jl rfl mi))):Calls P f args w R:=mG hf hb hN a hL h
theorem Ol (hf:P.funcs[f]?=some fn) (h:CM P N w.heap.size w c (bodyPost P fn R) L []) (hb:fn.body=some c:=by rfl) (hN:fn.ntmps=N:=by rfl) (a:args.size<=N:=by exact Nat.le_of_ble_eq_true rfl) (hL:∀ k v,lk L k=some v->args[k]?=some v:=by exact jl rfl (jl rfl (jl rfl (jl rfl mi)))):Calls P f args w R:=mG hf hb hN a hL h
end
section
variable {α:Type} {E:Ty α} {e:TypeId} {P:Program} {N B:Nat} {w0:World} {Q:Exit->Act->World->Prop} {L:List (Nat×Value)} {is:List It} {ops:Array Oper} {rest:List Oper}
theorem sf (o s:Nat) (ck':List Value) (js:List It) {x y:Operand} {g n c k:Nat} {t:TypeId} {xs:List α} {ck:List Value} {v:Value} {A:Addr} {info:TypeInfo} {ty:TypeId} {pos:String} {af:Array Edge}
 (hmv:∀ w,Mem B w0 is w->Mem B w0 (ey E e (some ⟨g,0,none⟩) n c xs k ck::js) w) (hi:P.info? t=some info) (h:WM P N B w0 ops Q rest L (ey E e (some ⟨g,0,none⟩) n c xs k ck'::js)) (hx:ev L x=some (.pointer (some A)):=by rfl) (hy:ev L y=some v:=by rfl)
 (hA:A=(((⟨g,0,none⟩:Addr).add (k*s)).add o):=by first|rfl|exact(oB _).symm) (b:E.sz=s:=by rfl) (he:ck.take o++v.cells.toList++ck.drop (o+v.cells.size)=ck':=by rfl) (hz:info.size=v.cells.size:=by rfl) (hl:o+v.cells.size<=ck.length:=by exact Nat.le_of_ble_eq_true rfl) (a:v.cells.toList.all Value.oneCell'=true:=by rfl):
 WM P N B w0 ops Q (⟨none, .store t x y,ty,pos,af,none⟩::rest) L is:=wY hmv b hA hi hz hl a hx hy he (Qf rfl) h
end
section
variable {α:Type} {T:Ty α} {P:Program} {N B:Nat} {w0:World} {Q:Exit->Act->World->Prop} {L:List (Nat×Value)} {is js:List It} {ops:Array Oper} {rest:List Oper} {f:FuncId} {fo:Callee} {xs:Array Operand} {args:Array Value} {d:Nat} {ts:Array TypeId} {ty:TypeId} {pos:String} {af:Array Edge}
end
/-- Where the elements of a slice lie,if it has any. -/
def Od {α:Type} (E:Ty α) (w:World) (B:Nat) (A:Option Addr) (c:Nat) (xs:List α):Prop:=0<xs.length->∃ a,A=some a∧(a.block<B∧xs.length<=c)∧∀ j x,xs[j]?=some x->∃ c',E.rd w B c' x∧∀ o u,c'[o]?=some u->w.cell? ((a.add (j*E.sz)).add o)=some u
theorem Qn {α:Type} {E:Ty α} {w:World} {B:Nat} {v:Value} {xs:List α} (h:ce E w B v xs):xs.length<=9223372036854775807∧∃ A c,v= .slice A xs.length c∧Od E w B A c xs∧ce E w B (.slice A xs.length c) xs:=by
 have h':=h;obtain⟨m,A,c,rfl,q⟩:=h;exact⟨m,A,c,rfl,q,h'⟩
theorem rl {n k:Nat} (h:k<n:=by omega):n-(k+1)<n-k:=by omega
section
variable {α:Type} {P:Program} {N B:Nat} {w0:World} {Q:Exit->Act->World->Prop} {L:List (Nat×Value)} {is:List It} {ops:Array Oper} {rest:List Oper} {s x:Operand} {d t:Nat} {ty:TypeId} {pos:String} {af:Array Edge} {i:TypeInfo} {z:Value}
theorem oP {a b:Nat} (hp:0<b) (h:a*b<=140737488355328):a<=9223372036854775807:=by
 have:=Nat.le_mul_of_pos_right a hp;omega
theorem fu (F E:Ty α) (e:TypeId) (v:Value) (xs ys:List α) (js:List It) {u:Value} (hmv:∀ w,Mem B w0 is w->Mem B w0 (Qg (ab F e) [v] xs::js) w) (hsrc:∀ w,Mem B w0 is w->mB E F w u ys) (ht:P.underlying t=some (.slice e)) (hi:P.info? e=some i) (hb:(xs.length+ys.length)*i.bytes<=140737488355328)
 (h:∀ v',WM P N B w0 ops Q rest ((d,v')::L) (Qg (ab F e) [v'] (xs++ys)::js)) (hz:i.zero=some z:=by rfl) (hsize:i.size=F.sz:=by rfl) (hzs:z.cells.size=F.sz:=by rfl) (hsz:0<F.sz:=by exact Nat.le_of_ble_eq_true rfl) (hp:0<i.bytes:=by exact Nat.le_of_ble_eq_true rfl)
 (a:ev L s=some v:=by rfl) (hx:ev L x=some u:=by rfl) (hN:d<N:=by decide):WM P N B w0 ops Q (⟨some d, .call ⟨.builtin .append,#[s,x],#[t,t]⟩,ty,pos,af,none⟩::rest) L is:=
 wW (F:=F) (E:=E) hmv hsrc ht hi hz hsize hzs hsz a hx hb (oP hp hb) (Qf rfl) hN h
theorem ga (E:Ty α) (e:TypeId) (v:Value) (xs:List α) (y:α) (eis js:List It) (news:List Value) {p a:Nat} (hmv:∀ w,Mem B w0 is w->Mem B w0 (Qa p a news::Qg (ab E e) [v] xs::(eis++js)) w) (hel:∀ w L,Sep eis w L->Els E w L news [y]) (ht:P.underlying t=some (.slice e)) (hi:P.info? e=some i) (hb:(xs.length+1)*i.bytes<=140737488355328)
 (h:∀ v',WM P N B w0 ops Q rest ((d,v')::L) (Qg (ab E e) [v'] (xs++[y])::js)) (hz:i.zero=some z:=by rfl) (hsize:i.size=E.sz:=by rfl) (hzs:z.cells.size=E.sz:=by rfl) (hsz:0<E.sz:=by exact Nat.le_of_ble_eq_true rfl) (hp:0<i.bytes:=by exact Nat.le_of_ble_eq_true rfl)
 (b:ev L s=some v:=by rfl) (hx:ev L x=some (.slice (some ⟨p,0,none⟩) 1 1):=by rfl) (hN:d<N:=by decide):WM P N B w0 ops Q (⟨some d, .call ⟨.builtin .append,#[s,x],#[t,t]⟩,ty,pos,af,none⟩::rest) L is:=
 aZ (E:=E) (ys:=[y]) hmv hel ht hi hz hsize hzs hsz b hx rfl hb (oP hp hb) (Qf rfl) hN h
end
section
variable {P:Program} {L:List (Nat×Value)} {w:World} {d:Option Nat} {ty:TypeId} {pos:String} {af:Array Edge} {g:Option (Nat×Bool)}
/-- 'x.f' of a struct that is a value. -/
theorem Fu {x:Operand} {vs:Array Value} {s f:Nat} {fs:Array Field} {fd:Field} {td:TypeDesc} {v:Value} (c:P.underlying s=some (.struct fs)) (hf:fs[f]?=some fd) (ht:P.underlying fd.type=some td) (hag:(match td with| .struct _| .array _ _=>true|_=>false)=false) (hx:ev L x=some (.agg vs)) (hv:vs[fd.offset]?=some v):
 RV P L ⟨d, .field s x f,ty,pos,af,g⟩ w v w:=fun N a ha=>by
 have b:=ha.eval hx;generalize a.eval=ρ at b ⊢;cases td <;>simp_all [execOp,Instr.field,run_underlying c,hf,asAgg,part,isAgg,run_underlying ht,hv]
end
theorem fm {α:Type} {P:Program} {N B:Nat} {w0:World} {Q:Exit->Act->World->Prop} {L:List (Nat×Value)} {is:List It} {ops:Array Oper} {l:List Oper} {E:Ty α} {e:TypeId} {v:Value} {xs:List α} (n:Nat) (h:∀ A c,v= .slice A xs.length c->xs.length<=9223372036854775807->WM P N B w0 ops Q l L is) (hi:is[n]?=some (Qg (ab E e) [v] xs):=by rfl):WM P N B w0 ops Q l L is:=wX hi h
end Go.Proofs.YtdlminfjdodjoaaGreat
