/-
  The commonest rules under short names;what 'rfl' or 'decide' shows is filled in.
-/
import Derived.Test.YtdlminfjdodjoaaGreatVcI
namespace Go.Proofs.YtdlminfjdodjoaaGreat
open Go.RowKit
section
variable {P:Program} {N B:Nat} {w0:World} {Q:Exit→Act→World→Prop} {L:List (Nat×Value)} {is:List It} {ops:Array Oper} {rest:List Oper} {d:Nat} {v:Value} {ty:TypeId} {pos:String} {af:Array Edge} {gd:Option (Nat×Bool)}
theorem wv {o:Oper} (hr:∀ w,Mem B w0 is w→RV P L o w v w) (h:WM P N B w0 ops Q rest ((d,v)::L) is) (hg:o.guard=none:=by rfl) (hd:o.dst=some d:=by rfl) (hN:d<N:=by decide):WM P N B w0 ops Q (o::rest) L is:=Qlp hr (Qf hg) hd hN h
theorem qv {o:Oper} (hr:∀ w,Mem B w0 is w→RV P L o w v w) (h:QR P N B w0 ops Q rest ((d,v)::L) is) (hg:o.guard=none:=by rfl) (hd:o.dst=some d:=by rfl) (hN:d<N:=by decide):QR P N B w0 ops Q (o::rest) L is:=Qim hr (Qf hg) hd hN h
theorem wm {x:Operand} (h:WM P N B w0 ops Q rest ((d,v)::L) is) (hx:ev L x=some v:=by rfl) (hN:d<N:=by decide):WM P N B w0 ops Q (⟨some d, .move x,ty,pos,af,none⟩::rest) L is:=Qlp (fun _ _=>Qzx hx) (Qf rfl) rfl hN h
theorem wa {x:Operand} (h:WM P N B w0 ops Q rest ((d,v)::L) is) (hx:ev L x=some v:=by rfl) (hN:d<N:=by decide):WM P N B w0 ops Q (⟨some d, .assign x,ty,pos,af,none⟩::rest) L is:=Qlp (fun _ _=>Qiv hx) (Qf rfl) rfl hN h
theorem qm {x:Operand} (h:QR P N B w0 ops Q rest ((d,v)::L) is) (hx:ev L x=some v:=by rfl) (hN:d<N:=by decide):QR P N B w0 ops Q (⟨some d, .move x,ty,pos,af,none⟩::rest) L is:=Qim (fun _ _=>Qzx hx) (Qf rfl) rfl hN h
theorem wg {o:Oper} {j:Nat} {want:Bool} {d':Nat} {b c:Bool} (hr:∀ w,Mem B w0 is w→RV P L o w v w) (hb:b=c) (h:WM P N B w0 ops Q rest ((d,v)::L) is) (hg:o.guard=some (j,want):=by rfl) (hj:(ops[j]?).bind (·.dst)=some d':=by rfl) (hk:lk L d'=some (.bool b):=by rfl) (hc:(c==want)=true:=by rfl) (hd:o.dst=some d:=by rfl) (hN:d<N:=by decide):WM P N B w0 ops Q (o::rest) L is:=Qlp hr (Qam hg hj hk (bw hb hc)) hd hN h
theorem qg {o:Oper} {j:Nat} {want:Bool} {d':Nat} {b c:Bool} (hr:∀ w,Mem B w0 is w→RV P L o w v w) (hb:b=c) (h:QR P N B w0 ops Q rest ((d,v)::L) is) (hg:o.guard=some (j,want):=by rfl) (hj:(ops[j]?).bind (·.dst)=some d':=by rfl) (hk:lk L d'=some (.bool b):=by rfl) (hc:(c==want)=true:=by rfl) (hd:o.dst=some d:=by rfl) (hN:d<N:=by decide):QR P N B w0 ops Q (o::rest) L is:=Qim hr (Qam hg hj hk (bw hb hc)) hd hN h
theorem ws {o:Oper} {j:Nat} {want:Bool} {d':Nat} {b c:Bool} (hb:b=c) (h:WM P N B w0 ops Q rest ((d,undef)::L) is) (hg:o.guard=some (j,want):=by rfl) (hj:(ops[j]?).bind (·.dst)=some d':=by rfl) (hk:lk L d'=some (.bool b):=by rfl) (hc:(c==want)=false:=by rfl) (hd:o.dst=some d:=by rfl) (hN:d<N:=by decide):WM P N B w0 ops Q (o::rest) L is:=Qxi (Qam hg hj hk (bw hb hc)) hd hN h
theorem qs {o:Oper} {j:Nat} {want:Bool} {d':Nat} {b c:Bool} (hb:b=c) (h:QR P N B w0 ops Q rest ((d,undef)::L) is) (hg:o.guard=some (j,want):=by rfl) (hj:(ops[j]?).bind (·.dst)=some d':=by rfl) (hk:lk L d'=some (.bool b):=by rfl) (hc:(c==want)=false:=by rfl) (hd:o.dst=some d:=by rfl) (hN:d<N:=by decide):QR P N B w0 ops Q (o::rest) L is:=Qcb (Qam hg hj hk (bw hb hc)) hd hN h
theorem wu {o:Oper} {j:Nat} {want:Bool} {d':Nat} (h:WM P N B w0 ops Q rest ((d,undef)::L) is) (hg:o.guard=some (j,want):=by rfl) (hj:(ops[j]?).bind (·.dst)=some d':=by rfl) (hk:lk L d'=some undef:=by rfl) (hd:o.dst=some d:=by rfl) (hN:d<N:=by decide):WM P N B w0 ops Q (o::rest) L is:=Qxi (Qade hg hj hk) hd hN h
theorem qu {o:Oper} {j:Nat} {want:Bool} {d':Nat} (h:QR P N B w0 ops Q rest ((d,undef)::L) is) (hg:o.guard=some (j,want):=by rfl) (hj:(ops[j]?).bind (·.dst)=some d':=by rfl) (hk:lk L d'=some undef:=by rfl) (hd:o.dst=some d:=by rfl) (hN:d<N:=by decide):QR P N B w0 ops Q (o::rest) L is:=Qcb (Qade hg hj hk) hd hN h
theorem sr {id:Nat} {l:List Oper} {y:Code} (h:WM P N B w0 l.toArray (Exit.then (y.wp P Q) Q) l L is):CM P N B w0 (.seq (.region id l.toArray false) y) Q L is:=Qj (Qae h)
theorem nt' {y:Code} {Q':Exit→Act→World→Prop} (h:CM P N B w0 y Q' L is):WM P N B w0 ops (Exit.then (y.wp P Q') Q) [] L is:=Qai (Qi h)
theorem nq' {y:Code} {Q':Exit→Act→World→Prop} (h:CM P N B w0 y Q' L is):QR P N B w0 ops (Exit.then (y.wp P Q') Q) [] L is:=Qxa (Qi h)
end
/-- A row of marks as a number. -/
def bmL:Nat→Nat→List Bool
 |0,_=>[]
 |n+1,m=>(m % 2==1)::bmL n (m / 2)
def bm (n m:Nat):Array Bool:=(bmL n m).toArray
section
variable {P:Program} {N B:Nat} {w0:World} {Q:Exit→Act→World→Prop} {L:List (Nat×Value)} {is js s:List It} {ops:Array Oper} {rest:List Oper} {d fuel:Nat} {v:Value} {listed:Array Bool} {o:Oper}
theorem qt (n i m:Nat) (hi:ops[i]?=some o) (hv:∀ w,Mem B w0 s w→RV P L o w v w) (h:QB P N B w0 ops Q fuel (bm n m) ((d,v)::L) s is) (hl:listed.setIfInBounds i true=bm n m:=by kernel_rfl) (hs:Region.noSelect ops=true:=by kernel_rfl) (hf:Region.free .any ops listed i=true:=by kernel_rfl)
 (hr:(Region.ready .any ops listed).contains i=true:=by kernel_rfl) (hQ:∀ c a w,Q (.panic c) (a.put (some d) v) w→Q (.panic c) a w:=by exact fun _ _ _ h=>h) (hg:o.guard=none:=by rfl) (hd:o.dst=some d:=by rfl) (hN:d<N:=by decide):QB P N B w0 ops Q (fuel+1) listed L s is:=
 Qaln i hl hi hs hf hr hQ hv (Qf hg) hd hN h
theorem qo (n i m:Nat) (hi:ops[i]?=some o) (h:WM P N B w0 ops (Exit.then (fun a w=>Mem B w0 s w∧wpAnyH P .any ops Q (fun w=>Mem B w0 s w) fuel (bm n m) a w) Q) [o] L is) (hl:listed.setIfInBounds i true=bm n m:=by kernel_rfl) (hr:Region.ready .any ops listed=[i]:=by kernel_rfl):QB P N B w0 ops Q (fuel+1) listed L s is:=Qalm i hl hi hr h
theorem qc (n m:Nat) {i:Nat} {rs:List Nat} (hi:ops[i]?=some o) (h:WM P N B w0 ops (Exit.then (fun a w=>Mem B w0 s w∧wpAnyH P .any ops Q (fun w=>Mem B w0 s w) fuel (bm n m) a w) Q) [o] L is) (hs:QBs P N B w0 ops Q fuel listed L s is rs) (hl:listed.setIfInBounds i true=bm n m:=by kernel_rfl):QBs P N B w0 ops Q fuel listed L s is (i::rs):=Qack hl hi h hs
theorem rb {id:Nat} {l:List Oper} (n:Nat) (h0:∀ w,Mem B w0 is w→Mem B w0 s w) (h:QB P N B w0 l.toArray Q n (bm n 0) L s is) (hm:P.follows .mixedOrders=true:=by kernel_rfl) (hn:l.length=n:=by rfl) (hl:Array.replicate n false=bm n 0:=by kernel_rfl):CM P N B w0 (.region id l.toArray true) Q L is:=Qajz hm hn hl h0 h
theorem qa (rs:List Nat) (h:QBs P N B w0 ops Q fuel listed L s is rs) (hr:Region.ready .any ops listed=rs:=by kernel_rfl) (hne:rs≠[]:=by decide):QB P N B w0 ops Q (fuel+1) listed L s is:=Qacj rs hr hne h
theorem qn (h0:∀ w,Mem B w0 js w→Mem B w0 s w) (h:QB P N B w0 ops Q fuel listed L s js):WM P N B w0 ops (Exit.then (fun a w=>Mem B w0 s w∧wpAnyH P .any ops Q (fun w=>Mem B w0 s w) fuel listed a w) Q) [] L js:=Qai (Qall h0 h)
theorem wk (h:WM P N B w0 ops Q rest ((d,undef)::L) is) {j:Nat} {want:Bool} {d':Nat} {b:Bool} (hg:o.guard=some (j,want):=by rfl) (hj:(ops[j]?).bind (·.dst)=some d':=by rfl) (hk:lk L d'=some (.bool b):=by rfl) (hc:(b==want)=false:=by rfl) (hd:o.dst=some d:=by rfl) (hN:d<N:=by decide):WM P N B w0 ops Q (o::rest) L is:=Qxi (Qam hg hj hk hc) hd hN h
end
section
variable {P:Program} {B:Nat} {w0:World} {L:List (Nat×Value)} {is:List It} {d:Option Nat} {ty:TypeId} {pos:String} {af:Array Edge} {g:Option (Nat×Bool)}
theorem idM:∀ w,Mem B w0 is w→Mem B w0 is w:=fun _ h=>h
theorem pn (n:Nat) (ns:List Nat) (hn:ns.Nodup:=by decide):∀ w,Mem B w0 is w→Mem B w0 (pkI (is.take n) ns++is.drop n) w:=fun _ h=>h.pickN n ns hn
theorem pk (ns:List Nat) (hn:ns.Nodup:=by decide):∀ w,Mem B w0 is w→Mem B w0 (pkI is ns) w:=fun _ h=>h.pick ns hn
theorem vf {x:Operand} {A:Addr} {s f o:Nat} {fs:Array Field} {fd:Field} {info:TypeInfo} (hs:P.underlying s=some (.struct fs)) (hf:fs[f]?=some fd) (hi:P.info? fd.type=some info) (h0:info.size≠0:=by decide) (ho:fd.offset=o:=by rfl) (hx:ev L x=some (.pointer (some A)):=by rfl):
 ∀ w,Mem B w0 is w→RV P L ⟨d, .fieldAddr s x f,ty,pos,af,g⟩ w (.pointer (some (A.add o))) w:=fun _ _=>Qagz hs hf hi h0 ho hx
theorem vl (n o:Nat) {x:Operand} {p e:Nat} {cs:List Value} {t:TypeId} {td:TypeDesc} {u:Value} (ht:P.underlying t=some td) (hn:is[n]?=some (Qb p e cs):=by rfl) (hu:cs[o]?=some u:=by rfl) (hx:ev L x=some (.pointer (some ((⟨p,0,none⟩:Addr).add o))):=by rfl)
 (hag:(match td with| .struct _| .array _ _=>true|_=>false)=false:=by rfl):∀ w,Mem B w0 is w→RV P L ⟨d, .load t x,ty,pos,af,g⟩ w u w:=fun _ hm=>Qbe ht hag hx (hm.boxCell hn hu)
theorem Qbq {x y:Operand} {p q:Int} {t t2:TypeId} (hx:ev L x=some (.int .i64 p):=by rfl) (hy:ev L y=some (.int .i64 q):=by rfl):∀ w,Mem B w0 is w→RV P L ⟨d, .binOp .lss t x y t2,ty,pos,af,g⟩ w (.bool (decide (p<q))) w:=fun _ _=>Qauz hx hy
theorem Qea {x y:Operand} {p q:Int} {t t2:TypeId} (hx:ev L x=some (.int .i64 p):=by rfl) (hy:ev L y=some (.int .i64 q):=by rfl):∀ w,Mem B w0 is w→RV P L ⟨d, .binOp .neq t x y t2,ty,pos,af,g⟩ w (.bool (p !=q)) w:=fun _ _=>Qava hx hy
theorem Qfe {x y:Operand} {p q:Int} {t t2:TypeId} (hx:ev L x=some (.int .i64 p):=by rfl) (hy:ev L y=some (.int .i64 q):=by rfl):∀ w,Mem B w0 is w→RV P L ⟨d, .binOp .add t x y t2,ty,pos,af,g⟩ w (.int .i64 (IntKind.i64.wrap (p+q))) w:=fun _ _=>Qagx hx hy
theorem Qbc (p q:Nat) (h:p+q≤9223372036854775807) {x y:Operand} {t t2:TypeId} (hx:ev L x=some (.int .i64 (p:Int)):=by rfl) (hy:ev L y=some (.int .i64 (q:Int)):=by rfl):∀ w,Mem B w0 is w→RV P L ⟨d, .binOp .add t x y t2,ty,pos,af,g⟩ w (.int .i64 ((p+q:Nat):Int)) w:=fun _ _=>Qzv hx hy h
theorem Qbs {x:Operand} {b:Bool} {t:TypeId} (hx:ev L x=some (.bool b):=by rfl):∀ w,Mem B w0 is w→RV P L ⟨d, .unOp .not t x,ty,pos,af,g⟩ w (.bool !b) w:=fun _ _=>Qavb hx
theorem vmv {x:Operand} {v:Value} (hx:ev L x=some v:=by rfl):∀ w,Mem B w0 is w→RV P L ⟨d, .move x,ty,pos,af,g⟩ w v w:=fun _ _=>Qzx hx
theorem Qan {x:Operand} {A:Option Addr} {n c:Nat} {t e:TypeId} (ht:P.underlying t=some (.slice e)) (hx:ev L x=some (.slice A n c):=by rfl):∀ w,Mem B w0 is w→RV P L ⟨d, .call ⟨.builtin .len,#[x],#[t]⟩,ty,pos,af,g⟩ w (.int .i64 n) w:=fun _ _=>Qauy ht hx
theorem vix (sz k:Nat) {x i:Operand} {A:Addr} {n c:Nat} {t e:Nat} {info:TypeInfo} (ht:P.underlying t=some (.slice e)) (he:P.info? e=some info) (hx:ev L x=some (.slice (some A) n c):=by rfl) (hsz:info.size=sz:=by rfl) (hi:ev L i=some (.int .i64 (k:Int)):=by rfl) (hk:k<n:=by omega):
 ∀ w,Mem B w0 is w→RV P L ⟨d, .indexAddr t x i,ty,pos,af,g⟩ w (.pointer (some (A.add (k*sz)))) w:=fun _ _=>Qjz ht he hsz hx hi hk
theorem vpT {c x y:Operand} {v:Value} {b:Bool} (hb:b=true) (hc:ev L c=some (.bool b):=by rfl) (hx:ev L x=some v:=by rfl):∀ w,Mem B w0 is w→RV P L ⟨d, .pick c x y,ty,pos,af,g⟩ w v w:=fun _ _=>Qavd hc hb hx
theorem vpF {c x y:Operand} {v:Value} {b:Bool} (hb:b=false) (hc:ev L c=some (.bool b):=by rfl) (hy:ev L y=some v:=by rfl):∀ w,Mem B w0 is w→RV P L ⟨d, .pick c x y,ty,pos,af,g⟩ w v w:=fun _ _=>Qavc hc hb hy
end
section
variable {P:Program} {N B:Nat} {w0:World} {L:List (Nat×Value)} {is:List It} {fn:Func} {t:Nat}
theorem rtb {a b:Bool} (hr:fn.results= #[.tmp t]:=by rfl) (hv:lk L t=some (.bool a):=by rfl) (h:b=a):QM N B w0 (bodyPost P fn (fun e w'=>e= .returned (.bool b)∧Below B w0 w')) .ret L is:=Qacl hr hv fun _ hm=>⟨Qauh h,hm.below⟩
theorem rti {a b:Int} (hr:fn.results= #[.tmp t]:=by rfl) (hv:lk L t=some (.int .i64 a):=by rfl) (h:b=a):QM N B w0 (bodyPost P fn (fun e w'=>e= .returned (.int .i64 b)∧Below B w0 w')) .ret L is:=Qacl hr hv fun _ hm=>⟨Qaui h,hm.below⟩
end
section
variable {P:Program} {N B:Nat} {w0:World} {Q:Exit→Act→World→Prop} {L:List (Nat×Value)} {is js:List It} {ops:Array Oper} {rest:List Oper}
theorem sb (o:Nat) (cs':List Value) (js:List It) {x y:Operand} {p:Nat} {e t:TypeId} {cs:List Value} {v:Value} {info:TypeInfo} {ty:TypeId} {pos:String} {af:Array Edge}
 (hmv:∀ w,Mem B w0 is w→Mem B w0 (Qb p e cs::js) w) (hi:P.info? t=some info) (h:WM P N B w0 ops Q rest L (Qb p e cs'::js)) (hx:ev L x=some (.pointer (some ((⟨p,0,none⟩:Addr).add o))):=by rfl) (hy:ev L y=some v:=by rfl)
 (he:cs.take o++v.cells.toList++cs.drop (o+v.cells.size)=cs':=by rfl) (hz:info.size=v.cells.size:=by rfl) (hl:o+v.cells.size≤cs.length:=by exact Nat.le_of_ble_eq_true rfl) (h1:v.cells.toList.all Value.oneCell'=true:=by rfl):WM P N B w0 ops Q (⟨none, .store t x y,ty,pos,af,none⟩::rest) L is:=
 Qdf hmv hi hz hl h1 hx hy he (Qf rfl) h
end
theorem sl2 {L:List (Nat×Value)} {k0 k1:Nat} {v0 v1:Value} (h0:lk L k0=some v0:=by rfl) (h1:lk L k1=some v1:=by rfl):Qgt [(k0,v0),(k1,v1)] L:=(Qci h0 (Qci h1 Qhw))
theorem sl3 {L:List (Nat×Value)} {k0 k1 k2:Nat} {v0 v1 v2:Value} (h0:lk L k0=some v0:=by rfl) (h1:lk L k1=some v1:=by rfl) (h2:lk L k2=some v2:=by rfl):Qgt [(k0,v0),(k1,v1),(k2,v2)] L:=(Qci h0 (Qci h1 (Qci h2 Qhw)))
theorem sl4 {L:List (Nat×Value)} {k0 k1 k2 k3:Nat} {v0 v1 v2 v3:Value} (h0:lk L k0=some v0:=by rfl) (h1:lk L k1=some v1:=by rfl) (h2:lk L k2=some v2:=by rfl) (h3:lk L k3=some v3:=by rfl):Qgt [(k0,v0),(k1,v1),(k2,v2),(k3,v3)] L:=(Qci h0 (Qci h1 (Qci h2 (Qci h3 Qhw))))
theorem sl5 {L:List (Nat×Value)} {k0 k1 k2 k3 k4:Nat} {v0 v1 v2 v3 v4:Value} (h0:lk L k0=some v0:=by rfl) (h1:lk L k1=some v1:=by rfl) (h2:lk L k2=some v2:=by rfl) (h3:lk L k3=some v3:=by rfl) (h4:lk L k4=some v4:=by rfl):Qgt [(k0,v0),(k1,v1),(k2,v2),(k3,v3),(k4,v4)] L:=(Qci h0 (Qci h1 (Qci h2 (Qci h3 (Qci h4 Qhw)))))
theorem sl6 {L:List (Nat×Value)} {k0 k1 k2 k3 k4 k5:Nat} {v0 v1 v2 v3 v4 v5:Value} (h0:lk L k0=some v0:=by rfl) (h1:lk L k1=some v1:=by rfl) (h2:lk L k2=some v2:=by rfl) (h3:lk L k3=some v3:=by rfl) (h4:lk L k4=some v4:=by rfl) (h5:lk L k5=some v5:=by rfl):Qgt [(k0,v0),(k1,v1),(k2,v2),(k3,v3),(k4,v4),(k5,v5)] L:=(Qci h0 (Qci h1 (Qci h2 (Qci h3 (Qci h4 (Qci h5 Qhw))))))
theorem sl7 {L:List (Nat×Value)} {k0 k1 k2 k3 k4 k5 k6:Nat} {v0 v1 v2 v3 v4 v5 v6:Value} (h0:lk L k0=some v0:=by rfl) (h1:lk L k1=some v1:=by rfl) (h2:lk L k2=some v2:=by rfl) (h3:lk L k3=some v3:=by rfl) (h4:lk L k4=some v4:=by rfl) (h5:lk L k5=some v5:=by rfl) (h6:lk L k6=some v6:=by rfl):Qgt [(k0,v0),(k1,v1),(k2,v2),(k3,v3),(k4,v4),(k5,v5),(k6,v6)] L:=(Qci h0 (Qci h1 (Qci h2 (Qci h3 (Qci h4 (Qci h5 (Qci h6 Qhw)))))))
theorem sl8 {L:List (Nat×Value)} {k0 k1 k2 k3 k4 k5 k6 k7:Nat} {v0 v1 v2 v3 v4 v5 v6 v7:Value} (h0:lk L k0=some v0:=by rfl) (h1:lk L k1=some v1:=by rfl) (h2:lk L k2=some v2:=by rfl) (h3:lk L k3=some v3:=by rfl) (h4:lk L k4=some v4:=by rfl) (h5:lk L k5=some v5:=by rfl) (h6:lk L k6=some v6:=by rfl) (h7:lk L k7=some v7:=by rfl):Qgt [(k0,v0),(k1,v1),(k2,v2),(k3,v3),(k4,v4),(k5,v5),(k6,v6),(k7,v7)] L:=(Qci h0 (Qci h1 (Qci h2 (Qci h3 (Qci h4 (Qci h5 (Qci h6 (Qci h7 Qhw))))))))
theorem sl9 {L:List (Nat×Value)} {k0 k1 k2 k3 k4 k5 k6 k7 k8:Nat} {v0 v1 v2 v3 v4 v5 v6 v7 v8:Value} (h0:lk L k0=some v0:=by rfl) (h1:lk L k1=some v1:=by rfl) (h2:lk L k2=some v2:=by rfl) (h3:lk L k3=some v3:=by rfl) (h4:lk L k4=some v4:=by rfl) (h5:lk L k5=some v5:=by rfl) (h6:lk L k6=some v6:=by rfl) (h7:lk L k7=some v7:=by rfl) (h8:lk L k8=some v8:=by rfl):Qgt [(k0,v0),(k1,v1),(k2,v2),(k3,v3),(k4,v4),(k5,v5),(k6,v6),(k7,v7),(k8,v8)] L:=(Qci h0 (Qci h1 (Qci h2 (Qci h3 (Qci h4 (Qci h5 (Qci h6 (Qci h7 (Qci h8 Qhw)))))))))
theorem Qzz {L:List (Nat×Value)} {k0 k1 k2 k3 k4 k5 k6 k7 k8 k9 k10:Nat} {v0 v1 v2 v3 v4 v5 v6 v7 v8 v9 v10:Value} (h0:lk L k0=some v0:=by rfl) (h1:lk L k1=some v1:=by rfl) (h2:lk L k2=some v2:=by rfl) (h3:lk L k3=some v3:=by rfl) (h4:lk L k4=some v4:=by rfl) (h5:lk L k5=some v5:=by rfl) (h6:lk L k6=some v6:=by rfl) (h7:lk L k7=some v7:=by rfl) (h8:lk L k8=some v8:=by rfl) (h9:lk L k9=some v9:=by rfl) (h10:lk L k10=some v10:=by rfl):Qgt [(k0,v0),(k1,v1),(k2,v2),(k3,v3),(k4,v4),(k5,v5),(k6,v6),(k7,v7),(k8,v8),(k9,v9),(k10,v10)] L:=(Qci h0 (Qci h1 (Qci h2 (Qci h3 (Qci h4 (Qci h5 (Qci h6 (Qci h7 (Qci h8 (Qci h9 (Qci h10 Qhw)))))))))))
theorem Qku {L:List (Nat×Value)} {k0 k1 k2 k3 k4 k5 k6 k7 k8 k9 k10 k11:Nat} {v0 v1 v2 v3 v4 v5 v6 v7 v8 v9 v10 v11:Value} (h0:lk L k0=some v0:=by rfl) (h1:lk L k1=some v1:=by rfl) (h2:lk L k2=some v2:=by rfl) (h3:lk L k3=some v3:=by rfl) (h4:lk L k4=some v4:=by rfl) (h5:lk L k5=some v5:=by rfl) (h6:lk L k6=some v6:=by rfl) (h7:lk L k7=some v7:=by rfl) (h8:lk L k8=some v8:=by rfl) (h9:lk L k9=some v9:=by rfl) (h10:lk L k10=some v10:=by rfl) (h11:lk L k11=some v11:=by rfl):Qgt [(k0,v0),(k1,v1),(k2,v2),(k3,v3),(k4,v4),(k5,v5),(k6,v6),(k7,v7),(k8,v8),(k9,v9),(k10,v10),(k11,v11)] L:=(Qci h0 (Qci h1 (Qci h2 (Qci h3 (Qci h4 (Qci h5 (Qci h6 (Qci h7 (Qci h8 (Qci h9 (Qci h10 (Qci h11 Qhw))))))))))))
section
variable {P:Program} {N B:Nat} {w0:World} {Q:Exit→Act→World→Prop} {L:List (Nat×Value)} {is:List It} {ops:Array Oper} {rest:List Oper} {f:FuncId} {fo:Callee} {xs:Array Operand} {args:Array Value} {d:Nat} {ts:Array TypeId} {ty:TypeId} {pos:String} {af:Array Edge}
theorem wcs {α:Type} (T:Ty α) (D:α) (hcl:Cl P L fo xs f args) (hc:∀ w,Mem B w0 is w→Calls P f args w fun e w'=>∃ x:List Value,e= .returned (.agg x.toArray)∧Mem w.heap.size w [Qh T x D] w') (h:∀ x:List Value,WM P N B w0 ops Q rest ((d, .agg x.toArray)::L) (Qh T x D::is)) (hN:d<N:=by decide):WM P N B w0 ops Q (⟨some d, .call ⟨fo,xs,ts⟩,ty,pos,af,none⟩::rest) L is:=
 Qii (χ:=List Value) (val:=fun x=> .agg x.toArray) (js:=fun x=>[Qh T x D]) hcl hc (Qf rfl) hN h
theorem wcl {α:Type} (T:Ty α) (D:α) (hcl:Cl P L fo xs f args) (hc:∀ w,Mem B w0 is w→Calls P f args w fun e w'=>∃ x:Value,e= .returned x∧Mem w.heap.size w [Qh T [x] D] w') (h:∀ x:Value,WM P N B w0 ops Q rest ((d,x)::L) (Qh T [x] D::is)) (hN:d<N:=by decide):WM P N B w0 ops Q (⟨some d, .call ⟨fo,xs,ts⟩,ty,pos,af,none⟩::rest) L is:=
 Qii (χ:=Value) (val:=fun x=>x) (js:=fun x=>[Qh T [x] D]) hcl hc (Qf rfl) hN h
theorem wcv {v:Value} (hcl:Cl P L fo xs f args) (hc:∀ w,Mem B w0 is w→Calls P f args w fun e w'=>e= .returned v∧Below w.heap.size w w') (h:WM P N B w0 ops Q rest ((d,v)::L) is) (hN:d<N:=by decide):WM P N B w0 ops Q (⟨some d, .call ⟨fo,xs,ts⟩,ty,pos,af,none⟩::rest) L is:=Qcv hcl hc (Qf rfl) hN h
end
section
variable {P:Program} {N:Nat} {L:List (Nat×Value)} {f:FuncId} {fn:Func} {c:Code} {args:Array Value} {w:World} {R:Ending→World→Prop}
theorem ce0 (hf:P.funcs[f]?=some fn) (h:CM P N w.heap.size w c (bodyPost P fn R) L []) (hb:fn.body=some c:=by rfl) (hN:fn.ntmps=N:=by rfl) (hs:args.size≤N:=by exact Nat.le_of_ble_eq_true rfl) (hL:∀ k v,lk L k=some v→args[k]?=some v:=by exact Qho):Calls P f args w R:=Qrk hf hb hN hs hL h
theorem ce1 (hf:P.funcs[f]?=some fn) (h:CM P N w.heap.size w c (bodyPost P fn R) L []) (hb:fn.body=some c:=by rfl) (hN:fn.ntmps=N:=by rfl) (hs:args.size≤N:=by exact Nat.le_of_ble_eq_true rfl) (hL:∀ k v,lk L k=some v→args[k]?=some v:=by exact Qfg rfl Qho):Calls P f args w R:=Qrk hf hb hN hs hL h
theorem ce2 (hf:P.funcs[f]?=some fn) (h:CM P N w.heap.size w c (bodyPost P fn R) L []) (hb:fn.body=some c:=by rfl) (hN:fn.ntmps=N:=by rfl) (hs:args.size≤N:=by exact Nat.le_of_ble_eq_true rfl) (hL:∀ k v,lk L k=some v→args[k]?=some v:=by exact Qfg rfl (Qfg rfl Qho)):Calls P f args w R:=Qrk hf hb hN hs hL h
theorem ce3 (hf:P.funcs[f]?=some fn) (h:CM P N w.heap.size w c (bodyPost P fn R) L []) (hb:fn.body=some c:=by rfl) (hN:fn.ntmps=N:=by rfl) (hs:args.size≤N:=by exact Nat.le_of_ble_eq_true rfl) (hL:∀ k v,lk L k=some v→args[k]?=some v:=by exact Qfg rfl (Qfg rfl (Qfg rfl Qho))):Calls P f args w R:=Qrk hf hb hN hs hL h
theorem ce4 (hf:P.funcs[f]?=some fn) (h:CM P N w.heap.size w c (bodyPost P fn R) L []) (hb:fn.body=some c:=by rfl) (hN:fn.ntmps=N:=by rfl) (hs:args.size≤N:=by exact Nat.le_of_ble_eq_true rfl) (hL:∀ k v,lk L k=some v→args[k]?=some v:=by exact Qfg rfl (Qfg rfl (Qfg rfl (Qfg rfl Qho)))):Calls P f args w R:=Qrk hf hb hN hs hL h
end
section
variable {α:Type} {E:Ty α} {e:TypeId} {P:Program} {N B:Nat} {w0:World} {Q:Exit→Act→World→Prop} {L:List (Nat×Value)} {is:List It} {ops:Array Oper} {rest:List Oper}
theorem sf (o s:Nat) (ck':List Value) (js:List It) {x y:Operand} {g n c k:Nat} {t:TypeId} {xs:List α} {ck:List Value} {v:Value} {A:Addr} {info:TypeInfo} {ty:TypeId} {pos:String} {af:Array Edge}
 (hmv:∀ w,Mem B w0 is w→Mem B w0 (Qcu E e (some ⟨g,0,none⟩) n c xs k ck::js) w) (hi:P.info? t=some info) (h:WM P N B w0 ops Q rest L (Qcu E e (some ⟨g,0,none⟩) n c xs k ck'::js)) (hx:ev L x=some (.pointer (some A)):=by rfl) (hy:ev L y=some v:=by rfl)
 (hA:A=(((⟨g,0,none⟩:Addr).add (k*s)).add o):=by first|rfl|exact(add0 _).symm) (hs:E.sz=s:=by rfl) (he:ck.take o++v.cells.toList++ck.drop (o+v.cells.size)=ck':=by rfl) (hz:info.size=v.cells.size:=by rfl) (hl:o+v.cells.size≤ck.length:=by exact Nat.le_of_ble_eq_true rfl) (h1:v.cells.toList.all Value.oneCell'=true:=by rfl):
 WM P N B w0 ops Q (⟨none, .store t x y,ty,pos,af,none⟩::rest) L is:=Qanb hmv hs hA hi hz hl h1 hx hy he (Qf rfl) h
end
section
variable {α:Type} {T:Ty α} {P:Program} {N B:Nat} {w0:World} {Q:Exit→Act→World→Prop} {L:List (Nat×Value)} {is js:List It} {ops:Array Oper} {rest:List Oper} {f:FuncId} {fo:Callee} {xs:Array Operand} {args:Array Value} {d:Nat} {ts:Array TypeId} {ty:TypeId} {pos:String} {af:Array Edge}
end
/-- Where the elements of a slice lie,if it has any. -/
def rdQ {α:Type} (E:Ty α) (w:World) (B:Nat) (A:Option Addr) (c:Nat) (xs:List α):Prop:=0<xs.length→∃ a,A=some a∧(a.block<B∧xs.length≤c)∧∀ j x,xs[j]?=some x→∃ c',E.rd w B c' x∧∀ o u,c'[o]?=some u→w.cell? ((a.add (j*E.sz)).add o)=some u
theorem Qn {α:Type} {E:Ty α} {w:World} {B:Nat} {v:Value} {xs:List α} (h:rdS E w B v xs):xs.length≤9223372036854775807∧∃ A c,v= .slice A xs.length c∧rdQ E w B A c xs∧rdS E w B (.slice A xs.length c) xs:=by
 have h':=h;obtain⟨m,A,c,rfl,q⟩:=h;exact⟨m,A,c,rfl,q,h'⟩
theorem rl {n k:Nat} (h:k<n:=by omega):n-(k+1)<n-k:=by omega
section
variable {α:Type} {P:Program} {N B:Nat} {w0:World} {Q:Exit→Act→World→Prop} {L:List (Nat×Value)} {is:List It} {ops:Array Oper} {rest:List Oper} {s x:Operand} {d t:Nat} {ty:TypeId} {pos:String} {af:Array Edge} {i:TypeInfo} {z:Value}
theorem le63 {a b:Nat} (hp:0<b) (h:a*b≤140737488355328):a≤9223372036854775807:=by
 have:=Nat.le_mul_of_pos_right a hp;omega
theorem apR (F E:Ty α) (e:TypeId) (v:Value) (xs ys:List α) (js:List It) {u:Value} (hmv:∀ w,Mem B w0 is w→Mem B w0 (Qh (tSl F e) [v] xs::js) w) (hsrc:∀ w,Mem B w0 is w→Qrd E F w u ys) (ht:P.underlying t=some (.slice e)) (hi:P.info? e=some i) (hb:(xs.length+ys.length)*i.bytes≤140737488355328)
 (h:∀ v',WM P N B w0 ops Q rest ((d,v')::L) (Qh (tSl F e) [v'] (xs++ys)::js)) (hz:i.zero=some z:=by rfl) (hsize:i.size=F.sz:=by rfl) (hzs:z.cells.size=F.sz:=by rfl) (hsz:0<F.sz:=by exact Nat.le_of_ble_eq_true rfl) (hp:0<i.bytes:=by exact Nat.le_of_ble_eq_true rfl)
 (hs:ev L s=some v:=by rfl) (hx:ev L x=some u:=by rfl) (hN:d<N:=by decide):WM P N B w0 ops Q (⟨some d, .call ⟨.builtin .append,#[s,x],#[t,t]⟩,ty,pos,af,none⟩::rest) L is:=
 Qamz (F:=F) (E:=E) hmv hsrc ht hi hz hsize hzs hsz hs hx hb (le63 hp hb) (Qf rfl) hN h
theorem ap1 (E:Ty α) (e:TypeId) (v:Value) (xs:List α) (y:α) (eis js:List It) (news:List Value) {p e2:Nat} (hmv:∀ w,Mem B w0 is w→Mem B w0 (Qb p e2 news::Qh (tSl E e) [v] xs::(eis++js)) w) (hel:∀ w L,Sep eis w L→Els E w L news [y]) (ht:P.underlying t=some (.slice e)) (hi:P.info? e=some i) (hb:(xs.length+1)*i.bytes≤140737488355328)
 (h:∀ v',WM P N B w0 ops Q rest ((d,v')::L) (Qh (tSl E e) [v'] (xs++[y])::js)) (hz:i.zero=some z:=by rfl) (hsize:i.size=E.sz:=by rfl) (hzs:z.cells.size=E.sz:=by rfl) (hsz:0<E.sz:=by exact Nat.le_of_ble_eq_true rfl) (hp:0<i.bytes:=by exact Nat.le_of_ble_eq_true rfl)
 (hs:ev L s=some v:=by rfl) (hx:ev L x=some (.slice (some ⟨p,0,none⟩) 1 1):=by rfl) (hN:d<N:=by decide):WM P N B w0 ops Q (⟨some d, .call ⟨.builtin .append,#[s,x],#[t,t]⟩,ty,pos,af,none⟩::rest) L is:=
 Qov (E:=E) (ys:=[y]) hmv hel ht hi hz hsize hzs hsz hs hx rfl hb (le63 hp hb) (Qf rfl) hN h
end
section
variable {P:Program} {L:List (Nat×Value)} {w:World} {d:Option Nat} {ty:TypeId} {pos:String} {af:Array Edge} {g:Option (Nat×Bool)}
/-- 'x.f' of a struct that is a value. -/
theorem Qaux {x:Operand} {vs:Array Value} {s f:Nat} {fs:Array Field} {fd:Field} {td:TypeDesc} {v:Value} (hs:P.underlying s=some (.struct fs)) (hf:fs[f]?=some fd) (ht:P.underlying fd.type=some td) (hag:(match td with| .struct _| .array _ _=>true|_=>false)=false) (hx:ev L x=some (.agg vs)) (hv:vs[fd.offset]?=some v):
 RV P L ⟨d, .field s x f,ty,pos,af,g⟩ w v w:=fun N a ha=>by
 have e0:=ha.eval hx;generalize a.eval=ρ at e0 ⊢;cases td <;>simp_all [execOp,Instr.field,run_underlying hs,hf,asAgg,part,isAgg,run_underlying ht,hv]
end
theorem fm {α:Type} {P:Program} {N B:Nat} {w0:World} {Q:Exit→Act→World→Prop} {L:List (Nat×Value)} {is:List It} {ops:Array Oper} {l:List Oper} {E:Ty α} {e:TypeId} {v:Value} {xs:List α} (n:Nat) (h:∀ A c,v= .slice A xs.length c→xs.length≤9223372036854775807→WM P N B w0 ops Q l L is) (hi:is[n]?=some (Qh (tSl E e) [v] xs):=by rfl):WM P N B w0 ops Q l L is:=Qana hi h
end Go.Proofs.YtdlminfjdodjoaaGreat
