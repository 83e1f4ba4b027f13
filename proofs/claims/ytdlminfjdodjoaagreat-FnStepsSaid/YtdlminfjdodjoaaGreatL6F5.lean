/-
  Contracts of functions,printed by a program of ours.
-/
import Derived.Test.YtdlminfjdodjoaaGreatL6F4
namespace Go.Proofs.YtdlminfjdodjoaaGreat
open Go.RowKit
set_option maxRecDepth 100000
set_option maxHeartbeats 4000000
open _root_.Go.Proofs.Tryz
def Qnd (x0:Qk) (k46:Nat) (d47:(List Int)):(List Int)⊕((List Int)):=
 cond (Qjn (gt x0.a k46)) (cond (Qik ((gt x0.a k46).q) x0.g) (Sum.inr (d47++[(gt x0.a k46).e.Id])) (Sum.inr d47)) (Sum.inr d47)
def Qcq (x0:Qk):(List Int):=
 cond (Qkd x0) (Sum.elim id (fun(s:(List Int))=>s) (rng (R:=(List Int)) (fun k (s:(List Int))=>Qnd x0 k s) (x0.a.length-0) 0 [])) []
theorem cb22:Cb Tryz.prog 22:=⟨f22,_,func22,rfl,by decide⟩
theorem Qafr (w:World) (z0:List Value) (x0:Qk) (r_0:Qbz.rd w w.heap.size z0 x0) (s_0:Qhb 68719476736 x0):
 Calls Tryz.prog 22 #[.agg z0.toArray] w (rL w (tSl Qa 3) (Qcq x0)):=by
 obtain⟨v1,v3,v5,v7,v9,rfl,r2,r4,r6,r8,r10⟩:=Qji r_0;obtain⟨m11,A12,c13,rfl,q14,r15⟩:=Qn r2;obtain⟨m16,A17,c18,rfl,q19,r20⟩:=Qn r4;obtain⟨m21,A22,c23,rfl,q24,r25⟩:=Qn r6;obtain⟨m26,A27,c28,rfl,q29,r30⟩:=Qn r8;obtain⟨m31,A32,c33,rfl,q34,r35⟩:=Qn r10;have l36:x0.d.c.length≤68719476736:=s_0.1.1;have l37:=s_0.2.1;have l38:=s_0.2.2.1.1;have l39:=s_0.2.2.2.1.1;have l40:=s_0.2.2.2.2.1;refine ce1 (L:=[(0, .agg #[.slice A12 x0.d.c.length c13,iV x0.d.f,iV x0.g, .slice A17 x0.l.length c18, .slice A22 x0.a.length c23, .slice A27 x0.j.length c28, .slice A32 x0.k.length c33,iV x0.n])]) (N:=35) func22 ?_;refine sr ?_;refine Qcj rfl (Qf rfl) (by decide) (fun p41=>?_);refine wa (nt' (sr ?_));refine Qcl (E:=Qa) Qo Qg (Qf rfl) (by decide) (fun p42=>?_);refine wa (nt' (Qj (sr ?_)));let K1:List Value:=[.slice A12 x0.d.c.length c13,iV x0.d.f,iV x0.g, .slice A17 x0.l.length c18, .slice A22 x0.a.length c23, .slice A27 x0.j.length c28, .slice A32 x0.k.length c33,iV x0.n];refine wv (fun W hm=>Qab (cs:=K1) Qt Qal rfl rfl (hm.boxCells (n:=1) rfl)) ?_;refine wcv (Qs Qya rfl) (fun W hm=>Qyk W _ x0 (Qfs (x:=x0) (hm.rdS0 r15) (hm.rdS0 r20) (hm.rdS0 r25) (hm.rdS0 r30) (hm.rdS0 r35)) s_0) ?_;refine wv Qbs ?_;refine nt' ?_;rcases bd (Qkd x0) with g45|g45
 ·refine Qx rfl (nt g45) ?_;refine Qac (Qi (Qj (sr ?_)));refine wv (vf Qt rfl Qcd) ?_;refine wv (vl 1 4 Qaq) ?_;refine wv (Qan Qaq) ?_;refine wm (nt' (Qaj ?_));refine Qbv (S:=(List Int)) (R:=Option Addr×Nat) (fun k (s:(List Int))=>Qnd x0 k s) x0.a.length 0 [] ((sA p42),0) (fun s=>[(1,bp p41),(3, .slice s.2.2.1 s.2.1.length s.2.2.2),(12, .slice A22 x0.a.length c23),(13,nI x0.a.length),(14,nI s.1)]) (fun s=>[iS Qa 3 s.2.2.1 s.2.2.2 s.2.1,Qb p41 39 K1]) (fun s=>s.2.1.length≤0+s.1) sl5 (Nat.le_refl _) ?_;rintro⟨k46,d47,⟨A48,c49⟩⟩ H52 _ _ e e';dsimp only at H52 ⊢;subst e e';obtain⟨hk50,hF51,hi53⟩:=H52;refine sr ?_;refine wv Qbq ?_;refine nt' (Qj ?_);rcases dcl k46 x0.a.length with⟨hl54,g55⟩|⟨hl54,g55⟩
  ·refine Qr rfl g55 ?_;refine Qac (Qi (Qj (Qaj (sr ?_))));obtain⟨a56,rfl,hb57,he58⟩:=q24 (by omega);refine wv (vix 10 k46 Qaq Qbg) ?_;obtain⟨_,e68,hc59⟩:=he58 k46 _ (Qch (show k46<x0.a.length from by omega));obtain⟨v60,v62,v64,v66,rfl,r61,r63,r65,r67⟩:=Qie e68;have l69:=(s_0.2.2.1.2 _ (Qav (show k46<x0.a.length from by omega))).1.1;have l70:=(s_0.2.2.1.2 _ (Qav (show k46<x0.a.length from by omega))).1.2;have l71:=(s_0.2.2.1.2 _ (Qav (show k46<x0.a.length from by omega))).2.1;have l72:=(s_0.2.2.1.2 _ (Qav (show k46<x0.a.length from by omega))).2.2.1;obtain⟨m73,A74,c75,rfl,q76,r77⟩:=Qn r61;obtain⟨m78,A79,c80,rfl,q81,r82⟩:=Qn r63;obtain⟨m83,A84,c85,rfl,q86,r87⟩:=Qn r65;obtain⟨m88,A89,c90,rfl,q91,r92⟩:=Qn r67;let K2:List Value:=[iV ((gt x0.a k46).e.Id),iV ((gt x0.a k46).e.u), .slice A74 ((gt x0.a k46).e.o).length c75, .slice A79 ((gt x0.a k46).e.t).length c80,iV ((gt x0.a k46).r), .slice A84 ((gt x0.a k46).q).length c85,iV ((gt x0.a k46).v),iV ((gt x0.a k46).A),iV ((gt x0.a k46).z), .slice A89 ((gt x0.a k46).p).length c90];refine wv (fun W hm=>Qab (cs:=K2) Qbb Qbg rfl rfl (hm.elCells (show(a56.add (k46*10)).block<w.heap.size from by rw[Qao];exact hb57.1) hc59)) ?_;refine Qbo Qbg rfl (Qf rfl) (by decide) (fun p93=>?_);let K3:List Value:=[.slice A12 x0.d.c.length c13,iV x0.d.f,iV x0.g, .slice A17 x0.l.length c18, .slice (some a56) x0.a.length c23, .slice A27 x0.j.length c28, .slice A32 x0.k.length c33,iV x0.n];refine sb 0 K2 [iS Qa 3 A48 c49 d47,Qb p41 39 K3] idM Qbg ?_;refine nt' (sr ?_);refine wv (fun W hm=>Qab (cs:=K2) Qbb Qbg rfl rfl (hm.boxCells (n:=0) rfl)) ?_;refine wcv (Qs cb90 rfl) (fun W hm=>Qasn W _ (gt x0.a k46) (Qqp (x:=(gt x0.a k46)) (hm.rdS0 r77) (hm.rdS0 r82) (hm.rdS0 r87) (hm.rdS0 r92))) ?_;refine wm ?_;rcases bd (Qjn (gt x0.a k46)) with g95|g95
   ·refine wg (vf Qbb rfl Qbf) g95 ?_;refine wg (vl 0 5 Qo) g95 ?_;refine wg (vf Qt rfl Qg) g95 ?_;refine wg (vl 2 2 Qu) g95 ?_;refine Qcv (Qs cb91 rfl) (fun W hm=>Qafx W _ ((gt x0.a k46).q) x0.g (hm.rdS0 r87)) (Qam rfl rfl rfl (bw g95 rfl)) (by decide) ?_;refine wv (vpT g95) ?_;refine nt' ?_;rcases bd (Qik ((gt x0.a k46).q) x0.g) with g97|g97
    ·refine Qr rfl g97 ?_;refine Qae (wm ?_);refine wv (vf Qbb rfl Qca) ?_;refine wv (fun W hm=>Qfb (o:=0) Qby rfl Qg (by decide) rfl rfl) ?_;refine wv (vl 0 0 Qu) ?_;refine Qcf (cs:=[iV ((gt x0.a k46).e.Id)]) Qo Qg rfl (by decide) (by decide) rfl (by kernel_rfl) (Qf rfl) (by decide) (fun p98=>?_);refine ap1 Qa 3 (.slice A48 d47.length c49) d47 ((gt x0.a k46).e.Id) [] [Qb p93 61 K2,Qb p41 39 K3] [iV ((gt x0.a k46).e.Id)] (pk [0,2,1,3]) (fun _ _ hs=>by cases (Sep.nil hs);exact(Qdc Qbu Qfa)) Qo Qg (show(d47.length+1)*8≤140737488355328 from by omega) (fun v99=>?_);refine fm 0 ?_;rintro A100 c101 rfl m102;refine wa (Qai (Qar (Qi (Qae ?_))));refine wv (Qbc k46 1 (by omega)) ?_;refine wm (Qai ?_);exact Qax (k46+1,(d47++[(gt x0.a k46).e.Id]),(A100,c101)) sl5 (pk [0,2]) ⟨(by omega),nx hF51 (Qc g95 (Qc g97 (rfl))),(show(d47++[(gt x0.a k46).e.Id]).length≤0+(k46+1) from by first|omega|(simp only[List.length_append,List.length_cons,List.length_nil] at *;omega))⟩ rl
    refine Qx rfl g97 ?_;refine Qac (Qar (Qi (Qae ?_)));refine wv (Qbc k46 1 (by omega)) ?_;refine wm (Qai ?_);exact Qax (k46+1,d47,(A48,c49)) sl5 (pk [1,2]) ⟨(by omega),nx hF51 (Qc g95 (Qe g97 (rfl))),(show d47.length≤0+(k46+1) from by first|omega|(simp only[List.length_append,List.length_cons,List.length_nil] at *;omega))⟩ rl
   iterate 6 first|refine ws g95 ?_|refine wv (vpF g95) ?_
   refine nt' ?_;refine Qx rfl rfl ?_;refine Qac (Qar (Qi (Qae ?_)));refine wv (Qbc k46 1 (by omega)) ?_;refine wm (Qai ?_);exact Qax (k46+1,d47,(A48,c49)) sl5 (pk [1,2]) ⟨(by omega),nx hF51 (Qe g95 (rfl)),(show d47.length≤0+(k46+1) from by first|omega|(simp only[List.length_append,List.length_cons,List.length_nil] at *;omega))⟩ rl
  refine Qx rfl g55 ?_;refine Qbm (Qag (Qag ?_));have hE107:=Qbx hl54 hF51;refine Qbn (Qi (sr (wm (wa (nt' (Qm ?_))))));have he108:=(show Qcq x0=d47 from Qc g45 (Qbd hE107 (rfl)));refine Qcy rfl (Qcg rfl) (fun W hm=>⟨.slice A48 d47.length c49,?_,?_⟩)
  ·first|rw[he108]|rfl
  rw[he108];exact(hm.pick [0] (by decide))
 refine Qr rfl (nf g45) ?_;refine sr (wm (wa (nt' (Qm (Ql ?_)))));have he109:=(show Qcq x0=[] from Qe g45 (rfl));refine Qcy rfl (Qcg rfl) (fun W hm=>⟨.slice (sA p42) 0 0,?_,?_⟩)
 ·first|rw[he109]|rfl
 rw[he109];exact(hm.pick [0] (by decide))
theorem Qags {n:Nat} {b:Nat→Unit→Bool⊕Unit} (h:∀ j,b j ()= .inr ()∨b j ()= .inl false):∀ m k,rng b m k ()= .inr ()∨rng b m k ()= .inl false
 |0,_=> .inl rfl
 |m+1,k=>by
  rcases h k with h1|h1
  ·rw[rng,h1];exact Qags (n:=n) h m (k+1)
  right;rw[rng,h1];rfl
theorem Qbba (x a b:Int):Qdm x a b=Qbi x a b:=rfl
theorem Qale (x:List Int) (k:Nat):Quh x k=Qsn x k:=by
 unfold Quh Qsn Qbi
 by_cases h1:gt x k<0
 ·have h2: ¬ 0≤gt x k:=by omega
  simp only[decide_eq_true h1,decide_eq_false h2,cond_true,cond_false]
 have h2:0≤gt x k:=by omega
 by_cases h3:24≤gt x k
 ·have h4: ¬ gt x k≤23:=by omega
  simp only[decide_eq_false h1,decide_eq_true h2,decide_eq_true h3,decide_eq_false h4,cond_true,cond_false]
 have h4:gt x k≤23:=by omega
 simp only[decide_eq_false h1,decide_eq_true h2,decide_eq_false h3,decide_eq_true h4,cond_true,cond_false]
theorem Qalf (x:List Int):Qpd x=Qic x:=by
 unfold Qpd Qic;simp only[Qale]
theorem Qala (x:Qdi) (k:Nat):Qyj x k=Qnh x k:=rfl
theorem Qalb (x:Qdi) (k:Nat):Qnh x k= .inr ()∨Qnh x k= .inl false:=by
 unfold Qnh;cases Qbi (gt x.B k) 0 3 <;>cases Qbi (gt x.p k) 0 x.C <;>simp
theorem Qalc (x:Qdi):Qnu x=Qkg x:=by
 unfold Qnu Qkg;rw[Qalf];simp only[Qala,Qbba];have h8:Qbi ((x.w.length:Nat):Int) 1 8=cond (((x.w.length:Nat):Int)==0) false (cond (decide (8<((x.w.length:Nat):Int))) false true):=by
  unfold Qbi
  by_cases h1:((x.w.length:Nat):Int)=0
  ·rw[beq_iff_eq.2 h1,decide_eq_false (show ¬ 1≤((x.w.length:Nat):Int) by omega)];rfl
  rw[beq_eq_false_iff_ne.2 h1,decide_eq_true (show 1≤((x.w.length:Nat):Int) by omega)]
  by_cases h2:8<((x.w.length:Nat):Int)
  ·rw[decide_eq_true h2,decide_eq_false (show ¬ ((x.w.length:Nat):Int)≤8 by omega)];rfl
  rw[decide_eq_false h2,decide_eq_true (show((x.w.length:Nat):Int)≤8 by omega)];rfl
 rw[h8];have hr:=Qags (n:=0) (b:=fun k (_:Unit)=>Qnh x k) (Qalb x) (x.w.length-0) 0;rcases hr with hr|hr <;>rw[hr] <;>cases Qic x.w <;>cases (((x.w.length:Nat):Int)==0) <;>cases (decide (8<((x.w.length:Nat):Int))) <;>
  cases (((x.B.length:Nat):Int) !=((x.w.length:Nat):Int)) <;>cases (((x.p.length:Nat):Int) !=((x.w.length:Nat):Int)) <;>cases Qbi x.D 0 7 <;>cases Qbi x.C 0 4 <;>rfl
theorem Qast (x:Int):Qpi x=Qbi x 0 2:=rfl
def okI (now:Int) (seen:List Qw) (v:Qw):Bool:=Qhl v now && seen.all fun w=> !(v.Id==w.Id && Qke v w)
theorem Qahe (ok:List Qw→Qw→Bool):∀ (s t seen:List Qw),Qga ok seen (s++t)=(Qga ok seen s && Qga ok (seen++s) t)
 | [],t,seen=>by simp[Qga]
 |v::s,t,seen=>by
  show(ok seen v && Qga ok (seen++[v]) (s++t))=_;rw[Qahe ok s t];simp[Qga,Bool.and_assoc]
theorem Qaeo (ok:List Qw→Qw→Bool):∀ (l seen:List Qw),Qlr (fun d v=>ok d v) (fun d v=>d++[v]) l seen=cond (Qga ok seen l) (some (seen++l)) none
 | [],seen=>by simp[Qlr,Qga]
 |v::l,seen=>by
  rw[Qlr,Qaeo ok l];show _=cond (ok seen v && Qga ok (seen++[v]) l) _ _;cases ok seen v <;>simp
theorem Qarm (x:Qaa) (i j:Nat) (d:List Qw):rng (R:=Bool) (fun k (_:Unit)=>Qrv x i j d k) (d.length-0) 0 ()=cond (d.all fun w=> !((gt (gt x.c i) j).Id==w.Id && Qke (gt (gt x.c i) j) w)) (.inr ()) (.inl false):=
 Qpo fun k _=>by
  unfold Qrv;cases (gt (gt x.c i) j).Id==(gt d k).Id <;>cases Qke (gt (gt x.c i) j) (gt d k) <;>rfl
theorem Qarl (x:Qaa) (i j:Nat) (d:List Qw):Quj x i j d=cond (okI x.f d (gt (gt x.c i) j)) (.inr (d++[gt (gt x.c i) j])) (.inl false):=by
 have h4:(fun k (_:Unit)=>Qyo x i j d k)=fun k (_:Unit)=>Qrv x i j d k:=rfl
 unfold Quj okI;rw[h4,Qarm,Qto,Quu,Quu];have hr:Qmk (Qip (gt (gt x.c i) j))=Qfx (⟨(gt (gt x.c i) j).Id,(gt (gt x.c i) j).m⟩:Qah):=rfl;rw[hr];have hn:((gt (gt x.c i) j).y !=(-1))= !((gt (gt x.c i) j).y==(-1)):=rfl;rw[hn];cases Qfx (⟨(gt (gt x.c i) j).Id,(gt (gt x.c i) j).m⟩:Qah) <;>cases decide (0≤(gt (gt x.c i) j).x∧(gt (gt x.c i) j).x≤x.f) <;>cases (gt (gt x.c i) j).y==(-1) <;>
  cases decide (IntKind.i64.wrap ((gt (gt x.c i) j).x+1)≤(gt (gt x.c i) j).y∧(gt (gt x.c i) j).y≤x.f) <;>cases (d.all fun w=> !((gt (gt x.c i) j).Id==w.Id && Qke (gt (gt x.c i) j) w)) <;>rfl
theorem Qark (x:Qaa) (i:Nat) (d:List Qw):Qui x i d=cond (decide ((gt x.c i).length≤4) && Qga (okI x.f) d (gt x.c i)) (.inr (d++gt x.c i)) (.inl false):=by
 unfold Qui;rw[Qagt (xs:=gt x.c i) (r:=false) (c:=fun d v=>okI x.f d v) (f:=fun d v=>d++[v]) (fun j s _=>Qarl x i j s),Qaeo]
 by_cases h:(gt x.c i).length≤4
 ·rw[decide_eq_true h,decide_eq_false (show ¬ 4<((gt x.c i).length:Int) by omega)];cases Qga (okI x.f) d (gt x.c i) <;>rfl
 rw[decide_eq_false h,decide_eq_true (show 4<((gt x.c i).length:Int) by omega)];rfl
theorem Qaep (ok:List Qw→Qw→Bool):∀ (l:List (List Qw)) (d:List Qw),Qlr (fun d s=>decide (s.length≤4) && Qga ok d s) (fun d s=>d++s) l d=cond (l.all (fun s=>decide (s.length≤4)) && Qga ok d l.flatten) (some (d++l.flatten)) none
 | [],d=>by simp[Qlr,Qga]
 |s::l,d=>by
  rw[Qlr,Qaep ok l,List.flatten_cons,Qahe,List.all_cons];cases decide (s.length≤4) <;>cases Qga ok d s <;>cases l.all (fun s=>decide (s.length≤4)) <;>simp
theorem Qard (x:Qaa):Qlu x=Qoi (okI x.f) x:=by
 unfold Qlu Qoi;rw[Qagt (xs:=x.c) (r:=false) (c:=fun d s=>decide (s.length≤4) && Qga (okI x.f) d s) (f:=fun d s=>d++s) (fun j s _=>Qark x j s),Qaep,Quu,Quu];cases decide (1≤(x.c.length:Int)∧(x.c.length:Int)≤8) <;>cases decide (0≤x.f∧x.f≤100000) <;>cases x.c.all (fun s=>decide (s.length≤4)) <;>cases Qga (okI x.f) [] x.c.flatten <;>rfl
theorem Qadc {v:Qw} {now:Int} (hn:now≤100000) (h:Qhl v now=true):0≤v.x∧v.x≤now∧(v.y= -1∨(v.x+1≤v.y∧v.y≤now)):=by
 rw[Qto] at h;simp only[Bool.and_eq_true,Bool.or_eq_true,decide_eq_true_eq,beq_iff_eq] at h;obtain⟨⟨_,h1,h2⟩,h3⟩:=h;rw[Qdp (by omega) (by omega)] at h3;exact⟨h1,h2,h3⟩
theorem Qrf (v:Qw) (t:Int):Qgw v t=decide (v.x≤t∧(v.y= -1∨t<v.y)):=by
 unfold Qgw
 by_cases h1:v.x≤t <;>by_cases h2:v.y= -1 <;>by_cases h3:t<v.y <;>simp[h1,h2,h3]
theorem Qoq (v w:Qw):Qhu v w=decide (v.Id≠w.Id∨(v.y ≠ -1∧v.y≤w.x)∨(w.y ≠ -1∧w.y≤v.x)):=by
 unfold Qhu
 by_cases h1:v.Id=w.Id <;>by_cases h2:v.y= -1 <;>by_cases h3:w.y= -1 <;>by_cases h4:v.y≤w.x <;>simp[h1,h2,h3,h4] <;> (try rw[h2] at h4) <;> (try simp_all) <;> (try rfl)
theorem Qado {v w:Qw} {now:Int} (hn:now≤100000) (hv:Qhl v now=true) (hw:Qhl w now=true):Qhu v w= !(v.Id==w.Id && Qke v w):=by
 obtain⟨a1,a2,a3⟩:=Qadc hn hv;obtain⟨b1,b2,b3⟩:=Qadc hn hw;have hm:Qke v w=decide ((v.x≤w.x∧(v.y= -1∨w.x<v.y))∨(w.x≤v.x∧(w.y= -1∨v.x<w.y))):=by
  unfold Qke;rw[Qrf,Qrf]
  by_cases h1:(v.x≤w.x∧(v.y= -1∨w.x<v.y)) <;>by_cases h2:(w.x≤v.x∧(w.y= -1∨v.x<w.y)) <;>simp[h1,h2]
 rw[hm,Qoq];have hb:(v.Id==w.Id)=decide (v.Id=w.Id):=by by_cases h:v.Id=w.Id <;>simp[h]
 rw[hb, ← Bool.decide_and, ← decide_not];apply decide_eq_decide.2;omega
theorem Qahh {now:Int} (hn:now≤100000):∀ (l seen:List Qw),(∀ w∈seen,Qhl w now=true)→Qga (okI now) seen l=Qga (okS now) seen l
 | [],_,_=>rfl
 |v::l,seen,hs=>by
  show(okI now seen v && Qga (okI now) (seen++[v]) l)=(okS now seen v && Qga (okS now) (seen++[v]) l);unfold okI okS;cases hv:Qhl v now with
  |false=>rfl
  |true=>
   have e:(seen.all fun w=> !(v.Id==w.Id && Qke v w))=seen.all fun w=>Qhu v w:=by
    rw[Bool.eq_iff_iff,List.all_eq_true,List.all_eq_true];exact⟨fun h w hw=>by rw[Qado hn hv (hs w hw)];exact h w hw,fun h w hw=>by rw[← Qado hn hv (hs w hw)];exact h w hw⟩
   have ih:=Qahh hn l (seen++[v]) (fun w hw=>by
    rcases List.mem_append.1 hw with h|h
    ·exact hs w h
    rw[List.mem_singleton.1 h];exact hv)
   unfold okI okS at ih;rw[e,ih]
theorem Qwv (x:Qaa):Qlu x=Qgy x:=by
 rw[Qard,Qaak];unfold Qoi
 by_cases h:0≤x.f∧x.f≤100000
 ·rw[Qahh h.2 _ [] (fun w hw=>by cases hw)]
 rw[decide_eq_false h,Bool.and_false,Bool.false_and];rfl
theorem Qabp:Qdm=Qbi:=rfl
theorem Qald (x:Qgd):Qru x=Qkh x:=by
 unfold Qru Qkh;rw[Qast,Qfy x.G];simp only[Qoz,Bool.decide_and,Bool.and_assoc]
theorem Qwu (x:Qba):Qmj x=Qfw x:=by
 unfold Qmj Qfw Qwd;have h1:(fun k (_:Unit)=>Qug x k)=fun k (_:Unit)=>Qni x k:=by
  funext k u;unfold Qug Qni;rw[Qald]
 have h2:(fun k (_:Unit)=>Qyl x k)=fun k (_:Unit)=>Qoe x.t k:=rfl
 rw[h1,h2]
 rw[Qjx (b:=fun k (_:Unit)=>Qni x k) (p:=fun k=>Qni x k == .inr ()) (r:=false) (fun k _=>by
  unfold Qni
  cases Qkh (gt x.o k) <;>cases decide (0<((k:Nat):Int)) <;>cases decide ((gt x.o k).Field≤(gt x.o (k-1)).Field) <;>rfl)]
 rw[Qjx (b:=fun k (_:Unit)=>Qoe x.t k) (p:=fun k=>Qoe x.t k == .inr ()) (r:=false) (fun k _=>by
  unfold Qoe
  cases Qbi (gt x.t k) 0 2 <;>rfl)]
 simp only[Qabp,Qty,Qoz,Qyb,Qaqh,Bool.not_not]
 ac_rfl
theorem Qadm (x:List Qah):Qpk x=Qkx x:=by
 unfold Qpk Qkx Qyt;have h1:(fun k (_:Unit)=>Qys x k)=fun k (_:Unit)=>Qta x k:=rfl
 rw[h1,Qjx (p:=fun k=>Qta x k == .inr ()) (r:=false) (fun k _=>by
  unfold Qta
  cases Qfx (gt x k) <;>rfl)]
 simp only[Qty,Qoz,Bool.and_true]
 ac_rfl
theorem Qane (e:Qk) (x:Qp):Qry e.d x=Qmp e x:=by
 unfold Qry Qmp Qqn;have h1:(fun k (_:Unit)=>Qyr e.d x k)=fun k (_:Unit)=>Qtc x.q ((e.d.c.length:Nat):Int) k:=rfl
 rw[h1,Qjx (p:=fun k=>Qtc x.q ((e.d.c.length:Nat):Int) k == .inr ()) (r:=false) (fun k _=>by
  unfold Qtc
  cases Qbi (gt x.q k) 0 (IntKind.i64.wrap (((e.d.c.length:Nat):Int)-1)) <;>cases decide (0<((k:Nat):Int)) <;>cases decide (gt x.q k≤gt x.q (k-1)) <;>rfl)]
 rw[Qwu,Qadm];simp only[Qabp,Qty,Qoz]
 ac_rfl
theorem Qub (x:List Int) (i:Int):Qik x i=x.any fun y=>y==i:=by
 unfold Qik;rw[Qva (p:=fun y=>y==i) (r:=true) (fun j _=>rfl)];cases x.any fun y=>y==i <;>rfl
theorem Qasv (x a b:Int):Qbi x a b=(decide (a≤x) && decide (x≤b)):=by
 unfold Qbi;rw[Qoz]
theorem Qagd (x:List Int):Qpj x=Qln x:=by
 unfold Qpj Qln;rw[Qjx (n:=3) (p:=fun k=>Qik x k) (r:=false) (fun k _=>rfl)]
 rw[Qjx (p:=fun k=>Qbi (gt x k) 0 2 && !Qgl (List.take k x) (gt x k)) (r:=false) (fun k _=>by
  unfold Qwf
  cases Qbi (gt x k) 0 2 <;>cases Qgl (List.take k x) (gt x k) <;>rfl)]
 have hm:∀ (y:List Int) (i:Int),Qgl y i=y.any fun z=>z==i:=Qub
 by_cases h:x.length=3
 ·match x,h with
  | [a,b,c],_=>
   simp only[Qub,hm,Qasv];have h3:List.range 3=[0,1,2]:=rfl;have h8:[a,b,c].length=3:=rfl;have e0:gt [a,b,c] 0=a:=rfl;have e1:gt [a,b,c] 1=b:=rfl;have e2:gt [a,b,c] 2=c:=rfl;rw[h8,h3];simp only[List.all_cons,List.all_nil];rw[e0,e1,e2];simp only[List.any_cons,List.any_nil,List.take];simp only[Qty,Qyb,Bool.and_true,Bool.or_false,Bool.not_false];rw[Bool.eq_iff_iff];simp only[Bool.and_eq_true,Bool.or_eq_true,beq_iff_eq,decide_eq_true_eq,Bool.not_eq_true',Bool.or_eq_false_iff,beq_eq_false_iff_ne,bne,ne_eq];have h4:((3:Nat):Int)=3:=rfl;have h5:((0:Nat):Int)=0:=rfl;have h6:((1:Nat):Int)=1:=rfl;have h7:((2:Nat):Int)=2:=rfl;simp only[h4,h5,h6,h7,beq_self_eq_true,Bool.not_true,and_true,true_and];constructor <;>intro h <;>omega
 have h1:(((x.length:Nat):Int)==3)=false:=beq_eq_false_iff_ne.2 (by omega);have h2:(((x.length:Nat):Int) !=3)=true:=bne_iff_ne.2 (by omega);rw[h1,h2];cases (List.range 3).all fun k=>Qik x k <;>rfl
theorem Qrb (x:Qk):Qkd x=Qgf x:=by
 unfold Qkd Qgf;have h1:(fun k (_:Unit)=>Qud x k)=fun k (_:Unit)=>Qsm x k:=by
  funext k u;unfold Qud Qsm;rw[Qane]
 have h2:(fun k (_:Unit)=>Que x k)=fun k (_:Unit)=>Qqb x k:=by
  funext k u;unfold Que Qqb;rw[Qwu,Qadm];rfl
 have h3:(fun k (_:Unit)=>Quf x k)=fun k (_:Unit)=>Qvq x k:=by
  funext k u;unfold Quf Qvq;rw[Qalc]
 rw[h1,h2,h3,Qwv,Qagd];generalize Sum.elim id _ (rng (R:=Bool) (fun k (_:Unit)=>Qsm x k) (x.a.length-0) 0 ())=t;simp only[Qabp,Qoz,Qyb]
 ac_rfl
theorem Qwx (x:Qk) (hl:x.a.length≤9223372036854775807):Qcq x=Qay x:=by
 unfold Qcq Qay;rw[Qrb];cases h:Qgf x with
 |false=>
  rw[Qzs (fun j s=>by unfold Qvv;rw[h];rfl)];rfl
 |true=>
  rw[Qagu (n:=x.a.length) (b:=fun k s=>Qnd x k s) (fun j s hj=>by
   unfold Qvv Qnd Qvp Qjn;have hw:IntKind.i64.wrap (((x.a.length:Nat):Int)-1)=((x.a.length:Nat):Int)-1:=Qdp (by omega) (by omega);have hi:Qbi ((j:Nat):Int) 0 (IntKind.i64.wrap (((x.a.length:Nat):Int)-1))=true:=by
    rw[Qfy,hw];exact decide_eq_true (by omega)
   have hm:Qik (gt x.a j).q x.g=Qgl (gt x.a j).q x.g:=rfl;rw[h,hi,hm,Int.toNat_natCast]
   cases (gt x.a j).z==0 <;>cases decide ((gt x.a j).A<(gt x.a j).z) <;>cases Qgl (gt x.a j).q x.g <;>rfl) _ _ _ (by omega)]
  rfl
theorem Qaal {x:List Int} (h:Qln x=true):∀ y∈x,0≤y∧y≤2:=by
 unfold Qln at h
 rw[Qjx (p:=fun k=>Qbi (gt x k) 0 2 && !Qgl (List.take k x) (gt x k)) (r:=false) (fun k _=>by
  unfold Qwf
  cases Qbi (gt x k) 0 2 <;>cases Qgl (List.take k x) (gt x k) <;>rfl)] at h
 intro y hy;obtain⟨k,hk,rfl⟩:=List.getElem_of_mem hy;rw[← Qdl hk];cases ha:(List.range x.length).all (fun k=>Qbi (gt x k) 0 2 && !Qgl (List.take k x) (gt x k)) with
 |false=>
  rw[ha] at h;cases hl:(((x.length:Nat):Int) !=3) <;>rw[hl] at h <;>cases h
 |true=>
  have h2:=List.all_eq_true.1 ha k (List.mem_range.2 hk);cases h3:Qbi (gt x k) 0 2 with
  |false=>rw[h3] at h2;cases h2
  |true=>exact Qez h3
theorem Qahf (now:Int):∀ (l seen:List Qw),Qga (okS now) seen l=true↔(∀ v∈l,Qhl v now=true)∧(∀ v∈l,∀ w∈seen,Qhu v w=true)∧l.Pairwise (fun a b=>Qhu b a=true)
 | [],seen=>by simp[Qga]
 |v::l,seen=>by
  have ih:=Qahf now l (seen++[v]);show(okS now seen v && Qga (okS now) (seen++[v]) l)=true↔_;rw[Bool.and_eq_true,ih];unfold okS;rw[Bool.and_eq_true,List.all_eq_true,List.pairwise_cons];constructor
  ·rintro⟨⟨a,b⟩,c,d,e⟩;refine⟨fun w hw=>?_,fun w hw y hy=>?_,fun w hw=>d w hw v (by simp),e⟩
   ·rcases List.mem_cons.1 hw with rfl|h
    ·exact a
    exact c w h
   rcases List.mem_cons.1 hw with rfl|h
   ·exact b y hy
   exact d w h y (List.mem_append_left _ hy)
  rintro⟨a,b,c,d⟩;refine⟨⟨a v (by simp),fun y hy=>b v (by simp) y hy⟩,fun w hw=>a w (List.mem_cons_of_mem _ hw),fun w hw y hy=>?_,d⟩;rcases List.mem_append.1 hy with h|h
  ·exact b w (List.mem_cons_of_mem _ hw) y h
  rw[List.mem_singleton.1 h];exact c w hw
def Sto (x:Qaa):Prop:=(1≤x.c.length∧x.c.length≤8)∧(0≤x.f∧x.f≤100000)∧(∀ s∈x.c,s.length≤4)∧(∀ v∈x.c.flatten,Qhl v x.f=true)∧x.c.flatten.Pairwise (fun a b=>Qhu b a=true)
theorem Qfo (x:Qaa):Qgy x=true↔Sto x:=by
 rw[Qaak];unfold Qoi Sto;simp only[Bool.and_eq_true,decide_eq_true_eq,List.all_eq_true,Qahf];constructor
 ·rintro⟨⟨⟨a,b⟩,c⟩,d,_,e⟩;exact⟨by omega,b,c,d,e⟩
 rintro⟨a,b,c,d,e⟩;exact⟨⟨⟨by omega,b⟩,c⟩,d,fun _ _ w hw=>(by cases hw),e⟩
theorem Qmv (r:Qah):Qfx r=true↔(∀ z∈r.m,0≤z∧z≤99)∧(0≤r.Id∧r.Id≤999)∧r.m.length=3:=by
 unfold Qfx
 rw[Qpo (xs:=r.m) (p:=fun z=>decide (0≤z∧z≤99)) (r:=false) (fun k _=>by
  unfold Qob
  rw[Qfy]),Qfy]
 have e:(r.m.all fun z=>decide (0≤z∧z≤99))=true↔∀ z∈r.m,0≤z∧z≤99:=by simp only[List.all_eq_true,decide_eq_true_eq]
 rw[← e];cases (r.m.all fun z=>decide (0≤z∧z≤99)) with
 |false=>exact⟨fun h=>(by cases h),fun h=>(by cases h.1)⟩
 |true=>
  show cond (decide (0≤r.Id∧r.Id≤999)) (((r.m.length:Nat):Int)==3) false=true↔_
  by_cases h1:0≤r.Id∧r.Id≤999
  ·rw[decide_eq_true h1,cond_true,beq_iff_eq];exact⟨fun h=>⟨rfl,h1,by omega⟩,fun h=>by omega⟩
  rw[decide_eq_false h1];exact⟨fun h=>(by cases h),fun h=>absurd h.2.1 h1⟩
theorem Qnr {v:Qw} {now:Int} (hn:now≤100000):Qhl v now=true↔Qfx (⟨v.Id,v.m⟩:Qah)=true∧0≤v.x∧v.x≤now∧(v.y= -1∨(v.x+1≤v.y∧v.y≤now)):=by
 rw[Qto];simp only[Bool.and_eq_true,Bool.or_eq_true,decide_eq_true_eq,beq_iff_eq];constructor
 ·rintro⟨⟨a,b,c⟩,d⟩;rw[Qdp (by omega) (by omega)] at d;exact⟨a,b,c,d⟩
 rintro⟨a,b,c,d⟩;rw[Qdp (by omega) (by omega)];exact⟨⟨a,b,c⟩,d⟩
def Qsd (l:List Qba) (k:Nat):Bool:= !decide (0<((k:Nat):Int)) || !decide ((gt l k).Id≤(gt l (k-1)).Id)
theorem Qaen {α:Type} [Inhabited α] {g:α→Int} {l:List α} (h:∀ k,0<k→k<l.length→g (gt l (k-1))<g (gt l k)):l.Pairwise (fun a b=>g a<g b):=by
 have hc:∀ c i,i+c+1<l.length→g (gt l i)<g (gt l (i+c+1)):=fun c=>by
  induction c with
  |zero=>intro i hi;exact h (i+1) (by omega) hi
  |succ c ih=>
   intro i hi;have a:=ih i (by omega);have b:=h (i+(c+1)+1) (by omega) hi;rw[show i+(c+1)+1-1=i+c+1 by omega] at b;omega
 rw[List.pairwise_iff_getElem];intro i j hi hj hij;have:=hc (j-i-1) i (by omega);rw[show i+(j-i-1)+1=j by omega,Qdl hi,Qdl hj] at this;exact this
theorem Qxb {l:List Qba} (h:Qhr l=true):l.length≤24∧(∀ q∈l,Qfw q=true)∧l.Pairwise (fun a b=>a.Id<b.Id):=by
 unfold Qhr at h
 rw[Qjx (p:=fun k=>Qfw (gt l k) && Qsd l k) (r:=false) (fun k _=>by
  unfold Qaac Qsd
  cases Qfw (gt l k) <;>cases decide (0<((k:Nat):Int)) <;>cases decide ((gt l k).Id≤(gt l (k-1)).Id) <;>rfl)] at h
 have ha:(List.range l.length).all (fun k=>Qfw (gt l k) && Qsd l k)=true∧decide (((l.length:Nat):Int)≤24)=true:=by
  revert h
  cases (List.range l.length).all (fun k=>Qfw (gt l k) && Qsd l k) with
  |true=>intro h;exact⟨rfl,h⟩
  |false=>intro h;cases h
 obtain⟨ha,hl⟩:=ha;rw[decide_eq_true_eq] at hl;rw[List.all_eq_true] at ha;refine⟨by omega,fun q hq=>?_,Qaen (g:=fun q:Qba=>q.Id) fun k k0 k1=>?_⟩
 ·obtain⟨i,hi,rfl⟩:=List.mem_iff_getElem.1 hq;have:=ha i (List.mem_range.2 hi);rw[Bool.and_eq_true] at this;rw[← Qdl hi];exact this.1
 have:=ha k (List.mem_range.2 k1);rw[Bool.and_eq_true] at this;have h2:=this.2;unfold Qsd at h2;rw[decide_eq_true (show(0:Int)<((k:Nat):Int) by omega),Bool.not_true,Bool.false_or,Bool.not_eq_true',decide_eq_false_iff_not] at h2;omega
theorem Qvb {R S:Type} {b:Nat→S→R⊕(S⊕S)} {n:Nat} {P:Nat→S→Prop} {Q:S→Prop} (h:∀ k s,k<n→P k s→(∃ s',b k s= .inr (.inr s')∧P (k+1) s')∨∃ s',b k s= .inr (.inl s')∧Q s'):∀ m k s,m+k=n→P k s→∃ s',Qdo b m k s= .inr s'∧(Q s'∨P n s')
 |0,k,s,e,hp=>⟨s,rfl, .inr (by rw[show n=k by omega];exact hp)⟩
 |m+1,k,s,e,hp=>by
  rcases h k s (by omega) hp with⟨s',h1,h2⟩|⟨s',h1,h2⟩
  ·obtain⟨s'',h3,h4⟩:=Qvb h m (k+1) s' (by omega) h2;exact⟨s'',by rw[Qdo,h1];exact h3,h4⟩
  exact⟨s',by rw[Qdo,h1];rfl, .inl h2⟩
theorem Qalu {l:List Qba} {n:Int} (h:((l.length:Nat):Int)≤n∧∀ q∈l,q.o.length≤3∧q.t.length≤3) (hn:n≤100):l.length≤68719476736∧∀ z∈l,Qil 68719476736 z:=⟨by omega,fun z hz=>⟨by have:=(h.2 z hz).1;omega,by have:=(h.2 z hz).2;omega⟩⟩
theorem Qacz (l:List Qba) (f v:Int):(Qfq l f v).length≤l.length:=by
 unfold Qfq
 obtain⟨s',e,h⟩:=Qvb (R:=List Int) (b:=fun k (s:List Int)=>Qoc l f v k s) (n:=l.length) (P:=fun k s=>s.length≤k) (Q:=fun s=>s.length≤l.length) (fun k s hk hs=>by
  have happ:∀ y,(s++[y]).length≤k+1:=fun y=>by rw[List.length_append];show s.length+1≤k+1;omega
  show(∃ s',Qoc l f v k s= .inr (.inr s')∧_)∨∃ s',Qoc l f v k s= .inr (.inl s')∧_;unfold Qoc;cases Qhr l with
  |false=>exact .inr ⟨_,rfl,by omega⟩
  |true=>
  cases Qbi f 0 2 with
  |false=>exact .inr ⟨_,rfl,by omega⟩
  |true=>
  cases Qbi v 0 99 with
  |false=>exact .inr ⟨_,rfl,by omega⟩
  |true=>
  cases Qkk (gt l k) f v with
  |true=>exact .inl ⟨_,rfl,happ _⟩
  |false=>exact .inl ⟨_,rfl,by omega⟩) (l.length-0) 0 [] (by omega) (Nat.zero_le _)
 rw[e];exact h.elim id id
theorem Qamk (l:List Qba) (f:Int):(Qew l f).length≤100∧∀ s∈Qew l f,s.E.length≤l.length:=by
 unfold Qew;cases Qhr l with
 |false=>exact⟨Nat.zero_le _,fun s hs=>by cases hs⟩
 |true=>
 cases Qbi f 0 2 with
 |false=>exact⟨Nat.zero_le _,fun s hs=>by cases hs⟩
 |true=>
 obtain⟨d,e,h⟩:=Qmn (R:=List Qdk) (body:=fun k (s:List Qdk)=>Qnj l f k s) (n:=100) (fun k d=>d.length≤k∧∀ s∈d,s.E.length≤l.length) (fun k d _ ⟨h1,h2⟩=>by
  have happ:∀ y:Qdk,y.E.length≤l.length→(d++[y]).length≤k+1∧∀ s∈d++[y],s.E.length≤l.length:=fun y hy=>⟨by rw[List.length_append];show d.length+1≤k+1;omega,fun s hs=>by
   rcases List.mem_append.1 hs with h|h
   ·exact h2 s h
   rw[List.mem_singleton.1 h];exact hy⟩
  show ∃ s',Qnj l f k d= .inr s'∧_;unfold Qnj
  by_cases h0:0<d.length
  ·rw[decide_eq_true (show(0:Int)<((d.length:Nat):Int) by omega),cond_true];cases Qhk ((gt d (d.length-1)).E) (Qfq l f ((k:Nat):Int)) with
   |true=>
    refine⟨_,rfl,by rw[List.length_set];omega,fun s hs=>?_⟩;rcases List.mem_or_eq_of_mem_set hs with h|rfl
    ·exact h2 s h
    exact h2 (gt d (d.length-1)) (Qav (by omega))
   |false=>exact⟨_,rfl,happ _ (Qacz _ _ _)⟩
  rw[decide_eq_false (show ¬ (0:Int)<((d.length:Nat):Int) by omega),cond_false]
  exact⟨_,rfl,happ _ (Qacz _ _ _)⟩) (100-0) 0 [] (by omega) ⟨Nat.zero_le _,fun s hs=>by cases hs⟩
 rw[e];exact h
theorem Qajs (l:List Qba):Qgk l=⟨[],[]⟩∨Qgk l=⟨l,[Qew l 0,Qew l 1,Qew l 2]⟩:=by
 unfold Qgk;cases Qhr l with
 |false=>exact .inl rfl
 |true=>exact .inr rfl
theorem Qajt {l:List Qba} {n:Int} (h:((l.length:Nat):Int)≤n∧∀ q∈l,q.o.length≤3∧q.t.length≤3) (hn:n≤100):Qvj 68719476736 (Qgk l):=by
 rcases Qajs l with e|e
 ·rw[e];exact⟨⟨Nat.zero_le _,fun z hz=>by cases hz⟩,Nat.zero_le _,fun z hz=>by cases hz⟩
 rw[e];have hs:∀ f,(Qew l f).length≤68719476736∧∀ z∈Qew l f,Qvl 68719476736 z:=fun f=>by
  obtain⟨h1,h2⟩:=Qamk l f;exact⟨by omega,fun z hz=>by have:=h2 z hz;show z.E.length≤_;omega⟩
 refine⟨Qalu h hn,(by show 3≤68719476736;decide),fun z hz=>?_⟩;rcases List.mem_cons.1 hz with rfl|hz
 ·exact hs 0
 rcases List.mem_cons.1 hz with rfl|hz
 ·exact hs 1
 rcases List.mem_cons.1 hz with rfl|hz
 ·exact hs 2
 cases hz
def QOk (q:Qba):Prop:=(0≤q.Id∧q.Id≤23)∧(0≤q.u∧q.u≤3)∧(∀ c∈q.o,(0≤c.Field∧c.Field≤2)∧(0≤c.G∧c.G≤c.H)∧c.H≤99)∧q.o.Pairwise (fun a b=>a.Field<b.Field)∧q.o.length≤3∧(∀ o∈q.t,0≤o∧o≤2)∧1≤q.t.length∧q.t.length≤3
theorem Qtz {a b:Bool}:cond a b false=true↔a=true∧b=true:=by cases a <;>simp
theorem Qaqm {a b:Bool}:cond a false b=true↔a=false∧b=true:=by cases a <;>simp
theorem Qow {α:Type} [Inhabited α] {xs:List α} {p:α→Bool} {b:Nat→Unit→Bool⊕Unit} (hb:∀ j,j<xs.length→b j ()=cond (p (gt xs j)) (.inr ()) (.inl false)) {X:Bool}:Sum.elim id (fun(_:Unit)=>X) (rng b (xs.length-0) 0 ())=true↔(∀ a∈xs,p a=true)∧X=true:=by
 rw[Qpo hb];cases h:xs.all p with
 |true=>exact⟨fun hx=>⟨List.all_eq_true.1 h,hx⟩,fun hx=>hx.2⟩
 |false=>
  refine⟨fun hx=>(by cases hx),fun hx=>?_⟩;rw[List.all_eq_true.2 hx.1] at h;cases h
theorem Qsi {α:Type} [Inhabited α] {xs:List α} {p:α→Bool} {g:α→Int} {b:Nat→Unit→Bool⊕Unit} (hb:∀ j,j<xs.length→b j ()=cond (p (gt xs j)) (cond (decide (0<((j:Nat):Int))) (cond (decide (g (gt xs j)≤g (gt xs (j-1)))) (.inl false) (.inr ())) (.inr ())) (.inl false)) {X:Bool}:Sum.elim id (fun(_:Unit)=>X) (rng b (xs.length-0) 0 ())=true↔((∀ a∈xs,p a=true)∧xs.Pairwise (fun a b=>g a<g b))∧X=true:=by
 rw[Qjx (p:=fun k=>p (gt xs k) && (!decide (0<((k:Nat):Int)) || !decide (g (gt xs k)≤g (gt xs (k-1))))) (r:=false) (fun k hk=>by
  rw[hb k hk]
  cases p (gt xs k) <;>cases decide (0<((k:Nat):Int)) <;>cases decide (g (gt xs k)≤g (gt xs (k-1))) <;>rfl)]
 have key:(List.range xs.length).all (fun k=>p (gt xs k) && (!decide (0<((k:Nat):Int)) || !decide (g (gt xs k)≤g (gt xs (k-1)))))=true↔((∀ a∈xs,p a=true)∧xs.Pairwise (fun a b=>g a<g b)):=by
  rw[List.all_eq_true];constructor
  ·intro ha;refine⟨fun q hq=>?_,Qaen (g:=g) fun k k0 k1=>?_⟩
   ·obtain⟨i,hi,rfl⟩:=List.mem_iff_getElem.1 hq;have:=ha i (List.mem_range.2 hi);rw[Bool.and_eq_true] at this;rw[← Qdl hi];exact this.1
   have:=ha k (List.mem_range.2 k1);rw[Bool.and_eq_true] at this;have h2:=this.2;rw[decide_eq_true (show(0:Int)<((k:Nat):Int) by omega),Bool.not_true,Bool.false_or,Bool.not_eq_true',decide_eq_false_iff_not] at h2;omega
  rintro⟨h1,h2⟩ k hk;have hk:=List.mem_range.1 hk;rw[Bool.and_eq_true];refine⟨h1 _ (Qav hk),?_⟩
  by_cases h0:0<k
  ·rw[decide_eq_false (show ¬ g (gt xs k)≤g (gt xs (k-1)) by
    have:=List.pairwise_iff_getElem.1 h2 (k-1) k (by omega) hk (by omega);rw[Qdl hk,Qdl (by omega)]
    omega)]
   simp
  rw[decide_eq_false (show ¬ (0:Int)<((k:Nat):Int) by omega)];rfl
 rw[← key];cases (List.range xs.length).all (fun k=>p (gt xs k) && (!decide (0<((k:Nat):Int)) || !decide (g (gt xs k)≤g (gt xs (k-1))))) with
 |true=>exact⟨fun hx=>⟨rfl,hx⟩,fun hx=>hx.2⟩
 |false=>exact⟨fun hx=>(by cases hx),fun hx=>(by cases hx.1)⟩
def Qme (n:Nat) (l:List Int):Prop:=(∀ y∈l,0≤y∧y<((n:Nat):Int))∧l.Pairwise (fun a b=>a<b)∧0<l.length
def Qtl (l:List Qah):Prop:=(∀ r∈l,Qfx r=true)∧l.length≤1000
def Qoo (s:Qaa) (a:Qp):Prop:=Qfw a.e=true∧(0≤a.r∧a.r≤s.f)∧Qme s.c.length a.q∧(0≤a.v∧a.v≤100000)∧(0≤a.A∧a.A≤1000)∧(0≤a.z∧a.z≤32)∧Qtl a.p
def Qakt (s:Qaa) (f:Qco):Prop:=Qfw f.e=true∧(0≤f.r∧f.r≤s.f)∧(0≤f.n∧f.n≤100000)∧Qtl f.p
structure Eng (x:Qk):Prop where
 st:Qgy x.d=true
 cur:0≤x.g∧x.g<((x.d.c.length:Nat):Int)
 ord:Qln x.l=true
 al:x.a.length≤8
 stp:0≤x.n∧x.n≤100000
 dl:x.j.length≤1000
 ll:x.k.length≤1000
 act:∀ a∈x.a,Qoo x.d a
 srt:x.a.Pairwise (fun a b=>a.e.Id<b.e.Id)
 fin:∀ f∈x.j,Qakt x.d f
 led:∀ c∈x.k,Qkg c=true
theorem Qww (l:List Qah):Qkx l=true↔Qtl l:=by
 unfold Qkx Qtl;rw[Qow (p:=Qfx) (fun _ _=>rfl),decide_eq_true_iff];constructor <;>rintro⟨h1,h2⟩ <;>exact⟨h1,by omega⟩
theorem Qamu {n:Nat} (l:List Int) (hn:n≤1000):Qqn l ((n:Nat):Int)=true↔Qme n l:=by
 unfold Qqn Qme;rw[Qsi (p:=fun y=>Qbi y 0 (IntKind.i64.wrap (((n:Nat):Int)-1))) (g:=id) (fun _ _=>rfl),decide_eq_true_iff];rw[Qdp (by omega) (by omega)];simp only[Qfy,decide_eq_true_iff,id];constructor
 ·rintro⟨⟨h1,h2⟩,h3⟩;exact⟨fun y hy=>by have:=h1 y hy;omega,h2,by omega⟩
 rintro⟨h1,h2,h3⟩;exact⟨⟨fun y hy=>by have:=h1 y hy;omega,h2⟩,by omega⟩
theorem Qabq (x:Qk) (a:Qp) (h:x.d.c.length≤1000):Qmp x a=true↔Qoo x.d a:=by
 unfold Qmp Qoo;simp only[Qtz,Qfy,decide_eq_true_iff,Qww,Qamu _ h]
theorem Qjc (x:Qk):Qgf x=true↔Eng x:=by
 unfold Qgf;simp only[Qtz,Qaqm,Qfy,decide_eq_true_iff,decide_eq_false_iff_not];constructor
 ·rintro⟨h1,h2,h3,h4,h5,h6,h7,h8⟩;have hs:=((Qfo _).1 h1).1;rw[Qdp (by omega) (by omega)] at h2
  rw[Qsi (p:=Qmp x) (g:=fun a=>a.e.Id) (fun _ _=>rfl),Qow (p:=fun f=>Qfw f.e && Qbi f.r 0 x.d.f && Qbi f.n 0 100000 && Qkx f.p) (fun j _=>by
   unfold Qqb
   cases Qfw (gt x.j j).e <;>cases Qbi (gt x.j j).r 0 x.d.f <;>cases Qbi (gt x.j j).n 0 100000 <;>cases Qkx (gt x.j j).p <;>rfl),Qow (p:=Qkg) (fun _ _=>rfl)] at h8
  obtain⟨⟨h9,h10⟩,h11,h12,_⟩:=h8
  exact⟨h1,by omega,h3,by omega,h5,by omega,by omega,fun a ha=>(Qabq x a (by omega)).1 (h9 a ha),h10,fun f hf=>by
   have:=h11 f hf;simp only[Bool.and_eq_true,Qfy,decide_eq_true_iff,Qww] at this
   exact⟨this.1.1.1,this.1.1.2,this.1.2,this.2⟩,h12⟩
 intro h;have hs:=((Qfo _).1 h.st).1;have hcur:=h.cur;have hal:=h.al;have hdl:=h.dl;have hll:=h.ll;rw[Qdp (by omega) (by omega)]
 rw[Qsi (p:=Qmp x) (g:=fun a=>a.e.Id) (fun _ _=>rfl),Qow (p:=fun f=>Qfw f.e && Qbi f.r 0 x.d.f && Qbi f.n 0 100000 && Qkx f.p) (fun j _=>by
  unfold Qqb
  cases Qfw (gt x.j j).e <;>cases Qbi (gt x.j j).r 0 x.d.f <;>cases Qbi (gt x.j j).n 0 100000 <;>cases Qkx (gt x.j j).p <;>rfl),Qow (p:=Qkg) (fun _ _=>rfl)]
 refine⟨h.st,by omega,h.ord,by omega,h.stp,by omega,by omega,⟨fun a ha=>(Qabq x a (by omega)).2 (h.act a ha),h.srt⟩,fun f hf=>?_,h.led,rfl⟩;simp only[Bool.and_eq_true,Qfy,decide_eq_true_iff,Qww];have:=h.fin f hf;exact⟨⟨⟨this.1,this.2.1⟩,this.2.2.1⟩,this.2.2.2⟩
theorem Qajp {l:List Qba} (h1:∀ q∈l,Qfw q=true) (h2:l.Pairwise (fun a b=>a.Id<b.Id)) (h3:l.length≤24):Qhr l=true:=by
 unfold Qhr;rw[Qsi (p:=Qfw) (g:=fun q=>q.Id) (fun _ _=>rfl)];exact⟨⟨h1,h2⟩,decide_eq_true (by omega)⟩
theorem Qabv {l:List Qba} (hq:Qhr l=true):Qgk l=⟨l,[Qew l 0,Qew l 1,Qew l 2]⟩:=by
 unfold Qgk;rw[hq];rfl
theorem Qafj {α:Type} [Inhabited α] {xs:List α} {i:Nat} (h: ¬ i<xs.length):gt xs i=default:=by
 unfold gt;rw[List.getD_eq_getElem?_getD,List.getElem?_eq_none (by omega)];rfl
theorem Qafk {α:Type} [Inhabited α] {P:α→Prop} {d:List α} {k:Nat} {y:α} (h:∀ i,P (gt d i)) (hy:P y):∀ i,P (gt (d.set k y) i):=fun i=>by
 by_cases hi:i=k
 ·subst hi
  by_cases hl:i<d.length
  ·have e:gt (d.set i y) i=y:=by unfold gt;rw[List.getD_eq_getElem?_getD,List.getElem?_set_self hl];rfl
   rw[e];exact hy
  have e:d.set i y=d:=List.set_eq_of_length_le (by omega);rw[e];exact h i
 have e:gt (d.set k y) i=gt d i:=by unfold gt;rw[List.getD_eq_getElem?_getD,List.getD_eq_getElem?_getD,List.getElem?_set_ne (fun e=>hi e.symm)]
 rw[e];exact h i
theorem Qahp:∀ (l:List Int) (a b:Int),l.Pairwise (fun x y=>x<y)→(∀ y∈l,a≤y∧y<b)→l.length≤(b-a).toNat
 | [],_,_,_,_=>Nat.zero_le _
 |x::l,a,b,h,hb=>by
  rw[List.pairwise_cons] at h;have h0:=hb x (List.mem_cons_self ..);have:=Qahp l (x+1) b h.2 fun y hy=>⟨by have:=h.1 y hy;omega,(hb y (List.mem_cons_of_mem _ hy)).2⟩
  rw[List.length_cons];omega
theorem Qxg {n:Nat} {l:List Int} (h:Qme n l):l.length≤n:=by
 have:=Qahp l 0 n h.2.1 (fun y hy=>h.1 y hy);omega
theorem Qadb {x:Qk} (h:Eng x) (i:Nat):(gt x.a i).q.length≤8∧(gt x.a i).p.length≤1000+4*0:=by
 by_cases hi:i<x.a.length
 ·have ha:=h.act _ (Qav hi);have hs:=((Qfo _).1 h.st).1;have h1:=Qxg ha.2.2.1;have h2:=ha.2.2.2.2.2.2.2;omega
 rw[Qafj hi];exact⟨Nat.zero_le _,Nat.zero_le _⟩
def Qhf (c:Int) (a:Qp):Bool:=Qjn a && Qik a.q c
theorem Qaci (x:Qk):Qcq x=cond (Qkd x) ((x.a.filter (Qhf x.g)).map fun a=>a.e.Id) []:=by
 unfold Qcq
 rw[Qis (xs:=x.a) (f:=fun d a=>cond (Qhf x.g a) (d++[a.e.Id]) d) (b:=fun k s=>Qnd x k s) (fun j s _=>by
  unfold Qnd Qhf
  cases Qjn (gt x.a j) <;>cases Qik (gt x.a j).q x.g <;>rfl),Qlt]
 rfl
theorem Qtj {q:Qba} (h:Qfw q=true):QOk q:=by
 unfold Qfw at h;rw[Qsi (p:=Qkh) (g:=fun c=>c.Field) (fun _ _=>rfl)] at h;obtain⟨⟨h1,h2⟩,h3⟩:=h;unfold Qwd at h3;simp only[Qtz,Qfy,decide_eq_true_iff] at h3;obtain⟨h4,h5,h6,h7⟩:=h3;rw[Qow (p:=fun o=>decide (0≤o∧o≤2)) (fun k _=>by unfold Qoe;rw[Qfy])] at h7;obtain⟨h8,h9⟩:=h7;rw[decide_eq_true_iff] at h9;refine⟨h4,h5,fun c hc=>?_,h2,by omega,fun o ho=>of_decide_eq_true (h8 o ho),by omega,by omega⟩;have:=h1 c hc;unfold Qkh at this;simp only[Qtz,Qfy,decide_eq_true_iff] at this;exact this
theorem Qaku {x y:Qk} (h:x.a.map (fun a=>a.e.Id)=y.a.map (fun a=>a.e.Id)) (i:Int):Qad x i=Qad y i:=by
 have hl:x.a.length=y.a.length:=by have:=congrArg List.length h;simpa using this
 unfold Qad;rw[hl];have e:∀ m k,m+k=y.a.length→rng (R:=Int) (fun k (_:Unit)=>Qhh x i k) m k ()=rng (R:=Int) (fun k (_:Unit)=>Qhh y i k) m k ():=by
  intro m
  induction m with
  |zero=>intro k _;rfl
  |succ m ih=>
   intro k hk;have hb:Qhh x i k=Qhh y i k:=by
    unfold Qhh;have h2:(x.a.map fun a=>a.e.Id)[k]?=(y.a.map fun a=>a.e.Id)[k]?:=by rw[h]
    rw[List.getElem?_map,List.getElem?_map,Qch (show k<x.a.length by omega),Qch (show k<y.a.length by omega)] at h2;have h3:(gt x.a k).e.Id=(gt y.a k).e.Id:=Option.some.inj h2;rw[h3]
   rw[rng,rng,hb];cases Qhh y i k with
   |inl r=>rfl
   |inr u=>exact ih (k+1) (by omega)
 rw[e _ _ (by omega)]
theorem Qno {x:Qk} (hs:x.a.Pairwise (fun a b=>a.e.Id<b.e.Id)) {i:Nat} (hi:i<x.a.length):Qad x (gt x.a i).e.Id=((i:Nat):Int):=by
 unfold Qad;have hne:∀ j,j<i→(gt x.a j).e.Id≠(gt x.a i).e.Id:=fun j hj=>by
  have:=List.pairwise_iff_getElem.1 hs j i (by omega) hi hj;rw[Qdl (by omega),Qdl hi];omega
 have e:∀ m k,m+k=x.a.length→k≤i→rng (R:=Int) (fun k (_:Unit)=>Qhh x (gt x.a i).e.Id k) m k ()= .inl ((i:Nat):Int):=by
  intro m
  induction m with
  |zero=>intro k h1 h2;omega
  |succ m ih=>
   intro k h1 h2;rw[rng];show Sum.elim _ _ (Qhh x (gt x.a i).e.Id k)=_;unfold Qhh
   by_cases hk:k=i
   ·subst hk;rw[beq_self_eq_true];rfl
   rw[beq_eq_false_iff_ne.2 (hne k (by omega))];exact ih (k+1) (by omega) (by omega)
 rw[e _ _ (by omega) (Nat.zero_le _)];rfl
def Qhe (x:Qk) (ids:List Int):List Qba:=ids.map fun y=>(gt x.a (Qad x y).toNat).e
theorem Qacy {x:Qk} {ids:List Int} {k:Nat} (h:k<ids.length):Qhe x (ids.take (k+1))=Qhe x (ids.take k)++[(gt x.a (Qad x (gt ids k)).toNat).e]:=by
 unfold Qhe;rw[List.take_add_one,Qch h,List.map_append];rfl
theorem Qamh {B:Nat} {x:Qk} (h:Qhb B x) {ids:List Int} (hl:ids.length≤B):(Qhe x ids).length≤B∧∀ y∈Qhe x ids,Qil B y:=by
 unfold Qhe;refine⟨by rw[List.length_map];exact hl,fun y hy=>?_⟩;obtain⟨i,_,rfl⟩:=List.mem_map.1 hy
 by_cases hi:(Qad x i).toNat<x.a.length
 ·exact(h.2.2.1.2 _ (Qav hi)).1
 rw[Qafj hi];exact⟨Nat.zero_le _,Nat.zero_le _⟩
theorem Qaca {x:Qk} (h:Eng x):x.a.length≤9223372036854775807:=by have:=h.al;omega
theorem Qnp {x:Qk} (h:Eng x):Qay x=(x.a.filter (Qhf x.g)).map fun a=>a.e.Id:=by
 rw[← Qwx x (Qaca h),Qaci,Qrb,(Qjc x).2 h];rfl
theorem Qacw {x:Qk} (h:Eng x):Qhe x (Qay x)=(x.a.filter (Qhf x.g)).map fun a=>a.e:=by
 rw[Qnp h];unfold Qhe;rw[List.map_map];refine List.map_congr_left fun a ha=>?_
 obtain⟨i,hi,rfl⟩:=List.mem_iff_getElem.1 (List.mem_filter.1 ha).1;show(gt x.a (Qad x (x.a[i]).e.Id).toNat).e=_;rw[← Qdl hi,Qno h.srt hi,Int.toNat_natCast]
theorem Qacv {x:Qk} (h:Eng x):Qhr (Qhe x (Qay x))=true:=by
 rw[Qacw h];refine Qajp (fun q hq=>?_) ?_ ?_
 ·obtain⟨a,ha,rfl⟩:=List.mem_map.1 hq;exact(h.act a (List.mem_filter.1 ha).1).1
 ·rw[List.pairwise_map];exact h.srt.filter _
 rw[List.length_map];have:=List.length_filter_le (Qhf x.g) x.a;have:=h.al;omega
theorem Qot {x:Qk} (h:Eng x):(Qay x).length≤8:=by
 rw[Qnp h,List.length_map];have:=List.length_filter_le (Qhf x.g) x.a;have:=h.al;omega
theorem Qame {x:Qk} (h:Eng x) (y:Int) (hy:y∈Qay x):0≤Qad x y:=by
 rw[Qnp h] at hy;obtain⟨a,ha,rfl⟩:=List.mem_map.1 hy;obtain⟨i,hi,rfl⟩:=List.mem_iff_getElem.1 (List.mem_filter.1 ha).1;rw[← Qdl hi,Qno h.srt hi];omega
theorem Qacx {x:Qk} (h:Eng x):(Qgk (Qhe x (Qay x))).F.length=3∧Qvj 68719476736 (Qgk (Qhe x (Qay x))):=by
 have ha:=Qacv h;obtain⟨hl,hq,_⟩:=Qxb ha
 exact⟨by rw[Qabv ha];rfl,Qajt (n:=24) ⟨by omega,fun q hq'=>by
  have:=Qtj (hq q hq');obtain⟨_,_,_,_,h5,_,_,h8⟩:=this
  exact⟨h5,h8⟩⟩ (by decide)⟩
theorem Qamf {x:Qk} (h:Eng x) {j:Nat} (hj:j<(gt x.d.c x.g.toNat).length):(gt (gt x.d.c x.g.toNat) j).m.length=3:=by
 have hc:=h.cur;have hs:=(Qfo _).1 h.st;have hv:=hs.2.2.2.1 _ (List.mem_flatten.2 ⟨_,Qav (show x.g.toNat<x.d.c.length by omega),Qav hj⟩);exact((Qmv _).1 ((Qnr hs.2.1.2).1 hv).1).2.2
theorem Qtn {x:Qk} (h:Eng x):(gt x.d.c x.g.toNat).length≤4:=by
 have hc:=h.cur;exact((Qfo _).1 h.st).2.2.1 _ (Qav (by omega))
theorem Qxc {x:Qk} {d:List Qp} (h:d.map (fun a=>a.e.Id)=x.a.map (fun a=>a.e.Id)) (y:Int):Qad (⟨x.d,x.g,x.l,d,x.j,x.k,x.n⟩:Qk) y=Qad x y∧d.length=x.a.length:=by
 refine⟨Qaku h y,?_⟩;have:=congrArg List.length h;rw[List.length_map,List.length_map] at this;exact this
theorem Qajh (l:List Int) (c:Int):Qlx l c=l.filter (fun y=>y !=c):=by
 unfold Qlx
 rw[Qis (xs:=l) (f:=fun d y=>cond (y !=c) (d++[y]) d) (b:=fun k s=>Qvy l c k s) (fun j s _=>by
  unfold Qvy
  cases gt l j !=c <;>rfl),Qlt (fun y=>y !=c) (fun y=>y)]
 show []++_=_;rw[List.nil_append,List.map_id']
theorem Qbbb (l:List Int) (c:Int):(Qlx l c).length≤l.length:=by
 rw[Qajh];exact List.length_filter_le _ _
theorem Qvg {d:List Qp} {k:Nat} {y:Qp} (h:y.e.Id=(gt d k).e.Id):(d.set k y).map (fun(a:Qp)=>a.e.Id)=d.map (fun(a:Qp)=>a.e.Id):=by
 refine List.ext_getElem? fun i=>?_
 rw[List.getElem?_map,List.getElem?_map,List.getElem?_set]
 by_cases hk:k=i
 ·subst hk
  by_cases hl:k<d.length
  ·rw[if_pos rfl,if_pos hl,Qch hl];exact congrArg some h
  rw[if_pos rfl,if_neg hl,List.getElem?_eq_none (by omega)]
 rw[if_neg hk]
theorem Qtm {d:List Qp} {k:Nat} {y:Qp} {n m:Nat} (h:∀ i,(gt d i).q.length≤8∧(gt d i).p.length≤n) (hn:n≤m) (h1:y.q.length≤(gt d k).q.length) (h2:y.p.length+n≤(gt d k).p.length+m):∀ i,(gt (d.set k y) i).q.length≤8∧(gt (d.set k y) i).p.length≤m:=
 Qafk (P:=fun(a:Qp)=>a.q.length≤8∧a.p.length≤m) (fun i=>by have:=h i;omega) (by have:=h k;omega)
abbrev Qkj (x0:Qk) (G161:Int) (k190:Nat) (d192:(List Qp)):(List Qah):=
 ((gt d192 (G161.toNat)).p++[(⟨(gt (gt x0.d.c (x0.g.toNat)) k190).Id,(gt (gt x0.d.c (x0.g.toNat)) k190).m⟩:Qah)])
abbrev Qnk (x0:Qk) (G161:Int) (k190:Nat) (d192:(List Qp)):(List Qp):=
 (d192.set (G161.toNat) (⟨(gt d192 (G161.toNat)).e,(gt d192 (G161.toNat)).r,(gt d192 (G161.toNat)).q,(gt d192 (G161.toNat)).v,(gt d192 (G161.toNat)).A,(gt d192 (G161.toNat)).z,(Qkj x0 G161 k190 d192)⟩:Qp))
abbrev Qqg (x0:Qk) (G161:Int) (s191:Int) (d192:(List Qp)):(List Qp):=
 (d192.set (G161.toNat) (⟨(gt d192 (G161.toNat)).e,(gt d192 (G161.toNat)).r,(Qlx ((gt d192 (G161.toNat)).q) x0.g),(gt d192 (G161.toNat)).v,(IntKind.i64.wrap (((gt d192 (G161.toNat)).A)+s191)),(gt d192 (G161.toNat)).z,(gt d192 (G161.toNat)).p⟩:Qp))
def Qqf (x0:Qk) (x1:(List Int)) (d52:(List Qba)) (k139:Nat) (d150:(List Qp)) (k190:Nat) (s191:Int) (d192:(List Qp)):Qk⊕(Int×(List Qp)):=
 cond (Qgl ((Qkw (Qgk d52) (⟨(gt (gt x0.d.c (x0.g.toNat)) k190).Id,(gt (gt x0.d.c (x0.g.toNat)) k190).m⟩:Qah) x0.l).1) (gt x1 k139)) (cond (Qki (gt (gt x0.d.c (x0.g.toNat)) k190) ((gt d192 ((Qad (⟨x0.d,x0.g,x0.l,d150,x0.j,x0.k,x0.n⟩:Qk) (gt x1 k139)).toNat)).r)) (Sum.inr ((IntKind.i64.wrap (s191+1)),(Qnk x0 (Qad (⟨x0.d,x0.g,x0.l,d150,x0.j,x0.k,x0.n⟩:Qk) (gt x1 k139)) k190 d192))) (Sum.inr (s191,d192))) (Sum.inr (s191,d192))
abbrev Qqh (x0:Qk) (x1:(List Int)) (d143:(List Int)) (d147:(List Int)):(List Qdi):=
 (x0.k++[(⟨x0.g,(((gt x0.d.c (x0.g.toNat)).length:Nat):Int),x1,d143,d147⟩:Qdi)])
def Qqe (x0:Qk) (x1:(List Int)) (d52:(List Qba)) (k139:Nat) (d143:(List Int)) (d147:(List Int)) (d150:(List Qp)):Qk⊕((List Int)×(List Int)×(List Qp)):=
 Sum.elim Sum.inl (fun(s:Int×(List Qp))=>Sum.inr ((d143++[(gt d150 ((Qad (⟨x0.d,x0.g,x0.l,d150,x0.j,x0.k,x0.n⟩:Qk) (gt x1 k139)).toNat)).e.u]),(d147++[s.1]),(Qqg x0 (Qad (⟨x0.d,x0.g,x0.l,d150,x0.j,x0.k,x0.n⟩:Qk) (gt x1 k139)) s.1 s.2))) (rng (R:=Qk) (fun k (s:Int×(List Qp))=>Qqf x0 x1 d52 k139 d150 k s.1 s.2) ((gt x0.d.c (x0.g.toNat)).length-0) 0 (0,d150))
def Qaas (x0:Qk) (x1:(List Int)) (k51:Nat) (d52:(List Qba)):Qk⊕((List Qba)):=
 Sum.inr (d52++[(gt x0.a ((Qad x0 (gt x1 k51)).toNat)).e])
def Qll (x0:Qk) (x1:(List Int)):Qk:=
 Sum.elim id (fun(s1_:(List Qba))=>Sum.elim id (fun(s:(List Int)×(List Int)×(List Qp))=>(⟨x0.d,x0.g,x0.l,s.2.2,x0.j,(Qqh x0 x1 s.1 s.2.1),x0.n⟩:Qk)) (rng (R:=Qk) (fun k (s:(List Int)×(List Int)×(List Qp))=>Qqe x0 x1 s1_ k s.1 s.2.1 s.2.2) (x1.length-0) 0 ([],[],x0.a))) (rng (R:=Qk) (fun k (s:(List Qba))=>Qaas x0 x1 k s) (x1.length-0) 0 [])
theorem Qaoa:Cb Tryz.prog 133:=⟨f133,_,func133,rfl,by decide⟩
theorem Qawv (B:Nat) (w0:World) (is:List It) (w:World) (p:Nat) (z0:List Value) (x0:Qk) (z1:Value) (x1:(List Int)) (s_0:Qhb 68719476736 x0) (s_1:x1.length≤68719476736) (hE:Eng x0) (hI:x1=Qay x0) (hm:Mem B w0 (Qb p 39 z0::Qh Qbz z0 x0::Qh (tSl Qa 3) [z1] x1::is) w):
 Calls Tryz.prog 133 #[.pointer (sA p),z1] w fun e w'=>∃ x:List Value,e= .returned (.tuple #[])∧Mem B w0 (Qb p 39 x::Qh Qbz x (Qll x0 x1)::Qh (tSl Qa 3) [z1] x1::is) w':=by
 refine Qiy (L:=[(0, .pointer (sA p)),(1,z1)]) (N:=214) func133 rfl rfl (Nat.le_of_ble_eq_true rfl) (Qfg rfl (Qfg rfl Qho)) hm ?_;refine Qdb (js:=(Qh Qbz z0 x0::Qb p 39 z0::Qh (tSl Qa 3) [z1] x1::is)) (fun W hm=>(hm.front (n:=1) rfl)) ?_;refine Qix (γ:=Value×Value×Value×Value×Value) (js:=fun g=>[Qh (tSl (tSl Qy 163) 100) [g.1] x0.d.c,Qh (tSl Qa 3) [g.2.1] x0.l,Qh (tSl Qz 61) [g.2.2.1] x0.a,Qh (tSl Qaz 80) [g.2.2.2.1] x0.j,Qh (tSl Qaw 102) [g.2.2.2.2] x0.k]) (C:=fun g=>z0=[g.1,iV x0.d.f,iV x0.g,g.2.1,g.2.2.1,g.2.2.2.1,g.2.2.2.2,iV x0.n]) (fun _ _ h=>Qth h) ?_;rintro⟨v1,v2,v3,v4,v5⟩ rfl;refine Qdt (n:=0) rfl ?_;rintro A6 c7 rfl m8;refine Qdt (n:=1) rfl ?_;rintro A10 c11 rfl m12;refine Qdt (n:=2) rfl ?_;rintro A14 c15 rfl m16;refine Qdt (n:=3) rfl ?_;rintro A18 c19 rfl m20;refine Qdt (n:=4) rfl ?_;rintro A22 c23 rfl m24;refine Qdt (n:=6) rfl ?_;rintro A26 c27 rfl m28;have l30:x0.d.c.length≤68719476736:=s_0.1.1;have l31:=s_0.2.1;have l32:=s_0.2.2.1.1;have l33:=s_0.2.2.2.1.1;have l34:=s_0.2.2.2.2.1;have l35:x1.length≤68719476736:=s_1;have hE1:=hE.al;have hE2:=hE.cur;have hE3:=((Qfo _).1 hE.st).1;have hE4:=hE.dl;have hE5:=hE.ll;have hE6:=hE.stp;have hP8:x1.length≤8:=by rw[hI];exact Qot hE
 have hin:∀ y∈x1,0≤Qad x0 y:=by rw[hI];exact Qame hE
 have ho:=Qaal hE.ord;have hsg:=Qtn hE;refine Qaju (fun W0 hW0=>?_);have r36:=hW0.rdSI (n:=0) rfl;have q37:=Qpn r36;have r38:=hW0.rdSI (n:=1) rfl;have q39:=Qpn r38;have r40:=hW0.rdSI (n:=2) rfl;have q41:=Qpn r40;have r42:=hW0.rdSI (n:=3) rfl;have q43:=Qpn r42;have r44:=hW0.rdSI (n:=4) rfl;have q45:=Qpn r44;have r46:=hW0.rdSI (n:=6) rfl;have q47:=Qpn r46;have rp48:=hW0.rdPBox (T:=Qbz) (n:=5) rfl (Qfs (x:=x0) (hW0.rdSI (n:=0) rfl) (hW0.rdSI (n:=1) rfl) (hW0.rdSI (n:=2) rfl) (hW0.rdSI (n:=3) rfl) (hW0.rdSI (n:=4) rfl));refine sr ?_;refine Qcl (E:=(Qgg Qcx W0 W0.heap.size)) Qiw Qca (Qf rfl) (by decide) (fun p49=>?_);refine wa (nt' (Qj (sr (wa (nt' (Qaj ?_))))));refine Qbv (S:=(List Qba)) (R:=Option Addr×Nat) (fun k (s:(List Qba))=>Qaas x0 x1 k s) x1.length 0 [] ((sA p49),0) (fun s=>[(0,bp p),(1, .slice A26 x1.length c27),(4, .slice s.2.2.1 s.2.1.length s.2.2.2),(5,nI s.1)]) (fun s=>[iS (Qgg Qcx W0 W0.heap.size) 58 s.2.2.1 s.2.2.2 s.2.1]) (fun s=>s.2.1.length≤0+s.1∧s.2.1=Qhe x0 (x1.take s.1)) sl4 ⟨Nat.le_refl _,rfl⟩ ?_;rintro⟨k51,d52,⟨A53,c54⟩⟩ H57 _ _ e e';dsimp only at H57 ⊢;subst e e';obtain⟨hk55,hF56,hi58,hi59⟩:=H57;refine Qj (sr (wm (wm ?_)));refine wv (Qan Qo) ?_;refine wv Qbq ?_;refine nt' ?_;rcases dcl k51 x1.length with⟨hl60,g61⟩|⟨hl60,g61⟩
 ·have hp0:=hin _ (Qav (show k51<x1.length from by omega));have hfl:=Qqa x0 (gt x1 k51);refine Qr rfl g61 ?_;refine Qac (Qi (Qj (Qaj ?_)));refine rb 19 (s:=[]) (pk []) ?_;refine qt 19 0 1 rfl vmv ?_;refine qt 19 1 3 rfl vmv ?_;refine qt 19 2 7 rfl (fun W hm=>Qeh rfl) ?_;refine qt 19 3 15 rfl (vf Qt rfl Qcd) ?_;refine qt 19 4 31 rfl (fun W hm=>Qbe Qaq rfl rfl (Qadq rp48 rfl rfl hm (o:=4) rfl)) ?_;refine qt 19 5 63 rfl vmv ?_;refine qt 19 6 127 rfl (fun W hm=>Qeh rfl) ?_;refine qt 19 7 255 rfl (fun W hm=>Qab (cs:=[.slice A6 x0.d.c.length c7,iV x0.d.f,iV x0.g, .slice A10 x0.l.length c11, .slice A14 x0.a.length c15, .slice A18 x0.j.length c19, .slice A22 x0.k.length c23,iV x0.n]) Qt Qal rfl rfl (Qanp rp48 rfl rfl hm)) ?_;refine qt 19 8 511 rfl vmv ?_;refine qt 19 9 1023 rfl vmv ?_;obtain⟨a62,rfl,hb63,he64⟩:=q47 (by omega);refine qt 19 10 2047 rfl (vix 1 k51 Qo Qg) ?_;refine qt 19 11 4095 rfl (fun W hm=>Qbe Qu rfl rfl ((hm.cell0 (show(a62.add (k51*1)).block<W0.heap.size from by rw[Qao];exact hb63.1)).trans (Qen he64 k51 (by omega)))) ?_;refine qo 19 12 8191 rfl ?_;refine wcv (Qs Qrn rfl) (fun W hm=>Qsl W _ _ _ _ _ _ _ _ x0 (gt x1 k51) (hm.rdS0 r40)) ?_;refine qn (pk []) ?_;obtain⟨a65,rfl,hb66,he67⟩:=q41 (by omega);refine qt 19 13 16383 rfl (fun W hm=>Qds (sz:=10) (k:=(Qad x0 (gt x1 k51))) Qaq Qbg rfl rfl rfl (by omega) (by omega)) ?_;refine qt 19 14 32767 rfl (vf Qbb rfl Qca) ?_;obtain⟨_,e77,hc68⟩:=he67 ((Qad x0 (gt x1 k51)).toNat) _ (Qch (show((Qad x0 (gt x1 k51)).toNat)<x0.a.length from by omega));obtain⟨v69,v71,v73,v75,rfl,r70,r72,r74,r76⟩:=Qie e77;have l78:=(s_0.2.2.1.2 _ (Qav (show((Qad x0 (gt x1 k51)).toNat)<x0.a.length from by omega))).1.1;have l79:=(s_0.2.2.1.2 _ (Qav (show((Qad x0 (gt x1 k51)).toNat)<x0.a.length from by omega))).1.2;have l80:=(s_0.2.2.1.2 _ (Qav (show((Qad x0 (gt x1 k51)).toNat)<x0.a.length from by omega))).2.1;have l81:=(s_0.2.2.1.2 _ (Qav (show((Qad x0 (gt x1 k51)).toNat)<x0.a.length from by omega))).2.2.1;obtain⟨m82,A83,c84,rfl,q85,r86⟩:=Qn r70;obtain⟨m87,A88,c89,rfl,q90,r91⟩:=Qn r72;obtain⟨m92,A93,c94,rfl,q95,r96⟩:=Qn r74;obtain⟨m97,A98,c99,rfl,q100,r101⟩:=Qn r76;let K1:List Value:=[iV ((gt x0.a ((Qad x0 (gt x1 k51)).toNat)).e.Id),iV ((gt x0.a ((Qad x0 (gt x1 k51)).toNat)).e.u), .slice A83 ((gt x0.a ((Qad x0 (gt x1 k51)).toNat)).e.o).length c84, .slice A88 ((gt x0.a ((Qad x0 (gt x1 k51)).toNat)).e.t).length c89];refine qt 19 15 65535 rfl (fun W hm=>Qab (cs:=K1) Qby Qca rfl rfl (hm.elPart (show(a65.add (((Qad x0 (gt x1 k51)).toNat)*10)).block<W0.heap.size from by rw[Qao];exact hb66.1) hc68 rfl)) ?_;refine qo 19 16 131071 rfl ?_;refine Qcf (cs:=K1) Qiw Qca rfl (by decide) (by decide) rfl (by kernel_rfl) (Qf rfl) (by decide) (fun p102=>?_);refine qn (pk []) ?_;refine qo 19 17 262143 rfl ?_;refine ap1 (Qgg Qcx W0 W0.heap.size) 58 (.slice A53 d52.length c54) d52 ((gt x0.a ((Qad x0 (gt x1 k51)).toNat)).e) [] [] K1 idM (fun _ _ hs=>by cases (Sep.nil hs);exact(Qdc (E:=(Qgg Qcx W0 W0.heap.size)) (L1:=[]) ⟨rfl,(Qhc r86 r91)⟩ Qfa)) Qiw Qca (show(d52.length+1)*64≤140737488355328 from by first|omega|(have:=hTd _;omega)) (fun v103=>?_);refine fm 0 ?_;rintro A104 c105 rfl m106;refine qn (pk []) ?_;refine qt 19 18 524287 rfl (fun W hm=>Qiv rfl) ?_;refine Qdn (by kernel_rfl) ?_;refine Qar (Qi (Qae (wm ?_)));refine wv (Qbc k51 1 (by omega)) ?_;refine wa (Qai ?_);exact Qax (k51+1,(d52++[(gt x0.a ((Qad x0 (gt x1 k51)).toNat)).e]),(A104,c105)) sl4 idM ⟨(by omega),nx hF56 (rfl),(show(d52++[(gt x0.a ((Qad x0 (gt x1 k51)).toNat)).e]).length≤0+(k51+1) from by first|omega|(simp only[List.length_append,List.length_cons,List.length_nil] at *;omega)),(show(d52++[(gt x0.a ((Qad x0 (gt x1 k51)).toNat)).e])=Qhe x0 (x1.take (k51+1)) from by rw[Qacy (by omega), ← hi59])⟩ rl
 refine Qx rfl g61 ?_;refine Qbm (Qag (Qag ?_));have hE109:=Qbx hl60 hF56;have hQ:d52=Qhe x0 x1:=by rw[hi59,List.take_of_length_le (by omega)]
 have hf:(Qgk d52).F.length=3:=by rw[hQ,hI];exact(Qacx hE).1
 have hbs:Qvj 68719476736 (Qgk d52):=by rw[hQ,hI];exact(Qacx hE).2
 have hqs:d52.length≤68719476736∧∀ y∈d52,Qil 68719476736 y:=by rw[hQ];exact Qamh s_0 (by omega)
 refine Qbn (Qi (sr (wm ?_)));refine wcs Qmq (Qgk d52) (Qs Qaow rfl) (fun W hm=>Qavw W _ d52 (hm.unbor (hm.rdSI (n:=0) rfl)) hqs) (fun z110=>?_);refine Qbap ?_;rintro⟨v111,v112⟩ rfl;refine fm 0 ?_;rintro A113 c114 rfl m115;refine fm 1 ?_;rintro A117 c118 rfl m119;refine Qbo type204 rfl (Qf rfl) (by decide) (fun p121=>?_);let K2:List Value:=[.slice A113 ((Qgk d52).J).length c114, .slice A117 ((Qgk d52).F).length c118];let I22:It:=iS Qcx 58 A113 c114 ((Qgk d52).J);let I23:It:=iS (tSl Qgh 238) 225 A117 c118 ((Qgk d52).F);refine sb 0 K2 [I22,I23,iS (Qgg Qcx W0 W0.heap.size) 58 A53 c54 d52] idM type204 ?_;refine Qai ?_;refine Qbh (pk [0,1,2]) ?_;refine Qalo hW0 ?_;refine Qalp (L':=[(0,bp p),(1, .slice A26 x1.length c27),(6,bp p121)]) sl3 ?_;let J49:List It:=iS Qa 3 A26 c27 x1::is;show QM 214 _ _ _ .normal [(0,bp p),(1, .slice A26 x1.length c27),(6,bp p121)] (Qb p121 204 K2::I22::I23::iS (tSl Qy 163) 100 A6 c7 x0.d.c::iS Qa 3 A10 c11 x0.l::iS Qz 61 A14 c15 x0.a::iS Qaz 80 A18 c19 x0.j::iS Qaw 102 A22 c23 x0.k::Qb p 39 [.slice A6 x0.d.c.length c7,iV x0.d.f,iV x0.g, .slice A10 x0.l.length c11, .slice A14 x0.a.length c15, .slice A18 x0.j.length c19, .slice A22 x0.k.length c23,iV x0.n]::J49);refine Qi (Qj ?_);refine Qla (n:=3) rfl (by omega) ?_;rintro g122 rfl;let K3:List Value:=[.slice (sA g122) x0.d.c.length c7,iV x0.d.f,iV x0.g, .slice A10 x0.l.length c11, .slice A14 x0.a.length c15, .slice A18 x0.j.length c19, .slice A22 x0.k.length c23,iV x0.n];let J50:List It:=Qb p121 204 K2::I22::I23::iS Qa 3 A10 c11 x0.l::iS Qz 61 A14 c15 x0.a::iS Qaz 80 A18 c19 x0.j::iS Qaw 102 A22 c23 x0.k::Qb p 39 K3::J49;refine Qkb (E:=(tSl Qy 163)) (e:=100) (A:=(sA g122)) (n:=x0.d.c.length) (c:=c7) (xs:=x0.d.c) (k:=(x0.g.toNat)) (js:=J50) (by omega) (fun W hm=>(hm.front (n:=3) rfl)) (fun ck123=>?_);refine Qix (γ:=Value) (js:=fun g=>[Qh (tSl Qy 163) [g] (gt x0.d.c (x0.g.toNat))]) (C:=fun g=>ck123=[g]) (fun _ _ h=>Qlz h) ?_;rintro v124 rfl;refine Qdt (n:=0) rfl ?_;rintro A125 c126 rfl m127;refine Qfl (by kernel_rfl) (by kernel_rfl) ?_;refine qm ?_;refine qv (fun W hm=>Qeh rfl) ?_;refine qv (vf Qt rfl Qat) ?_;refine qv (fun W hm=>Qfb (o:=0) Qau rfl Qdh (by decide) rfl rfl) ?_;refine qv (vl 9 0 Qbj) ?_;refine qm ?_;refine qv (fun W hm=>Qeh rfl) ?_;refine qv (vf Qt rfl Qg) ?_;refine qv (vl 9 2 Qu) ?_;refine qv (fun W hm=>Qds (sz:=1) (k:=x0.g) Qbj Qek rfl rfl rfl (by omega) (by omega)) ?_;refine qv (fun W hm=>Qbe Qbp rfl rfl (hm.focInt (i:=1) rfl rfl)) ?_;refine qv (fun W hm=>Qiv rfl) ?_;refine nq' (Qj ?_);let K4:List Value:=[.slice A125 (gt x0.d.c (x0.g.toNat)).length c126];let I24:It:=iS Qy 163 A125 c126 (gt x0.d.c (x0.g.toNat));let I25:It:=Qcu (tSl Qy 163) 100 (sA g122) x0.d.c.length c7 x0.d.c (x0.g.toNat) K4;let J51:List It:=I24::I25::J50;refine rd2 12 [11] (s:=J51) (s2:=J51) idM idM ?_;let K5:List Value:=[iV 0,iV 0, .slice none 0 0, .slice none 0 0, .slice none 0 0];refine Qlc (σ:=Option Addr×Nat×Nat) (fun s=>J51) 12 2047 1 (fun s=>[(0,bp p),(1, .slice A26 x1.length c27),(6,bp p121),(7, .slice A125 (gt x0.d.c (x0.g.toNat)).length c126),(63, .agg #[iV x0.g,nI ((gt x0.d.c (x0.g.toNat)).length), .slice s.1 x1.length s.2.1, .slice none 0 0, .slice none 0 0]),(8, .pointer (some (⟨s.2.2,0,none⟩:Addr)))]) (fun s=>(Qb s.2.2 102 K5::iS Qa 3 s.1 s.2.1 x1::J51)) ?_ (fun H=>?_)
 ·rintro⟨A132,c133,p136⟩;show QD _ _ _ _ _ _ _ _ [(0,bp p),(1, .slice A26 x1.length c27),(6,bp p121),(7, .slice A125 (gt x0.d.c (x0.g.toNat)).length c126),(63, .agg #[iV x0.g,nI ((gt x0.d.c (x0.g.toNat)).length), .slice A132 x1.length c133, .slice none 0 0, .slice none 0 0]),(8,bp p136)] _ J51 _ (Qb p136 102 K5::iS Qa 3 A132 c133 x1::J51);refine Qih (n:=1) rfl ?_;intro m137 m138;refine qoD 12 11 4095 rfl ?_;let K6:List Value:=[iV x0.g,nI ((gt x0.d.c (x0.g.toNat)).length), .slice A132 x1.length c133, .slice none 0 0, .slice none 0 0];refine Qdf (p:=p136) (o:=0) (cs':=K6) (fun w hm=>hm.front (n:=0) rfl) Qet rfl (Nat.le_of_ble_eq_true rfl) rfl rfl rfl rfl (Qf rfl) ?_;refine qxD (pn 13 [2,3,4,5,6,7,8,9,10,11,12]) ?_;refine Qdn (by kernel_rfl) ?_;refine Qi (Qj (sr (wa (nt' (Qaj ?_)))));refine Qdb (js:=(Qh (tSl Qa 3) [.slice none 0 0] []::Qb p136 102 K6::iS Qa 3 A132 c133 x1::J51)) (fun W hm=>hm.addNil (E:=Qa) (e:=3)) ?_;let J52:List It:=Qb p136 102 K6::iS Qa 3 A132 c133 x1::I24::I25::Qb p121 204 K2::I22::I23::iS Qa 3 A10 c11 x0.l::iS Qz 61 A14 c15 x0.a::iS Qaz 80 A18 c19 x0.j::iS Qaw 102 A22 c23 x0.k::Qb p 39 K3::iS Qa 3 A26 c27 x1::Qh (tSl Qa 3) [.slice none 0 0] []::is;refine Qdb (js:=J52) (pn 14 [1,2,3,4,5,6,7,8,9,10,11,12,13,0]) ?_;refine Qdb (js:=(Qh (tSl Qa 3) [.slice none 0 0] []::J52)) (fun W hm=>hm.addNil (E:=Qa) (e:=3)) ?_;refine Qdb (js:=(Qb p136 102 K6::iS Qa 3 A132 c133 x1::I24::I25::Qb p121 204 K2::I22::I23::iS Qa 3 A10 c11 x0.l::iS Qz 61 A14 c15 x0.a::iS Qaz 80 A18 c19 x0.j::iS Qaw 102 A22 c23 x0.k::Qb p 39 K3::iS Qa 3 A26 c27 x1::Qh (tSl Qa 3) [.slice none 0 0] []::Qh (tSl Qa 3) [.slice none 0 0] []::is)) (pn 15 [1,2,3,4,5,6,7,8,9,10,11,12,13,14,0]) ?_;refine Qbv (S:=(List Int)×(List Int)×(List Qp)) (R:=Option Addr×Nat×Option Addr×Nat) (fun k (s:(List Int)×(List Int)×(List Qp))=>Qqe x0 x1 d52 k s.1 s.2.1 s.2.2) x1.length 0 ([],[],x0.a) (none,0,none,0) (fun s=>[(0,bp p),(1, .slice A26 x1.length c27),(6,bp p121),(7, .slice A125 (gt x0.d.c (x0.g.toNat)).length c126),(8,bp p136),(9,nI s.1)]) (fun s=>(Qb p136 102 [iV x0.g,nI ((gt x0.d.c (x0.g.toNat)).length), .slice A132 x1.length c133, .slice s.2.2.1 s.2.1.1.length s.2.2.2.1, .slice s.2.2.2.2.1 s.2.1.2.1.length s.2.2.2.2.2]::iS Qa 3 A132 c133 x1::I24::I25::Qb p121 204 K2::I22::I23::iS Qa 3 A10 c11 x0.l::Qh (tSl Qz 61) [.slice A14 x0.a.length c15] s.2.1.2.2::iS Qaz 80 A18 c19 x0.j::iS Qaw 102 A22 c23 x0.k::Qb p 39 K3::iS Qa 3 A26 c27 x1::iS Qa 3 s.2.2.1 s.2.2.2.1 s.2.1.1::iS Qa 3 s.2.2.2.2.1 s.2.2.2.2.2 s.2.1.2.1::is)) (fun s=>s.2.1.1.length≤0+s.1∧s.2.1.2.1.length≤0+s.1∧s.2.1.2.2.map (fun(a:Qp)=>a.e.Id)=x0.a.map (fun(a:Qp)=>a.e.Id)∧∀ i,(gt s.2.1.2.2 i).q.length≤8∧(gt s.2.1.2.2 i).p.length≤1000+4*s.1) sl6 ⟨Nat.le_refl _,Nat.le_refl _,rfl,Qadb hE⟩ ?_;rintro⟨k139,⟨d143,d147,d150⟩,⟨A144,c145,A148,c149⟩⟩ H153 _ _ e e';dsimp only at H153 ⊢;subst e e';obtain⟨hk151,hF152,hi154,hi155,hi156,hi157⟩:=H153;refine Qj (sr (wm (wm ?_)));refine wv (Qan Qo) ?_;refine wv Qbq ?_;refine nt' ?_;rcases dcl k139 x1.length with⟨hl158,g159⟩|⟨hl158,g159⟩
  ·have hp0:=hin _ (Qav (show k139<x1.length from by omega));have hfl:=Qqa x0 (gt x1 k139);obtain⟨hfq,hdl⟩:=Qxc hi156 (gt x1 k139);refine Qr rfl g159 ?_;refine Qac (Qi (Qj (Qaj (Qj ?_))));refine Qla (n:=12) rfl (by omega) ?_;rintro g160 rfl;refine Qfl (by kernel_rfl) (by kernel_rfl) ?_;refine qm ?_;refine qv (fun W hm=>Qeh rfl) ?_;refine qv (fun W hm=>Qab (cs:=K3) Qt Qal rfl rfl (hm.boxCells (n:=11) rfl)) ?_;refine qm (qm ?_);refine qv (vix 1 k139 Qo Qg) ?_;refine qv (fun W hm=>Qbe Qu rfl rfl (hm.ownInt (i:=12) rfl (by omega))) ?_;refine Qfu (Qs Qrn rfl) (fun W hm=>Qsl W _ _ _ _ _ _ _ _ (⟨x0.d,x0.g,x0.l,d150,x0.j,x0.k,x0.n⟩:Qk) (gt x1 k139) (hm.rdSI (n:=8) rfl)) (Qf rfl) (by decide) ?_;obtain⟨G161,hG161⟩:∃ G,G=(Qad (⟨x0.d,x0.g,x0.l,d150,x0.j,x0.k,x0.n⟩:Qk) (gt x1 k139)):=⟨_,rfl⟩;rw[← hG161] at hfq ⊢;refine qv (fun W hm=>Qiv rfl) ?_;refine nq' (Qj ?_);refine Qla (n:=8) rfl (by omega) ?_;rintro g162 rfl;let K7:List Value:=[iV x0.g,nI ((gt x0.d.c (x0.g.toNat)).length), .slice A132 x1.length c133, .slice A144 d143.length c145, .slice A148 d147.length c149];let K8:List Value:=[.slice (sA g122) x0.d.c.length c7,iV x0.d.f,iV x0.g, .slice A10 x0.l.length c11, .slice (sA g162) x0.a.length c15, .slice A18 x0.j.length c19, .slice A22 x0.k.length c23,iV x0.n];let J53:List It:=iS Qa 3 A148 c149 d147::is;refine Qkb (E:=Qz) (e:=61) (A:=(sA g162)) (n:=x0.a.length) (c:=c15) (xs:=d150) (k:=(G161.toNat)) (js:=(Qb p136 102 K7::iS Qa 3 A132 c133 x1::I24::I25::Qb p121 204 K2::I22::I23::iS Qa 3 A10 c11 x0.l::iS Qaz 80 A18 c19 x0.j::iS Qaw 102 A22 c23 x0.k::Qb p 39 K8::iS Qa 3 (sA g160) c27 x1::iS Qa 3 A144 c145 d143::J53)) (by omega) (fun W hm=>(hm.front (n:=8) rfl)) (fun ck163=>?_);refine Qix (γ:=Value×Value×Value×Value) (js:=fun g=>[Qh (tSl Qbl 180) [g.1] ((gt d150 (G161.toNat)).e.o),Qh (tSl Qa 3) [g.2.1] ((gt d150 (G161.toNat)).e.t),Qh (tSl Qa 3) [g.2.2.1] ((gt d150 (G161.toNat)).q),Qh (tSl Qas 70) [g.2.2.2] ((gt d150 (G161.toNat)).p)]) (C:=fun g=>ck163=[iV ((gt d150 (G161.toNat)).e.Id),iV ((gt d150 (G161.toNat)).e.u),g.1,g.2.1,iV ((gt d150 (G161.toNat)).r),g.2.2.1,iV ((gt d150 (G161.toNat)).v),iV ((gt d150 (G161.toNat)).A),iV ((gt d150 (G161.toNat)).z),g.2.2.2]) (fun _ _ h=>Qqr h) ?_;rintro⟨v164,v165,v166,v167⟩ rfl;refine Qdt (n:=0) rfl ?_;rintro A168 c169 rfl m170;refine Qdt (n:=1) rfl ?_;rintro A172 c173 rfl m174;refine Qdt (n:=2) rfl ?_;rintro A176 c177 rfl m178;refine Qdt (n:=3) rfl ?_;rintro A180 c181 rfl m182;let K9:List Value:=[iV ((gt d150 (G161.toNat)).e.Id),iV ((gt d150 (G161.toNat)).e.u), .slice A168 ((gt d150 (G161.toNat)).e.o).length c169, .slice A172 ((gt d150 (G161.toNat)).e.t).length c173,iV ((gt d150 (G161.toNat)).r), .slice A176 ((gt d150 (G161.toNat)).q).length c177,iV ((gt d150 (G161.toNat)).v),iV ((gt d150 (G161.toNat)).A),iV ((gt d150 (G161.toNat)).z), .slice A180 ((gt d150 (G161.toNat)).p).length c181];let I26:It:=iS Qbl 180 A168 c169 ((gt d150 (G161.toNat)).e.o);let I27:It:=iS Qa 3 A172 c173 ((gt d150 (G161.toNat)).e.t);let I28:It:=iS Qa 3 A176 c177 ((gt d150 (G161.toNat)).q);let I29:It:=iS Qas 70 A180 c181 ((gt d150 (G161.toNat)).p);let I30:It:=Qcu Qz 61 (sA g162) x0.a.length c15 d150 (G161.toNat) K9;let J54:List It:=Qb p121 204 K2::I22::I23::iS Qa 3 A10 c11 x0.l::iS Qaz 80 A18 c19 x0.j::iS Qaw 102 A22 c23 x0.k::Qb p 39 K8::iS Qa 3 (sA g160) c27 x1::J53;let J55:List It:=iS Qa 3 A132 c133 x1::I24::I25::J54;let J56:List It:=I26::I27::I28::I29::I30::Qb p136 102 K7::J55;refine rd2 15 [14] (s:=(I26::I27::I28::I29::I30::J55)) (s2:=J56) (pn 19 [0,1,2,3,4,6,7,8,9,10,11,12,13,14,15,16,18]) (pn 19 [0,1,2,3,4,5,6,7,8,9,10,11,12,13,14,15,16,18]) ?_;refine qtD 15 0 1 rfl (vf Qdg rfl Qbf) ?_;refine qtD 15 1 3 rfl (vl 5 3 Qo) ?_;refine qtD 15 2 7 rfl vmv ?_;refine qtD 15 3 15 rfl (fun W hm=>Qeh rfl) ?_;refine qtD 15 4 31 rfl (vf Qt rfl Qcd) ?_;refine qtD 15 5 63 rfl (vl 15 4 Qaq) ?_;refine qtD 15 6 127 rfl vmv ?_;refine qtD 15 7 255 rfl (fun W hm=>Qds (sz:=10) (k:=G161) Qaq Qbg rfl rfl rfl (by omega) (by omega)) ?_;refine qtD 15 8 511 rfl (vf Qbb rfl Qca) ?_;refine qtD 15 9 1023 rfl (fun W hm=>Qfb (o:=1) Qby rfl Qg (by decide) rfl rfl) ?_;refine qtD 15 10 2047 rfl (fun W hm=>Qbe Qu rfl rfl (hm.focCells (i:=4) rfl rfl 1 _ rfl)) ?_;refine qoD 15 11 4095 rfl ?_;refine Qcf (cs:=[iV ((gt d150 (G161.toNat)).e.u)]) Qo Qg rfl (by decide) (by decide) rfl (by kernel_rfl) (Qf rfl) (by decide) (fun p184=>?_);refine qnD (pn 20 [1,2,3,4,5,7,8,9,10,11,12,13,14,15,16,17,19]) (pn 20 [1,2,3,4,5,6,7,8,9,10,11,12,13,14,15,16,17,19]) ?_;refine qoD 15 12 8191 rfl ?_;refine ap1 Qa 3 (.slice A144 d143.length c145) d143 ((gt d150 (G161.toNat)).e.u) [] J56 [iV ((gt d150 (G161.toNat)).e.u)] (fun W hm=>((hm.front (n:=18) rfl).front (n:=1) rfl)) (fun _ _ hs=>by cases (Sep.nil hs);exact(Qdc Qbu Qfa)) Qo Qg (show(d143.length+1)*8≤140737488355328 from by first|omega|(have:=hTd _;omega)) (fun v185=>?_);refine fm 0 ?_;rintro A186 c187 rfl m188;refine qnD (pn 19 [1,2,3,4,5,7,8,9,10,11,12,13,14,15,16,17,18]) (pn 19 [1,2,3,4,5,6,7,8,9,10,11,12,13,14,15,16,17,18]) ?_;refine qtD 15 13 16383 rfl (vf Qdg rfl Qbf) ?_;refine qoD 15 14 32767 rfl ?_;let K10:List Value:=[iV x0.g,nI ((gt x0.d.c (x0.g.toNat)).length), .slice A132 x1.length c133, .slice A186 (d143++[(gt d150 (G161.toNat)).e.u]).length c187, .slice A148 d147.length c149];refine Qdf (p:=p136) (o:=3) (cs':=K10) (fun w hm=>hm.front (n:=6) rfl) Qbf rfl (Nat.le_of_ble_eq_true rfl) rfl rfl rfl rfl (Qf rfl) ?_;refine qxD (pn 19 [2,3,4,5,6,7,8,9,10,11,12,13,14,15,16,17,18]) ?_;refine Qdn (by kernel_rfl) ?_;refine Qi (sr (wa (nt' (Qj (sr (wa (nt' (Qaj ?_))))))));let I31:It:=iS Qa 3 A186 c187 (d143++[(gt d150 (G161.toNat)).e.u]);refine Qdb (fun W hm=>Mem.unfocus0 (Mem.join (is:=[I26,I27,I28,I29]) (js:=(I30::(Qb p136 102 K10::I31::J55))) (fun _ _ hs=>Qfr (x:=(gt d150 (G161.toNat))) hs) (hm.pickN 19 [2,3,4,5,6,0,1,7,8,9,10,11,12,13,14,15,16,17,18] (by decide)))) ?_;refine Qbv (S:=Int×(List Qp)) (R:=Unit) (fun k (s:Int×(List Qp))=>Qqf x0 x1 d52 k139 d150 k s.1 s.2) ((gt x0.d.c (x0.g.toNat)).length) 0 (0,d150) () (fun s=>[(0,bp p),(1, .slice (sA g160) x1.length c27),(6,bp p121),(7, .slice A125 (gt x0.d.c (x0.g.toNat)).length c126),(8,bp p136),(9,nI k139),(10,iV G161),(11,iV s.2.1.1),(12,nI s.1)]) (fun s=>(Qh (tSl Qz 61) [.slice (sA g162) x0.a.length c15] s.2.1.2::Qb p136 102 K10::I31::J55)) (fun s=>s.2.1.2.map (fun(a:Qp)=>a.e.Id)=d150.map (fun(a:Qp)=>a.e.Id)∧∀ i,(gt s.2.1.2 i).q.length≤8∧(gt s.2.1.2 i).p.length≤1000+4*k139+s.1) sl9 ⟨rfl,hi157⟩ ?_;rintro⟨k190,⟨s191,d192⟩,⟨⟩⟩ H195 _ _ e e';dsimp only at H195 ⊢;subst e e';obtain⟨hk193,hF194,hi196,hi197⟩:=H195;refine Qj (sr (wm (wm ?_)));refine wv (Qan Qbp) ?_;refine wv Qbq ?_;refine nt' ?_;rcases dcl k190 ((gt x0.d.c (x0.g.toNat)).length) with⟨hl198,g199⟩|⟨hl198,g199⟩
   ·have hv:=Qamf hE (show k190<_ from by omega);have hTd:=hi197;refine Qr rfl g199 ?_;refine Qac (Qi (Qj (Qaj (Qj ?_))));refine Qla (n:=4) rfl (by omega) ?_;rintro g200 rfl;let K11:List Value:=[.slice (sA g200) (gt x0.d.c (x0.g.toNat)).length c126];let I32:It:=Qh (tSl Qz 61) [.slice (sA g162) x0.a.length c15] d192;let I33:It:=Qcu (tSl Qy 163) 100 (sA g122) x0.d.c.length c7 x0.d.c (x0.g.toNat) K11;let J57:List It:=Qb p136 102 K10::I31::iS Qa 3 A132 c133 x1::I33::J54;refine Qkb (E:=Qy) (e:=163) (A:=(sA g200)) (n:=(gt x0.d.c (x0.g.toNat)).length) (c:=c126) (xs:=(gt x0.d.c (x0.g.toNat))) (k:=k190) (js:=(I32::J57)) (by omega) (fun W hm=>(hm.front (n:=4) rfl)) (fun ck201=>?_);refine Qix (γ:=Value) (js:=fun g=>[Qh (tSl Qa 3) [g] ((gt (gt x0.d.c (x0.g.toNat)) k190).m)]) (C:=fun g=>ck201=[iV ((gt (gt x0.d.c (x0.g.toNat)) k190).Id),g,iV ((gt (gt x0.d.c (x0.g.toNat)) k190).x),iV ((gt (gt x0.d.c (x0.g.toNat)) k190).y)]) (fun _ _ h=>Qaje h) ?_;rintro v202 rfl;refine Qdt (n:=0) rfl ?_;rintro A203 c204 rfl m205;let K12:List Value:=[iV ((gt (gt x0.d.c (x0.g.toNat)) k190).Id), .slice A203 ((gt (gt x0.d.c (x0.g.toNat)) k190).m).length c204,iV ((gt (gt x0.d.c (x0.g.toNat)) k190).x),iV ((gt (gt x0.d.c (x0.g.toNat)) k190).y)];let I34:It:=iS Qa 3 A203 c204 ((gt (gt x0.d.c (x0.g.toNat)) k190).m);let I35:It:=Qcu Qy 163 (sA g200) ((gt x0.d.c (x0.g.toNat)).length) c126 (gt x0.d.c (x0.g.toNat)) k190 K12;refine rd2 13 [12] (s:=(I34::I35::I32::J57)) (s2:=(I34::I35::I32::J57)) idM idM ?_;refine qtD 13 0 1 rfl vmv ?_;refine qtD 13 1 3 rfl vmv ?_;refine qtD 13 2 7 rfl (vix 4 k190 Qbp Qbk) ?_;refine qtD 13 3 15 rfl (vf Qbt rfl Qg) ?_;refine qtD 13 4 31 rfl (fun W hm=>Qbe Qu rfl rfl (hm.focCells (i:=1) rfl rfl 0 _ rfl)) ?_;refine qtD 13 5 63 rfl vmv ?_;refine qtD 13 6 127 rfl vmv ?_;refine qtD 13 7 255 rfl (vix 4 k190 Qbp Qbk) ?_;refine qtD 13 8 511 rfl (vf Qbt rfl Qbf) ?_;refine qtD 13 9 1023 rfl (fun W hm=>Qbe Qo rfl rfl (hm.focCells (i:=1) rfl rfl 1 _ rfl)) ?_;let K13:List Value:=[iV ((gt (gt x0.d.c (x0.g.toNat)) k190).Id), .slice A203 ((gt (gt x0.d.c (x0.g.toNat)) k190).m).length c204];refine qtD 13 10 2047 rfl (fun W hm=>Qcz (cs:=K13) rfl (by kernel_rfl)) ?_;refine qoD 13 11 4095 rfl ?_;refine Qbo Qcn rfl (Qf rfl) (by decide) (fun p207=>?_);refine qnD (pn 17 [1,2,3,4,5,6,7,8,9,10,11,12,13,14,15,16]) (pn 17 [1,2,3,4,5,6,7,8,9,10,11,12,13,14,15,16]) ?_;refine qoD 13 12 8191 rfl ?_;refine Qdf (p:=p207) (o:=0) (cs':=K13) (fun w hm=>hm.front (n:=0) rfl) Qcn rfl (Nat.le_of_ble_eq_true rfl) rfl rfl rfl rfl (Qf rfl) ?_;refine qxD (pn 17 [1,2,3,4,5,6,7,8,9,10,11,12,13,14,15,16]) ?_;refine Qdn (by kernel_rfl) ?_;refine Qi (Qj ?_);refine rb 12 (s:=(Qb p207 70 K13::I34::I35::I32::J57)) idM ?_;refine qt 12 0 1 rfl (fun W hm=>Qab (cs:=K2) Qom type204 rfl rfl (hm.boxCells (n:=8) rfl)) ?_;refine qt 12 1 3 rfl (fun W hm=>Qab (cs:=K13) Qdr Qcn rfl rfl (hm.boxCells (n:=0) rfl)) ?_;refine qt 12 2 7 rfl vmv ?_;refine qt 12 3 15 rfl (fun W hm=>Qeh rfl) ?_;refine qt 12 4 31 rfl (vf Qt rfl Qbf) ?_;refine qt 12 5 63 rfl (vl 14 3 Qo) ?_;refine qo 12 6 127 rfl ?_;refine Qii (χ:=Value) (val:=fun x=> .tuple #[x,iV ((Qkw (Qgk d52) (⟨(gt (gt x0.d.c (x0.g.toNat)) k190).Id,(gt (gt x0.d.c (x0.g.toNat)) k190).m⟩:Qah) x0.l).2)]) (js:=fun x=>[Qh (tSl Qa 3) [x] ((Qkw (Qgk d52) (⟨(gt (gt x0.d.c (x0.g.toNat)) k190).Id,(gt (gt x0.d.c (x0.g.toNat)) k190).m⟩:Qah) x0.l).1)]) (Qs Qaox rfl) (fun W hm=>Qaxm W _ (Qgk d52) _ (⟨(gt (gt x0.d.c (x0.g.toNat)) k190).Id,(gt (gt x0.d.c (x0.g.toNat)) k190).m⟩:Qah) _ x0.l (Qban (x:=(Qgk d52)) (hm.rdSI (n:=9) rfl) (hm.rdSI (n:=10) rfl)) (Qjr (x:=(⟨(gt (gt x0.d.c (x0.g.toNat)) k190).Id,(gt (gt x0.d.c (x0.g.toNat)) k190).m⟩:Qah)) (hm.rdSI (n:=1) rfl)) (hm.rdSI (n:=11) rfl) hbs (Nat.le_trans (Nat.le_of_eq hv) (by decide)) s_0.2.1 (hf) (hv) (ho)) (Qf rfl) (by decide) (fun z208=>?_);refine fm 0 ?_;rintro A209 c210 rfl m211;refine qn (pn 18 [1,2,3,4,5,6,7,8,9,10,11,12,13,14,15,16,17]) ?_;refine qt 12 7 255 rfl vmv ?_;refine qt 12 8 511 rfl (fun W hm=>Qfp rfl rfl) ?_;refine qt 12 9 1023 rfl (fun W hm=>Qfp rfl rfl) ?_;refine qt 12 10 2047 rfl (fun W hm=>Qiv rfl) ?_;refine qt 12 11 4095 rfl (fun W hm=>Qiv rfl) ?_;refine Qdn (by kernel_rfl) ?_;refine Qi (Qj ?_);let I36:It:=iS Qa 3 A209 c210 ((Qkw (Qgk d52) (⟨(gt (gt x0.d.c (x0.g.toNat)) k190).Id,(gt (gt x0.d.c (x0.g.toNat)) k190).m⟩:Qah) x0.l).1);let J58:List It:=I36::Qb p207 70 K13::I34::I35::J57;refine Qkb (E:=Qz) (e:=61) (A:=(sA g162)) (n:=x0.a.length) (c:=c15) (xs:=d192) (k:=(G161.toNat)) (js:=J58) (by omega) (fun W hm=>(hm.front (n:=4) rfl)) (fun ck213=>?_);refine Qix (γ:=Value×Value×Value×Value) (js:=fun g=>[Qh (tSl Qbl 180) [g.1] ((gt d192 (G161.toNat)).e.o),Qh (tSl Qa 3) [g.2.1] ((gt d192 (G161.toNat)).e.t),Qh (tSl Qa 3) [g.2.2.1] ((gt d192 (G161.toNat)).q),Qh (tSl Qas 70) [g.2.2.2] ((gt d192 (G161.toNat)).p)]) (C:=fun g=>ck213=[iV ((gt d192 (G161.toNat)).e.Id),iV ((gt d192 (G161.toNat)).e.u),g.1,g.2.1,iV ((gt d192 (G161.toNat)).r),g.2.2.1,iV ((gt d192 (G161.toNat)).v),iV ((gt d192 (G161.toNat)).A),iV ((gt d192 (G161.toNat)).z),g.2.2.2]) (fun _ _ h=>Qqr h) ?_;rintro⟨v214,v215,v216,v217⟩ rfl;refine Qdt (n:=0) rfl ?_;rintro A218 c219 rfl m220;refine Qdt (n:=1) rfl ?_;rintro A222 c223 rfl m224;refine Qdt (n:=2) rfl ?_;rintro A226 c227 rfl m228;refine Qdt (n:=3) rfl ?_;rintro A230 c231 rfl m232;refine Qfl (by kernel_rfl) (by kernel_rfl) ?_;refine qm (qm (qm ?_));refine qv (vix 1 k139 Qo Qg) ?_;refine qv (fun W hm=>Qbe Qu rfl rfl (hm.ownInt (i:=20) rfl (by omega))) ?_;refine Qfu (Qs Qtx rfl) (fun W hm=>Qvo W _ ((Qkw (Qgk d52) (⟨(gt (gt x0.d.c (x0.g.toNat)) k190).Id,(gt (gt x0.d.c (x0.g.toNat)) k190).m⟩:Qah) x0.l).1) (gt x1 k139) (hm.rdSI (n:=5) rfl)) (Qf rfl) (by decide) ?_;refine qm ?_;rcases bd (Qgl ((Qkw (Qgk d52) (⟨(gt (gt x0.d.c (x0.g.toNat)) k190).Id,(gt (gt x0.d.c (x0.g.toNat)) k190).m⟩:Qah) x0.l).1) (gt x1 k139)) with g235|g235
    ·refine qg vmv g235 ?_;refine qg vmv g235 ?_;refine qg (vix 4 k190 Qbp Qbk) g235 ?_;refine qg (fun W hm=>Qab (cs:=K12) Qbt Qbk rfl rfl (hm.focCells (i:=8) rfl rfl)) g235 ?_;refine qg vmv g235 ?_;refine qg (fun W hm=>Qeh rfl) g235 ?_;refine qg (vf Qt rfl Qcd) g235 ?_;refine qg (vl 19 4 Qaq) g235 ?_;refine qg vmv g235 ?_;refine qg (fun W hm=>Qds (sz:=10) (k:=G161) Qaq Qbg rfl rfl rfl (by omega) (by omega)) g235 ?_;refine qg (vf Qbb rfl Qg) g235 ?_;refine qg (fun W hm=>Qbe Qu rfl rfl (hm.focCells (i:=4) rfl rfl 4 _ rfl)) g235 ?_;refine Qfu (Qs Qaec rfl) (fun W hm=>Qaia W _ (gt (gt x0.d.c (x0.g.toNat)) k190) ((gt d192 (G161.toNat)).r) (Qif (x:=(gt (gt x0.d.c (x0.g.toNat)) k190)) (hm.rdSI (n:=7) rfl))) (Qam rfl rfl rfl (bw g235 rfl)) (by decide) ?_;refine qv (vpT g235) ?_;refine nq' ?_;rcases bd (Qki (gt (gt x0.d.c (x0.g.toNat)) k190) ((gt d192 (G161.toNat)).r)) with g237|g237
     ·refine Qr rfl g237 ?_;refine Qj ?_;let I37:It:=iS Qbl 180 A218 c219 ((gt d192 (G161.toNat)).e.o);let I38:It:=iS Qa 3 A222 c223 ((gt d192 (G161.toNat)).e.t);let I39:It:=iS Qa 3 A226 c227 ((gt d192 (G161.toNat)).q);let J59:List It:=I37::I38::I39::J58;refine Qjs (σ:=Option Addr×Nat) (fun s=>[(0,bp p),(1, .slice (sA g160) x1.length c27),(6,bp p121),(7, .slice (sA g200) (gt x0.d.c (x0.g.toNat)).length c126),(8,bp p136),(9,nI k139),(10,iV G161),(11,iV s191),(12,nI k190)]) (fun s=>(Qcu Qz 61 (sA g162) x0.a.length c15 d192 (G161.toNat) [iV ((gt d192 (G161.toNat)).e.Id),iV ((gt d192 (G161.toNat)).e.u), .slice A218 ((gt d192 (G161.toNat)).e.o).length c219, .slice A222 ((gt d192 (G161.toNat)).e.t).length c223,iV ((gt d192 (G161.toNat)).r), .slice A226 ((gt d192 (G161.toNat)).q).length c227,iV ((gt d192 (G161.toNat)).v),iV ((gt d192 (G161.toNat)).A),iV ((gt d192 (G161.toNat)).z), .slice s.1 (Qkj x0 G161 k190 d192).length s.2]::iS Qas 70 s.1 s.2 (Qkj x0 G161 k190 d192)::J59)) (fun _=>True) ?_ ?_
      ·refine rb 20 (s:=J59) (pn 22 [0,1,2,5,6,7,8,9,10,11,12,13,14,15,16,17,18,19,20,21]) ?_;refine qt 20 0 1 rfl vmv ?_;refine qt 20 1 3 rfl (fun W hm=>Qeh rfl) ?_;refine qt 20 2 7 rfl (vf Qt rfl Qcd) ?_;refine qt 20 3 15 rfl (vl 17 4 Qaq) ?_;refine qt 20 4 31 rfl vmv ?_;refine qt 20 5 63 rfl vmv ?_;refine qt 20 6 127 rfl (fun W hm=>Qeh rfl) ?_;refine qt 20 7 255 rfl (vf Qt rfl Qcd) ?_;refine qt 20 8 511 rfl (vl 17 4 Qaq) ?_;refine qt 20 9 1023 rfl vmv ?_;refine qt 20 10 2047 rfl (fun W hm=>Qds (sz:=10) (k:=G161) Qaq Qbg rfl rfl rfl (by omega) (by omega)) ?_;refine qt 20 11 4095 rfl (vf Qbb rfl Qey) ?_;refine qt 20 13 12287 rfl (fun W hm=>Qab (cs:=K13) Qdr Qcn rfl rfl (hm.boxCells (n:=4) rfl)) ?_;refine qa [12,14] ?_;refine qc 20 16383 rfl ?_ ?_
       ·refine wv (fun W hm=>Qbe Qcr rfl rfl (hm.focCells (i:=4) rfl rfl 9 _ rfl)) ?_;refine qn (pn 22 [0,1,2,5,6,7,8,9,10,11,12,13,14,15,16,17,18,19,20,21]) ?_;refine qo 20 14 32767 rfl ?_;refine wcs Qas (⟨(gt (gt x0.d.c (x0.g.toNat)) k190).Id,(gt (gt x0.d.c (x0.g.toNat)) k190).m⟩:Qah) (Qs Qxy rfl) (fun W hm=>Qaau W _ (⟨(gt (gt x0.d.c (x0.g.toNat)) k190).Id,(gt (gt x0.d.c (x0.g.toNat)) k190).m⟩:Qah) (Qjr (x:=(⟨(gt (gt x0.d.c (x0.g.toNat)) k190).Id,(gt (gt x0.d.c (x0.g.toNat)) k190).m⟩:Qah)) (hm.rdSI (n:=7) rfl)) (Nat.le_trans (Nat.le_of_eq hv) (by decide))) (fun z250=>?_);refine Qlo ?_;rintro v251 rfl;refine fm 0 ?_;rintro A252 c253 rfl m254;refine qn (pn 23 [1,2,3,6,7,8,9,10,11,12,13,14,15,16,17,18,19,20,21,22]) ?_;refine qo 20 15 65535 rfl ?_;let K14:List Value:=[iV ((⟨(gt (gt x0.d.c (x0.g.toNat)) k190).Id,(gt (gt x0.d.c (x0.g.toNat)) k190).m⟩:Qah).Id), .slice A252 ((⟨(gt (gt x0.d.c (x0.g.toNat)) k190).Id,(gt (gt x0.d.c (x0.g.toNat)) k190).m⟩:Qah).m).length c253];refine Qcf (cs:=K14) Qcr Qcn rfl (by decide) (by decide) rfl (by kernel_rfl) (Qf rfl) (by decide) (fun p256=>?_);refine qn (pn 24 [2,3,4,7,8,9,10,11,12,13,14,15,16,17,18,19,20,21,22,23]) ?_;refine qo 20 16 131071 rfl ?_;refine ap1 Qas 70 (.slice A230 ((gt d192 (G161.toNat)).p).length c231) ((gt d192 (G161.toNat)).p) (⟨(gt (gt x0.d.c (x0.g.toNat)) k190).Id,(gt (gt x0.d.c (x0.g.toNat)) k190).m⟩:Qah) [iS Qa 3 A252 c253 ((⟨(gt (gt x0.d.c (x0.g.toNat)) k190).Id,(gt (gt x0.d.c (x0.g.toNat)) k190).m⟩:Qah).m)] (I37::I38::I39::Qcu Qz 61 (sA g162) x0.a.length c15 d192 (G161.toNat) [iV ((gt d192 (G161.toNat)).e.Id),iV ((gt d192 (G161.toNat)).e.u), .slice A218 ((gt d192 (G161.toNat)).e.o).length c219, .slice A222 ((gt d192 (G161.toNat)).e.t).length c223,iV ((gt d192 (G161.toNat)).r), .slice A226 ((gt d192 (G161.toNat)).q).length c227,iV ((gt d192 (G161.toNat)).v),iV ((gt d192 (G161.toNat)).A),iV ((gt d192 (G161.toNat)).z), .slice A230 ((gt d192 (G161.toNat)).p).length c231]::J58) K14 (fun W hm=>(((hm.front (n:=1) rfl).front (n:=5) rfl).front (n:=2) rfl)) (fun _ _ hs=>Els.single (Qkz (x:=(⟨(gt (gt x0.d.c (x0.g.toNat)) k190).Id,(gt (gt x0.d.c (x0.g.toNat)) k190).m⟩:Qah)) hs)) Qcr Qcn (show(((gt d192 (G161.toNat)).p).length+1)*32≤140737488355328 from by first|omega|(have:=hTd (G161.toNat);omega)) (fun v257=>?_);refine fm 0 ?_;rintro A258 c259 rfl m260;refine qn (pn 22 [1,2,3,5,6,7,8,9,10,11,12,13,14,15,16,17,18,19,20,21]) ?_;refine qt 20 17 262143 rfl (fun W hm=>Qds (sz:=10) (k:=G161) Qaq Qbg rfl rfl rfl (by omega) (by omega)) ?_;refine qt 20 18 524287 rfl (vf Qbb rfl Qey) ?_;refine qo 20 19 1048575 rfl ?_;refine sf 9 10 [iV ((gt d192 (G161.toNat)).e.Id),iV ((gt d192 (G161.toNat)).e.u), .slice A218 ((gt d192 (G161.toNat)).e.o).length c219, .slice A222 ((gt d192 (G161.toNat)).e.t).length c223,iV ((gt d192 (G161.toNat)).r), .slice A226 ((gt d192 (G161.toNat)).q).length c227,iV ((gt d192 (G161.toNat)).v),iV ((gt d192 (G161.toNat)).A),iV ((gt d192 (G161.toNat)).z), .slice A258 (Qkj x0 G161 k190 d192).length c259] (iS Qas 70 A258 c259 (Qkj x0 G161 k190 d192)::J59) (fun W hm=>(hm.front (n:=4) rfl)) Qey ?_;refine qn (pn 22 [2,3,4,5,6,7,8,9,10,11,12,13,14,15,16,17,18,19,20,21]) ?_;refine Qdn (by kernel_rfl) ?_;exact Qgo (A258,c259) sl9 idM trivial
       refine qc 20 28671 rfl ?_ ?_
       ·refine wcs Qas (⟨(gt (gt x0.d.c (x0.g.toNat)) k190).Id,(gt (gt x0.d.c (x0.g.toNat)) k190).m⟩:Qah) (Qs Qxy rfl) (fun W hm=>Qaau W _ (⟨(gt (gt x0.d.c (x0.g.toNat)) k190).Id,(gt (gt x0.d.c (x0.g.toNat)) k190).m⟩:Qah) (Qjr (x:=(⟨(gt (gt x0.d.c (x0.g.toNat)) k190).Id,(gt (gt x0.d.c (x0.g.toNat)) k190).m⟩:Qah)) (hm.rdSI (n:=7) rfl)) (Nat.le_trans (Nat.le_of_eq hv) (by decide))) (fun z262=>?_);refine Qlo ?_;rintro v263 rfl;refine fm 0 ?_;rintro A264 c265 rfl m266;refine qn (pn 23 [1,2,3,6,7,8,9,10,11,12,13,14,15,16,17,18,19,20,21,22]) ?_;refine qa [12,15] ?_;refine qc 20 32767 rfl ?_ ?_
        ·refine wv (fun W hm=>Qbe Qcr rfl rfl (hm.focCells (i:=5) rfl rfl 9 _ rfl)) ?_;refine qn (pn 23 [1,2,3,6,7,8,9,10,11,12,13,14,15,16,17,18,19,20,21,22]) ?_;refine qo 20 15 65535 rfl ?_;let K15:List Value:=[iV ((⟨(gt (gt x0.d.c (x0.g.toNat)) k190).Id,(gt (gt x0.d.c (x0.g.toNat)) k190).m⟩:Qah).Id), .slice A264 ((⟨(gt (gt x0.d.c (x0.g.toNat)) k190).Id,(gt (gt x0.d.c (x0.g.toNat)) k190).m⟩:Qah).m).length c265];refine Qcf (cs:=K15) Qcr Qcn rfl (by decide) (by decide) rfl (by kernel_rfl) (Qf rfl) (by decide) (fun p268=>?_);refine qn (pn 24 [2,3,4,7,8,9,10,11,12,13,14,15,16,17,18,19,20,21,22,23]) ?_;refine qo 20 16 131071 rfl ?_;refine ap1 Qas 70 (.slice A230 ((gt d192 (G161.toNat)).p).length c231) ((gt d192 (G161.toNat)).p) (⟨(gt (gt x0.d.c (x0.g.toNat)) k190).Id,(gt (gt x0.d.c (x0.g.toNat)) k190).m⟩:Qah) [iS Qa 3 A264 c265 ((⟨(gt (gt x0.d.c (x0.g.toNat)) k190).Id,(gt (gt x0.d.c (x0.g.toNat)) k190).m⟩:Qah).m)] (I37::I38::I39::Qcu Qz 61 (sA g162) x0.a.length c15 d192 (G161.toNat) [iV ((gt d192 (G161.toNat)).e.Id),iV ((gt d192 (G161.toNat)).e.u), .slice A218 ((gt d192 (G161.toNat)).e.o).length c219, .slice A222 ((gt d192 (G161.toNat)).e.t).length c223,iV ((gt d192 (G161.toNat)).r), .slice A226 ((gt d192 (G161.toNat)).q).length c227,iV ((gt d192 (G161.toNat)).v),iV ((gt d192 (G161.toNat)).A),iV ((gt d192 (G161.toNat)).z), .slice A230 ((gt d192 (G161.toNat)).p).length c231]::J58) K15 (fun W hm=>(((hm.front (n:=1) rfl).front (n:=5) rfl).front (n:=2) rfl)) (fun _ _ hs=>Els.single (Qkz (x:=(⟨(gt (gt x0.d.c (x0.g.toNat)) k190).Id,(gt (gt x0.d.c (x0.g.toNat)) k190).m⟩:Qah)) hs)) Qcr Qcn (show(((gt d192 (G161.toNat)).p).length+1)*32≤140737488355328 from by first|omega|(have:=hTd (G161.toNat);omega)) (fun v269=>?_);refine fm 0 ?_;rintro A270 c271 rfl m272;refine qn (pn 22 [1,2,3,5,6,7,8,9,10,11,12,13,14,15,16,17,18,19,20,21]) ?_;refine qt 20 17 262143 rfl (fun W hm=>Qds (sz:=10) (k:=G161) Qaq Qbg rfl rfl rfl (by omega) (by omega)) ?_;refine qt 20 18 524287 rfl (vf Qbb rfl Qey) ?_;refine qo 20 19 1048575 rfl ?_;refine sf 9 10 [iV ((gt d192 (G161.toNat)).e.Id),iV ((gt d192 (G161.toNat)).e.u), .slice A218 ((gt d192 (G161.toNat)).e.o).length c219, .slice A222 ((gt d192 (G161.toNat)).e.t).length c223,iV ((gt d192 (G161.toNat)).r), .slice A226 ((gt d192 (G161.toNat)).q).length c227,iV ((gt d192 (G161.toNat)).v),iV ((gt d192 (G161.toNat)).A),iV ((gt d192 (G161.toNat)).z), .slice A270 (Qkj x0 G161 k190 d192).length c271] (iS Qas 70 A270 c271 (Qkj x0 G161 k190 d192)::J59) (fun W hm=>(hm.front (n:=4) rfl)) Qey ?_;refine qn (pn 22 [2,3,4,5,6,7,8,9,10,11,12,13,14,15,16,17,18,19,20,21]) ?_;refine Qdn (by kernel_rfl) ?_;exact Qgo (A270,c271) sl9 idM trivial
        refine qc 20 61439 rfl ?_ ?_
        ·let K16:List Value:=[iV ((⟨(gt (gt x0.d.c (x0.g.toNat)) k190).Id,(gt (gt x0.d.c (x0.g.toNat)) k190).m⟩:Qah).Id), .slice A264 ((⟨(gt (gt x0.d.c (x0.g.toNat)) k190).Id,(gt (gt x0.d.c (x0.g.toNat)) k190).m⟩:Qah).m).length c265];refine Qcf (cs:=K16) Qcr Qcn rfl (by decide) (by decide) rfl (by kernel_rfl) (Qf rfl) (by decide) (fun p274=>?_);refine qn (pn 24 [2,3,4,7,8,9,10,11,12,13,14,15,16,17,18,19,20,21,22,23]) ?_;refine qo 20 12 65535 rfl ?_;refine wv (fun W hm=>Qbe Qcr rfl rfl (hm.focCells (i:=6) rfl rfl 9 _ rfl)) ?_;refine qn (pn 24 [2,3,4,7,8,9,10,11,12,13,14,15,16,17,18,19,20,21,22,23]) ?_;refine qo 20 16 131071 rfl ?_;refine ap1 Qas 70 (.slice A230 ((gt d192 (G161.toNat)).p).length c231) ((gt d192 (G161.toNat)).p) (⟨(gt (gt x0.d.c (x0.g.toNat)) k190).Id,(gt (gt x0.d.c (x0.g.toNat)) k190).m⟩:Qah) [iS Qa 3 A264 c265 ((⟨(gt (gt x0.d.c (x0.g.toNat)) k190).Id,(gt (gt x0.d.c (x0.g.toNat)) k190).m⟩:Qah).m)] (I37::I38::I39::Qcu Qz 61 (sA g162) x0.a.length c15 d192 (G161.toNat) [iV ((gt d192 (G161.toNat)).e.Id),iV ((gt d192 (G161.toNat)).e.u), .slice A218 ((gt d192 (G161.toNat)).e.o).length c219, .slice A222 ((gt d192 (G161.toNat)).e.t).length c223,iV ((gt d192 (G161.toNat)).r), .slice A226 ((gt d192 (G161.toNat)).q).length c227,iV ((gt d192 (G161.toNat)).v),iV ((gt d192 (G161.toNat)).A),iV ((gt d192 (G161.toNat)).z), .slice A230 ((gt d192 (G161.toNat)).p).length c231]::J58) K16 (fun W hm=>(((hm.front (n:=1) rfl).front (n:=5) rfl).front (n:=2) rfl)) (fun _ _ hs=>Els.single (Qkz (x:=(⟨(gt (gt x0.d.c (x0.g.toNat)) k190).Id,(gt (gt x0.d.c (x0.g.toNat)) k190).m⟩:Qah)) hs)) Qcr Qcn (show(((gt d192 (G161.toNat)).p).length+1)*32≤140737488355328 from by first|omega|(have:=hTd (G161.toNat);omega)) (fun v275=>?_);refine fm 0 ?_;rintro A276 c277 rfl m278;refine qn (pn 22 [1,2,3,5,6,7,8,9,10,11,12,13,14,15,16,17,18,19,20,21]) ?_;refine qt 20 17 262143 rfl (fun W hm=>Qds (sz:=10) (k:=G161) Qaq Qbg rfl rfl rfl (by omega) (by omega)) ?_;refine qt 20 18 524287 rfl (vf Qbb rfl Qey) ?_;refine qo 20 19 1048575 rfl ?_;refine sf 9 10 [iV ((gt d192 (G161.toNat)).e.Id),iV ((gt d192 (G161.toNat)).e.u), .slice A218 ((gt d192 (G161.toNat)).e.o).length c219, .slice A222 ((gt d192 (G161.toNat)).e.t).length c223,iV ((gt d192 (G161.toNat)).r), .slice A226 ((gt d192 (G161.toNat)).q).length c227,iV ((gt d192 (G161.toNat)).v),iV ((gt d192 (G161.toNat)).A),iV ((gt d192 (G161.toNat)).z), .slice A276 (Qkj x0 G161 k190 d192).length c277] (iS Qas 70 A276 c277 (Qkj x0 G161 k190 d192)::J59) (fun W hm=>(hm.front (n:=4) rfl)) Qey ?_;refine qn (pn 22 [2,3,4,5,6,7,8,9,10,11,12,13,14,15,16,17,18,19,20,21]) ?_;refine Qdn (by kernel_rfl) ?_;exact Qgo (A276,c277) sl9 idM trivial
        exact Qtk
       exact Qtk
      rintro⟨A246,c247⟩ -;let K17:List Value:=[iV ((gt d192 (G161.toNat)).e.Id),iV ((gt d192 (G161.toNat)).e.u), .slice A218 ((gt d192 (G161.toNat)).e.o).length c219, .slice A222 ((gt d192 (G161.toNat)).e.t).length c223,iV ((gt d192 (G161.toNat)).r), .slice A226 ((gt d192 (G161.toNat)).q).length c227,iV ((gt d192 (G161.toNat)).v),iV ((gt d192 (G161.toNat)).A),iV ((gt d192 (G161.toNat)).z), .slice A246 (Qkj x0 G161 k190 d192).length c247];let I40:It:=Qcu Qz 61 (sA g162) x0.a.length c15 d192 (G161.toNat) K17;let I41:It:=iS Qas 70 A246 c247 (Qkj x0 G161 k190 d192);show QM 214 _ _ _ .normal [(0,bp p),(1, .slice (sA g160) x1.length c27),(6,bp p121),(7, .slice (sA g200) (gt x0.d.c (x0.g.toNat)).length c126),(8,bp p136),(9,nI k139),(10,iV G161),(11,iV s191),(12,nI k190)] (I40::I41::J59);refine Qmx (n:=1) rfl ?_;intro m280 m281;refine Qi (Qae (wm ?_));refine wv Qfe ?_;refine wa (Qai (Qar (Qi (Qae (wm ?_)))));refine wv (Qbc k190 1 (by omega)) ?_;refine wa (Qai ?_);refine Qbh (fun W hm=>Mem.unfocus (Mem.join (is:=[I37,I38,I39,I41]) (js:=(I40::J58)) (fun _ _ hs=>Qfr (x:=(⟨(gt d192 (G161.toNat)).e,(gt d192 (G161.toNat)).r,(gt d192 (G161.toNat)).q,(gt d192 (G161.toNat)).v,(gt d192 (G161.toNat)).A,(gt d192 (G161.toNat)).z,(Qkj x0 G161 k190 d192)⟩:Qp)) hs) (hm.pickN 22 [2,3,4,1,0,5,6,7,8,9,10,11,12,13,14,15,16,17,18,19,20,21] (by decide)))) ?_;refine Qbh (fun W hm=>Mem.unfocus0 (Mem.join (is:=[I34]) (js:=(I35::(Qh (tSl Qz 61) [.slice (sA g162) x0.a.length c15] (Qnk x0 G161 k190 d192)::I36::Qb p207 70 K13::J57))) (fun _ _ hs=>Qjb (x:=(gt (gt x0.d.c (x0.g.toNat)) k190)) hs) ((hm.front (n:=4) rfl).front (n:=4) rfl))) ?_;exact Qax (k190+1,((IntKind.i64.wrap (s191+1)),(Qnk x0 G161 k190 d192)),()) sl9 (pn 17 [1,4,5,6,0,7,8,9,10,11,12,13,14,15,16]) ⟨(by omega),nx hF194 (by subst hG161;exact Qc g235 (Qc g237 (rfl))),(show(Qnk x0 G161 k190 d192).map (fun(a:Qp)=>a.e.Id)=d150.map (fun(a:Qp)=>a.e.Id) from by first|exact hi196|exact(Qvg (by rfl)).trans hi196),(show ∀ i,(gt (Qnk x0 G161 k190 d192) i).q.length≤8∧(gt (Qnk x0 G161 k190 d192) i).p.length≤1000+4*k139+(k190+1) from by first|exact(fun i=>by have:=hi197 i;omega)|exact Qtm hi197 (by omega) (Nat.le_refl _) (by simp only[List.length_append,List.length_cons,List.length_nil];omega))⟩ (show(gt x0.d.c (x0.g.toNat)).length-(k190+1)<(gt x0.d.c (x0.g.toNat)).length-k190 from by omega)
     refine Qx rfl g237 ?_;refine Qac (Qar (Qi (Qae (wm ?_))));refine wv (Qbc k190 1 (by omega)) ?_;refine wa (Qai ?_);refine Qbh (fun W hm=>Mem.unfocus0 (Mem.join (is:=[iS Qbl 180 A218 c219 ((gt d192 (G161.toNat)).e.o),iS Qa 3 A222 c223 ((gt d192 (G161.toNat)).e.t),iS Qa 3 A226 c227 ((gt d192 (G161.toNat)).q),iS Qas 70 A230 c231 ((gt d192 (G161.toNat)).p)]) (js:=(Qcu Qz 61 (sA g162) x0.a.length c15 d192 (G161.toNat) [iV ((gt d192 (G161.toNat)).e.Id),iV ((gt d192 (G161.toNat)).e.u), .slice A218 ((gt d192 (G161.toNat)).e.o).length c219, .slice A222 ((gt d192 (G161.toNat)).e.t).length c223,iV ((gt d192 (G161.toNat)).r), .slice A226 ((gt d192 (G161.toNat)).q).length c227,iV ((gt d192 (G161.toNat)).v),iV ((gt d192 (G161.toNat)).A),iV ((gt d192 (G161.toNat)).z), .slice A230 ((gt d192 (G161.toNat)).p).length c231]::J58)) (fun _ _ hs=>Qfr (x:=(gt d192 (G161.toNat))) hs) (hm.pickN 22 [0,1,2,3,4,5,6,7,8,9,10,11,12,13,14,15,16,17,18,19,20,21] (by decide)))) ?_;refine Qbh (fun W hm=>Mem.unfocus0 (Mem.join (is:=[I34]) (js:=(I35::(I32::I36::Qb p207 70 K13::J57))) (fun _ _ hs=>Qjb (x:=(gt (gt x0.d.c (x0.g.toNat)) k190)) hs) ((hm.front (n:=4) rfl).front (n:=4) rfl))) ?_;exact Qax (k190+1,(s191,d192),()) sl9 (pn 17 [1,4,5,6,0,7,8,9,10,11,12,13,14,15,16]) ⟨(by omega),nx hF194 (by subst hG161;exact Qc g235 (Qe g237 (rfl))),(show d192.map (fun(a:Qp)=>a.e.Id)=d150.map (fun(a:Qp)=>a.e.Id) from by first|exact hi196|exact(Qvg (by rfl)).trans hi196),(show ∀ i,(gt d192 i).q.length≤8∧(gt d192 i).p.length≤1000+4*k139+(k190+1) from by first|exact(fun i=>by have:=hi197 i;omega)|exact Qtm hi197 (by omega) (Nat.le_refl _) (by simp only[List.length_append,List.length_cons,List.length_nil];omega))⟩ (show(gt x0.d.c (x0.g.toNat)).length-(k190+1)<(gt x0.d.c (x0.g.toNat)).length-k190 from by omega)
    refine qs g235 ?_;refine qs g235 ?_;refine qs g235 ?_;refine qs g235 ?_;refine qs g235 ?_;refine qs g235 ?_;refine qs g235 ?_;refine qs g235 ?_;refine qs g235 ?_;refine qs g235 ?_;refine qs g235 ?_;refine qs g235 ?_;refine qs g235 ?_;refine qv (vpF g235) ?_;refine nq' ?_;refine Qx rfl rfl ?_;refine Qac (Qar (Qi (Qae (wm ?_))));refine wv (Qbc k190 1 (by omega)) ?_;refine wa (Qai ?_);refine Qbh (fun W hm=>Mem.unfocus0 (Mem.join (is:=[iS Qbl 180 A218 c219 ((gt d192 (G161.toNat)).e.o),iS Qa 3 A222 c223 ((gt d192 (G161.toNat)).e.t),iS Qa 3 A226 c227 ((gt d192 (G161.toNat)).q),iS Qas 70 A230 c231 ((gt d192 (G161.toNat)).p)]) (js:=(Qcu Qz 61 (sA g162) x0.a.length c15 d192 (G161.toNat) [iV ((gt d192 (G161.toNat)).e.Id),iV ((gt d192 (G161.toNat)).e.u), .slice A218 ((gt d192 (G161.toNat)).e.o).length c219, .slice A222 ((gt d192 (G161.toNat)).e.t).length c223,iV ((gt d192 (G161.toNat)).r), .slice A226 ((gt d192 (G161.toNat)).q).length c227,iV ((gt d192 (G161.toNat)).v),iV ((gt d192 (G161.toNat)).A),iV ((gt d192 (G161.toNat)).z), .slice A230 ((gt d192 (G161.toNat)).p).length c231]::J58)) (fun _ _ hs=>Qfr (x:=(gt d192 (G161.toNat))) hs) (hm.pickN 22 [0,1,2,3,4,5,6,7,8,9,10,11,12,13,14,15,16,17,18,19,20,21] (by decide)))) ?_;refine Qbh (fun W hm=>Mem.unfocus0 (Mem.join (is:=[I34]) (js:=(I35::(I32::I36::Qb p207 70 K13::J57))) (fun _ _ hs=>Qjb (x:=(gt (gt x0.d.c (x0.g.toNat)) k190)) hs) ((hm.front (n:=4) rfl).front (n:=4) rfl))) ?_;exact Qax (k190+1,(s191,d192),()) sl9 (pn 17 [1,4,5,6,0,7,8,9,10,11,12,13,14,15,16]) ⟨(by omega),nx hF194 (by subst hG161;exact Qe g235 (rfl)),(show d192.map (fun(a:Qp)=>a.e.Id)=d150.map (fun(a:Qp)=>a.e.Id) from by first|exact hi196|exact(Qvg (by rfl)).trans hi196),(show ∀ i,(gt d192 i).q.length≤8∧(gt d192 i).p.length≤1000+4*k139+(k190+1) from by first|exact(fun i=>by have:=hi197 i;omega)|exact Qtm hi197 (by omega) (Nat.le_refl _) (by simp only[List.length_append,List.length_cons,List.length_nil];omega))⟩ (show(gt x0.d.c (x0.g.toNat)).length-(k190+1)<(gt x0.d.c (x0.g.toNat)).length-k190 from by omega)
   refine Qx rfl g199 ?_;refine Qbm (Qag (Qag ?_));have hE285:=Qbx hl198 hF194;have hTd:=hi197;refine Qbn (Qi (sr ?_));refine wv (vf Qdg rfl Qbf) ?_;refine wv (vl 1 4 Qo) ?_;refine wm ?_;refine Qcf (cs:=[iV s191]) Qo Qg rfl (by decide) (by decide) rfl (by kernel_rfl) (Qf rfl) (by decide) (fun p286=>?_);let J60:List It:=I31::iS Qa 3 A132 c133 x1::I24::I25::Qb p121 204 K2::I22::I23::iS Qa 3 A10 c11 x0.l::iS Qaz 80 A18 c19 x0.j::iS Qaw 102 A22 c23 x0.k::Qb p 39 K8::iS Qa 3 (sA g160) c27 x1::is;refine ap1 Qa 3 (.slice A148 d147.length c149) d147 s191 [] (Qh (tSl Qz 61) [.slice (sA g162) x0.a.length c15] d192::Qb p136 102 K10::J60) [iV s191] (fun W hm=>((hm.front (n:=15) rfl).front (n:=1) rfl)) (fun _ _ hs=>by cases (Sep.nil hs);exact(Qdc Qbu Qfa)) Qo Qg (show(d147.length+1)*8≤140737488355328 from by first|omega|(have:=hTd _;omega)) (fun v287=>?_);refine fm 0 ?_;rintro A288 c289 rfl m290;refine wv (vf Qdg rfl Qbf) ?_;let K18:List Value:=[iV x0.g,nI ((gt x0.d.c (x0.g.toNat)).length), .slice A132 x1.length c133, .slice A186 (d143++[(gt d150 (G161.toNat)).e.u]).length c187, .slice A288 (d147++[s191]).length c289];refine Qdf (p:=p136) (o:=4) (cs':=K18) (fun w hm=>hm.front (n:=2) rfl) Qbf rfl (Nat.le_of_ble_eq_true rfl) rfl rfl rfl rfl (Qf rfl) ?_;refine nt' (Qj ?_);let J61:List It:=Qb p136 102 K18::iS Qa 3 A288 c289 (d147++[s191])::J60;refine Qkb (E:=Qz) (e:=61) (A:=(sA g162)) (n:=x0.a.length) (c:=c15) (xs:=d192) (k:=(G161.toNat)) (js:=J61) (by omega) (fun W hm=>(hm.front (n:=2) rfl)) (fun ck292=>?_);refine Qix (γ:=Value×Value×Value×Value) (js:=fun g=>[Qh (tSl Qbl 180) [g.1] ((gt d192 (G161.toNat)).e.o),Qh (tSl Qa 3) [g.2.1] ((gt d192 (G161.toNat)).e.t),Qh (tSl Qa 3) [g.2.2.1] ((gt d192 (G161.toNat)).q),Qh (tSl Qas 70) [g.2.2.2] ((gt d192 (G161.toNat)).p)]) (C:=fun g=>ck292=[iV ((gt d192 (G161.toNat)).e.Id),iV ((gt d192 (G161.toNat)).e.u),g.1,g.2.1,iV ((gt d192 (G161.toNat)).r),g.2.2.1,iV ((gt d192 (G161.toNat)).v),iV ((gt d192 (G161.toNat)).A),iV ((gt d192 (G161.toNat)).z),g.2.2.2]) (fun _ _ h=>Qqr h) ?_;rintro⟨v293,v294,v295,v296⟩ rfl;refine Qdt (n:=0) rfl ?_;rintro A297 c298 rfl m299;refine Qdt (n:=1) rfl ?_;rintro A301 c302 rfl m303;refine Qdt (n:=2) rfl ?_;rintro A305 c306 rfl m307;refine Qdt (n:=3) rfl ?_;rintro A309 c310 rfl m311;let I42:It:=iS Qbl 180 A297 c298 ((gt d192 (G161.toNat)).e.o);let I43:It:=iS Qa 3 A301 c302 ((gt d192 (G161.toNat)).e.t);let I44:It:=iS Qa 3 A305 c306 ((gt d192 (G161.toNat)).q);let I45:It:=iS Qas 70 A309 c310 ((gt d192 (G161.toNat)).p);let J62:List It:=I42::I43::I44::I45::J61;refine rb 18 (s:=J62) (pn 19 [0,1,2,3,5,6,7,8,9,10,11,12,13,14,15,16,17,18]) ?_;refine qt 18 0 1 rfl vmv ?_;refine qt 18 1 3 rfl (fun W hm=>Qeh rfl) ?_;refine qt 18 2 7 rfl (vf Qt rfl Qcd) ?_;refine qt 18 3 15 rfl (vl 16 4 Qaq) ?_;refine qt 18 4 31 rfl vmv ?_;refine qt 18 5 63 rfl vmv ?_;refine qt 18 6 127 rfl (fun W hm=>Qeh rfl) ?_;refine qt 18 7 255 rfl (vf Qt rfl Qcd) ?_;refine qt 18 8 511 rfl (vl 16 4 Qaq) ?_;refine qt 18 9 1023 rfl vmv ?_;refine qt 18 10 2047 rfl (fun W hm=>Qds (sz:=10) (k:=G161) Qaq Qbg rfl rfl rfl (by omega) (by omega)) ?_;refine qt 18 11 4095 rfl (vf Qbb rfl Qg) ?_;refine qt 18 13 12287 rfl vmv ?_;refine qo 18 12 16383 rfl ?_;refine wv (fun W hm=>Qbe Qu rfl rfl (hm.focCells (i:=4) rfl rfl 7 _ rfl)) ?_;refine qn (pn 19 [0,1,2,3,5,6,7,8,9,10,11,12,13,14,15,16,17,18]) ?_;refine qt 18 14 32767 rfl Qfe ?_;refine qt 18 15 65535 rfl (fun W hm=>Qds (sz:=10) (k:=G161) Qaq Qbg rfl rfl rfl (by omega) (by omega)) ?_;refine qt 18 16 131071 rfl (vf Qbb rfl Qg) ?_;refine qo 18 17 262143 rfl ?_;refine sf 7 10 [iV ((gt d192 (G161.toNat)).e.Id),iV ((gt d192 (G161.toNat)).e.u), .slice A297 ((gt d192 (G161.toNat)).e.o).length c298, .slice A301 ((gt d192 (G161.toNat)).e.t).length c302,iV ((gt d192 (G161.toNat)).r), .slice A305 ((gt d192 (G161.toNat)).q).length c306,iV ((gt d192 (G161.toNat)).v),iV (IntKind.i64.wrap (((gt d192 (G161.toNat)).A)+s191)),iV ((gt d192 (G161.toNat)).z), .slice A309 ((gt d192 (G161.toNat)).p).length c310] J62 (fun W hm=>(hm.front (n:=4) rfl)) Qg ?_;refine qn (pn 19 [1,2,3,4,5,6,7,8,9,10,11,12,13,14,15,16,17,18]) ?_;refine Qdn (by kernel_rfl) ?_;refine Qi ?_;refine rb 21 (s:=J62) (pn 19 [1,2,3,4,5,6,7,8,9,10,11,12,13,14,15,16,17,18]) ?_;refine qt 21 0 1 rfl vmv ?_;refine qt 21 1 3 rfl (fun W hm=>Qeh rfl) ?_;refine qt 21 2 7 rfl (vf Qt rfl Qcd) ?_;refine qt 21 3 15 rfl (vl 16 4 Qaq) ?_;refine qt 21 4 31 rfl vmv ?_;refine qt 21 5 63 rfl vmv ?_;refine qt 21 6 127 rfl (fun W hm=>Qeh rfl) ?_;refine qt 21 7 255 rfl (vf Qt rfl Qcd) ?_;refine qt 21 8 511 rfl (vl 16 4 Qaq) ?_;refine qt 21 9 1023 rfl vmv ?_;refine qt 21 10 2047 rfl (fun W hm=>Qds (sz:=10) (k:=G161) Qaq Qbg rfl rfl rfl (by omega) (by omega)) ?_;refine qt 21 11 4095 rfl (vf Qbb rfl Qbf) ?_;refine qt 21 13 12287 rfl vmv ?_;refine qt 21 14 28671 rfl (fun W hm=>Qeh rfl) ?_;refine qt 21 15 61439 rfl (vf Qt rfl Qg) ?_;refine qt 21 16 126975 rfl (vl 16 2 Qu) ?_;refine qo 21 12 131071 rfl ?_;refine wv (fun W hm=>Qbe Qo rfl rfl (hm.focCells (i:=0) rfl rfl 5 _ rfl)) ?_;refine qn (pn 19 [1,2,3,4,5,6,7,8,9,10,11,12,13,14,15,16,17,18]) ?_;refine qo 21 17 262143 rfl ?_;refine wcl (tSl Qa 3) (Qlx ((gt d192 (G161.toNat)).q) x0.g) (Qs Qaoy rfl) (fun W hm=>Qawx W _ ((gt d192 (G161.toNat)).q) x0.g (hm.rdSI (n:=3) rfl) (show _≤68719476736 from by have:=hTd (G161.toNat);omega)) (fun z313=>?_);refine fm 0 ?_;rintro A314 c315 rfl m316;refine qn (pn 20 [2,3,4,5,6,7,8,9,10,11,12,13,14,15,16,17,18,19]) ?_;refine qt 21 18 524287 rfl (fun W hm=>Qds (sz:=10) (k:=G161) Qaq Qbg rfl rfl rfl (by omega) (by omega)) ?_;refine qt 21 19 1048575 rfl (vf Qbb rfl Qbf) ?_;refine qo 21 20 2097151 rfl ?_;let K19:List Value:=[iV ((gt d192 (G161.toNat)).e.Id),iV ((gt d192 (G161.toNat)).e.u), .slice A297 ((gt d192 (G161.toNat)).e.o).length c298, .slice A301 ((gt d192 (G161.toNat)).e.t).length c302,iV ((gt d192 (G161.toNat)).r), .slice A314 (Qlx ((gt d192 (G161.toNat)).q) x0.g).length c315,iV ((gt d192 (G161.toNat)).v),iV (IntKind.i64.wrap (((gt d192 (G161.toNat)).A)+s191)),iV ((gt d192 (G161.toNat)).z), .slice A309 ((gt d192 (G161.toNat)).p).length c310];let I46:It:=iS Qa 3 A314 c315 (Qlx ((gt d192 (G161.toNat)).q) x0.g);refine sf 5 10 K19 (I46::J62) (fun W hm=>(hm.front (n:=1) rfl)) Qbf ?_;refine qn (pn 20 [2,3,4,5,6,7,8,9,10,11,12,13,14,15,16,17,18,19]) ?_;refine Qdn (by kernel_rfl) ?_;refine Qar (Qi (Qae (wm ?_)));refine wv (Qbc k139 1 (by omega)) ?_;refine wa (Qai ?_);refine Qbh (fun W hm=>Mem.unfocus (Mem.join (is:=[I42,I43,I46,I45]) (js:=(Qcu Qz 61 (sA g162) x0.a.length c15 d192 (G161.toNat) K19::(I44::J61))) (fun _ _ hs=>Qfr (x:=(⟨(gt d192 (G161.toNat)).e,(gt d192 (G161.toNat)).r,(Qlx ((gt d192 (G161.toNat)).q) x0.g),(gt d192 (G161.toNat)).v,(IntKind.i64.wrap (((gt d192 (G161.toNat)).A)+s191)),(gt d192 (G161.toNat)).z,(gt d192 (G161.toNat)).p⟩:Qp)) hs) (hm.pickN 20 [2,3,1,5,0,4,6,7,8,9,10,11,12,13,14,15,16,17,18,19] (by decide)))) ?_;exact Qax (k139+1,((d143++[(gt d150 (G161.toNat)).e.u]),(d147++[s191]),(Qqg x0 G161 s191 d192)),(A186,c187,A288,c289)) sl6 (pn 16 [2,5,6,7,8,9,10,11,0,12,13,14,15,4,3]) ⟨(by omega),nx hF152 (by subst hG161;exact Qbd hE285 (rfl)),(show(d143++[(gt d150 (G161.toNat)).e.u]).length≤0+(k139+1) from by first|omega|(simp only[List.length_append,List.length_cons,List.length_nil] at *;omega)),(show(d147++[s191]).length≤0+(k139+1) from by first|omega|(simp only[List.length_append,List.length_cons,List.length_nil] at *;omega)),(show(Qqg x0 G161 s191 d192).map (fun(a:Qp)=>a.e.Id)=x0.a.map (fun(a:Qp)=>a.e.Id) from by exact(Qvg (by rfl)).trans (hi196.trans hi156)),(show ∀ i,(gt (Qqg x0 G161 s191 d192) i).q.length≤8∧(gt (Qqg x0 G161 s191 d192) i).p.length≤1000+4*(k139+1) from by exact Qtm hi197 (by omega) (Qbbb _ _) (by dsimp only;omega))⟩ rl
  refine Qx rfl g159 ?_;refine Qbm (Qag (Qag ?_));have hE319:=Qbx hl158 hF152;refine Qbn (Qi ?_);refine Qdb (pn 15 [0,1,2,3,7,8,9,10,11,12,13,14]) ?_;let K20:List Value:=[iV x0.g,nI ((gt x0.d.c (x0.g.toNat)).length), .slice A132 x1.length c133, .slice A144 d143.length c145, .slice A148 d147.length c149];let I47:It:=Qh (tSl Qz 61) [.slice A14 x0.a.length c15] d150;let J63:List It:=Qb p136 102 K20::I24::I25::iS Qa 3 A10 c11 x0.l::I47::iS Qaz 80 A18 c19 x0.j::Qb p 39 K3::J49;let J64:List It:=iS Qa 3 A10 c11 x0.l::I47::iS Qaz 80 A18 c19 x0.j::J49;refine rd2 11 [10] (s:=(Qb p136 102 K20::I24::I25::J64)) (s2:=J63) (pn 12 [0,2,3,4,5,6,9]) (pn 12 [0,2,3,4,5,6,8,9]) ?_;refine qtD 11 0 1 rfl vmv ?_;refine qtD 11 1 3 rfl vmv ?_;refine qtD 11 2 7 rfl (fun W hm=>Qeh rfl) ?_;refine qtD 11 3 15 rfl (vf Qt rfl Qgn) ?_;refine qtD 11 4 31 rfl (vl 6 6 Qee) ?_;refine qtD 11 5 63 rfl (fun W hm=>Qab (cs:=K20) Qdg Qet rfl rfl (hm.boxCells (n:=0) rfl)) ?_;refine qoD 11 6 127 rfl ?_;refine Qcf (cs:=K20) Qee Qet rfl (by decide) (by decide) rfl (by kernel_rfl) (Qf rfl) (by decide) (fun p320=>?_);refine qnD (pn 13 [1,3,4,5,6,7,10]) (pn 13 [1,3,4,5,6,7,9,10]) ?_;refine qoD 11 7 255 rfl ?_;refine Qov (E:=Qaw) (e:=102) (v:= .slice A22 x0.k.length c23) (p:=p320) (q:=1) (xs:=x0.k) (ys:=[(⟨x0.g,(((gt x0.d.c (x0.g.toNat)).length:Nat):Int),x1,d143,d147⟩:Qdi)]) (eis:=[iS Qa 3 A132 c133 x1,iS Qa 3 A144 c145 d143,iS Qa 3 A148 c149 d147]) (js:=J63) (news:=K20) (pn 13 [0,8,2,11,12,1,3,4,5,6,7,9,10]) (fun _ _ hs=>Els.single (Qqs (x:=(⟨x0.g,(((gt x0.d.c (x0.g.toNat)).length:Nat):Int),x1,d143,d147⟩:Qdi)) hs)) Qee Qet rfl rfl rfl (Nat.le_of_ble_eq_true rfl) rfl rfl rfl (show(x0.k.length+1)*88≤140737488355328 from by first|omega|(have:=hTd _;omega)) (show x0.k.length+1≤9223372036854775807 from by first|omega|(have:=hTd _;omega)) (Qf rfl) (by decide) (fun v321=>?_);refine fm 0 ?_;rintro A322 c323 rfl m324;refine qnD (pn 9 [1,2,3,4,5,6,8]) (pn 9 [1,2,3,4,5,6,7,8]) ?_;refine qtP 11 8 511 rfl (fun W=>Qeh rfl) ?_;refine qtD 11 9 1023 rfl (vf Qt rfl Qgn) ?_;refine qoD 11 10 2047 rfl ?_;let K21:List Value:=[.slice (sA g122) x0.d.c.length c7,iV x0.d.f,iV x0.g, .slice A10 x0.l.length c11, .slice A14 x0.a.length c15, .slice A18 x0.j.length c19, .slice A322 (Qqh x0 x1 d143 d147).length c323,iV x0.n];refine Qdf (p:=p) (o:=6) (cs':=K21) (fun w hm=>hm.front (n:=7) rfl) Qgn rfl (Nat.le_of_ble_eq_true rfl) rfl rfl rfl rfl (Qf rfl) ?_;refine qxD (pn 9 [2,3,4,5,6,7,8]) ?_;refine Qdn (by kernel_rfl) ?_;let I48:It:=iS Qaw 102 A322 c323 (Qqh x0 x1 d143 d147);refine Qbh (fun W hm=>Mem.unfocus0 (Mem.join (is:=[I24]) (js:=(I25::(Qb p 39 K21::I48::Qb p136 102 K20::J64))) (fun _ _ hs=>Sep.one hs) ((hm.front (n:=4) rfl).front (n:=4) rfl))) ?_;refine Qbh (js:=(Qh Qbz K21 (⟨x0.d,x0.g,x0.l,d150,x0.j,(Qqh x0 x1 d143 d147),x0.n⟩:Qk)::(Qb p 39 K21::Qb p136 102 K20::J49))) (fun W hm=>Mem.join (is:=[iS (tSl Qy 163) 100 (sA g122) c7 x0.d.c,iS Qa 3 A10 c11 x0.l,I47,iS Qaz 80 A18 c19 x0.j,I48]) (js:=(Qb p 39 K21::Qb p136 102 K20::J49)) (fun _ _ hs=>Qej (x:=(⟨x0.d,x0.g,x0.l,d150,x0.j,(Qqh x0 x1 d143 d147),x0.n⟩:Qk)) hs) (hm.pickN 8 [0,4,5,6,2,1,3,7] (by decide))) ?_;have he326:=(show Qll x0 x1=(⟨x0.d,x0.g,x0.l,d150,x0.j,(Qqh x0 x1 d143 d147),x0.n⟩:Qk) from Qbd hE109 (Qbd hE319 (rfl)));refine Qwz rfl (fun W hm=>⟨K21,?_,?_⟩)
  ·rfl
  rw[he326];exact((((hm.front (n:=3) rfl).front (n:=1) rfl).front (n:=2) rfl).front (n:=3) rfl).tail
 refine qtD 12 0 1 rfl vmv ?_;refine qtD 12 1 3 rfl (fun W hm=>Qeh rfl) ?_;refine qtD 12 2 7 rfl (vf Qt rfl Qg) ?_;refine qtD 12 3 15 rfl (vl 9 2 Qu) ?_;refine qtD 12 4 31 rfl vmv ?_;refine qtD 12 5 63 rfl (Qan Qbp) ?_;refine qtD 12 7 191 rfl vmv ?_;refine qaD [6,10] ?_;refine qcD 12 255 rfl ?_ ?_
 ·refine Qcl (E:=Qa) Qo Qg (Qf rfl) (by decide) (fun p327=>?_);refine qnD (pn 12 [1,2,3,4,5,6,7,8,9,10,11]) (pn 12 [1,2,3,4,5,6,7,8,9,10,11]) ?_;refine qaD [8,10] ?_;refine qcD 12 511 rfl ?_ ?_
  ·refine apR Qa Qa 3 (.slice (sA p327) 0 0) [] x1 J51 (fun W hm=>(hm.front (n:=0) rfl)) (fun W hm=>Qdj Qdd (hm.rdSI (n:=11) rfl)) Qo Qg (show(0+x1.length)*8≤140737488355328 from by omega) (fun v329=>?_);refine fm 0 ?_;rintro A330 c331 rfl m332;refine qnD (pn 12 [1,2,3,4,5,6,7,8,9,10,11]) (pn 12 [1,2,3,4,5,6,7,8,9,10,11]) ?_;refine qtD 12 9 1023 rfl (fun W hm=>Qcz (cs:=[iV x0.g,nI ((gt x0.d.c (x0.g.toNat)).length), .slice A330 x1.length c331, .slice none 0 0, .slice none 0 0]) rfl (by kernel_rfl)) ?_;refine qoD 12 10 2047 rfl ?_;refine Qbo Qet rfl (Qf rfl) (by decide) (fun p334=>?_);refine qnD (pn 13 [2,3,4,5,6,7,8,9,10,11,12]) (pn 13 [2,3,4,5,6,7,8,9,10,11,12]) ?_;exact Qdv sl6 idM (H (A330,c331,p334))
  refine qcD 12 1279 rfl ?_ ?_
  ·refine Qbo Qet rfl (Qf rfl) (by decide) (fun p335=>?_);refine qnD (pn 13 [2,3,4,5,6,7,8,9,10,11,12]) (pn 13 [2,3,4,5,6,7,8,9,10,11,12]) ?_;refine qoD 12 8 1535 rfl ?_;refine apR Qa Qa 3 (.slice (sA p327) 0 0) [] x1 (Qb p335 102 K5::J51) (fun W hm=>(hm.front (n:=1) rfl)) (fun W hm=>Qdj Qdd (hm.rdSI (n:=12) rfl)) Qo Qg (show(0+x1.length)*8≤140737488355328 from by omega) (fun v336=>?_);refine fm 0 ?_;rintro A337 c338 rfl m339;refine qnD (pn 13 [2,3,4,5,6,7,8,9,10,11,12]) (pn 13 [2,3,4,5,6,7,8,9,10,11,12]) ?_;refine qtD 12 9 2047 rfl (fun W hm=>Qcz (cs:=[iV x0.g,nI ((gt x0.d.c (x0.g.toNat)).length), .slice A337 x1.length c338, .slice none 0 0, .slice none 0 0]) rfl (by kernel_rfl)) ?_;exact Qdv sl6 (pn 13 [1,0,2,3,4,5,6,7,8,9,10,11,12]) (H (A337,c338,p335))
  exact Qff
 refine qcD 12 1215 rfl ?_ ?_
 ·refine Qbo Qet rfl (Qf rfl) (by decide) (fun p341=>?_);refine qnD (pn 12 [1,2,3,4,5,6,7,8,9,10,11]) (pn 12 [1,2,3,4,5,6,7,8,9,10,11]) ?_;refine qoD 12 6 1279 rfl ?_;refine Qcl (E:=Qa) Qo Qg (Qf rfl) (by decide) (fun p342=>?_);refine qnD (pn 13 [2,3,4,5,6,7,8,9,10,11,12]) (pn 13 [2,3,4,5,6,7,8,9,10,11,12]) ?_;refine qoD 12 8 1535 rfl ?_;refine apR Qa Qa 3 (.slice (sA p342) 0 0) [] x1 (Qb p341 102 K5::J51) (fun W hm=>(hm.front (n:=0) rfl)) (fun W hm=>Qdj Qdd (hm.rdSI (n:=12) rfl)) Qo Qg (show(0+x1.length)*8≤140737488355328 from by omega) (fun v344=>?_);refine fm 0 ?_;rintro A345 c346 rfl m347;refine qnD (pn 13 [2,3,4,5,6,7,8,9,10,11,12]) (pn 13 [2,3,4,5,6,7,8,9,10,11,12]) ?_;refine qtD 12 9 2047 rfl (fun W hm=>Qcz (cs:=[iV x0.g,nI ((gt x0.d.c (x0.g.toNat)).length), .slice A345 x1.length c346, .slice none 0 0, .slice none 0 0]) rfl (by kernel_rfl)) ?_;exact Qdv sl6 (pn 13 [1,0,2,3,4,5,6,7,8,9,10,11,12]) (H (A345,c346,p341))
 exact Qff
def Qfc (vis:Qw→Bool) (s:List Qw):List Qah:=(s.filter vis).map fun v=>(⟨v.Id,v.m⟩:Qah)
theorem Qvd (vis:Qw→Bool) (s:List Qw):(Qfc vis s).length≤s.length:=by
 unfold Qfc;rw[List.length_map];exact List.length_filter_le _ _
theorem Qasw {x y:List Int} (h:Qhk x y=true):x=y:=by
 unfold Qhk at h
 by_cases hl:x.length=y.length
 ·rw[show(((x.length:Nat):Int) !=((y.length:Nat):Int))=false from by rw[hl,bne_self_eq_false],cond_false,Qjx (p:=fun k=> !(gt x k !=gt y k)) (r:=false) (fun k _=>by unfold Qwa;cases gt x k !=gt y k <;>rfl)] at h;have ha:(List.range x.length).all (fun k=> !(gt x k !=gt y k))=true:=by
   cases hc:(List.range x.length).all (fun k=> !(gt x k !=gt y k)) with
   |true=>rfl
   |false=>rw[hc] at h;cases h
  rw[List.all_eq_true] at ha;apply List.ext_getElem hl;intro i h1 h2;have:=ha i (List.mem_range.2 h1);rw[Bool.not_eq_true',bne_eq_false_iff_eq,Qdl h1,Qdl h2] at this;exact this
 rw[bne_iff_ne.2 (show((x.length:Nat):Int)≠((y.length:Nat):Int) by omega)] at h;cases h
def Qiq (s:Qdk) (v:Int):Bool:=decide (s.I≤v∧v≤s.To)
def Qjl:List Qdk→Int→List Int
 | [],_=>[]
 |s::l,v=>cond (Qiq s v) s.E (Qjl l v)
theorem Qakw (l:List Qdk) (v:Int):Qhi l v=Qjl l v:=by
 have key:∀ m k,m+k=l.length→Sum.elim id (fun(_:Unit)=>[]) (rng (R:=List Int) (fun k (_:Unit)=>Qlw l v k) m k ())=Qjl (l.drop k) v:=by
  intro m
  induction m with
  |zero=>intro k hk;rw[List.drop_of_length_le (by omega)];rfl
  |succ m ih=>
   intro k hk;have hlt:k<l.length:=by omega
   rw[List.drop_eq_getElem_cons hlt, ← Qdl hlt,rng];show Sum.elim id (fun(_:Unit)=>[]) (Sum.elim Sum.inl (fun s'=>rng (R:=List Int) (fun k (_:Unit)=>Qlw l v k) m (k+1) s') (Qlw l v k))=cond (Qiq (gt l k) v) (gt l k).E (Qjl (l.drop (k+1)) v);unfold Qlw Qiq;rw[Qfy];cases decide ((gt l k).I≤v∧v≤(gt l k).To) with
   |true=>rfl
   |false=>exact ih (k+1) (by omega)
 have:=key (l.length-0) 0 (by omega);rw[List.drop_zero] at this;exact this
theorem Qaez {z:Qdk} {v:Int} (h:Qiq z v=false):∀ p:List Qdk,Qjl (p++[z]) v=Qjl p v
 | []=>by show cond (Qiq z v) _ _=_;rw[h];rfl
 |s::p=>by show cond (Qiq s v) _ (Qjl (p++[z]) v)=cond (Qiq s v) _ (Qjl p v);rw[Qaez h p]
theorem Qyd {z:Qdk} {v:Int} (h:Qiq z v=true):∀ p:List Qdk,(∀ s∈p,Qiq s v=false)→Qjl (p++[z]) v=z.E
 | [],_=>by show cond (Qiq z v) _ _=_;rw[h];rfl
 |s::p,hp=>by
  show cond (Qiq s v) _ (Qjl (p++[z]) v)=_;rw[hp s (List.mem_cons_self ..),Qyd h p (fun s' hs=>hp s' (List.mem_cons_of_mem _ hs))];rfl
theorem Qaey {z z':Qdk} {v:Int} (h:Qiq z v=Qiq z' v) (hs:z.E=z'.E):∀ p:List Qdk,Qjl (p++[z]) v=Qjl (p++[z']) v
 | []=>by show cond (Qiq z v) _ _=cond (Qiq z' v) _ _;rw[h,hs]
 |s::p=>by show cond (Qiq s v) _ (Qjl (p++[z]) v)=cond (Qiq s v) _ (Qjl (p++[z']) v);rw[Qaey h hs p]
def Qxd (T:Int→List Int) (k:Nat) (d:List Qdk):Prop:=
 (k=0∧d=[])∨∃ p z,d=p++[z]∧z.To=((k:Nat):Int)-1∧z.I≤((k:Nat):Int)-1∧z.E=T (((k:Nat):Int)-1)∧(∀ s∈p,s.To<z.I)∧∀ v:Int,0≤v→v<((k:Nat):Int)→Qjl d v=T v
theorem Qaml {l:List Qba} {f:Int} (k:Nat) (d:List Qdk) (h:Qxd (fun v=>Qfq l f v) k d):∃ d',Qnj l f k d= .inr d'∧Qxd (fun v=>Qfq l f v) (k+1) d':=by
 unfold Qnj;rcases h with⟨rfl,rfl⟩|⟨p,z,rfl,h1,h2,h3,h4,h5⟩
 ·refine⟨[⟨0,0,Qfq l f 0⟩],rfl, .inr ⟨[],_,rfl,rfl,(by show(0:Int)≤_;omega),rfl,(fun s hs=>by cases hs),fun v v0 v1=>?_⟩⟩;have hv:v=0:=by omega
  subst hv;rfl
 have hl:(p++[z]).length-1=p.length:=by rw[List.length_append];show p.length+1-1=_;omega
 have hg:gt (p++[z]) p.length=z:=by
  rw[Qdl (by rw[List.length_append];show p.length<p.length+1;omega),List.getElem_append_right (Nat.le_refl _)];simp
 have hset:∀ y,(p++[z]).set p.length y=p++[y]:=fun y=>by
  rw[List.set_append_right _ _ (Nat.le_refl _),Nat.sub_self];rfl
 rw[decide_eq_true (show(0:Int)<(((p++[z]).length:Nat):Int) by rw[List.length_append];show(0:Int)<((p.length+1:Nat):Int);omega),cond_true,hl,hg,hset];have hz:∀ s∈p,Qiq s ((k:Nat):Int)=false:=fun s hs=>decide_eq_false (by have:=h4 s hs;omega)
 cases hc:Qhk z.E (Qfq l f ((k:Nat):Int)) with
 |true=>
  have he:=Qasw hc;refine⟨_,rfl, .inr ⟨p,_,rfl,(by show((k:Nat):Int)=((k+1:Nat):Int)-1;omega),(by show z.I≤((k+1:Nat):Int)-1;omega),(by show z.E=Qfq l f (((k+1:Nat):Int)-1);rw[he];congr 1;omega),h4,fun v v0 v1=>?_⟩⟩
  by_cases hv:v=((k:Nat):Int)
  ·rw[hv,Qyd (decide_eq_true (by show z.I≤((k:Nat):Int)∧((k:Nat):Int)≤((k:Nat):Int);omega)) p hz];exact he
  rw[← h5 v v0 (by omega)];refine(Qaey (z:=z) (z':=⟨z.I,((k:Nat):Int),z.E⟩) (v:=v) ?_ rfl p).symm;unfold Qiq;apply decide_eq_decide.2;show _↔(z.I≤v∧v≤((k:Nat):Int));omega
 |false=>
  refine⟨_,rfl, .inr ⟨p++[z],_,rfl,(by show((k:Nat):Int)=((k+1:Nat):Int)-1;omega),(by show((k:Nat):Int)≤((k+1:Nat):Int)-1;omega),(by show Qfq l f ((k:Nat):Int)=Qfq l f (((k+1:Nat):Int)-1);congr 1;omega),fun s hs=>?_,fun v v0 v1=>?_⟩⟩
  ·show s.To<((k:Nat):Int);rcases List.mem_append.1 hs with h|h
   ·have:=h4 s h;omega
   rw[List.mem_singleton.1 h];omega
  by_cases hv:v=((k:Nat):Int)
  ·rw[hv,Qyd (decide_eq_true (by show((k:Nat):Int)≤((k:Nat):Int)∧((k:Nat):Int)≤((k:Nat):Int);omega)) (p++[z]) (fun s hs=>by
    rcases List.mem_append.1 hs with h|h
    ·exact hz s h
    rw[List.mem_singleton.1 h];exact decide_eq_false (by omega))]
  rw[Qaez (decide_eq_false (by show ¬ (((k:Nat):Int)≤v∧_);omega)),h5 v v0 (by omega)]
theorem Qakx {l:List Qba} {f v:Int} (hq:Qhr l=true) (hf:0≤f∧f≤2) (hv:0≤v∧v≤99):Qhi (Qew l f) v=Qfq l f v:=by
 rw[Qakw];unfold Qew;rw[hq,Qfy,decide_eq_true hf,cond_true,cond_true];obtain⟨d,e,h⟩:=Qmn (R:=List Qdk) (body:=fun k (s:List Qdk)=>Qnj l f k s) (n:=100) (Qxd (fun v=>Qfq l f v)) (fun k d _ h=>Qaml k d h) (100-0) 0 [] (by omega) (.inl ⟨rfl,rfl⟩);rw[e];rcases h with⟨h,_⟩|⟨p,z,_,_,_,_,_,h⟩
 ·exact absurd h (by omega)
 exact h v (by omega) (by show v<100;omega)
theorem Qamj {l:List Qba} {f v:Int} (hq:Qhr l=true) (hf:0≤f∧f≤2) (hv:0≤v∧v≤99):Qfq l f v=(l.filter fun q=>Qkk q f v).map fun q=>q.Id:=by
 unfold Qfq
 rw[Qzr (b:=fun k d=>cond (Qkk (gt l k) f v) (Sum.inr (d++[(gt l k).Id])) (Sum.inr d)) (fun j s=>by
  unfold Qoc;rw[hq,Qfy,Qfy,decide_eq_true hf,decide_eq_true hv]
  cases Qkk (gt l j) f v <;>rfl)]
 rw[Qis (xs:=l) (f:=fun d q=>cond (Qkk q f v) (d++[q.Id]) d) (b:=fun k d=>cond (Qkk (gt l k) f v) (Sum.inr (d++[(gt l k).Id])) (Sum.inr d)) (fun j s _=>by cases Qkk (gt l j) f v <;>rfl),Qlt];rfl
theorem Qalv {q:Qba} (h:Qfw q=true):(0≤q.Id∧q.Id≤23)∧∀ c∈q.o,0≤c.Field∧c.Field≤2:=by
 unfold Qfw at h
 rw[Qjx (p:=fun k=>Qkh (gt q.o k) && (!decide (0<((k:Nat):Int)) || !decide ((gt q.o k).Field≤(gt q.o (k-1)).Field))) (r:=false) (fun k _=>by
  unfold Qni
  cases Qkh (gt q.o k) <;>cases decide (0<((k:Nat):Int)) <;>cases decide ((gt q.o k).Field≤(gt q.o (k-1)).Field) <;>rfl),Qfy q.Id] at h
 have ha:(List.range q.o.length).all (fun k=>Qkh (gt q.o k) && (!decide (0<((k:Nat):Int)) || !decide ((gt q.o k).Field≤(gt q.o (k-1)).Field)))=true∧decide (0≤q.Id∧q.Id≤23)=true:=by
  revert h
  cases (List.range q.o.length).all (fun k=>Qkh (gt q.o k) && (!decide (0<((k:Nat):Int)) || !decide ((gt q.o k).Field≤(gt q.o (k-1)).Field))) <;>cases decide (0≤q.Id∧q.Id≤23) <;>intro h <;>first|exact⟨rfl,rfl⟩|cases h
 obtain⟨ha,hi⟩:=ha;rw[List.all_eq_true] at ha;refine⟨of_decide_eq_true hi,fun c hc=>?_⟩;obtain⟨i,hi,rfl⟩:=List.mem_iff_getElem.1 hc;have:=ha i (List.mem_range.2 hi);rw[Bool.and_eq_true,Qdl hi] at this;have h1:=this.1;unfold Qkh at h1;rw[Qfy] at h1
 by_cases hf:0≤q.o[i].Field∧q.o[i].Field≤2
 ·exact hf
 rw[decide_eq_false hf] at h1;cases h1
def Qmy (q:Qba) (f v:Int):Bool:=q.o.all fun c=> !(c.Field==f) || decide (c.G≤v∧v≤c.H)
theorem Qabs (q:Qba) (f v:Int):Qkk q f v=Qmy q f v:=by
 unfold Qkk Qmy
 rw[Qpo (xs:=q.o) (p:=fun c=> !(c.Field==f) || decide (c.G≤v∧v≤c.H)) (r:=false) (fun k _=>by
  unfold Qaax;rw[Qfy]
  cases (gt q.o k).Field==f <;>cases decide ((gt q.o k).G≤v∧v≤(gt q.o k).H) <;>rfl)]
 cases q.o.all fun c=> !(c.Field==f) || decide (c.G≤v∧v≤c.H) <;>rfl
theorem Qace {x:List Int} (h1:x.Pairwise (fun a b=>a<b)) (h2:∀ y∈x,0≤y∧y≤23):Qic x=true:=by
 unfold Qic
 rw[Qjw (fun k hk=>by
  unfold Qsn;rw[Qfy,decide_eq_true (h2 _ (Qav hk)),cond_true]
  by_cases h0:0<k
  ·rw[decide_eq_true (show(0:Int)<((k:Nat):Int) by omega),decide_eq_false (show ¬ gt x k≤gt x (k-1) by
    have:=List.pairwise_iff_getElem.1 h1 (k-1) k (by omega) hk (by omega);rw[Qdl hk,Qdl (by omega)]
    omega)]
   rfl
  rw[decide_eq_false (show ¬ (0:Int)<((k:Nat):Int) by omega)]
  rfl)]
 rfl
theorem Qafn {l:List Qba} (hq:Qhr l=true) (p:Qba→Bool):Qic ((l.filter p).map fun q=>q.Id)=true:=by
 obtain⟨_,hq1,hpw⟩:=Qxb hq;refine Qace ?_ (fun y hy=>?_)
 ·rw[List.pairwise_map];exact hpw.filter p
 obtain⟨q,hq',rfl⟩:=List.mem_map.1 hy;exact(Qalv (hq1 q (List.mem_filter.1 hq').1)).1
theorem Qaqw {l:List Qba} (h:l.Pairwise (fun a b=>a.Id<b.Id)) {a b:Qba} (ha:a∈l) (hb:b∈l) (he:a.Id=b.Id):a=b:=by
 obtain⟨i,hi,rfl⟩:=List.mem_iff_getElem.1 ha;obtain⟨j,hj,rfl⟩:=List.mem_iff_getElem.1 hb;rcases Nat.lt_trichotomy i j with c|rfl|c
 ·have:=List.pairwise_iff_getElem.1 h i j hi hj c;omega
 ·rfl
 have:=List.pairwise_iff_getElem.1 h j i hj hi c;omega
theorem Qatn (x:List Int) (i:Int):Qgl x i=x.any fun y=>y==i:=by
 unfold Qgl;rw[Qva (p:=fun y=>y==i) (r:=true) (fun j _=>rfl)];cases x.any fun y=>y==i <;>rfl
theorem Qagi {l:List Qba} (hq:Qhr l=true) (r:Qba→Bool) {q:Qba} (hm:q∈l):Qgl ((l.filter r).map fun q=>q.Id) q.Id=r q:=by
 obtain⟨_,_,hpw⟩:=Qxb hq;rw[Qatn];cases hr:r q with
 |true=>rw[List.any_eq_true];exact⟨q.Id,List.mem_map.2 ⟨q,List.mem_filter.2 ⟨hm,hr⟩,rfl⟩,beq_self_eq_true _⟩
 |false=>
  rw[List.any_eq_false];intro y hy;obtain⟨q',h1,rfl⟩:=List.mem_map.1 hy;rw[beq_iff_eq];intro he;obtain⟨h2,h3⟩:=List.mem_filter.1 h1;rw[Qaqw hpw h2 hm he,hr] at h3;cases h3
theorem Qatk {l:List Qba} (hq:Qhr l=true) (p r:Qba→Bool):Qlk ((l.filter p).map fun q=>q.Id) ((l.filter r).map fun q=>q.Id)=(l.filter fun q=>p q && r q).map fun q=>q.Id:=by
 rw[Qaib,Qafn hq,Qafn hq];show List.filter _ (List.map _ _)=_;rw[List.filter_map,List.filter_filter];refine congrArg (List.map _) (List.filter_congr fun q hq'=>?_);show(Qgl ((l.filter r).map fun q=>q.Id) q.Id && p q)=(p q && r q);rw[Qagi hq r hq',Bool.and_comm]
def Qjj (r:Qah) (k:Nat) (q:Qba):Bool:=(List.range k).all fun f=>Qmy q ((f:Nat):Int) (gt r.m f)
def Qjk (r:Qah) (o:List Int) (q:Qba):Bool:=o.all fun f=>Qmy q f (gt r.m f.toNat)
theorem Qatr {o:List Int} (ho:Qln o=true):∀ k:Nat,k<3→((k:Nat):Int)∈o:=by
 have h1:=Qagd o;rw[ho] at h1;unfold Qpj at h1;rw[Qjx (n:=3) (p:=fun k=>Qik o k) (r:=false) (fun k _=>rfl)] at h1;intro k hk;cases ha:(List.range 3).all (fun k=>Qik o ((k:Nat):Int)) with
 |false=>rw[ha] at h1;cases h1
 |true=>
  have h2:=List.all_eq_true.1 ha k (List.mem_range.2 hk);have h3:Qik o ((k:Nat):Int)=o.any fun z=>z==((k:Nat):Int):=Qub o _
  rw[h3,List.any_eq_true] at h2;obtain⟨z,hz,he⟩:=h2;rw[← beq_iff_eq.1 he];exact hz
theorem Qang {o:List Int} (ho:Qln o=true) (r:Qah) (q:Qba):Qjk r o q=Qjj r 3 q:=by
 rw[Bool.eq_iff_iff];unfold Qjk Qjj;simp only[List.all_eq_true,List.mem_range];constructor
 ·intro h k hk;have:=h _ (Qatr ho k hk);rw[Int.toNat_natCast] at this;exact this
 intro h f hf;have hr:=Qaal ho f hf;have:=h f.toNat (by omega);rw[Int.toNat_of_nonneg hr.1] at this;exact this
theorem Qalk {l:List Qba} {r:Qah} {o:List Int} (hq:Qhr l=true) (hr:Qfx r=true) (ho:Qln o=true):(Qkw (Qgk l) r o).1=(l.filter (Qjj r 3)).map fun q=>q.Id:=by
 obtain⟨hv,_,h3⟩:=(Qmv r).1 hr;have hor:=Qaal ho;rw[Qabv hq];have hst:∀ k,k<3→gt [Qew l 0,Qew l 1,Qew l 2] k=Qew l ((k:Nat):Int):=fun k hk=>by
  rcases k with _|_|_|k
  ·rfl
  ·rfl
  ·rfl
  omega
 have hfind:∀ f:Int,0≤f∧f≤2→Qhi (gt [Qew l 0,Qew l 1,Qew l 2] f.toNat) (gt r.m f.toNat)=(l.filter fun q=>Qmy q f (gt r.m f.toNat)).map fun q=>q.Id:=fun f hf=>by
  rw[hst _ (by omega),Int.toNat_of_nonneg hf.1,Qakx hq hf (hv _ (Qav (by omega))),Qamj hq hf (hv _ (Qav (by omega)))];refine congrArg (List.map _) (List.filter_congr fun q _=>Qabs q _ _)
 unfold Qkw;have hall:Qkv l=(l.filter (Qjk r (o.take 0))).map fun q=>q.Id:=by
  unfold Qkv;rw[Qis (xs:=l) (f:=fun d q=>d++[q.Id]) (b:=fun k s=>Qwe l k s) (fun _ _ _=>rfl)];show l.foldl _ []=_;have h1:=Qlt (fun _:Qba=>true) (fun q:Qba=>q.Id) l [];have h2:l.filter (Qjk r (o.take 0))=l.filter (fun _=>true):=List.filter_congr fun q _=>rfl
  rw[h2];exact h1
 have hsucc:∀ k,k<o.length→∀ q,Qjk r (o.take (k+1)) q=(Qjk r (o.take k) q && Qmy q (gt o k) (gt r.m (gt o k).toNat)):=fun k hk q=>by
  unfold Qjk;rw[List.take_add_one,Qch hk,List.all_append];simp
 have hmono:∀ k,∀ q,Qjk r o q=true→Qjk r (o.take k) q=true:=fun k q h=>by
  unfold Qjk at h ⊢;rw[List.all_eq_true] at h ⊢;exact fun f hf=>h f (List.mem_of_mem_take hf)
 obtain⟨s',e,h⟩:=Qvb (R:=(List Int)×Int) (b:=fun k (s:(List Int)×Int)=>Qof ⟨l,[Qew l 0,Qew l 1,Qew l 2]⟩ r o k s.1 s.2) (n:=o.length) (P:=fun k s=>s.1=(l.filter (Qjk r (o.take k))).map fun q=>q.Id) (Q:=fun s=>s.1=(l.filter (Qjk r o)).map fun q=>q.Id) (fun k s hk hs=>by
  show(∃ s',Qof _ r o k s.1 s.2=_∧_)∨∃ s',Qof _ r o k s.1 s.2=_∧_;unfold Qof
  by_cases h0:0<s.1.length
  ·rw[decide_eq_true (show(0:Int)<((s.1.length:Nat):Int) by omega),cond_true];refine .inl ⟨_,rfl,?_⟩;show Qlk s.1 _=_;rw[hfind _ (hor _ (Qav hk)),hs,Qatk hq];exact congrArg (List.map _) (List.filter_congr fun q _=>(hsucc k hk q).symm)
  rw[decide_eq_false (show ¬ (0:Int)<((s.1.length:Nat):Int) by omega),cond_false];refine .inr ⟨_,rfl,?_⟩;have hnil:s.1=[]:=List.eq_nil_of_length_eq_zero (by omega);rw[hnil] at hs;show s.1=_;rw[hnil];have h1:l.filter (Qjk r (o.take k))=[]:=List.map_eq_nil_iff.1 hs.symm;have h2:l.filter (Qjk r o)=[]:=by
   rw[List.filter_eq_nil_iff] at h1 ⊢;exact fun q hq' h=>h1 q hq' (hmono k q h)
  rw[h2]
  rfl) (o.length-0) 0 ((Qkv l),0) rfl hall
 have e2:l.filter (Qjj r 3)=l.filter (Qjk r o):=List.filter_congr fun q _=>(Qang ho r q).symm
 rw[e2];show(Sum.elim id (fun(s:(List Int)×Int)=>(s.1,s.2)) (Qdo (R:=(List Int)×Int) (fun k (s:(List Int)×Int)=>Qof ⟨l,[Qew l 0,Qew l 1,Qew l 2]⟩ r o k s.1 s.2) (o.length-0) 0 ((Qkv l),0))).1=_;rw[e];rcases h with h|h
 ·exact h
 rw[List.take_length] at h;exact h
def Qgj (x:Qk):List Qw:=gt x.d.c x.g.toNat
def Qjy (a:Qp) (v:Qw):Bool:=Qjj (⟨v.Id,v.m⟩:Qah) 3 a.e && Qgw v a.r
def Qhq (x:Qk) (a:Qp):List Qah:=Qfc (Qjy a) (Qgj x)
def Qoj (x:Qk) (a:Qp):Qp:=⟨a.e,a.r,a.q.filter (fun y=>y !=x.g),a.v,IntKind.i64.wrap (a.A+(((Qhq x a).length:Nat):Int)),a.z,a.p++Qhq x a⟩
def Qeq (x:Qk) (ids:List Int):List Qp:=x.a.map fun a=>cond (decide (a.e.Id∈ids)) (Qoj x a) a
def atI (x:Qk) (y:Int):Qp:=gt x.a (Qad x y).toNat
theorem Qxl (x:Qk):Qeq x []=x.a:=by
 unfold Qeq;have h:∀ a∈x.a,(cond (decide (a.e.Id∈([]:List Int))) (Qoj x a) a)=a:=fun a _=>by rw[decide_eq_false (by simp)];rfl
 rw[List.map_congr_left h,List.map_id']
theorem Qlq (x:Qk) (ids:List Int):(Qeq x ids).length=x.a.length:=by unfold Qeq;rw[List.length_map]
theorem Qtp (x:Qk) (ids:List Int) {i:Nat} (hi:i<x.a.length):gt (Qeq x ids) i=cond (decide ((gt x.a i).e.Id∈ids)) (Qoj x (gt x.a i)) (gt x.a i):=by
 unfold Qeq;rw[Qdl (by rw[List.length_map];exact hi),Qdl hi,List.getElem_map]
theorem Qadg (x:Qk) (ids:List Int):(Qeq x ids).map (fun(a:Qp)=>a.e.Id)=x.a.map (fun(a:Qp)=>a.e.Id):=by
 unfold Qeq;rw[List.map_map];refine List.map_congr_left fun a _=>?_
 show(cond (decide (a.e.Id∈ids)) (Qoj x a) a).e.Id=_;cases decide (a.e.Id∈ids) <;>rfl
theorem Qach {x:Qk} (h:Eng x):(Qay x).Pairwise (fun a b=>a<b):=by
 rw[Qnp h,List.pairwise_map];exact h.srt.filter _
theorem Qmw {x:Qk} (h:Eng x) {y:Int} (hy:y∈Qay x):∃ i,i<x.a.length∧(gt x.a i).e.Id=y∧Qad x y=((i:Nat):Int)∧Qhf x.g (gt x.a i)=true:=by
 rw[Qnp h] at hy;obtain⟨a,ha,rfl⟩:=List.mem_map.1 hy;obtain⟨ha,hb⟩:=List.mem_filter.1 ha;obtain⟨i,hi,rfl⟩:=List.mem_iff_getElem.1 ha;rw[← Qdl hi] at hb ⊢;exact⟨i,hi,rfl,Qno h.srt hi,hb⟩
theorem Qalh {x:Qk} (h:Eng x) {k:Nat} (hk:k<(Qay x).length):gt (Qay x) k ∉ (Qay x).take k:=fun hm=>by
 obtain⟨j,hj,he⟩:=List.mem_iff_getElem.1 hm;rw[List.length_take] at hj;rw[List.getElem_take] at he;have:=List.pairwise_iff_getElem.1 (Qach h) j k (by omega) hk (by omega);rw[Qdl hk] at he;omega
theorem Qxk {x:Qk} (h:Eng x) {k:Nat} (hk:k<(Qay x).length):gt (Qeq x ((Qay x).take k)) (Qad x (gt (Qay x) k)).toNat=atI x (gt (Qay x) k):=by
 obtain⟨i,hi,he,hf,_⟩:=Qmw h (Qav hk);unfold atI;rw[hf,Int.toNat_natCast,Qtp x _ hi,he,decide_eq_false (Qalh h hk)];rfl
theorem Qadi {x:Qk} (h:Eng x) {k:Nat} (hk:k<(Qay x).length):(Qeq x ((Qay x).take k)).set (Qad x (gt (Qay x) k)).toNat (Qoj x (atI x (gt (Qay x) k)))=Qeq x ((Qay x).take (k+1)):=by
 obtain⟨i,hi,he,hf,_⟩:=Qmw h (Qav hk);unfold atI;rw[hf,Int.toNat_natCast];refine List.ext_getElem (by rw[List.length_set,Qlq,Qlq]) fun j h1 h2=>?_
 have hj:j<x.a.length:=by rw[Qlq] at h2;exact h2
 rw[List.getElem_set]
 by_cases hij:i=j
 ·subst hij;rw[if_pos rfl, ← Qdl h2,Qtp x _ hi,he,decide_eq_true]
  ·rfl
  rw[List.take_add_one,Qch hk];simp
 rw[if_neg hij, ← Qdl h2, ← Qdl (by rw[Qlq];exact hj),Qtp x _ hj,Qtp x _ hj];have hne:(gt x.a j).e.Id≠gt (Qay x) k:=fun e=>by
  have h3:=Qno h.srt hj;rw[e,hf] at h3;omega
 congr 1
 rw[List.take_add_one,Qch hk,decide_eq_decide,List.mem_append];simp[hne]
theorem Qzy {x:Qk} (h:Eng x) {v:Qw} (hv:v∈Qgj x):Qfx (⟨v.Id,v.m⟩:Qah)=true:=by
 have hc:=h.cur;have hs:=(Qfo _).1 h.st;have:=hs.2.2.2.1 _ (List.mem_flatten.2 ⟨_,Qav (show x.g.toNat<x.d.c.length by omega),hv⟩);exact((Qnr hs.2.1.2).1 this).1
theorem Qavm (p:Qw→Bool) {l:List Qw} {j:Nat} (hj:j<l.length):Qfc p (l.take (j+1))=Qfc p (l.take j)++cond (p (gt l j)) [(⟨(gt l j).Id,(gt l j).m⟩:Qah)] []:=by
 unfold Qfc;rw[List.take_add_one,Qch hj,List.filter_append,List.map_append]
 congr 1
 show List.map _ (List.filter p [gt l j])=_;cases hp:p (gt l j) with
 |true=>rw[List.filter_cons_of_pos hp];rfl
 |false=>rw[List.filter_cons_of_neg (by rw[hp];exact Bool.false_ne_true)];rfl
theorem Qavq {α:Type} [Inhabited α] (d:List α) (i:Nat):d.set i (gt d i)=d:=by
 by_cases hi:i<d.length
 ·rw[Qdl hi];exact List.set_getElem_self hi
 exact List.set_eq_of_length_le (by omega)
theorem Qafl {α:Type} [Inhabited α] {d:List α} {i:Nat} (hi:i<d.length) (y:α):gt (d.set i y) i=y:=by
 rw[Qdl (by rw[List.length_set];exact hi),List.getElem_set_self]
def Qnw (a:Qp) (l:List Qah):Qp:=⟨a.e,a.r,a.q,a.v,a.A,a.z,a.p++l⟩
theorem Qamc {x:Qk} (h:Eng x) {k:Nat} (hk:k<(Qay x).length) {d:List Qp} (hd:d.map (fun(a:Qp)=>a.e.Id)=x.a.map (fun(a:Qp)=>a.e.Id)) (hc:gt d (Qad x (gt (Qay x) k)).toNat=atI x (gt (Qay x) k)):
 rng (R:=Qk) (fun j (s:Int×(List Qp))=>Qqf x (Qay x) (Qhe x (Qay x)) k d j s.1 s.2) ((gt x.d.c (x.g.toNat)).length-0) 0 (0,d)= .inr ((((Qhq x (atI x (gt (Qay x) k))).length:Nat):Int),d.set (Qad x (gt (Qay x) k)).toNat (Qnw (atI x (gt (Qay x) k)) (Qhq x (atI x (gt (Qay x) k))))):=by
 obtain⟨hfq,hdl⟩:=Qxc hd (gt (Qay x) k);obtain⟨i,hi,he,hf,hpb⟩:=Qmw h (Qav hk);have ha:atI x (gt (Qay x) k)=gt x.a i:=by unfold atI;rw[hf,Int.toNat_natCast]
 have hare:=Qacv h;have hq:(gt x.a i).e∈Qhe x (Qay x):=by
  rw[Qacw h];exact List.mem_map.2 ⟨_,List.mem_filter.2 ⟨Qav hi,hpb⟩,rfl⟩
 rw[ha] at hc ⊢;rw[hf,Int.toNat_natCast] at hc ⊢;have h4:=Qtn h;obtain⟨s',e,h1,h2⟩:=Qmn (R:=Qk) (body:=fun j (s:Int×(List Qp))=>Qqf x (Qay x) (Qhe x (Qay x)) k d j s.1 s.2) (n:=(gt x.d.c (x.g.toNat)).length)
  (fun j s=>s.1=(((Qfc (Qjy (gt x.a i)) ((Qgj x).take j)).length:Nat):Int)∧s.2=d.set i (Qnw (gt x.a i) (Qfc (Qjy (gt x.a i)) ((Qgj x).take j)))) (fun j s hj hs=>by
   obtain⟨s1,s2⟩:=s;obtain⟨h1,h2⟩:=hs;dsimp only at h1 h2;show ∃ s',Qqf x (Qay x) (Qhe x (Qay x)) k d j s1 s2=_∧_;unfold Qqf;have hrow:=Qzy h (show gt (gt x.d.c x.g.toNat) j∈Qgj x from Qav hj);have hadm:Qgl ((Qkw (Qgk (Qhe x (Qay x))) (⟨(gt (gt x.d.c (x.g.toNat)) j).Id,(gt (gt x.d.c (x.g.toNat)) j).m⟩:Qah) x.l).1) (gt (Qay x) k)=Qjj (⟨(gt (gt x.d.c (x.g.toNat)) j).Id,(gt (gt x.d.c (x.g.toNat)) j).m⟩:Qah) 3 (gt x.a i).e:=by
    rw[Qalk hare hrow h.ord, ← he,Qagi hare _ hq]
   rw[hadm,hfq,hf,Int.toNat_natCast];have hg:gt s2 i=Qnw (gt x.a i) (Qfc (Qjy (gt x.a i)) ((Qgj x).take j)):=by rw[h2];exact Qafl (by omega) _
   have htm:(gt s2 i).r=(gt x.a i).r:=by rw[hg];rfl
   rw[htm];have hsn:=Qavm (Qjy (gt x.a i)) (l:=Qgj x) hj;have hvis:Qki (gt (gt x.d.c x.g.toNat) j) (gt x.a i).r=Qgw (gt (Qgj x) j) (gt x.a i).r:=rfl;have hadm2:Qjj (⟨(gt (gt x.d.c (x.g.toNat)) j).Id,(gt (gt x.d.c (x.g.toNat)) j).m⟩:Qah) 3 (gt x.a i).e=Qjj (⟨(gt (Qgj x) j).Id,(gt (Qgj x) j).m⟩:Qah) 3 (gt x.a i).e:=rfl;rw[hvis,hadm2];have hl4:=Qvd (Qjy (gt x.a i)) ((Qgj x).take j);rw[List.length_take] at hl4;have hsl:(Qgj x).length≤4:=h4;cases h5:Qjj (⟨(gt (Qgj x) j).Id,(gt (Qgj x) j).m⟩:Qah) 3 (gt x.a i).e with
   |false=>
    have hb:Qjy (gt x.a i) (gt (Qgj x) j)=false:=by unfold Qjy;rw[h5];rfl
    rw[hb] at hsn;refine⟨(s1,s2),rfl,?_,?_⟩
    ·dsimp only;rw[hsn,cond_false,List.append_nil];exact h1
    dsimp only;rw[hsn,cond_false,List.append_nil];exact h2
   |true=>
    cases h6:Qgw (gt (Qgj x) j) (gt x.a i).r with
    |false=>
     have hb:Qjy (gt x.a i) (gt (Qgj x) j)=false:=by unfold Qjy;rw[h5,h6];rfl
     rw[hb] at hsn;refine⟨(s1,s2),rfl,?_,?_⟩
     ·dsimp only;rw[hsn,cond_false,List.append_nil];exact h1
     dsimp only;rw[hsn,cond_false,List.append_nil];exact h2
    |true=>
     have hb:Qjy (gt x.a i) (gt (Qgj x) j)=true:=by unfold Qjy;rw[h5,h6];rfl
     rw[hb] at hsn;refine⟨_,rfl,?_,?_⟩
     ·dsimp only;rw[hsn,cond_true,List.length_append,h1,Qdp (by omega) (by omega)];show _+1=(((_+1:Nat)):Int);omega
     show Qnk x ((i:Nat):Int) j s2=_;unfold Qnk Qkj;rw[Int.toNat_natCast,hg,h2,List.set_set,hsn,cond_true];unfold Qnw;dsimp only;rw[List.append_assoc];rfl) ((gt x.d.c (x.g.toNat)).length-0) 0 (0,d) (by omega) ⟨rfl,by
   show d=d.set i (Qnw (gt x.a i) (Qfc (Qjy (gt x.a i)) ((Qgj x).take 0)));have e0:Qnw (gt x.a i) (Qfc (Qjy (gt x.a i)) ((Qgj x).take 0))=gt d i:=by
    rw[hc];generalize gt x.a i=a;cases a
    simp[Qnw,Qfc]
   rw[e0,Qavq]⟩
 rw[e];have ht:(Qgj x).take (gt x.d.c (x.g.toNat)).length=Qgj x:=List.take_length;rw[ht] at h1 h2;obtain⟨s1,s2⟩:=s';dsimp only at h1 h2;rw[h1,h2];rfl
def Qma (x:Qk) (ids:List Int):List Int:=ids.map fun y=>(atI x y).e.u
def Qls (x:Qk) (ids:List Int):List Int:=ids.map fun y=>(((Qhq x (atI x y)).length:Nat):Int)
def Qmi (x:Qk):Qdi:=⟨x.g,(((Qgj x).length:Nat):Int),Qay x,Qma x (Qay x),Qls x (Qay x)⟩
theorem Qux {β:Type} (f:Int→β) {l:List Int} {k:Nat} (hk:k<l.length):(l.take (k+1)).map f=(l.take k).map f++[f (gt l k)]:=by
 rw[List.take_add_one,Qch hk,List.map_append];rfl
theorem Qrc {x:Qk} (h:Eng x):Qll x (Qay x)=⟨x.d,x.g,x.l,Qeq x (Qay x),x.j,x.k++[Qmi x],x.n⟩:=by
 have h8:=Qot h;unfold Qll;obtain⟨q,e1,hq⟩:=Qmn (R:=Qk) (body:=fun k (s:(List Qba))=>Qaas x (Qay x) k s) (n:=(Qay x).length) (fun k s=>s=Qhe x ((Qay x).take k)) (fun k s hk hs=>⟨_,rfl,by rw[Qacy hk, ← hs]⟩) ((Qay x).length-0) 0 [] (by omega) rfl;rw[List.take_length] at hq;rw[e1,hq];obtain⟨s,e2,h1,h2,h3⟩:=Qmn (R:=Qk) (body:=fun k (s:(List Int)×(List Int)×(List Qp))=>Qqe x (Qay x) (Qhe x (Qay x)) k s.1 s.2.1 s.2.2) (n:=(Qay x).length)
  (fun k s=>s.1=Qma x ((Qay x).take k)∧s.2.1=Qls x ((Qay x).take k)∧s.2.2=Qeq x ((Qay x).take k)) (fun k s hk hs=>by
   obtain⟨s1,s2,s3⟩:=s;obtain⟨h1,h2,h3⟩:=hs;dsimp only at h1 h2 h3;subst h3;show ∃ s',Qqe x (Qay x) (Qhe x (Qay x)) k s1 s2 _=_∧_;unfold Qqe;rw[Qamc h hk (Qadg x _) (Qxk h hk),(Qxc (Qadg x ((Qay x).take k)) (gt (Qay x) k)).1];refine⟨_,rfl,?_,?_,?_⟩
   ·show s1++[_]=_;unfold Qma at h1 ⊢;rw[Qux _ hk,h1,Qxk h hk]
   ·show s2++[_]=_;unfold Qls at h2 ⊢;rw[Qux _ hk,h2]
   obtain⟨i,hi,he,hf,hpb⟩:=Qmw h (Qav hk);rw[← Qadi h hk];unfold Qqg;dsimp only;rw[Qafl (by rw[Qlq,hf];omega),List.set_set,Qajh]
   rfl) ((Qay x).length-0) 0 ([],[],x.a) (by omega) ⟨rfl,rfl,by rw[List.take_zero,Qxl]⟩
 show Sum.elim id _ (rng (R:=Qk) (fun k (s:(List Int)×(List Int)×(List Qp))=>Qqe x (Qay x) (Qhe x (Qay x)) k s.1 s.2.1 s.2.2) ((Qay x).length-0) 0 ([],[],x.a))=_;rw[e2];obtain⟨s1,s2,s3⟩:=s;dsimp only at h1 h2 h3;rw[List.take_length] at h1 h2 h3;rw[h1,h2,h3];rfl
theorem Qami {x:Qk} (h:Eng x):(Qll x (Qay x)).d=x.d:=by rw[Qrc h]
theorem Qamg {x:Qk} (h:Eng x):(Qll x (Qay x)).d.c.length=x.d.c.length:=by rw[Qrc h]
theorem Qamb {x:Qk} (h:Eng x):(Qll x (Qay x)).a.length=x.a.length:=by rw[Qrc h];exact Qlq _ _
theorem Qamd {x:Qk} (h:Eng x):(Qll x (Qay x)).j.length=x.j.length:=by rw[Qrc h]
abbrev Qvw (E36:Qk) (k95:Nat) (d96:(List Qp)):(List Qp):=
 (d96++[(⟨(gt E36.a k95).e,(gt E36.a k95).r,(gt E36.a k95).q,(IntKind.i64.wrap (((gt E36.a k95).v)+1)),0,(gt E36.a k95).z,(gt E36.a k95).p⟩:Qp)])
abbrev Qvx (E36:Qk) (k95:Nat) (d96:(List Qp)):(List Qp):=
 (d96++[(⟨(gt E36.a k95).e,(gt E36.a k95).r,(gt E36.a k95).q,(IntKind.i64.wrap (((gt E36.a k95).v)+1)),(gt E36.a k95).A,(gt E36.a k95).z,(gt E36.a k95).p⟩:Qp)])
def Qst (E36:Qk) (k95:Nat) (d96:(List Qp)) (d100:(List Qco)):Qk⊕((List Qp)×(List Qco)):=
 cond ((Int.tmod (IntKind.i64.wrap (((gt E36.a k95).v)+1)) ((E36.d.c.length:Nat):Int))==0) (cond (((((gt E36.a k95).q).length:Nat):Int)==0) (Sum.inr (d96,(d100++[(⟨(gt E36.a k95).e,(gt E36.a k95).r,(IntKind.i64.wrap (((gt E36.a k95).v)+1)),(gt E36.a k95).p⟩:Qco)]))) (Sum.inr ((Qvw E36 k95 d96),d100))) (cond (((((gt E36.a k95).q).length:Nat):Int)==0) (Sum.inr (d96,(d100++[(⟨(gt E36.a k95).e,(gt E36.a k95).r,(IntKind.i64.wrap (((gt E36.a k95).v)+1)),(gt E36.a k95).p⟩:Qco)]))) (Sum.inr ((Qvx E36 k95 d96),d100)))
def Qqi (x0:Qk):Qk⊕Qk:=
 cond (decide (0<(((Qay x0).length:Nat):Int))) (Sum.inr (Qll x0 (Qay x0))) (Sum.inr x0)
def Qhj (x0:Qk):Qk:=
 Sum.elim id (fun(s101_:Qk)=>Sum.elim id (fun(s:(List Qp)×(List Qco))=>(Qhm (⟨s101_.d,(Int.tmod (IntKind.i64.wrap (s101_.g+1)) ((s101_.d.c.length:Nat):Int)),s101_.l,s.1,s.2,s101_.k,(IntKind.i64.wrap (s101_.n+1))⟩:Qk))) (rng (R:=Qk) (fun k (s:(List Qp)×(List Qco))=>Qst s101_ k s.1 s.2) (s101_.a.length-0) 0 ([],s101_.j))) ((Qqi x0))
theorem cb62:Cb Tryz.prog 62:=⟨f62,_,func62,rfl,by decide⟩
theorem Qaww (B:Nat) (w0:World) (is:List It) (w:World) (p:Nat) (z0:List Value) (x0:Qk) (s_0:Qhb 68719476736 x0) (hE:Eng x0) (hm:Mem B w0 (Qb p 39 z0::Qh Qbz z0 x0::is) w):
 Calls Tryz.prog 62 #[.pointer (sA p)] w fun e w'=>∃ x:List Value,e= .returned (.tuple #[])∧Mem B w0 (Qb p 39 x::Qh Qbz x (Qhj x0)::is) w':=by
 refine Qiy (L:=[(0, .pointer (sA p))]) (N:=100) func62 rfl rfl (Nat.le_of_ble_eq_true rfl) (Qfg rfl Qho) hm ?_;refine Qdb (js:=(Qh Qbz z0 x0::Qb p 39 z0::is)) (fun W hm=>(hm.front (n:=1) rfl)) ?_;refine Qix (γ:=Value×Value×Value×Value×Value) (js:=fun g=>[Qh (tSl (tSl Qy 163) 100) [g.1] x0.d.c,Qh (tSl Qa 3) [g.2.1] x0.l,Qh (tSl Qz 61) [g.2.2.1] x0.a,Qh (tSl Qaz 80) [g.2.2.2.1] x0.j,Qh (tSl Qaw 102) [g.2.2.2.2] x0.k]) (C:=fun g=>z0=[g.1,iV x0.d.f,iV x0.g,g.2.1,g.2.2.1,g.2.2.2.1,g.2.2.2.2,iV x0.n]) (fun _ _ h=>Qth h) ?_;rintro⟨v1,v2,v3,v4,v5⟩ rfl;refine Qdt (n:=0) rfl ?_;rintro A6 c7 rfl m8;refine Qdt (n:=1) rfl ?_;rintro A10 c11 rfl m12;refine Qdt (n:=2) rfl ?_;rintro A14 c15 rfl m16;refine Qdt (n:=3) rfl ?_;rintro A18 c19 rfl m20;refine Qdt (n:=4) rfl ?_;rintro A22 c23 rfl m24;have l26:x0.d.c.length≤68719476736:=s_0.1.1;have l27:=s_0.2.1;have l28:=s_0.2.2.1.1;have l29:=s_0.2.2.2.1.1;have l30:=s_0.2.2.2.2.1;have hE1:=hE.al;have hE2:=hE.cur;have hE3:=((Qfo _).1 hE.st).1;have hE4:=hE.dl;have hE5:=hE.ll;have hE6:=hE.stp;refine sr (wm ?_);refine wv (fun W hm=>Qeh rfl) ?_;let K1:List Value:=[.slice A6 x0.d.c.length c7,iV x0.d.f,iV x0.g, .slice A10 x0.l.length c11, .slice A14 x0.a.length c15, .slice A18 x0.j.length c19, .slice A22 x0.k.length c23,iV x0.n];refine wv (fun W hm=>Qab (cs:=K1) Qt Qal rfl rfl (hm.boxCells (n:=5) rfl)) ?_;refine wcl (tSl Qa 3) (Qay x0) (Qs cb25 rfl) (fun W hm=>Qaid W _ x0 (Qfs (x:=x0) (hm.rdSI (n:=0) rfl) (hm.rdSI (n:=1) rfl) (hm.rdSI (n:=2) rfl) (hm.rdSI (n:=3) rfl) (hm.rdSI (n:=4) rfl)) s_0) (fun z31=>?_);have hP8:=Qot hE;refine fm 0 ?_;rintro A32 c33 rfl m34;refine wa (nt' (Qj (sr (wm ?_))));refine wv (Qan Qo) ?_;refine wv (fun W hm=>Qem rfl rfl) ?_;refine nt' ?_;refine Qjs (σ:=Qk×(Option Addr×Nat×Option Addr×Nat×Option Addr×Nat×Option Addr×Nat×Option Addr×Nat)) (fun s=>[(0,bp p)]) (fun s=>(iS (tSl Qy 163) 100 s.2.1 s.2.2.1 s.1.d.c::iS Qa 3 s.2.2.2.1 s.2.2.2.2.1 s.1.l::iS Qz 61 s.2.2.2.2.2.1 s.2.2.2.2.2.2.1 s.1.a::iS Qaz 80 s.2.2.2.2.2.2.2.1 s.2.2.2.2.2.2.2.2.1 s.1.j::iS Qaw 102 s.2.2.2.2.2.2.2.2.2.1 s.2.2.2.2.2.2.2.2.2.2 s.1.k::Qb p 39 [.slice s.2.1 s.1.d.c.length s.2.2.1,iV s.1.d.f,iV s.1.g, .slice s.2.2.2.1 s.1.l.length s.2.2.2.2.1, .slice s.2.2.2.2.2.1 s.1.a.length s.2.2.2.2.2.2.1, .slice s.2.2.2.2.2.2.2.1 s.1.j.length s.2.2.2.2.2.2.2.2.1, .slice s.2.2.2.2.2.2.2.2.2.1 s.1.k.length s.2.2.2.2.2.2.2.2.2.2,iV s.1.n]::is)) (fun s=>(Qqi x0)=Sum.inr s.1∧s.1.d=x0.d∧s.1.d.c.length=x0.d.c.length∧s.1.a.length=x0.a.length∧s.1.j.length=x0.j.length) ?_ ?_
 ·rcases dcd (0<(((Qay x0).length:Nat):Int)) with⟨h52,g53⟩|⟨h52,g53⟩
  ·refine Qr rfl g53 ?_;refine Qae (wm (wm ?_));let J16:List It:=iS Qa 3 A32 c33 (Qay x0)::Qb p 39 K1::is;refine Qgp (js:=(Qh Qbz K1 x0::J16)) (fun W hm=>Mem.join (is:=[iS (tSl Qy 163) 100 A6 c7 x0.d.c,iS Qa 3 A10 c11 x0.l,iS Qz 61 A14 c15 x0.a,iS Qaz 80 A18 c19 x0.j,iS Qaw 102 A22 c23 x0.k]) (js:=J16) (fun _ _ hs=>Qej (x:=x0) hs) (hm.pickN 7 [1,2,3,4,5,0,6] (by decide))) ?_;refine Qcp (χ:=List Value) (val:=fun x=> .tuple #[]) (js:=fun x=>(Qb p 39 x::Qh Qbz x (Qll x0 (Qay x0))::iS Qa 3 A32 c33 (Qay x0)::(is))) (Qs Qaoa rfl) (fun W hm=>Qawv B w0 (is) W p _ x0 _ (Qay x0) s_0 (show _≤68719476736 from by omega) (hE) (rfl) (((hm.front (n:=1) rfl).front (n:=1) rfl).front (n:=2) rfl)) (Qf rfl) (by decide) (fun z54=>?_);have hS1:=Qami hE;have hS2:=Qamg hE;have hS3:=Qamb hE;have hS4:=Qamd hE;obtain⟨G55,hG55⟩:∃ G,G=(Qll x0 (Qay x0)):=⟨_,rfl⟩;rw[← hG55];rw[← hG55] at hS1;rw[← hG55] at hS2;rw[← hG55] at hS3;rw[← hG55] at hS4;refine Qgp (js:=(Qh Qbz z54 G55::Qb p 39 z54::iS Qa 3 A32 c33 (Qay x0)::is)) (fun W hm=>(hm.front (n:=1) rfl)) ?_;refine Qhn ?_;rintro⟨v56,v57,v58,v59,v60⟩ rfl;refine fm 0 ?_;rintro A61 c62 rfl m63;refine fm 1 ?_;rintro A65 c66 rfl m67;refine fm 2 ?_;rintro A69 c70 rfl m71;refine fm 3 ?_;rintro A73 c74 rfl m75;refine fm 4 ?_;rintro A77 c78 rfl m79;refine Qai ?_;exact Qgo (G55,(A61,c62,A65,c66,A69,c70,A73,c74,A77,c78)) (Qci rfl Qhw) (pn 7 [0,1,2,3,4,5]) ⟨(show(Qqi x0)=Sum.inr G55 from by subst hG55;exact Qc g53 (rfl)),(show G55.d=x0.d from by first|rfl|exact hS1),(show G55.d.c.length=x0.d.c.length from by first|rfl|exact hS2),(show G55.a.length=x0.a.length from by first|rfl|exact hS3),(show G55.j.length=x0.j.length from by first|rfl|exact hS4)⟩
  refine Qx rfl g53 ?_;refine Qac ?_;exact Qgo (x0,(A6,c7,A10,c11,A14,c15,A18,c19,A22,c23)) (Qci rfl Qhw) (pn 7 [1,2,3,4,5,6]) ⟨(show(Qqi x0)=Sum.inr x0 from Qe g53 (rfl)),(show x0.d=x0.d from by first|rfl|exact hS1),(show x0.d.c.length=x0.d.c.length from by first|rfl|exact hS2),(show x0.a.length=x0.a.length from by first|rfl|exact hS3),(show x0.j.length=x0.j.length from by first|rfl|exact hS4)⟩
 rintro⟨E36,⟨A37,c38,A40,c41,A43,c44,A46,c47,A49,c50⟩⟩ H81;dsimp only at H81;obtain⟨hE82,hS1,hS2,hS3,hS4⟩:=H81;let I10:It:=iS (tSl Qy 163) 100 A37 c38 E36.d.c;show QM 100 _ _ _ .normal [(0,bp p)] (I10::iS Qa 3 A40 c41 E36.l::iS Qz 61 A43 c44 E36.a::iS Qaz 80 A46 c47 E36.j::iS Qaw 102 A49 c50 E36.k::Qb p 39 [.slice A37 E36.d.c.length c38,iV E36.d.f,iV E36.g, .slice A40 E36.l.length c41, .slice A43 E36.a.length c44, .slice A46 E36.j.length c47, .slice A49 E36.k.length c50,iV E36.n]::is);refine Qmx (n:=0) rfl ?_;intro m83 m84;refine Qmx (n:=1) rfl ?_;intro m85 m86;refine Qmx (n:=2) rfl ?_;intro m87 m88;refine Qmx (n:=3) rfl ?_;intro m89 m90;refine Qmx (n:=4) rfl ?_;intro m91 m92;refine Qi (sr (wm ?_));refine wv (fun W hm=>Qeh rfl) ?_;refine wv (vf Qt rfl Qat) ?_;refine wv (fun W hm=>Qfb (o:=0) Qau rfl Qdh (by decide) rfl rfl) ?_;refine wv (vl 5 0 Qbj) ?_;refine wv (Qan Qbj) ?_;refine wa (nt' (sr ?_));refine Qcl (E:=Qz) Qaq Qbg (Qf rfl) (by decide) (fun p93=>?_);refine wa (nt' (Qj (sr (wa (nt' (Qaj ?_))))));refine Qdb (fun W hm=>Mem.toRest (hm.front (n:=3) rfl)) ?_;refine Qbv (S:=(List Qp)×(List Qco)) (R:=Option Addr×Nat×Option Addr×Nat) (fun k (s:(List Qp)×(List Qco))=>Qst E36 k s.1 s.2) E36.a.length 0 ([],E36.j) ((sA p93),0,A46,c47) (fun s=>[(0,bp p),(3,nI E36.d.c.length),(4, .slice s.2.2.1 s.2.1.1.length s.2.2.2.1),(5,nI s.1)]) (fun s=>(Qiu Qz 61 A43 E36.a.length E36.a s.1::iS Qz 61 s.2.2.1 s.2.2.2.1 s.2.1.1::I10::iS Qa 3 A40 c41 E36.l::iS Qaz 80 s.2.2.2.2.1 s.2.2.2.2.2 s.2.1.2::iS Qaw 102 A49 c50 E36.k::Qb p 39 [.slice A37 E36.d.c.length c38,iV E36.d.f,iV E36.g, .slice A40 E36.l.length c41, .slice A43 E36.a.length c44, .slice s.2.2.2.2.1 s.2.1.2.length s.2.2.2.2.2, .slice A49 E36.k.length c50,iV E36.n]::is)) (fun s=>s.2.1.1.length≤0+s.1∧s.2.1.2.length≤E36.j.length+s.1) sl4 ⟨Nat.le_refl _,Nat.le_refl _⟩ ?_;rintro⟨k95,⟨d96,d100⟩,⟨A97,c98,A101,c102⟩⟩ H105 _ _ e e';dsimp only at H105 ⊢;subst e e';obtain⟨hk103,hF104,hi106,hi107⟩:=H105;refine Qj (sr (wm (wm ?_)));refine wv (fun W hm=>Qeh rfl) ?_;refine wv (vf Qt rfl Qcd) ?_;refine wv (vl 6 4 Qaq) ?_;refine wv (Qan Qaq) ?_;refine wv Qbq ?_;refine nt' ?_;rcases dcl k95 E36.a.length with⟨hl108,g109⟩|⟨hl108,g109⟩
 ·refine Qr rfl g109 ?_;refine Qac (Qi (Qj (Qaj (sr (wm ?_)))));refine wv (fun W hm=>Qeh rfl) ?_;refine wv (vf Qt rfl Qcd) ?_;refine wv (vl 6 4 Qaq) ?_;refine wm ?_;refine Qrg (n:=0) rfl (by omega) ?_;rintro g110 rfl;refine wv (vix 10 k95 Qaq Qbg) ?_;let K2:List Value:=[.slice A37 E36.d.c.length c38,iV E36.d.f,iV E36.g, .slice A40 E36.l.length c41, .slice (sA g110) E36.a.length c44, .slice A101 d100.length c102, .slice A49 E36.k.length c50,iV E36.n];let J17:List It:=iS Qaw 102 A49 c50 E36.k::Qb p 39 K2::is;let J18:List It:=I10::iS Qa 3 A40 c41 E36.l::iS Qaz 80 A101 c102 d100::J17;refine Qrh (E:=Qz) (e:=61) (A:=(sA g110)) (n:=E36.a.length) (xs:=E36.a) (k:=k95) (js:=(iS Qz 61 A97 c98 d96::J18)) (by omega) (fun W hm=>(hm.front (n:=0) rfl)) (fun ck111=>?_);refine Qqq ?_;rintro⟨v112,v113,v114,v115⟩ rfl;refine fm 0 ?_;rintro A116 c117 rfl m118;refine fm 1 ?_;rintro A120 c121 rfl m122;refine fm 2 ?_;rintro A124 c125 rfl m126;refine fm 3 ?_;rintro A128 c129 rfl m130;let K3:List Value:=[iV ((gt E36.a k95).e.Id),iV ((gt E36.a k95).e.u), .slice A116 ((gt E36.a k95).e.o).length c117, .slice A120 ((gt E36.a k95).e.t).length c121,iV ((gt E36.a k95).r), .slice A124 ((gt E36.a k95).q).length c125,iV ((gt E36.a k95).v),iV ((gt E36.a k95).A),iV ((gt E36.a k95).z), .slice A128 ((gt E36.a k95).p).length c129];refine wv (fun W hm=>Qab (cs:=K3) Qbb Qbg rfl rfl (hm.restCells (i:=4) rfl rfl)) ?_;refine Qbo Qbg rfl (Qf rfl) (by decide) (fun p132=>?_);refine Qdf (p:=p132) (o:=0) (cs':=K3) (fun w hm=>hm.front (n:=0) rfl) Qbg rfl (Nat.le_of_ble_eq_true rfl) rfl rfl rfl rfl (Qf rfl) ?_;refine nt' (sr ?_);refine wv (vf Qbb rfl Qg) ?_;refine wv (vl 0 6 Qu) ?_;refine wv Qfe ?_;refine wv (vf Qbb rfl Qg) ?_;let K4:List Value:=[iV ((gt E36.a k95).e.Id),iV ((gt E36.a k95).e.u), .slice A116 ((gt E36.a k95).e.o).length c117, .slice A120 ((gt E36.a k95).e.t).length c121,iV ((gt E36.a k95).r), .slice A124 ((gt E36.a k95).q).length c125,iV (IntKind.i64.wrap (((gt E36.a k95).v)+1)),iV ((gt E36.a k95).A),iV ((gt E36.a k95).z), .slice A128 ((gt E36.a k95).p).length c129];refine Qdf (p:=p132) (o:=6) (cs':=K4) (fun w hm=>hm.front (n:=0) rfl) Qg rfl (Nat.le_of_ble_eq_true rfl) rfl rfl rfl rfl (Qf rfl) ?_;refine nt' (Qj (sr ?_));refine wv (vf Qbb rfl Qg) ?_;refine wv (vl 0 6 Qu) ?_;refine wm ?_;refine wv (fun W hm=>Qnx rfl rfl (by omega)) ?_;refine wv (fun W hm=>Qde rfl rfl) ?_;refine nt' ?_;rcases dce (Int.tmod (IntKind.i64.wrap (((gt E36.a k95).v)+1)) ((E36.d.c.length:Nat):Int)) 0 with⟨h133,g134⟩|⟨h133,g134⟩
  ·refine Qr rfl g134 ?_;refine Qae ?_;refine wv (vf Qbb rfl Qg) ?_;let K5:List Value:=[iV ((gt E36.a k95).e.Id),iV ((gt E36.a k95).e.u), .slice A116 ((gt E36.a k95).e.o).length c117, .slice A120 ((gt E36.a k95).e.t).length c121,iV ((gt E36.a k95).r), .slice A124 ((gt E36.a k95).q).length c125,iV (IntKind.i64.wrap (((gt E36.a k95).v)+1)),iV 0,iV ((gt E36.a k95).z), .slice A128 ((gt E36.a k95).p).length c129];refine Qdf (p:=p132) (o:=7) (cs':=K5) (fun w hm=>hm.front (n:=0) rfl) Qg rfl (Nat.le_of_ble_eq_true rfl) rfl rfl rfl rfl (Qf rfl) ?_;refine nt' (sr ?_);refine wv (vf Qbb rfl Qbf) ?_;refine wv (vl 0 5 Qo) ?_;refine wv (Qan Qo) ?_;refine wv (fun W hm=>Qde rfl rfl) ?_;refine nt' ?_;rcases dce ((((gt E36.a k95).q).length:Nat):Int) 0 with⟨h135,g136⟩|⟨h135,g136⟩
   ·refine Qr rfl g136 ?_;let I11:It:=iS Qa 3 A124 c125 ((gt E36.a k95).q);let I12:It:=Qjv Qz 61 (sA g110) E36.a.length E36.a k95 K3;let J19:List It:=Qb p132 61 K5::I11::I12::iS Qz 61 A97 c98 d96::I10::iS Qa 3 A40 c41 E36.l::J17;refine rd2 19 [18] (s:=(Qb p132 61 K5::I11::I12::iS Qz 61 A97 c98 d96::I10::iS Qa 3 A40 c41 E36.l::iS Qaw 102 A49 c50 E36.k::is)) (s2:=J19) (pn 12 [0,3,5,6,7,8,10]) (pn 12 [0,3,5,6,7,8,10,11]) ?_;refine qtD 19 0 1 rfl vmv ?_;refine qtD 19 1 3 rfl vmv ?_;refine qtD 19 2 7 rfl (fun W hm=>Qeh rfl) ?_;refine qtD 19 3 15 rfl (vf Qt rfl Qgc) ?_;refine qtD 19 4 31 rfl (vl 7 5 Qdy) ?_;refine qtD 19 5 63 rfl (vf Qbb rfl Qca) ?_;refine qtD 19 6 127 rfl (fun W hm=>Qab (cs:=[iV ((gt E36.a k95).e.Id),iV ((gt E36.a k95).e.u), .slice A116 ((gt E36.a k95).e.o).length c117, .slice A120 ((gt E36.a k95).e.t).length c121]) Qby Qca rfl rfl (hm.boxPart (n:=0) rfl rfl)) ?_;refine qtD 19 7 255 rfl (vf Qbb rfl Qg) ?_;refine qtD 19 8 511 rfl (vl 0 4 Qu) ?_;refine qtD 19 9 1023 rfl (vf Qbb rfl Qg) ?_;refine qtD 19 10 2047 rfl (vl 0 6 Qu) ?_;refine qtD 19 11 4095 rfl (vf Qbb rfl Qey) ?_;refine qtD 19 12 8191 rfl (vl 0 9 Qcr) ?_;let K6:List Value:=[iV ((gt E36.a k95).e.Id),iV ((gt E36.a k95).e.u), .slice A116 ((gt E36.a k95).e.o).length c117, .slice A120 ((gt E36.a k95).e.t).length c121,iV ((gt E36.a k95).r),iV (IntKind.i64.wrap (((gt E36.a k95).v)+1)), .slice A128 ((gt E36.a k95).p).length c129];refine qtD 19 13 16383 rfl (fun W hm=>Qcz (cs:=K6) rfl (by kernel_rfl)) ?_;refine qoD 19 14 32767 rfl ?_;refine Qcf (cs:=K6) Qdy Qep rfl (by decide) (by decide) rfl (by kernel_rfl) (Qf rfl) (by decide) (fun p137=>?_);refine qnD (pn 13 [1,4,6,7,8,9,11]) (pn 13 [1,4,6,7,8,9,11,12]) ?_;refine qoD 19 15 65535 rfl ?_;refine Qov (E:=Qaz) (e:=80) (v:= .slice A101 d100.length c102) (p:=p137) (q:=1) (xs:=d100) (ys:=[(⟨(gt E36.a k95).e,(gt E36.a k95).r,(IntKind.i64.wrap (((gt E36.a k95).v)+1)),(gt E36.a k95).p⟩:Qco)]) (eis:=[iS Qbl 180 A116 c117 ((gt E36.a k95).e.o),iS Qa 3 A120 c121 ((gt E36.a k95).e.t),iS Qas 70 A128 c129 ((gt E36.a k95).p)]) (js:=J19) (news:=K6) (pn 13 [0,10,2,3,5,1,4,6,7,8,9,11,12]) (fun _ _ hs=>Els.single (Qok (x:=(⟨(gt E36.a k95).e,(gt E36.a k95).r,(IntKind.i64.wrap (((gt E36.a k95).v)+1)),(gt E36.a k95).p⟩:Qco)) hs)) Qdy Qep rfl rfl rfl (Nat.le_of_ble_eq_true rfl) rfl rfl rfl (show(d100.length+1)*104≤140737488355328 from by omega) (show d100.length+1≤9223372036854775807 from by omega) (Qf rfl) (by decide) (fun v138=>?_);refine fm 0 ?_;rintro A139 c140 rfl m141;refine qnD (pn 9 [1,2,3,4,5,6,7]) (pn 9 [1,2,3,4,5,6,7,8]) ?_;refine qtP 19 16 131071 rfl (fun W=>Qeh rfl) ?_;refine qtD 19 17 262143 rfl (vf Qt rfl Qgc) ?_;refine qoD 19 18 524287 rfl ?_;refine Qdf (p:=p) (o:=5) (cs':=[.slice A37 E36.d.c.length c38,iV E36.d.f,iV E36.g, .slice A40 E36.l.length c41, .slice (sA g110) E36.a.length c44, .slice A139 (d100++[(⟨(gt E36.a k95).e,(gt E36.a k95).r,(IntKind.i64.wrap (((gt E36.a k95).v)+1)),(gt E36.a k95).p⟩:Qco)]).length c140, .slice A49 E36.k.length c50,iV E36.n]) (fun w hm=>hm.front (n:=8) rfl) Qgc rfl (Nat.le_of_ble_eq_true rfl) rfl rfl rfl rfl (Qf rfl) ?_;refine qxD (pn 9 [2,3,4,5,6,7,8]) ?_;refine Qdn (by kernel_rfl) ?_;refine Qar (Qi (Qae (wm ?_)));refine wv (Qbc k95 1 (by omega)) ?_;refine wa (Qai ?_);refine Qbh (fun W hm=>Mem.restNext (hm.front (n:=4) rfl)) ?_;exact Qax (k95+1,(d96,(d100++[(⟨(gt E36.a k95).e,(gt E36.a k95).r,(IntKind.i64.wrap (((gt E36.a k95).v)+1)),(gt E36.a k95).p⟩:Qco)])),(A97,c98,A139,c140)) sl4 (pn 9 [0,5,6,7,2,8,1]) ⟨(by omega),nx hF104 (Qc g134 (Qc g136 (rfl))),(show d96.length≤0+(k95+1) from by first|omega|(simp only[List.length_append,List.length_cons,List.length_nil] at *;omega)),(show(d100++[(⟨(gt E36.a k95).e,(gt E36.a k95).r,(IntKind.i64.wrap (((gt E36.a k95).v)+1)),(gt E36.a k95).p⟩:Qco)]).length≤E36.j.length+(k95+1) from by first|omega|(simp only[List.length_append,List.length_cons,List.length_nil] at *;omega))⟩ rl
   refine Qx rfl g136 ?_;refine Qae (wm ?_);refine wv (fun W hm=>Qab (cs:=K5) Qbb Qbg rfl rfl (hm.boxCells (n:=0) rfl)) ?_;refine Qcf (cs:=K5) Qaq Qbg rfl (by decide) (by decide) rfl (by kernel_rfl) (Qf rfl) (by decide) (fun p144=>?_);refine Qov (E:=Qz) (e:=61) (v:= .slice A97 d96.length c98) (p:=p144) (q:=1) (xs:=d96) (ys:=[(⟨(gt E36.a k95).e,(gt E36.a k95).r,(gt E36.a k95).q,(IntKind.i64.wrap (((gt E36.a k95).v)+1)),0,(gt E36.a k95).z,(gt E36.a k95).p⟩:Qp)]) (eis:=[iS Qbl 180 A116 c117 ((gt E36.a k95).e.o),iS Qa 3 A120 c121 ((gt E36.a k95).e.t),iS Qa 3 A124 c125 ((gt E36.a k95).q),iS Qas 70 A128 c129 ((gt E36.a k95).p)]) (js:=(Qb p132 61 K5::Qjv Qz 61 (sA g110) E36.a.length E36.a k95 K3::J18)) (news:=K5) (pn 13 [0,7,2,3,4,5,1,6,8,9,10,11,12]) (fun _ _ hs=>Els.single (Qfr (x:=(⟨(gt E36.a k95).e,(gt E36.a k95).r,(gt E36.a k95).q,(IntKind.i64.wrap (((gt E36.a k95).v)+1)),0,(gt E36.a k95).z,(gt E36.a k95).p⟩:Qp)) hs)) Qaq Qbg rfl rfl rfl (Nat.le_of_ble_eq_true rfl) rfl rfl rfl (show(d96.length+1)*144≤140737488355328 from by omega) (show d96.length+1≤9223372036854775807 from by omega) (Qf rfl) (by decide) (fun v145=>?_);refine fm 0 ?_;rintro A146 c147 rfl m148;refine wa (Qai (Qar (Qi (Qae (wm ?_)))));refine wv (Qbc k95 1 (by omega)) ?_;refine wa (Qai ?_);refine Qbh (fun W hm=>Mem.restNext (hm.front (n:=2) rfl)) ?_;exact Qax (k95+1,((Qvw E36 k95 d96),d100),(A146,c147,A101,c102)) sl4 (pn 8 [0,1,3,4,5,6,7]) ⟨(by omega),nx hF104 (Qc g134 (Qe g136 (rfl))),(show(Qvw E36 k95 d96).length≤0+(k95+1) from by first|omega|(simp only[List.length_append,List.length_cons,List.length_nil] at *;omega)),(show d100.length≤E36.j.length+(k95+1) from by first|omega|(simp only[List.length_append,List.length_cons,List.length_nil] at *;omega))⟩ rl
  refine Qx rfl g134 ?_;refine Qac (Qi (sr ?_));refine wv (vf Qbb rfl Qbf) ?_;refine wv (vl 0 5 Qo) ?_;refine wv (Qan Qo) ?_;refine wv (fun W hm=>Qde rfl rfl) ?_;refine nt' ?_;rcases dce ((((gt E36.a k95).q).length:Nat):Int) 0 with⟨h151,g152⟩|⟨h151,g152⟩
  ·refine Qr rfl g152 ?_;let I13:It:=iS Qa 3 A124 c125 ((gt E36.a k95).q);let I14:It:=Qjv Qz 61 (sA g110) E36.a.length E36.a k95 K3;let J20:List It:=Qb p132 61 K4::I13::I14::iS Qz 61 A97 c98 d96::I10::iS Qa 3 A40 c41 E36.l::J17;refine rd2 19 [18] (s:=(Qb p132 61 K4::I13::I14::iS Qz 61 A97 c98 d96::I10::iS Qa 3 A40 c41 E36.l::iS Qaw 102 A49 c50 E36.k::is)) (s2:=J20) (pn 12 [0,3,5,6,7,8,10]) (pn 12 [0,3,5,6,7,8,10,11]) ?_;refine qtD 19 0 1 rfl vmv ?_;refine qtD 19 1 3 rfl vmv ?_;refine qtD 19 2 7 rfl (fun W hm=>Qeh rfl) ?_;refine qtD 19 3 15 rfl (vf Qt rfl Qgc) ?_;refine qtD 19 4 31 rfl (vl 7 5 Qdy) ?_;refine qtD 19 5 63 rfl (vf Qbb rfl Qca) ?_;refine qtD 19 6 127 rfl (fun W hm=>Qab (cs:=[iV ((gt E36.a k95).e.Id),iV ((gt E36.a k95).e.u), .slice A116 ((gt E36.a k95).e.o).length c117, .slice A120 ((gt E36.a k95).e.t).length c121]) Qby Qca rfl rfl (hm.boxPart (n:=0) rfl rfl)) ?_;refine qtD 19 7 255 rfl (vf Qbb rfl Qg) ?_;refine qtD 19 8 511 rfl (vl 0 4 Qu) ?_;refine qtD 19 9 1023 rfl (vf Qbb rfl Qg) ?_;refine qtD 19 10 2047 rfl (vl 0 6 Qu) ?_;refine qtD 19 11 4095 rfl (vf Qbb rfl Qey) ?_;refine qtD 19 12 8191 rfl (vl 0 9 Qcr) ?_;let K7:List Value:=[iV ((gt E36.a k95).e.Id),iV ((gt E36.a k95).e.u), .slice A116 ((gt E36.a k95).e.o).length c117, .slice A120 ((gt E36.a k95).e.t).length c121,iV ((gt E36.a k95).r),iV (IntKind.i64.wrap (((gt E36.a k95).v)+1)), .slice A128 ((gt E36.a k95).p).length c129];refine qtD 19 13 16383 rfl (fun W hm=>Qcz (cs:=K7) rfl (by kernel_rfl)) ?_;refine qoD 19 14 32767 rfl ?_;refine Qcf (cs:=K7) Qdy Qep rfl (by decide) (by decide) rfl (by kernel_rfl) (Qf rfl) (by decide) (fun p153=>?_);refine qnD (pn 13 [1,4,6,7,8,9,11]) (pn 13 [1,4,6,7,8,9,11,12]) ?_;refine qoD 19 15 65535 rfl ?_;refine Qov (E:=Qaz) (e:=80) (v:= .slice A101 d100.length c102) (p:=p153) (q:=1) (xs:=d100) (ys:=[(⟨(gt E36.a k95).e,(gt E36.a k95).r,(IntKind.i64.wrap (((gt E36.a k95).v)+1)),(gt E36.a k95).p⟩:Qco)]) (eis:=[iS Qbl 180 A116 c117 ((gt E36.a k95).e.o),iS Qa 3 A120 c121 ((gt E36.a k95).e.t),iS Qas 70 A128 c129 ((gt E36.a k95).p)]) (js:=J20) (news:=K7) (pn 13 [0,10,2,3,5,1,4,6,7,8,9,11,12]) (fun _ _ hs=>Els.single (Qok (x:=(⟨(gt E36.a k95).e,(gt E36.a k95).r,(IntKind.i64.wrap (((gt E36.a k95).v)+1)),(gt E36.a k95).p⟩:Qco)) hs)) Qdy Qep rfl rfl rfl (Nat.le_of_ble_eq_true rfl) rfl rfl rfl (show(d100.length+1)*104≤140737488355328 from by omega) (show d100.length+1≤9223372036854775807 from by omega) (Qf rfl) (by decide) (fun v154=>?_);refine fm 0 ?_;rintro A155 c156 rfl m157;refine qnD (pn 9 [1,2,3,4,5,6,7]) (pn 9 [1,2,3,4,5,6,7,8]) ?_;refine qtP 19 16 131071 rfl (fun W=>Qeh rfl) ?_;refine qtD 19 17 262143 rfl (vf Qt rfl Qgc) ?_;refine qoD 19 18 524287 rfl ?_;refine Qdf (p:=p) (o:=5) (cs':=[.slice A37 E36.d.c.length c38,iV E36.d.f,iV E36.g, .slice A40 E36.l.length c41, .slice (sA g110) E36.a.length c44, .slice A155 (d100++[(⟨(gt E36.a k95).e,(gt E36.a k95).r,(IntKind.i64.wrap (((gt E36.a k95).v)+1)),(gt E36.a k95).p⟩:Qco)]).length c156, .slice A49 E36.k.length c50,iV E36.n]) (fun w hm=>hm.front (n:=8) rfl) Qgc rfl (Nat.le_of_ble_eq_true rfl) rfl rfl rfl rfl (Qf rfl) ?_;refine qxD (pn 9 [2,3,4,5,6,7,8]) ?_;refine Qdn (by kernel_rfl) ?_;refine Qar (Qi (Qae (wm ?_)));refine wv (Qbc k95 1 (by omega)) ?_;refine wa (Qai ?_);refine Qbh (fun W hm=>Mem.restNext (hm.front (n:=4) rfl)) ?_;exact Qax (k95+1,(d96,(d100++[(⟨(gt E36.a k95).e,(gt E36.a k95).r,(IntKind.i64.wrap (((gt E36.a k95).v)+1)),(gt E36.a k95).p⟩:Qco)])),(A97,c98,A155,c156)) sl4 (pn 9 [0,5,6,7,2,8,1]) ⟨(by omega),nx hF104 (Qe g134 (Qc g152 (rfl))),(show d96.length≤0+(k95+1) from by first|omega|(simp only[List.length_append,List.length_cons,List.length_nil] at *;omega)),(show(d100++[(⟨(gt E36.a k95).e,(gt E36.a k95).r,(IntKind.i64.wrap (((gt E36.a k95).v)+1)),(gt E36.a k95).p⟩:Qco)]).length≤E36.j.length+(k95+1) from by first|omega|(simp only[List.length_append,List.length_cons,List.length_nil] at *;omega))⟩ rl
  refine Qx rfl g152 ?_;refine Qae (wm ?_);refine wv (fun W hm=>Qab (cs:=K4) Qbb Qbg rfl rfl (hm.boxCells (n:=0) rfl)) ?_;refine Qcf (cs:=K4) Qaq Qbg rfl (by decide) (by decide) rfl (by kernel_rfl) (Qf rfl) (by decide) (fun p160=>?_);refine Qov (E:=Qz) (e:=61) (v:= .slice A97 d96.length c98) (p:=p160) (q:=1) (xs:=d96) (ys:=[(⟨(gt E36.a k95).e,(gt E36.a k95).r,(gt E36.a k95).q,(IntKind.i64.wrap (((gt E36.a k95).v)+1)),(gt E36.a k95).A,(gt E36.a k95).z,(gt E36.a k95).p⟩:Qp)]) (eis:=[iS Qbl 180 A116 c117 ((gt E36.a k95).e.o),iS Qa 3 A120 c121 ((gt E36.a k95).e.t),iS Qa 3 A124 c125 ((gt E36.a k95).q),iS Qas 70 A128 c129 ((gt E36.a k95).p)]) (js:=(Qb p132 61 K4::Qjv Qz 61 (sA g110) E36.a.length E36.a k95 K3::J18)) (news:=K4) (pn 13 [0,7,2,3,4,5,1,6,8,9,10,11,12]) (fun _ _ hs=>Els.single (Qfr (x:=(⟨(gt E36.a k95).e,(gt E36.a k95).r,(gt E36.a k95).q,(IntKind.i64.wrap (((gt E36.a k95).v)+1)),(gt E36.a k95).A,(gt E36.a k95).z,(gt E36.a k95).p⟩:Qp)) hs)) Qaq Qbg rfl rfl rfl (Nat.le_of_ble_eq_true rfl) rfl rfl rfl (show(d96.length+1)*144≤140737488355328 from by omega) (show d96.length+1≤9223372036854775807 from by omega) (Qf rfl) (by decide) (fun v161=>?_);refine fm 0 ?_;rintro A162 c163 rfl m164;refine wa (Qai (Qar (Qi (Qae (wm ?_)))));refine wv (Qbc k95 1 (by omega)) ?_;refine wa (Qai ?_);refine Qbh (fun W hm=>Mem.restNext (hm.front (n:=2) rfl)) ?_;exact Qax (k95+1,((Qvx E36 k95 d96),d100),(A162,c163,A101,c102)) sl4 (pn 8 [0,1,3,4,5,6,7]) ⟨(by omega),nx hF104 (Qe g134 (Qe g152 (rfl))),(show(Qvx E36 k95 d96).length≤0+(k95+1) from by first|omega|(simp only[List.length_append,List.length_cons,List.length_nil] at *;omega)),(show d100.length≤E36.j.length+(k95+1) from by first|omega|(simp only[List.length_append,List.length_cons,List.length_nil] at *;omega))⟩ rl
 refine Qx rfl g109 ?_;refine Qbm (Qag (Qag ?_));have hE167:=Qbx hl108 hF104;refine Qbn (Qi (sr (wm (wm ?_))));refine wv (fun W hm=>Qeh rfl) ?_;refine wv (vf Qt rfl Qcd) ?_;refine Qdf (p:=p) (o:=4) (cs':=[.slice A37 E36.d.c.length c38,iV E36.d.f,iV E36.g, .slice A40 E36.l.length c41, .slice A97 d96.length c98, .slice A101 d100.length c102, .slice A49 E36.k.length c50,iV E36.n]) (fun w hm=>hm.front (n:=6) rfl) Qcd rfl (Nat.le_of_ble_eq_true rfl) rfl rfl rfl rfl (Qf rfl) ?_;refine nt' (sr (wm (wm ?_)));refine wv (fun W hm=>Qeh rfl) ?_;refine wv (vf Qt rfl Qg) ?_;refine wv (vl 0 2 Qu) ?_;refine wv Qfe ?_;refine wm ?_;refine wv (fun W hm=>Qnx rfl rfl (by omega)) ?_;refine wv (fun W hm=>Qeh rfl) ?_;refine wv (vf Qt rfl Qg) ?_;refine Qdf (p:=p) (o:=2) (cs':=[.slice A37 E36.d.c.length c38,iV E36.d.f,iV (Int.tmod (IntKind.i64.wrap (E36.g+1)) ((E36.d.c.length:Nat):Int)), .slice A40 E36.l.length c41, .slice A97 d96.length c98, .slice A101 d100.length c102, .slice A49 E36.k.length c50,iV E36.n]) (fun w hm=>hm.front (n:=0) rfl) Qg rfl (Nat.le_of_ble_eq_true rfl) rfl rfl rfl rfl (Qf rfl) ?_;refine nt' (sr (wm (wm ?_)));refine wv (fun W hm=>Qeh rfl) ?_;refine wv (vf Qt rfl Qg) ?_;refine wv (vl 0 7 Qu) ?_;refine wv Qfe ?_;refine wv (fun W hm=>Qeh rfl) ?_;refine wv (vf Qt rfl Qg) ?_;let K8:List Value:=[.slice A37 E36.d.c.length c38,iV E36.d.f,iV (Int.tmod (IntKind.i64.wrap (E36.g+1)) ((E36.d.c.length:Nat):Int)), .slice A40 E36.l.length c41, .slice A97 d96.length c98, .slice A101 d100.length c102, .slice A49 E36.k.length c50,iV (IntKind.i64.wrap (E36.n+1))];refine Qdf (p:=p) (o:=7) (cs':=K8) (fun w hm=>hm.front (n:=0) rfl) Qg rfl (Nat.le_of_ble_eq_true rfl) rfl rfl rfl rfl (Qf rfl) ?_;refine nt' (Qae (wm ?_));let I15:It:=Qiu Qz 61 A43 E36.a.length E36.a k95;refine Qgp (js:=(Qh Qbz K8 (⟨E36.d,(Int.tmod (IntKind.i64.wrap (E36.g+1)) ((E36.d.c.length:Nat):Int)),E36.l,d96,d100,E36.k,(IntKind.i64.wrap (E36.n+1))⟩:Qk)::(Qb p 39 K8::I15::is))) (fun W hm=>Mem.join (is:=[I10,iS Qa 3 A40 c41 E36.l,iS Qz 61 A97 c98 d96,iS Qaz 80 A101 c102 d100,iS Qaw 102 A49 c50 E36.k]) (js:=(Qb p 39 K8::I15::is)) (fun _ _ hs=>Qej (x:=(⟨E36.d,(Int.tmod (IntKind.i64.wrap (E36.g+1)) ((E36.d.c.length:Nat):Int)),E36.l,d96,d100,E36.k,(IntKind.i64.wrap (E36.n+1))⟩:Qk)) hs) (hm.pickN 7 [3,4,2,5,6,0,1] (by decide))) ?_;refine Qcp (χ:=List Value) (val:=fun x=> .tuple #[]) (js:=fun x=>(Qb p 39 x::Qh Qbz x (Qhm (⟨E36.d,(Int.tmod (IntKind.i64.wrap (E36.g+1)) ((E36.d.c.length:Nat):Int)),E36.l,d96,d100,E36.k,(IntKind.i64.wrap (E36.n+1))⟩:Qk))::(I15::is))) (Qs Qxt rfl) (fun W hm=>Qabj B w0 (I15::is) W p _ (⟨E36.d,(Int.tmod (IntKind.i64.wrap (E36.g+1)) ((E36.d.c.length:Nat):Int)),E36.l,d96,d100,E36.k,(IntKind.i64.wrap (E36.n+1))⟩:Qk) ⟨(by rw[hS1];exact s_0.1),(show d96.length≤68719476736 from by omega)⟩ ((hm.front (n:=0) rfl).front (n:=1) rfl)) (Qf rfl) (by decide) (fun z168=>?_);obtain⟨G169,hG169⟩:∃ G,G=(Qhm (⟨E36.d,(Int.tmod (IntKind.i64.wrap (E36.g+1)) ((E36.d.c.length:Nat):Int)),E36.l,d96,d100,E36.k,(IntKind.i64.wrap (E36.n+1))⟩:Qk)):=⟨_,rfl⟩;rw[← hG169];refine Qgp (js:=(Qh Qbz z168 G169::Qb p 39 z168::I15::is)) (fun W hm=>(hm.front (n:=1) rfl)) ?_;refine Qhn ?_;rintro⟨v170,v171,v172,v173,v174⟩ rfl;refine fm 0 ?_;rintro A175 c176 rfl m177;refine fm 1 ?_;rintro A179 c180 rfl m181;refine fm 2 ?_;rintro A183 c184 rfl m185;refine fm 3 ?_;rintro A187 c188 rfl m189;refine fm 4 ?_;rintro A191 c192 rfl m193;refine Qai ?_;let K9:List Value:=[.slice A175 G169.d.c.length c176,iV G169.d.f,iV G169.g, .slice A179 G169.l.length c180, .slice A183 G169.a.length c184, .slice A187 G169.j.length c188, .slice A191 G169.k.length c192,iV G169.n];refine Qbh (js:=(Qh Qbz K9 G169::(Qb p 39 K9::I15::is))) (fun W hm=>Mem.join (is:=[iS (tSl Qy 163) 100 A175 c176 G169.d.c,iS Qa 3 A179 c180 G169.l,iS Qz 61 A183 c184 G169.a,iS Qaz 80 A187 c188 G169.j,iS Qaw 102 A191 c192 G169.k]) (js:=(Qb p 39 K9::I15::is)) (fun _ _ hs=>Qej (x:=G169) hs) (hm.pickN 7 [0,1,2,3,4,5,6] (by decide))) ?_;have he195:=(show Qhj x0=G169 from by subst hG169;exact Qbd hE82 (Qbd hE167 (rfl)));refine Qwz rfl (fun W hm=>⟨K9,?_,?_⟩)
 ·rfl
 rw[he195];exact(((hm.front (n:=0) rfl).front (n:=1) rfl).front (n:=2) rfl).tail
def Qfd (x0:Qk):(Qk×Bool):=
 cond (Qgf x0) (cond (decide (100000≤x0.n)) (x0,false) (cond (decide (1000≤((x0.k.length:Nat):Int))) (x0,false) (cond (decide (1000<((x0.j.length+x0.a.length:Nat):Int))) (x0,false) ((Qhj x0),true)))) (x0,false)
theorem cb10:Cb Tryz.prog 10:=⟨f10,_,func10,rfl,by decide⟩
theorem Qaig (w:World) (z0:List Value) (x0:Qk) (r_0:Qbz.rd w w.heap.size z0 x0) (s_0:Qhb 68719476736 x0):
 Calls Tryz.prog 10 #[.agg z0.toArray] w fun e w'=>∃ v:List Value,e= .returned (.tuple #[.agg v.toArray, .bool ((Qfd x0).2)])∧Mem w.heap.size w [Qh Qbz v (Qfd x0).1] w':=by
 obtain⟨v1,v3,v5,v7,v9,rfl,r2,r4,r6,r8,r10⟩:=Qji r_0;obtain⟨m11,A12,c13,rfl,q14,r15⟩:=Qn r2;obtain⟨m16,A17,c18,rfl,q19,r20⟩:=Qn r4;obtain⟨m21,A22,c23,rfl,q24,r25⟩:=Qn r6;obtain⟨m26,A27,c28,rfl,q29,r30⟩:=Qn r8;obtain⟨m31,A32,c33,rfl,q34,r35⟩:=Qn r10;have l36:x0.d.c.length≤68719476736:=s_0.1.1;have l37:=s_0.2.1;have l38:=s_0.2.2.1.1;have l39:=s_0.2.2.2.1.1;have l40:=s_0.2.2.2.2.1;refine ce1 (L:=[(0, .agg #[.slice A12 x0.d.c.length c13,iV x0.d.f,iV x0.g, .slice A17 x0.l.length c18, .slice A22 x0.a.length c23, .slice A27 x0.j.length c28, .slice A32 x0.k.length c33,iV x0.n])]) (N:=34) func10 ?_;refine sr ?_;refine Qcj rfl (Qf rfl) (by decide) (fun p41=>?_);refine Qbo Qal rfl (Qf rfl) (by decide) (fun p42=>?_);refine wa (nt' (sr ?_));let K1:List Value:=[.slice A12 x0.d.c.length c13,iV x0.d.f,iV x0.g, .slice A17 x0.l.length c18, .slice A22 x0.a.length c23, .slice A27 x0.j.length c28, .slice A32 x0.k.length c33,iV x0.n];refine wv (fun W hm=>Qab (cs:=K1) Qt Qal rfl rfl (hm.boxCells (n:=1) rfl)) ?_;refine wcs Qbz x0 (Qs Qro rfl) (fun W hm=>Qsy W _ x0 (Qfs (x:=x0) (hm.rdS0 r15) (hm.rdS0 r20) (hm.rdS0 r25) (hm.rdS0 r30) (hm.rdS0 r35)) s_0) (fun z43=>?_);refine Qhn ?_;rintro⟨v44,v45,v46,v47,v48⟩ rfl;refine fm 0 ?_;rintro A49 c50 rfl m51;refine fm 1 ?_;rintro A53 c54 rfl m55;refine fm 2 ?_;rintro A57 c58 rfl m59;refine fm 3 ?_;rintro A61 c62 rfl m63;refine fm 4 ?_;rintro A65 c66 rfl m67;refine Qbo Qal rfl (Qf rfl) (by decide) (fun p69=>?_);let K2:List Value:=[.slice A49 x0.d.c.length c50,iV x0.d.f,iV x0.g, .slice A53 x0.l.length c54, .slice A57 x0.a.length c58, .slice A61 x0.j.length c62, .slice A65 x0.k.length c66,iV x0.n];let K3:List Value:=[.slice none 0 0,iV 0,iV 0, .slice none 0 0, .slice none 0 0, .slice none 0 0, .slice none 0 0,iV 0];let I5:It:=iS (tSl Qy 163) 100 A49 c50 x0.d.c;let J10:List It:=[Qb p42 39 K3,Qb p41 39 K1];refine sb 0 K2 (I5::iS Qa 3 A53 c54 x0.l::iS Qz 61 A57 c58 x0.a::iS Qaz 80 A61 c62 x0.j::iS Qaw 102 A65 c66 x0.k::J10) idM Qal ?_;refine nt' (Qj (sr ?_));refine wv (fun W hm=>Qab (cs:=K1) Qt Qal rfl rfl (hm.boxCells (n:=7) rfl)) ?_;refine wcv (Qs Qoy rfl) (fun W hm=>Qqc W _ x0 (Qfs (x:=x0) (hm.rdS0 r15) (hm.rdS0 r20) (hm.rdS0 r25) (hm.rdS0 r30) (hm.rdS0 r35)) s_0) ?_;refine wv Qbs ?_;refine wm ?_;rcases bd (Qgf x0) with g71|g71
 ·have hE:=(Qjc _).1 g71;refine wg (vf Qt rfl Qg) (nt g71) ?_;refine wg (vl 7 7 Qu) (nt g71) ?_;refine wg (fun W hm=>Qjo rfl rfl) (nt g71) ?_;refine wv (vpF (nt g71)) ?_;refine wm ?_;rcases dcd (100000≤x0.n) with⟨h72,g73⟩|⟨h72,g73⟩
  ·iterate 15 first|refine ws g73 ?_|refine wv (vpT g73) ?_|refine wm ?_|refine wk ?_|refine wv (vpT rfl) ?_
   refine nt' ?_;refine Qr rfl rfl ?_;refine sr ?_;refine wv (fun W hm=>Qab (cs:=K2) Qt Qal rfl rfl (hm.boxCells (n:=0) rfl)) ?_;refine sb 0 K2 [Qb p69 39 K2,I5,iS Qa 3 A53 c54 x0.l,iS Qz 61 A57 c58 x0.a,iS Qaz 80 A61 c62 x0.j,iS Qaw 102 A65 c66 x0.k,Qb p41 39 K1] (pk [6,0,1,2,3,4,5,7]) Qal ?_;refine wa (nt' (Qm (Ql ?_)));have he74:=(show Qfd x0=(x0,false) from Qc g71 (Qc g73 (rfl)));refine Qdw rfl (Qck (n:=0) rfl rfl Qt Qal rfl) (Qcg rfl) (fun W hm=>⟨K2,?_,?_⟩)
   ·first|rw[he74]|rfl
    try rfl
   rw[he74];exact Mem.join (is:=[I5,iS Qa 3 A53 c54 x0.l,iS Qz 61 A57 c58 x0.a,iS Qaz 80 A61 c62 x0.j,iS Qaw 102 A65 c66 x0.k]) (js:=[]) (fun _ _ hs=>Qej (x:=x0) hs) (hm.pick [2,3,4,5,6] (by decide))
  refine wg (vf Qt rfl Qgn) g73 ?_;refine wg (vl 7 6 Qee) g73 ?_;refine wg (Qan Qee) g73 ?_;refine wg (fun W hm=>Qjo rfl rfl) g73 ?_;refine wv (vpF g73) ?_;refine wm ?_;rcases dcd (1000≤((x0.k.length:Nat):Int)) with⟨h75,g76⟩|⟨h75,g76⟩
  ·iterate 9 first|refine ws g76 ?_|refine wv (vpT g76) ?_
   refine nt' ?_;refine Qr rfl rfl ?_;refine sr ?_;refine wv (fun W hm=>Qab (cs:=K2) Qt Qal rfl rfl (hm.boxCells (n:=0) rfl)) ?_;refine sb 0 K2 [Qb p69 39 K2,I5,iS Qa 3 A53 c54 x0.l,iS Qz 61 A57 c58 x0.a,iS Qaz 80 A61 c62 x0.j,iS Qaw 102 A65 c66 x0.k,Qb p41 39 K1] (pk [6,0,1,2,3,4,5,7]) Qal ?_;refine wa (nt' (Qm (Ql ?_)));have he77:=(show Qfd x0=(x0,false) from Qc g71 (Qe g73 (Qc g76 (rfl))));refine Qdw rfl (Qck (n:=0) rfl rfl Qt Qal rfl) (Qcg rfl) (fun W hm=>⟨K2,?_,?_⟩)
   ·first|rw[he77]|rfl
    try rfl
   rw[he77];exact Mem.join (is:=[I5,iS Qa 3 A53 c54 x0.l,iS Qz 61 A57 c58 x0.a,iS Qaz 80 A61 c62 x0.j,iS Qaw 102 A65 c66 x0.k]) (js:=[]) (fun _ _ hs=>Qej (x:=x0) hs) (hm.pick [2,3,4,5,6] (by decide))
  refine wg (vf Qt rfl Qgc) g76 ?_;refine wg (vl 7 5 Qdy) g76 ?_;refine wg (Qan Qdy) g76 ?_;refine wg (vf Qt rfl Qcd) g76 ?_;refine wg (vl 7 4 Qaq) g76 ?_;refine wg (Qan Qaq) g76 ?_;refine wg (Qbc x0.j.length x0.a.length (by omega)) g76 ?_;refine wg (fun W hm=>Qem rfl rfl) g76 ?_;refine wv (vpF g76) ?_;refine nt' ?_;rcases dcd (1000<((x0.j.length+x0.a.length:Nat):Int)) with⟨h78,g79⟩|⟨h78,g79⟩
  ·refine Qr rfl g79 ?_;refine sr ?_;refine wv (fun W hm=>Qab (cs:=K2) Qt Qal rfl rfl (hm.boxCells (n:=0) rfl)) ?_;refine sb 0 K2 [Qb p69 39 K2,I5,iS Qa 3 A53 c54 x0.l,iS Qz 61 A57 c58 x0.a,iS Qaz 80 A61 c62 x0.j,iS Qaw 102 A65 c66 x0.k,Qb p41 39 K1] (pk [6,0,1,2,3,4,5,7]) Qal ?_;refine wa (nt' (Qm (Ql ?_)));have he80:=(show Qfd x0=(x0,false) from Qc g71 (Qe g73 (Qe g76 (Qc g79 (rfl)))));refine Qdw rfl (Qck (n:=0) rfl rfl Qt Qal rfl) (Qcg rfl) (fun W hm=>⟨K2,?_,?_⟩)
   ·first|rw[he80]|rfl
    try rfl
   rw[he80];exact Mem.join (is:=[I5,iS Qa 3 A53 c54 x0.l,iS Qz 61 A57 c58 x0.a,iS Qaz 80 A61 c62 x0.j,iS Qaw 102 A65 c66 x0.k]) (js:=[]) (fun _ _ hs=>Qej (x:=x0) hs) (hm.pick [2,3,4,5,6] (by decide))
  refine Qx rfl g79 ?_;refine Qac (Qi (sr ?_));refine Qgp (js:=(Qh Qbz K2 x0::(Qb p69 39 K2::J10))) (fun W hm=>Mem.join (is:=[I5,iS Qa 3 A53 c54 x0.l,iS Qz 61 A57 c58 x0.a,iS Qaz 80 A61 c62 x0.j,iS Qaw 102 A65 c66 x0.k]) (js:=(Qb p69 39 K2::J10)) (fun _ _ hs=>Qej (x:=x0) hs) (hm.pick [1,2,3,4,5,0,6,7] (by decide))) ?_;refine Qcp (χ:=List Value) (val:=fun x=> .tuple #[]) (js:=fun x=>(Qb p69 39 x::Qh Qbz x (Qhj x0)::J10)) (Qs cb62 rfl) (fun W hm=>Qaww w.heap.size w J10 W p69 _ x0 s_0 (hE) (hm.pick [1,0,2,3] (by decide))) (Qf rfl) (by decide) (fun z81=>?_);refine Qgp (js:=(Qh Qbz z81 (Qhj x0)::Qb p69 39 z81::J10)) (pk [1,0,2,3]) ?_;refine Qhn ?_;rintro⟨v82,v83,v84,v85,v86⟩ rfl;refine fm 0 ?_;rintro A87 c88 rfl m89;refine fm 1 ?_;rintro A91 c92 rfl m93;refine fm 2 ?_;rintro A95 c96 rfl m97;refine fm 3 ?_;rintro A99 c100 rfl m101;refine fm 4 ?_;rintro A103 c104 rfl m105;refine nt' (sr ?_);let K4:List Value:=[.slice A87 ((Qhj x0).d.c).length c88,iV ((Qhj x0).d.f),iV ((Qhj x0).g), .slice A91 ((Qhj x0).l).length c92, .slice A95 ((Qhj x0).a).length c96, .slice A99 ((Qhj x0).j).length c100, .slice A103 ((Qhj x0).k).length c104,iV ((Qhj x0).n)];refine wv (fun W hm=>Qab (cs:=K4) Qt Qal rfl rfl (hm.boxCells (n:=5) rfl)) ?_;let I6:It:=iS (tSl Qy 163) 100 A87 c88 ((Qhj x0).d.c);let I7:It:=iS Qz 61 A95 c96 ((Qhj x0).a);let I8:It:=iS Qaz 80 A99 c100 ((Qhj x0).j);let I9:It:=iS Qaw 102 A103 c104 ((Qhj x0).k);refine sb 0 K4 [I6,iS Qa 3 A91 c92 ((Qhj x0).l),I7,I8,I9,Qb p69 39 K4,Qb p41 39 K1] (pk [6,0,1,2,3,4,5,7]) Qal ?_;refine wa (nt' (Qm ?_));have he107:=(show Qfd x0=((Qhj x0),true) from Qc g71 (Qe g73 (Qe g76 (Qe g79 (rfl)))));refine Qdw rfl (Qck (n:=0) rfl rfl Qt Qal rfl) (Qcg rfl) (fun W hm=>⟨K4,?_,?_⟩)
  ·first|rw[he107]|rfl
   try rfl
  rw[he107];exact Mem.join (is:=[I6,iS Qa 3 A91 c92 ((Qhj x0).l),I7,I8,I9]) (js:=[]) (fun _ _ hs=>Qej (x:=(Qhj x0)) hs) (hm.pick [1,2,3,4,5] (by decide))
 refine ws (nf g71) ?_;refine ws (nf g71) ?_;refine ws (nf g71) ?_
 iterate 17 first|refine wv (vpT (nf g71)) ?_|refine wm ?_|refine wk ?_|refine wv (vpT rfl) ?_
 refine nt' ?_;refine Qr rfl rfl ?_;refine sr ?_;refine wv (fun W hm=>Qab (cs:=K2) Qt Qal rfl rfl (hm.boxCells (n:=0) rfl)) ?_;refine sb 0 K2 [Qb p69 39 K2,I5,iS Qa 3 A53 c54 x0.l,iS Qz 61 A57 c58 x0.a,iS Qaz 80 A61 c62 x0.j,iS Qaw 102 A65 c66 x0.k,Qb p41 39 K1] (pk [6,0,1,2,3,4,5,7]) Qal ?_;refine wa (nt' (Qm (Ql ?_)));have he108:=(show Qfd x0=(x0,false) from Qe g71 (rfl));refine Qdw rfl (Qck (n:=0) rfl rfl Qt Qal rfl) (Qcg rfl) (fun W hm=>⟨K2,?_,?_⟩)
 ·first|rw[he108]|rfl
  try rfl
 rw[he108];exact Mem.join (is:=[I5,iS Qa 3 A53 c54 x0.l,iS Qz 61 A57 c58 x0.a,iS Qaz 80 A61 c62 x0.j,iS Qaw 102 A65 c66 x0.k]) (js:=[]) (fun _ _ hs=>Qej (x:=x0) hs) (hm.pick [2,3,4,5,6] (by decide))
def Qzg (x0:Qw) (x1:(List Int)) (k14:Nat):Bool⊕(Unit):=
 cond (Qgw x0 (gt x1 k14)) (Sum.inl true) (Sum.inr ())
def Qrz (x0:Qw) (x1:(List Int)):Bool:=
 Sum.elim id (fun(s:Unit)=>(x0.y==(-1))) (rng (R:=Bool) (fun k (_:Unit)=>Qzg x0 x1 k) (x1.length-0) 0 ())
theorem Qaoz:Cb Tryz.prog 196:=⟨f196,_,func196,rfl,by decide⟩
theorem Qaso (w:World) (z0:List Value) (x0:Qw) (z1:Value) (x1:(List Int)) (r_0:Qy.rd w w.heap.size z0 x0) (r_1:rdS Qa w w.heap.size z1 x1):
 Calls Tryz.prog 196 #[.agg z0.toArray,z1] w (rB w (Qrz x0 x1)):=by
 obtain⟨v1,rfl,r2⟩:=Qhz r_0;obtain⟨m3,A4,c5,rfl,q6,r7⟩:=Qn r2;obtain⟨m8,A9,c10,rfl,q11,r12⟩:=Qn r_1;refine ce2 (L:=[(0, .agg #[iV x0.Id, .slice A4 x0.m.length c5,iV x0.x,iV x0.y]),(1, .slice A9 x1.length c10)]) (N:=20) func196 ?_;refine sr ?_;refine Qcj rfl (Qf rfl) (by decide) (fun p13=>?_);refine wa (nt' (Qj (sr (wm ?_))));refine wv (Qan Qo) ?_;refine wm (nt' (Qaj ?_));let K1:List Value:=[iV x0.Id, .slice A4 x0.m.length c5,iV x0.x,iV x0.y];refine Qbv (S:=Unit) (R:=Unit) (fun k (_:Unit)=>Qzg x0 x1 k) x1.length 0 () () (fun s=>[(2,bp p13),(7, .slice A9 x1.length c10),(8,nI x1.length),(9,nI s.1)]) (fun s=>[Qb p13 163 K1]) (fun s=>True) sl4 trivial ?_;rintro⟨k14,⟨⟩,⟨⟩⟩ H17 _ _ e e';dsimp only at H17 ⊢;subst e e';obtain⟨hk15,hF16,_⟩:=H17;refine sr ?_;refine wv Qbq ?_;refine nt' (Qj ?_);rcases dcl k14 x1.length with⟨hl18,g19⟩|⟨hl18,g19⟩
 ·refine Qr rfl g19 ?_;refine Qac (Qi (Qj (Qaj (sr ?_))));obtain⟨a20,rfl,hb21,he22⟩:=q11 (by omega);refine wv (vix 1 k14 Qo Qg) ?_;refine wv (fun W hm=>Qbe Qu rfl rfl ((hm.cell0 (show(a20.add (k14*1)).block<w.heap.size from by rw[Qao];exact hb21.1)).trans (Qen he22 k14 (by omega)))) ?_;refine wa (nt' (sr ?_));refine wv (fun W hm=>Qab (cs:=K1) Qbt Qbk rfl rfl (hm.boxCells (n:=0) rfl)) ?_;refine wm ?_;refine wcv (Qs Qtt rfl) (fun W hm=>Quk W _ x0 (gt x1 k14) (Qif (x:=x0) (hm.rdS0 r7))) ?_;refine nt' ?_;rcases bd (Qgw x0 (gt x1 k14)) with g24|g24
  ·refine Qr rfl g24 ?_;refine sr (wa (nt' (Qm (Qak (Ql (Ql (Qak (Ql ?_))))))));exact rtb (h:=Qbw (nr hF16 (Qc g24 (rfl))) rfl)
  refine Qx rfl g24 ?_;refine Qac (Qar (Qi (Qae ?_)));refine wv (Qbc k14 1 (by omega)) ?_;refine wm (Qai ?_);exact Qax (k14+1,(),()) sl4 idM ⟨(by omega),nx hF16 (Qe g24 (rfl)),trivial⟩ rl
 refine Qx rfl g19 ?_;refine Qbm (Qag (Qag ?_));have hE26:=Qbx hl18 hF16;refine Qbn (Qi (sr ?_));refine wv (vf Qbt rfl Qg) ?_;refine wv (vl 0 3 Qu) ?_;refine wv (fun W hm=>Qde rfl rfl) ?_;refine wa (nt' (Qm ?_));exact rtb (h:=Qbd hE26 (rfl))
def Qze (x0:Qaa) (k12:Nat) (k39:Nat) (d40:(List Qw)):Qaa⊕((List Qw)):=
 Sum.inr (d40++[(⟨(gt (gt x0.c k12) k39).Id,((gt (gt x0.c k12) k39).m),(gt (gt x0.c k12) k39).x,(gt (gt x0.c k12) k39).y⟩:Qw)])
def Qur (x0:Qaa) (k12:Nat) (d15:(List (List Qw))):Qaa⊕((List (List Qw))):=
 Sum.elim Sum.inl (fun(s:(List Qw))=>Sum.inr (d15++[s])) (rng (R:=Qaa) (fun k (s:(List Qw))=>Qze x0 k12 k s) (((gt x0.c k12)).length-0) 0 [])
def Qus (x0:Qaa):Qaa:=
 Sum.elim id (fun(s:(List (List Qw)))=>(⟨s,x0.f⟩:Qaa)) (rng (R:=Qaa) (fun k (s:(List (List Qw)))=>Qur x0 k s) (x0.c.length-0) 0 [])
theorem Qxu:Cb Tryz.prog 138:=⟨f138,_,func138,rfl,by decide⟩
theorem Qasl (w:World) (z0:List Value) (x0:Qaa) (r_0:Qcw.rd w w.heap.size z0 x0) (s_0:Qhg 68719476736 x0):
 Calls Tryz.prog 138 #[.agg z0.toArray] w (rO w Qcw (Qus x0)):=by
 obtain⟨v1,rfl,r2⟩:=Qja r_0;obtain⟨m3,A4,c5,rfl,q6,r7⟩:=Qn r2;have l8:x0.c.length≤68719476736:=s_0.1;refine ce1 (L:=[(0, .agg #[.slice A4 x0.c.length c5,iV x0.f])]) (N:=48) func138 ?_;refine sr ?_;refine Qcj rfl (Qf rfl) (by decide) (fun p9=>?_);refine Qbo Qat rfl (Qf rfl) (by decide) (fun p10=>?_);refine nt' (sr ?_);refine wv (vf Qau rfl Qg) ?_;refine wv (vl 1 1 Qu) ?_;refine wv (fun W hm=>Qcz (cs:=[.slice none 0 0,iV x0.f]) rfl (by kernel_rfl)) ?_;refine Qbo Qat rfl (Qf rfl) (by decide) (fun p11=>?_);let I3:It:=Qb p9 34 [.slice A4 x0.c.length c5,iV x0.f];refine sb 0 [.slice none 0 0,iV x0.f] [Qb p10 34 [.slice none 0 0,iV 0],I3] idM Qat ?_;refine nt' (Qj (sr ?_));refine wv (vf Qau rfl Qdh) ?_;refine wv (vl 2 0 Qbj) ?_;refine wv (Qan Qbj) ?_;refine wm (nt' (Qaj ?_));refine Qdb (fun W hm=>(hm.addNil (E:=(tSl Qy 163)) (e:=100)).last) ?_;refine Qbv (S:=(List (List Qw))) (R:=Option Addr×Nat) (fun k (s:(List (List Qw)))=>Qur x0 k s) x0.c.length 0 [] (none,0) (fun s=>[(2,bp p10),(3,bp p11),(13, .slice A4 x0.c.length c5),(14,nI x0.c.length),(15,nI s.1)]) (fun s=>[Qb p11 34 [.slice s.2.2.1 s.2.1.length s.2.2.2,iV x0.f],Qb p10 34 [.slice none 0 0,iV 0],I3,iS (tSl Qy 163) 100 s.2.2.1 s.2.2.2 s.2.1]) (fun s=>s.2.1.length≤0+s.1) sl5 (Nat.le_refl _) ?_;rintro⟨k12,d15,⟨A16,c17⟩⟩ H20 _ _ e e';dsimp only at H20 ⊢;subst e e';obtain⟨hk18,hF19,hi21⟩:=H20;refine sr ?_;refine wv Qbq ?_;refine nt' (Qj ?_);rcases dcl k12 x0.c.length with⟨hl22,g23⟩|⟨hl22,g23⟩
 ·refine Qr rfl g23 ?_;refine Qac (Qi (Qj (Qaj (sr ?_))));obtain⟨a24,rfl,hb25,he26⟩:=q6 (by omega);refine wv (vix 1 k12 Qbj Qek) ?_;obtain⟨_,e28,hc27⟩:=he26 k12 _ (Qch (show k12<x0.c.length from by omega));have l29:(gt x0.c k12).length≤68719476736:=(s_0.2 _ (Qav (show k12<x0.c.length from by omega))).1;obtain⟨v30,rfl,r31⟩:=e28;obtain⟨m32,A33,c34,rfl,q35,r36⟩:=Qn r31;refine wv (fun W hm=>Qbe Qbp rfl rfl ((hm.cell0 (show(a24.add (k12*1)).block<w.heap.size from by rw[Qao];exact hb25.1)).trans (hc27 0 _ rfl))) ?_;refine wa (nt' (sr ?_));refine Qcl (E:=Qy) Qbp Qbk (Qf rfl) (by decide) (fun p37=>?_);refine wa (nt' (Qj (sr (wm ?_))));refine wv (Qan Qbp) ?_;refine wm (nt' (Qaj ?_));let I4:It:=Qb p11 34 [.slice A16 d15.length c17,iV x0.f];let I5:It:=Qb p9 34 [.slice (some a24) x0.c.length c5,iV x0.f];let J6:List It:=[I4,Qb p10 34 [.slice none 0 0,iV 0],I5,iS (tSl Qy 163) 100 A16 c17 d15];refine Qbv (S:=(List Qw)) (R:=Option Addr×Nat) (fun k (s:(List Qw))=>Qze x0 k12 k s) (((gt x0.c k12)).length) 0 [] ((sA p37),0) (fun s=>[(2,bp p10),(3,bp p11),(6, .slice s.2.2.1 s.2.1.length s.2.2.2),(13, .slice (some a24) x0.c.length c5),(14,nI x0.c.length),(15,nI k12),(20, .slice A33 ((gt x0.c k12)).length c34),(21,nI (((gt x0.c k12)).length)),(22,nI s.1)]) (fun s=>(iS Qy 163 s.2.2.1 s.2.2.2 s.2.1::J6)) (fun s=>s.2.1.length≤0+s.1) sl9 (Nat.le_refl _) ?_;rintro⟨k39,d40,⟨A41,c42⟩⟩ H45 _ _ e e';dsimp only at H45 ⊢;subst e e';obtain⟨hk43,hF44,hi46⟩:=H45;refine sr ?_;refine wv Qbq ?_;refine nt' (Qj ?_);rcases dcl k39 (((gt x0.c k12)).length) with⟨hl47,g48⟩|⟨hl47,g48⟩
  ·refine Qr rfl g48 ?_;refine Qac (Qi (Qj (Qaj (sr ?_))));obtain⟨a49,rfl,hb50,he51⟩:=q35 (by omega);refine wv (vix 4 k39 Qbp Qbk) ?_;obtain⟨_,e55,hc52⟩:=he51 k39 _ (Qch (show k39<((gt x0.c k12)).length from by omega));obtain⟨v53,rfl,r54⟩:=Qhz e55;have l56:((gt (gt x0.c k12) k39).m).length≤68719476736:=((s_0.2 _ (Qav (show k12<x0.c.length from by omega))).2 _ (Qav (show k39<((gt x0.c k12)).length from by omega)));obtain⟨m57,A58,c59,rfl,q60,r61⟩:=Qn r54;let K1:List Value:=[iV ((gt (gt x0.c k12) k39).Id), .slice A58 ((gt (gt x0.c k12) k39).m).length c59,iV ((gt (gt x0.c k12) k39).x),iV ((gt (gt x0.c k12) k39).y)];refine wv (fun W hm=>Qab (cs:=K1) Qbt Qbk rfl rfl (hm.elCells (show(a49.add (k39*4)).block<w.heap.size from by rw[Qao];exact hb50.1) hc52)) ?_;refine Qbo Qbk rfl (Qf rfl) (by decide) (fun p62=>?_);refine sb 0 K1 (iS Qy 163 A41 c42 d40::J6) idM Qbk ?_;refine nt' ?_;refine rb 14 (s:=(Qb p62 163 K1::J6)) (pk [0,2,3,4,5]) ?_;refine qt 14 0 1 rfl vmv ?_;refine qt 14 1 3 rfl (vf Qbt rfl Qg) ?_;refine qt 14 2 7 rfl (vl 0 0 Qu) ?_;refine qt 14 3 15 rfl (vf Qbt rfl Qbf) ?_;refine qt 14 4 31 rfl (vl 0 1 Qo) ?_;refine qt 14 6 95 rfl (vf Qbt rfl Qg) ?_;refine qt 14 7 223 rfl (vl 0 2 Qu) ?_;refine qt 14 8 479 rfl (vf Qbt rfl Qg) ?_;refine qt 14 9 991 rfl (vl 0 3 Qu) ?_;refine qo 14 5 1023 rfl ?_;refine wcl (tSl Qa 3) ((gt (gt x0.c k12) k39).m) (Qs Qle rfl) (fun W hm=>Qlg W _ ((gt (gt x0.c k12) k39).m) (hm.rdS0 r61) ((s_0.2 _ (Qav (show k12<x0.c.length from by omega))).2 _ (Qav (show k39<((gt x0.c k12)).length from by omega)))) (fun z63=>?_);refine fm 0 ?_;rintro A64 c65 rfl m66;refine qn (pk [1,3,4,5,6]) ?_;let K2:List Value:=[iV ((gt (gt x0.c k12) k39).Id), .slice A64 ((gt (gt x0.c k12) k39).m).length c65,iV ((gt (gt x0.c k12) k39).x),iV ((gt (gt x0.c k12) k39).y)];refine qt 14 10 2047 rfl (fun W hm=>Qcz (cs:=K2) rfl (by kernel_rfl)) ?_;refine qo 14 11 4095 rfl ?_;refine Qcf (cs:=K2) Qbp Qbk rfl (by decide) (by decide) rfl (by kernel_rfl) (Qf rfl) (by decide) (fun p68=>?_);refine qn (pk [2,4,5,6,7]) ?_;refine qo 14 12 8191 rfl ?_;refine ap1 Qy 163 (.slice A41 d40.length c42) d40 (⟨(gt (gt x0.c k12) k39).Id,((gt (gt x0.c k12) k39).m),(gt (gt x0.c k12) k39).x,(gt (gt x0.c k12) k39).y⟩:Qw) [iS Qa 3 A64 c65 ((gt (gt x0.c k12) k39).m)] (Qb p62 163 K1::J6) K2 (pk [0,3,1,2,4,5,6,7]) (fun _ _ hs=>Els.single (Qjb (x:=(⟨(gt (gt x0.c k12) k39).Id,((gt (gt x0.c k12) k39).m),(gt (gt x0.c k12) k39).x,(gt (gt x0.c k12) k39).y⟩:Qw)) hs)) Qbp Qbk (show(d40.length+1)*48≤140737488355328 from by omega) (fun v69=>?_);refine fm 0 ?_;rintro A70 c71 rfl m72;refine qn (pk [1,2,3,4,5]) ?_;refine qt 14 13 16383 rfl (fun W hm=>Qiv rfl) ?_;refine Qdn (by kernel_rfl) ?_;refine Qar (Qi (Qae ?_));refine wv (Qbc k39 1 (by omega)) ?_;refine wm (Qai ?_);exact Qax (k39+1,(d40++[(⟨(gt (gt x0.c k12) k39).Id,((gt (gt x0.c k12) k39).m),(gt (gt x0.c k12) k39).x,(gt (gt x0.c k12) k39).y⟩:Qw)]),(A70,c71)) sl9 (pk [0,2,3,4,5]) ⟨(by omega),nx hF44 (rfl),(show(d40++[(⟨(gt (gt x0.c k12) k39).Id,((gt (gt x0.c k12) k39).m),(gt (gt x0.c k12) k39).x,(gt (gt x0.c k12) k39).y⟩:Qw)]).length≤0+(k39+1) from by first|omega|(simp only[List.length_append,List.length_cons,List.length_nil] at *;omega))⟩ (show((gt x0.c k12)).length-(k39+1)<((gt x0.c k12)).length-k39 from by omega)
  refine Qx rfl g48 ?_;refine Qbm (Qag (Qag ?_));have hE75:=Qbx hl47 hF44;refine Qbn (Qi (Qae ?_));refine wv (vf Qau rfl Qdh) ?_;refine wv (vl 1 0 Qbj) ?_;refine wm ?_;refine Qcf (cs:=[.slice A41 d40.length c42]) Qbj Qek rfl (by decide) (by decide) rfl (by kernel_rfl) (Qf rfl) (by decide) (fun p76=>?_);refine ap1 (tSl Qy 163) 100 (.slice A16 d15.length c17) d15 d40 [iS Qy 163 A41 c42 d40] [I4,Qb p10 34 [.slice none 0 0,iV 0],I5] [.slice A41 d40.length c42] (pk [0,5,1,2,3,4]) (fun _ _ hs=>Els.single (Sep.one hs)) Qbj Qek (show(d15.length+1)*24≤140737488355328 from by omega) (fun v77=>?_);refine fm 0 ?_;rintro A78 c79 rfl m80;refine wv (vf Qau rfl Qdh) ?_;refine sb 0 [.slice A78 (d15++[d40]).length c79,iV x0.f] [iS (tSl Qy 163) 100 A78 c79 (d15++[d40]),Qb p10 34 [.slice none 0 0,iV 0],I5] (pk [1,0,2,3]) Qdh ?_;refine Qai (Qar (Qi (Qae ?_)));refine wv (Qbc k12 1 (by omega)) ?_;refine wm (Qai ?_);exact Qax (k12+1,(d15++[d40]),(A78,c79)) sl5 (pk [0,2,3,1]) ⟨(by omega),nx hF19 (Qbd hE75 (rfl)),(show(d15++[d40]).length≤0+(k12+1) from by first|omega|(simp only[List.length_append,List.length_cons,List.length_nil] at *;omega))⟩ rl
 refine Qx rfl g23 ?_;refine Qbm (Qag (Qag ?_));have hE83:=Qbx hl22 hF19;refine Qbn (Qi (sr ?_));refine wv (fun W hm=>Qab (cs:=[.slice A16 d15.length c17,iV x0.f]) Qau Qat rfl rfl (hm.boxCells (n:=0) rfl)) ?_;refine sb 0 [.slice A16 d15.length c17,iV x0.f] [Qb p11 34 [.slice A16 d15.length c17,iV x0.f],I3,iS (tSl Qy 163) 100 A16 c17 d15] (pk [1,0,2,3]) Qat ?_;refine nt' (Qm ?_);have he84:=(show Qus x0=(⟨d15,x0.f⟩:Qaa) from Qbd hE83 (rfl));refine Qcy rfl (Qck (n:=0) rfl rfl Qau Qat rfl) (fun W hm=>⟨[.slice A16 d15.length c17,iV x0.f],?_,?_⟩)
 ·first|rw[he84]|rfl
 rw[he84];exact Mem.join (is:=[iS (tSl Qy 163) 100 A16 c17 d15]) (js:=[]) (fun _ _ hs=>Qfk (x:=(⟨d15,x0.f⟩:Qaa)) hs) (hm.pick [3] (by decide))
theorem Qasm (x0:Qaa):Qus x0=x0:=by
 unfold Qus;rw[Qkf (xs:=x0.c) (b:=fun k s=>Qur x0 k s) (fun j s=>by unfold Qur;rw[Qkf (xs:=gt x0.c j) (b:=fun k s=>Qze x0 j k s) (fun _ _=>rfl)];rfl)];rfl
theorem Qzf (w:World) (z0:List Value) (x0:Qaa) (r_0:Qcw.rd w w.heap.size z0 x0) (s_0:Qhg 68719476736 x0):
 Calls Tryz.prog 138 #[.agg z0.toArray] w (rO w Qcw x0):=by
 have h:=Qasl w z0 x0 r_0 s_0;rw[Qasm] at h;exact h
end Go.Proofs.YtdlminfjdodjoaaGreat
