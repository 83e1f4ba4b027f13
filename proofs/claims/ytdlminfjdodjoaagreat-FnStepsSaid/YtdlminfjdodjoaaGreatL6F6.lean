/-
  Contracts of functions,printed by a program of ours.
-/
import Derived.Test.YtdlminfjdodjoaaGreatL6F5
namespace Go.Proofs.YtdlminfjdodjoaaGreat
open Go.RowKit
set_option maxRecDepth 100000
set_option maxHeartbeats 4000000
open _root_.Go.Proofs.Tryz
def Qyi (x0:Qaa) (k9:Nat) (s10:Int):Int⊕(Int):=
 Sum.inr (IntKind.i64.wrap (s10+((((gt x0.c k9)).length:Nat):Int)))
def Qnt (x0:Qaa):Int:=
 Sum.elim id (fun(s:Int)=>s) (rng (R:=Int) (fun k (s:Int)=>Qyi x0 k s) (x0.c.length-0) 0 0)
theorem Qaed:Cb Tryz.prog 197:=⟨f197,_,func197,rfl,by decide⟩
theorem Qafo (w:World) (z0:List Value) (x0:Qaa) (r_0:Qcw.rd w w.heap.size z0 x0):
 Calls Tryz.prog 197 #[.agg z0.toArray] w (rI w (Qnt x0)):=by
 obtain⟨v1,rfl,r2⟩:=Qja r_0;obtain⟨m3,A4,c5,rfl,q6,r7⟩:=Qn r2;refine ce1 (L:=[(0, .agg #[.slice A4 x0.c.length c5,iV x0.f])]) (N:=19) func197 ?_;refine sr ?_;refine Qcj rfl (Qf rfl) (by decide) (fun p8=>?_);refine wa (nt' (sr (wa (nt' (Qj (sr ?_))))));refine wv (vf Qau rfl Qdh) ?_;refine wv (vl 0 0 Qbj) ?_;refine wv (Qan Qbj) ?_;refine wm (nt' (Qaj ?_));refine Qbv (S:=Int) (R:=Unit) (fun k (s:Int)=>Qyi x0 k s) x0.c.length 0 0 () (fun s=>[(3,iV s.2.1),(7, .slice A4 x0.c.length c5),(8,nI x0.c.length),(9,nI s.1)]) (fun s=>[Qb p8 34 [.slice A4 x0.c.length c5,iV x0.f]]) (fun s=>True) sl4 trivial ?_;rintro⟨k9,s10,⟨⟩⟩ H13 _ _ e e';dsimp only at H13 ⊢;subst e e';obtain⟨hk11,hF12,_⟩:=H13;refine sr ?_;refine wv Qbq ?_;refine nt' (Qj ?_);rcases dcl k9 x0.c.length with⟨hl14,g15⟩|⟨hl14,g15⟩
 ·refine Qr rfl g15 ?_;refine Qac (Qi (Qj (Qaj (sr ?_))));obtain⟨a16,rfl,hb17,he18⟩:=q6 (by omega);refine wv (vix 1 k9 Qbj Qek) ?_;obtain⟨_,e20,hc19⟩:=he18 k9 _ (Qch (show k9<x0.c.length from by omega));obtain⟨v21,rfl,r22⟩:=e20;obtain⟨m23,A24,c25,rfl,q26,r27⟩:=Qn r22;refine wv (fun W hm=>Qbe Qbp rfl rfl ((hm.cell0 (show(a16.add (k9*1)).block<w.heap.size from by rw[Qao];exact hb17.1)).trans (hc19 0 _ rfl))) ?_;refine wa (nt' (Qae (wm (wm ?_))));refine wv (Qan Qbp) ?_;refine wv Qfe ?_;refine wa (Qai (Qar (Qi (Qae ?_))));refine wv (Qbc k9 1 (by omega)) ?_;refine wm (Qai ?_);exact Qax (k9+1,(IntKind.i64.wrap (s10+((((gt x0.c k9)).length:Nat):Int))),()) sl4 idM ⟨(by omega),nx hF12 (rfl),trivial⟩ rl
 refine Qx rfl g15 ?_;refine Qbm (Qag (Qag ?_));have hE29:=Qbx hl14 hF12;refine Qbn (Qi (sr (wm (wa (nt' (Qm ?_))))));exact rti (h:=Qbd hE29 (rfl))
def Qyq (x1:(List Int)) (k26:Nat) (d27:(List (List Qw))) (k43:Nat) (d44:(List Qw)):(Qaa×Int)⊕((List Qw)):=
 cond (Qrz (gt (gt d27 k26) k43) x1) (Sum.inr (d44++[(gt (gt d27 k26) k43)])) (Sum.inr d44)
def Qul (x1:(List Int)) (k26:Nat) (d27:(List (List Qw))):(Qaa×Int)⊕((List (List Qw))):=
 Sum.elim Sum.inl (fun(s:(List Qw))=>Sum.inr (d27.set k26 s)) (rng (R:=(Qaa×Int)) (fun k (s:(List Qw))=>Qyq x1 k26 d27 k s) ((gt d27 k26).length-0) 0 [])
def Qio (x0:Qaa) (x1:(List Int)):(Qaa×Int):=
 cond (Qlu x0) (Sum.elim id (fun(s:(List (List Qw)))=>((⟨s,x0.f⟩:Qaa),(IntKind.i64.wrap ((Qnt x0)-(Qnt (⟨s,x0.f⟩:Qaa)))))) (rng (R:=(Qaa×Int)) (fun k (s:(List (List Qw)))=>Qul x1 k s) (x0.c.length-0) 0 x0.c)) (x0,0)
theorem Qaoe:Cb Tryz.prog 145:=⟨f145,_,func145,rfl,by decide⟩
theorem Qarg (w:World) (z0:List Value) (x0:Qaa) (z1:Value) (x1:(List Int)) (r_0:Qcw.rd w w.heap.size z0 x0) (r_1:rdS Qa w w.heap.size z1 x1) (s_0:Qhg 68719476736 x0) (s_1:x1.length≤68719476736):
 Calls Tryz.prog 145 #[.agg z0.toArray,z1] w fun e w'=>∃ v:List Value,e= .returned (.tuple #[.agg v.toArray,iV ((Qio x0 x1).2)])∧Mem w.heap.size w [Qh Qcw v (Qio x0 x1).1] w':=by
 obtain⟨v1,rfl,r2⟩:=Qja r_0;obtain⟨m3,A4,c5,rfl,q6,r7⟩:=Qn r2;obtain⟨m8,A9,c10,rfl,q11,r12⟩:=Qn r_1;have l13:x0.c.length≤68719476736:=s_0.1;have l14:x1.length≤68719476736:=s_1;refine ce2 (L:=[(0, .agg #[.slice A4 x0.c.length c5,iV x0.f]),(1, .slice A9 x1.length c10)]) (N:=53) func145 ?_;refine sr ?_;refine Qcj rfl (Qf rfl) (by decide) (fun p15=>?_);refine Qbo Qat rfl (Qf rfl) (by decide) (fun p16=>?_);refine wa (nt' (sr ?_));refine wv (fun W hm=>Qab (cs:=[.slice A4 x0.c.length c5,iV x0.f]) Qau Qat rfl rfl (hm.boxCells (n:=1) rfl)) ?_;refine wcs Qcw x0 (Qs Qxu rfl) (fun W hm=>Qzf W _ x0 (Qft (x:=x0) (hm.rdS0 r7)) s_0) (fun z17=>?_);refine Qhx ?_;rintro v18 rfl;refine fm 0 ?_;rintro A19 c20 rfl m21;refine Qbo Qat rfl (Qf rfl) (by decide) (fun p23=>?_);let I3:It:=iS (tSl Qy 163) 100 A19 c20 x0.c;let I4:It:=Qb p15 34 [.slice A4 x0.c.length c5,iV x0.f];let J10:List It:=[Qb p16 34 [.slice none 0 0,iV 0],I4];refine sb 0 [.slice A19 x0.c.length c20,iV x0.f] (I3::J10) idM Qat ?_;refine nt' (Qj (sr ?_));refine wv (fun W hm=>Qab (cs:=[.slice A4 x0.c.length c5,iV x0.f]) Qau Qat rfl rfl (hm.boxCells (n:=3) rfl)) ?_;refine wcv (Qs Qads rfl) (fun W hm=>Qafq W _ x0 (Qft (x:=x0) (hm.rdS0 r7)) s_0) ?_;refine wv Qbs ?_;refine nt' ?_;rcases bd (Qlu x0) with g25|g25
 ·refine Qx rfl (nt g25) ?_;refine Qac (Qi (Qj (sr ?_)));refine wv (vf Qau rfl Qdh) ?_;refine wv (vl 0 0 Qbj) ?_;refine wv (Qan Qbj) ?_;refine wm (nt' (Qaj ?_));let I5:It:=Qb p23 34 [.slice A19 x0.c.length c20,iV x0.f];refine Qbv (S:=(List (List Qw))) (R:=Unit) (fun k (s:(List (List Qw)))=>Qul x1 k s) x0.c.length 0 x0.c () (fun s=>[(1, .slice A9 x1.length c10),(2,bp p15),(4,bp p16),(6,bp p23),(19, .slice A19 x0.c.length c20),(20,nI x0.c.length),(21,nI s.1)]) (fun s=>(I5::Qh (tSl (tSl Qy 163) 100) [.slice A19 x0.c.length c20] s.2.1::J10)) (fun s=>∀ j,s.1≤j→gt s.2.1 j=gt x0.c j) sl7 (fun _ _=>rfl) ?_;rintro⟨k26,d27,⟨⟩⟩ H30 _ _ e e';dsimp only at H30 ⊢;subst e e';obtain⟨hk28,hF29,hi31⟩:=H30;refine sr ?_;refine wv Qbq ?_;refine nt' (Qj ?_);rcases dcl k26 x0.c.length with⟨hl32,g33⟩|⟨hl32,g33⟩
  ·have hq1:(gt d27 k26).length≤68719476736:=by rw[hi31 k26 (Nat.le_refl _)];exact(s_0.2 _ (Qav (by omega))).1
   refine Qr rfl g33 ?_;refine Qac (Qi (Qj (Qaj (sr (wm ?_)))));refine Qij (n:=1) rfl (by omega) ?_;rintro g34 rfl;refine wv (vix 1 k26 Qbj Qek) ?_;let K1:List Value:=[.slice (sA g34) x0.c.length c20,iV x0.f];let J11:List It:=Qb p23 34 K1::J10;refine Qld (E:=(tSl Qy 163)) (e:=100) (A:=(sA g34)) (n:=x0.c.length) (c:=c20) (xs:=d27) (k:=k26) (js:=J11) (by omega) (pk [1,0,2,3]) (fun ck35=>?_);refine Qjd (γ:=Value) (js:=fun g=>[Qh (tSl Qy 163) [g] (gt d27 k26)]) (C:=fun g=>ck35=[g]) (fun _ _ h=>Qlz h) ?_;rintro v36 rfl;refine fm 0 ?_;rintro A37 c38 rfl m39;refine wv (fun W hm=>Qbe Qbp rfl rfl (hm.focInt (i:=1) rfl rfl)) ?_;refine wa (wa (nt' (sr ?_)));refine Qcl (E:=Qy) Qbp Qbk (Qf rfl) (by decide) (fun p41=>?_);refine wa (nt' (Qj (sr (wm ?_))));refine wv (Qan Qbp) ?_;refine wm (nt' (Qaj ?_));refine Qdb (fun W hm=>Mem.toRest (hm.pick [1,0,2,3,4,5] (by decide))) ?_;refine Qbv (S:=(List Qw)) (R:=Option Addr×Nat) (fun k (s:(List Qw))=>Qyq x1 k26 d27 k s) ((gt d27 k26).length) 0 [] ((sA p41),0) (fun s=>[(1, .slice A9 x1.length c10),(2,bp p15),(4,bp p16),(6,bp p23),(7,nI k26),(9, .slice s.2.2.1 s.2.1.length s.2.2.2),(19, .slice (sA g34) x0.c.length c20),(20,nI x0.c.length),(21,nI k26),(27, .slice A37 (gt d27 k26).length c38),(28,nI ((gt d27 k26).length)),(29,nI s.1)]) (fun s=>(Qiu Qy 163 A37 ((gt d27 k26).length) (gt d27 k26) s.1::iS Qy 163 s.2.2.1 s.2.2.2 s.2.1::Qcu (tSl Qy 163) 100 (sA g34) x0.c.length c20 d27 k26 [.slice A37 (gt d27 k26).length c38]::J11)) (fun s=>s.2.1.length≤0+s.1) Qku (Nat.le_refl _) ?_;rintro⟨k43,d44,⟨A45,c46⟩⟩ H49 _ _ e e';dsimp only at H49 ⊢;subst e e';obtain⟨hk47,hF48,hi50⟩:=H49;refine sr ?_;refine wv Qbq ?_;refine nt' (Qj ?_);rcases dcl k43 ((gt d27 k26).length) with⟨hl51,g52⟩|⟨hl51,g52⟩
   ·refine Qr rfl g52 ?_;refine Qac (Qi (Qj (Qaj (sr ?_))));refine Qrg (n:=0) rfl (by omega) ?_;rintro g53 rfl;refine wv (vix 4 k43 Qbp Qbk) ?_;let I6:It:=Qcu (tSl Qy 163) 100 (sA g34) x0.c.length c20 d27 k26 [.slice (sA g53) (gt d27 k26).length c38];refine Qrh (E:=Qy) (e:=163) (A:=(sA g53)) (n:=(gt d27 k26).length) (xs:=(gt d27 k26)) (k:=k43) (js:=(iS Qy 163 A45 c46 d44::I6::J11)) (by omega) idM (fun ck54=>?_);refine Qti ?_;rintro v55 rfl;refine fm 0 ?_;rintro A56 c57 rfl m58;let K2:List Value:=[iV ((gt (gt d27 k26) k43).Id), .slice A56 ((gt (gt d27 k26) k43).m).length c57,iV ((gt (gt d27 k26) k43).x),iV ((gt (gt d27 k26) k43).y)];refine wv (fun W hm=>Qab (cs:=K2) Qbt Qbk rfl rfl (hm.restCells (i:=1) rfl rfl)) ?_;refine Qbo Qbk rfl (Qf rfl) (by decide) (fun p60=>?_);let I7:It:=Qjv Qy 163 (sA g53) ((gt d27 k26).length) (gt d27 k26) k43 K2;refine sb 0 K2 (iS Qa 3 A56 c57 ((gt (gt d27 k26) k43).m)::I7::iS Qy 163 A45 c46 d44::I6::J11) idM Qbk ?_;refine nt' (sr ?_);refine wv (fun W hm=>Qab (cs:=K2) Qbt Qbk rfl rfl (hm.boxCells (n:=0) rfl)) ?_;refine wm ?_;refine wcv (Qs Qaoz rfl) (fun W hm=>Qaso W _ (gt (gt d27 k26) k43) _ x1 (Qif (x:=(gt (gt d27 k26) k43)) (hm.rdSI (n:=1) rfl)) (hm.rdS0 r12)) ?_;refine nt' ?_;rcases bd (Qrz (gt (gt d27 k26) k43) x1) with g62|g62
    ·refine Qr rfl g62 ?_;refine Qae (wm ?_);refine wv (fun W hm=>Qab (cs:=K2) Qbt Qbk rfl rfl (hm.boxCells (n:=0) rfl)) ?_;refine Qcf (cs:=K2) Qbp Qbk rfl (by decide) (by decide) rfl (by kernel_rfl) (Qf rfl) (by decide) (fun p63=>?_);refine ap1 Qy 163 (.slice A45 d44.length c46) d44 (gt (gt d27 k26) k43) [iS Qa 3 A56 c57 ((gt (gt d27 k26) k43).m)] (Qb p60 163 K2::I7::I6::J11) K2 (pk [0,4,2,1,3,5,6,7,8]) (fun _ _ hs=>Els.single (Qjb (x:=(gt (gt d27 k26) k43)) hs)) Qbp Qbk (show(d44.length+1)*48≤140737488355328 from by omega) (fun v64=>?_);refine fm 0 ?_;rintro A65 c66 rfl m67;refine wa (Qai (Qar (Qi (Qae ?_))));refine wv (Qbc k43 1 (by omega)) ?_;refine wm (Qai ?_);refine Qbh (fun W hm=>Mem.restNext (hm.pick [2,0,1,3,4,5,6] (by decide))) ?_;exact Qax (k43+1,(d44++[(gt (gt d27 k26) k43)]),(A65,c66)) Qku (pk [0,1,3,4,5,6]) ⟨(by omega),nx hF48 (Qc g62 (rfl)),(show(d44++[(gt (gt d27 k26) k43)]).length≤0+(k43+1) from by first|omega|(simp only[List.length_append,List.length_cons,List.length_nil] at *;omega))⟩ (show(gt d27 k26).length-(k43+1)<(gt d27 k26).length-k43 from by omega)
    refine Qx rfl g62 ?_;refine Qac (Qar (Qi (Qae ?_)));refine wv (Qbc k43 1 (by omega)) ?_;refine wm (Qai ?_);refine Qbh (fun W hm=>Mem.restNext (hm.pick [2,0,1,3,4,5,6,7] (by decide))) ?_;exact Qax (k43+1,d44,(A45,c46)) Qku (pk [0,3,4,5,6,7]) ⟨(by omega),nx hF48 (Qe g62 (rfl)),(show d44.length≤0+(k43+1) from by first|omega|(simp only[List.length_append,List.length_cons,List.length_nil] at *;omega))⟩ (show(gt d27 k26).length-(k43+1)<(gt d27 k26).length-k43 from by omega)
   refine Qx rfl g52 ?_;refine Qbm (Qag (Qag ?_));have hE71:=Qbx hl51 hF48;refine Qbn (Qi (Qae ?_));refine wv (vf Qau rfl Qdh) ?_;refine wv (vl 3 0 Qbj) ?_;refine wm (wm ?_);refine wv (vix 1 k26 Qbj Qek) ?_;let I8:It:=Qiu Qy 163 A37 ((gt d27 k26).length) (gt d27 k26) k43;refine sf 0 1 [.slice A45 d44.length c46] (I8::iS Qy 163 A45 c46 d44::J11) (pk [2,0,1,3,4,5]) Qek ?_;refine Qai (Qar (Qi (Qae ?_)));refine wv (Qbc k26 1 (by omega)) ?_;refine wm (Qai ?_);refine Qbh (fun W hm=>Mem.unfocus (Mem.join (is:=[iS Qy 163 A45 c46 d44]) (js:=(Qcu (tSl Qy 163) 100 (sA g34) x0.c.length c20 d27 k26 [.slice A45 d44.length c46]::(I8::J11))) (fun _ _ hs=>Sep.one hs) (hm.pick [2,0,1,3,4,5] (by decide)))) ?_;exact Qax (k26+1,(d27.set k26 d44),()) sl7 (pk [2,0,3,4]) ⟨(by omega),nx hF29 (Qbd hE71 (rfl)),(show ∀ j,(k26+1)≤j→gt (d27.set k26 d44) j=gt x0.c j from by intro j hj;rw[Qrs (by omega)];exact hi31 j (by omega))⟩ rl
  refine Qx rfl g33 ?_;refine Qbm (Qag (Qag ?_));have hE73:=Qbx hl32 hF29;refine Qbn (Qi (Qj ?_));let I9:It:=Qh (tSl (tSl Qy 163) 100) [.slice A19 x0.c.length c20] d27;refine rb 8 (s:=[I5,I9,I4]) (pk [0,1,3]) ?_;refine qt 8 0 1 rfl (fun W hm=>Qab (cs:=[.slice A19 x0.c.length c20,iV x0.f]) Qau Qat rfl rfl (hm.boxCells (n:=0) rfl)) ?_;refine qt 8 1 3 rfl (fun W hm=>Qab (cs:=[.slice A4 x0.c.length c5,iV x0.f]) Qau Qat rfl rfl (hm.boxCells (n:=2) rfl)) ?_;refine qt 8 3 11 rfl (fun W hm=>Qab (cs:=[.slice A19 x0.c.length c20,iV x0.f]) Qau Qat rfl rfl (hm.boxCells (n:=0) rfl)) ?_;refine qo 8 2 15 rfl ?_;refine wcv (Qs Qaed rfl) (fun W hm=>Qafo W _ x0 (Qft (x:=x0) (hm.rdS0 r7))) ?_;refine qn (pk [0,1,3]) ?_;refine qo 8 4 31 rfl ?_;refine wcv (Qs Qaed rfl) (fun W hm=>Qafo W _ (⟨d27,x0.f⟩:Qaa) (Qft (x:=(⟨d27,x0.f⟩:Qaa)) (hm.rdSI (n:=1) rfl))) ?_;refine qn (pk [0,1,3]) ?_;refine qt 8 5 63 rfl (fun W hm=>Qjf rfl rfl) ?_;refine qo 8 6 127 rfl ?_;refine sb 0 [.slice A19 x0.c.length c20,iV x0.f] [I5,I9,I4] (pk [2,0,1,3]) Qat ?_;refine qn (pk [1,2,3]) ?_;refine qt 8 7 255 rfl (fun W hm=>Qiv rfl) ?_;refine Qdn (by kernel_rfl) ?_;refine Qi (Qm ?_);have he74:=(show Qio x0 x1=((⟨d27,x0.f⟩:Qaa),(IntKind.i64.wrap ((Qnt x0)-(Qnt (⟨d27,x0.f⟩:Qaa))))) from Qc g25 (Qbd hE73 (rfl)));refine Qdw rfl (Qck (n:=0) rfl rfl Qau Qat rfl) (Qcg rfl) (fun W hm=>⟨[.slice A19 x0.c.length c20,iV x0.f],?_,?_⟩)
  ·first|rw[he74]|rfl
   try rfl
  rw[he74];exact Mem.join (is:=[I9]) (js:=[]) (fun _ _ hs=>Qfk (x:=(⟨d27,x0.f⟩:Qaa)) hs) (hm.pick [2] (by decide))
 refine Qr rfl (nf g25) ?_;refine sr ?_;refine wv (fun W hm=>Qab (cs:=[.slice A19 x0.c.length c20,iV x0.f]) Qau Qat rfl rfl (hm.boxCells (n:=0) rfl)) ?_;refine sb 0 [.slice A19 x0.c.length c20,iV x0.f] [Qb p23 34 [.slice A19 x0.c.length c20,iV x0.f],I3,I4] (pk [2,0,1,3]) Qat ?_;refine wa (nt' (Qm (Ql ?_)));have he75:=(show Qio x0 x1=(x0,0) from Qe g25 (rfl));refine Qdw rfl (Qck (n:=0) rfl rfl Qau Qat rfl) (Qcg rfl) (fun W hm=>⟨[.slice A19 x0.c.length c20,iV x0.f],?_,?_⟩)
 ·first|rw[he75]|rfl
  try rfl
 rw[he75];exact Mem.join (is:=[I3]) (js:=[]) (fun _ _ hs=>Qfk (x:=x0) hs) (hm.pick [2] (by decide))
def Qgq (x:List Int) (v:Qw):Bool:=x.any (fun t=>Qgw v t) || v.y == -1
theorem Qasu (v:Qw) (x:List Int):Qrz v x=Qgq x v:=by
 unfold Qrz Qgq;rw[Qva (p:=fun t=>Qgw v t) (r:=true) (fun j _=>by unfold Qzg;rfl)];cases x.any (fun t=>Qgw v t) <;>rfl
theorem Qaff {α:Type} (p:α→Bool):∀ (xs:List α) (s:Bool),xs.foldl (fun s t=>cond s true (p t)) s=(s || xs.any p)
 | [],s=>by simp
 |x::xs,s=>by
  rw[List.foldl_cons,Qaff p xs];cases s <;>simp
theorem Qarh (x:List Int) (k:Nat) (d:List (List Qw)):Qul x k d= .inr (d.set k ((gt d k).filter (Qgq x))):=by
 unfold Qul;rw[Qis (xs:=gt d k) (f:=fun e v=>cond (Qgq x v) (e++[v]) e) (fun j s _=>by unfold Qyq;rw[Qasu];cases Qgq x (gt (gt d k) j) <;>rfl)];show Sum.inr (d.set k _)=_;rw[Qafc];rfl
def Qer (s:Int) (n:Nat):Int:=IntKind.i64.wrap (s+n)
theorem Qnb (s:Int) (m n:Nat):Qer (Qer s m) n=Qer s (m+n):=by
 unfold Qer;simp only[IntKind.wrap_i64];omega
theorem Qaao (x:List Int):∀ (l:List Qw) (s:Int) (e:List Qw),l.foldl (fun(s:Int×List Qw) v=>cond (Qgq x v) (s.1,s.2++[v]) (IntKind.i64.wrap (s.1+1),s.2)) (Qer s 0,e)=(Qer s (l.length-(l.filter (Qgq x)).length),e++l.filter (Qgq x))
 | [],s,e=>by simp
 |v::l,s,e=>by
  rw[List.foldl_cons];have hl:=List.length_filter_le (Qgq x) l;cases h:Qgq x v with
  |true=>
   rw[cond_true,Qaao x l s (e++[v])];simp[h]
  |false=>
   have e1:(IntKind.i64.wrap (Qer s 0+1))=Qer (Qer s 1) 0:=by
    unfold Qer;simp only[IntKind.wrap_i64];omega
   rw[cond_false];dsimp only;rw[e1,Qaao x l (Qer s 1) e,Qnb];simp only[List.filter_cons,h,List.length_cons]
   congr 2
   simp only[Bool.false_eq_true,if_false];omega
theorem Qawn (x:List Int) (k:Nat) (s:Int) (d:List (List Qw)):Qsr x k (Qer s 0) d= .inr (Qer s ((gt d k).length-((gt d k).filter (Qgq x)).length),d.set k ((gt d k).filter (Qgq x))):=by
 unfold Qsr
 rw[Qis (xs:=gt d k) (f:=fun(s:Int×List Qw) v=>cond (Qgq x v) (s.1,s.2++[v]) (IntKind.i64.wrap (s.1+1),s.2)) (fun j s _=>by
  unfold Qaam;rw[Qis (xs:=x) (f:=fun s t=>cond s true (Qgw (gt (gt d k) j) t)) (fun i s _=>by unfold Qaan;cases s <;>rfl),Qaff];have:((gt (gt d k) j).y == -1 || x.any fun t=>Qgw (gt (gt d k) j) t)=Qgq x (gt (gt d k) j):=by unfold Qgq;rw[Bool.or_comm]
  rw[this];show cond (Qgq x (gt (gt d k) j)) _ _=_
  cases Qgq x (gt (gt d k) j) <;>rfl),Qaao]
 rfl
theorem Qaum {R:Type} (xs:List (List Qw)) (b:Nat→Int→R⊕Int) (hb:∀ j s,b j s= .inr (IntKind.i64.wrap (s+((gt xs j).length:Nat)))):rng b (xs.length-0) 0 0= .inr (Qer 0 (xs.map List.length).sum):=by
 have h:∀ (l:List (List Qw)) (s:Int),l.foldl (fun(s:Int) v=>IntKind.i64.wrap (s+(v.length:Nat))) (Qer s 0)=Qer s (l.map List.length).sum:=by
  intro l
  induction l with
  |nil=>intro s;rfl
  |cons v l ih=>
   intro s;have e1:IntKind.i64.wrap (Qer s 0+(v.length:Nat))=Qer (Qer s v.length) 0:=by
    unfold Qer;simp only[IntKind.wrap_i64];omega
   rw[List.foldl_cons,e1,ih,Qnb];simp
 rw[Qis (xs:=xs) (f:=fun(s:Int) v=>IntKind.i64.wrap (s+(v.length:Nat))) (fun j s _=>hb j s)];exact congrArg Sum.inr (h xs 0)
theorem Qaby (x:Qaa):Qnt x=Qer 0 (x.c.map List.length).sum:=by
 unfold Qnt;rw[Qaum x.c _ (fun j s=>by unfold Qyi;rfl)];rfl
def Qel (x:List Int) (d:List (List Qw)):List (List Qw):=d.map fun l=>l.filter (Qgq x)
theorem Qzm (x:List Int):∀ d:List (List Qw),((Qel x d).map List.length).sum≤(d.map List.length).sum∧∀ s:Int,d.foldl (fun(s:Int) l=>Qer s (l.length-(l.filter (Qgq x)).length)) (Qer s 0)=Qer s ((d.map List.length).sum-((Qel x d).map List.length).sum)
 | []=>⟨by simp[Qel],fun s=>rfl⟩
 |l::d=>by
  obtain⟨h1,h2⟩:=Qzm x d;have h3:=List.length_filter_le (Qgq x) l;have e1:((Qel x (l::d)).map List.length).sum=(l.filter (Qgq x)).length+((Qel x d).map List.length).sum:=by simp[Qel]
  have e2:((l::d).map List.length).sum=l.length+(d.map List.length).sum:=by simp
  refine⟨by omega,fun s=>?_⟩;rw[List.foldl_cons];have e3:Qer (Qer s 0) (l.length-(l.filter (Qgq x)).length)=Qer (Qer s (l.length-(l.filter (Qgq x)).length)) 0:=by
   rw[Qnb,Qnb,Nat.zero_add,Nat.add_zero]
  rw[e3,h2,Qnb]
  congr 1
  omega
theorem Qafs (x:Qaa) (y:List Int) (h:Qlu x=true):Qio x y=(⟨Qel y x.c,x.f⟩,Qer 0 ((x.c.map List.length).sum-((Qel y x.c).map List.length).sum)):=by
 unfold Qio;rw[h,cond_true,Qaul (xs:=x.c) (f:=fun l=>l.filter (Qgq y)) (fun j s _ he=>by rw[Qarh,he])];show((⟨Qel y x.c,x.f⟩:Qaa),_)=_
 congr 1
 rw[Qaby,Qaby];have:=(Qzm y x.c).1;show IntKind.i64.wrap (Qer 0 (x.c.map List.length).sum-Qer 0 ((Qel y x.c).map List.length).sum)=_;unfold Qer;simp only[IntKind.wrap_i64];omega
theorem Qaap (x:Qaa) (y:List Int) (h:Qgy x=true):Qgr x y=(⟨Qel y x.c,x.f⟩,Qer 0 ((x.c.map List.length).sum-((Qel y x.c).map List.length).sum)):=by
 unfold Qgr;rw[h,cond_true];have h0:(0:Int)=Qer 0 0:=rfl;rw[h0];have key:∀ (m k:Nat) (s:Int),m+k=x.c.length→rng (R:=Qaa×Int) (fun k (s:Int×List (List Qw))=>Qsr y k s.1 s.2) m k (Qer s 0,Qel y (x.c.take k)++x.c.drop k)= .inr ((x.c.drop k).foldl (fun(s:Int) l=>Qer s (l.length-(l.filter (Qgq y)).length)) (Qer s 0),Qel y x.c):=by
  intro m
  induction m with
  |zero=>intro k s hk;rw[rng,List.drop_of_length_le (by omega),List.take_of_length_le (by omega)];simp
  |succ m ih=>
   intro k s hk;have hlt:k<x.c.length:=by omega
   have hd:x.c.drop k=gt x.c k::x.c.drop (k+1):=by rw[List.drop_eq_getElem_cons hlt,Qdl hlt]
   have hl:(Qel y (x.c.take k)).length=k:=by simp[Qel];omega
   have hg:gt (Qel y (x.c.take k)++x.c.drop k) k=gt x.c k:=by
    rw[hd];exact Qafi hl
   rw[rng,Qawn,hg];show rng _ m (k+1) _=_;have hs:(Qel y (x.c.take k)++x.c.drop k).set k ((gt x.c k).filter (Qgq y))=Qel y (x.c.take (k+1))++x.c.drop (k+1):=by
    rw[hd,List.set_append_right _ _ (by omega),hl,Nat.sub_self,List.set_cons_zero,List.take_add_one,List.getElem?_eq_getElem hlt, ← Qdl hlt];simp[Qel]
   have e3:∀ n,Qer s n=Qer (Qer s n) 0:=fun n=>by rw[Qnb,Nat.add_zero]
   rw[hs,e3,ih (k+1) _ (by omega),hd,List.foldl_cons]
   congr 2
   rw[Qnb,Qnb,Nat.zero_add,Nat.add_zero]
 have h1:=key (x.c.length-0) 0 0 (by omega);rw[List.take_zero,List.drop_zero] at h1;have h2:Qel y []++x.c=x.c:=rfl;rw[h2] at h1;rw[h1,(Qzm y x.c).2];rfl
theorem Qacn (x:Qaa) (y:List Int):Qio x y=Qgr x y:=by
 cases h:Qgy x with
 |true=>rw[Qafs x y (by rw[Qwv];exact h),Qaap x y h]
 |false=>
  unfold Qio Qgr;rw[Qwv,h];rfl
theorem Qadk (xs:List Qp) (q:Int):Qbr xs q≤xs.length:=List.findIdx_le_length
theorem Qajn {x:Qk} {q:Int} {k:Nat} (hk:k<x.a.length) (h: ¬ Qbr x.a q<k):decide (q<(gt x.a k).e.Id)=decide (Qbr x.a q=k):=by
 by_cases h2:Qbr x.a q=k
 ·have h1:=Qxm (xs:=x.a) (q:=q) (by omega);rw[h2] at h1;rw[decide_eq_true h1,decide_eq_true h2]
 have h1:=Qxn (xs:=x.a) (q:=q) (j:=k) (by omega);rw[decide_eq_false h2,decide_eq_false (by omega)]
theorem Qavt (x:Qk) (q:Qba):
 rng (R:=Qk×Bool) (fun k (s:Bool)=>Qpw x q k s) (x.a.length-0) 0 false= .inr (decide (Qbr x.a q.Id<x.a.length)):=by
 have key:∀ m k,m+k=x.a.length→rng (R:=Qk×Bool) (fun k (s:Bool)=>Qpw x q k s) m k (decide (Qbr x.a q.Id<k))= .inr (decide (Qbr x.a q.Id<m+k)):=by
  intro m
  induction m with
  |zero=>intro k _;rw[Nat.zero_add];rfl
  |succ m ih=>
   intro k hk;have hb:Qpw x q k (decide (Qbr x.a q.Id<k))= .inr (decide (Qbr x.a q.Id<k+1)):=by
    unfold Qpw
    by_cases h:Qbr x.a q.Id<k
    ·rw[decide_eq_true h,cond_true,decide_eq_true (by omega)]
    rw[decide_eq_false h,cond_false,Qajn (by omega) h]
    by_cases h2:Qbr x.a q.Id=k
    ·rw[decide_eq_true h2,cond_true,decide_eq_true (by omega)]
    rw[decide_eq_false h2,cond_false,decide_eq_false (by omega)]
   rw[rng,hb];show rng _ m (k+1) (decide (Qbr x.a q.Id<k+1))=_;rw[ih (k+1) (by omega)]
   congr 2
   rw[show m+(k+1)=m+1+k by omega]
 have h:=key (x.a.length-0) 0 (by omega);rw[decide_eq_false (Nat.not_lt_zero _)] at h;rw[h];rfl
theorem Qaim (b:List Int) (D:Qaf):stD 20 (Qed b D).1:=by
 unfold Qed;have hrw:=Qaik b D 7 (by omega) (by omega);have hb:=Qef b (Qes b D 7).2 3;have hb':=hb.2.1 (by omega);have w5:=Qdp (n:=2+(Qd b (Qes b D 7).2 3).1) (by omega) (by omega);have h0:=Qaic (n:=IntKind.i64.wrap (2+(Qd b (Qes b D 7).2 3).1)) hrw.1 (by omega) (by omega) (by omega);have key:∀ (m k:Nat) (s:Int×Nat×Int×(List (List Qw))×Int),stD 20 (⟨s.2.2.2.1,s.2.2.2.2⟩:Qaa)→stD 20 (Sum.elim id (fun(s:Int×Nat×Int×(List (List Qw))×Int)=>((⟨s.2.2.2.1,s.2.2.2.2⟩:Qaa),(⟨s.2.1,s.2.2.1⟩:Qaf))) (Qdo (R:=(Qaa×Qaf)) (fun k (s:Int×Nat×Int×(List (List Qw))×Int)=>Qog b k s.1 s.2.1 s.2.2.1 s.2.2.2.1 s.2.2.2.2) m k s)).1:=fun m k s hs=>by
  obtain⟨s',e1,e2⟩:=Qsh (R:=(Qaa×Qaf)) (b:=fun k (s:Int×Nat×Int×(List (List Qw))×Int)=>Qog b k s.1 s.2.1 s.2.2.1 s.2.2.2.1 s.2.2.2.2) (P:=fun _ s=>stD 20 (⟨s.2.2.2.1,s.2.2.2.2⟩:Qaa)) (Q:=fun s=>stD 20 (⟨s.2.2.2.1,s.2.2.2.2⟩:Qaa)) (fun k s hp=>by
   show(∃ s',Qog b k s.1 s.2.1 s.2.2.1 s.2.2.2.1 s.2.2.2.2=_∧_)∨∃ s',Qog b k s.1 s.2.1 s.2.2.1 s.2.2.2.1 s.2.2.2.2=_∧_;unfold Qog;cases decide (0<s.1) with
   |true=>exact .inl ⟨_,rfl,Qaab (by omega) hp _⟩
   |false=>exact .inr ⟨_,rfl,hp⟩) m k s hs
  rw[e1];exact e2.elim id id
 exact key _ _ _ h0
theorem Qayu {n:Nat} {x:Qaa} (h:stD n x) (y:List Int):stD n (⟨Qel y x.c,x.f⟩:Qaa):=by
 refine⟨h.1,(by show 1≤(List.map _ _).length;rw[List.length_map];exact h.2.1),(by show(List.map _ _).length≤8;rw[List.length_map];exact h.2.2.1),fun z hz=>?_⟩;obtain⟨z0,hz0,rfl⟩:=List.mem_map.1 hz;have h2:=h.2.2.2 z0 hz0;exact⟨Nat.le_trans (List.length_filter_le _ _) h2.1,fun v hv=>h2.2 v (List.mem_filter.1 hv).1⟩
theorem Qari {n:Nat} {x:Qaa} (h:stD n x) (y:List Int):stD n (Qio x y).1:=by
 cases hs:Qlu x with
 |true=>rw[Qafs x y hs];exact Qayu h y
 |false=>unfold Qio;rw[hs];exact h
theorem Qaie {n:Nat} {x:Qaa} (h:stD n x) (y:List Int):stD n (Qgr x y).1:=by
 rw[← Qacn];exact Qari h y
theorem Qaqn {R S:Type} {P:S→Prop} {c:Bool} {A B:R⊕S} (h1:∃ s',A= .inr s'∧P s') (h2:∃ s',B= .inr s'∧P s'):∃ s',cond c A B= .inr s'∧P s':=by cases c <;>assumption
theorem Qaxf {id_:Qba×Qaf→Qba×Qaf} (b:List Int) (c:List Qgd) (t id:Int):∀ (m k:Nat) (s:Int×Nat×Int×(List Int)),(s.1≤3∧s.2.2.2.length+s.1.toNat≤3)→(Sum.elim id_ (fun(s:Int×Nat×Int×(List Int))=>((⟨id,t,c,s.2.2.2⟩:Qba),(⟨s.2.1,s.2.2.1⟩:Qaf))) (Qdo (R:=(Qba×Qaf)) (fun k (s:Int×Nat×Int×(List Int))=>Qnl b k s.1 s.2.1 s.2.2.1 s.2.2.2) m k s)).1.o=c∧(Sum.elim id_ (fun(s:Int×Nat×Int×(List Int))=>((⟨id,t,c,s.2.2.2⟩:Qba),(⟨s.2.1,s.2.2.1⟩:Qaf))) (Qdo (R:=(Qba×Qaf)) (fun k (s:Int×Nat×Int×(List Int))=>Qnl b k s.1 s.2.1 s.2.2.1 s.2.2.2) m k s)).1.t.length≤3:=fun m k s hs=>by
 obtain⟨s',e1,e2⟩:=Qsh (R:=(Qba×Qaf)) (b:=fun k (s:Int×Nat×Int×(List Int))=>Qnl b k s.1 s.2.1 s.2.2.1 s.2.2.2) (P:=fun _ s=>s.1≤3∧s.2.2.2.length+s.1.toNat≤3) (Q:=fun s=>s.2.2.2.length≤3) (fun k s ⟨p1,p2⟩=>by
  show(∃ s',Qnl b k s.1 s.2.1 s.2.2.1 s.2.2.2=_∧_)∨∃ s',Qnl b k s.1 s.2.1 s.2.2.1 s.2.2.2=_∧_;unfold Qnl
  by_cases h:0<s.1
  ·rw[decide_eq_true h,Qdp (n:=s.1-1) (by omega) (by omega)];refine .inl ⟨_,rfl,?_,?_⟩
   ·show s.1-1≤3;omega
   show(s.2.2.2++[_]).length+(s.1-1).toNat≤3;rw[List.length_append];show s.2.2.2.length+1+_≤3;omega
  rw[decide_eq_false h]
  exact .inr ⟨_,rfl,by show s.2.2.2.length≤3;omega⟩) m k s hs
 rw[e1];refine⟨rfl,?_⟩;show s'.2.2.2.length≤3;rcases e2 with h|h <;>omega
theorem Qjg (b:List Int) (D:Qaf) (i:Int):(Qfn b D i).1.o.length≤3∧(Qfn b D i).1.t.length≤3:=by
 unfold Qfn
 obtain⟨s1,e1,h1⟩:=Qmn (R:=Qba×Qaf) (body:=fun k (s:Nat×Int×List Qgd)=>Qsw b D k s.1 s.2.1 s.2.2) (n:=3) (fun k s=>s.2.2.length≤k) (fun k s _ h=>by
  have happ:∀ y,(s.2.2++[y]).length≤k+1:=fun y=>by rw[List.length_append];show s.2.2.length+1≤k+1;omega
  have hkeep:s.2.2.length≤k+1:=by omega
  show ∃ s',Qsw b D k s.1 s.2.1 s.2.2= .inr s'∧s'.2.2.length≤k+1;unfold Qsw
  repeat' (first|exact⟨_,rfl,happ _⟩|exact⟨_,rfl,hkeep⟩|apply Qaqn)) (3-0) 0 ((Qcm b ((Qd b D 4).2) [3,6,100]).2.i,(Qcm b ((Qd b D 4).2) [3,6,100]).2.h,[]) (by omega) (Nat.zero_le _)
 rw[e1];have hb:=Qef b (⟨s1.1,s1.2.1⟩:Qaf) 3;have hb':=hb.2.1 (by omega);have hw:=Qdp (n:=1+(Qd b (⟨s1.1,s1.2.1⟩:Qaf) 3).1) (by omega) (by omega);have key:=Qaxf (id_:=id) b s1.2.2 (Qd b D 4).1 i ((IntKind.i64.wrap (1+(Qd b (⟨s1.1,s1.2.1⟩:Qaf) 3).1)).toNat+1-0) 0 ((IntKind.i64.wrap (1+(Qd b (⟨s1.1,s1.2.1⟩:Qaf) 3).1)),(Qd b (⟨s1.1,s1.2.1⟩:Qaf) 3).2.i,(Qd b (⟨s1.1,s1.2.1⟩:Qaf) 3).2.h,[]) ⟨(by show IntKind.i64.wrap _≤3;omega),(by show 0+(IntKind.i64.wrap _).toNat≤3;omega)⟩;exact⟨Nat.le_trans (Nat.le_of_eq (congrArg List.length key.1)) h1,key.2⟩
theorem Qagv {x:Qk} (h:Eng x) (a:Qp):(Qhq x a).length≤4:=Nat.le_trans (Qvd _ _) (Qtn h)
def Qia (a:Qp):Bool:=((a.q.length:Nat):Int)==0
def Qin (n:Int) (a:Qp):Qp:=⟨a.e,a.r,a.q,IntKind.i64.wrap (a.v+1),cond ((Int.tmod (IntKind.i64.wrap (a.v+1)) n)==0) 0 a.A,a.z,a.p⟩
def Qju (a:Qp):Qco:=⟨a.e,a.r,IntKind.i64.wrap (a.v+1),a.p⟩
theorem Qzn (n:Int):∀ (L:List Qp) (r:List Qp) (d:List Qco),L.foldl (fun(s:(List Qp)×(List Qco)) a=>cond (Qia a) (s.1,s.2++[Qju a]) (s.1++[Qin n a],s.2)) (r,d)=(r++(L.filter (fun a=> !Qia a)).map (Qin n),d++(L.filter Qia).map Qju)
 | [],r,d=>by simp
 |a::L,r,d=>by
  rw[List.foldl_cons];cases h:Qia a with
  |true=>rw[cond_true,Qzn n L];simp[h]
  |false=>rw[cond_false,Qzn n L];simp[h]
theorem Qagr {R:Type} {L:List Qp} {n:Int} {b:Nat→(List Qp)×(List Qco)→R⊕((List Qp)×(List Qco))} (hb:∀ k s,k<L.length→b k s= .inr (cond (Qia (gt L k)) (s.1,s.2++[Qju (gt L k)]) (s.1++[Qin n (gt L k)],s.2))) (D:List Qco):rng b (L.length-0) 0 ([],D)= .inr ((L.filter (fun a=> !Qia a)).map (Qin n),D++(L.filter Qia).map Qju):=by
 rw[Qis (xs:=L) (f:=fun s a=>cond (Qia a) (s.1,s.2++[Qju a]) (s.1++[Qin n a],s.2)) hb,Qzn];rfl
def Qir (x:Qk) (L:List Qp):List Qp:=(L.filter (fun a=> !Qia a)).map (Qin ((x.d.c.length:Nat):Int))
def Qpa (x:Qk) (L:List Qp):List Qco:=x.j++(L.filter Qia).map Qju
def Qje (x:Qk):List Qdi:=cond (decide (0<(((Qay x).length:Nat):Int))) (x.k++[Qmi x]) x.k
def Qhv (x:Qk):Qk:=⟨x.d,Int.tmod (IntKind.i64.wrap (x.g+1)) ((x.d.c.length:Nat):Int),x.l,Qir x (Qeq x (Qay x)),Qpa x (Qeq x (Qay x)),Qje x,IntKind.i64.wrap (x.n+1)⟩
theorem Qage {x:Qk} (h:Eng x):Qhj x=Qhm (Qhv x):=by
 have hj:Qqi x= .inr (⟨x.d,x.g,x.l,Qeq x (Qay x),x.j,Qje x,x.n⟩:Qk):=by
  unfold Qqi Qje;cases hp:decide (0<(((Qay x).length:Nat):Int)) with
  |true=>rw[cond_true,cond_true,Qrc h]
  |false=>
   have h0:=of_decide_eq_false hp;have hn:Qay x=[]:=List.eq_nil_of_length_eq_zero (by omega);rw[cond_false,cond_false,hn,Qxl]
 unfold Qhj Qhv Qir Qpa;rw[hj];show Sum.elim id _ (rng (R:=Qk) (fun k (s:(List Qp)×(List Qco))=>Qst (⟨x.d,x.g,x.l,Qeq x (Qay x),x.j,Qje x,x.n⟩:Qk) k s.1 s.2) ((Qeq x (Qay x)).length-0) 0 ([],x.j))=_
 rw[Qagr (n:=((x.d.c.length:Nat):Int)) (b:=fun k (s:(List Qp)×(List Qco))=>Qst (⟨x.d,x.g,x.l,Qeq x (Qay x),x.j,Qje x,x.n⟩:Qk) k s.1 s.2) (fun k s hk=>by
  unfold Qst Qia Qin Qju Qvw Qvx;dsimp only
  cases ((Int.tmod (IntKind.i64.wrap (((gt (Qeq x (Qay x)) k).v)+1)) ((x.d.c.length:Nat):Int))==0) <;>cases ((((gt (Qeq x (Qay x)) k).q).length:Nat):Int)==0 <;>rfl)]
 rfl
def Qqw (a:Qp):Prop:=QOk a.e∧a.q.length≤8∧a.p.length≤1004∧∀ r∈a.p,r.m.length=3
theorem Qzt {x:Qk} (h:Eng x) (a:Qp):∀ r∈Qhq x a,Qfx r=true:=fun r hr=>by
 obtain⟨v,hv,rfl⟩:=List.mem_map.1 hr;exact Qzy h (List.mem_filter.1 hv).1
theorem Qadf {x:Qk} (h:Eng x) (ids:List Int):∀ a∈Qeq x ids,Qqw a:=fun a ha=>by
 obtain⟨b,hb,rfl⟩:=List.mem_map.1 ha;have hs:=((Qfo _).1 h.st).1;obtain⟨h1,_,h3,_,_,_,h7,h8⟩:=h.act b hb;have ht:=Qxg h3;cases decide (b.e.Id∈ids) with
 |false=>exact⟨Qtj h1,by show b.q.length≤8;omega,by show b.p.length≤1004;omega,fun r hr=>((Qmv r).1 (h7 r hr)).2.2⟩
 |true=>
  refine⟨Qtj h1,?_,?_,fun r hr=>?_⟩
  ·show(b.q.filter _).length≤8;exact Nat.le_trans (List.length_filter_le _ _) (by omega)
  ·show(b.p++Qhq x b).length≤1004;have:=Qagv h b;rw[List.length_append];omega
  rcases List.mem_append.1 (show r∈b.p++Qhq x b from hr) with hr|hr
  ·exact((Qmv r).1 (h7 r hr)).2.2
  exact((Qmv r).1 (Qzt h b r hr)).2.2
theorem Qagq {x:Qk} {L:List Qp} (h:∀ a∈L,Qqw a):(Qir x L).length≤L.length∧∀ a∈Qir x L,Qqw a:=by
 unfold Qir;refine⟨by rw[List.length_map];exact List.length_filter_le _ _,fun a ha=>?_⟩;obtain⟨b,hb,rfl⟩:=List.mem_map.1 ha;exact h b (List.mem_filter.1 hb).1
def BigF (f:Qco):Prop:=QOk f.e∧f.p.length≤1004∧∀ r∈f.p,r.m.length=3
theorem Qaqt {L:List Qp} (h:∀ a∈L,Qqw a):((L.filter Qia).map Qju).length≤L.length∧∀ f∈(L.filter Qia).map Qju,BigF f:=by
 refine⟨by rw[List.length_map];exact List.length_filter_le _ _,fun f hf=>?_⟩;obtain⟨b,hb,rfl⟩:=List.mem_map.1 hf;obtain⟨h1,_,h3,h4⟩:=h b (List.mem_filter.1 hb).1;exact⟨h1,h3,h4⟩
theorem Qaqk {x:Qk} (h:Eng x):(Qmi x).w.length≤8∧(Qmi x).B.length≤8∧(Qmi x).p.length≤8:=by
 have:=Qot h;unfold Qmi Qma Qls;dsimp only;rw[List.length_map,List.length_map];omega
theorem Qaho {l:List Qah} {n:Nat} (hn:n≤68719476736) (h1:l.length≤n) (h2:∀ r∈l,r.m.length=3):l.length≤68719476736∧∀ y∈l,Qjp 68719476736 y:=
 ⟨by omega,fun y hy=>by have:=h2 y hy;show y.m.length≤_;omega⟩
theorem Qajq {a:Qp} (h:Qqw a):Qvh 68719476736 a:=by
 obtain⟨⟨_,_,_,_,c1,_,_,c2⟩,h2,h3,h4⟩:=h;exact⟨⟨by omega,by omega⟩,by omega,Qaho (n:=1004) (by decide) h3 h4⟩
theorem Qajr {f:Qco} (h:BigF f):Qvi 68719476736 f:=by
 obtain⟨⟨_,_,_,_,c1,_,_,c2⟩,h3,h4⟩:=h;exact⟨⟨by omega,by omega⟩,Qaho (n:=1004) (by decide) h3 h4⟩
def Qkc (x:Qk):Bool:=Qgf x && !decide (100000≤x.n) && !decide (1000≤((x.k.length:Nat):Int)) && !decide (1000<((x.j.length+x.a.length:Nat):Int))
theorem Qmd (x:Qk):Qfd x=cond (Qkc x) (Qhm (Qhv x),true) (x,false):=by
 unfold Qfd Qkc;cases hE:Qgf x with
 |false=>rfl
 |true=>
  rw[Qage ((Qjc x).1 hE)];cases decide (100000≤x.n) <;>cases decide (1000≤((x.k.length:Nat):Int)) <;>cases decide (1000<((x.j.length+x.a.length:Nat):Int)) <;>rfl
theorem Qmz {x:Qk} (h:Qkc x=true):Eng x∧x.n<100000∧x.k.length<1000∧x.j.length+x.a.length≤1000:=by
 unfold Qkc at h;simp only[Bool.and_eq_true,Bool.not_eq_true',decide_eq_false_iff_not] at h;exact⟨(Qjc x).1 h.1.1.1,by omega,by omega,by omega⟩
theorem Qmc (e:Qk):Qhm e=⟨(Qgr e.d (e.a.map fun a=>a.r)).1,e.g,e.l,e.a,e.j,e.k,e.n⟩:=by
 unfold Qhm;rw[Qis (R:=Qk) (xs:=e.a) (f:=fun d a=>d++[a.r]) (b:=fun k s=>Qwl e k s) (fun _ _ _=>rfl)];have:=Qlt (fun _:Qp=>true) (fun a=>a.r) e.a [];have e1:e.a.foldl (fun d a=>d++[a.r]) []=e.a.map fun a=>a.r:=by
  rw[show e.a.foldl (fun d a=>d++[a.r]) []=e.a.foldl (fun d a=>cond true (d++[a.r]) d) [] from rfl,this,List.nil_append,List.filter_eq_self.2 (fun _ _=>rfl)]
 rw[e1];rfl
theorem Qaub {B:Nat} {d:List (List Qw)} (h:d.length≤B∧∀ y∈d,(y.length≤B∧∀ z∈y,Qpv B z)) (k:List Int):(Qel k d).length≤B∧∀ y∈Qel k d,(y.length≤B∧∀ z∈y,Qpv B z):=by
 unfold Qel;refine⟨by rw[List.length_map];exact h.1,fun y hy=>?_⟩;obtain⟨l,hl,rfl⟩:=List.mem_map.1 hy;exact⟨Nat.le_trans (List.length_filter_le _ _) (h.2 l hl).1,fun z hz=>(h.2 l hl).2 z (List.mem_filter.1 hz).1⟩
theorem Qacs {B:Nat} {s:Qaa} (h:Qhg B s) (k:List Int):Qhg B (Qgr s k).1:=by
 cases hs:Qgy s with
 |false=>rw[show Qgr s k=(s,0) from by unfold Qgr;rw[hs];rfl];exact h
 |true=>rw[Qaap s k hs];exact Qaub h k
theorem Qxf {x:Qk} (h:Qhb 68719476736 x):Qhb 68719476736 (Qfd x).1:=by
 rw[Qmd];cases hc:Qkc x with
 |false=>exact h
 |true=>
  obtain⟨hE,_,h3,h4⟩:=Qmz hc;have hb:=Qadf hE (Qay x);have hl:=Qlq x (Qay x);obtain⟨r1,r2⟩:=Qagq (x:=x) hb;obtain⟨f1,f2⟩:=Qaqt hb;have h8:=hE.al;rw[cond_true,Qmc];refine⟨Qacs h.1 _,h.2.1,⟨?_,fun a ha=>Qajq (r2 a ha)⟩,⟨?_,fun f hf=>?_⟩,?_,fun c hc=>?_⟩
  ·show(Qir x _).length≤_;omega
  ·show(x.j++_).length≤_;rw[List.length_append];omega
  ·rcases List.mem_append.1 (show f∈x.j++_ from hf) with hf|hf
   ·exact h.2.2.2.1.2 f hf
   exact Qajr (f2 f hf)
  ·show(Qje x).length≤_;unfold Qje;cases decide (0<(((Qay x).length:Nat):Int)) with
   |true=>rw[cond_true,List.length_append];show _+1≤_;omega
   |false=>rw[cond_false];omega
  have hg:Qps 68719476736 (Qmi x):=by
   obtain⟨a,b,c⟩:=Qaqk hE;exact⟨by omega,by omega,by omega⟩
  have hc':c∈Qje x:=hc;unfold Qje at hc'
  revert hc'
  cases decide (0<(((Qay x).length:Nat):Int)) with
  |true=>
   rw[cond_true];intro hc';rcases List.mem_append.1 hc' with hc'|hc'
   ·exact h.2.2.2.2.2 c hc'
   rw[List.mem_singleton.1 hc'];exact hg
  |false=>rw[cond_false];exact h.2.2.2.2.2 c
def Qlh (x:Qk) (q:Qba) (l:Int):Qp:=⟨q,x.d.f,(List.range x.d.c.length).map fun(k:Nat)=>((k:Nat):Int),0,0,l,[]⟩
def Qrj (x:Qk) (q:Qba) (l:Int):Qk:=⟨x.d,x.g,x.l,((List.take (Qbr x.a q.Id) x.a++[Qlh x q l])++List.drop (Qbr x.a q.Id) x.a),x.j,x.k,x.n⟩
def Qmg (x:Qk) (q:Qba) (l:Int):Bool:=Qgf x && Qfw q && Qbi l 0 32 && !decide (0≤Qad x q.Id) && !decide (8≤((x.a.length:Nat):Int))
theorem Qajl (n:Nat):(rng (R:=(Qk×Bool)) (fun k (s:(List Int))=>Qnz k s) (n-0) 0 [])= .inr ((List.range n).map fun(k:Nat)=>((k:Nat):Int)):=by
 have key:∀ m k,rng (R:=(Qk×Bool)) (fun k (s:(List Int))=>Qnz k s) m k ((List.range k).map fun(k:Nat)=>((k:Nat):Int))= .inr ((List.range (m+k)).map fun(k:Nat)=>((k:Nat):Int)):=by
  intro m
  induction m with
  |zero=>intro k;rw[Nat.zero_add];rfl
  |succ m ih=>
   intro k;have hb:Qnz k ((List.range k).map fun(k:Nat)=>((k:Nat):Int))= .inr ((List.range (k+1)).map fun(k:Nat)=>((k:Nat):Int)):=by
    unfold Qnz;rw[List.range_succ,List.map_append];rfl
   rw[rng,hb];show rng _ m (k+1) _=_;rw[ih (k+1),show m+(k+1)=m+1+k by omega]
 have h:=key (n-0) 0;rw[List.range_zero] at h;exact h
theorem Qabr (x:Qk) (q:Qba) (l:Int):Qev x q l=cond (Qmg x q l) (Qrj x q l,true) (x,false):=by
 unfold Qev Qmg;cases Qgf x with
 |false=>rfl
 |true=>
 cases Qfw q with
 |false=>rfl
 |true=>
 cases Qbi l 0 32 with
 |false=>rfl
 |true=>
 cases decide (0≤Qad x q.Id) with
 |true=>rfl
 |false=>
 cases decide (8≤((x.a.length:Nat):Int)) with
 |true=>rfl
 |false=>
  have ht:rng (R:=(Qk×Bool)) (fun k (s:(List Int))=>Qnz k s) (x.d.c.length-0) 0 []= .inr ((List.range x.d.c.length).map fun(k:Nat)=>((k:Nat):Int)):=Qajl _;rw[ht,Qavt];have hj:=Qadk x.a q.Id
  by_cases h:Qbr x.a q.Id<x.a.length
  ·rw[decide_eq_true h];rfl
  have e:x.a.length=Qbr x.a q.Id:=by omega
  rw[decide_eq_false h];show(((⟨x.d,x.g,x.l,((List.take x.a.length x.a++[Qlh x q l])++List.drop x.a.length x.a),x.j,x.k,x.n⟩:Qk),true))=_;rw[e];rfl
def Qgu (e:Qk):Prop:=Qhb 68719476736 e∧(e.d.c.length=0∨stD 20 e.d)
theorem Qwr {e:Qk} (h:Qgu e):(e.d.c.map List.length).sum≤68719476736:=by
 rcases h.2 with h|h
 ·rw[List.eq_nil_of_length_eq_zero h];decide
 exact Qais h
theorem Qacf {s:Qaa} (h:stD 20 s):Qgu (Qgm s).1:=by
 unfold Qgm;cases Qgy s with
 |true=>exact⟨⟨Qqo h,(by show 3≤68719476736;decide),⟨Nat.zero_le _,fun y hy=>by cases hy⟩,⟨Nat.zero_le _,fun y hy=>by cases hy⟩,Nat.zero_le _,fun y hy=>by cases hy⟩, .inr h⟩
 |false=>exact⟨⟨⟨Nat.zero_le _,fun y hy=>by cases hy⟩,Nat.zero_le _,⟨Nat.zero_le _,fun y hy=>by cases hy⟩,⟨Nat.zero_le _,fun y hy=>by cases hy⟩,Nat.zero_le _,fun y hy=>by cases hy⟩, .inl rfl⟩
theorem Qacm {e:Qk} (h:Qgu e):Qgu (Qhm e):=by
 rw[Qmc];refine⟨⟨Qacs h.1.1 _,h.1.2⟩,?_⟩;rcases h.2 with h0|h0
 ·left
  cases hs:Qgy e.d with
  |false=>rw[show Qgr e.d (e.a.map fun a=>a.r)=(e.d,0) from by unfold Qgr;rw[hs];rfl];exact h0
  |true=>have:=((Qfo _).1 hs).1;omega
 exact .inr (Qaie h0 _)
theorem Qnq {e:Qk} (h:Qgu e):Qgu (Qfd e).1:=by
 refine⟨Qxf h.1,?_⟩;rw[Qmd];cases hc:Qkc e with
 |false=>exact h.2
 |true=>
  have hE:=(Qmz hc).1;rw[cond_true,Qmc];rcases h.2 with h0|h0
  ·have:=((Qfo _).1 hE.st).1;omega
  exact .inr (Qaie (x:=(Qhv e).d) h0 _)
theorem Qop {e:Qk} {q:Qba} {l:Int} (h:Qgu e) (hq:Qil 68719476736 q):Qgu (Qev e q l).1:=by
 rw[Qabr];cases ha:Qmg e q l with
 |false=>exact h
 |true=>
  unfold Qmg at ha;simp only[Bool.and_eq_true,Bool.not_eq_true',decide_eq_false_iff_not] at ha;have hE:=(Qjc e).1 ha.1.1.1.1;have h8:=ha.2;have hs:=((Qfo _).1 hE.st).1;obtain⟨⟨h1,h2,h3,h4⟩,h5⟩:=h;refine⟨⟨h1,h2,⟨?_,fun a hm=>?_⟩,h4⟩,h5⟩
  ·show((List.take _ e.a++[Qlh e q l])++List.drop _ e.a).length≤_;rw[List.length_append,List.length_append,List.length_take,List.length_drop];show _+1+_≤_;omega
  rcases List.mem_append.1 (show a∈(List.take _ e.a++[Qlh e q l])++List.drop _ e.a from hm) with hm|hm
  ·rcases List.mem_append.1 hm with hm|hm
   ·exact h3.2 a (List.mem_of_mem_take hm)
   rw[List.mem_singleton.1 hm];refine⟨hq,?_,Nat.zero_le _,fun y hy=>by cases hy⟩;show((List.range e.d.c.length).map _).length≤_;rw[List.length_map,List.length_range];omega
  exact h3.2 a (List.mem_of_mem_drop hm)
theorem Qou {e:Qk} (h:Qgu e) (u:Qda):Qgu (Qht e u).1:=by
 unfold Qht;cases hE:Qgf e with
 |false=>exact h
 |true=>
 cases (Qce e.d u).2 with
 |false=>exact h
 |true=>
  refine Qacm ⟨⟨Qahs h.1.1 u,h.1.2⟩,?_⟩;rcases h.2 with h0|h0
  ·have:=((Qfo _).1 ((Qjc e).1 hE).st).1;omega
  exact .inr (Qaab (by decide) h0 u)
theorem Qor {e:Qk} (h:Qgu e) (i:Int):Qgu (Qhs e i).1:=by
 unfold Qhs;cases hE:Qgf e with
 |false=>exact h
 |true=>
 cases hf:decide (Qad e i<0) with
 |true=>exact h
 |false=>
  have h0:=of_decide_eq_false hf;have h1:=Qqa e i;have h8:=((Qjc e).1 hE).al;exact Qacm ⟨Qakr h.1 (by rw[Qdp (by omega) (by omega)];omega),h.2⟩
theorem Qit {q:Qba} (h:q.o.length≤3∧q.t.length≤3):Qil 68719476736 q:=⟨by omega,by omega⟩
def Qqm (x0b:List Int) (k43:Nat) (s44:Int) (s45:Nat) (s46:Int) (E47:Qk):(Qk×Qaf)⊕((Int×Nat×Int×Qk)⊕(Int×Nat×Int×Qk)):=
 cond (decide (0<s44)) (cond ((Qd x0b (⟨s45,s46⟩:Qaf) 7).1==0) (Sum.inr (Sum.inr ((IntKind.i64.wrap (s44-1)),(Qcm x0b (Qfn x0b ((Qd x0b (Qd x0b (⟨s45,s46⟩:Qaf) 7).2 6).2) ((Qd x0b (Qd x0b (⟨s45,s46⟩:Qaf) 7).2 6).1)).2 [0,0,1,2]).2.i,(Qcm x0b (Qfn x0b ((Qd x0b (Qd x0b (⟨s45,s46⟩:Qaf) 7).2 6).2) ((Qd x0b (Qd x0b (⟨s45,s46⟩:Qaf) 7).2 6).1)).2 [0,0,1,2]).2.h,((Qev E47 (Qfn x0b ((Qd x0b (Qd x0b (⟨s45,s46⟩:Qaf) 7).2 6).2) ((Qd x0b (Qd x0b (⟨s45,s46⟩:Qaf) 7).2 6).1)).1 (Qcm x0b (Qfn x0b ((Qd x0b (Qd x0b (⟨s45,s46⟩:Qaf) 7).2 6).2) ((Qd x0b (Qd x0b (⟨s45,s46⟩:Qaf) 7).2 6).1)).2 [0,0,1,2]).1).1)))) (cond ((Qd x0b (⟨s45,s46⟩:Qaf) 7).1==1) (Sum.inr (Sum.inr ((IntKind.i64.wrap (s44-1)),(Qcm x0b (Qfn x0b ((Qd x0b (Qd x0b (⟨s45,s46⟩:Qaf) 7).2 6).2) ((Qd x0b (Qd x0b (⟨s45,s46⟩:Qaf) 7).2 6).1)).2 [0,0,1,2]).2.i,(Qcm x0b (Qfn x0b ((Qd x0b (Qd x0b (⟨s45,s46⟩:Qaf) 7).2 6).2) ((Qd x0b (Qd x0b (⟨s45,s46⟩:Qaf) 7).2 6).1)).2 [0,0,1,2]).2.h,((Qev E47 (Qfn x0b ((Qd x0b (Qd x0b (⟨s45,s46⟩:Qaf) 7).2 6).2) ((Qd x0b (Qd x0b (⟨s45,s46⟩:Qaf) 7).2 6).1)).1 (Qcm x0b (Qfn x0b ((Qd x0b (Qd x0b (⟨s45,s46⟩:Qaf) 7).2 6).2) ((Qd x0b (Qd x0b (⟨s45,s46⟩:Qaf) 7).2 6).1)).2 [0,0,1,2]).1).1)))) (cond ((Qd x0b (⟨s45,s46⟩:Qaf) 7).1==2) (Sum.inr (Sum.inr ((IntKind.i64.wrap (s44-1)),(Qgb x0b (Qd x0b (⟨s45,s46⟩:Qaf) 7).2 E47.d).2.i,(Qgb x0b (Qd x0b (⟨s45,s46⟩:Qaf) 7).2 E47.d).2.h,((Qht E47 (Qgb x0b (Qd x0b (⟨s45,s46⟩:Qaf) 7).2 E47.d).1).1)))) (cond ((Qd x0b (⟨s45,s46⟩:Qaf) 7).1==3) (Sum.inr (Sum.inr ((IntKind.i64.wrap (s44-1)),((Qd x0b (Qd x0b (⟨s45,s46⟩:Qaf) 7).2 6).2).i,((Qd x0b (Qd x0b (⟨s45,s46⟩:Qaf) 7).2 6).2).h,((Qhs E47 ((Qd x0b (Qd x0b (⟨s45,s46⟩:Qaf) 7).2 6).1)).1)))) (Sum.inr (Sum.inr ((IntKind.i64.wrap (s44-1)),(Qd x0b (⟨s45,s46⟩:Qaf) 7).2.i,(Qd x0b (⟨s45,s46⟩:Qaf) 7).2.h,((Qfd E47).1)))))))) (Sum.inr (Sum.inl (s44,s45,s46,E47)))
def Qap (x0b:List Int) (x0:Qaf) (x1:Int):(Qk×Qaf):=
 Sum.elim id (fun(s:Int×Nat×Int×Qk)=>(s.2.2.2,(⟨s.2.1,s.2.2.1⟩:Qaf))) (Qdo (R:=(Qk×Qaf)) (fun k (s:Int×Nat×Int×Qk)=>Qqm x0b k s.1 s.2.1 s.2.2.1 s.2.2.2) (((Qd x0b ((Qed x0b x0).2) x1).1).toNat+1-0) 0 ((Qd x0b ((Qed x0b x0).2) x1).1,(Qd x0b ((Qed x0b x0).2) x1).2.i,(Qd x0b ((Qed x0b x0).2) x1).2.h,((Qgm ((Qed x0b x0).1)).1)))
theorem Qaof:Cb Tryz.prog 156:=⟨f156,_,func156,rfl,by decide⟩
theorem Qayo (B:Nat) (w0:World) (is:List It) (w:World) (p:Nat) (z0:Value) (x0b:List Int) (x0:Qaf) (r_0:rdS tU8 w0 B z0 x0b) (x1:Int) (s_0:x0b.length≤68719476736) (hx1:0≤x1∧x1≤14) (hm:Mem B w0 (Qb p 177 [z0,nI x0.i,iV x0.h]::is) w):
 Calls Tryz.prog 156 #[.pointer (sA p),iV x1] w fun e w'=>∃ x:List Value,e= .returned (.agg x.toArray)∧Mem B w0 (Qh Qbz x ((Qap x0b x0 x1).1)::Qb p 177 [z0,nI (((Qap x0b x0 x1).2).i),iV ((Qap x0b x0 x1).2).h]::is) w':=by
 obtain⟨m1,A2,c3,rfl,q4,r5⟩:=Qn r_0;refine Qiy (L:=[(0, .pointer (sA p)),(1,iV x1)]) (N:=67) func156 rfl rfl (Nat.le_of_ble_eq_true rfl) (Qfg rfl (Qfg rfl Qho)) hm ?_;have l6:x0b.length≤68719476736:=s_0;refine sr ?_;refine Qbo Qal rfl (Qf rfl) (by decide) (fun p7=>?_);refine nt' (sr (wm ?_));let K3:List Value:=[.slice none 0 0,iV 0,iV 0, .slice none 0 0, .slice none 0 0, .slice none 0 0, .slice none 0 0,iV 0];let J29:List It:=Qb p7 39 K3::is;refine Qcp (χ:=List Value) (val:=fun x=> .agg x.toArray) (js:=fun x=>(Qh Qcw x ((Qed x0b x0).1)::Qb p 177 [.slice A2 x0b.length c3,nI (((Qed x0b x0).2).i),iV ((Qed x0b x0).2).h]::J29)) (Qs Qapc rfl) (fun W hm=>Qayc B w0 J29 W p _ x0b x0 r5 s_0 (hm.front (n:=1) rfl)) (Qf rfl) (by decide) (fun z8=>?_);have hsd:=Qaim x0b x0;refine Qhx ?_;rintro v9 rfl;refine fm 0 ?_;rintro A10 c11 rfl m12;refine Qii (χ:=List Value) (val:=fun x=> .tuple #[.agg x.toArray, .bool ((Qgm ((Qed x0b x0).1)).2)]) (js:=fun x=>[Qh Qbz x ((Qgm ((Qed x0b x0).1)).1)]) (Qs Qapb rfl) (fun W hm=>Qawk W _ ((Qed x0b x0).1) (Qft (x:=((Qed x0b x0).1)) (hm.rdSI (n:=0) rfl)) (Qqo hsd)) (Qf rfl) (by decide) (fun z14=>?_);have hnw:=Qacf hsd;refine Qhn ?_;rintro⟨v15,v16,v17,v18,v19⟩ rfl;refine fm 0 ?_;rintro A20 c21 rfl m22;refine fm 1 ?_;rintro A24 c25 rfl m26;refine fm 2 ?_;rintro A28 c29 rfl m30;refine fm 3 ?_;rintro A32 c33 rfl m34;refine fm 4 ?_;rintro A36 c37 rfl m38;refine wm ?_;refine wv (fun W hm=>Qfp rfl rfl) ?_;refine wv (fun W hm=>Qfp rfl rfl) ?_;refine Qbo Qal rfl (Qf rfl) (by decide) (fun p40=>?_);let K4:List Value:=[.slice A20 (((Qgm ((Qed x0b x0).1)).1).d.c).length c21,iV (((Qgm ((Qed x0b x0).1)).1).d.f),iV (((Qgm ((Qed x0b x0).1)).1).g), .slice A24 (((Qgm ((Qed x0b x0).1)).1).l).length c25, .slice A28 (((Qgm ((Qed x0b x0).1)).1).a).length c29, .slice A32 (((Qgm ((Qed x0b x0).1)).1).j).length c33, .slice A36 (((Qgm ((Qed x0b x0).1)).1).k).length c37,iV (((Qgm ((Qed x0b x0).1)).1).n)];refine Qdf (p:=p40) (o:=0) (cs':=K4) (fun w hm=>hm.front (n:=0) rfl) Qal rfl (Nat.le_of_ble_eq_true rfl) rfl rfl rfl rfl (Qf rfl) ?_;refine wa (nt' (Qj (sr (wm (wm ?_)))));let I17:It:=iS (tSl Qy 163) 100 A20 c21 (((Qgm ((Qed x0b x0).1)).1).d.c);let I18:It:=iS Qa 3 A24 c25 (((Qgm ((Qed x0b x0).1)).1).l);let I19:It:=iS Qz 61 A28 c29 (((Qgm ((Qed x0b x0).1)).1).a);let I20:It:=iS Qaz 80 A32 c33 (((Qgm ((Qed x0b x0).1)).1).j);let I21:It:=iS Qaw 102 A36 c37 (((Qgm ((Qed x0b x0).1)).1).k);let I22:It:=iS (tSl Qy 163) 100 A10 c11 (((Qed x0b x0).1).c);let J30:List It:=I22::J29;let J31:List It:=Qb p40 39 K4::I17::I18::I19::I20::I21::J30;refine Qcp (χ:=Unit) (val:=fun x=>iV ((Qd x0b ((Qed x0b x0).2) x1).1)) (js:=fun x=>(Qb p 177 [.slice A2 x0b.length c3,nI (((Qd x0b ((Qed x0b x0).2) x1).2).i),iV ((Qd x0b ((Qed x0b x0).2) x1).2).h]::J31)) (Qs Qfh rfl) (fun W hm=>Qfi B w0 J31 W p _ x0b ((Qed x0b x0).2) r5 x1 s_0 (hm.front (n:=7) rfl)) (Qf rfl) (by decide) (fun z41=>?_);have hb:=Qef x0b ((Qed x0b x0).2) x1;obtain⟨G42,hG42⟩:∃ G,G=(Qd x0b ((Qed x0b x0).2) x1):=⟨_,rfl⟩;rw[← hG42];rw[← hG42] at hb;refine wa (nt' ?_);let F1:=fun k (s:Int×Nat×Int×Qk)=>Qqm x0b k s.1 s.2.1 s.2.2.1 s.2.2.2
 let R2:=Qdo (R:=(Qk×Qaf)) F1;refine Qjs (σ:=(Int×Nat×Int×Qk)×(Option Addr×Nat×Option Addr×Nat×Option Addr×Nat×Option Addr×Nat×Option Addr×Nat)) (fun s=>[(4,bp p7),(5,bp p40)]) (fun s=>(Qb p 177 [.slice A2 x0b.length c3,nI s.1.2.1,iV s.1.2.2.1]::Qb p40 39 [.slice s.2.1 s.1.2.2.2.d.c.length s.2.2.1,iV s.1.2.2.2.d.f,iV s.1.2.2.2.g, .slice s.2.2.2.1 s.1.2.2.2.l.length s.2.2.2.2.1, .slice s.2.2.2.2.2.1 s.1.2.2.2.a.length s.2.2.2.2.2.2.1, .slice s.2.2.2.2.2.2.2.1 s.1.2.2.2.j.length s.2.2.2.2.2.2.2.2.1, .slice s.2.2.2.2.2.2.2.2.2.1 s.1.2.2.2.k.length s.2.2.2.2.2.2.2.2.2.2,iV s.1.2.2.2.n]::iS (tSl Qy 163) 100 s.2.1 s.2.2.1 s.1.2.2.2.d.c::iS Qa 3 s.2.2.2.1 s.2.2.2.2.1 s.1.2.2.2.l::iS Qz 61 s.2.2.2.2.2.1 s.2.2.2.2.2.2.1 s.1.2.2.2.a::iS Qaz 80 s.2.2.2.2.2.2.2.1 s.2.2.2.2.2.2.2.2.1 s.1.2.2.2.j::iS Qaw 102 s.2.2.2.2.2.2.2.2.2.1 s.2.2.2.2.2.2.2.2.2.2 s.1.2.2.2.k::J30)) (fun s=>R2 ((G42.1).toNat+1-0) 0 (G42.1,G42.2.i,G42.2.h,((Qgm ((Qed x0b x0).1)).1))=Sum.inr s.1) ?_ ?_
 ·refine Qaj ?_;refine Qnn (σ:=Nat×(Int×Nat×Int×Qk)×(Option Addr×Nat×Option Addr×Nat×Option Addr×Nat×Option Addr×Nat×Option Addr×Nat)) (fun s=>[(0,bp p),(4,bp p7),(5,bp p40),(7,iV s.2.1.1)]) (fun s=>(Qb p 177 [.slice A2 x0b.length c3,nI s.2.1.2.1,iV s.2.1.2.2.1]::Qb p40 39 [.slice s.2.2.1 s.2.1.2.2.2.d.c.length s.2.2.2.1,iV s.2.1.2.2.2.d.f,iV s.2.1.2.2.2.g, .slice s.2.2.2.2.1 s.2.1.2.2.2.l.length s.2.2.2.2.2.1, .slice s.2.2.2.2.2.2.1 s.2.1.2.2.2.a.length s.2.2.2.2.2.2.2.1, .slice s.2.2.2.2.2.2.2.2.1 s.2.1.2.2.2.j.length s.2.2.2.2.2.2.2.2.2.1, .slice s.2.2.2.2.2.2.2.2.2.2.1 s.2.1.2.2.2.k.length s.2.2.2.2.2.2.2.2.2.2.2,iV s.2.1.2.2.2.n]::iS (tSl Qy 163) 100 s.2.2.1 s.2.2.2.1 s.2.1.2.2.2.d.c::iS Qa 3 s.2.2.2.2.1 s.2.2.2.2.2.1 s.2.1.2.2.2.l::iS Qz 61 s.2.2.2.2.2.2.1 s.2.2.2.2.2.2.2.1 s.2.1.2.2.2.a::iS Qaz 80 s.2.2.2.2.2.2.2.2.1 s.2.2.2.2.2.2.2.2.2.1 s.2.1.2.2.2.j::iS Qaw 102 s.2.2.2.2.2.2.2.2.2.2.1 s.2.2.2.2.2.2.2.2.2.2.2 s.2.1.2.2.2.k::J30)) (fun s=>s.1+((s.2.1.1).toNat)+1≤(G42.1).toNat+1∧R2 ((G42.1).toNat+1-s.1) s.1 s.2.1=R2 ((G42.1).toNat+1-0) 0 (G42.1,G42.2.i,G42.2.h,((Qgm ((Qed x0b x0).1)).1))∧Qgu s.2.1.2.2.2∧0≤s.2.1.1∧s.2.1.1≤14) (fun s=>(G42.1).toNat+1-s.1) (0,(G42.1,G42.2.i,G42.2.h,((Qgm ((Qed x0b x0).1)).1)),(A20,c21,A24,c25,A28,c29,A32,c33,A36,c37)) sl4 ⟨(show 0+((G42.1).toNat)+1≤(G42.1).toNat+1 from by omega),rfl,hnw,(show 0≤G42.1 from by omega),(show G42.1≤14 from by omega)⟩ ?_;rintro⟨k43,⟨s44,s45,s46,E47⟩,⟨A48,c49,A50,c51,A52,c53,A54,c55,A56,c57⟩⟩ H60 _ _ e e';dsimp only at H60 ⊢;subst e e';obtain⟨hk58,hF59,hi61,hi62,hi63⟩:=H60;have hsm:=hi61.1;have HQ:=Qwr hi61;have hw1:=Qdp (n:=s44-1) (by omega) (by omega);refine Qj (sr (wm ?_));refine wv (fun W hm=>Qem rfl rfl) ?_;refine nt' ?_;rcases dcd (0<s44) with⟨h64,g65⟩|⟨h64,g65⟩
  ·refine Qr rfl g65 ?_;refine Qac (Qi (Qj (Qaj (sr ?_))));let K5:List Value:=[.slice A48 E47.d.c.length c49,iV E47.d.f,iV E47.g, .slice A50 E47.l.length c51, .slice A52 E47.a.length c53, .slice A54 E47.j.length c55, .slice A56 E47.k.length c57,iV E47.n];refine wv (fun W hm=>Qab (cs:=K5) Qt Qal rfl rfl (hm.boxCells (n:=1) rfl)) ?_;refine Qbo Qal rfl (Qf rfl) (by decide) (fun p66=>?_);refine Qdf (p:=p66) (o:=0) (cs':=K5) (fun w hm=>hm.front (n:=0) rfl) Qal rfl (Nat.le_of_ble_eq_true rfl) rfl rfl rfl rfl (Qf rfl) ?_;refine nt' (Qj (sr (wm ?_)));let I23:It:=iS (tSl Qy 163) 100 A48 c49 E47.d.c;let J32:List It:=Qb p66 39 K5::Qb p40 39 K5::I23::iS Qa 3 A50 c51 E47.l::iS Qz 61 A52 c53 E47.a::iS Qaz 80 A54 c55 E47.j::iS Qaw 102 A56 c57 E47.k::J30;refine Qcp (χ:=Unit) (val:=fun x=>iV ((Qd x0b (⟨s45,s46⟩:Qaf) 7).1)) (js:=fun x=>(Qb p 177 [.slice A2 x0b.length c3,nI (((Qd x0b (⟨s45,s46⟩:Qaf) 7).2).i),iV ((Qd x0b (⟨s45,s46⟩:Qaf) 7).2).h]::J32)) (Qs Qfh rfl) (fun W hm=>Qfi B w0 J32 W p _ x0b (⟨s45,s46⟩:Qaf) r5 7 s_0 (hm.front (n:=1) rfl)) (Qf rfl) (by decide) (fun z67=>?_);have hb:=Qef x0b (⟨s45,s46⟩:Qaf) 7;obtain⟨G68,hG68⟩:∃ G,G=(Qd x0b (⟨s45,s46⟩:Qaf) 7):=⟨_,rfl⟩;rw[← hG68];rw[← hG68] at hb;refine nt' (Qaj (Qj (sr ?_)));refine wv (fun W hm=>Qde rfl rfl) ?_;refine wa (nt' ?_);rcases dce G68.1 0 with⟨h69,g70⟩|⟨h69,g70⟩
   ·refine Qr rfl g70 ?_;refine Qac (Qi ?_);refine Qr rfl g70 ?_;obtain⟨G71,hG71⟩:∃ G,G=(Qfn x0b ((Qd x0b G68.2 6).2) ((Qd x0b G68.2 6).1)):=⟨_,rfl⟩;refine rd2 13 [12] (s:=(Qb p40 39 K5::I23::iS Qa 3 A50 c51 E47.l::iS Qz 61 A52 c53 E47.a::iS Qaz 80 A54 c55 E47.j::iS Qaw 102 A56 c57 E47.k::J30)) (s2:=J32) (pn 10 [2,3,4,5,6,7,8,9]) (pn 10 [1,2,3,4,5,6,7,8,9]) ?_;let K6:List Value:=[.slice A2 x0b.length c3,nI G71.2.i,iV G71.2.h];refine Qlc (σ:=Option Addr×Nat×Option Addr×Nat×Nat) (fun s=>J32) 13 127 6 (fun s=>[(0,bp p),(4,bp p7),(5,bp p40),(7,iV s44),(8,bp p66),(34, .agg #[.slice A48 E47.d.c.length c49,iV E47.d.f,iV E47.g, .slice A50 E47.l.length c51, .slice A52 E47.a.length c53, .slice A54 E47.j.length c55, .slice A56 E47.k.length c57,iV E47.n]),(39,bp p),(38, .agg #[iV G71.1.Id,iV G71.1.u, .slice s.1 G71.1.o.length s.2.1, .slice s.2.2.1 G71.1.t.length s.2.2.2.1]),(40, .slice (some ⟨s.2.2.2.2,0,none⟩) 4 4)]) (fun s=>(Qb s.2.2.2.2 3 [iV 0,iV 0,iV 1,iV 2]::iS Qbl 180 s.1 s.2.1 G71.1.o::iS Qa 3 s.2.2.1 s.2.2.2.1 G71.1.t::Qb p 177 K6::J32)) ?_ (fun H=>?_)
    ·rintro⟨A76,c77,A80,c81,p84⟩;show QD _ _ _ _ _ _ _ _ [(0,bp p),(4,bp p7),(5,bp p40),(7,iV s44),(8,bp p66),(34, .agg #[.slice A48 E47.d.c.length c49,iV E47.d.f,iV E47.g, .slice A50 E47.l.length c51, .slice A52 E47.a.length c53, .slice A54 E47.j.length c55, .slice A56 E47.k.length c57,iV E47.n]),(39,bp p),(38, .agg #[iV G71.1.Id,iV G71.1.u, .slice A76 G71.1.o.length c77, .slice A80 G71.1.t.length c81]),(40, .slice (sA p84) 4 4)] _ J32 _ (Qb p84 3 [iV 0,iV 0,iV 1,iV 2]::iS Qbl 180 A76 c77 G71.1.o::iS Qa 3 A80 c81 G71.1.t::Qb p 177 K6::J32);refine Qih (n:=1) rfl ?_;intro m85 m86;refine Qih (n:=2) rfl ?_;intro m87 m88;refine qoD 13 7 255 rfl ?_;refine Qgp (fun W hm=>Mem.litOwn (E:=Qa) (xs:=[0,0,1,2]) rfl (show 4≤maxLen from by decide) (fun _=>(Qdc (E:=Qa) (L1:=[]) Qbu (Qdc (E:=Qa) (L1:=[]) Qbu (Qdc (E:=Qa) (L1:=[]) Qbu (Qdc (E:=Qa) (L1:=[]) Qbu Qfa))))) (hm.front (n:=0) rfl)) ?_;let J33:List It:=iS Qbl 180 A76 c77 G71.1.o::iS Qa 3 A80 c81 G71.1.t::J32;refine Qcp (χ:=Unit) (val:=fun x=>iV ((Qcm x0b G71.2 [0,0,1,2]).1)) (js:=fun x=>(Qb p 177 [.slice A2 x0b.length c3,nI (((Qcm x0b G71.2 [0,0,1,2]).2).i),iV ((Qcm x0b G71.2 [0,0,1,2]).2).h]::Qh (tSl Qa 3) [.slice (sA p84) 4 4] [0,0,1,2]::J33)) (Qs Qns rfl) (fun W hm=>Qod B w0 J33 W p _ x0b G71.2 r5 _ [0,0,1,2] s_0 (Nat.le_of_ble_eq_true rfl) (by first|decide|exact Nat.succ_pos _) ((hm.front (n:=0) rfl).front (n:=3) rfl)) (Qf rfl) (by decide) (fun z90=>?_);obtain⟨G91,hG91⟩:∃ G,G=(Qcm x0b G71.2 [0,0,1,2]):=⟨_,rfl⟩;rw[← hG91];refine qnD (pn 13 [5,6,7,8,9,10,11,12]) (pn 13 [4,5,6,7,8,9,10,11,12]) ?_;refine qoD 13 8 511 rfl ?_;refine Qii (χ:=List Value) (val:=fun x=> .tuple #[.agg x.toArray, .bool ((Qev E47 G71.1 G91.1).2)]) (js:=fun x=>[Qh Qbz x ((Qev E47 G71.1 G91.1).1)]) (Qs cb32 rfl) (fun W hm=>Qahq W _ E47 _ G71.1 G91.1 (Qfs (x:=E47) (hm.rdSI (n:=6) rfl) (hm.rdSI (n:=7) rfl) (hm.rdSI (n:=8) rfl) (hm.rdSI (n:=9) rfl) (hm.rdSI (n:=10) rfl)) (Qhc (x:=G71.1) (hm.rdSI (n:=2) rfl) (hm.rdSI (n:=3) rfl)) hsm (by first|exact Qqo hsd|exact Qit hqf|exact hus|(rw[hG71];exact Qit (Qjg _ _ _)))) (Qf rfl) (by decide) (fun z92=>?_);refine Qhn ?_;rintro⟨v93,v94,v95,v96,v97⟩ rfl;refine fm 0 ?_;rintro A98 c99 rfl m100;refine fm 1 ?_;rintro A102 c103 rfl m104;refine fm 2 ?_;rintro A106 c107 rfl m108;refine fm 3 ?_;rintro A110 c111 rfl m112;refine fm 4 ?_;rintro A114 c115 rfl m116;refine qnD (pn 18 [10,11,12,13,14,15,16,17]) (pn 18 [9,10,11,12,13,14,15,16,17]) ?_;refine qtD 13 9 1023 rfl vmv ?_;refine qtD 13 10 2047 rfl (fun W hm=>Qfp rfl rfl) ?_;refine qtP 13 11 4095 rfl (fun W=>Qfp rfl rfl) ?_;refine qoD 13 12 8191 rfl ?_;let K7:List Value:=[.slice A98 (((Qev E47 G71.1 G91.1).1).d.c).length c99,iV (((Qev E47 G71.1 G91.1).1).d.f),iV (((Qev E47 G71.1 G91.1).1).g), .slice A102 (((Qev E47 G71.1 G91.1).1).l).length c103, .slice A106 (((Qev E47 G71.1 G91.1).1).a).length c107, .slice A110 (((Qev E47 G71.1 G91.1).1).j).length c111, .slice A114 (((Qev E47 G71.1 G91.1).1).k).length c115,iV (((Qev E47 G71.1 G91.1).1).n)];refine Qdf (p:=p66) (o:=0) (cs':=K7) (fun w hm=>hm.front (n:=9) rfl) Qal rfl (Nat.le_of_ble_eq_true rfl) rfl rfl rfl rfl (Qf rfl) ?_;refine qxD (pn 18 [10,11,12,13,14,15,16,17]) ?_;refine Qdn (by kernel_rfl) ?_;refine Qar (Qi ?_);refine Qdb (pn 18 [0,1,2,3,4,5,6,10,11,12,13,14,15,16,17]) ?_;refine Qae ?_;refine wv (fun W hm=>Qab (cs:=K7) Qt Qal rfl rfl (hm.boxCells (n:=0) rfl)) ?_;refine Qdf (p:=p40) (o:=0) (cs':=K7) (fun w hm=>hm.front (n:=7) rfl) Qal rfl (Nat.le_of_ble_eq_true rfl) rfl rfl rfl rfl (Qf rfl) ?_;refine Qai (Qar (Qi (Qae (wm ?_))));refine wv (fun W hm=>Qjf rfl rfl) ?_;refine wa (Qai ?_);exact Qax (k43+1,((IntKind.i64.wrap (s44-1)),G91.2.i,G91.2.h,((Qev E47 G71.1 G91.1).1)),(A98,c99,A102,c103,A106,c107,A110,c111,A114,c115)) sl4 (pn 15 [7,0,2,3,4,5,6,13,14]) ⟨(show(k43+1)+(((IntKind.i64.wrap (s44-1))).toNat)+1≤(G42.1).toNat+1 from by omega),nxb hF59 (by subst hG42 hG68 hG71 hG91;exact Qc g65 (Qc g70 (rfl))),(show Qgu ((Qev E47 G71.1 G91.1).1) from by first|exact Qnq hi61|exact Qop hi61 (by first|exact Qit hqf|(subst_vars;exact Qit (Qjg _ _ _)))|exact Qou hi61 _|exact Qor hi61 _),(show 0≤(IntKind.i64.wrap (s44-1)) from by omega),(show(IntKind.i64.wrap (s44-1))≤14 from by omega)⟩ (show(G42.1).toNat+1-(k43+1)<(G42.1).toNat+1-k43 from by omega)
    refine qtD 13 0 1 rfl (fun W hm=>Qab (cs:=K5) Qt Qal rfl rfl (hm.boxCells (n:=1) rfl)) ?_;refine qtD 13 1 3 rfl vmv ?_;refine qtD 13 2 7 rfl vmv ?_;refine qtD 13 5 39 rfl vmv ?_;refine qaD [3,6] ?_;refine qcD 13 47 rfl ?_ ?_
    ·refine Qcp (χ:=Unit) (val:=fun x=>iV ((Qd x0b G68.2 6).1)) (js:=fun x=>(Qb p 177 [.slice A2 x0b.length c3,nI (((Qd x0b G68.2 6).2).i),iV ((Qd x0b G68.2 6).2).h]::J32)) (Qs Qfh rfl) (fun W hm=>Qfi B w0 J32 W p _ x0b G68.2 r5 6 s_0 (hm.front (n:=0) rfl)) (Qf rfl) (by decide) (fun z119=>?_);have hb:=Qef x0b G68.2 6;refine qnD (pn 10 [2,3,4,5,6,7,8,9]) (pn 10 [1,2,3,4,5,6,7,8,9]) ?_;refine qaD [4,6] ?_;refine qcD 13 63 rfl ?_ ?_
     ·refine Qcp (χ:=List Value) (val:=fun x=> .agg x.toArray) (js:=fun x=>(Qh Qcx x ((Qfn x0b ((Qd x0b G68.2 6).2) ((Qd x0b G68.2 6).1)).1)::Qb p 177 [.slice A2 x0b.length c3,nI (((Qfn x0b ((Qd x0b G68.2 6).2) ((Qd x0b G68.2 6).1)).2).i),iV ((Qfn x0b ((Qd x0b G68.2 6).2) ((Qd x0b G68.2 6).1)).2).h]::J32)) (Qs Qox rfl) (fun W hm=>Qqk B w0 J32 W p _ x0b ((Qd x0b G68.2 6).2) r5 ((Qd x0b G68.2 6).1) s_0 (hm.front (n:=0) rfl)) (Qf rfl) (by decide) (fun z120=>?_);have hqf:=Qjg x0b ((Qd x0b G68.2 6).2) ((Qd x0b G68.2 6).1);rw[← hG71];rw[← hG71] at hqf;refine Qko ?_;rintro⟨v121,v122⟩ rfl;refine fm 0 ?_;rintro A123 c124 rfl m125;refine fm 1 ?_;rintro A127 c128 rfl m129;refine qnD (pn 12 [4,5,6,7,8,9,10,11]) (pn 12 [3,4,5,6,7,8,9,10,11]) ?_;refine qoD 13 6 127 rfl ?_;refine Qcf (cs:=[iV 0,iV 0,iV 1,iV 2]) Qo Qg rfl (by decide) (by decide) rfl (by kernel_rfl) (Qf rfl) (by decide) (fun p131=>?_);refine qnD (pn 13 [5,6,7,8,9,10,11,12]) (pn 13 [4,5,6,7,8,9,10,11,12]) ?_;exact Qdv sl9 idM (H (A123,c124,A127,c128,p131))
     refine qcD 13 111 rfl ?_ ?_
     ·refine Qcf (cs:=[iV 0,iV 0,iV 1,iV 2]) Qo Qg rfl (by decide) (by decide) rfl (by kernel_rfl) (Qf rfl) (by decide) (fun p132=>?_);refine qnD (pn 11 [3,4,5,6,7,8,9,10]) (pn 11 [2,3,4,5,6,7,8,9,10]) ?_;refine qoD 13 4 127 rfl ?_;let I24:It:=Qb p132 3 [iV 0,iV 0,iV 1,iV 2];refine Qcp (χ:=List Value) (val:=fun x=> .agg x.toArray) (js:=fun x=>(Qh Qcx x ((Qfn x0b ((Qd x0b G68.2 6).2) ((Qd x0b G68.2 6).1)).1)::Qb p 177 [.slice A2 x0b.length c3,nI (((Qfn x0b ((Qd x0b G68.2 6).2) ((Qd x0b G68.2 6).1)).2).i),iV ((Qfn x0b ((Qd x0b G68.2 6).2) ((Qd x0b G68.2 6).1)).2).h]::(I24::J32))) (Qs Qox rfl) (fun W hm=>Qqk B w0 (I24::J32) W p _ x0b ((Qd x0b G68.2 6).2) r5 ((Qd x0b G68.2 6).1) s_0 (hm.front (n:=1) rfl)) (Qf rfl) (by decide) (fun z133=>?_);have hqf:=Qjg x0b ((Qd x0b G68.2 6).2) ((Qd x0b G68.2 6).1);rw[← hG71];rw[← hG71] at hqf;refine Qko ?_;rintro⟨v134,v135⟩ rfl;refine fm 0 ?_;rintro A136 c137 rfl m138;refine fm 1 ?_;rintro A140 c141 rfl m142;refine qnD (pn 13 [5,6,7,8,9,10,11,12]) (pn 13 [4,5,6,7,8,9,10,11,12]) ?_;exact Qdv sl9 (pn 13 [3,0,1,2,4,5,6,7,8,9,10,11,12]) (H (A136,c137,A140,c141,p132))
     exact Qff
    refine qcD 13 103 rfl ?_ ?_
    ·refine Qcf (cs:=[iV 0,iV 0,iV 1,iV 2]) Qo Qg rfl (by decide) (by decide) rfl (by kernel_rfl) (Qf rfl) (by decide) (fun p144=>?_);refine qnD (pn 11 [3,4,5,6,7,8,9,10]) (pn 11 [2,3,4,5,6,7,8,9,10]) ?_;refine qoD 13 3 111 rfl ?_;let I25:It:=Qb p144 3 [iV 0,iV 0,iV 1,iV 2];refine Qcp (χ:=Unit) (val:=fun x=>iV ((Qd x0b G68.2 6).1)) (js:=fun x=>(Qb p 177 [.slice A2 x0b.length c3,nI (((Qd x0b G68.2 6).2).i),iV ((Qd x0b G68.2 6).2).h]::(I25::J32))) (Qs Qfh rfl) (fun W hm=>Qfi B w0 (I25::J32) W p _ x0b G68.2 r5 6 s_0 (hm.front (n:=1) rfl)) (Qf rfl) (by decide) (fun z145=>?_);have hb:=Qef x0b G68.2 6;refine qnD (pn 11 [3,4,5,6,7,8,9,10]) (pn 11 [2,3,4,5,6,7,8,9,10]) ?_;refine qoD 13 4 127 rfl ?_;refine Qcp (χ:=List Value) (val:=fun x=> .agg x.toArray) (js:=fun x=>(Qh Qcx x ((Qfn x0b ((Qd x0b G68.2 6).2) ((Qd x0b G68.2 6).1)).1)::Qb p 177 [.slice A2 x0b.length c3,nI (((Qfn x0b ((Qd x0b G68.2 6).2) ((Qd x0b G68.2 6).1)).2).i),iV ((Qfn x0b ((Qd x0b G68.2 6).2) ((Qd x0b G68.2 6).1)).2).h]::(I25::J32))) (Qs Qox rfl) (fun W hm=>Qqk B w0 (I25::J32) W p _ x0b ((Qd x0b G68.2 6).2) r5 ((Qd x0b G68.2 6).1) s_0 (hm.front (n:=0) rfl)) (Qf rfl) (by decide) (fun z146=>?_);have hqf:=Qjg x0b ((Qd x0b G68.2 6).2) ((Qd x0b G68.2 6).1);rw[← hG71];rw[← hG71] at hqf;refine Qko ?_;rintro⟨v147,v148⟩ rfl;refine fm 0 ?_;rintro A149 c150 rfl m151;refine fm 1 ?_;rintro A153 c154 rfl m155;refine qnD (pn 13 [5,6,7,8,9,10,11,12]) (pn 13 [4,5,6,7,8,9,10,11,12]) ?_;exact Qdv sl9 (pn 13 [3,0,1,2,4,5,6,7,8,9,10,11,12]) (H (A149,c150,A153,c154,p144))
    exact Qff
   refine Qx rfl g70 ?_;refine Qae ?_;refine wv (fun W hm=>Qde rfl rfl) ?_;refine wa (nt' ?_);rcases dce G68.1 1 with⟨h157,g158⟩|⟨h157,g158⟩
   ·refine Qr rfl g158 ?_;obtain⟨G159,hG159⟩:∃ G,G=(Qfn x0b ((Qd x0b G68.2 6).2) ((Qd x0b G68.2 6).1)):=⟨_,rfl⟩;refine rd2 13 [12] (s:=(Qb p40 39 K5::I23::iS Qa 3 A50 c51 E47.l::iS Qz 61 A52 c53 E47.a::iS Qaz 80 A54 c55 E47.j::iS Qaw 102 A56 c57 E47.k::J30)) (s2:=J32) (pn 10 [2,3,4,5,6,7,8,9]) (pn 10 [1,2,3,4,5,6,7,8,9]) ?_;let K8:List Value:=[.slice A2 x0b.length c3,nI G159.2.i,iV G159.2.h];refine Qlc (σ:=Option Addr×Nat×Option Addr×Nat×Nat) (fun s=>J32) 13 127 6 (fun s=>[(0,bp p),(4,bp p7),(5,bp p40),(7,iV s44),(8,bp p66),(34, .agg #[.slice A48 E47.d.c.length c49,iV E47.d.f,iV E47.g, .slice A50 E47.l.length c51, .slice A52 E47.a.length c53, .slice A54 E47.j.length c55, .slice A56 E47.k.length c57,iV E47.n]),(39,bp p),(38, .agg #[iV G159.1.Id,iV G159.1.u, .slice s.1 G159.1.o.length s.2.1, .slice s.2.2.1 G159.1.t.length s.2.2.2.1]),(40, .slice (some ⟨s.2.2.2.2,0,none⟩) 4 4)]) (fun s=>(Qb s.2.2.2.2 3 [iV 0,iV 0,iV 1,iV 2]::iS Qbl 180 s.1 s.2.1 G159.1.o::iS Qa 3 s.2.2.1 s.2.2.2.1 G159.1.t::Qb p 177 K8::J32)) ?_ (fun H=>?_)
    ·rintro⟨A164,c165,A168,c169,p172⟩;show QD _ _ _ _ _ _ _ _ [(0,bp p),(4,bp p7),(5,bp p40),(7,iV s44),(8,bp p66),(34, .agg #[.slice A48 E47.d.c.length c49,iV E47.d.f,iV E47.g, .slice A50 E47.l.length c51, .slice A52 E47.a.length c53, .slice A54 E47.j.length c55, .slice A56 E47.k.length c57,iV E47.n]),(39,bp p),(38, .agg #[iV G159.1.Id,iV G159.1.u, .slice A164 G159.1.o.length c165, .slice A168 G159.1.t.length c169]),(40, .slice (sA p172) 4 4)] _ J32 _ (Qb p172 3 [iV 0,iV 0,iV 1,iV 2]::iS Qbl 180 A164 c165 G159.1.o::iS Qa 3 A168 c169 G159.1.t::Qb p 177 K8::J32);refine Qih (n:=1) rfl ?_;intro m173 m174;refine Qih (n:=2) rfl ?_;intro m175 m176;refine qoD 13 7 255 rfl ?_;refine Qgp (fun W hm=>Mem.litOwn (E:=Qa) (xs:=[0,0,1,2]) rfl (show 4≤maxLen from by decide) (fun _=>(Qdc (E:=Qa) (L1:=[]) Qbu (Qdc (E:=Qa) (L1:=[]) Qbu (Qdc (E:=Qa) (L1:=[]) Qbu (Qdc (E:=Qa) (L1:=[]) Qbu Qfa))))) (hm.front (n:=0) rfl)) ?_;let J34:List It:=iS Qbl 180 A164 c165 G159.1.o::iS Qa 3 A168 c169 G159.1.t::J32;refine Qcp (χ:=Unit) (val:=fun x=>iV ((Qcm x0b G159.2 [0,0,1,2]).1)) (js:=fun x=>(Qb p 177 [.slice A2 x0b.length c3,nI (((Qcm x0b G159.2 [0,0,1,2]).2).i),iV ((Qcm x0b G159.2 [0,0,1,2]).2).h]::Qh (tSl Qa 3) [.slice (sA p172) 4 4] [0,0,1,2]::J34)) (Qs Qns rfl) (fun W hm=>Qod B w0 J34 W p _ x0b G159.2 r5 _ [0,0,1,2] s_0 (Nat.le_of_ble_eq_true rfl) (by first|decide|exact Nat.succ_pos _) ((hm.front (n:=0) rfl).front (n:=3) rfl)) (Qf rfl) (by decide) (fun z178=>?_);obtain⟨G179,hG179⟩:∃ G,G=(Qcm x0b G159.2 [0,0,1,2]):=⟨_,rfl⟩;rw[← hG179];refine qnD (pn 13 [5,6,7,8,9,10,11,12]) (pn 13 [4,5,6,7,8,9,10,11,12]) ?_;refine qoD 13 8 511 rfl ?_;refine Qii (χ:=List Value) (val:=fun x=> .tuple #[.agg x.toArray, .bool ((Qev E47 G159.1 G179.1).2)]) (js:=fun x=>[Qh Qbz x ((Qev E47 G159.1 G179.1).1)]) (Qs cb32 rfl) (fun W hm=>Qahq W _ E47 _ G159.1 G179.1 (Qfs (x:=E47) (hm.rdSI (n:=6) rfl) (hm.rdSI (n:=7) rfl) (hm.rdSI (n:=8) rfl) (hm.rdSI (n:=9) rfl) (hm.rdSI (n:=10) rfl)) (Qhc (x:=G159.1) (hm.rdSI (n:=2) rfl) (hm.rdSI (n:=3) rfl)) hsm (by first|exact Qqo hsd|exact Qit hqf|exact hus|(rw[hG159];exact Qit (Qjg _ _ _)))) (Qf rfl) (by decide) (fun z180=>?_);refine Qhn ?_;rintro⟨v181,v182,v183,v184,v185⟩ rfl;refine fm 0 ?_;rintro A186 c187 rfl m188;refine fm 1 ?_;rintro A190 c191 rfl m192;refine fm 2 ?_;rintro A194 c195 rfl m196;refine fm 3 ?_;rintro A198 c199 rfl m200;refine fm 4 ?_;rintro A202 c203 rfl m204;refine qnD (pn 18 [10,11,12,13,14,15,16,17]) (pn 18 [9,10,11,12,13,14,15,16,17]) ?_;refine qtD 13 9 1023 rfl vmv ?_;refine qtD 13 10 2047 rfl (fun W hm=>Qfp rfl rfl) ?_;refine qtP 13 11 4095 rfl (fun W=>Qfp rfl rfl) ?_;refine qoD 13 12 8191 rfl ?_;let K9:List Value:=[.slice A186 (((Qev E47 G159.1 G179.1).1).d.c).length c187,iV (((Qev E47 G159.1 G179.1).1).d.f),iV (((Qev E47 G159.1 G179.1).1).g), .slice A190 (((Qev E47 G159.1 G179.1).1).l).length c191, .slice A194 (((Qev E47 G159.1 G179.1).1).a).length c195, .slice A198 (((Qev E47 G159.1 G179.1).1).j).length c199, .slice A202 (((Qev E47 G159.1 G179.1).1).k).length c203,iV (((Qev E47 G159.1 G179.1).1).n)];refine Qdf (p:=p66) (o:=0) (cs':=K9) (fun w hm=>hm.front (n:=9) rfl) Qal rfl (Nat.le_of_ble_eq_true rfl) rfl rfl rfl rfl (Qf rfl) ?_;refine qxD (pn 18 [10,11,12,13,14,15,16,17]) ?_;refine Qdn (by kernel_rfl) ?_;refine Qar (Qi ?_);refine Qdb (pn 18 [0,1,2,3,4,5,6,10,11,12,13,14,15,16,17]) ?_;refine Qae ?_;refine wv (fun W hm=>Qab (cs:=K9) Qt Qal rfl rfl (hm.boxCells (n:=0) rfl)) ?_;refine Qdf (p:=p40) (o:=0) (cs':=K9) (fun w hm=>hm.front (n:=7) rfl) Qal rfl (Nat.le_of_ble_eq_true rfl) rfl rfl rfl rfl (Qf rfl) ?_;refine Qai (Qar (Qi (Qae (wm ?_))));refine wv (fun W hm=>Qjf rfl rfl) ?_;refine wa (Qai ?_);exact Qax (k43+1,((IntKind.i64.wrap (s44-1)),G179.2.i,G179.2.h,((Qev E47 G159.1 G179.1).1)),(A186,c187,A190,c191,A194,c195,A198,c199,A202,c203)) sl4 (pn 15 [7,0,2,3,4,5,6,13,14]) ⟨(show(k43+1)+(((IntKind.i64.wrap (s44-1))).toNat)+1≤(G42.1).toNat+1 from by omega),nxb hF59 (by subst hG42 hG68 hG159 hG179;exact Qc g65 (Qe g70 (Qc g158 (rfl)))),(show Qgu ((Qev E47 G159.1 G179.1).1) from by first|exact Qnq hi61|exact Qop hi61 (by first|exact Qit hqf|(subst_vars;exact Qit (Qjg _ _ _)))|exact Qou hi61 _|exact Qor hi61 _),(show 0≤(IntKind.i64.wrap (s44-1)) from by omega),(show(IntKind.i64.wrap (s44-1))≤14 from by omega)⟩ (show(G42.1).toNat+1-(k43+1)<(G42.1).toNat+1-k43 from by omega)
    refine qtD 13 0 1 rfl (fun W hm=>Qab (cs:=K5) Qt Qal rfl rfl (hm.boxCells (n:=1) rfl)) ?_;refine qtD 13 1 3 rfl vmv ?_;refine qtD 13 2 7 rfl vmv ?_;refine qtD 13 5 39 rfl vmv ?_;refine qaD [3,6] ?_;refine qcD 13 47 rfl ?_ ?_
    ·refine Qcp (χ:=Unit) (val:=fun x=>iV ((Qd x0b G68.2 6).1)) (js:=fun x=>(Qb p 177 [.slice A2 x0b.length c3,nI (((Qd x0b G68.2 6).2).i),iV ((Qd x0b G68.2 6).2).h]::J32)) (Qs Qfh rfl) (fun W hm=>Qfi B w0 J32 W p _ x0b G68.2 r5 6 s_0 (hm.front (n:=0) rfl)) (Qf rfl) (by decide) (fun z207=>?_);have hb:=Qef x0b G68.2 6;refine qnD (pn 10 [2,3,4,5,6,7,8,9]) (pn 10 [1,2,3,4,5,6,7,8,9]) ?_;refine qaD [4,6] ?_;refine qcD 13 63 rfl ?_ ?_
     ·refine Qcp (χ:=List Value) (val:=fun x=> .agg x.toArray) (js:=fun x=>(Qh Qcx x ((Qfn x0b ((Qd x0b G68.2 6).2) ((Qd x0b G68.2 6).1)).1)::Qb p 177 [.slice A2 x0b.length c3,nI (((Qfn x0b ((Qd x0b G68.2 6).2) ((Qd x0b G68.2 6).1)).2).i),iV ((Qfn x0b ((Qd x0b G68.2 6).2) ((Qd x0b G68.2 6).1)).2).h]::J32)) (Qs Qox rfl) (fun W hm=>Qqk B w0 J32 W p _ x0b ((Qd x0b G68.2 6).2) r5 ((Qd x0b G68.2 6).1) s_0 (hm.front (n:=0) rfl)) (Qf rfl) (by decide) (fun z208=>?_);have hqf:=Qjg x0b ((Qd x0b G68.2 6).2) ((Qd x0b G68.2 6).1);rw[← hG159];rw[← hG159] at hqf;refine Qko ?_;rintro⟨v209,v210⟩ rfl;refine fm 0 ?_;rintro A211 c212 rfl m213;refine fm 1 ?_;rintro A215 c216 rfl m217;refine qnD (pn 12 [4,5,6,7,8,9,10,11]) (pn 12 [3,4,5,6,7,8,9,10,11]) ?_;refine qoD 13 6 127 rfl ?_;refine Qcf (cs:=[iV 0,iV 0,iV 1,iV 2]) Qo Qg rfl (by decide) (by decide) rfl (by kernel_rfl) (Qf rfl) (by decide) (fun p219=>?_);refine qnD (pn 13 [5,6,7,8,9,10,11,12]) (pn 13 [4,5,6,7,8,9,10,11,12]) ?_;exact Qdv sl9 idM (H (A211,c212,A215,c216,p219))
     refine qcD 13 111 rfl ?_ ?_
     ·refine Qcf (cs:=[iV 0,iV 0,iV 1,iV 2]) Qo Qg rfl (by decide) (by decide) rfl (by kernel_rfl) (Qf rfl) (by decide) (fun p220=>?_);refine qnD (pn 11 [3,4,5,6,7,8,9,10]) (pn 11 [2,3,4,5,6,7,8,9,10]) ?_;refine qoD 13 4 127 rfl ?_;let I26:It:=Qb p220 3 [iV 0,iV 0,iV 1,iV 2];refine Qcp (χ:=List Value) (val:=fun x=> .agg x.toArray) (js:=fun x=>(Qh Qcx x ((Qfn x0b ((Qd x0b G68.2 6).2) ((Qd x0b G68.2 6).1)).1)::Qb p 177 [.slice A2 x0b.length c3,nI (((Qfn x0b ((Qd x0b G68.2 6).2) ((Qd x0b G68.2 6).1)).2).i),iV ((Qfn x0b ((Qd x0b G68.2 6).2) ((Qd x0b G68.2 6).1)).2).h]::(I26::J32))) (Qs Qox rfl) (fun W hm=>Qqk B w0 (I26::J32) W p _ x0b ((Qd x0b G68.2 6).2) r5 ((Qd x0b G68.2 6).1) s_0 (hm.front (n:=1) rfl)) (Qf rfl) (by decide) (fun z221=>?_);have hqf:=Qjg x0b ((Qd x0b G68.2 6).2) ((Qd x0b G68.2 6).1);rw[← hG159];rw[← hG159] at hqf;refine Qko ?_;rintro⟨v222,v223⟩ rfl;refine fm 0 ?_;rintro A224 c225 rfl m226;refine fm 1 ?_;rintro A228 c229 rfl m230;refine qnD (pn 13 [5,6,7,8,9,10,11,12]) (pn 13 [4,5,6,7,8,9,10,11,12]) ?_;exact Qdv sl9 (pn 13 [3,0,1,2,4,5,6,7,8,9,10,11,12]) (H (A224,c225,A228,c229,p220))
     exact Qff
    refine qcD 13 103 rfl ?_ ?_
    ·refine Qcf (cs:=[iV 0,iV 0,iV 1,iV 2]) Qo Qg rfl (by decide) (by decide) rfl (by kernel_rfl) (Qf rfl) (by decide) (fun p232=>?_);refine qnD (pn 11 [3,4,5,6,7,8,9,10]) (pn 11 [2,3,4,5,6,7,8,9,10]) ?_;refine qoD 13 3 111 rfl ?_;let I27:It:=Qb p232 3 [iV 0,iV 0,iV 1,iV 2];refine Qcp (χ:=Unit) (val:=fun x=>iV ((Qd x0b G68.2 6).1)) (js:=fun x=>(Qb p 177 [.slice A2 x0b.length c3,nI (((Qd x0b G68.2 6).2).i),iV ((Qd x0b G68.2 6).2).h]::(I27::J32))) (Qs Qfh rfl) (fun W hm=>Qfi B w0 (I27::J32) W p _ x0b G68.2 r5 6 s_0 (hm.front (n:=1) rfl)) (Qf rfl) (by decide) (fun z233=>?_);have hb:=Qef x0b G68.2 6;refine qnD (pn 11 [3,4,5,6,7,8,9,10]) (pn 11 [2,3,4,5,6,7,8,9,10]) ?_;refine qoD 13 4 127 rfl ?_;refine Qcp (χ:=List Value) (val:=fun x=> .agg x.toArray) (js:=fun x=>(Qh Qcx x ((Qfn x0b ((Qd x0b G68.2 6).2) ((Qd x0b G68.2 6).1)).1)::Qb p 177 [.slice A2 x0b.length c3,nI (((Qfn x0b ((Qd x0b G68.2 6).2) ((Qd x0b G68.2 6).1)).2).i),iV ((Qfn x0b ((Qd x0b G68.2 6).2) ((Qd x0b G68.2 6).1)).2).h]::(I27::J32))) (Qs Qox rfl) (fun W hm=>Qqk B w0 (I27::J32) W p _ x0b ((Qd x0b G68.2 6).2) r5 ((Qd x0b G68.2 6).1) s_0 (hm.front (n:=0) rfl)) (Qf rfl) (by decide) (fun z234=>?_);have hqf:=Qjg x0b ((Qd x0b G68.2 6).2) ((Qd x0b G68.2 6).1);rw[← hG159];rw[← hG159] at hqf;refine Qko ?_;rintro⟨v235,v236⟩ rfl;refine fm 0 ?_;rintro A237 c238 rfl m239;refine fm 1 ?_;rintro A241 c242 rfl m243;refine qnD (pn 13 [5,6,7,8,9,10,11,12]) (pn 13 [4,5,6,7,8,9,10,11,12]) ?_;exact Qdv sl9 (pn 13 [3,0,1,2,4,5,6,7,8,9,10,11,12]) (H (A237,c238,A241,c242,p232))
    exact Qff
   refine Qx rfl g158 ?_;refine sr ?_;refine wv (fun W hm=>Qde rfl rfl) ?_;refine wa (nt' ?_);rcases dce G68.1 2 with⟨h245,g246⟩|⟨h245,g246⟩
   ·refine Qr rfl g246 ?_;let J35:List It:=Qb p40 39 K5::iS Qa 3 A50 c51 E47.l::iS Qz 61 A52 c53 E47.a::iS Qaz 80 A54 c55 E47.j::iS Qaw 102 A56 c57 E47.k::J30;let J36:List It:=Qb p66 39 K5::J35;refine rd2 10 [9] (s:=J35) (s2:=J36) (pn 10 [2,4,5,6,7,8,9]) (pn 10 [1,2,4,5,6,7,8,9]) ?_;refine qtD 10 0 1 rfl (fun W hm=>Qab (cs:=K5) Qt Qal rfl rfl (hm.boxCells (n:=1) rfl)) ?_;refine qtD 10 1 3 rfl vmv ?_;refine qtD 10 2 7 rfl (vf Qt rfl Qat) ?_;let K10:List Value:=[.slice A48 E47.d.c.length c49,iV E47.d.f];refine qtD 10 3 15 rfl (fun W hm=>Qab (cs:=K10) Qau Qat rfl rfl (hm.boxPart (n:=1) rfl rfl)) ?_;refine qoD 10 4 31 rfl ?_;let K11:List Value:=[.slice A2 x0b.length c3,nI G68.2.i,iV G68.2.h];refine Qgp (js:=(Qh Qcw K10 E47.d::(Qb p 177 K11::J36))) (fun W hm=>Mem.join (is:=[I23]) (js:=(Qb p 177 K11::J36)) (fun _ _ hs=>Qfk (x:=E47.d) hs) (hm.front (n:=3) rfl)) ?_;refine Qcp (χ:=List Value) (val:=fun x=> .agg x.toArray) (js:=fun x=>(Qh Qhy x ((Qgb x0b G68.2 E47.d).1)::Qb p 177 [.slice A2 x0b.length c3,nI (((Qgb x0b G68.2 E47.d).2).i),iV ((Qgb x0b G68.2 E47.d).2).h]::Qh Qcw K10 E47.d::J36)) (Qs Qxw rfl) (fun W hm=>Qabe B w0 J36 W p _ x0b G68.2 r5 _ E47.d s_0 hsm.1 (HQ) ((hm.front (n:=0) rfl).front (n:=1) rfl)) (Qf rfl) (by decide) (fun z247=>?_);have hus:=Qabf x0b G68.2 E47.d;obtain⟨G248,hG248⟩:∃ G,G=(Qgb x0b G68.2 E47.d):=⟨_,rfl⟩;rw[← hG248];rw[← hG248] at hus;refine Qabn ?_;rintro v249 rfl;refine fm 0 ?_;rintro A250 c251 rfl m252;refine Qgp (js:=(Qh Qcw K10 E47.d::iS Qa 3 A250 c251 G248.1.Row.m::Qb p 177 [.slice A2 x0b.length c3,nI G248.2.i,iV G248.2.h]::J36)) (fun W hm=>(hm.front (n:=2) rfl)) ?_;refine Qhx ?_;rintro v255 h254;simp +zetaDelta only [List.cons.injEq] at h254;obtain⟨rfl, -, -⟩:=h254;refine qnD (pn 11 [4,5,6,7,8,9,10]) (pn 11 [3,4,5,6,7,8,9,10]) ?_;refine qoD 10 5 63 rfl ?_;refine Qii (χ:=List Value) (val:=fun x=> .tuple #[.agg x.toArray, .bool ((Qht E47 G248.1).2)]) (js:=fun x=>[Qh Qbz x ((Qht E47 G248.1).1)]) (Qs cb39 rfl) (fun W hm=>Qawq W _ E47 _ G248.1 (Qfs (x:=E47) (hm.rdSI (n:=0) rfl) (hm.rdSI (n:=5) rfl) (hm.rdSI (n:=6) rfl) (hm.rdSI (n:=7) rfl) (hm.rdSI (n:=8) rfl)) (Qqu (x:=G248.1) (hm.rdSI (n:=1) rfl)) hsm (by first|exact Qqo hsd|exact Qit hqf|exact hus|(rw[hG248];exact Qit (Qjg _ _ _)))) (Qf rfl) (by decide) (fun z256=>?_);refine Qhn ?_;rintro⟨v257,v258,v259,v260,v261⟩ rfl;refine fm 0 ?_;rintro A262 c263 rfl m264;refine fm 1 ?_;rintro A266 c267 rfl m268;refine fm 2 ?_;rintro A270 c271 rfl m272;refine fm 3 ?_;rintro A274 c275 rfl m276;refine fm 4 ?_;rintro A278 c279 rfl m280;refine qnD (pn 16 [9,10,11,12,13,14,15]) (pn 16 [8,9,10,11,12,13,14,15]) ?_;refine qtD 10 6 127 rfl vmv ?_;refine qtD 10 7 255 rfl (fun W hm=>Qfp rfl rfl) ?_;refine qtP 10 8 511 rfl (fun W=>Qfp rfl rfl) ?_;refine qoD 10 9 1023 rfl ?_;let K12:List Value:=[.slice A262 (((Qht E47 G248.1).1).d.c).length c263,iV (((Qht E47 G248.1).1).d.f),iV (((Qht E47 G248.1).1).g), .slice A266 (((Qht E47 G248.1).1).l).length c267, .slice A270 (((Qht E47 G248.1).1).a).length c271, .slice A274 (((Qht E47 G248.1).1).j).length c275, .slice A278 (((Qht E47 G248.1).1).k).length c279,iV (((Qht E47 G248.1).1).n)];refine Qdf (p:=p66) (o:=0) (cs':=K12) (fun w hm=>hm.front (n:=8) rfl) Qal rfl (Nat.le_of_ble_eq_true rfl) rfl rfl rfl rfl (Qf rfl) ?_;refine qxD (pn 16 [9,10,11,12,13,14,15]) ?_;refine Qdn (by kernel_rfl) ?_;refine Qar (Qi (Qae ?_));refine wv (fun W hm=>Qab (cs:=K12) Qt Qal rfl rfl (hm.boxCells (n:=0) rfl)) ?_;refine Qdf (p:=p40) (o:=0) (cs':=K12) (fun w hm=>hm.front (n:=9) rfl) Qal rfl (Nat.le_of_ble_eq_true rfl) rfl rfl rfl rfl (Qf rfl) ?_;refine Qai (Qar (Qi (Qae (wm ?_))));refine wv (fun W hm=>Qjf rfl rfl) ?_;refine wa (Qai ?_);exact Qax (k43+1,((IntKind.i64.wrap (s44-1)),G248.2.i,G248.2.h,((Qht E47 G248.1).1)),(A262,c263,A266,c267,A270,c271,A274,c275,A278,c279)) sl4 (pn 16 [9,0,2,3,4,5,6,14,15]) ⟨(show(k43+1)+(((IntKind.i64.wrap (s44-1))).toNat)+1≤(G42.1).toNat+1 from by omega),nxb hF59 (by subst hG42 hG68 hG248;exact Qc g65 (Qe g70 (Qe g158 (Qc g246 (rfl))))),(show Qgu ((Qht E47 G248.1).1) from by first|exact Qnq hi61|exact Qop hi61 (by first|exact Qit hqf|(subst_vars;exact Qit (Qjg _ _ _)))|exact Qou hi61 _|exact Qor hi61 _),(show 0≤(IntKind.i64.wrap (s44-1)) from by omega),(show(IntKind.i64.wrap (s44-1))≤14 from by omega)⟩ (show(G42.1).toNat+1-(k43+1)<(G42.1).toNat+1-k43 from by omega)
   refine Qx rfl g246 ?_;refine sr ?_;refine wv (fun W hm=>Qde rfl rfl) ?_;refine wa (nt' ?_);rcases dce G68.1 3 with⟨h283,g284⟩|⟨h283,g284⟩
   ·refine Qr rfl g284 ?_;refine rd2 8 [7] (s:=(Qb p40 39 K5::I23::iS Qa 3 A50 c51 E47.l::iS Qz 61 A52 c53 E47.a::iS Qaz 80 A54 c55 E47.j::iS Qaw 102 A56 c57 E47.k::J30)) (s2:=J32) (pn 10 [2,3,4,5,6,7,8,9]) (pn 10 [1,2,3,4,5,6,7,8,9]) ?_;refine qtD 8 0 1 rfl (fun W hm=>Qab (cs:=K5) Qt Qal rfl rfl (hm.boxCells (n:=1) rfl)) ?_;refine qtD 8 1 3 rfl vmv ?_;refine qoD 8 2 7 rfl ?_;refine Qcp (χ:=Unit) (val:=fun x=>iV ((Qd x0b G68.2 6).1)) (js:=fun x=>(Qb p 177 [.slice A2 x0b.length c3,nI (((Qd x0b G68.2 6).2).i),iV ((Qd x0b G68.2 6).2).h]::J32)) (Qs Qfh rfl) (fun W hm=>Qfi B w0 J32 W p _ x0b G68.2 r5 6 s_0 (hm.front (n:=0) rfl)) (Qf rfl) (by decide) (fun z285=>?_);have hb:=Qef x0b G68.2 6;refine qnD (pn 10 [2,3,4,5,6,7,8,9]) (pn 10 [1,2,3,4,5,6,7,8,9]) ?_;refine qoD 8 3 15 rfl ?_;refine Qii (χ:=List Value) (val:=fun x=> .tuple #[.agg x.toArray, .bool ((Qhs E47 ((Qd x0b G68.2 6).1)).2)]) (js:=fun x=>[Qh Qbz x ((Qhs E47 ((Qd x0b G68.2 6).1)).1)]) (Qs cb36 rfl) (fun W hm=>Qavx W _ E47 ((Qd x0b G68.2 6).1) (Qfs (x:=E47) (hm.rdSI (n:=3) rfl) (hm.rdSI (n:=4) rfl) (hm.rdSI (n:=5) rfl) (hm.rdSI (n:=6) rfl) (hm.rdSI (n:=7) rfl)) hsm) (Qf rfl) (by decide) (fun z286=>?_);refine Qhn ?_;rintro⟨v287,v288,v289,v290,v291⟩ rfl;refine fm 0 ?_;rintro A292 c293 rfl m294;refine fm 1 ?_;rintro A296 c297 rfl m298;refine fm 2 ?_;rintro A300 c301 rfl m302;refine fm 3 ?_;rintro A304 c305 rfl m306;refine fm 4 ?_;rintro A308 c309 rfl m310;refine qnD (pn 15 [7,8,9,10,11,12,13,14]) (pn 15 [6,7,8,9,10,11,12,13,14]) ?_;refine qtD 8 4 31 rfl vmv ?_;refine qtD 8 5 63 rfl (fun W hm=>Qfp rfl rfl) ?_;refine qtP 8 6 127 rfl (fun W=>Qfp rfl rfl) ?_;refine qoD 8 7 255 rfl ?_;let K13:List Value:=[.slice A292 (((Qhs E47 ((Qd x0b G68.2 6).1)).1).d.c).length c293,iV (((Qhs E47 ((Qd x0b G68.2 6).1)).1).d.f),iV (((Qhs E47 ((Qd x0b G68.2 6).1)).1).g), .slice A296 (((Qhs E47 ((Qd x0b G68.2 6).1)).1).l).length c297, .slice A300 (((Qhs E47 ((Qd x0b G68.2 6).1)).1).a).length c301, .slice A304 (((Qhs E47 ((Qd x0b G68.2 6).1)).1).j).length c305, .slice A308 (((Qhs E47 ((Qd x0b G68.2 6).1)).1).k).length c309,iV (((Qhs E47 ((Qd x0b G68.2 6).1)).1).n)];refine Qdf (p:=p66) (o:=0) (cs':=K13) (fun w hm=>hm.front (n:=6) rfl) Qal rfl (Nat.le_of_ble_eq_true rfl) rfl rfl rfl rfl (Qf rfl) ?_;refine qxD (pn 15 [7,8,9,10,11,12,13,14]) ?_;refine Qdn (by kernel_rfl) ?_;refine Qar (Qi (Qae ?_));refine wv (fun W hm=>Qab (cs:=K13) Qt Qal rfl rfl (hm.boxCells (n:=0) rfl)) ?_;refine Qdf (p:=p40) (o:=0) (cs':=K13) (fun w hm=>hm.front (n:=7) rfl) Qal rfl (Nat.le_of_ble_eq_true rfl) rfl rfl rfl rfl (Qf rfl) ?_;refine Qai (Qar (Qi (Qae (wm ?_))));refine wv (fun W hm=>Qjf rfl rfl) ?_;refine wa (Qai ?_);exact Qax (k43+1,((IntKind.i64.wrap (s44-1)),((Qd x0b G68.2 6).2).i,((Qd x0b G68.2 6).2).h,((Qhs E47 ((Qd x0b G68.2 6).1)).1)),(A292,c293,A296,c297,A300,c301,A304,c305,A308,c309)) sl4 (pn 15 [7,0,2,3,4,5,6,13,14]) ⟨(show(k43+1)+(((IntKind.i64.wrap (s44-1))).toNat)+1≤(G42.1).toNat+1 from by omega),nxb hF59 (by subst hG42 hG68;exact Qc g65 (Qe g70 (Qe g158 (Qe g246 (Qc g284 (rfl)))))),(show Qgu ((Qhs E47 ((Qd x0b G68.2 6).1)).1) from by first|exact Qnq hi61|exact Qop hi61 (by first|exact Qit hqf|(subst_vars;exact Qit (Qjg _ _ _)))|exact Qou hi61 _|exact Qor hi61 _),(show 0≤(IntKind.i64.wrap (s44-1)) from by omega),(show(IntKind.i64.wrap (s44-1))≤14 from by omega)⟩ (show(G42.1).toNat+1-(k43+1)<(G42.1).toNat+1-k43 from by omega)
   refine Qx rfl g284 ?_;refine Qae ?_;refine wv (fun W hm=>Qab (cs:=K5) Qt Qal rfl rfl (hm.boxCells (n:=2) rfl)) ?_;refine Qii (χ:=List Value) (val:=fun x=> .tuple #[.agg x.toArray, .bool ((Qfd E47).2)]) (js:=fun x=>[Qh Qbz x ((Qfd E47).1)]) (Qs cb10 rfl) (fun W hm=>Qaig W _ E47 (Qfs (x:=E47) (hm.rdSI (n:=3) rfl) (hm.rdSI (n:=4) rfl) (hm.rdSI (n:=5) rfl) (hm.rdSI (n:=6) rfl) (hm.rdSI (n:=7) rfl)) hsm) (Qf rfl) (by decide) (fun z313=>?_);refine Qhn ?_;rintro⟨v314,v315,v316,v317,v318⟩ rfl;refine fm 0 ?_;rintro A319 c320 rfl m321;refine fm 1 ?_;rintro A323 c324 rfl m325;refine fm 2 ?_;rintro A327 c328 rfl m329;refine fm 3 ?_;rintro A331 c332 rfl m333;refine fm 4 ?_;rintro A335 c336 rfl m337;refine wm ?_;refine wv (fun W hm=>Qfp rfl rfl) ?_;refine wv (fun W hm=>Qfp rfl rfl) ?_;let K14:List Value:=[.slice A319 (((Qfd E47).1).d.c).length c320,iV (((Qfd E47).1).d.f),iV (((Qfd E47).1).g), .slice A323 (((Qfd E47).1).l).length c324, .slice A327 (((Qfd E47).1).a).length c328, .slice A331 (((Qfd E47).1).j).length c332, .slice A335 (((Qfd E47).1).k).length c336,iV (((Qfd E47).1).n)];refine Qdf (p:=p66) (o:=0) (cs':=K14) (fun w hm=>hm.front (n:=6) rfl) Qal rfl (Nat.le_of_ble_eq_true rfl) rfl rfl rfl rfl (Qf rfl) ?_;refine Qai (Qar (Qi (Qae ?_)));refine wv (fun W hm=>Qab (cs:=K14) Qt Qal rfl rfl (hm.boxCells (n:=0) rfl)) ?_;refine Qdf (p:=p40) (o:=0) (cs':=K14) (fun w hm=>hm.front (n:=7) rfl) Qal rfl (Nat.le_of_ble_eq_true rfl) rfl rfl rfl rfl (Qf rfl) ?_;refine Qai (Qar (Qi (Qae (wm ?_))));refine wv (fun W hm=>Qjf rfl rfl) ?_;refine wa (Qai ?_);exact Qax (k43+1,((IntKind.i64.wrap (s44-1)),G68.2.i,G68.2.h,((Qfd E47).1)),(A319,c320,A323,c324,A327,c328,A331,c332,A335,c336)) sl4 (pn 15 [7,0,2,3,4,5,6,13,14]) ⟨(show(k43+1)+(((IntKind.i64.wrap (s44-1))).toNat)+1≤(G42.1).toNat+1 from by omega),nxb hF59 (by subst hG42 hG68;exact Qc g65 (Qe g70 (Qe g158 (Qe g246 (Qe g284 (rfl)))))),(show Qgu ((Qfd E47).1) from by first|exact Qnq hi61|exact Qop hi61 (by first|exact Qit hqf|(subst_vars;exact Qit (Qjg _ _ _)))|exact Qou hi61 _|exact Qor hi61 _),(show 0≤(IntKind.i64.wrap (s44-1)) from by omega),(show(IntKind.i64.wrap (s44-1))≤14 from by omega)⟩ (show(G42.1).toNat+1-(k43+1)<(G42.1).toNat+1-k43 from by omega)
  refine Qx rfl g65 ?_;refine Qbm (Qag (Qag (Qbn ?_)));exact Qgo ((s44,s45,s46,E47),(A48,c49,A50,c51,A52,c53,A54,c55,A56,c57)) sl2 idM (nbb hF59 (by subst hG42;exact Qe g65 (rfl)))
 rintro⟨⟨s44,s45,s46,E47⟩,⟨A48,c49,A50,c51,A52,c53,A54,c55,A56,c57⟩⟩ H342;dsimp only at H342;let K15:List Value:=[.slice A2 x0b.length c3,nI s45,iV s46];let K16:List Value:=[.slice A48 E47.d.c.length c49,iV E47.d.f,iV E47.g, .slice A50 E47.l.length c51, .slice A52 E47.a.length c53, .slice A54 E47.j.length c55, .slice A56 E47.k.length c57,iV E47.n];let I28:It:=iS (tSl Qy 163) 100 A48 c49 E47.d.c;show QM 67 _ _ _ .normal [(4,bp p7),(5,bp p40)] (Qb p 177 K15::Qb p40 39 K16::I28::iS Qa 3 A50 c51 E47.l::iS Qz 61 A52 c53 E47.a::iS Qaz 80 A54 c55 E47.j::iS Qaw 102 A56 c57 E47.k::J30);refine Qi (sr ?_);refine wv (fun W hm=>Qab (cs:=K16) Qt Qal rfl rfl (hm.boxCells (n:=1) rfl)) ?_;refine Qdf (p:=p7) (o:=0) (cs':=K16) (fun w hm=>hm.front (n:=8) rfl) Qal rfl (Nat.le_of_ble_eq_true rfl) rfl rfl rfl rfl (Qf rfl) ?_;refine nt' (Qm ?_);let J37:List It:=Qb p7 39 K16::Qb p 177 K15::Qb p40 39 K16::I22::is;refine Qbh (js:=(Qh Qbz K16 E47::J37)) (fun W hm=>Mem.join (is:=[I28,iS Qa 3 A50 c51 E47.l,iS Qz 61 A52 c53 E47.a,iS Qaz 80 A54 c55 E47.j,iS Qaw 102 A56 c57 E47.k]) (js:=J37) (fun _ _ hs=>Qej (x:=E47) hs) (hm.pickN 9 [3,4,5,6,7,0,1,2,8] (by decide))) ?_;have he343:=(show Qap x0b x0 x1=(E47,(⟨s45,s46⟩:Qaf)) from by subst hG42;exact Qbd H342 (rfl));refine Qcy rfl (Qck (n:=1) rfl rfl Qt Qal rfl) (fun W hm=>⟨K16,?_,?_⟩)
 ·first|rw[he343]|rfl
 rw[he343];exact(hm.pickN 5 [0,2] (by decide))
def Qgz  : (List (List Int)):=
 [[0,1,2],[0,2,1],[1,0,2],[1,2,0],[2,0,1],[2,1,0]]
theorem Qaor:Cb Tryz.prog 175:=⟨f175,_,func175,rfl,by decide⟩
theorem Qaxl (w:World)  :
 Calls Tryz.prog 175 #[] w (rL w (tSl (tSl Qa 3) 25) (Qgz)):=by
 refine ce0 (L:=[]) (N:=8) func175 ?_;refine sr (wa (nt' (sr ?_)));refine Qcf (cs:=[iV 0,iV 1,iV 2]) Qo Qg rfl (by decide) (by decide) rfl (by kernel_rfl) (Qf rfl) (by decide) (fun p1=>?_);refine Qcf (cs:=[iV 0,iV 2,iV 1]) Qo Qg rfl (by decide) (by decide) rfl (by kernel_rfl) (Qf rfl) (by decide) (fun p2=>?_);refine Qcf (cs:=[iV 1,iV 0,iV 2]) Qo Qg rfl (by decide) (by decide) rfl (by kernel_rfl) (Qf rfl) (by decide) (fun p3=>?_);refine Qcf (cs:=[iV 1,iV 2,iV 0]) Qo Qg rfl (by decide) (by decide) rfl (by kernel_rfl) (Qf rfl) (by decide) (fun p4=>?_);refine Qcf (cs:=[iV 2,iV 0,iV 1]) Qo Qg rfl (by decide) (by decide) rfl (by kernel_rfl) (Qf rfl) (by decide) (fun p5=>?_);refine Qcf (cs:=[iV 2,iV 1,iV 0]) Qo Qg rfl (by decide) (by decide) rfl (by kernel_rfl) (Qf rfl) (by decide) (fun p6=>?_);let K1:List Value:=[.slice (sA p1) 3 3, .slice (sA p2) 3 3, .slice (sA p3) 3 3, .slice (sA p4) 3 3, .slice (sA p5) 3 3, .slice (sA p6) 3 3];refine Qcf (cs:=K1) underlying191 Qbf rfl (by decide) (by decide) rfl (by kernel_rfl) (Qf rfl) (by decide) (fun p7=>?_);refine wa (nt' (Qm ?_));refine Qbh (fun W hm=>Mem.litOwn (E:=Qa) (xs:=[0,1,2]) rfl (show 3≤maxLen from by decide) (fun _=>(Qdc (E:=Qa) (L1:=[]) Qbu (Qdc (E:=Qa) (L1:=[]) Qbu (Qdc (E:=Qa) (L1:=[]) Qbu Qfa)))) (hm.pick [6,0,1,2,3,4,5] (by decide))) ?_;refine Qbh (fun W hm=>Mem.litOwn (E:=Qa) (xs:=[0,2,1]) rfl (show 3≤maxLen from by decide) (fun _=>(Qdc (E:=Qa) (L1:=[]) Qbu (Qdc (E:=Qa) (L1:=[]) Qbu (Qdc (E:=Qa) (L1:=[]) Qbu Qfa)))) (hm.pick [6,0,1,2,3,4,5] (by decide))) ?_;refine Qbh (fun W hm=>Mem.litOwn (E:=Qa) (xs:=[1,0,2]) rfl (show 3≤maxLen from by decide) (fun _=>(Qdc (E:=Qa) (L1:=[]) Qbu (Qdc (E:=Qa) (L1:=[]) Qbu (Qdc (E:=Qa) (L1:=[]) Qbu Qfa)))) (hm.pick [6,0,1,2,3,4,5] (by decide))) ?_;refine Qbh (fun W hm=>Mem.litOwn (E:=Qa) (xs:=[1,2,0]) rfl (show 3≤maxLen from by decide) (fun _=>(Qdc (E:=Qa) (L1:=[]) Qbu (Qdc (E:=Qa) (L1:=[]) Qbu (Qdc (E:=Qa) (L1:=[]) Qbu Qfa)))) (hm.pick [6,0,1,2,3,4,5] (by decide))) ?_;refine Qbh (fun W hm=>Mem.litOwn (E:=Qa) (xs:=[2,0,1]) rfl (show 3≤maxLen from by decide) (fun _=>(Qdc (E:=Qa) (L1:=[]) Qbu (Qdc (E:=Qa) (L1:=[]) Qbu (Qdc (E:=Qa) (L1:=[]) Qbu Qfa)))) (hm.pick [6,0,1,2,3,4,5] (by decide))) ?_;refine Qbh (fun W hm=>Mem.litOwn (E:=Qa) (xs:=[2,1,0]) rfl (show 3≤maxLen from by decide) (fun _=>(Qdc (E:=Qa) (L1:=[]) Qbu (Qdc (E:=Qa) (L1:=[]) Qbu (Qdc (E:=Qa) (L1:=[]) Qbu Qfa)))) (hm.pick [6,0,1,2,3,4,5] (by decide))) ?_;refine Qbh (js:=(Qh (tSl (tSl Qa 3) 25) [.slice (sA p7) 6 6] [[0,1,2],[0,2,1],[1,0,2],[1,2,0],[2,0,1],[2,1,0]]::[])) (fun W hm=>Mem.join (is:=(Qb p7 25 K1::[Qh (tSl Qa 3) [.slice (sA p1) 3 3] [0,1,2],Qh (tSl Qa 3) [.slice (sA p2) 3 3] [0,2,1],Qh (tSl Qa 3) [.slice (sA p3) 3 3] [1,0,2],Qh (tSl Qa 3) [.slice (sA p4) 3 3] [1,2,0],Qh (tSl Qa 3) [.slice (sA p5) 3 3] [2,0,1],Qh (tSl Qa 3) [.slice (sA p6) 3 3] [2,1,0]])) (js:=[]) (Qatj (Qpb (Qpb (Qpb (Qpb (Qpb (Qpb Qaqs))))))) (hm.pick [6,5,4,3,2,1,0] (by decide))) ?_;have he15:=(show Qgz  = [[0,1,2],[0,2,1],[1,0,2],[1,2,0],[2,0,1],[2,1,0]] from rfl);refine Qcy rfl (Qcg rfl) (fun W hm=>⟨.slice (sA p7) 6 6,?_,?_⟩)
 ·first|rw[he15]|rfl
 rw[he15];exact hm
theorem Qagk (k:Nat) (h:k<6):(gt Qgz k).length=3:=by
 have:k=0∨k=1∨k=2∨k=3∨k=4∨k=5:=by omega
 rcases this with rfl|rfl|rfl|rfl|rfl|rfl <;>rfl
def Qka (x0b:List Int) (x0:Qaf):((List Int)×Qaf):=
 cond ((Qct x0b ((Qd x0b x0 6).2) 12).1) (((gt Qgz (((Qd x0b x0 6).1).toNat)).set 0 (Qcm x0b (Qct x0b ((Qd x0b x0 6).2) 12).2 [(-1),0,3]).1),(Qcm x0b (Qct x0b ((Qd x0b x0 6).2) 12).2 [(-1),0,3]).2) ((gt Qgz (((Qd x0b x0 6).1).toNat)),(Qct x0b ((Qd x0b x0 6).2) 12).2)
theorem Qant:Cb Tryz.prog 118:=⟨f118,_,func118,rfl,by decide⟩
theorem Qaxj (B:Nat) (w0:World) (is:List It) (w:World) (p:Nat) (z0:Value) (x0b:List Int) (x0:Qaf) (r_0:rdS tU8 w0 B z0 x0b) (s_0:x0b.length≤68719476736) (hm:Mem B w0 (Qb p 177 [z0,nI x0.i,iV x0.h]::is) w):
 Calls Tryz.prog 118 #[.pointer (sA p)] w fun e w'=>∃ x:Value,e= .returned (x)∧Mem B w0 (Qh (tSl Qa 3) [x] ((Qka x0b x0).1)::Qb p 177 [z0,nI (((Qka x0b x0).2).i),iV ((Qka x0b x0).2).h]::is) w':=by
 obtain⟨m1,A2,c3,rfl,q4,r5⟩:=Qn r_0;refine Qiy (L:=[(0, .pointer (sA p))]) (N:=19) func118 rfl rfl (Nat.le_of_ble_eq_true rfl) (Qfg rfl Qho) hm ?_;have l6:x0b.length≤68719476736:=s_0;have ho6:Qgz.length=6:=rfl;refine sr (wa (nt' (sr ?_)));refine Qcl (E:=Qa) Qo Qg (Qf rfl) (by decide) (fun p7=>?_);refine wcl (tSl (tSl Qa 3) 25) Qgz (Qs Qaor rfl) (fun W hm=>Qaxl W ) (fun z9=>?_);refine fm 0 ?_;rintro A10 c11 rfl m12;refine wm ?_;let I3:It:=Qh (tSl Qa 3) [.slice (sA p7) 0 0] [];let J8:List It:=iS (tSl Qa 3) 25 A10 c11 Qgz::I3::is;refine Qcp (χ:=Unit) (val:=fun x=>iV ((Qd x0b x0 6).1)) (js:=fun x=>(Qb p 177 [.slice A2 x0b.length c3,nI (((Qd x0b x0 6).2).i),iV ((Qd x0b x0 6).2).h]::J8)) (Qs Qfh rfl) (fun W hm=>Qfi B w0 J8 W p _ x0b x0 r5 6 s_0 (hm.front (n:=2) rfl)) (Qf rfl) (by decide) (fun z14=>?_);have hb:=Qef x0b x0 6;have ho3:=Qagk (Qd x0b x0 6).1.toNat (by omega);have ho4:([]++gt Qgz (Qd x0b x0 6).1.toNat).length=3:=ho3;refine Qij (n:=1) rfl (by omega) ?_;rintro g15 rfl;refine wv (fun W hm=>Qds (sz:=1) (k:=(Qd x0b x0 6).1) underlying191 Qbf rfl rfl rfl (by omega) (by omega)) ?_;let K1:List Value:=[.slice A2 x0b.length c3,nI (((Qd x0b x0 6).2).i),iV (((Qd x0b x0 6).2).h)];refine Qld (E:=(tSl Qa 3)) (e:=25) (A:=(sA g15)) (n:=Qgz.length) (c:=c11) (xs:=Qgz) (k:=(((Qd x0b x0 6).1).toNat)) (js:=(Qb p 177 K1::I3::is)) (by omega) (fun W hm=>(hm.front (n:=1) rfl)) (fun ck16=>?_);refine Qjd (γ:=Value) (js:=fun g=>[Qh (tSl Qa 3) [g] (gt Qgz (((Qd x0b x0 6).1).toNat))]) (C:=fun g=>ck16=[g]) (fun _ _ h=>Qlz h) ?_;rintro v17 rfl;refine fm 0 ?_;rintro A18 c19 rfl m20;refine wv (fun W hm=>Qbe Qo rfl rfl (hm.focInt (i:=1) rfl rfl)) ?_;let K2:List Value:=[.slice A18 (gt Qgz (((Qd x0b x0 6).1).toNat)).length c19];let I4:It:=iS Qa 3 A18 c19 (gt Qgz (((Qd x0b x0 6).1).toNat));let I5:It:=Qcu (tSl Qa 3) 25 (sA g15) Qgz.length c11 Qgz (((Qd x0b x0 6).1).toNat) K2;refine apR Qa Qa 3 (.slice (sA p7) 0 0) [] (gt Qgz (((Qd x0b x0 6).1).toNat)) (I4::I5::Qb p 177 K1::is) (fun W hm=>(hm.front (n:=3) rfl)) (fun W hm=>Qdj Qdd (hm.rdSI (n:=0) rfl)) Qo Qg (show(0+(gt Qgz (((Qd x0b x0 6).1).toNat)).length)*8≤140737488355328 from by omega) (fun v22=>?_);refine fm 0 ?_;rintro A23 c24 rfl m25;refine wa (nt' (Qj (sr (wm ?_))));let I6:It:=iS Qa 3 A23 c24 (gt Qgz (((Qd x0b x0 6).1).toNat));let J9:List It:=I6::I4::I5::is;refine Qcp (χ:=Unit) (val:=fun x=> .bool ((Qct x0b ((Qd x0b x0 6).2) 12).1)) (js:=fun x=>(Qb p 177 [.slice A2 x0b.length c3,nI (((Qct x0b ((Qd x0b x0 6).2) 12).2).i),iV ((Qct x0b ((Qd x0b x0 6).2) 12).2).h]::J9)) (Qs Qtu rfl) (fun W hm=>Qvz B w0 J9 W p _ x0b ((Qd x0b x0 6).2) r5 12 s_0 (hm.front (n:=3) rfl)) (Qf rfl) (by decide) (fun z27=>?_);obtain⟨G28,hG28⟩:∃ G,G=(Qct x0b ((Qd x0b x0 6).2) 12):=⟨_,rfl⟩;rw[← hG28];refine nt' ?_;rcases bd G28.1 with g30|g30
 ·refine Qr rfl g30 ?_;refine Qae (wm (wm ?_));refine Qcf (cs:=[iV (-1),iV 0,iV 3]) Qo Qg rfl (by decide) (by decide) rfl (by kernel_rfl) (Qf rfl) (by decide) (fun p31=>?_);refine Qgp (fun W hm=>Mem.litOwn (E:=Qa) (xs:=[(-1),0,3]) rfl (show 3≤maxLen from by decide) (fun _=>(Qdc (E:=Qa) (L1:=[]) Qbu (Qdc (E:=Qa) (L1:=[]) Qbu (Qdc (E:=Qa) (L1:=[]) Qbu Qfa)))) (hm.front (n:=0) rfl)) ?_;let I7:It:=Qh (tSl Qa 3) [.slice (sA p31) 3 3] [(-1),0,3];refine Qcp (χ:=Unit) (val:=fun x=>iV ((Qcm x0b G28.2 [(-1),0,3]).1)) (js:=fun x=>(Qb p 177 [.slice A2 x0b.length c3,nI (((Qcm x0b G28.2 [(-1),0,3]).2).i),iV ((Qcm x0b G28.2 [(-1),0,3]).2).h]::I7::J9)) (Qs Qns rfl) (fun W hm=>Qod B w0 J9 W p _ x0b G28.2 r5 _ [(-1),0,3] s_0 (Nat.le_of_ble_eq_true rfl) (by first|decide|exact Nat.succ_pos _) ((hm.front (n:=0) rfl).front (n:=1) rfl)) (Qf rfl) (by decide) (fun z33=>?_);obtain⟨G34,hG34⟩:∃ G,G=(Qcm x0b G28.2 [(-1),0,3]):=⟨_,rfl⟩;rw[← hG34];refine Qij (n:=2) rfl (by omega) ?_;rintro g35 rfl;refine wv (vix 1 0 Qo Qg) ?_;refine Qri (E:=Qa) (e:=3) (u:=iV G34.1) (k:=0) (p:=g35) (n:=(gt Qgz (((Qd x0b x0 6).1).toNat)).length) (xs:=(gt Qgz (((Qd x0b x0 6).1).toNat))) (eis:=[]) (js:=(Qb p 177 [.slice A2 x0b.length c3,nI G34.2.i,iV G34.2.h]::I7::I4::I5::is)) (yv:=G34.1) (fun W hm=>(hm.front (n:=2) rfl)) (fun _ _ hs=>(Sep.nil hs ▸ Qbu)) rfl Qg rfl (by omega) rfl rfl (Qf rfl) ?_;refine nt' (Qj ?_);refine Qdb (pn 5 [0,1]) ?_;refine Qae (wm (wa (nt' (Qm ?_))));have he36:=(show Qka x0b x0=(((gt Qgz (((Qd x0b x0 6).1).toNat)).set 0 G34.1),G34.2) from by subst hG28 hG34;exact Qc g30 (rfl));refine Qcy rfl (Qcg rfl) (fun W hm=>⟨.slice (sA g35) (gt Qgz (((Qd x0b x0 6).1).toNat)).length c24,?_,?_⟩)
  ·first|rw[he36]|rfl
  rw[he36];exact hm
 refine Qx rfl g30 ?_;refine Qac (Qi (sr (wm (wa (nt' (Qm ?_))))));refine Qbh (fun W hm=>Mem.unfocus0 (Mem.join (is:=[I4]) (js:=(I5::(Qb p 177 [.slice A2 x0b.length c3,nI G28.2.i,iV G28.2.h]::I6::is))) (fun _ _ hs=>Sep.one hs) ((hm.front (n:=3) rfl).front (n:=3) rfl))) ?_;have he37:=(show Qka x0b x0=((gt Qgz (((Qd x0b x0 6).1).toNat)),G28.2) from by subst hG28;exact Qe g30 (rfl));refine Qcy rfl (Qcg rfl) (fun W hm=>⟨.slice A23 (gt Qgz (((Qd x0b x0 6).1).toNat)).length c24,?_,?_⟩)
 ·first|rw[he37]|rfl
 rw[he37];exact(((hm.front (n:=1) rfl).front (n:=2) rfl).front (n:=2) rfl).tail
theorem Qacd {x:Qk} {i:Int} (h:decide (0≤Qad x i)=false):∀ j,j<x.a.length→(gt x.a j).e.Id≠i:=by
 have h2:=of_decide_eq_false h;unfold Qad at h2;have hr:rng (R:=Int) (fun k (_:Unit)=>Qhh x i k) (x.a.length-0) 0 ()= .inr ():=by
  rcases Qnf (P:=fun(r:Int)=>0≤r) (n:=x.a.length) (b:=fun k (_:Unit)=>Qhh x i k) (fun j hj=>by
   show(∃ r,Qhh x i j=_∧_)∨Qhh x i j=_;unfold Qhh;cases (gt x.a j).e.Id==i
   ·exact .inr rfl
   exact .inl ⟨_,rfl,Int.natCast_nonneg _⟩) (x.a.length-0) 0 (by omega) with⟨r,e,hp⟩|e
  ·rw[e] at h2;exact absurd hp h2
  exact e
 intro j hj e;have hb:Qhh x i j= .inr ():=Qzq _ _ hr j (Nat.zero_le _) (by omega);unfold Qhh at hb;rw[beq_iff_eq.2 e] at hb;cases hb
theorem Qwq {v w:Qw} (h:Qhu v w=true):Qhu w v=true:=by
 rw[Qoq,decide_eq_true_eq] at h ⊢;omega
theorem Qtd {α:Type} [Inhabited α] {l:List α} {i:Nat} (h:i<l.length) (y:α):∃ a b,l=a++gt l i::b∧l.set i y=a++y::b:=by
 refine⟨l.take i,l.drop (i+1),?_,?_⟩
 ·rw[Qdl h,List.getElem_cons_drop];exact(List.take_append_drop i l).symm
 rw[List.set_eq_take_append_cons_drop,if_pos h]
theorem Qavo {S:List (List Qw)} {i k:Nat} (hi:i<S.length) (hk:k<(gt S i).length) (v':Qw):∃ L,S.flatten.Perm (gt (gt S i) k::L)∧(S.set i ((gt S i).set k v')).flatten.Perm (v'::L):=by
 obtain⟨a,b,e1,e2⟩:=Qtd hi ((gt S i).set k v');obtain⟨c,d,f1,f2⟩:=Qtd hk v';have h1:=congrArg List.flatten e1;generalize gt (gt S i) k=v at f1 ⊢;rw[f1] at h1;refine⟨(a.flatten++c)++(d++b.flatten),?_,?_⟩
 ·rw[h1,show(a++(c++v::d)::b).flatten=(a.flatten++c)++v::(d++b.flatten) by simp];exact List.perm_middle
 rw[e2,f2,show(a++(c++v'::d)::b).flatten=(a.flatten++c)++v'::(d++b.flatten) by simp];exact List.perm_middle
theorem Qahl {S:List (List Qw)} {j:Nat} (hj:j<S.length) (n:Qw):(S.set j (gt S j++[n])).flatten.Perm (n::S.flatten):=by
 obtain⟨a,b,e1,e2⟩:=Qtd hj (gt S j++[n]);have h1:=congrArg List.flatten e1;rw[e2,h1,show(a++(gt S j++[n])::b).flatten=(a.flatten++gt S j)++n::b.flatten by simp,show(a++gt S j::b).flatten=(a.flatten++gt S j)++b.flatten by simp];exact List.perm_middle
theorem Qvf {S:List (List Qw)} {i:Nat} {s':List Qw} (hi:i<S.length) (f:Qw→Bool) (h:Qfc f s'=Qfc f (gt S i)):(S.set i s').flatMap (Qfc f)=S.flatMap (Qfc f):=by
 obtain⟨a,b,e1,e2⟩:=Qtd hi s';have h1:=congrArg (List.flatMap (Qfc f)) e1;rw[e2,h1];simp only[List.flatMap_append,List.flatMap_cons,h]
theorem Qpr (f:Qw→Bool) (s t:List Qw):Qfc f (s++t)=Qfc f s++Qfc f t:=by
 unfold Qfc;rw[List.filter_append,List.map_append]
theorem Qve {f:Qw→Bool} {n:Qw} (h:f n=false):Qfc f [n]=[]:=by
 unfold Qfc;rw[List.filter_cons,h];rfl
theorem Qahi {f:Qw→Bool} {n:Qw} (h:f n=true):Qfc f [n]=[⟨n.Id,n.m⟩]:=by
 unfold Qfc;rw[List.filter_cons,h];rfl
theorem Qavl {f:Qw→Bool} {s:List Qw} {k:Nat} (hk:k<s.length) {t:Int} (h:f ⟨(gt s k).Id,(gt s k).m,(gt s k).x,t⟩=f (gt s k)):Qfc f (s.set k ⟨(gt s k).Id,(gt s k).m,(gt s k).x,t⟩)=Qfc f s:=by
 obtain⟨a,b,e1,e2⟩:=Qtd hk ⟨(gt s k).Id,(gt s k).m,(gt s k).x,t⟩;have h1:=congrArg (Qfc f) e1;rw[e2,h1, ← List.singleton_append, ← List.singleton_append (l:=b),Qpr,Qpr,Qpr,Qpr]
 congr 2
 cases hf:f (gt s k) with
 |true=>rw[Qahi hf,Qahi (by rw[h];exact hf)]
 |false=>rw[Qve hf,Qve (by rw[h];exact hf)]
def Qra (x:Qaa) (id:Int) (r:Int×Int):Prop:=0≤r.1∧r.1.toNat<x.c.length∧r.2.toNat<(gt x.c r.1.toNat).length∧(gt (gt x.c r.1.toNat) r.2.toNat).Id=id∧(gt (gt x.c r.1.toNat) r.2.toNat).y= -1
theorem Qaky (x:Qaa) (id:Int):((Qv x id).1<0∧∀ w∈x.c.flatten,w.Id=id→w.y ≠ -1)∨Qra x id (Qv x id):=by
 have inner:∀ i,i<x.c.length→(Qkm x id i= .inr ()∧∀ q,q<(gt x.c i).length→(gt (gt x.c i) q).Id=id→(gt (gt x.c i) q).y ≠ -1)∨∃ r,Qkm x id i= .inl r∧Qra x id r:=by
  intro i hi;unfold Qkm
  have key:=Qzo (n:=(gt x.c i).length) (body:=fun k (_:Unit)=>Qly x id i k) (fun k (_:Unit)=>∀ q,q<k→(gt (gt x.c i) q).Id=id→(gt (gt x.c i) q).y ≠ -1) (Qra x id) (fun k s hk hJ=>by
   show(∃ s',Qly x id i k= .inr s'∧_)∨∃ r,Qly x id i k= .inl r∧_;unfold Qly
   by_cases h1:(gt (gt x.c i) k).Id=id
   ·by_cases h2:(gt (gt x.c i) k).y= -1
    ·refine .inr ⟨(((i:Nat):Int),((k:Nat):Int)),?_,?_⟩
     ·rw[beq_iff_eq.2 h1,beq_iff_eq.2 h2];rfl
     unfold Qra;simp only[Int.toNat_natCast];exact⟨by omega,hi,hk,h1,h2⟩
    refine .inl ⟨(),?_,fun q hq=>?_⟩
    ·rw[beq_iff_eq.2 h1,beq_eq_false_iff_ne.2 h2];rfl
    rcases Nat.lt_succ_iff_lt_or_eq.1 hq with h|rfl
    ·exact hJ q h
    exact fun _=>h2
   refine .inl ⟨(),?_,fun q hq=>?_⟩
   ·rw[beq_eq_false_iff_ne.2 h1];rfl
   rcases Nat.lt_succ_iff_lt_or_eq.1 hq with h|rfl
   ·exact hJ q h
   exact fun h'=>absurd h' h1) ((gt x.c i).length-0) 0 () (by omega) (fun q hq=>absurd hq (by omega))
  rcases key with⟨s',e,h⟩|⟨r,e,h⟩
  ·rw[e];exact .inl ⟨rfl,h⟩
  rw[e];exact .inr ⟨r,rfl,h⟩
 have key:=Qzo (n:=x.c.length) (body:=fun k (_:Unit)=>Qkm x id k) (fun k (_:Unit)=>∀ p,p<k→∀ q,q<(gt x.c p).length→(gt (gt x.c p) q).Id=id→(gt (gt x.c p) q).y ≠ -1) (Qra x id) (fun k s hk hJ=>by
  show(∃ s',Qkm x id k= .inr s'∧_)∨∃ r,Qkm x id k= .inl r∧_;rcases inner k hk with⟨e,h⟩|⟨r,e,h⟩
  ·refine .inl ⟨(),e,fun p hp=>?_⟩;rcases Nat.lt_succ_iff_lt_or_eq.1 hp with h'|rfl
   ·exact hJ p h'
   exact h
  exact .inr ⟨r,e,h⟩) (x.c.length-0) 0 () (by omega) (fun p hp=>absurd hp (by omega))
 unfold Qv;rcases key with⟨s',e,h⟩|⟨r,e,h⟩
 ·rw[e];refine .inl ⟨(by show(-1:Int)<0;decide),fun w hw=>?_⟩;obtain⟨s,hs,hw⟩:=List.mem_flatten.1 hw;obtain⟨p,hp,rfl⟩:=List.mem_iff_getElem.1 hs;obtain⟨q,hq,rfl⟩:=List.mem_iff_getElem.1 hw;have:=h p hp q (by rw[Qdl hp];exact hq);rw[Qdl hp] at this;rw[Qdl hq] at this;exact this
 rw[e];exact .inr h
def Upd (x:Qaa) (u:Qda) (y:Qaa):Prop:=
 y.f=x.f+1∧x.f<100000∧y.c.length=x.c.length∧(∀ s∈y.c,s.length≤4) ∧
 (∀ t:Int,t≤x.f→y.c.flatMap (Qfc fun v=>Qki v t)=x.c.flatMap (Qfc fun v=>Qki v t)) ∧
 ∃ (o nw L:List Qw),x.c.flatten.Perm (o++L)∧y.c.flatten.Perm (nw++(o.map (fun v=>(⟨v.Id,v.m,v.x,x.f+1⟩:Qw))++L))∧(∀ w∈L,w.Id=u.Row.Id→w.y ≠ -1) ∧
  (∀ v∈o,v.Id=u.Row.Id∧v.y= -1) ∧
  ((u.Kind=1∧o=[]∧nw=[⟨u.Row.Id,u.Row.m,x.f+1, -1⟩])∨(u.Kind=2∧(∃ v,o=[v])∧nw=[])∨(u.Kind=3∧∃ v,o=[v]∧nw=[⟨u.Row.Id,v.m.set u.Field.toNat u.Value,x.f+1, -1⟩]))
theorem Qajf {id b t:Int} {vs:List Int} (h:t<b):Qki ⟨id,vs,b, -1⟩ t=false:=by
 show Qgw _ t=false;rw[Qrf];exact decide_eq_false (by show ¬ (b≤t∧_);omega)
theorem Qbay {v:Qw} {d t:Int} (h:t<d) (hd:v.y= -1):Qki ⟨v.Id,v.m,v.x,d⟩ t=Qki v t:=by
 show Qgw _ t=Qgw _ t;rw[Qrf,Qrf];apply decide_eq_decide.2;show(v.x≤t∧(d= -1∨t<d))↔_;omega
theorem Qahm {S:List (List Qw)} {j:Nat} {n:Qw} (h4:∀ s∈S,s.length≤4) (hj:(gt S j).length<4):∀ s∈S.set j (gt S j++[n]),s.length≤4:=fun s hs=>by
 rcases List.mem_or_eq_of_mem_set hs with h|rfl
 ·exact h4 s h
 rw[List.length_append];show _+1≤4;omega
theorem Qamx {x:Qaa} {u:Qda} (hx:Sto x) (h:(Qce x u).2=true):Qlj u=true∧Upd x u (Qce x u).1:=by
 have hs:=(Qfo x).2 hx;obtain⟨⟨s1,s8⟩,⟨n0,n1⟩,h4,hv,hp⟩:=hx;cases hu:Qlj u with
 |false=>unfold Qce at h;rw[hs,hu] at h;cases h
 |true=>
 refine⟨rfl,?_⟩
 by_cases ht:100000≤x.f
 ·unfold Qce at h;rw[hs,hu,decide_eq_true ht] at h;cases h
 have hw:IntKind.i64.wrap (x.f+1)=x.f+1:=Qdp (by omega) (by omega);obtain⟨hk,_,_,_⟩:=Qaaq hu;have hr0:=Qaif x;rcases Qaky x u.Row.Id with⟨f1,f2⟩|⟨g1,g2,g3,g4,g5⟩
 ·by_cases k1:u.Kind=1
  ·by_cases hr:Qcc x<0
   ·exfalso
    unfold Qce at h;rw[hs,hu,decide_eq_false ht,decide_eq_true f1,beq_iff_eq.2 k1,bne_iff_ne.2 (show u.Kind≠2 by omega),decide_eq_true hr] at h;cases h
   have e:Qce x u=(⟨x.c.set (Qcc x).toNat (gt x.c (Qcc x).toNat++[⟨u.Row.Id,u.Row.m,x.f+1, -1⟩]),x.f+1⟩,true):=by
    unfold Qce;rw[hs,hu,decide_eq_false ht,decide_eq_true f1,beq_iff_eq.2 k1,bne_iff_ne.2 (show u.Kind≠2 by omega),decide_eq_false hr,decide_eq_false (show ¬ 0≤(Qv x u.Row.Id).1 by omega),beq_eq_false_iff_ne.2 (show ¬ u.Kind=3 by omega),hw];rfl
   obtain⟨_,r2,r3⟩:=hr0.resolve_left hr;rw[e];refine⟨rfl,by omega,List.length_set,Qahm h4 r3,fun t ht'=>Qvf r2 _ ?_,[],_,x.c.flatten, .refl _,Qahl r2 _,f2,(fun v hv=>by cases hv), .inl ⟨k1,rfl,rfl⟩⟩;rw[Qpr,Qve (Qajf (by omega)),List.append_nil]
  exfalso
  unfold Qce at h;rw[hs,hu,decide_eq_false ht,decide_eq_true f1,beq_eq_false_iff_ne.2 k1] at h;cases h
 have hne:∀ v':Qw,∃ L,x.c.flatten.Perm (gt (gt x.c (Qv x u.Row.Id).1.toNat) (Qv x u.Row.Id).2.toNat::L)∧(x.c.set (Qv x u.Row.Id).1.toNat ((gt x.c (Qv x u.Row.Id).1.toNat).set (Qv x u.Row.Id).2.toNat v')).flatten.Perm (v'::L)∧∀ w∈L,w.Id=u.Row.Id→w.y ≠ -1:=by
  intro v';obtain⟨L,l1,l2⟩:=Qavo g2 g3 v';refine⟨L,l1,l2,fun w hw hid hd=>?_⟩;have hp2:=(l1.pairwise_iff (R:=fun a b=>Qhu b a=true) (fun h=>Qwq h)).1 hp;have:=(List.pairwise_cons.1 hp2).1 w hw;rw[Qoq,decide_eq_true_eq] at this;omega
 have hvis:∀ t,t≤x.f→Qfc (fun v=>Qki v t) ((gt x.c (Qv x u.Row.Id).1.toNat).set (Qv x u.Row.Id).2.toNat ⟨(gt (gt x.c (Qv x u.Row.Id).1.toNat) (Qv x u.Row.Id).2.toNat).Id,(gt (gt x.c (Qv x u.Row.Id).1.toNat) (Qv x u.Row.Id).2.toNat).m,(gt (gt x.c (Qv x u.Row.Id).1.toNat) (Qv x u.Row.Id).2.toNat).x,x.f+1⟩)=Qfc (fun v=>Qki v t) (gt x.c (Qv x u.Row.Id).1.toNat):=
  fun t ht'=>Qavl g3 (Qbay (by omega) g5)
 by_cases k1:u.Kind=1
 ·exfalso
  unfold Qce at h;rw[hs,hu,decide_eq_false ht,decide_eq_false (show ¬ (Qv x u.Row.Id).1<0 by omega),beq_iff_eq.2 k1] at h;cases h
 have h4':∀ v':Qw,∀ s∈x.c.set (Qv x u.Row.Id).1.toNat ((gt x.c (Qv x u.Row.Id).1.toNat).set (Qv x u.Row.Id).2.toNat v'),s.length≤4:=fun v' s hs'=>by
  rcases List.mem_or_eq_of_mem_set hs' with h'|rfl
  ·exact h4 s h'
  rw[List.length_set];exact h4 _ (Qav g2)
 by_cases k2:u.Kind=2
 ·have e:Qce x u=(⟨x.c.set (Qv x u.Row.Id).1.toNat ((gt x.c (Qv x u.Row.Id).1.toNat).set (Qv x u.Row.Id).2.toNat ⟨(gt (gt x.c (Qv x u.Row.Id).1.toNat) (Qv x u.Row.Id).2.toNat).Id,(gt (gt x.c (Qv x u.Row.Id).1.toNat) (Qv x u.Row.Id).2.toNat).m,(gt (gt x.c (Qv x u.Row.Id).1.toNat) (Qv x u.Row.Id).2.toNat).x,x.f+1⟩),x.f+1⟩,true):=by
   unfold Qce Qei;rw[hs,hu,decide_eq_false ht,decide_eq_false (show ¬ (Qv x u.Row.Id).1<0 by omega),beq_eq_false_iff_ne.2 k1,show(u.Kind !=2)=false from by rw[k2];rfl,decide_eq_true g1,beq_eq_false_iff_ne.2 (show ¬ u.Kind=3 by omega),hw];rfl
  obtain⟨L,l1,l2,l3⟩:=hne ⟨(gt (gt x.c (Qv x u.Row.Id).1.toNat) (Qv x u.Row.Id).2.toNat).Id,(gt (gt x.c (Qv x u.Row.Id).1.toNat) (Qv x u.Row.Id).2.toNat).m,(gt (gt x.c (Qv x u.Row.Id).1.toNat) (Qv x u.Row.Id).2.toNat).x,x.f+1⟩;rw[e];exact⟨rfl,by omega,List.length_set,h4' _,fun t ht'=>Qvf g2 _ (hvis t ht'),[_],[],L,l1,l2,l3,(fun v hv=>by rw[List.mem_singleton.1 hv];exact⟨g4,g5⟩), .inr (.inl ⟨k2,⟨_,rfl⟩,rfl⟩)⟩
 have k3:u.Kind=3:=by omega
 by_cases hr:Qcc x<0
 ·exfalso
  unfold Qce at h;rw[hs,hu,decide_eq_false ht,decide_eq_false (show ¬ (Qv x u.Row.Id).1<0 by omega),beq_eq_false_iff_ne.2 k1,bne_iff_ne.2 k2,decide_eq_true hr] at h;cases h
 obtain⟨_,r2,r3⟩:=hr0.resolve_left hr;have e:Qce x u=(⟨(x.c.set (Qv x u.Row.Id).1.toNat ((gt x.c (Qv x u.Row.Id).1.toNat).set (Qv x u.Row.Id).2.toNat ⟨(gt (gt x.c (Qv x u.Row.Id).1.toNat) (Qv x u.Row.Id).2.toNat).Id,(gt (gt x.c (Qv x u.Row.Id).1.toNat) (Qv x u.Row.Id).2.toNat).m,(gt (gt x.c (Qv x u.Row.Id).1.toNat) (Qv x u.Row.Id).2.toNat).x,x.f+1⟩)).set (Qcc x).toNat (gt (x.c.set (Qv x u.Row.Id).1.toNat ((gt x.c (Qv x u.Row.Id).1.toNat).set (Qv x u.Row.Id).2.toNat ⟨(gt (gt x.c (Qv x u.Row.Id).1.toNat) (Qv x u.Row.Id).2.toNat).Id,(gt (gt x.c (Qv x u.Row.Id).1.toNat) (Qv x u.Row.Id).2.toNat).m,(gt (gt x.c (Qv x u.Row.Id).1.toNat) (Qv x u.Row.Id).2.toNat).x,x.f+1⟩)) (Qcc x).toNat++[⟨u.Row.Id,(gt (gt x.c (Qv x u.Row.Id).1.toNat) (Qv x u.Row.Id).2.toNat).m.set u.Field.toNat u.Value,x.f+1, -1⟩]),x.f+1⟩,true):=by
  unfold Qce Qng Qei;rw[hs,hu,decide_eq_false ht,decide_eq_false (show ¬ (Qv x u.Row.Id).1<0 by omega),beq_eq_false_iff_ne.2 k1,bne_iff_ne.2 k2,decide_eq_false hr,decide_eq_true g1,beq_iff_eq.2 k3,hw];rfl
 obtain⟨L,l1,l2,l3⟩:=hne ⟨(gt (gt x.c (Qv x u.Row.Id).1.toNat) (Qv x u.Row.Id).2.toNat).Id,(gt (gt x.c (Qv x u.Row.Id).1.toNat) (Qv x u.Row.Id).2.toNat).m,(gt (gt x.c (Qv x u.Row.Id).1.toNat) (Qv x u.Row.Id).2.toNat).x,x.f+1⟩;have h4k:=h4' ⟨(gt (gt x.c (Qv x u.Row.Id).1.toNat) (Qv x u.Row.Id).2.toNat).Id,(gt (gt x.c (Qv x u.Row.Id).1.toNat) (Qv x u.Row.Id).2.toNat).m,(gt (gt x.c (Qv x u.Row.Id).1.toNat) (Qv x u.Row.Id).2.toNat).x,x.f+1⟩;rw[e];generalize hS:x.c.set (Qv x u.Row.Id).1.toNat ((gt x.c (Qv x u.Row.Id).1.toNat).set (Qv x u.Row.Id).2.toNat ⟨(gt (gt x.c (Qv x u.Row.Id).1.toNat) (Qv x u.Row.Id).2.toNat).Id,(gt (gt x.c (Qv x u.Row.Id).1.toNat) (Qv x u.Row.Id).2.toNat).m,(gt (gt x.c (Qv x u.Row.Id).1.toNat) (Qv x u.Row.Id).2.toNat).x,x.f+1⟩)=S at l2 h4k ⊢;have hl:S.length=x.c.length:=by rw[← hS,List.length_set]
 have hg:(gt S (Qcc x).toNat).length<4:=by rw[← hS,Qrt List.length_set];exact r3
 have r2':(Qcc x).toNat<S.length:=by rw[hl];exact r2
 refine⟨rfl,by omega,(by show(S.set _ _).length=_;rw[List.length_set,hl]),Qahm h4k hg,fun t ht'=>?_,[_],[_],L,l1,(Qahl r2' _).trans (l2.cons _),l3,(fun v hv=>by rw[List.mem_singleton.1 hv];exact⟨g4,g5⟩), .inr (.inr ⟨k3,_,rfl,rfl⟩)⟩;show(S.set _ _).flatMap _=_;rw[Qvf r2' _ (by rw[Qpr,Qve (Qajf (by omega)),List.append_nil]), ← hS];exact Qvf g2 _ (hvis t ht')
theorem Qamy {u:Qda} (h:Qlj u=true):(u.Kind=1→Qfx u.Row=true)∧(u.Kind=3→0≤u.Value∧u.Value≤99):=by
 unfold Qlj at h;refine⟨fun k=>?_,fun k=>?_⟩
 ·rw[beq_iff_eq.2 k,cond_true] at h;cases h2:Qfx u.Row with
  |true=>rfl
  |false=>rw[h2] at h;cases h
 rw[beq_eq_false_iff_ne.2 (show ¬ u.Kind=1 by omega),beq_eq_false_iff_ne.2 (show ¬ u.Kind=2 by omega),beq_iff_eq.2 k,Qfy u.Value] at h
 by_cases hv:0≤u.Value∧u.Value≤99
 ·exact hv
 rw[decide_eq_false hv] at h
 revert h
 cases Qbi u.Row.Id 0 999 <;>cases ((u.Row.m.length:Nat):Int)==0 <;>cases Qbi u.Field 0 2 <;>intro h <;>cases h
theorem Qamv {x y:Qaa} {u:Qda} (hx:Sto x) (hu:Qlj u=true) (h:Upd x u y):Sto y:=by
 obtain⟨⟨s1,s8⟩,⟨n0,n1⟩,h4,hv,hp⟩:=hx;obtain⟨y1,y2,y3,y4,y5,o,nw,L,l1,l2,l3,l4,l5⟩:=h;obtain⟨u1,u2⟩:=Qamy hu;have hvp:∀ v∈o++L,Qhl v x.f=true:=fun v h=>hv v (l1.mem_iff.2 h)
 have hpp:=(l1.pairwise_iff (R:=fun a b=>Qhu b a=true) (fun h=>Qwq h)).1 hp;have vL:∀ w∈L,Qhl w (x.f+1)=true:=fun w hw=>by
  have h:=hvp w (List.mem_append_right _ hw);rw[Qnr (by omega)] at h ⊢;exact⟨h.1,h.2.1,by omega,by omega⟩
 have vK:∀ v∈o,Qhl (⟨v.Id,v.m,v.x,x.f+1⟩:Qw) (x.f+1)=true:=fun w hw=>by
  have h:=hvp w (List.mem_append_left _ hw);rw[Qnr (by omega)] at h ⊢;exact⟨h.1,h.2.1,(by show w.x≤_;omega), .inr (by show w.x+1≤x.f+1∧x.f+1≤x.f+1;omega)⟩
 have vN:∀ vs,Qfx (⟨u.Row.Id,vs⟩:Qah)=true→Qhl (⟨u.Row.Id,vs,x.f+1, -1⟩:Qw) (x.f+1)=true:=fun vs h=>by
  rw[Qnr (by omega)];exact⟨h,(by show 0≤x.f+1;omega),(by show x.f+1≤x.f+1;omega), .inl rfl⟩
 have aN:∀ vs,∀ w∈L,Qhu w (⟨u.Row.Id,vs,x.f+1, -1⟩:Qw)=true:=fun vs w hw=>by
  have h:=hvp w (List.mem_append_right _ hw);rw[Qnr (by omega)] at h;have:=l3 w hw;rw[Qoq,decide_eq_true_eq];show w.Id≠u.Row.Id∨(w.y ≠ -1∧w.y≤x.f+1)∨_;omega
 have aK:∀ v,o=[v]→∀ w∈L,Qhu w (⟨v.Id,v.m,v.x,x.f+1⟩:Qw)=true:=fun v e w hw=>by
  rw[e] at hpp;have h:=(List.pairwise_cons.1 hpp).1 w hw;have h2:=l4 v (by rw[e];exact List.mem_singleton.2 rfl);rw[Qoq,decide_eq_true_eq] at h ⊢;show w.Id≠v.Id∨(w.y ≠ -1∧w.y≤v.x)∨_;omega
 have pL:L.Pairwise (fun a b=>Qhu b a=true):=(List.pairwise_append.1 hpp).2.1;rw[← y1] at vL vK vN;have key:(∀ v∈nw++(o.map (fun v=>(⟨v.Id,v.m,v.x,x.f+1⟩:Qw))++L),Qhl v y.f=true)∧(nw++(o.map (fun v=>(⟨v.Id,v.m,v.x,x.f+1⟩:Qw))++L)).Pairwise (fun a b=>Qhu b a=true):=by
  rw[← y1] at aN aK ⊢;rcases l5 with⟨k,rfl,rfl⟩|⟨k,⟨v,rfl⟩,rfl⟩|⟨k,v,rfl,rfl⟩
  ·have hn:=vN u.Row.m (u1 k);rw[← y1];refine⟨fun w hw=>?_,List.pairwise_cons.2 ⟨fun w hw=>aN _ w hw,pL⟩⟩;rcases List.mem_cons.1 hw with rfl|h
   ·exact hn
   exact vL w h
  ·refine⟨fun w hw=>?_,List.pairwise_cons.2 ⟨fun w hw=>aK v rfl w hw,pL⟩⟩;rcases List.mem_cons.1 hw with rfl|h
   ·exact vK v (List.mem_singleton.2 rfl)
   exact vL w h
  have hr:=hvp v (List.mem_append_left _ (List.mem_singleton.2 rfl));rw[Qnr (by omega),Qmv] at hr;have h4v:=l4 v (List.mem_singleton.2 rfl)
  have hn:=vN (v.m.set u.Field.toNat u.Value) (by
   rw[Qmv];refine⟨fun z hz=>?_,?_,?_⟩
   ·rcases List.mem_or_eq_of_mem_set hz with h|rfl
    ·exact hr.1.1 z h
    exact u2 k
   ·show 0≤u.Row.Id∧u.Row.Id≤999;rw[← h4v.1];exact hr.1.2.1
   show(v.m.set _ _).length=3
   rw[List.length_set];exact hr.1.2.2)
  rw[← y1];refine⟨fun w hw=>?_,List.pairwise_cons.2 ⟨fun w hw=>?_,List.pairwise_cons.2 ⟨fun w hw=>aK v rfl w hw,pL⟩⟩⟩
  ·rcases List.mem_cons.1 hw with rfl|h
   ·exact hn
   rcases List.mem_cons.1 h with rfl|h
   ·exact vK v (List.mem_singleton.2 rfl)
   exact vL w h
  rcases List.mem_cons.1 hw with rfl|h
  ·rw[Qoq,decide_eq_true_eq];exact .inr (.inl ⟨(by show y.f ≠ -1;omega),(by show y.f≤y.f;omega)⟩)
  exact aN _ w h
 refine⟨by omega,by omega,y4,fun v h=>key.1 v (l2.mem_iff.1 h),?_⟩;exact(l2.pairwise_iff (R:=fun a b=>Qhu b a=true) (fun h=>Qwq h)).2 key.2
theorem Qacq (k:List Int) (S:List (List Qw)):(Qel k S).flatten=S.flatten.filter (Qgq k):=by
 unfold Qel;rw[List.filter_flatten]
theorem Qacp {x:Qaa} (hx:Sto x) (k:List Int):Sto (⟨Qel k x.c,x.f⟩:Qaa):=by
 obtain⟨hl,hn,h4,hv,hp⟩:=hx;refine⟨?_,hn,fun s hs=>?_,fun v h=>?_,?_⟩
 ·show 1≤(List.map _ _).length∧(List.map _ _).length≤8;rw[List.length_map];exact hl
 ·obtain⟨s0,hs0,rfl⟩:=List.mem_map.1 hs;exact Nat.le_trans (List.length_filter_le _ _) (h4 s0 hs0)
 ·have h':v∈(Qel k x.c).flatten:=h;rw[Qacq] at h';exact hv v (List.mem_filter.1 h').1
 show(Qel k x.c).flatten.Pairwise _;rw[Qacq];exact hp.filter _
def Qkr (n c y:Int):Int:=if c≤y then y-c else y-c+n
def Qli (n c:Int):Int:=if c+1=n then 0 else c+1
theorem Qatq {n:Nat} {c:Int} (h0:0≤c) (h1:c<((n:Nat):Int)) (hn:n≤1000):Int.tmod (IntKind.i64.wrap (c+1)) ((n:Nat):Int)=Qli ((n:Nat):Int) c:=by
 rw[Qdp (by omega) (by omega),Int.tmod_eq_emod_of_nonneg (by omega)];unfold Qli
 by_cases h:c+1=((n:Nat):Int)
 ·rw[if_pos h,h,Int.emod_self]
 rw[if_neg h,Int.emod_eq_of_lt (by omega) (by omega)]
theorem Qaes {n c y:Int} (hc:0≤c∧c<n) (hy:0≤y∧y<n) (hne:y≠c):Qkr n (Qli n c) y=Qkr n c y-1:=by
 unfold Qkr Qli
 split <;>split <;>split <;>omega
theorem Qrp {n c y:Int} (hc:0≤c∧c<n) (hy:0≤y∧y<n):0≤Qkr n c y∧Qkr n c y<n:=by
 unfold Qkr
 split <;>omega
theorem Qaqr {n c y:Int} (hc:0≤c∧c<n) (hy:0≤y∧y<n):Qkr n c y=0↔y=c:=by
 unfold Qkr
 split <;>omega
def Qaly (n:Nat) (c:Int) (a:Qp):Prop:=∃ q r:Int,a.v=n*q+r∧0≤r∧r<((n:Nat):Int)∧0≤q ∧
 ((a.q.length:Int)+q≤((n:Nat):Int)-1∨(a.A=0∧(a.q.length:Int)+q≤((n:Nat):Int)∧∀ y∈a.q,Qkr ((n:Nat):Int) c y+r<((n:Nat):Int)))
def Qlb (n:Nat) (c:Int) (a:Qp):Prop:=
 ((n:Nat):Int)≤(a.q.length:Int)+a.v∧a.p.length+4*a.q.length≤4*n∧a.A≤(a.p.length:Int) ∧
 (a.z=0→∀ y∈a.q,Qkr ((n:Nat):Int) c y+a.v<((n:Nat):Int))∧(a.z≠0→Qaly n c a)
def Qqy (n:Nat) (f:Qco):Prop:=((n:Nat):Int)≤f.n∧f.n≤((n:Nat):Int)*((n:Nat):Int)∧f.p.length≤4*n
structure DrX (K:Nat) (e:Qk):Prop where
 pro:∀ a∈e.a,Qlb e.d.c.length e.g a
 dn:∀ f∈e.j,Qqy e.d.c.length f
 cnt:e.j.length+e.a.length≤K
 led:e.k.length≤K
theorem Qaex:∀ {l:List Int} {c:Int},l.Pairwise (fun a b=>a<b)→c∈l→(l.filter (fun y=>y !=c)).length+1=l.length
 | [],_,_,h=>by cases h
 |x::l,c,hp,h=>by
  rw[List.pairwise_cons] at hp;rcases List.mem_cons.1 h with rfl|h
  ·have e:l.filter (fun y=>y !=c)=l:=List.filter_eq_self.2 fun y hy=>bne_iff_ne.2 (by have:=hp.1 y hy;omega)
   rw[List.filter_cons_of_neg (by simp),e,List.length_cons]
  have:=hp.1 c h;rw[List.filter_cons_of_pos (p:=fun y=>y !=c) (bne_iff_ne.2 (show x≠c by omega)),List.length_cons,Qaex hp.2 h,List.length_cons]
theorem Quc (l:List Int) (c:Int):Qik l c=true↔c∈l:=by
 rw[Qub,List.any_eq_true];constructor
 ·rintro⟨y,hy,he⟩;rw[← beq_iff_eq.1 he];exact hy
 intro h;exact⟨c,h,beq_self_eq_true _⟩
theorem Qajo {n:Nat} {q r:Int} (hn:0<n) (h0:0≤r) (h1:r<((n:Nat):Int)) (hq:0≤q) (hb:((n:Nat):Int)*q+r+1≤1000000):((Int.tmod (IntKind.i64.wrap (((n:Nat):Int)*q+r+1)) ((n:Nat):Int))==0)=decide (r+1=((n:Nat):Int)):=by
 have hm:0≤((n:Nat):Int)*q:=Int.mul_nonneg (by omega) hq;rw[Qdp (by omega) (by omega),Int.tmod_eq_emod_of_nonneg (by omega)];have e:((n:Nat):Int)*q+r+1=(r+1)+((n:Nat):Int)*q:=by omega
 rw[e,Int.add_mul_emod_self_left]
 by_cases h:r+1=((n:Nat):Int)
 ·rw[h,Int.emod_self,decide_eq_true rfl];rfl
 rw[Int.emod_eq_of_lt (by omega) (by omega),decide_eq_false h];exact beq_eq_false_iff_ne.2 (by omega)
theorem Qwy {n:Nat} {c:Int} {a:Qp} (h:Qlb n c a) (hc:0≤c∧c<((n:Nat):Int)) (ht:Qme n a.q) (hn:n≤8):a.v<((n:Nat):Int)*((n:Nat):Int)∧(a.z=0→a.v<((n:Nat):Int)):=by
 obtain⟨_,_,_,h4,h5⟩:=h;have hpos:=ht.2.2;obtain⟨y,hy⟩:=List.exists_mem_of_length_pos hpos;have hy1:=ht.1 y hy;have hd:=Qrp hc hy1;have hnn:((n:Nat):Int)≤((n:Nat):Int)*((n:Nat):Int):=by
  have:=Int.mul_le_mul_of_nonneg_left (show(1:Int)≤((n:Nat):Int) by omega) (show 0≤((n:Nat):Int) by omega);omega
 by_cases h0:a.z=0
 ·have:=h4 h0 y hy;exact⟨by omega,fun _=>by omega⟩
 obtain⟨q,r,e,r0,r1,q0,hq⟩:=h5 h0;refine⟨?_,fun h=>absurd h h0⟩;have hqn:q≤((n:Nat):Int)-1:=by rcases hq with hq|hq <;>omega
 have:=Int.mul_le_mul_of_nonneg_left hqn (show 0≤((n:Nat):Int) by omega);rw[Int.mul_sub,Int.mul_one] at this;omega
def Qdu (x:Qk) (a:Qp):Qp:=cond (Qhf x.g a) (Qoj x a) a
theorem Qadh {x:Qk} (h:Eng x):Qeq x (Qay x)=x.a.map (Qdu x):=by
 unfold Qeq;refine List.map_congr_left fun a ha=>?_
 unfold Qdu;have e:decide (a.e.Id∈Qay x)=Qhf x.g a:=by
  rw[Bool.eq_iff_iff,decide_eq_true_iff];constructor
  ·intro hm;obtain⟨i,hi,he,hf,hb⟩:=Qmw h hm;obtain⟨j,hj,rfl⟩:=List.mem_iff_getElem.1 ha;rw[← Qdl hj] at he hf ⊢;have h2:=Qno h.srt hj;rw[hf] at h2;have:i=j:=by omega
   rw[← this];exact hb
  intro hb;rw[Qnp h];exact List.mem_map.2 ⟨a,List.mem_filter.2 ⟨ha,hb⟩,rfl⟩
 rw[e]
theorem Qxr {a:Qp} (h:a.z=0∨a.A<a.z):Qjn a=true:=by
 unfold Qjn
 by_cases h0:a.z=0
 ·rw[beq_iff_eq.2 h0];rfl
 rw[beq_eq_false_iff_ne.2 h0];exact decide_eq_true (by omega)
structure Qxh (x:Qk) (a b:Qp):Prop where
 query:b.e=a.e
 time:b.r=a.r
 age:b.v=a.v
 cap:b.z=a.z
 tod:b.q=a.q.filter (fun y=>y !=x.g)∨b.q=a.q
 hit:x.g∈a.q→Qjn a=true→b.q.length+1=a.q.length
 sub:∀ y∈b.q,y∈a.q∧(Qjn a=true→y≠x.g)
 len:b.q.length≤a.q.length∧a.q.length≤b.q.length+1
 rws:a.p.length≤b.p.length∧b.p.length+4*b.q.length≤a.p.length+4*a.q.length
 snt:a.A≤b.A∧b.A≤a.A+((b.p.length:Int)-(a.p.length:Int))
 still: ¬ (x.g∈a.q∧Qjn a=true)→b=a
theorem Qtf {x:Qk} (h:Eng x) {a:Qp} (ha:a∈x.a):Qxh x a (Qdu x a):=by
 obtain⟨hq,htm,hto,hag,hse,hca,hro⟩:=h.act a ha;have h4:=Qagv h a;cases hp:Qhf x.g a with
 |true=>
  have e:Qdu x a=Qoj x a:=by unfold Qdu;rw[hp];rfl
  rw[e];unfold Qhf at hp;rw[Bool.and_eq_true] at hp;have hc:=(Quc _ _).1 hp.2;have hl:=Qaex hto.2.1 hc;have hw:IntKind.i64.wrap (a.A+(((Qhq x a).length:Nat):Int))=a.A+(((Qhq x a).length:Nat):Int):=Qdp (by omega) (by omega);refine⟨rfl,rfl,rfl,rfl, .inl rfl,fun _ _=>hl,fun y hy=>?_,?_,?_,?_,fun hn=>absurd ⟨hc,hp.1⟩ hn⟩
  ·have:=List.mem_filter.1 (show y∈a.q.filter (fun y=>y !=x.g) from hy);exact⟨this.1,fun _=>bne_iff_ne.1 this.2⟩
  ·show(a.q.filter (fun y=>y !=x.g)).length≤_∧_≤(a.q.filter (fun y=>y !=x.g)).length+1;omega
  ·show a.p.length≤(a.p++Qhq x a).length∧(a.p++Qhq x a).length+4*(a.q.filter (fun y=>y !=x.g)).length≤_;rw[List.length_append];omega
  show a.A≤IntKind.i64.wrap _∧IntKind.i64.wrap _≤a.A+((((a.p++Qhq x a).length:Nat):Int)-_);rw[hw,List.length_append];omega
 |false=>
  have e:Qdu x a=a:=by unfold Qdu;rw[hp];rfl
  rw[e];have hn: ¬ (x.g∈a.q∧Qjn a=true):=fun⟨h1,h2⟩=>by
   unfold Qhf at hp;rw[h2,(Quc _ _).2 h1] at hp;cases hp
  exact⟨rfl,rfl,rfl,rfl, .inr rfl,fun h1 h2=>absurd ⟨h1,h2⟩ hn,fun y hy=>⟨hy,fun h2 he=>hn ⟨he ▸ hy,h2⟩⟩,by omega,by omega,by omega,fun _=>rfl⟩
theorem Qams {x:Qk} (h:Eng x) {a:Qp} (ha:a∈x.a) (hp:Qlb x.d.c.length x.g a) {b:Qp} (hb:Qxh x a b) (hne:0<b.q.length):
 Qlb x.d.c.length (Qli ((x.d.c.length:Nat):Int) x.g) (Qin ((x.d.c.length:Nat):Int) b):=by
 obtain⟨hq,htm,hto,hag,hse,hca,hro⟩:=h.act a ha;have hs:=((Qfo _).1 h.st).1;have hc:=h.cur;have hage:=(Qwy hp hc hto hs.2).1;obtain⟨p1,p2,p3,p4,p5⟩:=hp;have hl:=hb.len;have hrw:=hb.rws;have hsn:=hb.snt;have hw:IntKind.i64.wrap (b.v+1)=a.v+1:=by rw[hb.age];exact Qdp (by omega) (by omega)
 have hnc:0≤Qli ((x.d.c.length:Nat):Int) x.g∧Qli ((x.d.c.length:Nat):Int) x.g<((x.d.c.length:Nat):Int):=by unfold Qli;split <;>omega
 unfold Qlb Qin;dsimp only;rw[hw,hb.cap];refine⟨by omega,by omega,?_,fun h0 y hy=>?_,fun h0=>?_⟩
 ·cases (Int.tmod (a.v+1) ((x.d.c.length:Nat):Int))==0
  ·show b.A≤_;omega
  show(0:Int)≤_;omega
 ·have hy':=hb.sub y hy;have hyr:=hto.1 y hy'.1;rw[Qaes hc hyr (hy'.2 (Qxr (.inl h0)))];have:=p4 h0 y hy'.1;omega
 obtain⟨q,r,e,r0,r1,q0,hqq⟩:=p5 h0;have hage2:((x.d.c.length:Nat):Int)*q+r+1≤1000000:=by omega
 have hrs:=Qajo (n:=x.d.c.length) (by omega) r0 r1 q0 hage2;rw[show((x.d.c.length:Nat):Int)*q+r+1=a.v+1 by omega,show IntKind.i64.wrap (a.v+1)=a.v+1 from Qdp (by omega) (by omega)] at hrs;rw[hrs]
 by_cases hr:r+1=((x.d.c.length:Nat):Int)
 ·rw[decide_eq_true hr];refine⟨q+1,0,?_,by omega,by omega,by omega, .inr ⟨rfl,?_,fun y hy=>?_⟩⟩
  ·show a.v+1=_;rw[Int.mul_add,Int.mul_one];omega
  ·show(b.q.length:Int)+(q+1)≤_;rcases hqq with hqq|⟨s0,t0,dd⟩
   ·omega
   by_cases hcm:x.g∈a.q
   ·have:=hb.hit hcm (Qxr (.inr (by omega)));omega
   exfalso
   obtain⟨y,hy⟩:=List.exists_mem_of_length_pos hto.2.2;have h1:=dd y hy;have h2:=Qrp hc (hto.1 y hy);exact hcm (((Qaqr hc (hto.1 y hy)).1 (by omega)) ▸ hy)
  have:=Qrp hnc (hto.1 y (hb.sub y hy).1);show Qkr _ _ y+0<_;omega
 rw[decide_eq_false hr];refine⟨q,r+1,?_,by omega,by omega,q0,?_⟩
 ·show a.v+1=_;omega
 rcases hqq with hqq|⟨s0,t0,dd⟩
 ·left;show(b.q.length:Int)+q≤_;omega
 by_cases hcm:x.g∈a.q
 ·have:=hb.hit hcm (Qxr (.inr (by omega)))
  left;show(b.q.length:Int)+q≤_;omega
 have e2:=hb.still (fun hh=>hcm hh.1);subst e2
 right
 refine⟨s0,t0,fun y hy=>?_⟩;have h1:=dd y hy;show Qkr _ _ y+(r+1)<_;rw[Qaes hc (hto.1 y hy) (fun e=>hcm (e ▸ hy))];omega
theorem Qada {x:Qk} (h:Eng x) {a:Qp} (ha:a∈x.a) (hp:Qlb x.d.c.length x.g a) {b:Qp} (hb:Qxh x a b) (he:b.q.length=0):
 Qqy x.d.c.length (Qju b)∧(a.z=0→(Qju b).n≤((x.d.c.length:Nat):Int)):=by
 obtain⟨hq,htm,hto,hag,hse,hca,hro⟩:=h.act a ha;have hs:=((Qfo _).1 h.st).1;have hc:=h.cur;obtain⟨hage,hage0⟩:=Qwy hp hc hto hs.2;obtain⟨p1,p2,p3,p4,p5⟩:=hp;have hl:=hb.len;have hrw:=hb.rws;have hpos:=hto.2.2;have hw:IntKind.i64.wrap (b.v+1)=a.v+1:=by rw[hb.age];exact Qdp (by omega) (by omega)
 have hst:(Qju b).n=a.v+1:=hw;refine⟨⟨by rw[hst];omega,by rw[hst];omega,by show b.p.length≤_;omega⟩,fun h0=>by have:=hage0 h0;rw[hst];omega⟩
theorem Qamo {x:Qk} (h:Eng x) {a:Qp} (ha:a∈x.a) (hp:Qlb x.d.c.length x.g a) (hne:0<(Qdu x a).q.length):Qoo x.d (Qin ((x.d.c.length:Nat):Int) (Qdu x a)):=by
 have hb:=Qtf h ha;obtain⟨hq,htm,hto,hag,hse,hca,hro⟩:=h.act a ha;have hs:=((Qfo _).1 h.st).1;have hc:=h.cur;have hage:=(Qwy hp hc hto hs.2).1;obtain⟨p1,p2,p3,p4,p5⟩:=hp;have hl:=hb.len;have hrw:=hb.rws;have hsn:=hb.snt;have hw:IntKind.i64.wrap ((Qdu x a).v+1)=a.v+1:=by rw[hb.age];exact Qdp (by omega) (by omega)
 have hnn:((x.d.c.length:Nat):Int)*((x.d.c.length:Nat):Int)≤64:=by
  have:=Int.mul_le_mul_of_nonneg_left (show((x.d.c.length:Nat):Int)≤8 by omega) (show 0≤((x.d.c.length:Nat):Int) by omega);omega
 unfold Qoo Qin;dsimp only;rw[hw,hb.cap,hb.query,hb.time];refine⟨hq,htm,⟨fun y hy=>hto.1 y (hb.sub y hy).1,?_,hne⟩,by omega,?_,hca,?_,?_⟩
 ·rcases hb.tod with e|e
  ·rw[e];exact hto.2.1.filter _
  rw[e];exact hto.2.1
 ·cases (Int.tmod (a.v+1) ((x.d.c.length:Nat):Int))==0
  ·show 0≤(Qdu x a).A∧(Qdu x a).A≤1000;omega
  show(0:Int)≤0∧(0:Int)≤1000;omega
 ·intro r hr;unfold Qdu at hr
  revert hr
  cases Qhf x.g a with
  |false=>exact fun hr=>hro.1 r hr
  |true=>
   intro hr;rcases List.mem_append.1 (show r∈a.p++Qhq x a from hr) with hr|hr
   ·exact hro.1 r hr
   exact Qzt h a r hr
 omega
theorem Qtg (x:Qk) (a:Qp):(Qdu x a).e=a.e:=by
 unfold Qdu;cases Qhf x.g a <;>rfl
theorem Qaql {x:Qk} (h:Eng x) (hn:0<(Qay x).length):Qkg (Qmi x)=true:=by
 have h8:=Qot h;have hs:=((Qfo _).1 h.st).1;have hc:=h.cur;have hsg:=Qtn h;have hq:∀ y∈Qay x,(0≤y∧y≤23)∧(0≤(atI x y).e.u∧(atI x y).e.u≤3):=fun y hy=>by
  obtain⟨i,hi,he,hf,_⟩:=Qmw h hy;have ho:=Qtj (h.act _ (Qav hi)).1;have e:atI x y=gt x.a i:=by unfold atI;rw[hf,Int.toNat_natCast]
  rw[e, ← he];exact⟨ho.1,ho.2.1⟩
 have hset:Qic (Qay x)=true:=Qace (Qach h) fun y hy=>(hq y hy).1
 unfold Qkg Qmi Qma Qls;dsimp only;rw[hset,List.length_map,List.length_map,cond_true,beq_eq_false_iff_ne.2 (show((Qay x).length:Int)≠0 by omega),cond_false,decide_eq_false (show ¬ 8<((Qay x).length:Int) by omega),cond_false,bne_self_eq_false,cond_false,cond_false,Qfy,decide_eq_true (show 0≤x.g∧x.g≤7 by omega),Qfy,decide_eq_true (show(0:Int)≤(((Qgj x).length:Nat):Int)∧(((Qgj x).length:Nat):Int)≤4 by have:(Qgj x).length≤4:=hsg;omega)]
 rw[Qjw (fun k hk=>by
  unfold Qnh;dsimp only;have hk':k<(Qay x).length:=hk;have e1:gt ((Qay x).map fun y=>(atI x y).e.u) k=(atI x (gt (Qay x) k)).e.u:=by rw[Qdl (by rw[List.length_map];exact hk'),List.getElem_map,Qdl hk']
  have e2:gt ((Qay x).map fun y=>(((Qhq x (atI x y)).length:Nat):Int)) k=(((Qhq x (atI x (gt (Qay x) k))).length:Nat):Int):=by rw[Qdl (by rw[List.length_map];exact hk'),List.getElem_map,Qdl hk']
  have hl:(Qhq x (atI x (gt (Qay x) k))).length≤(Qgj x).length:=Qvd _ _;rw[e1,e2,Qfy,decide_eq_true (hq _ (Qav hk')).2,Qfy,decide_eq_true (by omega)]
  rfl)]
 rfl
theorem Qacr {s:Qaa} (h:Qgy s=true) (k:List Int):(Qgr s k).1=⟨Qel k s.c,s.f⟩:=by rw[Qaap s k h]
theorem Qse (k:List Int) (d:List (List Qw)):(Qel k d).length=d.length:=by unfold Qel;rw[List.length_map]
theorem Qxe {K:Nat} {x:Qk} (h:Eng x) (hd:DrX K x) (hc:Qkc x=true):Eng (Qfd x).1∧DrX (K+1) (Qfd x).1:=by
 obtain⟨_,c1,c2,c3⟩:=Qmz hc;have hs:=(Qfo _).1 h.st;have hs1:=hs.1;have hcur:=h.cur;have hstp:=h.stp;have hal:=h.al;have hnx:=Qatq hcur.1 hcur.2 (by omega);have hnc:0≤Qli ((x.d.c.length:Nat):Int) x.g∧Qli ((x.d.c.length:Nat):Int) x.g<((x.d.c.length:Nat):Int):=by unfold Qli;split <;>omega
 have hnn:((x.d.c.length:Nat):Int)*((x.d.c.length:Nat):Int)≤64:=by
  have:=Int.mul_le_mul_of_nonneg_left (show((x.d.c.length:Nat):Int)≤8 by omega) (show 0≤((x.d.c.length:Nat):Int) by omega);omega
 rw[Qmd,hc,cond_true,Qmc];have hr:=Qacr (s:=(Qhv x).d) h.st ((Qhv x).a.map fun a=>a.r);rw[hr];have hL:Qeq x (Qay x)=x.a.map (Qdu x):=Qadh h;have hrest:∀ a∈(Qhv x).a,∃ b∈x.a,0<(Qdu x b).q.length∧a=Qin ((x.d.c.length:Nat):Int) (Qdu x b):=fun a ha=>by
  have ha:a∈Qir x (Qeq x (Qay x)):=ha;unfold Qir at ha;rw[hL] at ha;obtain⟨b,hb,rfl⟩:=List.mem_map.1 ha;obtain⟨hb1,hb2⟩:=List.mem_filter.1 hb;obtain⟨b0,h0,rfl⟩:=List.mem_map.1 hb1;refine⟨b0,h0,?_,rfl⟩;unfold Qia at hb2
  by_cases hz:(Qdu x b0).q.length=0
  ·rw[hz] at hb2;cases hb2
  omega
 have hdone:∀ f∈(Qhv x).j,f∈x.j∨∃ b∈x.a,(Qdu x b).q.length=0∧f=Qju (Qdu x b):=fun f hf=>by
  have hf:f∈Qpa x (Qeq x (Qay x)):=hf;unfold Qpa at hf;rw[hL] at hf;rcases List.mem_append.1 hf with hf|hf
  ·exact .inl hf
  obtain⟨b,hb,rfl⟩:=List.mem_map.1 hf;obtain⟨hb1,hb2⟩:=List.mem_filter.1 hb;obtain⟨b0,h0,rfl⟩:=List.mem_map.1 hb1;refine .inr ⟨b0,h0,?_,rfl⟩;unfold Qia at hb2;have:=beq_iff_eq.1 hb2;omega
 have hcount:(Qhv x).j.length+(Qhv x).a.length=x.j.length+x.a.length:=by
  show(Qpa x (Qeq x (Qay x))).length+(Qir x (Qeq x (Qay x))).length=_;unfold Qpa Qir;have hp:∀ l:List Qp,(l.filter Qia).length+(l.filter fun a=> !Qia a).length=l.length:=fun l=>by
   induction l with
   |nil=>rfl
   |cons a l ih=>cases he:Qia a <;>simp[he] <;>omega
  have:=hp (Qeq x (Qay x));rw[List.length_append,List.length_map,List.length_map];have:=Qlq x (Qay x);omega
 have hled:(Qhv x).k.length≤x.k.length+1∧∀ c∈(Qhv x).k,c∈x.k∨Qkg c=true:=by
  show(Qje x).length≤_∧∀ c∈Qje x,_;unfold Qje
  by_cases hp:0<(((Qay x).length:Nat):Int)
  ·rw[decide_eq_true hp,cond_true,List.length_append];refine⟨Nat.le_refl _,fun c hc=>?_⟩;rcases List.mem_append.1 hc with hc|hc
   ·exact .inl hc
   rw[List.mem_singleton.1 hc];exact .inr (Qaql h (by omega))
  rw[decide_eq_false hp,cond_false];exact⟨Nat.le_succ _,fun c hc=> .inl hc⟩
 have hal2:(Qhv x).a.length≤x.a.length:=by
  have:=(Qagq (x:=x) (Qadf h (Qay x))).1;have:=Qlq x (Qay x);show(Qir x (Qeq x (Qay x))).length≤_;omega
 constructor
 ·refine⟨?_,?_,h.ord,?_,?_,?_,?_,fun a ha=>?_,?_,fun f hf=>?_,fun c hc=>?_⟩
  ·exact(Qfo _).2 (Qacp hs _)
  ·show 0≤Int.tmod _ _∧Int.tmod _ _<(((Qel _ x.d.c).length:Nat):Int);rw[Qse,hnx];exact hnc
  ·show(Qhv x).a.length≤8;omega
  ·show 0≤IntKind.i64.wrap (x.n+1)∧IntKind.i64.wrap (x.n+1)≤100000;rw[Qdp (by omega) (by omega)];omega
  ·show(Qhv x).j.length≤1000;omega
  ·show(Qhv x).k.length≤1000;omega
  ·obtain⟨b,hb,hne,rfl⟩:=hrest a ha;obtain⟨k1,k2,k3,k4⟩:=Qamo h hb (hd.pro b hb) hne;refine⟨k1,k2,?_,k4⟩;show Qme (Qel _ x.d.c).length _;rw[Qse];exact k3
  ·show(Qir x (Qeq x (Qay x))).Pairwise _;unfold Qir;rw[hL,List.pairwise_map];refine List.Pairwise.filter _ ?_;rw[List.pairwise_map];refine h.srt.imp fun {a b} hab=>?_
   show(Qdu x a).e.Id<(Qdu x b).e.Id;rw[Qtg,Qtg];exact hab
  ·rcases hdone f hf with hf|⟨b,hb,he,rfl⟩
   ·exact h.fin f hf
   have hF:=Qtf h hb;obtain⟨k1,k2⟩:=Qada h hb (hd.pro b hb) hF he;obtain⟨hq,htm,_,hag,_,_,hro⟩:=h.act b hb;refine⟨?_,?_,?_,?_⟩
   ·show Qfw (Qdu x b).e=true;rw[Qtg];exact hq
   ·show 0≤(Qdu x b).r∧(Qdu x b).r≤x.d.f;rw[hF.time];exact htm
   ·have:=k1.1;have:=k1.2.1;omega
   have hr3:=k1.2.2;refine⟨fun r hr=>?_,by omega⟩;have hr:r∈(Qdu x b).p:=hr;unfold Qdu at hr
   revert hr
   cases Qhf x.g b with
   |false=>exact fun hr=>hro.1 r hr
   |true=>
    intro hr;rcases List.mem_append.1 (show r∈b.p++Qhq x b from hr) with hr|hr
    ·exact hro.1 r hr
    exact Qzt h b r hr
  rcases hled.2 c hc with hc|hc
  ·exact h.led c hc
  exact hc
 refine⟨fun a ha=>?_,fun f hf=>?_,?_,?_⟩
 ·obtain⟨b,hb,hne,rfl⟩:=hrest a ha;show Qlb (Qel _ x.d.c).length (Int.tmod _ _) _;rw[Qse,hnx];exact Qams h hb (hd.pro b hb) (Qtf h hb) hne
 ·show Qqy (Qel _ x.d.c).length f;rw[Qse];rcases hdone f hf with hf|⟨b,hb,he,rfl⟩
  ·exact hd.dn f hf
  exact(Qada h hb (hd.pro b hb) (Qtf h hb) he).1
 ·have:=hd.cnt;show(Qhv x).j.length+(Qhv x).a.length≤_;omega
 have:=hd.led;show(Qhv x).k.length≤_;omega
theorem Qaco {K:Nat} {e:Qk} (h:Eng e) (hd:DrX K e):Eng (Qhm e)∧DrX K (Qhm e):=by
 rw[Qmc,Qacr h.st];have hl:(Qel (e.a.map fun a=>a.r) e.d.c).length=e.d.c.length:=Qse _ _;refine⟨⟨(Qfo _).2 (Qacp ((Qfo _).1 h.st) _),?_,h.ord,h.al,h.stp,h.dl,h.ll,fun a ha=>?_,h.srt,h.fin,h.led⟩,⟨fun a ha=>?_,fun f hf=>?_,hd.cnt,hd.led⟩⟩
 ·show 0≤e.g∧e.g<(((Qel _ e.d.c).length:Nat):Int);rw[hl];exact h.cur
 ·obtain⟨k1,k2,k3,k4⟩:=h.act a ha;exact⟨k1,k2,by show Qme (Qel _ e.d.c).length _;rw[hl];exact k3,k4⟩
 ·show Qlb (Qel _ e.d.c).length _ _;rw[hl];exact hd.pro a ha
 show Qqy (Qel _ e.d.c).length _;rw[hl];exact hd.dn f hf
theorem Qacg {s:Qaa} (h:Qgy s=true):Eng (⟨s,0,[0,1,2],[],[],[],0⟩:Qk)∧DrX 0 (⟨s,0,[0,1,2],[],[],[],0⟩:Qk):=by
 have hs:=((Qfo _).1 h).1
 exact⟨⟨h,by show(0:Int)≤0∧(0:Int)<((s.c.length:Nat):Int);omega,rfl,Nat.zero_le _,(by show(0:Int)≤0∧(0:Int)≤100000;decide),Nat.zero_le _,Nat.zero_le _,fun a ha=>(by cases ha),List.Pairwise.nil,fun a ha=>(by cases ha),fun a ha=>(by cases ha)⟩,
  ⟨fun a ha=>(by cases ha),fun a ha=>(by cases ha),Nat.le_refl _,Nat.le_refl _⟩⟩
theorem Qxp {x:Qk} {q:Qba} {l:Int} (h:Qmg x q l=true):Eng x∧Qfw q=true∧(0≤l∧l≤32)∧(∀ j,j<x.a.length→(gt x.a j).e.Id≠q.Id)∧x.a.length<8:=by
 unfold Qmg at h;simp only[Bool.and_eq_true,Bool.not_eq_true',Qfy,decide_eq_true_iff] at h;obtain⟨⟨⟨⟨h1,h2⟩,h3⟩,h4⟩,h5⟩:=h;have h5:=of_decide_eq_false h5;exact⟨(Qjc x).1 h1,h2,h3,Qacd h4,by omega⟩
theorem Qato (n:Nat) (hn:0<n):Qme n ((List.range n).map fun(k:Nat)=>((k:Nat):Int)):=by
 refine⟨fun y hy=>?_,?_,by rw[List.length_map,List.length_range];exact hn⟩
 ·obtain⟨k,hk,rfl⟩:=List.mem_map.1 hy;have:=List.mem_range.1 hk;omega
 rw[List.pairwise_map];exact List.pairwise_lt_range.imp fun h=>by omega
theorem Qatp {x:Qk} {q:Qba} {l:Int} (h:Qmg x q l=true):Qoo x.d (Qlh x q l)∧Qlb x.d.c.length x.g (Qlh x q l):=by
 obtain⟨hE,hq,hl,hf,h8⟩:=Qxp h;have hs:=(Qfo _).1 hE.st;have hs1:=hs.1;have hc:=hE.cur;have ht:=Qato x.d.c.length (by omega);have hlen:(Qlh x q l).q.length=x.d.c.length:=by show((List.range x.d.c.length).map _).length=_;rw[List.length_map,List.length_range]
 refine⟨⟨hq,⟨hs.2.1.1,Int.le_refl _⟩,ht,⟨Int.le_refl _,(by show(0:Int)≤100000;decide)⟩,⟨Int.le_refl _,(by show(0:Int)≤1000;decide)⟩,hl,fun r hr=>(by cases hr),Nat.zero_le _⟩,?_,?_,Int.le_refl _,fun _ y hy=>?_,fun _=>⟨0,0,?_,Int.le_refl _,by omega,Int.le_refl _, .inr ⟨rfl,?_,fun y hy=>?_⟩⟩⟩
 ·rw[hlen];show _≤_+(0:Int);omega
 ·rw[hlen];show 0+_≤_;omega
 ·have:=Qrp hc (ht.1 y hy);show _+(0:Int)<_;omega
 ·show(0:Int)=_;omega
 ·rw[hlen];omega
 have:=Qrp hc (ht.1 y hy);omega
theorem Qajm {K:Nat} {x:Qk} {q:Qba} {l:Int} (hb:Qmg x q l=true) (hd:DrX K x):Eng (Qrj x q l)∧DrX (K+1) (Qrj x q l):=by
 obtain⟨h,hq,hl,hf,h8⟩:=Qxp hb;obtain⟨n1,n2⟩:=Qatp hb;have hj:=Qadk x.a q.Id;have hlen:(Qrj x q l).a.length=x.a.length+1:=by
  show((List.take _ x.a++[Qlh x q l])++List.drop _ x.a).length=_;rw[List.length_append,List.length_append,List.length_take,List.length_drop];show _+1+_=_;omega
 have hm:∀ a∈(Qrj x q l).a,a∈x.a∨a=Qlh x q l:=fun a ha=>by
  rcases List.mem_append.1 (show a∈(List.take (Qbr x.a q.Id) x.a++[Qlh x q l])++List.drop (Qbr x.a q.Id) x.a from ha) with ha|ha
  ·rcases List.mem_append.1 ha with ha|ha
   ·exact .inl (List.mem_of_mem_take ha)
   exact .inr (List.mem_singleton.1 ha)
  exact .inl (List.mem_of_mem_drop ha)
 have htk:∀ a∈x.a.take (Qbr x.a q.Id),a.e.Id<q.Id:=fun a ha=>by
  obtain⟨i,hi,rfl⟩:=List.mem_iff_getElem.1 ha;rw[List.length_take] at hi;rw[List.getElem_take];have h1:=Qxn (xs:=x.a) (q:=q.Id) (j:=i) (by omega);have h2:=hf i (by omega);rw[Qdl (by omega)] at h1 h2;omega
 have hdr:∀ a∈x.a.drop (Qbr x.a q.Id),q.Id<a.e.Id:=fun a ha=>by
  obtain⟨i,hi,rfl⟩:=List.mem_iff_getElem.1 ha;rw[List.length_drop] at hi;rw[List.getElem_drop];have h1:=Qxm (xs:=x.a) (q:=q.Id) (by omega);rw[Qdl (by omega)] at h1
  by_cases h0:i=0
  ·subst h0;exact h1
  have:=List.pairwise_iff_getElem.1 h.srt (Qbr x.a q.Id) (Qbr x.a q.Id+i) (by omega) (by omega) (by omega);omega
 refine⟨⟨h.st,h.cur,h.ord,by rw[hlen];omega,h.stp,h.dl,h.ll,fun a ha=>?_,?_,h.fin,h.led⟩,⟨fun a ha=>?_,hd.dn,?_,?_⟩⟩
 ·rcases hm a ha with ha|rfl
  ·exact h.act a ha
  exact n1
 ·show((x.a.take (Qbr x.a q.Id)++[Qlh x q l])++x.a.drop (Qbr x.a q.Id)).Pairwise _;rw[List.pairwise_append,List.pairwise_append];refine⟨⟨h.srt.sublist (List.take_sublist _ _),List.pairwise_singleton _ _,fun a ha b hb'=>?_⟩,h.srt.sublist (List.drop_sublist _ _),fun a ha b hb'=>?_⟩
  ·rw[List.mem_singleton.1 hb'];exact htk a ha
  rcases List.mem_append.1 ha with ha|ha
  ·have:=htk a ha;have:=hdr b hb';omega
  rw[List.mem_singleton.1 ha];exact hdr b hb'
 ·rcases hm a ha with ha|rfl
  ·exact hd.pro a ha
  exact n2
 ·have:=hd.cnt;rw[hlen];show x.j.length+_≤_;omega
 have:=hd.led;show x.k.length≤_;omega
theorem Qaqq {α:Type} (l:List α) {k k2:Nat} (h:k≤k2):(l.take k++l.drop k2).Sublist l:=by
 have h1:(l.drop k2).Sublist (l.drop k):=by
  rw[show k2=k+(k2-k) by omega, ← List.drop_drop];exact List.drop_sublist _ _
 have:=(List.Sublist.refl (l.take k)).append h1;rw[List.take_append_drop] at this;exact this
theorem Qakj {K:Nat} {x:Qk} (h:Eng x) (hd:DrX K x) {k k2:Nat} (hk:k≤k2):Eng (⟨x.d,x.g,x.l,(List.take k x.a++List.drop k2 x.a),x.j,x.k,x.n⟩:Qk)∧DrX K (⟨x.d,x.g,x.l,(List.take k x.a++List.drop k2 x.a),x.j,x.k,x.n⟩:Qk):=by
 have hsub:=Qaqq x.a hk;have hle:=hsub.length_le;have:=h.al;have:=hd.cnt
 exact⟨⟨h.st,h.cur,h.ord,by show(x.a.take k++x.a.drop k2).length≤8;omega,h.stp,h.dl,h.ll,fun a ha=>h.act a (hsub.subset ha),h.srt.sublist hsub,h.fin,h.led⟩,
  ⟨fun a ha=>hd.pro a (hsub.subset ha),hd.dn,by show x.j.length+(x.a.take k++x.a.drop k2).length≤K;omega,hd.led⟩⟩
theorem Qamw {K:Nat} {x:Qk} {u:Qda} (h:Eng x) (hd:DrX K x) (hu:(Qce x.d u).2=true):Eng (⟨(Qce x.d u).1,x.g,x.l,x.a,x.j,x.k,x.n⟩:Qk)∧DrX K (⟨(Qce x.d u).1,x.g,x.l,x.a,x.j,x.k,x.n⟩:Qk):=by
 have hs:=(Qfo _).1 h.st;have hs1:=hs.1;obtain⟨h1,h2⟩:=Qamx hs hu;have hst:=Qamv hs h1 h2;have hn:=h2.1;have hl:(Qce x.d u).1.c.length=x.d.c.length:=h2.2.2.1;refine⟨⟨(Qfo _).2 hst,?_,h.ord,h.al,h.stp,h.dl,h.ll,fun a ha=>?_,h.srt,fun f hf=>?_,h.led⟩,⟨fun a ha=>?_,fun f hf=>?_,hd.cnt,hd.led⟩⟩
 ·show 0≤x.g∧x.g<(((Qce x.d u).1.c.length:Nat):Int);rw[hl];exact h.cur
 ·obtain⟨k1,k2,k3,k4⟩:=h.act a ha;refine⟨k1,⟨k2.1,?_⟩,?_,k4⟩
  ·show a.r≤(Qce x.d u).1.f;rw[hn];omega
  show Qme (Qce x.d u).1.c.length _;rw[hl];exact k3
 ·obtain⟨k1,k2,k3,k4⟩:=h.fin f hf;refine⟨k1,⟨k2.1,?_⟩,k3,k4⟩;show f.r≤(Qce x.d u).1.f;rw[hn];omega
 ·show Qlb (Qce x.d u).1.c.length _ _;rw[hl];exact hd.pro a ha
 show Qqy (Qce x.d u).1.c.length _;rw[hl];exact hd.dn f hf
def Qjt (k:Nat) (e:Qk):Prop:=Qgu e∧(e.d.c.length=0∨(Eng e∧DrX k e∧e.n≤((k:Nat):Int)))
theorem Qakl {j k:Nat} {e:Qk} (h:DrX j e) (hk:j≤k):DrX k e:=⟨h.pro,h.dn,Nat.le_trans h.cnt hk,Nat.le_trans h.led hk⟩
theorem Qqz {j k:Nat} {e:Qk} (h:Qjt j e) (hk:j≤k):Qjt k e:=⟨h.1,h.2.imp id fun g=>⟨g.1,Qakl g.2.1 hk,by have:=g.2.2;omega⟩⟩
theorem Quy {e:Qk} (h:e.d.c.length=0):Qgf e=false:=by
 cases hE:Qgf e with
 |false=>rfl
 |true=>have:=((Qfo _).1 ((Qjc e).1 hE).st).1;omega
theorem Qakp {k:Nat} {e:Qk} (h:Qjt k e):Qjt (k+1) (Qfd e).1:=by
 refine⟨Qnq h.1,?_⟩;cases hc:Qkc e with
 |false=>
  rw[Qmd,hc,cond_false];exact(Qqz h (Nat.le_succ k)).2
 |true=>
  have hE:=(Qmz hc).1;rcases h.2 with h2|h2
  ·have:=Quy h2;rw[(Qjc e).2 hE] at this;cases this
  obtain⟨g1,g2⟩:=Qxe hE h2.2.1 hc;refine .inr ⟨g1,g2,?_⟩;rw[Qmd,hc,cond_true,Qmc];show IntKind.i64.wrap (e.n+1)≤_;have:=hE.stp;have:=h2.2.2;rw[Qdp (by omega) (by omega)];omega
theorem Qabz {k:Nat} {e:Qk} {q:Qba} {l:Int} (h:Qjt k e) (hq:Qil 68719476736 q):Qjt (k+1) (Qev e q l).1:=by
 refine⟨Qop h.1 hq,?_⟩;rw[Qabr];cases hb:Qmg e q l with
 |false=>exact(Qqz h (Nat.le_succ k)).2
 |true=>
  have hE:=(Qxp hb).1;rcases h.2 with h2|h2
  ·have:=Quy h2;rw[(Qjc e).2 hE] at this;cases this
  obtain⟨g1,g2⟩:=Qajm hb h2.2.1;refine .inr ⟨g1,g2,?_⟩;show e.n≤_;have:=h2.2.2;omega
theorem Qact (e:Qk):(Qhm e).n=e.n:=by rw[Qmc]
theorem Qakq {k:Nat} {e:Qk} (h:Qjt k e) (u:Qda):Qjt (k+1) (Qht e u).1:=by
 refine⟨Qou h.1 u,?_⟩;have h0:=Qqz h (Nat.le_succ k);unfold Qht;cases hE:Qgf e with
 |false=>exact h0.2
 |true=>
 cases hu:(Qce e.d u).2 with
 |false=>exact h0.2
 |true=>
  rcases h0.2 with h2|h2
  ·rw[Quy h2] at hE;cases hE
  have hx:=Qamw h2.1 h2.2.1 hu;obtain⟨g1,g2⟩:=Qaco hx.1 hx.2;refine .inr ⟨g1,g2,?_⟩;show(Qhm _).n≤_;rw[Qact];exact h2.2.2
theorem Qakk {x:Qk} (h:Eng x) {i:Int} (h0: ¬ Qad x i<0):(IntKind.i64.wrap (Qad x i+1)).toNat=(Qad x i).toNat+1:=by
 have h1:=Qqa x i;have h8:=h.al;rw[Qdp (by omega) (by omega)];omega
theorem Qakn {k:Nat} {e:Qk} (h:Qjt k e) (i:Int):Qjt (k+1) (Qhs e i).1:=by
 refine⟨Qor h.1 i,?_⟩;have h0:=Qqz h (Nat.le_succ k);unfold Qhs;cases hE:Qgf e with
 |false=>exact h0.2
 |true=>
 cases hf:decide (Qad e i<0) with
 |true=>exact h0.2
 |false=>
  rcases h0.2 with h2|h2
  ·rw[Quy h2] at hE;cases hE
  have hy:=Qakj h2.1 h2.2.1 (show(Qad e i).toNat≤(IntKind.i64.wrap (Qad e i+1)).toNat by rw[Qakk h2.1 (of_decide_eq_false hf)];omega);obtain⟨g1,g2⟩:=Qaco hy.1 hy.2;refine .inr ⟨g1,g2,?_⟩;show(Qhm _).n≤_;rw[Qact];exact h2.2.2
theorem Qako {s:Qaa} (h:stD 20 s):Qjt 0 (Qgm s).1:=by
 refine⟨Qacf h,?_⟩;unfold Qgm;cases hs:Qgy s with
 |true=>exact .inr ⟨(Qacg hs).1,(Qacg hs).2,Int.le_refl _⟩
 |false=>exact .inl rfl
theorem Qaiq (b:List Int) (D:Qaf) {n:Int} (hn:0≤n∧n≤14):Qjt 14 (Qap b D n).1:=by
 have hr:=Qef b ((Qed b D).2) n;have h0:=Qako (Qaim b D);unfold Qap;have hm:(Qd b ((Qed b D).2) n).1≤14:=by
  by_cases h:0<n
  ·have:=hr.2.1 h;omega
  have:=hr.2.2 (show n≤0 by omega);omega
 generalize hM:(Qd b ((Qed b D).2) n).1=M at hr hm
 obtain⟨s',e,h⟩:=Qvb (R:=Qk×Qaf) (b:=fun k (s:Int×Nat×Int×Qk)=>Qqm b k s.1 s.2.1 s.2.2.1 s.2.2.2) (n:=M.toNat+1) (P:=fun k s=>s.1=M-((k:Nat):Int)∧0≤s.1∧Qjt k s.2.2.2) (Q:=fun s=>Qjt 14 s.2.2.2) (fun k s hk hs=>by
  obtain⟨i,c1,c2,y⟩:=s;dsimp only at hs;obtain⟨h1,h2,h3⟩:=hs;show(∃ s',Qqm b k i c1 c2 y=_∧_)∨∃ s',Qqm b k i c1 c2 y=_∧_;unfold Qqm
  by_cases hi:0<i
  ·have hw:=Qdp (n:=i-1) (by omega) (by omega);rw[decide_eq_true hi,cond_true,hw]
   left
   generalize (Qd b (⟨c1,c2⟩:Qaf) 7).1=z;cases z==0 with
   |true=>exact⟨_,rfl,by dsimp only;omega,by dsimp only;omega,Qabz h3 (Qit (Qjg _ _ _))⟩
   |false=>
   cases z==1 with
   |true=>exact⟨_,rfl,by dsimp only;omega,by dsimp only;omega,Qabz h3 (Qit (Qjg _ _ _))⟩
   |false=>
   cases z==2 with
   |true=>exact⟨_,rfl,by dsimp only;omega,by dsimp only;omega,Qakq h3 _⟩
   |false=>
   cases z==3 with
   |true=>exact⟨_,rfl,by dsimp only;omega,by dsimp only;omega,Qakn h3 _⟩
   |false=>exact⟨_,rfl,by dsimp only;omega,by dsimp only;omega,Qakp h3⟩
  rw[decide_eq_false hi,cond_false]
  right
  exact⟨_,rfl,Qqz h3 (by omega)⟩) (M.toNat+1-0) 0 (M,(Qd b ((Qed b D).2) n).2.i,(Qd b ((Qed b D).2) n).2.h,((Qgm ((Qed b D).1)).1)) (by omega) ⟨by dsimp only;omega,by dsimp only;omega,h0⟩
 rw[e];rcases h with h|h
 ·exact h
 obtain⟨q1,q2,_⟩:s'.1=M-((M.toNat+1:Nat):Int)∧0≤s'.1∧_:=h;omega
theorem Qayn (b:List Int) (D:Qaf) {n:Int} (hn:0≤n∧n≤14):Qgu (Qap b D n).1:=(Qaiq b D hn).1
def Qjh (x0b:List Int) (x0:Qaf):(Qk×Qaf):=
 cond ((Qd x0b ((Qap x0b x0 14).2) 16).1==0) ((⟨((Qap x0b x0 14).1).d,(Qcm x0b (Qd x0b ((Qap x0b x0 14).2) 16).2 [(-1),8]).1,((Qap x0b x0 14).1).l,((Qap x0b x0 14).1).a,((Qap x0b x0 14).1).j,((Qap x0b x0 14).1).k,((Qap x0b x0 14).1).n⟩:Qk),(Qcm x0b (Qd x0b ((Qap x0b x0 14).2) 16).2 [(-1),8]).2) (cond ((Qd x0b ((Qap x0b x0 14).2) 16).1==1) ((⟨((Qap x0b x0 14).1).d,((Qap x0b x0 14).1).g,((Qap x0b x0 14).1).l,((Qap x0b x0 14).1).a,((Qap x0b x0 14).1).j,((Qap x0b x0 14).1).k,(Qcm x0b (Qd x0b ((Qap x0b x0 14).2) 16).2 [(-1),99999,100000,100001]).1⟩:Qk),(Qcm x0b (Qd x0b ((Qap x0b x0 14).2) 16).2 [(-1),99999,100000,100001]).2) (cond ((Qd x0b ((Qap x0b x0 14).2) 16).1==2) ((⟨(⟨((Qap x0b x0 14).1).d.c,(-1)⟩:Qaa),((Qap x0b x0 14).1).g,((Qap x0b x0 14).1).l,((Qap x0b x0 14).1).a,((Qap x0b x0 14).1).j,((Qap x0b x0 14).1).k,((Qap x0b x0 14).1).n⟩:Qk),(Qd x0b ((Qap x0b x0 14).2) 16).2) (cond ((Qd x0b ((Qap x0b x0 14).2) 16).1==3) ((⟨((Qap x0b x0 14).1).d,((Qap x0b x0 14).1).g,(Qka x0b (Qd x0b ((Qap x0b x0 14).2) 16).2).1,((Qap x0b x0 14).1).a,((Qap x0b x0 14).1).j,((Qap x0b x0 14).1).k,((Qap x0b x0 14).1).n⟩:Qk),(Qka x0b (Qd x0b ((Qap x0b x0 14).2) 16).2).2) (((Qap x0b x0 14).1),(Qd x0b ((Qap x0b x0 14).2) 16).2))))
theorem cb88:Cb Tryz.prog 88:=⟨f88,_,func88,rfl,by decide⟩
theorem Qayi (B:Nat) (w0:World) (is:List It) (w:World) (p:Nat) (z0:Value) (x0b:List Int) (x0:Qaf) (r_0:rdS tU8 w0 B z0 x0b) (s_0:x0b.length≤68719476736) (hm:Mem B w0 (Qb p 177 [z0,nI x0.i,iV x0.h]::is) w):
 Calls Tryz.prog 88 #[.pointer (sA p)] w fun e w'=>∃ x:List Value,e= .returned (.agg x.toArray)∧Mem B w0 (Qh Qbz x ((Qjh x0b x0).1)::Qb p 177 [z0,nI (((Qjh x0b x0).2).i),iV ((Qjh x0b x0).2).h]::is) w':=by
 obtain⟨m1,A2,c3,rfl,q4,r5⟩:=Qn r_0;refine Qiy (L:=[(0, .pointer (sA p))]) (N:=30) func88 rfl rfl (Nat.le_of_ble_eq_true rfl) (Qfg rfl Qho) hm ?_;have l6:x0b.length≤68719476736:=s_0;refine sr ?_;refine Qbo Qal rfl (Qf rfl) (by decide) (fun p7=>?_);refine nt' (sr (wm ?_));let K1:List Value:=[.slice none 0 0,iV 0,iV 0, .slice none 0 0, .slice none 0 0, .slice none 0 0, .slice none 0 0,iV 0];let J19:List It:=Qb p7 39 K1::is;refine Qcp (χ:=List Value) (val:=fun x=> .agg x.toArray) (js:=fun x=>(Qh Qbz x ((Qap x0b x0 14).1)::Qb p 177 [.slice A2 x0b.length c3,nI (((Qap x0b x0 14).2).i),iV ((Qap x0b x0 14).2).h]::J19)) (Qs Qaof rfl) (fun W hm=>Qayo B w0 J19 W p _ x0b x0 r5 14 s_0 (⟨by decide,by decide⟩) (hm.front (n:=1) rfl)) (Qf rfl) (by decide) (fun z8=>?_);have hrw:=Qayn x0b x0 (n:=14) ⟨by decide,by decide⟩;refine Qhn ?_;rintro⟨v9,v10,v11,v12,v13⟩ rfl;refine fm 0 ?_;rintro A14 c15 rfl m16;refine fm 1 ?_;rintro A18 c19 rfl m20;refine fm 2 ?_;rintro A22 c23 rfl m24;refine fm 3 ?_;rintro A26 c27 rfl m28;refine fm 4 ?_;rintro A30 c31 rfl m32;refine Qbo Qal rfl (Qf rfl) (by decide) (fun p34=>?_);let K2:List Value:=[.slice A14 (((Qap x0b x0 14).1).d.c).length c15,iV (((Qap x0b x0 14).1).d.f),iV (((Qap x0b x0 14).1).g), .slice A18 (((Qap x0b x0 14).1).l).length c19, .slice A22 (((Qap x0b x0 14).1).a).length c23, .slice A26 (((Qap x0b x0 14).1).j).length c27, .slice A30 (((Qap x0b x0 14).1).k).length c31,iV (((Qap x0b x0 14).1).n)];refine Qdf (p:=p34) (o:=0) (cs':=K2) (fun w hm=>hm.front (n:=0) rfl) Qal rfl (Nat.le_of_ble_eq_true rfl) rfl rfl rfl rfl (Qf rfl) ?_;refine nt' (Qj (sr (wm ?_)));let I12:It:=iS (tSl Qy 163) 100 A14 c15 (((Qap x0b x0 14).1).d.c);let I13:It:=iS Qa 3 A18 c19 (((Qap x0b x0 14).1).l);let I14:It:=iS Qz 61 A22 c23 (((Qap x0b x0 14).1).a);let I15:It:=iS Qaz 80 A26 c27 (((Qap x0b x0 14).1).j);let I16:It:=iS Qaw 102 A30 c31 (((Qap x0b x0 14).1).k);let J20:List It:=Qb p34 39 K2::I12::I13::I14::I15::I16::J19;refine Qcp (χ:=Unit) (val:=fun x=>iV ((Qd x0b ((Qap x0b x0 14).2) 16).1)) (js:=fun x=>(Qb p 177 [.slice A2 x0b.length c3,nI (((Qd x0b ((Qap x0b x0 14).2) 16).2).i),iV ((Qd x0b ((Qap x0b x0 14).2) 16).2).h]::J20)) (Qs Qfh rfl) (fun W hm=>Qfi B w0 J20 W p _ x0b ((Qap x0b x0 14).2) r5 16 s_0 (hm.front (n:=6) rfl)) (Qf rfl) (by decide) (fun z35=>?_);have hb:=Qef x0b ((Qap x0b x0 14).2) 16;obtain⟨G36,hG36⟩:∃ G,G=(Qd x0b ((Qap x0b x0 14).2) 16):=⟨_,rfl⟩;rw[← hG36];rw[← hG36] at hb;refine nt' (Qaj (sr ?_));refine wv (fun W hm=>Qde rfl rfl) ?_;refine wa (nt' ?_);rcases dce G36.1 0 with⟨h37,g38⟩|⟨h37,g38⟩
 ·refine Qr rfl g38 ?_;refine Qae (wm ?_);refine Qcf (cs:=[iV (-1),iV 8]) Qo Qg rfl (by decide) (by decide) rfl (by kernel_rfl) (Qf rfl) (by decide) (fun p39=>?_);refine Qgp (fun W hm=>Mem.litOwn (E:=Qa) (xs:=[(-1),8]) rfl (show 2≤maxLen from by decide) (fun _=>(Qdc (E:=Qa) (L1:=[]) Qbu (Qdc (E:=Qa) (L1:=[]) Qbu Qfa))) (hm.front (n:=0) rfl)) ?_;let I17:It:=Qh (tSl Qa 3) [.slice (sA p39) 2 2] [(-1),8];refine Qcp (χ:=Unit) (val:=fun x=>iV ((Qcm x0b G36.2 [(-1),8]).1)) (js:=fun x=>(Qb p 177 [.slice A2 x0b.length c3,nI (((Qcm x0b G36.2 [(-1),8]).2).i),iV ((Qcm x0b G36.2 [(-1),8]).2).h]::I17::J20)) (Qs Qns rfl) (fun W hm=>Qod B w0 J20 W p _ x0b G36.2 r5 _ [(-1),8] s_0 (Nat.le_of_ble_eq_true rfl) (by first|decide|exact Nat.succ_pos _) ((hm.front (n:=0) rfl).front (n:=1) rfl)) (Qf rfl) (by decide) (fun z41=>?_);obtain⟨G42,hG42⟩:∃ G,G=(Qcm x0b G36.2 [(-1),8]):=⟨_,rfl⟩;rw[← hG42];refine wv (vf Qt rfl Qg) ?_;let K3:List Value:=[.slice A14 (((Qap x0b x0 14).1).d.c).length c15,iV (((Qap x0b x0 14).1).d.f),iV G42.1, .slice A18 (((Qap x0b x0 14).1).l).length c19, .slice A22 (((Qap x0b x0 14).1).a).length c23, .slice A26 (((Qap x0b x0 14).1).j).length c27, .slice A30 (((Qap x0b x0 14).1).k).length c31,iV (((Qap x0b x0 14).1).n)];refine Qdf (p:=p34) (o:=2) (cs':=K3) (fun w hm=>hm.front (n:=2) rfl) Qg rfl (Nat.le_of_ble_eq_true rfl) rfl rfl rfl rfl (Qf rfl) ?_;refine Qai (Qar (Qi (sr ?_)));refine wv (fun W hm=>Qab (cs:=K3) Qt Qal rfl rfl (hm.boxCells (n:=0) rfl)) ?_;refine Qdf (p:=p7) (o:=0) (cs':=K3) (fun w hm=>hm.front (n:=8) rfl) Qal rfl (Nat.le_of_ble_eq_true rfl) rfl rfl rfl rfl (Qf rfl) ?_;refine nt' (Qm ?_);let K4:List Value:=[.slice A2 x0b.length c3,nI G42.2.i,iV G42.2.h];let J21:List It:=Qb p7 39 K3::Qb p34 39 K3::Qb p 177 K4::I17::is;refine Qbh (js:=(Qh Qbz K3 (⟨((Qap x0b x0 14).1).d,G42.1,((Qap x0b x0 14).1).l,((Qap x0b x0 14).1).a,((Qap x0b x0 14).1).j,((Qap x0b x0 14).1).k,((Qap x0b x0 14).1).n⟩:Qk)::J21)) (fun W hm=>Mem.join (is:=[I12,I13,I14,I15,I16]) (js:=J21) (fun _ _ hs=>Qej (x:=(⟨((Qap x0b x0 14).1).d,G42.1,((Qap x0b x0 14).1).l,((Qap x0b x0 14).1).a,((Qap x0b x0 14).1).j,((Qap x0b x0 14).1).k,((Qap x0b x0 14).1).n⟩:Qk)) hs) (hm.pickN 9 [4,5,6,7,8,0,1,2,3] (by decide))) ?_;have he43:=(show Qjh x0b x0=((⟨((Qap x0b x0 14).1).d,G42.1,((Qap x0b x0 14).1).l,((Qap x0b x0 14).1).a,((Qap x0b x0 14).1).j,((Qap x0b x0 14).1).k,((Qap x0b x0 14).1).n⟩:Qk),G42.2) from by subst hG36 hG42;exact Qc g38 (rfl));refine Qcy rfl (Qck (n:=1) rfl rfl Qt Qal rfl) (fun W hm=>⟨K3,?_,?_⟩)
  ·first|rw[he43]|rfl
  rw[he43];exact(hm.pickN 5 [0,3] (by decide))
 refine Qx rfl g38 ?_;refine sr ?_;refine wv (fun W hm=>Qde rfl rfl) ?_;refine wa (nt' ?_);rcases dce G36.1 1 with⟨h44,g45⟩|⟨h44,g45⟩
 ·refine Qr rfl g45 ?_;refine Qae (wm ?_);refine Qcf (cs:=[iV (-1),iV 99999,iV 100000,iV 100001]) Qo Qg rfl (by decide) (by decide) rfl (by kernel_rfl) (Qf rfl) (by decide) (fun p46=>?_);refine Qgp (fun W hm=>Mem.litOwn (E:=Qa) (xs:=[(-1),99999,100000,100001]) rfl (show 4≤maxLen from by decide) (fun _=>(Qdc (E:=Qa) (L1:=[]) Qbu (Qdc (E:=Qa) (L1:=[]) Qbu (Qdc (E:=Qa) (L1:=[]) Qbu (Qdc (E:=Qa) (L1:=[]) Qbu Qfa))))) (hm.front (n:=0) rfl)) ?_;let I18:It:=Qh (tSl Qa 3) [.slice (sA p46) 4 4] [(-1),99999,100000,100001];refine Qcp (χ:=Unit) (val:=fun x=>iV ((Qcm x0b G36.2 [(-1),99999,100000,100001]).1)) (js:=fun x=>(Qb p 177 [.slice A2 x0b.length c3,nI (((Qcm x0b G36.2 [(-1),99999,100000,100001]).2).i),iV ((Qcm x0b G36.2 [(-1),99999,100000,100001]).2).h]::I18::J20)) (Qs Qns rfl) (fun W hm=>Qod B w0 J20 W p _ x0b G36.2 r5 _ [(-1),99999,100000,100001] s_0 (Nat.le_of_ble_eq_true rfl) (by first|decide|exact Nat.succ_pos _) ((hm.front (n:=0) rfl).front (n:=1) rfl)) (Qf rfl) (by decide) (fun z48=>?_);obtain⟨G49,hG49⟩:∃ G,G=(Qcm x0b G36.2 [(-1),99999,100000,100001]):=⟨_,rfl⟩;rw[← hG49];refine wv (vf Qt rfl Qg) ?_;let K5:List Value:=[.slice A14 (((Qap x0b x0 14).1).d.c).length c15,iV (((Qap x0b x0 14).1).d.f),iV (((Qap x0b x0 14).1).g), .slice A18 (((Qap x0b x0 14).1).l).length c19, .slice A22 (((Qap x0b x0 14).1).a).length c23, .slice A26 (((Qap x0b x0 14).1).j).length c27, .slice A30 (((Qap x0b x0 14).1).k).length c31,iV G49.1];refine Qdf (p:=p34) (o:=7) (cs':=K5) (fun w hm=>hm.front (n:=2) rfl) Qg rfl (Nat.le_of_ble_eq_true rfl) rfl rfl rfl rfl (Qf rfl) ?_;refine Qai (Qar (Qi (sr ?_)));refine wv (fun W hm=>Qab (cs:=K5) Qt Qal rfl rfl (hm.boxCells (n:=0) rfl)) ?_;refine Qdf (p:=p7) (o:=0) (cs':=K5) (fun w hm=>hm.front (n:=8) rfl) Qal rfl (Nat.le_of_ble_eq_true rfl) rfl rfl rfl rfl (Qf rfl) ?_;refine nt' (Qm ?_);let K6:List Value:=[.slice A2 x0b.length c3,nI G49.2.i,iV G49.2.h];let J22:List It:=Qb p7 39 K5::Qb p34 39 K5::Qb p 177 K6::I18::is;refine Qbh (js:=(Qh Qbz K5 (⟨((Qap x0b x0 14).1).d,((Qap x0b x0 14).1).g,((Qap x0b x0 14).1).l,((Qap x0b x0 14).1).a,((Qap x0b x0 14).1).j,((Qap x0b x0 14).1).k,G49.1⟩:Qk)::J22)) (fun W hm=>Mem.join (is:=[I12,I13,I14,I15,I16]) (js:=J22) (fun _ _ hs=>Qej (x:=(⟨((Qap x0b x0 14).1).d,((Qap x0b x0 14).1).g,((Qap x0b x0 14).1).l,((Qap x0b x0 14).1).a,((Qap x0b x0 14).1).j,((Qap x0b x0 14).1).k,G49.1⟩:Qk)) hs) (hm.pickN 9 [4,5,6,7,8,0,1,2,3] (by decide))) ?_;have he50:=(show Qjh x0b x0=((⟨((Qap x0b x0 14).1).d,((Qap x0b x0 14).1).g,((Qap x0b x0 14).1).l,((Qap x0b x0 14).1).a,((Qap x0b x0 14).1).j,((Qap x0b x0 14).1).k,G49.1⟩:Qk),G49.2) from by subst hG36 hG49;exact Qe g38 (Qc g45 (rfl)));refine Qcy rfl (Qck (n:=1) rfl rfl Qt Qal rfl) (fun W hm=>⟨K5,?_,?_⟩)
  ·first|rw[he50]|rfl
  rw[he50];exact(hm.pickN 5 [0,3] (by decide))
 refine Qx rfl g45 ?_;refine sr ?_;refine wv (fun W hm=>Qde rfl rfl) ?_;refine wa (nt' ?_);rcases dce G36.1 2 with⟨h51,g52⟩|⟨h51,g52⟩
 ·refine Qr rfl g52 ?_;refine Qae ?_;refine wv (vf Qt rfl Qat) ?_;refine wv (fun W hm=>Qfb (o:=1) Qau rfl Qg (by decide) rfl rfl) ?_;let K7:List Value:=[.slice A14 (((Qap x0b x0 14).1).d.c).length c15,iV (-1),iV (((Qap x0b x0 14).1).g), .slice A18 (((Qap x0b x0 14).1).l).length c19, .slice A22 (((Qap x0b x0 14).1).a).length c23, .slice A26 (((Qap x0b x0 14).1).j).length c27, .slice A30 (((Qap x0b x0 14).1).k).length c31,iV (((Qap x0b x0 14).1).n)];refine Qdf (p:=p34) (o:=1) (cs':=K7) (fun w hm=>hm.front (n:=1) rfl) Qg rfl (Nat.le_of_ble_eq_true rfl) rfl rfl rfl rfl (Qf rfl) ?_;refine Qai (Qar (Qi (sr ?_)));refine wv (fun W hm=>Qab (cs:=K7) Qt Qal rfl rfl (hm.boxCells (n:=0) rfl)) ?_;refine Qdf (p:=p7) (o:=0) (cs':=K7) (fun w hm=>hm.front (n:=7) rfl) Qal rfl (Nat.le_of_ble_eq_true rfl) rfl rfl rfl rfl (Qf rfl) ?_;refine nt' (Qm ?_);let K8:List Value:=[.slice A2 x0b.length c3,nI G36.2.i,iV G36.2.h];refine Qbh (js:=(Qh Qbz K7 (⟨(⟨((Qap x0b x0 14).1).d.c,(-1)⟩:Qaa),((Qap x0b x0 14).1).g,((Qap x0b x0 14).1).l,((Qap x0b x0 14).1).a,((Qap x0b x0 14).1).j,((Qap x0b x0 14).1).k,((Qap x0b x0 14).1).n⟩:Qk)::(Qb p7 39 K7::Qb p34 39 K7::Qb p 177 K8::is))) (fun W hm=>Mem.join (is:=[I12,I13,I14,I15,I16]) (js:=(Qb p7 39 K7::Qb p34 39 K7::Qb p 177 K8::is)) (fun _ _ hs=>Qej (x:=(⟨(⟨((Qap x0b x0 14).1).d.c,(-1)⟩:Qaa),((Qap x0b x0 14).1).g,((Qap x0b x0 14).1).l,((Qap x0b x0 14).1).a,((Qap x0b x0 14).1).j,((Qap x0b x0 14).1).k,((Qap x0b x0 14).1).n⟩:Qk)) hs) (hm.pickN 8 [3,4,5,6,7,0,1,2] (by decide))) ?_;have he53:=(show Qjh x0b x0=((⟨(⟨((Qap x0b x0 14).1).d.c,(-1)⟩:Qaa),((Qap x0b x0 14).1).g,((Qap x0b x0 14).1).l,((Qap x0b x0 14).1).a,((Qap x0b x0 14).1).j,((Qap x0b x0 14).1).k,((Qap x0b x0 14).1).n⟩:Qk),G36.2) from by subst hG36;exact Qe g38 (Qe g45 (Qc g52 (rfl))));refine Qcy rfl (Qck (n:=1) rfl rfl Qt Qal rfl) (fun W hm=>⟨K7,?_,?_⟩)
  ·first|rw[he53]|rfl
  rw[he53];exact((((hm.front (n:=3) rfl).front (n:=1) rfl).front (n:=2) rfl).tail.front (n:=2) rfl).tail
 refine Qx rfl g52 ?_;refine sr ?_;refine wv (fun W hm=>Qde rfl rfl) ?_;refine wa (nt' ?_);rcases dce G36.1 3 with⟨h54,g55⟩|⟨h54,g55⟩
 ·refine Qr rfl g55 ?_;refine Qae (wm ?_);refine Qcp (χ:=Value) (val:=fun x=>x) (js:=fun x=>(Qh (tSl Qa 3) [x] ((Qka x0b G36.2).1)::Qb p 177 [.slice A2 x0b.length c3,nI (((Qka x0b G36.2).2).i),iV ((Qka x0b G36.2).2).h]::J20)) (Qs Qant rfl) (fun W hm=>Qaxj B w0 J20 W p _ x0b G36.2 r5 s_0 (hm.front (n:=0) rfl)) (Qf rfl) (by decide) (fun z56=>?_);obtain⟨G57,hG57⟩:∃ G,G=(Qka x0b G36.2):=⟨_,rfl⟩;rw[← hG57];refine fm 0 ?_;rintro A58 c59 rfl m60;refine wv (vf Qt rfl Qbf) ?_;let K9:List Value:=[.slice A14 (((Qap x0b x0 14).1).d.c).length c15,iV (((Qap x0b x0 14).1).d.f),iV (((Qap x0b x0 14).1).g), .slice A58 G57.1.length c59, .slice A22 (((Qap x0b x0 14).1).a).length c23, .slice A26 (((Qap x0b x0 14).1).j).length c27, .slice A30 (((Qap x0b x0 14).1).k).length c31,iV (((Qap x0b x0 14).1).n)];refine Qdf (p:=p34) (o:=3) (cs':=K9) (fun w hm=>hm.front (n:=2) rfl) Qbf rfl (Nat.le_of_ble_eq_true rfl) rfl rfl rfl rfl (Qf rfl) ?_;refine Qai (Qar (Qi (sr ?_)));refine wv (fun W hm=>Qab (cs:=K9) Qt Qal rfl rfl (hm.boxCells (n:=0) rfl)) ?_;refine Qdf (p:=p7) (o:=0) (cs':=K9) (fun w hm=>hm.front (n:=8) rfl) Qal rfl (Nat.le_of_ble_eq_true rfl) rfl rfl rfl rfl (Qf rfl) ?_;refine nt' (Qm ?_);let K10:List Value:=[.slice A2 x0b.length c3,nI G57.2.i,iV G57.2.h];let J23:List It:=Qb p7 39 K9::Qb p34 39 K9::Qb p 177 K10::I13::is;refine Qbh (js:=(Qh Qbz K9 (⟨((Qap x0b x0 14).1).d,((Qap x0b x0 14).1).g,G57.1,((Qap x0b x0 14).1).a,((Qap x0b x0 14).1).j,((Qap x0b x0 14).1).k,((Qap x0b x0 14).1).n⟩:Qk)::J23)) (fun W hm=>Mem.join (is:=[I12,iS Qa 3 A58 c59 G57.1,I14,I15,I16]) (js:=J23) (fun _ _ hs=>Qej (x:=(⟨((Qap x0b x0 14).1).d,((Qap x0b x0 14).1).g,G57.1,((Qap x0b x0 14).1).a,((Qap x0b x0 14).1).j,((Qap x0b x0 14).1).k,((Qap x0b x0 14).1).n⟩:Qk)) hs) (hm.pickN 9 [4,2,6,7,8,0,1,3,5] (by decide))) ?_;have he62:=(show Qjh x0b x0=((⟨((Qap x0b x0 14).1).d,((Qap x0b x0 14).1).g,G57.1,((Qap x0b x0 14).1).a,((Qap x0b x0 14).1).j,((Qap x0b x0 14).1).k,((Qap x0b x0 14).1).n⟩:Qk),G57.2) from by subst hG36 hG57;exact Qe g38 (Qe g45 (Qe g52 (Qc g55 (rfl)))));refine Qcy rfl (Qck (n:=1) rfl rfl Qt Qal rfl) (fun W hm=>⟨K9,?_,?_⟩)
  ·first|rw[he62]|rfl
  rw[he62];exact(hm.pickN 5 [0,3] (by decide))
 refine Qx rfl g55 ?_;refine Qac (Qar (Qi (sr ?_)));refine wv (fun W hm=>Qab (cs:=K2) Qt Qal rfl rfl (hm.boxCells (n:=1) rfl)) ?_;refine Qdf (p:=p7) (o:=0) (cs':=K2) (fun w hm=>hm.front (n:=7) rfl) Qal rfl (Nat.le_of_ble_eq_true rfl) rfl rfl rfl rfl (Qf rfl) ?_;refine nt' (Qm ?_);let K11:List Value:=[.slice A2 x0b.length c3,nI G36.2.i,iV G36.2.h];refine Qbh (js:=(Qh Qbz K2 ((Qap x0b x0 14).1)::(Qb p7 39 K2::Qb p 177 K11::Qb p34 39 K2::is))) (fun W hm=>Mem.join (is:=[I12,I13,I14,I15,I16]) (js:=(Qb p7 39 K2::Qb p 177 K11::Qb p34 39 K2::is)) (fun _ _ hs=>Qej (x:=((Qap x0b x0 14).1)) hs) (hm.pickN 8 [3,4,5,6,7,0,1,2] (by decide))) ?_;have he63:=(show Qjh x0b x0=(((Qap x0b x0 14).1),G36.2) from by subst hG36;exact Qe g38 (Qe g45 (Qe g52 (Qe g55 (rfl)))));refine Qcy rfl (Qck (n:=1) rfl rfl Qt Qal rfl) (fun W hm=>⟨K2,?_,?_⟩)
 ·first|rw[he63]|rfl
 rw[he63];exact((((hm.front (n:=2) rfl).front (n:=1) rfl).front (n:=2) rfl).tail.front (n:=2) rfl).tail
def Qq (x0:(List Int)):Qk:=
 (Qjh x0 (Qlm x0)).1
theorem cb21:Cb Tryz.prog 21:=⟨f21,_,func21,rfl,by decide⟩
theorem Qavz (w:World) (z0:Value) (x0:(List Int)) (r_0:rdS tU8 w w.heap.size z0 x0) (s_0:x0.length≤68719476736):
 Calls Tryz.prog 21 #[z0] w (rO w Qbz (Qq x0)):=by
 obtain⟨m1,A2,c3,rfl,q4,r5⟩:=Qn r_0;have l6:x0.length≤68719476736:=s_0;refine ce1 (L:=[(0, .slice A2 x0.length c3)]) (N:=6) func21 ?_;refine sr ?_;refine Qbo Qal rfl (Qf rfl) (by decide) (fun p7=>?_);refine nt' (sr (wm ?_));refine Qii (χ:=Nat) (val:=fun p=> .pointer (sA p)) (js:=fun p=>[Qb p 177 [.slice A2 x0.length c3,nI ((Qlm x0).i),iV ((Qlm x0).h)]]) (Qs cb89 rfl) (fun W hm=>Qawy W _ x0 (hm.rdS0 r5) s_0) (Qf rfl) (by decide) (fun p8=>?_);let K1:List Value:=[.slice none 0 0,iV 0,iV 0, .slice none 0 0, .slice none 0 0, .slice none 0 0, .slice none 0 0,iV 0];refine Qcp (χ:=List Value) (val:=fun x=> .agg x.toArray) (js:=fun x=>(Qh Qbz x ((Qjh x0 (Qlm x0)).1)::Qb p8 177 [.slice A2 x0.length c3,nI (((Qjh x0 (Qlm x0)).2).i),iV ((Qjh x0 (Qlm x0)).2).h]::[Qb p7 39 K1])) (Qs cb88 rfl) (fun W hm=>Qayi w.heap.size w [Qb p7 39 K1] W p8 _ x0 (Qlm x0) r5 s_0 hm) (Qf rfl) (by decide) (fun z9=>?_);obtain⟨G10,hG10⟩:∃ G,G=(Qjh x0 (Qlm x0)):=⟨_,rfl⟩;rw[← hG10];refine Qhn ?_;rintro⟨v11,v12,v13,v14,v15⟩ rfl;refine fm 0 ?_;rintro A16 c17 rfl m18;refine fm 1 ?_;rintro A20 c21 rfl m22;refine fm 2 ?_;rintro A24 c25 rfl m26;refine fm 3 ?_;rintro A28 c29 rfl m30;refine fm 4 ?_;rintro A32 c33 rfl m34;let K2:List Value:=[.slice A16 G10.1.d.c.length c17,iV G10.1.d.f,iV G10.1.g, .slice A20 G10.1.l.length c21, .slice A24 G10.1.a.length c25, .slice A28 G10.1.j.length c29, .slice A32 G10.1.k.length c33,iV G10.1.n];let I3:It:=iS (tSl Qy 163) 100 A16 c17 G10.1.d.c;refine sb 0 K2 [I3,iS Qa 3 A20 c21 G10.1.l,iS Qz 61 A24 c25 G10.1.a,iS Qaz 80 A28 c29 G10.1.j,iS Qaw 102 A32 c33 G10.1.k,Qb p8 177 [.slice A2 x0.length c3,nI G10.2.i,iV G10.2.h]] (pk [6,0,1,2,3,4,5]) Qal ?_;refine nt' (Qm ?_);have he36:=(show Qq x0=G10.1 from by subst hG10;exact rfl);refine Qcy rfl (Qck (n:=0) rfl rfl Qt Qal rfl) (fun W hm=>⟨K2,?_,?_⟩)
 ·first|rw[he36]|rfl
 rw[he36];exact Mem.join (is:=[I3,iS Qa 3 A20 c21 G10.1.l,iS Qz 61 A24 c25 G10.1.a,iS Qaz 80 A28 c29 G10.1.j,iS Qaw 102 A32 c33 G10.1.k]) (js:=[]) (fun _ _ hs=>Qej (x:=G10.1) hs) (hm.pick [1,2,3,4,5] (by decide))
def Qzb (x0:Qba):Qba:=
 x0
theorem Qadu:Cb Tryz.prog 109:=⟨f109,_,func109,rfl,by decide⟩
theorem Qase (w:World) (z0:List Value) (x0:Qba) (r_0:Qcx.rd w w.heap.size z0 x0) (s_0:Qil 68719476736 x0):
 Calls Tryz.prog 109 #[.agg z0.toArray] w (rO w Qcx (Qzb x0)):=by
 obtain⟨v1,v3,rfl,r2,r4⟩:=Qjq r_0;obtain⟨m5,A6,c7,rfl,q8,r9⟩:=Qn r2;obtain⟨m10,A11,c12,rfl,q13,r14⟩:=Qn r4;have l15:=s_0.1;have l16:=s_0.2;refine ce1 (L:=[(0, .agg #[iV x0.Id,iV x0.u, .slice A6 x0.o.length c7, .slice A11 x0.t.length c12])]) (N:=13) func109 ?_;refine sr ?_;refine Qcj rfl (Qf rfl) (by decide) (fun p17=>?_);refine Qbo Qca rfl (Qf rfl) (by decide) (fun p18=>?_);refine nt' (sr ?_);refine Qcl (E:=Qbl) Qdq Qgi (Qf rfl) (by decide) (fun p19=>?_);refine wv (vf Qby rfl Qgs) ?_;refine wv (vl 2 2 Qdq) ?_;let K1:List Value:=[iV 0,iV 0, .slice none 0 0, .slice none 0 0];refine apR Qbl Qbl 180 (.slice (sA p19) 0 0) [] x0.o [Qb p18 58 K1,Qb p17 58 [iV x0.Id,iV x0.u, .slice A6 x0.o.length c7, .slice A11 x0.t.length c12]] idM (fun W hm=>Qdj (Qua (Qnc Qdd (Qnc Qdd Qdd))) (hm.rdS0 r9)) Qdq Qgi (show(0+x0.o.length)*24≤140737488355328 from by omega) (fun v21=>?_);refine fm 0 ?_;rintro A22 c23 rfl m24;refine wv (vf Qby rfl Qgs) ?_;refine sb 2 [iV x0.Id,iV x0.u, .slice A22 x0.o.length c23, .slice A11 x0.t.length c12] [iS Qbl 180 A22 c23 x0.o,Qb p18 58 K1] (pk [2,0,1]) Qgs ?_;refine nt' (sr ?_);refine wv (vf Qby rfl Qbf) ?_;refine wv (vl 0 3 Qo) ?_;refine wcl (tSl Qa 3) x0.t (Qs Qle rfl) (fun W hm=>Qlg W _ x0.t (hm.rdS0 r14) s_0.2) (fun z26=>?_);refine fm 0 ?_;rintro A27 c28 rfl m29;refine wv (vf Qby rfl Qbf) ?_;let K2:List Value:=[iV x0.Id,iV x0.u, .slice A22 x0.o.length c23, .slice A27 x0.t.length c28];refine sb 3 K2 [iS Qa 3 A27 c28 x0.t,iS Qbl 180 A22 c23 x0.o,Qb p18 58 K1] (pk [1,0,2,3]) Qbf ?_;refine nt' (sr ?_);refine wv (fun W hm=>Qab (cs:=K2) Qby Qca rfl rfl (hm.boxCells (n:=0) rfl)) ?_;refine sb 0 K2 [Qb p17 58 K2,iS Qa 3 A27 c28 x0.t,iS Qbl 180 A22 c23 x0.o] (pk [3,0,1,2]) Qca ?_;refine nt' (Qm ?_);have he31:=(show Qzb x0=x0 from rfl);refine Qcy rfl (Qck (n:=0) rfl rfl Qby Qca rfl) (fun W hm=>⟨K2,?_,?_⟩)
 ·first|rw[he31]|rfl
 rw[he31];exact Mem.join (is:=[iS Qbl 180 A22 c23 x0.o,iS Qa 3 A27 c28 x0.t]) (js:=[]) (fun _ _ hs=>Qwn (x:=x0) hs) (hm.pick [3,2] (by decide))
theorem Qasf (x0:Qba):Qzb x0=x0:=by
 rfl
theorem Qafu (w:World) (z0:List Value) (x0:Qba) (r_0:Qcx.rd w w.heap.size z0 x0) (s_0:Qil 68719476736 x0):
 Calls Tryz.prog 109 #[.agg z0.toArray] w (rO w Qcx x0):=by
 have h:=Qase w z0 x0 r_0 s_0;rw[Qasf] at h;exact h
def Qzc (x0:Qah):Qah:=
 x0
theorem Qapd:Cb Tryz.prog 206:=⟨f206,_,func206,rfl,by decide⟩
theorem Qasg (w:World) (z0:List Value) (x0:Qah) (r_0:Qas.rd w w.heap.size z0 x0) (s_0:Qjp 68719476736 x0):
 Calls Tryz.prog 206 #[.agg z0.toArray] w (rO w Qas (Qzc x0)):=by
 obtain⟨v1,rfl,r2⟩:=Qiz r_0;obtain⟨m3,A4,c5,rfl,q6,r7⟩:=Qn r2;have l8:x0.m.length≤68719476736:=s_0;refine ce1 (L:=[(0, .agg #[iV x0.Id, .slice A4 x0.m.length c5])]) (N:=9) func206 ?_;refine sr ?_;refine Qcj rfl (Qf rfl) (by decide) (fun p9=>?_);refine Qbo Qcn rfl (Qf rfl) (by decide) (fun p10=>?_);refine nt' (Qj ?_);let I1:It:=Qb p9 70 [iV x0.Id, .slice A4 x0.m.length c5];refine rd2 7 [6] (s:=[I1]) (s2:=[Qb p10 70 [iV 0, .slice none 0 0],I1]) (pk [1]) idM ?_;refine qtD 7 0 1 rfl (vf Qdr rfl Qg) ?_;refine qtD 7 1 3 rfl (vl 1 0 Qu) ?_;refine qtD 7 2 7 rfl (vf Qdr rfl Qbf) ?_;refine qtD 7 3 15 rfl (vl 1 1 Qo) ?_;refine qoD 7 4 31 rfl ?_;refine wcl (tSl Qa 3) x0.m (Qs Qle rfl) (fun W hm=>Qlg W _ x0.m (hm.rdS0 r7) s_0) (fun z11=>?_);refine fm 0 ?_;rintro A12 c13 rfl m14;refine qnD (pk [2]) (pk [1,2]) ?_;refine qtD 7 5 63 rfl (fun W hm=>Qcz (cs:=[iV x0.Id, .slice A12 x0.m.length c13]) rfl (by kernel_rfl)) ?_;refine qoD 7 6 127 rfl ?_;refine sb 0 [iV x0.Id, .slice A12 x0.m.length c13] [iS Qa 3 A12 c13 x0.m,I1] (pk [1,0,2]) Qcn ?_;refine qxD (pk [2]) ?_;refine Qdn (by kernel_rfl) ?_;refine Qi (Qm ?_);have he16:=(show Qzc x0=x0 from rfl);refine Qcy rfl (Qck (n:=0) rfl rfl Qdr Qcn rfl) (fun W hm=>⟨[iV x0.Id, .slice A12 x0.m.length c13],?_,?_⟩)
 ·first|rw[he16]|rfl
 rw[he16];exact Mem.join (is:=[iS Qa 3 A12 c13 x0.m]) (js:=[]) (fun _ _ hs=>Qkz (x:=x0) hs) (hm.pick [1] (by decide))
theorem Qasi (x0:Qah):Qzc x0=x0:=by
 rfl
theorem Qash (w:World) (z0:List Value) (x0:Qah) (r_0:Qas.rd w w.heap.size z0 x0) (s_0:Qjp 68719476736 x0):
 Calls Tryz.prog 206 #[.agg z0.toArray] w (rO w Qas x0):=by
 have h:=Qasg w z0 x0 r_0 s_0;rw[Qasi] at h;exact h
def Qzd (x0:(List Qah)) (k9:Nat) (d10:(List Qah)):(List Qah)⊕((List Qah)):=
 Sum.inr (d10++[(gt x0 k9)])
def Quq (x0:(List Qah)):(List Qah):=
 Sum.elim id (fun(s:(List Qah))=>s) (rng (R:=(List Qah)) (fun k (s:(List Qah))=>Qzd x0 k s) (x0.length-0) 0 [])
theorem Qaeb:Cb Tryz.prog 183:=⟨f183,_,func183,rfl,by decide⟩
theorem Qasj (w:World) (z0:Value) (x0:(List Qah)) (r_0:rdS Qas w w.heap.size z0 x0) (s_0:(x0.length≤68719476736∧∀ y∈x0,Qjp 68719476736 y)):
 Calls Tryz.prog 183 #[z0] w (rL w (tSl Qas 70) (Quq x0)):=by
 obtain⟨m1,A2,c3,rfl,q4,r5⟩:=Qn r_0;have l6:x0.length≤68719476736:=s_0.1;refine ce1 (L:=[(0, .slice A2 x0.length c3)]) (N:=20) func183 ?_;refine sr (wa (nt' (sr ?_)));refine Qcl (E:=Qas) Qcr Qcn (Qf rfl) (by decide) (fun p7=>?_);refine wa (nt' (Qj (sr (wm ?_))));refine wv (Qan Qcr) ?_;refine wm (nt' (Qaj ?_));refine Qbv (S:=(List Qah)) (R:=Option Addr×Nat) (fun k (s:(List Qah))=>Qzd x0 k s) x0.length 0 [] ((sA p7),0) (fun s=>[(3, .slice s.2.2.1 s.2.1.length s.2.2.2),(7, .slice A2 x0.length c3),(8,nI x0.length),(9,nI s.1)]) (fun s=>[iS Qas 70 s.2.2.1 s.2.2.2 s.2.1]) (fun s=>s.2.1.length≤0+s.1) sl4 (Nat.le_refl _) ?_;rintro⟨k9,d10,⟨A11,c12⟩⟩ H15 _ _ e e';dsimp only at H15 ⊢;subst e e';obtain⟨hk13,hF14,hi16⟩:=H15;refine sr ?_;refine wv Qbq ?_;refine nt' (Qj ?_);rcases dcl k9 x0.length with⟨hl17,g18⟩|⟨hl17,g18⟩
 ·refine Qr rfl g18 ?_;refine Qac (Qi (Qj (Qaj (sr ?_))));obtain⟨a19,rfl,hb20,he21⟩:=q4 (by omega);refine wv (vix 2 k9 Qcr Qcn) ?_;obtain⟨_,e25,hc22⟩:=he21 k9 _ (Qch (show k9<x0.length from by omega));obtain⟨v23,rfl,r24⟩:=Qiz e25;have l26:((gt x0 k9).m).length≤68719476736:=(s_0.2 _ (Qav (show k9<x0.length from by omega)));obtain⟨m27,A28,c29,rfl,q30,r31⟩:=Qn r24;let K1:List Value:=[iV ((gt x0 k9).Id), .slice A28 ((gt x0 k9).m).length c29];refine wv (fun W hm=>Qab (cs:=K1) Qdr Qcn rfl rfl (hm.elCells (show(a19.add (k9*2)).block<w.heap.size from by rw[Qao];exact hb20.1) hc22)) ?_;refine Qbo Qcn rfl (Qf rfl) (by decide) (fun p32=>?_);refine sb 0 K1 [iS Qas 70 A11 c12 d10] idM Qcn ?_;refine nt' (Qae (wm ?_));refine wv (fun W hm=>Qab (cs:=K1) Qdr Qcn rfl rfl (hm.boxCells (n:=0) rfl)) ?_;refine wcs Qas (gt x0 k9) (Qs Qapd rfl) (fun W hm=>Qash W _ (gt x0 k9) (Qjr (x:=(gt x0 k9)) (hm.rdS0 r31)) (s_0.2 _ (Qav (show k9<x0.length from by omega)))) (fun z33=>?_);refine Qlo ?_;rintro v34 rfl;refine fm 0 ?_;rintro A35 c36 rfl m37;let K2:List Value:=[iV ((gt x0 k9).Id), .slice A35 ((gt x0 k9).m).length c36];refine Qcf (cs:=K2) Qcr Qcn rfl (by decide) (by decide) rfl (by kernel_rfl) (Qf rfl) (by decide) (fun p39=>?_);refine ap1 Qas 70 (.slice A11 d10.length c12) d10 (gt x0 k9) [iS Qa 3 A35 c36 ((gt x0 k9).m)] [Qb p32 70 K1] K2 (pk [0,3,1,2]) (fun _ _ hs=>Els.single (Qkz (x:=(gt x0 k9)) hs)) Qcr Qcn (show(d10.length+1)*32≤140737488355328 from by omega) (fun v40=>?_);refine fm 0 ?_;rintro A41 c42 rfl m43;refine wa (Qai (Qar (Qi (Qae ?_))));refine wv (Qbc k9 1 (by omega)) ?_;refine wm (Qai ?_);exact Qax (k9+1,(d10++[(gt x0 k9)]),(A41,c42)) sl4 (pk [0]) ⟨(by omega),nx hF14 (rfl),(show(d10++[(gt x0 k9)]).length≤0+(k9+1) from by first|omega|(simp only[List.length_append,List.length_cons,List.length_nil] at *;omega))⟩ rl
 refine Qx rfl g18 ?_;refine Qbm (Qag (Qag ?_));have hE46:=Qbx hl17 hF14;refine Qbn (Qi (sr (wm (wa (nt' (Qm ?_))))));have he47:=(show Quq x0=d10 from Qbd hE46 (rfl));refine Qcy rfl (Qcg rfl) (fun W hm=>⟨.slice A11 d10.length c12,?_,?_⟩)
 ·first|rw[he47]|rfl
 rw[he47];exact hm
theorem Qask (x0:(List Qah)):Quq x0=x0:=by
 unfold Quq;rw[Qkf (xs:=x0) (b:=fun k s=>Qzd x0 k s) (fun _ _=>rfl)];rfl
theorem Qafv (w:World) (z0:Value) (x0:(List Qah)) (r_0:rdS Qas w w.heap.size z0 x0) (s_0:(x0.length≤68719476736∧∀ y∈x0,Qjp 68719476736 y)):
 Calls Tryz.prog 183 #[z0] w (rL w (tSl Qas 70) x0):=by
 have h:=Qasj w z0 x0 r_0 s_0;rw[Qask] at h;exact h
def Qyu (x0:Qp):Qp:=
 x0
theorem Qaob:Cb Tryz.prog 139:=⟨f139,_,func139,rfl,by decide⟩
theorem Qarq (w:World) (z0:List Value) (x0:Qp) (r_0:Qz.rd w w.heap.size z0 x0) (s_0:Qvh 68719476736 x0):
 Calls Tryz.prog 139 #[.agg z0.toArray] w (rO w Qz (Qyu x0)):=by
 obtain⟨v1,v3,v5,v7,rfl,r2,r4,r6,r8⟩:=Qie r_0;obtain⟨m9,A10,c11,rfl,q12,r13⟩:=Qn r2;obtain⟨m14,A15,c16,rfl,q17,r18⟩:=Qn r4;obtain⟨m19,A20,c21,rfl,q22,r23⟩:=Qn r6;obtain⟨m24,A25,c26,rfl,q27,r28⟩:=Qn r8;have l29:=s_0.1.1;have l30:=s_0.1.2;have l31:=s_0.2.1;have l32:=s_0.2.2.1;refine ce1 (L:=[(0, .agg #[iV x0.e.Id,iV x0.e.u, .slice A10 x0.e.o.length c11, .slice A15 x0.e.t.length c16,iV x0.r, .slice A20 x0.q.length c21,iV x0.v,iV x0.A,iV x0.z, .slice A25 x0.p.length c26])]) (N:=16) func139 ?_;refine sr ?_;refine Qcj rfl (Qf rfl) (by decide) (fun p33=>?_);refine Qbo Qbg rfl (Qf rfl) (by decide) (fun p34=>?_);refine nt' (Qj ?_);let K1:List Value:=[iV 0,iV 0, .slice none 0 0, .slice none 0 0,iV 0, .slice none 0 0,iV 0,iV 0,iV 0, .slice none 0 0];refine rd2 15 [10,12,14] (s:=[Qb p34 61 K1]) (s2:=[Qb p34 61 K1,Qb p33 61 [iV x0.e.Id,iV x0.e.u, .slice A10 x0.e.o.length c11, .slice A15 x0.e.t.length c16,iV x0.r, .slice A20 x0.q.length c21,iV x0.v,iV x0.A,iV x0.z, .slice A25 x0.p.length c26]]) (pk [0]) idM ?_;refine qtD 15 0 1 rfl (vf Qbb rfl Qca) ?_;refine qtD 15 1 3 rfl (fun W hm=>Qab (cs:=[iV x0.e.Id,iV x0.e.u, .slice A10 x0.e.o.length c11, .slice A15 x0.e.t.length c16]) Qby Qca rfl rfl (hm.boxPart (n:=1) rfl rfl)) ?_;refine qtD 15 3 11 rfl (vf Qbb rfl Qbf) ?_;refine qtD 15 4 27 rfl (vl 1 5 Qo) ?_;refine qtD 15 6 91 rfl (vf Qbb rfl Qey) ?_;refine qtD 15 7 219 rfl (vl 1 9 Qcr) ?_;refine qoD 15 2 223 rfl ?_;refine wcs Qcx x0.e (Qs Qadu rfl) (fun W hm=>Qafu W _ x0.e (Qhc (x:=x0.e) (hm.rdS0 r13) (hm.rdS0 r18)) s_0.1) (fun z35=>?_);refine Qko ?_;rintro⟨v36,v37⟩ rfl;refine fm 0 ?_;rintro A38 c39 rfl m40;refine fm 1 ?_;rintro A42 c43 rfl m44;refine qnD (pk [2]) (pk [2,3]) ?_;refine qtD 15 9 735 rfl (vf Qbb rfl Qca) ?_;refine qoD 15 5 767 rfl ?_;refine wcl (tSl Qa 3) x0.q (Qs Qle rfl) (fun W hm=>Qlg W _ x0.q (hm.rdS0 r23) s_0.2.1) (fun z46=>?_);refine fm 0 ?_;rintro A47 c48 rfl m49;refine qnD (pk [3]) (pk [3,4]) ?_;refine qoD 15 8 1023 rfl ?_;refine wcl (tSl Qas 70) x0.p (Qs Qaeb rfl) (fun W hm=>Qafv W _ x0.p (hm.rdS0 r28) s_0.2.2) (fun z51=>?_);refine fm 0 ?_;rintro A52 c53 rfl m54;refine qnD (pk [4]) (pk [4,5]) ?_;refine qoD 15 10 2047 rfl ?_;let J3:List It:=[iS Qas 70 A52 c53 x0.p,iS Qa 3 A47 c48 x0.q,iS Qbl 180 A38 c39 x0.e.o,iS Qa 3 A42 c43 x0.e.t,Qb p34 61 K1];refine sb 0 [iV x0.e.Id,iV x0.e.u, .slice A38 x0.e.o.length c39, .slice A42 x0.e.t.length c43,iV x0.r, .slice A20 x0.q.length c21,iV x0.v,iV x0.A,iV x0.z, .slice A25 x0.p.length c26] J3 (pk [5,0,1,2,3,4]) Qca ?_;refine qxD (pk [5]) ?_;refine qt 15 11 4095 rfl (vf Qbb rfl Qbf) ?_;refine qo 15 12 8191 rfl ?_;refine sb 5 [iV x0.e.Id,iV x0.e.u, .slice A38 x0.e.o.length c39, .slice A42 x0.e.t.length c43,iV x0.r, .slice A47 x0.q.length c48,iV x0.v,iV x0.A,iV x0.z, .slice A25 x0.p.length c26] J3 idM Qbf ?_;refine qn (pk [5]) ?_;refine qt 15 13 16383 rfl (vf Qbb rfl Qey) ?_;refine qo 15 14 32767 rfl ?_;let K2:List Value:=[iV x0.e.Id,iV x0.e.u, .slice A38 x0.e.o.length c39, .slice A42 x0.e.t.length c43,iV x0.r, .slice A47 x0.q.length c48,iV x0.v,iV x0.A,iV x0.z, .slice A52 x0.p.length c53];refine sb 9 K2 J3 idM Qey ?_;refine qn (pk [5]) ?_;refine Qdn (by kernel_rfl) ?_;refine Qi (sr ?_);refine wv (fun W hm=>Qab (cs:=K2) Qbb Qbg rfl rfl (hm.boxCells (n:=0) rfl)) ?_;refine sb 0 K2 [Qb p33 61 K2,iS Qas 70 A52 c53 x0.p,iS Qa 3 A47 c48 x0.q,iS Qbl 180 A38 c39 x0.e.o,iS Qa 3 A42 c43 x0.e.t] (pk [5,0,1,2,3,4]) Qbg ?_;refine nt' (Qm ?_);have he56:=(show Qyu x0=x0 from rfl);refine Qcy rfl (Qck (n:=0) rfl rfl Qbb Qbg rfl) (fun W hm=>⟨K2,?_,?_⟩)
 ·first|rw[he56]|rfl
 rw[he56];exact Mem.join (is:=[iS Qbl 180 A38 c39 x0.e.o,iS Qa 3 A42 c43 x0.e.t,iS Qa 3 A47 c48 x0.q,iS Qas 70 A52 c53 x0.p]) (js:=[]) (fun _ _ hs=>Qfr (x:=x0) hs) (hm.pick [4,5,3,2] (by decide))
theorem Qars (x0:Qp):Qyu x0=x0:=by
 rfl
theorem Qarr (w:World) (z0:List Value) (x0:Qp) (r_0:Qz.rd w w.heap.size z0 x0) (s_0:Qvh 68719476736 x0):
 Calls Tryz.prog 139 #[.agg z0.toArray] w (rO w Qz x0):=by
 have h:=Qarq w z0 x0 r_0 s_0;rw[Qars] at h;exact h
def Qyz (x0:Qco):Qco:=
 x0
theorem Qany:Cb Tryz.prog 125:=⟨f125,_,func125,rfl,by decide⟩
theorem Qarz (w:World) (z0:List Value) (x0:Qco) (r_0:Qaz.rd w w.heap.size z0 x0) (s_0:Qvi 68719476736 x0):
 Calls Tryz.prog 125 #[.agg z0.toArray] w (rO w Qaz (Qyz x0)):=by
 obtain⟨v1,v3,v5,rfl,r2,r4,r6⟩:=Qol r_0;obtain⟨m7,A8,c9,rfl,q10,r11⟩:=Qn r2;obtain⟨m12,A13,c14,rfl,q15,r16⟩:=Qn r4;obtain⟨m17,A18,c19,rfl,q20,r21⟩:=Qn r6;have l22:=s_0.1.1;have l23:=s_0.1.2;have l24:=s_0.2.1;refine ce1 (L:=[(0, .agg #[iV x0.e.Id,iV x0.e.u, .slice A8 x0.e.o.length c9, .slice A13 x0.e.t.length c14,iV x0.r,iV x0.n, .slice A18 x0.p.length c19])]) (N:=12) func125 ?_;refine sr ?_;refine Qcj rfl (Qf rfl) (by decide) (fun p25=>?_);refine Qbo Qep rfl (Qf rfl) (by decide) (fun p26=>?_);refine nt' (Qj ?_);let K1:List Value:=[iV 0,iV 0, .slice none 0 0, .slice none 0 0,iV 0,iV 0, .slice none 0 0];refine rd2 10 [7,9] (s:=[Qb p26 80 K1]) (s2:=[Qb p26 80 K1,Qb p25 80 [iV x0.e.Id,iV x0.e.u, .slice A8 x0.e.o.length c9, .slice A13 x0.e.t.length c14,iV x0.r,iV x0.n, .slice A18 x0.p.length c19]]) (pk [0]) idM ?_;refine qtD 10 0 1 rfl (vf Qfz rfl Qca) ?_;refine qtD 10 1 3 rfl (fun W hm=>Qab (cs:=[iV x0.e.Id,iV x0.e.u, .slice A8 x0.e.o.length c9, .slice A13 x0.e.t.length c14]) Qby Qca rfl rfl (hm.boxPart (n:=1) rfl rfl)) ?_;refine qtD 10 3 11 rfl (vf Qfz rfl Qey) ?_;refine qtD 10 4 27 rfl (vl 1 6 Qcr) ?_;refine qoD 10 2 31 rfl ?_;refine wcs Qcx x0.e (Qs Qadu rfl) (fun W hm=>Qafu W _ x0.e (Qhc (x:=x0.e) (hm.rdS0 r11) (hm.rdS0 r16)) s_0.1) (fun z27=>?_);refine Qko ?_;rintro⟨v28,v29⟩ rfl;refine fm 0 ?_;rintro A30 c31 rfl m32;refine fm 1 ?_;rintro A34 c35 rfl m36;refine qnD (pk [2]) (pk [2,3]) ?_;refine qtD 10 6 95 rfl (vf Qfz rfl Qca) ?_;refine qoD 10 5 127 rfl ?_;refine wcl (tSl Qas 70) x0.p (Qs Qaeb rfl) (fun W hm=>Qafv W _ x0.p (hm.rdS0 r21) s_0.2) (fun z38=>?_);refine fm 0 ?_;rintro A39 c40 rfl m41;refine qnD (pk [3]) (pk [3,4]) ?_;refine qoD 10 7 255 rfl ?_;let J3:List It:=[iS Qas 70 A39 c40 x0.p,iS Qbl 180 A30 c31 x0.e.o,iS Qa 3 A34 c35 x0.e.t,Qb p26 80 K1];refine sb 0 [iV x0.e.Id,iV x0.e.u, .slice A30 x0.e.o.length c31, .slice A34 x0.e.t.length c35,iV x0.r,iV x0.n, .slice A18 x0.p.length c19] J3 (pk [4,0,1,2,3]) Qca ?_;refine qxD (pk [4]) ?_;refine qt 10 8 511 rfl (vf Qfz rfl Qey) ?_;refine qo 10 9 1023 rfl ?_;let K2:List Value:=[iV x0.e.Id,iV x0.e.u, .slice A30 x0.e.o.length c31, .slice A34 x0.e.t.length c35,iV x0.r,iV x0.n, .slice A39 x0.p.length c40];refine sb 6 K2 J3 idM Qey ?_;refine qn (pk [4]) ?_;refine Qdn (by kernel_rfl) ?_;refine Qi (sr ?_);refine wv (fun W hm=>Qab (cs:=K2) Qfz Qep rfl rfl (hm.boxCells (n:=0) rfl)) ?_;refine sb 0 K2 [Qb p25 80 K2,iS Qas 70 A39 c40 x0.p,iS Qbl 180 A30 c31 x0.e.o,iS Qa 3 A34 c35 x0.e.t] (pk [4,0,1,2,3]) Qep ?_;refine nt' (Qm ?_);have he43:=(show Qyz x0=x0 from rfl);refine Qcy rfl (Qck (n:=0) rfl rfl Qfz Qep rfl) (fun W hm=>⟨K2,?_,?_⟩)
 ·first|rw[he43]|rfl
 rw[he43];exact Mem.join (is:=[iS Qbl 180 A30 c31 x0.e.o,iS Qa 3 A34 c35 x0.e.t,iS Qas 70 A39 c40 x0.p]) (js:=[]) (fun _ _ hs=>Qok (x:=x0) hs) (hm.pick [3,4,2] (by decide))
theorem Qasb (x0:Qco):Qyz x0=x0:=by
 rfl
theorem Qasa (w:World) (z0:List Value) (x0:Qco) (r_0:Qaz.rd w w.heap.size z0 x0) (s_0:Qvi 68719476736 x0):
 Calls Tryz.prog 125 #[.agg z0.toArray] w (rO w Qaz x0):=by
 have h:=Qarz w z0 x0 r_0 s_0;rw[Qasb] at h;exact h
def Qyv (x0:Qdi):Qdi:=
 x0
theorem Qaoc:Cb Tryz.prog 140:=⟨f140,_,func140,rfl,by decide⟩
theorem Qart (w:World) (z0:List Value) (x0:Qdi) (r_0:Qaw.rd w w.heap.size z0 x0) (s_0:Qps 68719476736 x0):
 Calls Tryz.prog 140 #[.agg z0.toArray] w (rO w Qaw (Qyv x0)):=by
 obtain⟨v1,v3,v5,rfl,r2,r4,r6⟩:=Qky r_0;obtain⟨m7,A8,c9,rfl,q10,r11⟩:=Qn r2;obtain⟨m12,A13,c14,rfl,q15,r16⟩:=Qn r4;obtain⟨m17,A18,c19,rfl,q20,r21⟩:=Qn r6;have l22:=s_0.1;have l23:=s_0.2.1;have l24:=s_0.2.2;refine ce1 (L:=[(0, .agg #[iV x0.D,iV x0.C, .slice A8 x0.w.length c9, .slice A13 x0.B.length c14, .slice A18 x0.p.length c19])]) (N:=16) func140 ?_;refine sr ?_;refine Qcj rfl (Qf rfl) (by decide) (fun p25=>?_);refine Qbo Qet rfl (Qf rfl) (by decide) (fun p26=>?_);refine nt' (Qj ?_);let K1:List Value:=[iV 0,iV 0, .slice none 0 0, .slice none 0 0, .slice none 0 0];refine rd2 15 [10,12,14] (s:=[Qb p26 102 K1]) (s2:=[Qb p26 102 K1,Qb p25 102 [iV x0.D,iV x0.C, .slice A8 x0.w.length c9, .slice A13 x0.B.length c14, .slice A18 x0.p.length c19]]) (pk [0]) idM ?_;refine qtD 15 0 1 rfl (vf Qdg rfl Qbf) ?_;refine qtD 15 1 3 rfl (vl 1 2 Qo) ?_;refine qtD 15 3 11 rfl (vf Qdg rfl Qbf) ?_;refine qtD 15 4 27 rfl (vl 1 3 Qo) ?_;refine qtD 15 6 91 rfl (vf Qdg rfl Qbf) ?_;refine qtD 15 7 219 rfl (vl 1 4 Qo) ?_;refine qoD 15 2 223 rfl ?_;refine wcl (tSl Qa 3) x0.w (Qs Qle rfl) (fun W hm=>Qlg W _ x0.w (hm.rdS0 r11) s_0.1) (fun z27=>?_);refine fm 0 ?_;rintro A28 c29 rfl m30;refine qnD (pk [1]) (pk [1,2]) ?_;refine qtD 15 9 735 rfl (vf Qdg rfl Qbf) ?_;refine qoD 15 5 767 rfl ?_;refine wcl (tSl Qa 3) x0.B (Qs Qle rfl) (fun W hm=>Qlg W _ x0.B (hm.rdS0 r16) s_0.2.1) (fun z32=>?_);refine fm 0 ?_;rintro A33 c34 rfl m35;refine qnD (pk [2]) (pk [2,3]) ?_;refine qoD 15 8 1023 rfl ?_;refine wcl (tSl Qa 3) x0.p (Qs Qle rfl) (fun W hm=>Qlg W _ x0.p (hm.rdS0 r21) s_0.2.2) (fun z37=>?_);refine fm 0 ?_;rintro A38 c39 rfl m40;refine qnD (pk [3]) (pk [3,4]) ?_;refine qoD 15 10 2047 rfl ?_;let J3:List It:=[iS Qa 3 A38 c39 x0.p,iS Qa 3 A33 c34 x0.B,iS Qa 3 A28 c29 x0.w,Qb p26 102 K1];refine sb 2 [iV x0.D,iV x0.C, .slice A28 x0.w.length c29, .slice A13 x0.B.length c14, .slice A18 x0.p.length c19] J3 (pk [4,0,1,2,3]) Qbf ?_;refine qxD (pk [4]) ?_;refine qt 15 11 4095 rfl (vf Qdg rfl Qbf) ?_;refine qo 15 12 8191 rfl ?_;refine sb 3 [iV x0.D,iV x0.C, .slice A28 x0.w.length c29, .slice A33 x0.B.length c34, .slice A18 x0.p.length c19] J3 idM Qbf ?_;refine qn (pk [4]) ?_;refine qt 15 13 16383 rfl (vf Qdg rfl Qbf) ?_;refine qo 15 14 32767 rfl ?_;let K2:List Value:=[iV x0.D,iV x0.C, .slice A28 x0.w.length c29, .slice A33 x0.B.length c34, .slice A38 x0.p.length c39];refine sb 4 K2 J3 idM Qbf ?_;refine qn (pk [4]) ?_;refine Qdn (by kernel_rfl) ?_;refine Qi (sr ?_);refine wv (fun W hm=>Qab (cs:=K2) Qdg Qet rfl rfl (hm.boxCells (n:=0) rfl)) ?_;refine sb 0 K2 [Qb p25 102 K2,iS Qa 3 A38 c39 x0.p,iS Qa 3 A33 c34 x0.B,iS Qa 3 A28 c29 x0.w] (pk [4,0,1,2,3]) Qet ?_;refine nt' (Qm ?_);have he42:=(show Qyv x0=x0 from rfl);refine Qcy rfl (Qck (n:=0) rfl rfl Qdg Qet rfl) (fun W hm=>⟨K2,?_,?_⟩)
 ·first|rw[he42]|rfl
 rw[he42];exact Mem.join (is:=[iS Qa 3 A28 c29 x0.w,iS Qa 3 A33 c34 x0.B,iS Qa 3 A38 c39 x0.p]) (js:=[]) (fun _ _ hs=>Qqs (x:=x0) hs) (hm.pick [4,3,2] (by decide))
theorem Qarv (x0:Qdi):Qyv x0=x0:=by
 rfl
theorem Qaru (w:World) (z0:List Value) (x0:Qdi) (r_0:Qaw.rd w w.heap.size z0 x0) (s_0:Qps 68719476736 x0):
 Calls Tryz.prog 140 #[.agg z0.toArray] w (rO w Qaw x0):=by
 have h:=Qart w z0 x0 r_0 s_0;rw[Qarv] at h;exact h
end Go.Proofs.YtdlminfjdodjoaaGreat
