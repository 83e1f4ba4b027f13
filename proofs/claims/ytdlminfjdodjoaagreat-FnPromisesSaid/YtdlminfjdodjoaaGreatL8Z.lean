/-
  Promises of the program and of the reference return the same,for every argument.
-/
import Derived.Test.YtdlminfjdodjoaaGreatArg
import Derived.Test.YtdlminfjdodjoaaGreatL8Eq
namespace Go.Proofs.YtdlminfjdodjoaaGreat
set_option linter.unusedVariables false
set_option linter.unusedSimpArgs false
open Go.RowKit
open Go.ChangeShapes Go.WideShapes Go.ChangeAt
set_option maxRecDepth 100000 in
theorem Fq (os:Os) (started:os.Started) (H:Type) (enc:TypeId×Value->H):
 ReturnsInHanded {} Tryz.checked os 8 .any (Rows.fnPromisesSpec.pre6 enc Tryz.prog Tryz.f8 Rows.fnPromisesRow.domain false) (Rows.fnPromisesSpec.post enc Tryz.prog Tryz.f8 false true false false):=by
 refine returnsInHanded_of_change (C:=Tryz.checked) Ee started (by kernel_rfl) Tryz.func8
  (ChangeSpec.witness6 (enc:=enc) (C:=Tryz.checked) false ⟨#[],#[.slice none 0 0],[]⟩ 8 (by kernel_rfl) (by kernel_rfl) (by kernel_rfl) (by kernel_rfl)) ?_
 intro W base args ds gs before a hW hcnd _;have hval:∀ (j:Nat) t v,Tryz.f8.params[j]?=some t->args[j]?=some v->Value.okWide Tryz.prog W .any base t v:=a;have hW':=hW;obtain⟨p,q,b,hV,rfl,hfz,hnd⟩:=hW;have hA:DataW.TrodAll enc Tryz.prog W 0 (fun _=>true) true Tryz.f8.params.toList args.toList ds p:=b;rw[Tryz.params8] at hA hval;obtain⟨c,_,rfl,rfl,f⟩:=trodAll_one hA;obtain⟨d,g⟩:=yB (wK Tryz.underlying49 (by kernel_rfl) (by decide) (wL Tryz.underlying5)) Tryz.underlying49 (hval 0 49 c rfl rfl) f;obtain⟨rfl,rfl⟩:=trodVars_none hV;refine(Dp W c d g).mono fun e W' ⟨he,hw⟩=>?_
 rw[Dm d] at he;subst he;exact⟨_,rfl,Dn Dl (by kernel_rfl) rfl rfl Tryz.underlying4 hW' rfl hw⟩
set_option maxRecDepth 100000 in
theorem Ej:((Rows.fnPromisesRow).wf (OpenSpec.ofChange (Rows.fnPromisesSpec)):Bool)=true:=by kernel_rfl
set_option maxRecDepth 100000 in
theorem Ek:(laidOutB Tryz.prog:Bool)=true:=by kernel_rfl
set_option maxRecDepth 100000 in
theorem Ew:(mapsRowed Tryz.prog:Bool)=true:=by kernel_rfl
set_option maxRecDepth 100000 in
theorem Fg:(Tryz.f8.params.all (Tryz.prog.readableRec ·):Bool)=true:=by kernel_rfl
set_option maxRecDepth 100000 in
theorem Fj:(namedTie Tryz.prog (Rows.fnPromisesRow).named (Rows.fnPromisesSpec).vars:Bool)=true:=by kernel_rfl
set_option maxRecDepth 100000 in
theorem Fk:((Rows.fnPromisesRow).stops==[]:Bool)=true:=by kernel_rfl
set_option maxRecDepth 100000 in
theorem Fl:(Tryz.prog.stops==[]:Bool)=true:=by kernel_rfl
set_option maxRecDepth 100000 in
theorem Fm:((Rows.fnPromisesRow).knobs==[]:Bool)=true:=by kernel_rfl
set_option maxRecDepth 100000 in
theorem Fo:(Tryz.prog.stopKnobs==[]:Bool)=true:=by kernel_rfl
set_option maxRecDepth 100000 in
theorem Fp:((Rows.fnPromisesRow).inPlace==Tryz.prog.inPlace 8:Bool)=true:=by kernel_rfl
set_option maxRecDepth 100000 in
theorem El:((Rows.fnPromisesRow).unfollowed==Tryz.prog.unfollowed 8:Bool)=true:=by kernel_rfl
set_option maxRecDepth 100000 in
theorem Em:((Rows.fnPromisesRow).recurses==Tryz.prog.recurses 8:Bool)=true:=by kernel_rfl
set_option maxRecDepth 100000 in
theorem En:((Rows.fnPromisesRow).named==Tryz.prog.varsNamed 8:Bool)=true:=by kernel_rfl
set_option maxRecDepth 100000 in
theorem Eo:((Rows.fnPromisesRow).maps==(Tryz.f8.params.toList++(Rows.fnPromisesSpec).plain.varTypes Tryz.prog).any (Tryz.prog.mapsRec ·):Bool)=true:=by kernel_rfl
set_option maxRecDepth 100000 in
theorem Ep:((Rows.fnPromisesRow).ifaces==(Tryz.f8.params.toList++(Rows.fnPromisesSpec).plain.varTypes Tryz.prog).any (Tryz.prog.ifacesRec ·):Bool)=true:=by kernel_rfl
set_option maxRecDepth 100000 in
theorem Er:((Rows.fnPromisesRow).mapsOut==Tryz.prog.mapsAmong Tryz.f8.resultTypes.toList:Bool)=true:=by kernel_rfl
set_option maxRecDepth 100000 in
theorem Es:((Rows.fnPromisesRow).loops==(Tryz.f8.params.toList++(Rows.fnPromisesSpec).plain.varTypes Tryz.prog).any (Tryz.prog.loopsFrom ·):Bool)=true:=by kernel_rfl
set_option maxRecDepth 100000 in
theorem Et:((Rows.fnPromisesRow).wideKeys==((Tryz.f8.params.toList++(Rows.fnPromisesSpec).plain.varTypes Tryz.prog)++Tryz.f8.resultTypes.toList).any (Tryz.prog.wideKeysFrom ·):Bool)=true:=by kernel_rfl
set_option maxRecDepth 100000 in
theorem Eu:((Rows.fnPromisesSpec).vars.all (Tryz.prog.varReadable ·):Bool)=true:=by kernel_rfl
set_option maxRecDepth 100000 in
theorem Ev:(Tryz.f8.resultTypes.all (fun t=>Tryz.prog.readableRec t && decide (t<Tryz.prog.types.size)):Bool)=true:=by kernel_rfl
set_option maxRecDepth 100000 in
theorem Ex:((Rows.fnPromisesRow).ifacesOut==Tryz.f8.resultTypes.toList.any (Tryz.prog.ifacesRec ·):Bool)=true:=by kernel_rfl
set_option maxRecDepth 100000 in
theorem Ey:((Rows.fnPromisesRow).loopsOut==Tryz.f8.resultTypes.toList.any (Tryz.prog.loopsFrom ·):Bool)=true:=by kernel_rfl
set_option maxRecDepth 100000 in
theorem Ez:((Rows.fnPromisesRow).plainKeys==Tryz.prog.plainKeys:Bool)=true:=by kernel_rfl
set_option maxRecDepth 100000 in
theorem Fa:((Rows.fnPromisesRow).shortTexts.isNone:Bool)=true:=by kernel_rfl
set_option maxRecDepth 100000 in
theorem Fb:(Tryz.prog.stopsHeard:Bool)=true:=by kernel_rfl
set_option maxRecDepth 100000 in
theorem Fc:(Tryz.prog.mayEnter:Bool)=true:=by kernel_rfl
set_option maxRecDepth 100000 in
theorem Fd:((Rows.fnPromisesRow).lifted==Tryz.prog.liftsFinal:Bool)=true:=by kernel_rfl
set_option maxRecDepth 100000 in
theorem Fe:(Tryz.prog.make==some (Rows.fnPromisesRow).make:Bool)=true:=by kernel_rfl
set_option maxRecDepth 100000 in
theorem Ff:((Rows.fnPromisesRow).pinned==(Rows.fnPromisesRow).pinnedBy:Bool)=true:=by kernel_rfl
set_option maxRecDepth 100000 in
theorem Fh:((Rows.fnPromisesRow).veiled==((Tryz.f8.params.toList++(Rows.fnPromisesSpec).plain.varTypes Tryz.prog)++Tryz.f8.resultTypes.toList).any (Tryz.prog.veiledRec ·):Bool)=true:=by kernel_rfl
set_option maxRecDepth 100000 in
theorem Fi:((Rows.fnPromisesRow).veiledFits Tryz.prog Tryz.f8.params.toList ((Tryz.f8.params.toList++(Rows.fnPromisesSpec).plain.varTypes Tryz.prog)++Tryz.f8.resultTypes.toList):Bool)=true:=by kernel_rfl
theorem ky {a b:Bool} (h:a=true) (k:b=true):(a && b)=true:=by rw[h,k];rfl
set_option maxRecDepth 100000 in
theorem Ei:joinedFacts Tryz.prog 8 Tryz.f8 (Rows.fnPromisesSpec) (Rows.fnPromisesRow)=true:=by
 unfold joinedFacts;exact(ky (ky (ky (ky (ky (ky (ky (ky (ky (ky (ky (ky (ky (ky (ky (ky (ky (ky (ky (ky (ky (ky (ky (ky (ky (ky (ky (ky (ky (ky (ky Ej Ek) Ew) Fg) Fj) Fk) Fl) Fm) Fo) Fp) El) Em) En) Eo) Ep) Er) Es) Et) Eu) Ev) Ex) Ey) Ez) Fa) Fb) Fc) Fd) Fe) (by kernel_rfl)) Ff) Fh) Fi)
set_option maxRecDepth 100000 in
theorem Eh:Tryz.f8.isInstance Tryz.prog (Rows.fnPromisesRow).origin (Rows.fnPromisesRow).targs:=of_decide_eq_true (by kernel_rfl)
theorem promises_holds:Rows.FnPromisesSaid:=
 OpenClaim.holds_of_wide 8 Tryz.f8 rfl rfl rfl rfl rfl rfl rfl ⟨rfl,rfl,rfl,rfl,rfl⟩ rfl rfl rfl rfl rfl (by kernel_rfl) Tryz.func8 Ei
  Eh (by unfold Func.isWrapper;rw[if_neg (of_decide_eq_false (by kernel_rfl))];exact⟨rfl,rfl⟩)
  (fun os started H enc _=>Fq os started H enc)
end Go.Proofs.YtdlminfjdodjoaaGreat
