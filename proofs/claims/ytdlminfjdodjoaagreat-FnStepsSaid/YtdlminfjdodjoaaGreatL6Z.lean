/-
  Steps of the program and of the reference return the same,for every argument.
-/
import Derived.Test.YtdlminfjdodjoaaGreatArg
import Derived.Test.YtdlminfjdodjoaaGreatL6Eq
namespace Go.Proofs.YtdlminfjdodjoaaGreat
open Go.RowKit
open Go.ChangeShapes Go.WideShapes Go.ChangeAt
set_option maxRecDepth 100000 in
theorem Qbac (os:Os) (started:os.Started) (H:Type) (enc:TypeId×Value→H):
 ReturnsInHanded {} Tryz.checked os 6 .any (Rows.fnStepsSpec.pre6 enc Tryz.prog Tryz.f6 Rows.fnStepsRow.domain false) (Rows.fnStepsSpec.post enc Tryz.prog Tryz.f6 false true false false):=by
 refine returnsInHanded_of_change (C:=Tryz.checked) Qatv started (by kernel_rfl) Tryz.func6
  (ChangeSpec.witness6 (enc:=enc) (C:=Tryz.checked) false ⟨#[],#[.slice none 0 0],[]⟩ 8 (by kernel_rfl) (by kernel_rfl) (by kernel_rfl) (by kernel_rfl)) ?_
 intro W base args ds gs before hval0 hW hcnd _;have hval:∀ (j:Nat) t v,Tryz.f6.params[j]?=some t→args[j]?=some v→Value.okWide Tryz.prog W .any base t v:=hval0;have hW':=hW;obtain⟨p,q,hA0,hV,rfl,hfz,hnd⟩:=hW;have hA:DataW.TrodAll enc Tryz.prog W 0 (fun _=>true) true Tryz.f6.params.toList args.toList ds p:=hA0;rw[Tryz.params6] at hA hval;obtain⟨v0,d0,rfl,rfl,h0⟩:=trodAll_one hA;obtain⟨x0,r0⟩:=Qanl (Qalw Tryz.underlying49 (by kernel_rfl) (by decide) (Qalx Tryz.underlying5)) Tryz.underlying49 (hval 0 49 v0 rfl rfl) h0;obtain⟨rfl,rfl⟩:=trodVars_none hV;refine(Qatc W v0 x0 r0).mono fun e W' ⟨he,hw⟩=>?_
 rw[Qata x0] at he;subst he;exact⟨_,rfl,Qatb Qasz (by kernel_rfl) rfl rfl Tryz.underlying4 hW' rfl hw⟩
set_option maxRecDepth 100000 in
theorem Qayx:((Rows.fnStepsRow).wf (OpenSpec.ofChange (Rows.fnStepsSpec)):Bool)=true:=by kernel_rfl
set_option maxRecDepth 100000 in
theorem Qayy:(laidOutB Tryz.prog:Bool)=true:=by kernel_rfl
set_option maxRecDepth 100000 in
theorem Qazj:(mapsRowed Tryz.prog:Bool)=true:=by kernel_rfl
set_option maxRecDepth 100000 in
theorem Qazt:(Tryz.f6.params.all (Tryz.prog.readableRec ·):Bool)=true:=by kernel_rfl
set_option maxRecDepth 100000 in
theorem Qazw:(namedTie Tryz.prog (Rows.fnStepsRow).named (Rows.fnStepsSpec).vars:Bool)=true:=by kernel_rfl
set_option maxRecDepth 100000 in
theorem Qazx:((Rows.fnStepsRow).stops==[]:Bool)=true:=by kernel_rfl
set_option maxRecDepth 100000 in
theorem Qazy:(Tryz.prog.stops==[]:Bool)=true:=by kernel_rfl
set_option maxRecDepth 100000 in
theorem Qazz:((Rows.fnStepsRow).knobs==[]:Bool)=true:=by kernel_rfl
set_option maxRecDepth 100000 in
theorem Qbaa:(Tryz.prog.stopKnobs==[]:Bool)=true:=by kernel_rfl
set_option maxRecDepth 100000 in
theorem Qbab:((Rows.fnStepsRow).inPlace==Tryz.prog.inPlace 6:Bool)=true:=by kernel_rfl
set_option maxRecDepth 100000 in
theorem Qayz:((Rows.fnStepsRow).unfollowed==Tryz.prog.unfollowed 6:Bool)=true:=by kernel_rfl
set_option maxRecDepth 100000 in
theorem Qaza:((Rows.fnStepsRow).recurses==Tryz.prog.recurses 6:Bool)=true:=by kernel_rfl
set_option maxRecDepth 100000 in
theorem Qazb:((Rows.fnStepsRow).named==Tryz.prog.varsNamed 6:Bool)=true:=by kernel_rfl
set_option maxRecDepth 100000 in
theorem Qazc:((Rows.fnStepsRow).maps==(Tryz.f6.params.toList++(Rows.fnStepsSpec).plain.varTypes Tryz.prog).any (Tryz.prog.mapsRec ·):Bool)=true:=by kernel_rfl
set_option maxRecDepth 100000 in
theorem Qazd:((Rows.fnStepsRow).ifaces==(Tryz.f6.params.toList++(Rows.fnStepsSpec).plain.varTypes Tryz.prog).any (Tryz.prog.ifacesRec ·):Bool)=true:=by kernel_rfl
set_option maxRecDepth 100000 in
theorem Qaze:((Rows.fnStepsRow).mapsOut==Tryz.prog.mapsAmong Tryz.f6.resultTypes.toList:Bool)=true:=by kernel_rfl
set_option maxRecDepth 100000 in
theorem Qazf:((Rows.fnStepsRow).loops==(Tryz.f6.params.toList++(Rows.fnStepsSpec).plain.varTypes Tryz.prog).any (Tryz.prog.loopsFrom ·):Bool)=true:=by kernel_rfl
set_option maxRecDepth 100000 in
theorem Qazg:((Rows.fnStepsRow).wideKeys==((Tryz.f6.params.toList++(Rows.fnStepsSpec).plain.varTypes Tryz.prog)++Tryz.f6.resultTypes.toList).any (Tryz.prog.wideKeysFrom ·):Bool)=true:=by kernel_rfl
set_option maxRecDepth 100000 in
theorem Qazh:((Rows.fnStepsSpec).vars.all (Tryz.prog.varReadable ·):Bool)=true:=by kernel_rfl
set_option maxRecDepth 100000 in
theorem Qazi:(Tryz.f6.resultTypes.all (fun t=>Tryz.prog.readableRec t && decide (t<Tryz.prog.types.size)):Bool)=true:=by kernel_rfl
set_option maxRecDepth 100000 in
theorem Qazk:((Rows.fnStepsRow).ifacesOut==Tryz.f6.resultTypes.toList.any (Tryz.prog.ifacesRec ·):Bool)=true:=by kernel_rfl
set_option maxRecDepth 100000 in
theorem Qazl:((Rows.fnStepsRow).loopsOut==Tryz.f6.resultTypes.toList.any (Tryz.prog.loopsFrom ·):Bool)=true:=by kernel_rfl
set_option maxRecDepth 100000 in
theorem Qazm:((Rows.fnStepsRow).plainKeys==Tryz.prog.plainKeys:Bool)=true:=by kernel_rfl
set_option maxRecDepth 100000 in
theorem Qazn:((Rows.fnStepsRow).shortTexts.isNone:Bool)=true:=by kernel_rfl
set_option maxRecDepth 100000 in
theorem Qazo:(Tryz.prog.stopsHeard:Bool)=true:=by kernel_rfl
set_option maxRecDepth 100000 in
theorem Qazp:(Tryz.prog.mayEnter:Bool)=true:=by kernel_rfl
set_option maxRecDepth 100000 in
theorem Qazq:((Rows.fnStepsRow).lifted==Tryz.prog.liftsFinal:Bool)=true:=by kernel_rfl
set_option maxRecDepth 100000 in
theorem Qazr:(Tryz.prog.make==some (Rows.fnStepsRow).make:Bool)=true:=by kernel_rfl
set_option maxRecDepth 100000 in
theorem Qazs:((Rows.fnStepsRow).pinned==(Rows.fnStepsRow).pinnedBy:Bool)=true:=by kernel_rfl
set_option maxRecDepth 100000 in
theorem Qazu:((Rows.fnStepsRow).veiled==((Tryz.f6.params.toList++(Rows.fnStepsSpec).plain.varTypes Tryz.prog)++Tryz.f6.resultTypes.toList).any (Tryz.prog.veiledRec ·):Bool)=true:=by kernel_rfl
set_option maxRecDepth 100000 in
theorem Qazv:((Rows.fnStepsRow).veiledFits Tryz.prog Tryz.f6.params.toList ((Tryz.f6.params.toList++(Rows.fnStepsSpec).plain.varTypes Tryz.prog)++Tryz.f6.resultTypes.toList):Bool)=true:=by kernel_rfl
theorem Qge {a b:Bool} (h:a=true) (k:b=true):(a && b)=true:=by rw[h,k];rfl
set_option maxRecDepth 100000 in
theorem Qayw:joinedFacts Tryz.prog 6 Tryz.f6 (Rows.fnStepsSpec) (Rows.fnStepsRow)=true:=by
 unfold joinedFacts;exact(Qge (Qge (Qge (Qge (Qge (Qge (Qge (Qge (Qge (Qge (Qge (Qge (Qge (Qge (Qge (Qge (Qge (Qge (Qge (Qge (Qge (Qge (Qge (Qge (Qge (Qge (Qge (Qge (Qge (Qge (Qge Qayx Qayy) Qazj) Qazt) Qazw) Qazx) Qazy) Qazz) Qbaa) Qbab) Qayz) Qaza) Qazb) Qazc) Qazd) Qaze) Qazf) Qazg) Qazh) Qazi) Qazk) Qazl) Qazm) Qazn) Qazo) Qazp) Qazq) Qazr) (by kernel_rfl)) Qazs) Qazu) Qazv)
set_option maxRecDepth 100000 in
theorem Qayv:Tryz.f6.isInstance Tryz.prog (Rows.fnStepsRow).origin (Rows.fnStepsRow).targs:=of_decide_eq_true (by kernel_rfl)
theorem steps_holds:Rows.FnStepsSaid:=
 OpenClaim.holds_of_wide 6 Tryz.f6 rfl rfl rfl rfl rfl rfl rfl ⟨rfl,rfl,rfl,rfl,rfl⟩ rfl rfl rfl rfl rfl (by kernel_rfl) Tryz.func6 Qayw
  Qayv (by unfold Func.isWrapper;rw[if_neg (of_decide_eq_false (by kernel_rfl))];exact⟨rfl,rfl⟩)
  (fun os started H enc _=>Qbac os started H enc)
end Go.Proofs.YtdlminfjdodjoaaGreat
