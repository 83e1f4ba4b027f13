/-
  Admissions of the program and of the reference return the same,for every argument.
-/
import Derived.Test.YtdlminfjdodjoaaGreatArg
import Derived.Test.YtdlminfjdodjoaaGreatL7Eq
namespace Go.Proofs.YtdlminfjdodjoaaGreat
set_option linter.unusedVariables false
set_option linter.unusedSimpArgs false
open Go.RowKit
open Go.ChangeShapes Go.WideShapes Go.ChangeAt
set_option maxRecDepth 100000 in
theorem yR (os:Os) (started:os.Started) (H:Type) (enc:TypeId×Value->H):
 ReturnsInHanded {} Tryz.checked os 7 .any (Rows.fnAdmissionsSpec.pre6 enc Tryz.prog Tryz.f7 Rows.fnAdmissionsRow.domain false) (Rows.fnAdmissionsSpec.post enc Tryz.prog Tryz.f7 false true false false):=by
 refine returnsInHanded_of_change (C:=Tryz.checked) Es started (by kernel_rfl) Tryz.func7
  (ChangeSpec.witness6 (enc:=enc) (C:=Tryz.checked) false ⟨#[],#[.slice none 0 0],[]⟩ 8 (by kernel_rfl) (by kernel_rfl) (by kernel_rfl) (by kernel_rfl)) ?_
 intro W base args ds gs before a hW hcnd _;have hval:∀ (j:Nat) t v,Tryz.f7.params[j]?=some t->args[j]?=some v->Value.okWide Tryz.prog W .any base t v:=a;have hW':=hW;obtain⟨p,q,b,hV,rfl,hfz,hnd⟩:=hW;have hA:DataW.TrodAll enc Tryz.prog W 0 (fun _=>true) true Tryz.f7.params.toList args.toList ds p:=b;rw[Tryz.params7] at hA hval;obtain⟨c,_,rfl,rfl,f⟩:=trodAll_one hA;obtain⟨d,g⟩:=yT (vU Tryz.underlying49 (by kernel_rfl) (by decide) (vV Tryz.underlying5)) Tryz.underlying49 (hval 0 49 c rfl rfl) f;obtain⟨rfl,rfl⟩:=trodVars_none hV;refine(Ed W c d g).mono fun e W' ⟨he,hw⟩=>?_
 rw[Eb d] at he;subst he;exact⟨_,rfl,Ec Ea (by kernel_rfl) rfl rfl Tryz.underlying4 hW' rfl hw⟩
set_option maxRecDepth 100000 in
theorem xM:((Rows.fnAdmissionsRow).wf (OpenSpec.ofChange (Rows.fnAdmissionsSpec)):Bool)=true:=by kernel_rfl
set_option maxRecDepth 100000 in
theorem xN:(laidOutB Tryz.prog:Bool)=true:=by kernel_rfl
set_option maxRecDepth 100000 in
theorem xY:(mapsRowed Tryz.prog:Bool)=true:=by kernel_rfl
set_option maxRecDepth 100000 in
theorem yI:(Tryz.f7.params.all (Tryz.prog.readableRec ·):Bool)=true:=by kernel_rfl
set_option maxRecDepth 100000 in
theorem yL:(namedTie Tryz.prog (Rows.fnAdmissionsRow).named (Rows.fnAdmissionsSpec).vars:Bool)=true:=by kernel_rfl
set_option maxRecDepth 100000 in
theorem yM:((Rows.fnAdmissionsRow).stops==[]:Bool)=true:=by kernel_rfl
set_option maxRecDepth 100000 in
theorem yN:(Tryz.prog.stops==[]:Bool)=true:=by kernel_rfl
set_option maxRecDepth 100000 in
theorem yO:((Rows.fnAdmissionsRow).knobs==[]:Bool)=true:=by kernel_rfl
set_option maxRecDepth 100000 in
theorem yP:(Tryz.prog.stopKnobs==[]:Bool)=true:=by kernel_rfl
set_option maxRecDepth 100000 in
theorem yQ:((Rows.fnAdmissionsRow).inPlace==Tryz.prog.inPlace 7:Bool)=true:=by kernel_rfl
set_option maxRecDepth 100000 in
theorem xO:((Rows.fnAdmissionsRow).unfollowed==Tryz.prog.unfollowed 7:Bool)=true:=by kernel_rfl
set_option maxRecDepth 100000 in
theorem xP:((Rows.fnAdmissionsRow).recurses==Tryz.prog.recurses 7:Bool)=true:=by kernel_rfl
set_option maxRecDepth 100000 in
theorem xQ:((Rows.fnAdmissionsRow).named==Tryz.prog.varsNamed 7:Bool)=true:=by kernel_rfl
set_option maxRecDepth 100000 in
theorem xR:((Rows.fnAdmissionsRow).maps==(Tryz.f7.params.toList++(Rows.fnAdmissionsSpec).plain.varTypes Tryz.prog).any (Tryz.prog.mapsRec ·):Bool)=true:=by kernel_rfl
set_option maxRecDepth 100000 in
theorem xS:((Rows.fnAdmissionsRow).ifaces==(Tryz.f7.params.toList++(Rows.fnAdmissionsSpec).plain.varTypes Tryz.prog).any (Tryz.prog.ifacesRec ·):Bool)=true:=by kernel_rfl
set_option maxRecDepth 100000 in
theorem xT:((Rows.fnAdmissionsRow).mapsOut==Tryz.prog.mapsAmong Tryz.f7.resultTypes.toList:Bool)=true:=by kernel_rfl
set_option maxRecDepth 100000 in
theorem xU:((Rows.fnAdmissionsRow).loops==(Tryz.f7.params.toList++(Rows.fnAdmissionsSpec).plain.varTypes Tryz.prog).any (Tryz.prog.loopsFrom ·):Bool)=true:=by kernel_rfl
set_option maxRecDepth 100000 in
theorem xV:((Rows.fnAdmissionsRow).wideKeys==((Tryz.f7.params.toList++(Rows.fnAdmissionsSpec).plain.varTypes Tryz.prog)++Tryz.f7.resultTypes.toList).any (Tryz.prog.wideKeysFrom ·):Bool)=true:=by kernel_rfl
set_option maxRecDepth 100000 in
theorem xW:((Rows.fnAdmissionsSpec).vars.all (Tryz.prog.varReadable ·):Bool)=true:=by kernel_rfl
set_option maxRecDepth 100000 in
theorem xX:(Tryz.f7.resultTypes.all (fun t=>Tryz.prog.readableRec t && decide (t<Tryz.prog.types.size)):Bool)=true:=by kernel_rfl
set_option maxRecDepth 100000 in
theorem xZ:((Rows.fnAdmissionsRow).ifacesOut==Tryz.f7.resultTypes.toList.any (Tryz.prog.ifacesRec ·):Bool)=true:=by kernel_rfl
set_option maxRecDepth 100000 in
theorem yA:((Rows.fnAdmissionsRow).loopsOut==Tryz.f7.resultTypes.toList.any (Tryz.prog.loopsFrom ·):Bool)=true:=by kernel_rfl
set_option maxRecDepth 100000 in
theorem yB:((Rows.fnAdmissionsRow).plainKeys==Tryz.prog.plainKeys:Bool)=true:=by kernel_rfl
set_option maxRecDepth 100000 in
theorem yC:((Rows.fnAdmissionsRow).shortTexts.isNone:Bool)=true:=by kernel_rfl
set_option maxRecDepth 100000 in
theorem yD:(Tryz.prog.stopsHeard:Bool)=true:=by kernel_rfl
set_option maxRecDepth 100000 in
theorem yE:(Tryz.prog.mayEnter:Bool)=true:=by kernel_rfl
set_option maxRecDepth 100000 in
theorem yF:((Rows.fnAdmissionsRow).lifted==Tryz.prog.liftsFinal:Bool)=true:=by kernel_rfl
set_option maxRecDepth 100000 in
theorem yG:(Tryz.prog.make==some (Rows.fnAdmissionsRow).make:Bool)=true:=by kernel_rfl
set_option maxRecDepth 100000 in
theorem yH:((Rows.fnAdmissionsRow).pinned==(Rows.fnAdmissionsRow).pinnedBy:Bool)=true:=by kernel_rfl
set_option maxRecDepth 100000 in
theorem yJ:((Rows.fnAdmissionsRow).veiled==((Tryz.f7.params.toList++(Rows.fnAdmissionsSpec).plain.varTypes Tryz.prog)++Tryz.f7.resultTypes.toList).any (Tryz.prog.veiledRec ·):Bool)=true:=by kernel_rfl
set_option maxRecDepth 100000 in
theorem yK:((Rows.fnAdmissionsRow).veiledFits Tryz.prog Tryz.f7.params.toList ((Tryz.f7.params.toList++(Rows.fnAdmissionsSpec).plain.varTypes Tryz.prog)++Tryz.f7.resultTypes.toList):Bool)=true:=by kernel_rfl
theorem ks {a b:Bool} (h:a=true) (k:b=true):(a && b)=true:=by rw[h,k];rfl
set_option maxRecDepth 100000 in
theorem xL:joinedFacts Tryz.prog 7 Tryz.f7 (Rows.fnAdmissionsSpec) (Rows.fnAdmissionsRow)=true:=by
 unfold joinedFacts;exact(ks (ks (ks (ks (ks (ks (ks (ks (ks (ks (ks (ks (ks (ks (ks (ks (ks (ks (ks (ks (ks (ks (ks (ks (ks (ks (ks (ks (ks (ks (ks xM xN) xY) yI) yL) yM) yN) yO) yP) yQ) xO) xP) xQ) xR) xS) xT) xU) xV) xW) xX) xZ) yA) yB) yC) yD) yE) yF) yG) (by kernel_rfl)) yH) yJ) yK)
set_option maxRecDepth 100000 in
theorem xK:Tryz.f7.isInstance Tryz.prog (Rows.fnAdmissionsRow).origin (Rows.fnAdmissionsRow).targs:=of_decide_eq_true (by kernel_rfl)
theorem admissions_holds:Rows.FnAdmissionsSaid:=
 OpenClaim.holds_of_wide 7 Tryz.f7 rfl rfl rfl rfl rfl rfl rfl ⟨rfl,rfl,rfl,rfl,rfl⟩ rfl rfl rfl rfl rfl (by kernel_rfl) Tryz.func7 xL
  xK (by unfold Func.isWrapper;rw[if_neg (of_decide_eq_false (by kernel_rfl))];exact⟨rfl,rfl⟩)
  (fun os started H enc _=>yR os started H enc)
end Go.Proofs.YtdlminfjdodjoaaGreat
