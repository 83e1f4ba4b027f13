/-
  No cell of these rows narrows 'for every input' (looked for: loops, veiled, ifaces, maps, wideKeys, modest, calm, conditions, laid).
  DERIVED. THE GIVEN ROWS OF THIS SEAT. 11 by the template 'for every input the law returns true; each argument reads behind the call as it read before'; 0 by the template 'total and deterministic' (their statements: YtmikmbmdibabmaaGreatTotals.lean).
  GIVEN WITH THE SEED: the statements are not yours to turn. If you find one false, say at which input.
  Laid BY PROGRAM, IN A SANDBOX (cutbox-rows.mjs): the forced cells as the released guide's own fill.sh prints them over the translation cb297504878f1f77… (all of the seat's roots in one cut). By AI agents, Wed Nov 11 2026. No macro, syntax, notation, axiom, sorry.
-/
import Derived.Test.YtmikmbmdibabmaaGreatChecked
import GoSem.Claim
import GoSem.ClaimJoined
import GoSem.ClaimMapViews
import Derived.JoinedTies
import Derived.KernelRfl
namespace Go.Proofs.YtmikmbmdibabmaaGreat
/- THE CELL 'sum', in the pinned program and in every row, IS THE sha256 OF THE DUMP (.gsa) THAT YtmikmbmdibabmaaGreatProg.lean LOADS. Nothing in Lean hashes anything: it is a label: what it is worth is what the hold of that sum in a sandbox is worth. -/
noncomputable def Tryz.pinned : Pinned := { name := "ytmikmbmdibabmaagreat", sum := "cb297504878f1f7779a5621d2b9de784d7b5dea729b62da529e762d0b357bdae", checked := Tryz.checked }
namespace Rows
def none {H : Type} : Left H := { results := [], args := [] }

/-- 'laws.FnExactResultOf': WHATEVER THE INPUT: true; the input reads as it did. -/
def fnExactResultOfSpec : ChangeSpec := { name := "fnExactResultOf", fn := fun _ => fun
  | [d1, d2] => { results := [.lit (.bool true)], args := [d1, d2] }
  | _ => none }
def fnExactResultOfRow : OpenClaim := { program := "ytmikmbmdibabmaagreat", sum := "cb297504878f1f7779a5621d2b9de784d7b5dea729b62da529e762d0b357bdae", func := "loop.example/g01986/laws.FnExactResultOf", spec := "fnExactResultOf", apart := false }
def FnExactResultOfSaid : Prop := fnExactResultOfRow.holds Tryz.pinned (OpenSpec.ofChange fnExactResultOfSpec)

/-- ITS FALSE NEIGHBOUR: 'it returns false'. Refute it at one input. -/
def fnExactResultOfWrong : ChangeSpec := { name := "fnExactResultOf", fn := fun _ => fun
  | [d1, d2] => { results := [.lit (.bool false)], args := [d1, d2] }
  | _ => none }
def FnExactResultOfWrongFalsely : Prop := fnExactResultOfRow.holds Tryz.pinned (OpenSpec.ofChange fnExactResultOfWrong)

/-- 'laws.FnSteps': WHATEVER THE INPUT: true; the input reads as it did. -/
def fnStepsSpec : ChangeSpec := { name := "fnSteps", fn := fun _ => fun
  | [d] => { results := [.lit (.bool true)], args := [d] }
  | _ => none }
def fnStepsRow : OpenClaim := { program := "ytmikmbmdibabmaagreat", sum := "cb297504878f1f7779a5621d2b9de784d7b5dea729b62da529e762d0b357bdae", func := "loop.example/g01986/laws.FnSteps", spec := "fnSteps", apart := false }
def FnStepsSaid : Prop := fnStepsRow.holds Tryz.pinned (OpenSpec.ofChange fnStepsSpec)

/-- ITS FALSE NEIGHBOUR: 'it returns false'. Refute it at one input. -/
def fnStepsWrong : ChangeSpec := { name := "fnSteps", fn := fun _ => fun
  | [d] => { results := [.lit (.bool false)], args := [d] }
  | _ => none }
def FnStepsWrongFalsely : Prop := fnStepsRow.holds Tryz.pinned (OpenSpec.ofChange fnStepsWrong)

/-- 'laws.FnAdmissions': WHATEVER THE INPUT: true; the input reads as it did. -/
def fnAdmissionsSpec : ChangeSpec := { name := "fnAdmissions", fn := fun _ => fun
  | [d] => { results := [.lit (.bool true)], args := [d] }
  | _ => none }
def fnAdmissionsRow : OpenClaim := { program := "ytmikmbmdibabmaagreat", sum := "cb297504878f1f7779a5621d2b9de784d7b5dea729b62da529e762d0b357bdae", func := "loop.example/g01986/laws.FnAdmissions", spec := "fnAdmissions", apart := false }
def FnAdmissionsSaid : Prop := fnAdmissionsRow.holds Tryz.pinned (OpenSpec.ofChange fnAdmissionsSpec)

/-- ITS FALSE NEIGHBOUR: 'it returns false'. Refute it at one input. -/
def fnAdmissionsWrong : ChangeSpec := { name := "fnAdmissions", fn := fun _ => fun
  | [d] => { results := [.lit (.bool false)], args := [d] }
  | _ => none }
def FnAdmissionsWrongFalsely : Prop := fnAdmissionsRow.holds Tryz.pinned (OpenSpec.ofChange fnAdmissionsWrong)

/-- 'laws.FnExactSetOrder': WHATEVER THE INPUT: true; the input reads as it did. -/
def fnExactSetOrderSpec : ChangeSpec := { name := "fnExactSetOrder", fn := fun _ => fun
  | [d1, d2] => { results := [.lit (.bool true)], args := [d1, d2] }
  | _ => none }
def fnExactSetOrderRow : OpenClaim := { program := "ytmikmbmdibabmaagreat", sum := "cb297504878f1f7779a5621d2b9de784d7b5dea729b62da529e762d0b357bdae", func := "loop.example/g01986/laws.FnExactSetOrder", spec := "fnExactSetOrder", apart := false }
def FnExactSetOrderSaid : Prop := fnExactSetOrderRow.holds Tryz.pinned (OpenSpec.ofChange fnExactSetOrderSpec)

/-- ITS FALSE NEIGHBOUR: 'it returns false'. Refute it at one input. -/
def fnExactSetOrderWrong : ChangeSpec := { name := "fnExactSetOrder", fn := fun _ => fun
  | [d1, d2] => { results := [.lit (.bool false)], args := [d1, d2] }
  | _ => none }
def FnExactSetOrderWrongFalsely : Prop := fnExactSetOrderRow.holds Tryz.pinned (OpenSpec.ofChange fnExactSetOrderWrong)

/-- 'laws.FnExactAdmitQuery': WHATEVER THE INPUT: true; the input reads as it did. -/
def fnExactAdmitQuerySpec : ChangeSpec := { name := "fnExactAdmitQuery", fn := fun _ => fun
  | [d1, d2, d3] => { results := [.lit (.bool true)], args := [d1, d2, d3] }
  | _ => none }
def fnExactAdmitQueryRow : OpenClaim := { program := "ytmikmbmdibabmaagreat", sum := "cb297504878f1f7779a5621d2b9de784d7b5dea729b62da529e762d0b357bdae", func := "loop.example/g01986/laws.FnExactAdmitQuery", spec := "fnExactAdmitQuery", apart := false }
def FnExactAdmitQuerySaid : Prop := fnExactAdmitQueryRow.holds Tryz.pinned (OpenSpec.ofChange fnExactAdmitQuerySpec)

/-- ITS FALSE NEIGHBOUR: 'it returns false'. Refute it at one input. -/
def fnExactAdmitQueryWrong : ChangeSpec := { name := "fnExactAdmitQuery", fn := fun _ => fun
  | [d1, d2, d3] => { results := [.lit (.bool false)], args := [d1, d2, d3] }
  | _ => none }
def FnExactAdmitQueryWrongFalsely : Prop := fnExactAdmitQueryRow.holds Tryz.pinned (OpenSpec.ofChange fnExactAdmitQueryWrong)

/-- 'laws.FnExactCancelQuery': WHATEVER THE INPUT: true; the input reads as it did. -/
def fnExactCancelQuerySpec : ChangeSpec := { name := "fnExactCancelQuery", fn := fun _ => fun
  | [d1, d2] => { results := [.lit (.bool true)], args := [d1, d2] }
  | _ => none }
def fnExactCancelQueryRow : OpenClaim := { program := "ytmikmbmdibabmaagreat", sum := "cb297504878f1f7779a5621d2b9de784d7b5dea729b62da529e762d0b357bdae", func := "loop.example/g01986/laws.FnExactCancelQuery", spec := "fnExactCancelQuery", apart := false }
def FnExactCancelQuerySaid : Prop := fnExactCancelQueryRow.holds Tryz.pinned (OpenSpec.ofChange fnExactCancelQuerySpec)

/-- ITS FALSE NEIGHBOUR: 'it returns false'. Refute it at one input. -/
def fnExactCancelQueryWrong : ChangeSpec := { name := "fnExactCancelQuery", fn := fun _ => fun
  | [d1, d2] => { results := [.lit (.bool false)], args := [d1, d2] }
  | _ => none }
def FnExactCancelQueryWrongFalsely : Prop := fnExactCancelQueryRow.holds Tryz.pinned (OpenSpec.ofChange fnExactCancelQueryWrong)

/-- 'laws.FnExactUpdateEngine': WHATEVER THE INPUT: true; the input reads as it did. -/
def fnExactUpdateEngineSpec : ChangeSpec := { name := "fnExactUpdateEngine", fn := fun _ => fun
  | [d1, d2] => { results := [.lit (.bool true)], args := [d1, d2] }
  | _ => none }
def fnExactUpdateEngineRow : OpenClaim := { program := "ytmikmbmdibabmaagreat", sum := "cb297504878f1f7779a5621d2b9de784d7b5dea729b62da529e762d0b357bdae", func := "loop.example/g01986/laws.FnExactUpdateEngine", spec := "fnExactUpdateEngine", apart := false }
def FnExactUpdateEngineSaid : Prop := fnExactUpdateEngineRow.holds Tryz.pinned (OpenSpec.ofChange fnExactUpdateEngineSpec)

/-- ITS FALSE NEIGHBOUR: 'it returns false'. Refute it at one input. -/
def fnExactUpdateEngineWrong : ChangeSpec := { name := "fnExactUpdateEngine", fn := fun _ => fun
  | [d1, d2] => { results := [.lit (.bool false)], args := [d1, d2] }
  | _ => none }
def FnExactUpdateEngineWrongFalsely : Prop := fnExactUpdateEngineRow.holds Tryz.pinned (OpenSpec.ofChange fnExactUpdateEngineWrong)

/-- 'laws.FnExactStepEngine': WHATEVER THE INPUT: true; the input reads as it did. -/
def fnExactStepEngineSpec : ChangeSpec := { name := "fnExactStepEngine", fn := fun _ => fun
  | [d] => { results := [.lit (.bool true)], args := [d] }
  | _ => none }
def fnExactStepEngineRow : OpenClaim := { program := "ytmikmbmdibabmaagreat", sum := "cb297504878f1f7779a5621d2b9de784d7b5dea729b62da529e762d0b357bdae", func := "loop.example/g01986/laws.FnExactStepEngine", spec := "fnExactStepEngine", apart := false }
def FnExactStepEngineSaid : Prop := fnExactStepEngineRow.holds Tryz.pinned (OpenSpec.ofChange fnExactStepEngineSpec)

/-- ITS FALSE NEIGHBOUR: 'it returns false'. Refute it at one input. -/
def fnExactStepEngineWrong : ChangeSpec := { name := "fnExactStepEngine", fn := fun _ => fun
  | [d] => { results := [.lit (.bool false)], args := [d] }
  | _ => none }
def FnExactStepEngineWrongFalsely : Prop := fnExactStepEngineRow.holds Tryz.pinned (OpenSpec.ofChange fnExactStepEngineWrong)

/-- 'laws.FnExactFinishEngine': WHATEVER THE INPUT: true; the input reads as it did. -/
def fnExactFinishEngineSpec : ChangeSpec := { name := "fnExactFinishEngine", fn := fun _ => fun
  | [d] => { results := [.lit (.bool true)], args := [d] }
  | _ => none }
def fnExactFinishEngineRow : OpenClaim := { program := "ytmikmbmdibabmaagreat", sum := "cb297504878f1f7779a5621d2b9de784d7b5dea729b62da529e762d0b357bdae", func := "loop.example/g01986/laws.FnExactFinishEngine", spec := "fnExactFinishEngine", apart := false }
def FnExactFinishEngineSaid : Prop := fnExactFinishEngineRow.holds Tryz.pinned (OpenSpec.ofChange fnExactFinishEngineSpec)

/-- ITS FALSE NEIGHBOUR: 'it returns false'. Refute it at one input. -/
def fnExactFinishEngineWrong : ChangeSpec := { name := "fnExactFinishEngine", fn := fun _ => fun
  | [d] => { results := [.lit (.bool false)], args := [d] }
  | _ => none }
def FnExactFinishEngineWrongFalsely : Prop := fnExactFinishEngineRow.holds Tryz.pinned (OpenSpec.ofChange fnExactFinishEngineWrong)

/-- 'laws.FnExactRunEngine': WHATEVER THE INPUT: true; the input reads as it did. -/
def fnExactRunEngineSpec : ChangeSpec := { name := "fnExactRunEngine", fn := fun _ => fun
  | [d1, d2] => { results := [.lit (.bool true)], args := [d1, d2] }
  | _ => none }
def fnExactRunEngineRow : OpenClaim := { program := "ytmikmbmdibabmaagreat", sum := "cb297504878f1f7779a5621d2b9de784d7b5dea729b62da529e762d0b357bdae", func := "loop.example/g01986/laws.FnExactRunEngine", spec := "fnExactRunEngine", apart := false }
def FnExactRunEngineSaid : Prop := fnExactRunEngineRow.holds Tryz.pinned (OpenSpec.ofChange fnExactRunEngineSpec)

/-- ITS FALSE NEIGHBOUR: 'it returns false'. Refute it at one input. -/
def fnExactRunEngineWrong : ChangeSpec := { name := "fnExactRunEngine", fn := fun _ => fun
  | [d1, d2] => { results := [.lit (.bool false)], args := [d1, d2] }
  | _ => none }
def FnExactRunEngineWrongFalsely : Prop := fnExactRunEngineRow.holds Tryz.pinned (OpenSpec.ofChange fnExactRunEngineWrong)

/-- 'laws.FnPromises': WHATEVER THE INPUT: true; the input reads as it did. -/
def fnPromisesSpec : ChangeSpec := { name := "fnPromises", fn := fun _ => fun
  | [d] => { results := [.lit (.bool true)], args := [d] }
  | _ => none }
def fnPromisesRow : OpenClaim := { program := "ytmikmbmdibabmaagreat", sum := "cb297504878f1f7779a5621d2b9de784d7b5dea729b62da529e762d0b357bdae", func := "loop.example/g01986/laws.FnPromises", spec := "fnPromises", apart := false }
def FnPromisesSaid : Prop := fnPromisesRow.holds Tryz.pinned (OpenSpec.ofChange fnPromisesSpec)

/-- ITS FALSE NEIGHBOUR: 'it returns false'. Refute it at one input. -/
def fnPromisesWrong : ChangeSpec := { name := "fnPromises", fn := fun _ => fun
  | [d] => { results := [.lit (.bool false)], args := [d] }
  | _ => none }
def FnPromisesWrongFalsely : Prop := fnPromisesRow.holds Tryz.pinned (OpenSpec.ofChange fnPromisesWrong)

/- THE SECOND FORM. 'bulk': how many values and letters a reading holds, each counted each time it is reached (what is shared counts as often as it is met; a slice's spare places count too). A statement '..UptoSaid' is the law's where the arguments, and the package variables that the reading takes, are together of bulk at most 1048576: NARROWER than '..Said'. Prove '..Said' where nothing that the law and all that it calls make is longer than what came in: it says more and counts as full. Else prove '..UptoSaid'. A law counts once. -/
mutual
def uptoBulk {H : Type} : DataW H → Nat
  | .lit (.string bytes) => bytes.length + 1
  | .lit _ => 1
  | .nil => 1
  | .ptr d => uptoBulk d + 1
  | .slice elems spare => uptoBulkAll elems + uptoBulkAll spare + 1
  | .agg parts => uptoBulkAll parts + 1
  | .iface _ d => uptoBulk d + 1
  | .map entries => uptoBulkEntries entries + 1
  | .held _ => 1
def uptoBulkAll {H : Type} : List (DataW H) → Nat
  | [] => 0
  | d :: r => uptoBulk d + uptoBulkAll r
def uptoBulkEntries {H : Type} : List (Lit × DataW H) → Nat
  | [] => 0
  | x :: r => uptoBulkEntry x + uptoBulkEntries r
def uptoBulkEntry {H : Type} : Lit × DataW H → Nat
  | (.string bytes, d) => bytes.length + uptoBulk d + 1
  | (_, d) => uptoBulk d + 1
 end
def uptoSmall : (H : Type) → List (DataW H) → Bool := fun _ ds => decide (uptoBulkAll ds ≤ 1048576)
def OpenSpec.upto (s : _root_.Go.ChangeSpec) : _root_.Go.OpenSpec := { _root_.Go.OpenSpec.ofChange s with cond := some uptoSmall }

/-- 'laws.FnExactResultOf', WHERE WHAT IT READS IS OF BULK AT MOST 1048576: true; the input reads as it did. -/
def fnExactResultOfUptoRow : OpenClaim := { program := "ytmikmbmdibabmaagreat", sum := "cb297504878f1f7779a5621d2b9de784d7b5dea729b62da529e762d0b357bdae", func := "loop.example/g01986/laws.FnExactResultOf", spec := "fnExactResultOf", apart := false, narrowed := true }
def FnExactResultOfUptoSaid : Prop := fnExactResultOfUptoRow.holds Tryz.pinned (OpenSpec.upto fnExactResultOfSpec)

/-- 'laws.FnSteps', WHERE WHAT IT READS IS OF BULK AT MOST 1048576: true; the input reads as it did. -/
def fnStepsUptoRow : OpenClaim := { program := "ytmikmbmdibabmaagreat", sum := "cb297504878f1f7779a5621d2b9de784d7b5dea729b62da529e762d0b357bdae", func := "loop.example/g01986/laws.FnSteps", spec := "fnSteps", apart := false, narrowed := true }
def FnStepsUptoSaid : Prop := fnStepsUptoRow.holds Tryz.pinned (OpenSpec.upto fnStepsSpec)

/-- 'laws.FnAdmissions', WHERE WHAT IT READS IS OF BULK AT MOST 1048576: true; the input reads as it did. -/
def fnAdmissionsUptoRow : OpenClaim := { program := "ytmikmbmdibabmaagreat", sum := "cb297504878f1f7779a5621d2b9de784d7b5dea729b62da529e762d0b357bdae", func := "loop.example/g01986/laws.FnAdmissions", spec := "fnAdmissions", apart := false, narrowed := true }
def FnAdmissionsUptoSaid : Prop := fnAdmissionsUptoRow.holds Tryz.pinned (OpenSpec.upto fnAdmissionsSpec)

/-- 'laws.FnExactSetOrder', WHERE WHAT IT READS IS OF BULK AT MOST 1048576: true; the input reads as it did. -/
def fnExactSetOrderUptoRow : OpenClaim := { program := "ytmikmbmdibabmaagreat", sum := "cb297504878f1f7779a5621d2b9de784d7b5dea729b62da529e762d0b357bdae", func := "loop.example/g01986/laws.FnExactSetOrder", spec := "fnExactSetOrder", apart := false, narrowed := true }
def FnExactSetOrderUptoSaid : Prop := fnExactSetOrderUptoRow.holds Tryz.pinned (OpenSpec.upto fnExactSetOrderSpec)

/-- 'laws.FnExactAdmitQuery', WHERE WHAT IT READS IS OF BULK AT MOST 1048576: true; the input reads as it did. -/
def fnExactAdmitQueryUptoRow : OpenClaim := { program := "ytmikmbmdibabmaagreat", sum := "cb297504878f1f7779a5621d2b9de784d7b5dea729b62da529e762d0b357bdae", func := "loop.example/g01986/laws.FnExactAdmitQuery", spec := "fnExactAdmitQuery", apart := false, narrowed := true }
def FnExactAdmitQueryUptoSaid : Prop := fnExactAdmitQueryUptoRow.holds Tryz.pinned (OpenSpec.upto fnExactAdmitQuerySpec)

/-- 'laws.FnExactCancelQuery', WHERE WHAT IT READS IS OF BULK AT MOST 1048576: true; the input reads as it did. -/
def fnExactCancelQueryUptoRow : OpenClaim := { program := "ytmikmbmdibabmaagreat", sum := "cb297504878f1f7779a5621d2b9de784d7b5dea729b62da529e762d0b357bdae", func := "loop.example/g01986/laws.FnExactCancelQuery", spec := "fnExactCancelQuery", apart := false, narrowed := true }
def FnExactCancelQueryUptoSaid : Prop := fnExactCancelQueryUptoRow.holds Tryz.pinned (OpenSpec.upto fnExactCancelQuerySpec)

/-- 'laws.FnExactUpdateEngine', WHERE WHAT IT READS IS OF BULK AT MOST 1048576: true; the input reads as it did. -/
def fnExactUpdateEngineUptoRow : OpenClaim := { program := "ytmikmbmdibabmaagreat", sum := "cb297504878f1f7779a5621d2b9de784d7b5dea729b62da529e762d0b357bdae", func := "loop.example/g01986/laws.FnExactUpdateEngine", spec := "fnExactUpdateEngine", apart := false, narrowed := true }
def FnExactUpdateEngineUptoSaid : Prop := fnExactUpdateEngineUptoRow.holds Tryz.pinned (OpenSpec.upto fnExactUpdateEngineSpec)

/-- 'laws.FnExactStepEngine', WHERE WHAT IT READS IS OF BULK AT MOST 1048576: true; the input reads as it did. -/
def fnExactStepEngineUptoRow : OpenClaim := { program := "ytmikmbmdibabmaagreat", sum := "cb297504878f1f7779a5621d2b9de784d7b5dea729b62da529e762d0b357bdae", func := "loop.example/g01986/laws.FnExactStepEngine", spec := "fnExactStepEngine", apart := false, narrowed := true }
def FnExactStepEngineUptoSaid : Prop := fnExactStepEngineUptoRow.holds Tryz.pinned (OpenSpec.upto fnExactStepEngineSpec)

/-- 'laws.FnExactFinishEngine', WHERE WHAT IT READS IS OF BULK AT MOST 1048576: true; the input reads as it did. -/
def fnExactFinishEngineUptoRow : OpenClaim := { program := "ytmikmbmdibabmaagreat", sum := "cb297504878f1f7779a5621d2b9de784d7b5dea729b62da529e762d0b357bdae", func := "loop.example/g01986/laws.FnExactFinishEngine", spec := "fnExactFinishEngine", apart := false, narrowed := true }
def FnExactFinishEngineUptoSaid : Prop := fnExactFinishEngineUptoRow.holds Tryz.pinned (OpenSpec.upto fnExactFinishEngineSpec)

/-- 'laws.FnExactRunEngine', WHERE WHAT IT READS IS OF BULK AT MOST 1048576: true; the input reads as it did. -/
def fnExactRunEngineUptoRow : OpenClaim := { program := "ytmikmbmdibabmaagreat", sum := "cb297504878f1f7779a5621d2b9de784d7b5dea729b62da529e762d0b357bdae", func := "loop.example/g01986/laws.FnExactRunEngine", spec := "fnExactRunEngine", apart := false, narrowed := true }
def FnExactRunEngineUptoSaid : Prop := fnExactRunEngineUptoRow.holds Tryz.pinned (OpenSpec.upto fnExactRunEngineSpec)

/-- 'laws.FnPromises', WHERE WHAT IT READS IS OF BULK AT MOST 1048576: true; the input reads as it did. -/
def fnPromisesUptoRow : OpenClaim := { program := "ytmikmbmdibabmaagreat", sum := "cb297504878f1f7779a5621d2b9de784d7b5dea729b62da529e762d0b357bdae", func := "loop.example/g01986/laws.FnPromises", spec := "fnPromises", apart := false, narrowed := true }
def FnPromisesUptoSaid : Prop := fnPromisesUptoRow.holds Tryz.pinned (OpenSpec.upto fnPromisesSpec)

end Rows
end Go.Proofs.YtmikmbmdibabmaaGreat
