/-
  No cell of these rows narrows 'for every input' (looked for: loops, veiled, ifaces, maps, wideKeys, modest, calm, conditions, laid).
  DERIVED. THE GIVEN ROWS OF THIS SEAT. 6 by the template 'for every input the law returns true; each argument reads behind the call as it read before'; 0 by the template 'total and deterministic' (their statements: YtdlminfjdodjoaaGreatTotals.lean).
  GIVEN WITH THE SEED: the statements are not yours to turn. If you find one false, say at which input.
  Laid BY PROGRAM, IN A SANDBOX (cutbox-rows.mjs): the forced cells as the released guide's own fill.sh prints them over the translation 4f40b01f87d88b5a… (all of the seat's roots in one cut). By AI agents, Wed Nov 11 2026. No macro, syntax, notation, axiom, sorry.
-/
import Derived.Test.YtdlminfjdodjoaaGreatChecked
import GoSem.Claim
import GoSem.ClaimJoined
import GoSem.ClaimMapViews
import Derived.JoinedTies
import Derived.KernelRfl
namespace Go.Proofs.YtdlminfjdodjoaaGreat
/- THE CELL 'sum', in the pinned program and in every row, IS THE sha256 OF THE DUMP (.gsa) THAT YtdlminfjdodjoaaGreatProg.lean LOADS. Nothing in Lean hashes anything: it is a label: what it is worth is what the hold of that sum in a sandbox is worth. -/
noncomputable def Tryz.pinned : Pinned := { name := "ytdlminfjdodjoaagreat", sum := "4f40b01f87d88b5aa1de03d9fead3a31369e6a91f4c99a73bd4536c9457be0bb", checked := Tryz.checked }
namespace Rows
def none {H : Type} : Left H := { results := [], args := [] }

/-- 'laws.FnExactStepEngine': WHATEVER THE INPUT: true; the input reads as it did. -/
def fnExactStepEngineSpec : ChangeSpec := { name := "fnExactStepEngine", fn := fun _ => fun
  | [d] => { results := [.lit (.bool true)], args := [d] }
  | _ => none }
def fnExactStepEngineRow : OpenClaim := { program := "ytdlminfjdodjoaagreat", sum := "4f40b01f87d88b5aa1de03d9fead3a31369e6a91f4c99a73bd4536c9457be0bb", func := "loop.example/g01986/laws.FnExactStepEngine", spec := "fnExactStepEngine", apart := false }
def FnExactStepEngineSaid : Prop := fnExactStepEngineRow.holds Tryz.pinned (OpenSpec.ofChange fnExactStepEngineSpec)

/-- ITS FALSE NEIGHBOUR: 'it returns false'. Refute it at one input. -/
def fnExactStepEngineWrong : ChangeSpec := { name := "fnExactStepEngine", fn := fun _ => fun
  | [d] => { results := [.lit (.bool false)], args := [d] }
  | _ => none }
def FnExactStepEngineWrongFalsely : Prop := fnExactStepEngineRow.holds Tryz.pinned (OpenSpec.ofChange fnExactStepEngineWrong)

/-- 'laws.FnExactFinishEngine': WHATEVER THE INPUT: true; the input reads as it did. -/
def fnExactFinishEngineSpec : ChangeSpec := { name := "fnExactFinishEngine", fn := fun _ => fun
  | [d] => { results := [.lit (.bool true)], args := [d] }
  | _ => none }
def fnExactFinishEngineRow : OpenClaim := { program := "ytdlminfjdodjoaagreat", sum := "4f40b01f87d88b5aa1de03d9fead3a31369e6a91f4c99a73bd4536c9457be0bb", func := "loop.example/g01986/laws.FnExactFinishEngine", spec := "fnExactFinishEngine", apart := false }
def FnExactFinishEngineSaid : Prop := fnExactFinishEngineRow.holds Tryz.pinned (OpenSpec.ofChange fnExactFinishEngineSpec)

/-- ITS FALSE NEIGHBOUR: 'it returns false'. Refute it at one input. -/
def fnExactFinishEngineWrong : ChangeSpec := { name := "fnExactFinishEngine", fn := fun _ => fun
  | [d] => { results := [.lit (.bool false)], args := [d] }
  | _ => none }
def FnExactFinishEngineWrongFalsely : Prop := fnExactFinishEngineRow.holds Tryz.pinned (OpenSpec.ofChange fnExactFinishEngineWrong)

/-- 'laws.FnExactRunEngine': WHATEVER THE INPUT: true; the input reads as it did. -/
def fnExactRunEngineSpec : ChangeSpec := { name := "fnExactRunEngine", fn := fun _ => fun
  | [d1, d2] => { results := [.lit (.bool true)], args := [d1, d2] }
  | _ => none }
def fnExactRunEngineRow : OpenClaim := { program := "ytdlminfjdodjoaagreat", sum := "4f40b01f87d88b5aa1de03d9fead3a31369e6a91f4c99a73bd4536c9457be0bb", func := "loop.example/g01986/laws.FnExactRunEngine", spec := "fnExactRunEngine", apart := false }
def FnExactRunEngineSaid : Prop := fnExactRunEngineRow.holds Tryz.pinned (OpenSpec.ofChange fnExactRunEngineSpec)

/-- ITS FALSE NEIGHBOUR: 'it returns false'. Refute it at one input. -/
def fnExactRunEngineWrong : ChangeSpec := { name := "fnExactRunEngine", fn := fun _ => fun
  | [d1, d2] => { results := [.lit (.bool false)], args := [d1, d2] }
  | _ => none }
def FnExactRunEngineWrongFalsely : Prop := fnExactRunEngineRow.holds Tryz.pinned (OpenSpec.ofChange fnExactRunEngineWrong)

/-- 'laws.FnSteps': WHATEVER THE INPUT: true; the input reads as it did. -/
def fnStepsSpec : ChangeSpec := { name := "fnSteps", fn := fun _ => fun
  | [d] => { results := [.lit (.bool true)], args := [d] }
  | _ => none }
def fnStepsRow : OpenClaim := { program := "ytdlminfjdodjoaagreat", sum := "4f40b01f87d88b5aa1de03d9fead3a31369e6a91f4c99a73bd4536c9457be0bb", func := "loop.example/g01986/laws.FnSteps", spec := "fnSteps", apart := false }
def FnStepsSaid : Prop := fnStepsRow.holds Tryz.pinned (OpenSpec.ofChange fnStepsSpec)

/-- ITS FALSE NEIGHBOUR: 'it returns false'. Refute it at one input. -/
def fnStepsWrong : ChangeSpec := { name := "fnSteps", fn := fun _ => fun
  | [d] => { results := [.lit (.bool false)], args := [d] }
  | _ => none }
def FnStepsWrongFalsely : Prop := fnStepsRow.holds Tryz.pinned (OpenSpec.ofChange fnStepsWrong)

/-- 'laws.FnAdmissions': WHATEVER THE INPUT: true; the input reads as it did. -/
def fnAdmissionsSpec : ChangeSpec := { name := "fnAdmissions", fn := fun _ => fun
  | [d] => { results := [.lit (.bool true)], args := [d] }
  | _ => none }
def fnAdmissionsRow : OpenClaim := { program := "ytdlminfjdodjoaagreat", sum := "4f40b01f87d88b5aa1de03d9fead3a31369e6a91f4c99a73bd4536c9457be0bb", func := "loop.example/g01986/laws.FnAdmissions", spec := "fnAdmissions", apart := false }
def FnAdmissionsSaid : Prop := fnAdmissionsRow.holds Tryz.pinned (OpenSpec.ofChange fnAdmissionsSpec)

/-- ITS FALSE NEIGHBOUR: 'it returns false'. Refute it at one input. -/
def fnAdmissionsWrong : ChangeSpec := { name := "fnAdmissions", fn := fun _ => fun
  | [d] => { results := [.lit (.bool false)], args := [d] }
  | _ => none }
def FnAdmissionsWrongFalsely : Prop := fnAdmissionsRow.holds Tryz.pinned (OpenSpec.ofChange fnAdmissionsWrong)

/-- 'laws.FnPromises': WHATEVER THE INPUT: true; the input reads as it did. -/
def fnPromisesSpec : ChangeSpec := { name := "fnPromises", fn := fun _ => fun
  | [d] => { results := [.lit (.bool true)], args := [d] }
  | _ => none }
def fnPromisesRow : OpenClaim := { program := "ytdlminfjdodjoaagreat", sum := "4f40b01f87d88b5aa1de03d9fead3a31369e6a91f4c99a73bd4536c9457be0bb", func := "loop.example/g01986/laws.FnPromises", spec := "fnPromises", apart := false }
def FnPromisesSaid : Prop := fnPromisesRow.holds Tryz.pinned (OpenSpec.ofChange fnPromisesSpec)

/-- ITS FALSE NEIGHBOUR: 'it returns false'. Refute it at one input. -/
def fnPromisesWrong : ChangeSpec := { name := "fnPromises", fn := fun _ => fun
  | [d] => { results := [.lit (.bool false)], args := [d] }
  | _ => none }
def FnPromisesWrongFalsely : Prop := fnPromisesRow.holds Tryz.pinned (OpenSpec.ofChange fnPromisesWrong)

/- THE SECOND FORM. 'bulk': how many values and letters a reading holds, each counted each time it is reached (what is shared counts as often as it is met; a slice's spare places count too). A statement '..UptoSaid' is the law's where the arguments, and the package variables that the reading takes, are together of bulk at most 1048576: NARROWER than '..Said'. Prove '..Said' where nothing that the law and all that it calls make is longer than what came in: it says more and counts as full. Else prove '..UptoSaid'. A law counts once. -/
mutual
def uptoBulk {H : Type} : DataW H → Nat
  | .lit (.string bytes) => bytes.length + 1
  | .lit _ => 1
  | .nil => 1
  | .ptr d => uptoBulk d + 1
  | .slice elems spare => uptoBulkAll elems + uptoBulkAll spare + 1
  | .agg parts => uptoBulkAll parts + 1
  | .iface _ d => uptoBulk d + 1
  | .map entries => uptoBulkEntries entries + 1
  | .held _ => 1
def uptoBulkAll {H : Type} : List (DataW H) → Nat
  | [] => 0
  | d :: r => uptoBulk d + uptoBulkAll r
def uptoBulkEntries {H : Type} : List (Lit × DataW H) → Nat
  | [] => 0
  | x :: r => uptoBulkEntry x + uptoBulkEntries r
def uptoBulkEntry {H : Type} : Lit × DataW H → Nat
  | (.string bytes, d) => bytes.length + uptoBulk d + 1
  | (_, d) => uptoBulk d + 1
 end
def uptoSmall : (H : Type) → List (DataW H) → Bool := fun _ ds => decide (uptoBulkAll ds ≤ 1048576)
def OpenSpec.upto (s : _root_.Go.ChangeSpec) : _root_.Go.OpenSpec := { _root_.Go.OpenSpec.ofChange s with cond := some uptoSmall }

/-- 'laws.FnExactStepEngine', WHERE WHAT IT READS IS OF BULK AT MOST 1048576: true; the input reads as it did. -/
def fnExactStepEngineUptoRow : OpenClaim := { program := "ytdlminfjdodjoaagreat", sum := "4f40b01f87d88b5aa1de03d9fead3a31369e6a91f4c99a73bd4536c9457be0bb", func := "loop.example/g01986/laws.FnExactStepEngine", spec := "fnExactStepEngine", apart := false, narrowed := true }
def FnExactStepEngineUptoSaid : Prop := fnExactStepEngineUptoRow.holds Tryz.pinned (OpenSpec.upto fnExactStepEngineSpec)

/-- 'laws.FnExactFinishEngine', WHERE WHAT IT READS IS OF BULK AT MOST 1048576: true; the input reads as it did. -/
def fnExactFinishEngineUptoRow : OpenClaim := { program := "ytdlminfjdodjoaagreat", sum := "4f40b01f87d88b5aa1de03d9fead3a31369e6a91f4c99a73bd4536c9457be0bb", func := "loop.example/g01986/laws.FnExactFinishEngine", spec := "fnExactFinishEngine", apart := false, narrowed := true }
def FnExactFinishEngineUptoSaid : Prop := fnExactFinishEngineUptoRow.holds Tryz.pinned (OpenSpec.upto fnExactFinishEngineSpec)

/-- 'laws.FnExactRunEngine', WHERE WHAT IT READS IS OF BULK AT MOST 1048576: true; the input reads as it did. -/
def fnExactRunEngineUptoRow : OpenClaim := { program := "ytdlminfjdodjoaagreat", sum := "4f40b01f87d88b5aa1de03d9fead3a31369e6a91f4c99a73bd4536c9457be0bb", func := "loop.example/g01986/laws.FnExactRunEngine", spec := "fnExactRunEngine", apart := false, narrowed := true }
def FnExactRunEngineUptoSaid : Prop := fnExactRunEngineUptoRow.holds Tryz.pinned (OpenSpec.upto fnExactRunEngineSpec)

/-- 'laws.FnSteps', WHERE WHAT IT READS IS OF BULK AT MOST 1048576: true; the input reads as it did. -/
def fnStepsUptoRow : OpenClaim := { program := "ytdlminfjdodjoaagreat", sum := "4f40b01f87d88b5aa1de03d9fead3a31369e6a91f4c99a73bd4536c9457be0bb", func := "loop.example/g01986/laws.FnSteps", spec := "fnSteps", apart := false, narrowed := true }
def FnStepsUptoSaid : Prop := fnStepsUptoRow.holds Tryz.pinned (OpenSpec.upto fnStepsSpec)

/-- 'laws.FnAdmissions', WHERE WHAT IT READS IS OF BULK AT MOST 1048576: true; the input reads as it did. -/
def fnAdmissionsUptoRow : OpenClaim := { program := "ytdlminfjdodjoaagreat", sum := "4f40b01f87d88b5aa1de03d9fead3a31369e6a91f4c99a73bd4536c9457be0bb", func := "loop.example/g01986/laws.FnAdmissions", spec := "fnAdmissions", apart := false, narrowed := true }
def FnAdmissionsUptoSaid : Prop := fnAdmissionsUptoRow.holds Tryz.pinned (OpenSpec.upto fnAdmissionsSpec)

/-- 'laws.FnPromises', WHERE WHAT IT READS IS OF BULK AT MOST 1048576: true; the input reads as it did. -/
def fnPromisesUptoRow : OpenClaim := { program := "ytdlminfjdodjoaagreat", sum := "4f40b01f87d88b5aa1de03d9fead3a31369e6a91f4c99a73bd4536c9457be0bb", func := "loop.example/g01986/laws.FnPromises", spec := "fnPromises", apart := false, narrowed := true }
def FnPromisesUptoSaid : Prop := fnPromisesUptoRow.holds Tryz.pinned (OpenSpec.upto fnPromisesSpec)

end Rows
end Go.Proofs.YtdlminfjdodjoaaGreat
