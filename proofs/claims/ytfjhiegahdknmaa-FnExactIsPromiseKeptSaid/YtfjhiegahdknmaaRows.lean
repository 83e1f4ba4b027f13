/-
  No cell of these rows narrows 'for every input' (looked for: loops, veiled, ifaces, maps, wideKeys, modest, calm, conditions, laid).
  DERIVED. THE GIVEN ROWS OF THIS SEAT. 11 by the template 'for every input the law returns true; each argument reads behind the call as it read before'; 0 by the template 'total and deterministic' (their statements: YtfjhiegahdknmaaTotals.lean).
  GIVEN WITH THE SEED: the statements are not yours to turn. If you find one false, say at which input.
  Laid BY PROGRAM, IN A SANDBOX (cutbox-rows.mjs): the forced cells as the released guide's own fill.sh prints them over the translation 1a123591785f77c1… (all of the seat's roots in one cut). By AI agents, Wed Nov 11 2026. No macro, syntax, notation, axiom, sorry.
-/
import Derived.Test.YtfjhiegahdknmaaChecked
import GoSem.Claim
import GoSem.ClaimJoined
import GoSem.ClaimMapViews
import Derived.JoinedTies
import Derived.KernelRfl
namespace Go.Proofs.Ytfjhiegahdknmaa
/- THE CELL 'sum', in the pinned program and in every row, IS THE sha256 OF THE DUMP (.gsa) THAT YtfjhiegahdknmaaProg.lean LOADS. Nothing in Lean hashes anything: it is a label: what it is worth is what the hold of that sum in a sandbox is worth. -/
noncomputable def Try.pinned : Pinned := { name := "ytfjhiegahdknmaa", sum := "1a123591785f77c193c42f1a7f5314a9163a1e264e5ccf6c47c8fb9b824c30e5", checked := Try.checked }
namespace Rows
def none {H : Type} : Left H := { results := [], args := [] }

/-- 'laws.FnStores': WHATEVER THE INPUT: true; the input reads as it did. -/
def fnStoresSpec : ChangeSpec := { name := "fnStores", fn := fun _ => fun
  | [d] => { results := [.lit (.bool true)], args := [d] }
  | _ => none }
def fnStoresRow : OpenClaim := { program := "ytfjhiegahdknmaa", sum := "1a123591785f77c193c42f1a7f5314a9163a1e264e5ccf6c47c8fb9b824c30e5", func := "loop.example/g01986/laws.FnStores", spec := "fnStores", unfollowed := true, recurses := true, apart := false }
def FnStoresSaid : Prop := fnStoresRow.holds Try.pinned (OpenSpec.ofChange fnStoresSpec)

/-- ITS FALSE NEIGHBOUR: 'it returns false'. Refute it at one input. -/
def fnStoresWrong : ChangeSpec := { name := "fnStores", fn := fun _ => fun
  | [d] => { results := [.lit (.bool false)], args := [d] }
  | _ => none }
def FnStoresWrongFalsely : Prop := fnStoresRow.holds Try.pinned (OpenSpec.ofChange fnStoresWrong)

/-- 'laws.FnSegments': WHATEVER THE INPUT: true; the input reads as it did. -/
def fnSegmentsSpec : ChangeSpec := { name := "fnSegments", fn := fun _ => fun
  | [d] => { results := [.lit (.bool true)], args := [d] }
  | _ => none }
def fnSegmentsRow : OpenClaim := { program := "ytfjhiegahdknmaa", sum := "1a123591785f77c193c42f1a7f5314a9163a1e264e5ccf6c47c8fb9b824c30e5", func := "loop.example/g01986/laws.FnSegments", spec := "fnSegments", unfollowed := true, recurses := true, apart := false }
def FnSegmentsSaid : Prop := fnSegmentsRow.holds Try.pinned (OpenSpec.ofChange fnSegmentsSpec)

/-- ITS FALSE NEIGHBOUR: 'it returns false'. Refute it at one input. -/
def fnSegmentsWrong : ChangeSpec := { name := "fnSegments", fn := fun _ => fun
  | [d] => { results := [.lit (.bool false)], args := [d] }
  | _ => none }
def FnSegmentsWrongFalsely : Prop := fnSegmentsRow.holds Try.pinned (OpenSpec.ofChange fnSegmentsWrong)

/-- 'laws.FnReclaims': WHATEVER THE INPUT: true; the input reads as it did. -/
def fnReclaimsSpec : ChangeSpec := { name := "fnReclaims", fn := fun _ => fun
  | [d] => { results := [.lit (.bool true)], args := [d] }
  | _ => none }
def fnReclaimsRow : OpenClaim := { program := "ytfjhiegahdknmaa", sum := "1a123591785f77c193c42f1a7f5314a9163a1e264e5ccf6c47c8fb9b824c30e5", func := "loop.example/g01986/laws.FnReclaims", spec := "fnReclaims", unfollowed := true, recurses := true, apart := false }
def FnReclaimsSaid : Prop := fnReclaimsRow.holds Try.pinned (OpenSpec.ofChange fnReclaimsSpec)

/-- ITS FALSE NEIGHBOUR: 'it returns false'. Refute it at one input. -/
def fnReclaimsWrong : ChangeSpec := { name := "fnReclaims", fn := fun _ => fun
  | [d] => { results := [.lit (.bool false)], args := [d] }
  | _ => none }
def FnReclaimsWrongFalsely : Prop := fnReclaimsRow.holds Try.pinned (OpenSpec.ofChange fnReclaimsWrong)

/-- 'laws.FnExactFindActive': WHATEVER THE INPUT: true; the input reads as it did. -/
def fnExactFindActiveSpec : ChangeSpec := { name := "fnExactFindActive", fn := fun _ => fun
  | [d1, d2] => { results := [.lit (.bool true)], args := [d1, d2] }
  | _ => none }
def fnExactFindActiveRow : OpenClaim := { program := "ytfjhiegahdknmaa", sum := "1a123591785f77c193c42f1a7f5314a9163a1e264e5ccf6c47c8fb9b824c30e5", func := "loop.example/g01986/laws.FnExactFindActive", spec := "fnExactFindActive", apart := false }
def FnExactFindActiveSaid : Prop := fnExactFindActiveRow.holds Try.pinned (OpenSpec.ofChange fnExactFindActiveSpec)

/-- ITS FALSE NEIGHBOUR: 'it returns false'. Refute it at one input. -/
def fnExactFindActiveWrong : ChangeSpec := { name := "fnExactFindActive", fn := fun _ => fun
  | [d1, d2] => { results := [.lit (.bool false)], args := [d1, d2] }
  | _ => none }
def FnExactFindActiveWrongFalsely : Prop := fnExactFindActiveRow.holds Try.pinned (OpenSpec.ofChange fnExactFindActiveWrong)

/-- 'laws.FnExactEqualEngines': WHATEVER THE INPUT: true; the input reads as it did. -/
def fnExactEqualEnginesSpec : ChangeSpec := { name := "fnExactEqualEngines", fn := fun _ => fun
  | [d1, d2] => { results := [.lit (.bool true)], args := [d1, d2] }
  | _ => none }
def fnExactEqualEnginesRow : OpenClaim := { program := "ytfjhiegahdknmaa", sum := "1a123591785f77c193c42f1a7f5314a9163a1e264e5ccf6c47c8fb9b824c30e5", func := "loop.example/g01986/laws.FnExactEqualEngines", spec := "fnExactEqualEngines", unfollowed := true, recurses := true, apart := false }
def FnExactEqualEnginesSaid : Prop := fnExactEqualEnginesRow.holds Try.pinned (OpenSpec.ofChange fnExactEqualEnginesSpec)

/-- ITS FALSE NEIGHBOUR: 'it returns false'. Refute it at one input. -/
def fnExactEqualEnginesWrong : ChangeSpec := { name := "fnExactEqualEngines", fn := fun _ => fun
  | [d1, d2] => { results := [.lit (.bool false)], args := [d1, d2] }
  | _ => none }
def FnExactEqualEnginesWrongFalsely : Prop := fnExactEqualEnginesRow.holds Try.pinned (OpenSpec.ofChange fnExactEqualEnginesWrong)

/-- 'laws.FnExactNewEngine': WHATEVER THE INPUT: true; the input reads as it did. -/
def fnExactNewEngineSpec : ChangeSpec := { name := "fnExactNewEngine", fn := fun _ => fun
  | [d] => { results := [.lit (.bool true)], args := [d] }
  | _ => none }
def fnExactNewEngineRow : OpenClaim := { program := "ytfjhiegahdknmaa", sum := "1a123591785f77c193c42f1a7f5314a9163a1e264e5ccf6c47c8fb9b824c30e5", func := "loop.example/g01986/laws.FnExactNewEngine", spec := "fnExactNewEngine", apart := false }
def FnExactNewEngineSaid : Prop := fnExactNewEngineRow.holds Try.pinned (OpenSpec.ofChange fnExactNewEngineSpec)

/-- ITS FALSE NEIGHBOUR: 'it returns false'. Refute it at one input. -/
def fnExactNewEngineWrong : ChangeSpec := { name := "fnExactNewEngine", fn := fun _ => fun
  | [d] => { results := [.lit (.bool false)], args := [d] }
  | _ => none }
def FnExactNewEngineWrongFalsely : Prop := fnExactNewEngineRow.holds Try.pinned (OpenSpec.ofChange fnExactNewEngineWrong)

/-- 'laws.FnExactIsEngine': WHATEVER THE INPUT: true; the input reads as it did. -/
def fnExactIsEngineSpec : ChangeSpec := { name := "fnExactIsEngine", fn := fun _ => fun
  | [d] => { results := [.lit (.bool true)], args := [d] }
  | _ => none }
def fnExactIsEngineRow : OpenClaim := { program := "ytfjhiegahdknmaa", sum := "1a123591785f77c193c42f1a7f5314a9163a1e264e5ccf6c47c8fb9b824c30e5", func := "loop.example/g01986/laws.FnExactIsEngine", spec := "fnExactIsEngine", apart := false }
def FnExactIsEngineSaid : Prop := fnExactIsEngineRow.holds Try.pinned (OpenSpec.ofChange fnExactIsEngineSpec)

/-- ITS FALSE NEIGHBOUR: 'it returns false'. Refute it at one input. -/
def fnExactIsEngineWrong : ChangeSpec := { name := "fnExactIsEngine", fn := fun _ => fun
  | [d] => { results := [.lit (.bool false)], args := [d] }
  | _ => none }
def FnExactIsEngineWrongFalsely : Prop := fnExactIsEngineRow.holds Try.pinned (OpenSpec.ofChange fnExactIsEngineWrong)

/-- 'laws.FnExactIsAwake': WHATEVER THE INPUT: true; the input reads as it did. -/
def fnExactIsAwakeSpec : ChangeSpec := { name := "fnExactIsAwake", fn := fun _ => fun
  | [d1, d2] => { results := [.lit (.bool true)], args := [d1, d2] }
  | _ => none }
def fnExactIsAwakeRow : OpenClaim := { program := "ytfjhiegahdknmaa", sum := "1a123591785f77c193c42f1a7f5314a9163a1e264e5ccf6c47c8fb9b824c30e5", func := "loop.example/g01986/laws.FnExactIsAwake", spec := "fnExactIsAwake", apart := false }
def FnExactIsAwakeSaid : Prop := fnExactIsAwakeRow.holds Try.pinned (OpenSpec.ofChange fnExactIsAwakeSpec)

/-- ITS FALSE NEIGHBOUR: 'it returns false'. Refute it at one input. -/
def fnExactIsAwakeWrong : ChangeSpec := { name := "fnExactIsAwake", fn := fun _ => fun
  | [d1, d2] => { results := [.lit (.bool false)], args := [d1, d2] }
  | _ => none }
def FnExactIsAwakeWrongFalsely : Prop := fnExactIsAwakeRow.holds Try.pinned (OpenSpec.ofChange fnExactIsAwakeWrong)

/-- 'laws.FnExactPromisedSteps': WHATEVER THE INPUT: true; the input reads as it did. -/
def fnExactPromisedStepsSpec : ChangeSpec := { name := "fnExactPromisedSteps", fn := fun _ => fun
  | [d1, d2] => { results := [.lit (.bool true)], args := [d1, d2] }
  | _ => none }
def fnExactPromisedStepsRow : OpenClaim := { program := "ytfjhiegahdknmaa", sum := "1a123591785f77c193c42f1a7f5314a9163a1e264e5ccf6c47c8fb9b824c30e5", func := "loop.example/g01986/laws.FnExactPromisedSteps", spec := "fnExactPromisedSteps", apart := false }
def FnExactPromisedStepsSaid : Prop := fnExactPromisedStepsRow.holds Try.pinned (OpenSpec.ofChange fnExactPromisedStepsSpec)

/-- ITS FALSE NEIGHBOUR: 'it returns false'. Refute it at one input. -/
def fnExactPromisedStepsWrong : ChangeSpec := { name := "fnExactPromisedSteps", fn := fun _ => fun
  | [d1, d2] => { results := [.lit (.bool false)], args := [d1, d2] }
  | _ => none }
def FnExactPromisedStepsWrongFalsely : Prop := fnExactPromisedStepsRow.holds Try.pinned (OpenSpec.ofChange fnExactPromisedStepsWrong)

/-- 'laws.FnExactIsPromiseKept': WHATEVER THE INPUT: true; the input reads as it did. -/
def fnExactIsPromiseKeptSpec : ChangeSpec := { name := "fnExactIsPromiseKept", fn := fun _ => fun
  | [d] => { results := [.lit (.bool true)], args := [d] }
  | _ => none }
def fnExactIsPromiseKeptRow : OpenClaim := { program := "ytfjhiegahdknmaa", sum := "1a123591785f77c193c42f1a7f5314a9163a1e264e5ccf6c47c8fb9b824c30e5", func := "loop.example/g01986/laws.FnExactIsPromiseKept", spec := "fnExactIsPromiseKept", apart := false }
def FnExactIsPromiseKeptSaid : Prop := fnExactIsPromiseKeptRow.holds Try.pinned (OpenSpec.ofChange fnExactIsPromiseKeptSpec)

/-- ITS FALSE NEIGHBOUR: 'it returns false'. Refute it at one input. -/
def fnExactIsPromiseKeptWrong : ChangeSpec := { name := "fnExactIsPromiseKept", fn := fun _ => fun
  | [d] => { results := [.lit (.bool false)], args := [d] }
  | _ => none }
def FnExactIsPromiseKeptWrongFalsely : Prop := fnExactIsPromiseKeptRow.holds Try.pinned (OpenSpec.ofChange fnExactIsPromiseKeptWrong)

/-- 'laws.FnExactParticipants': WHATEVER THE INPUT: true; the input reads as it did. -/
def fnExactParticipantsSpec : ChangeSpec := { name := "fnExactParticipants", fn := fun _ => fun
  | [d] => { results := [.lit (.bool true)], args := [d] }
  | _ => none }
def fnExactParticipantsRow : OpenClaim := { program := "ytfjhiegahdknmaa", sum := "1a123591785f77c193c42f1a7f5314a9163a1e264e5ccf6c47c8fb9b824c30e5", func := "loop.example/g01986/laws.FnExactParticipants", spec := "fnExactParticipants", apart := false }
def FnExactParticipantsSaid : Prop := fnExactParticipantsRow.holds Try.pinned (OpenSpec.ofChange fnExactParticipantsSpec)

/-- ITS FALSE NEIGHBOUR: 'it returns false'. Refute it at one input. -/
def fnExactParticipantsWrong : ChangeSpec := { name := "fnExactParticipants", fn := fun _ => fun
  | [d] => { results := [.lit (.bool false)], args := [d] }
  | _ => none }
def FnExactParticipantsWrongFalsely : Prop := fnExactParticipantsRow.holds Try.pinned (OpenSpec.ofChange fnExactParticipantsWrong)

/- THE SECOND FORM. 'bulk': how many values and letters a reading holds, each counted each time it is reached (what is shared counts as often as it is met; a slice's spare places count too). A statement '..UptoSaid' is the law's where the arguments, and the package variables that the reading takes, are together of bulk at most 1048576: NARROWER than '..Said'. Prove '..Said' where nothing that the law and all that it calls make is longer than what came in: it says more and counts as full. Else prove '..UptoSaid'. A law counts once. -/
mutual
def uptoBulk {H : Type} : DataW H → Nat
  | .lit (.string bytes) => bytes.length + 1
  | .lit _ => 1
  | .nil => 1
  | .ptr d => uptoBulk d + 1
  | .slice elems spare => uptoBulkAll elems + uptoBulkAll spare + 1
  | .agg parts => uptoBulkAll parts + 1
  | .iface _ d => uptoBulk d + 1
  | .map entries => uptoBulkEntries entries + 1
  | .held _ => 1
def uptoBulkAll {H : Type} : List (DataW H) → Nat
  | [] => 0
  | d :: r => uptoBulk d + uptoBulkAll r
def uptoBulkEntries {H : Type} : List (Lit × DataW H) → Nat
  | [] => 0
  | x :: r => uptoBulkEntry x + uptoBulkEntries r
def uptoBulkEntry {H : Type} : Lit × DataW H → Nat
  | (.string bytes, d) => bytes.length + uptoBulk d + 1
  | (_, d) => uptoBulk d + 1
 end
def uptoSmall : (H : Type) → List (DataW H) → Bool := fun _ ds => decide (uptoBulkAll ds ≤ 1048576)
def OpenSpec.upto (s : _root_.Go.ChangeSpec) : _root_.Go.OpenSpec := { _root_.Go.OpenSpec.ofChange s with cond := some uptoSmall }

/-- 'laws.FnStores', WHERE WHAT IT READS IS OF BULK AT MOST 1048576: true; the input reads as it did. -/
def fnStoresUptoRow : OpenClaim := { program := "ytfjhiegahdknmaa", sum := "1a123591785f77c193c42f1a7f5314a9163a1e264e5ccf6c47c8fb9b824c30e5", func := "loop.example/g01986/laws.FnStores", spec := "fnStores", unfollowed := true, recurses := true, apart := false, narrowed := true }
def FnStoresUptoSaid : Prop := fnStoresUptoRow.holds Try.pinned (OpenSpec.upto fnStoresSpec)

/-- 'laws.FnSegments', WHERE WHAT IT READS IS OF BULK AT MOST 1048576: true; the input reads as it did. -/
def fnSegmentsUptoRow : OpenClaim := { program := "ytfjhiegahdknmaa", sum := "1a123591785f77c193c42f1a7f5314a9163a1e264e5ccf6c47c8fb9b824c30e5", func := "loop.example/g01986/laws.FnSegments", spec := "fnSegments", unfollowed := true, recurses := true, apart := false, narrowed := true }
def FnSegmentsUptoSaid : Prop := fnSegmentsUptoRow.holds Try.pinned (OpenSpec.upto fnSegmentsSpec)

/-- 'laws.FnReclaims', WHERE WHAT IT READS IS OF BULK AT MOST 1048576: true; the input reads as it did. -/
def fnReclaimsUptoRow : OpenClaim := { program := "ytfjhiegahdknmaa", sum := "1a123591785f77c193c42f1a7f5314a9163a1e264e5ccf6c47c8fb9b824c30e5", func := "loop.example/g01986/laws.FnReclaims", spec := "fnReclaims", unfollowed := true, recurses := true, apart := false, narrowed := true }
def FnReclaimsUptoSaid : Prop := fnReclaimsUptoRow.holds Try.pinned (OpenSpec.upto fnReclaimsSpec)

/-- 'laws.FnExactFindActive', WHERE WHAT IT READS IS OF BULK AT MOST 1048576: true; the input reads as it did. -/
def fnExactFindActiveUptoRow : OpenClaim := { program := "ytfjhiegahdknmaa", sum := "1a123591785f77c193c42f1a7f5314a9163a1e264e5ccf6c47c8fb9b824c30e5", func := "loop.example/g01986/laws.FnExactFindActive", spec := "fnExactFindActive", apart := false, narrowed := true }
def FnExactFindActiveUptoSaid : Prop := fnExactFindActiveUptoRow.holds Try.pinned (OpenSpec.upto fnExactFindActiveSpec)

/-- 'laws.FnExactEqualEngines', WHERE WHAT IT READS IS OF BULK AT MOST 1048576: true; the input reads as it did. -/
def fnExactEqualEnginesUptoRow : OpenClaim := { program := "ytfjhiegahdknmaa", sum := "1a123591785f77c193c42f1a7f5314a9163a1e264e5ccf6c47c8fb9b824c30e5", func := "loop.example/g01986/laws.FnExactEqualEngines", spec := "fnExactEqualEngines", unfollowed := true, recurses := true, apart := false, narrowed := true }
def FnExactEqualEnginesUptoSaid : Prop := fnExactEqualEnginesUptoRow.holds Try.pinned (OpenSpec.upto fnExactEqualEnginesSpec)

/-- 'laws.FnExactNewEngine', WHERE WHAT IT READS IS OF BULK AT MOST 1048576: true; the input reads as it did. -/
def fnExactNewEngineUptoRow : OpenClaim := { program := "ytfjhiegahdknmaa", sum := "1a123591785f77c193c42f1a7f5314a9163a1e264e5ccf6c47c8fb9b824c30e5", func := "loop.example/g01986/laws.FnExactNewEngine", spec := "fnExactNewEngine", apart := false, narrowed := true }
def FnExactNewEngineUptoSaid : Prop := fnExactNewEngineUptoRow.holds Try.pinned (OpenSpec.upto fnExactNewEngineSpec)

/-- 'laws.FnExactIsEngine', WHERE WHAT IT READS IS OF BULK AT MOST 1048576: true; the input reads as it did. -/
def fnExactIsEngineUptoRow : OpenClaim := { program := "ytfjhiegahdknmaa", sum := "1a123591785f77c193c42f1a7f5314a9163a1e264e5ccf6c47c8fb9b824c30e5", func := "loop.example/g01986/laws.FnExactIsEngine", spec := "fnExactIsEngine", apart := false, narrowed := true }
def FnExactIsEngineUptoSaid : Prop := fnExactIsEngineUptoRow.holds Try.pinned (OpenSpec.upto fnExactIsEngineSpec)

/-- 'laws.FnExactIsAwake', WHERE WHAT IT READS IS OF BULK AT MOST 1048576: true; the input reads as it did. -/
def fnExactIsAwakeUptoRow : OpenClaim := { program := "ytfjhiegahdknmaa", sum := "1a123591785f77c193c42f1a7f5314a9163a1e264e5ccf6c47c8fb9b824c30e5", func := "loop.example/g01986/laws.FnExactIsAwake", spec := "fnExactIsAwake", apart := false, narrowed := true }
def FnExactIsAwakeUptoSaid : Prop := fnExactIsAwakeUptoRow.holds Try.pinned (OpenSpec.upto fnExactIsAwakeSpec)

/-- 'laws.FnExactPromisedSteps', WHERE WHAT IT READS IS OF BULK AT MOST 1048576: true; the input reads as it did. -/
def fnExactPromisedStepsUptoRow : OpenClaim := { program := "ytfjhiegahdknmaa", sum := "1a123591785f77c193c42f1a7f5314a9163a1e264e5ccf6c47c8fb9b824c30e5", func := "loop.example/g01986/laws.FnExactPromisedSteps", spec := "fnExactPromisedSteps", apart := false, narrowed := true }
def FnExactPromisedStepsUptoSaid : Prop := fnExactPromisedStepsUptoRow.holds Try.pinned (OpenSpec.upto fnExactPromisedStepsSpec)

/-- 'laws.FnExactIsPromiseKept', WHERE WHAT IT READS IS OF BULK AT MOST 1048576: true; the input reads as it did. -/
def fnExactIsPromiseKeptUptoRow : OpenClaim := { program := "ytfjhiegahdknmaa", sum := "1a123591785f77c193c42f1a7f5314a9163a1e264e5ccf6c47c8fb9b824c30e5", func := "loop.example/g01986/laws.FnExactIsPromiseKept", spec := "fnExactIsPromiseKept", apart := false, narrowed := true }
def FnExactIsPromiseKeptUptoSaid : Prop := fnExactIsPromiseKeptUptoRow.holds Try.pinned (OpenSpec.upto fnExactIsPromiseKeptSpec)

/-- 'laws.FnExactParticipants', WHERE WHAT IT READS IS OF BULK AT MOST 1048576: true; the input reads as it did. -/
def fnExactParticipantsUptoRow : OpenClaim := { program := "ytfjhiegahdknmaa", sum := "1a123591785f77c193c42f1a7f5314a9163a1e264e5ccf6c47c8fb9b824c30e5", func := "loop.example/g01986/laws.FnExactParticipants", spec := "fnExactParticipants", apart := false, narrowed := true }
def FnExactParticipantsUptoSaid : Prop := fnExactParticipantsUptoRow.holds Try.pinned (OpenSpec.upto fnExactParticipantsSpec)

end Rows
end Go.Proofs.Ytfjhiegahdknmaa
