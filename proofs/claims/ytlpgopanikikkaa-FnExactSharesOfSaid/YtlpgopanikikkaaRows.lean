/-
  No cell of these rows narrows 'for every input' (looked for: loops, veiled, ifaces, maps, wideKeys, modest, calm, conditions, laid).
  DERIVED. THE GIVEN ROWS OF THIS SEAT. 12 by the template 'for every input the law returns true; each argument reads behind the call as it read before'; 0 by the template 'total and deterministic' (their statements: YtlpgopanikikkaaTotals.lean).
  GIVEN WITH THE SEED: the statements are not yours to turn. If you find one false, say at which input.
  Laid BY PROGRAM, IN A SANDBOX (cutbox-rows.mjs): the forced cells as the released guide's own fill.sh prints them over the translation 5bc29d6e49e6ecf3… (all of the seat's roots in one cut). By AI agents, Wed Nov 11 2026. No macro, syntax, notation, axiom, sorry.
-/
import Derived.Test.YtlpgopanikikkaaChecked
import GoSem.Claim
import GoSem.ClaimJoined
import GoSem.ClaimMapViews
import Derived.JoinedTies
import Derived.KernelRfl
namespace Go.Proofs.Ytlpgopanikikkaa
/- THE CELL 'sum', in the pinned program and in every row, IS THE sha256 OF THE DUMP (.gsa) THAT YtlpgopanikikkaaProg.lean LOADS. Nothing in Lean hashes anything: it is a label: what it is worth is what the hold of that sum in a sandbox is worth. -/
noncomputable def Try.pinned : Pinned := { name := "ytlpgopanikikkaa", sum := "5bc29d6e49e6ecf331373c81fa0318b66e486f933b69bf0343c595b2b265bf9b", checked := Try.checked }
namespace Rows
def none {H : Type} : Left H := { results := [], args := [] }

/-- 'laws.FnExactStepBound': WHATEVER THE INPUT: true; the input reads as it did. -/
def fnExactStepBoundSpec : ChangeSpec := { name := "fnExactStepBound", fn := fun _ => fun
  | [d] => { results := [.lit (.bool true)], args := [d] }
  | _ => none }
def fnExactStepBoundRow : OpenClaim := { program := "ytlpgopanikikkaa", sum := "5bc29d6e49e6ecf331373c81fa0318b66e486f933b69bf0343c595b2b265bf9b", func := "loop.example/g01986/laws.FnExactStepBound", spec := "fnExactStepBound", apart := false }
def FnExactStepBoundSaid : Prop := fnExactStepBoundRow.holds Try.pinned (OpenSpec.ofChange fnExactStepBoundSpec)

/-- ITS FALSE NEIGHBOUR: 'it returns false'. Refute it at one input. -/
def fnExactStepBoundWrong : ChangeSpec := { name := "fnExactStepBound", fn := fun _ => fun
  | [d] => { results := [.lit (.bool false)], args := [d] }
  | _ => none }
def FnExactStepBoundWrongFalsely : Prop := fnExactStepBoundRow.holds Try.pinned (OpenSpec.ofChange fnExactStepBoundWrong)

/-- 'laws.FnExactGroupsOf': WHATEVER THE INPUT: true; the input reads as it did. -/
def fnExactGroupsOfSpec : ChangeSpec := { name := "fnExactGroupsOf", fn := fun _ => fun
  | [d1, d2] => { results := [.lit (.bool true)], args := [d1, d2] }
  | _ => none }
def fnExactGroupsOfRow : OpenClaim := { program := "ytlpgopanikikkaa", sum := "5bc29d6e49e6ecf331373c81fa0318b66e486f933b69bf0343c595b2b265bf9b", func := "loop.example/g01986/laws.FnExactGroupsOf", spec := "fnExactGroupsOf", apart := false }
def FnExactGroupsOfSaid : Prop := fnExactGroupsOfRow.holds Try.pinned (OpenSpec.ofChange fnExactGroupsOfSpec)

/-- ITS FALSE NEIGHBOUR: 'it returns false'. Refute it at one input. -/
def fnExactGroupsOfWrong : ChangeSpec := { name := "fnExactGroupsOf", fn := fun _ => fun
  | [d1, d2] => { results := [.lit (.bool false)], args := [d1, d2] }
  | _ => none }
def FnExactGroupsOfWrongFalsely : Prop := fnExactGroupsOfRow.holds Try.pinned (OpenSpec.ofChange fnExactGroupsOfWrong)

/-- 'laws.FnExactIsCharge': WHATEVER THE INPUT: true; the input reads as it did. -/
def fnExactIsChargeSpec : ChangeSpec := { name := "fnExactIsCharge", fn := fun _ => fun
  | [d] => { results := [.lit (.bool true)], args := [d] }
  | _ => none }
def fnExactIsChargeRow : OpenClaim := { program := "ytlpgopanikikkaa", sum := "5bc29d6e49e6ecf331373c81fa0318b66e486f933b69bf0343c595b2b265bf9b", func := "loop.example/g01986/laws.FnExactIsCharge", spec := "fnExactIsCharge", apart := false }
def FnExactIsChargeSaid : Prop := fnExactIsChargeRow.holds Try.pinned (OpenSpec.ofChange fnExactIsChargeSpec)

/-- ITS FALSE NEIGHBOUR: 'it returns false'. Refute it at one input. -/
def fnExactIsChargeWrong : ChangeSpec := { name := "fnExactIsCharge", fn := fun _ => fun
  | [d] => { results := [.lit (.bool false)], args := [d] }
  | _ => none }
def FnExactIsChargeWrongFalsely : Prop := fnExactIsChargeRow.holds Try.pinned (OpenSpec.ofChange fnExactIsChargeWrong)

/-- 'laws.FnExactCountRouted': WHATEVER THE INPUT: true; the input reads as it did. -/
def fnExactCountRoutedSpec : ChangeSpec := { name := "fnExactCountRouted", fn := fun _ => fun
  | [d] => { results := [.lit (.bool true)], args := [d] }
  | _ => none }
def fnExactCountRoutedRow : OpenClaim := { program := "ytlpgopanikikkaa", sum := "5bc29d6e49e6ecf331373c81fa0318b66e486f933b69bf0343c595b2b265bf9b", func := "loop.example/g01986/laws.FnExactCountRouted", spec := "fnExactCountRouted", apart := false }
def FnExactCountRoutedSaid : Prop := fnExactCountRoutedRow.holds Try.pinned (OpenSpec.ofChange fnExactCountRoutedSpec)

/-- ITS FALSE NEIGHBOUR: 'it returns false'. Refute it at one input. -/
def fnExactCountRoutedWrong : ChangeSpec := { name := "fnExactCountRouted", fn := fun _ => fun
  | [d] => { results := [.lit (.bool false)], args := [d] }
  | _ => none }
def FnExactCountRoutedWrongFalsely : Prop := fnExactCountRoutedRow.holds Try.pinned (OpenSpec.ofChange fnExactCountRoutedWrong)

/-- 'laws.FnExactIsUpdate': WHATEVER THE INPUT: true; the input reads as it did. -/
def fnExactIsUpdateSpec : ChangeSpec := { name := "fnExactIsUpdate", fn := fun _ => fun
  | [d] => { results := [.lit (.bool true)], args := [d] }
  | _ => none }
def fnExactIsUpdateRow : OpenClaim := { program := "ytlpgopanikikkaa", sum := "5bc29d6e49e6ecf331373c81fa0318b66e486f933b69bf0343c595b2b265bf9b", func := "loop.example/g01986/laws.FnExactIsUpdate", spec := "fnExactIsUpdate", apart := false }
def FnExactIsUpdateSaid : Prop := fnExactIsUpdateRow.holds Try.pinned (OpenSpec.ofChange fnExactIsUpdateSpec)

/-- ITS FALSE NEIGHBOUR: 'it returns false'. Refute it at one input. -/
def fnExactIsUpdateWrong : ChangeSpec := { name := "fnExactIsUpdate", fn := fun _ => fun
  | [d] => { results := [.lit (.bool false)], args := [d] }
  | _ => none }
def FnExactIsUpdateWrongFalsely : Prop := fnExactIsUpdateRow.holds Try.pinned (OpenSpec.ofChange fnExactIsUpdateWrong)

/-- 'laws.FnExactWorkDone': WHATEVER THE INPUT: true; the input reads as it did. -/
def fnExactWorkDoneSpec : ChangeSpec := { name := "fnExactWorkDone", fn := fun _ => fun
  | [d] => { results := [.lit (.bool true)], args := [d] }
  | _ => none }
def fnExactWorkDoneRow : OpenClaim := { program := "ytlpgopanikikkaa", sum := "5bc29d6e49e6ecf331373c81fa0318b66e486f933b69bf0343c595b2b265bf9b", func := "loop.example/g01986/laws.FnExactWorkDone", spec := "fnExactWorkDone", apart := false }
def FnExactWorkDoneSaid : Prop := fnExactWorkDoneRow.holds Try.pinned (OpenSpec.ofChange fnExactWorkDoneSpec)

/-- ITS FALSE NEIGHBOUR: 'it returns false'. Refute it at one input. -/
def fnExactWorkDoneWrong : ChangeSpec := { name := "fnExactWorkDone", fn := fun _ => fun
  | [d] => { results := [.lit (.bool false)], args := [d] }
  | _ => none }
def FnExactWorkDoneWrongFalsely : Prop := fnExactWorkDoneRow.holds Try.pinned (OpenSpec.ofChange fnExactWorkDoneWrong)

/-- 'laws.FnExactEqualAnnotated': WHATEVER THE INPUT: true; the input reads as it did. -/
def fnExactEqualAnnotatedSpec : ChangeSpec := { name := "fnExactEqualAnnotated", fn := fun _ => fun
  | [d1, d2] => { results := [.lit (.bool true)], args := [d1, d2] }
  | _ => none }
def fnExactEqualAnnotatedRow : OpenClaim := { program := "ytlpgopanikikkaa", sum := "5bc29d6e49e6ecf331373c81fa0318b66e486f933b69bf0343c595b2b265bf9b", func := "loop.example/g01986/laws.FnExactEqualAnnotated", spec := "fnExactEqualAnnotated", apart := false }
def FnExactEqualAnnotatedSaid : Prop := fnExactEqualAnnotatedRow.holds Try.pinned (OpenSpec.ofChange fnExactEqualAnnotatedSpec)

/-- ITS FALSE NEIGHBOUR: 'it returns false'. Refute it at one input. -/
def fnExactEqualAnnotatedWrong : ChangeSpec := { name := "fnExactEqualAnnotated", fn := fun _ => fun
  | [d1, d2] => { results := [.lit (.bool false)], args := [d1, d2] }
  | _ => none }
def FnExactEqualAnnotatedWrongFalsely : Prop := fnExactEqualAnnotatedRow.holds Try.pinned (OpenSpec.ofChange fnExactEqualAnnotatedWrong)

/-- 'laws.FnExactSharesOf': WHATEVER THE INPUT: true; the input reads as it did. -/
def fnExactSharesOfSpec : ChangeSpec := { name := "fnExactSharesOf", fn := fun _ => fun
  | [d] => { results := [.lit (.bool true)], args := [d] }
  | _ => none }
def fnExactSharesOfRow : OpenClaim := { program := "ytlpgopanikikkaa", sum := "5bc29d6e49e6ecf331373c81fa0318b66e486f933b69bf0343c595b2b265bf9b", func := "loop.example/g01986/laws.FnExactSharesOf", spec := "fnExactSharesOf", apart := false }
def FnExactSharesOfSaid : Prop := fnExactSharesOfRow.holds Try.pinned (OpenSpec.ofChange fnExactSharesOfSpec)

/-- ITS FALSE NEIGHBOUR: 'it returns false'. Refute it at one input. -/
def fnExactSharesOfWrong : ChangeSpec := { name := "fnExactSharesOf", fn := fun _ => fun
  | [d] => { results := [.lit (.bool false)], args := [d] }
  | _ => none }
def FnExactSharesOfWrongFalsely : Prop := fnExactSharesOfRow.holds Try.pinned (OpenSpec.ofChange fnExactSharesOfWrong)

/-- 'laws.FnExactTotalWork': WHATEVER THE INPUT: true; the input reads as it did. -/
def fnExactTotalWorkSpec : ChangeSpec := { name := "fnExactTotalWork", fn := fun _ => fun
  | [d] => { results := [.lit (.bool true)], args := [d] }
  | _ => none }
def fnExactTotalWorkRow : OpenClaim := { program := "ytlpgopanikikkaa", sum := "5bc29d6e49e6ecf331373c81fa0318b66e486f933b69bf0343c595b2b265bf9b", func := "loop.example/g01986/laws.FnExactTotalWork", spec := "fnExactTotalWork", apart := false }
def FnExactTotalWorkSaid : Prop := fnExactTotalWorkRow.holds Try.pinned (OpenSpec.ofChange fnExactTotalWorkSpec)

/-- ITS FALSE NEIGHBOUR: 'it returns false'. Refute it at one input. -/
def fnExactTotalWorkWrong : ChangeSpec := { name := "fnExactTotalWork", fn := fun _ => fun
  | [d] => { results := [.lit (.bool false)], args := [d] }
  | _ => none }
def FnExactTotalWorkWrongFalsely : Prop := fnExactTotalWorkRow.holds Try.pinned (OpenSpec.ofChange fnExactTotalWorkWrong)

/-- 'laws.FnExactWorstStep': WHATEVER THE INPUT: true; the input reads as it did. -/
def fnExactWorstStepSpec : ChangeSpec := { name := "fnExactWorstStep", fn := fun _ => fun
  | [d] => { results := [.lit (.bool true)], args := [d] }
  | _ => none }
def fnExactWorstStepRow : OpenClaim := { program := "ytlpgopanikikkaa", sum := "5bc29d6e49e6ecf331373c81fa0318b66e486f933b69bf0343c595b2b265bf9b", func := "loop.example/g01986/laws.FnExactWorstStep", spec := "fnExactWorstStep", apart := false }
def FnExactWorstStepSaid : Prop := fnExactWorstStepRow.holds Try.pinned (OpenSpec.ofChange fnExactWorstStepSpec)

/-- ITS FALSE NEIGHBOUR: 'it returns false'. Refute it at one input. -/
def fnExactWorstStepWrong : ChangeSpec := { name := "fnExactWorstStep", fn := fun _ => fun
  | [d] => { results := [.lit (.bool false)], args := [d] }
  | _ => none }
def FnExactWorstStepWrongFalsely : Prop := fnExactWorstStepRow.holds Try.pinned (OpenSpec.ofChange fnExactWorstStepWrong)

/-- 'laws.FnExactTenantCharge': WHATEVER THE INPUT: true; the input reads as it did. -/
def fnExactTenantChargeSpec : ChangeSpec := { name := "fnExactTenantCharge", fn := fun _ => fun
  | [d1, d2] => { results := [.lit (.bool true)], args := [d1, d2] }
  | _ => none }
def fnExactTenantChargeRow : OpenClaim := { program := "ytlpgopanikikkaa", sum := "5bc29d6e49e6ecf331373c81fa0318b66e486f933b69bf0343c595b2b265bf9b", func := "loop.example/g01986/laws.FnExactTenantCharge", spec := "fnExactTenantCharge", apart := false }
def FnExactTenantChargeSaid : Prop := fnExactTenantChargeRow.holds Try.pinned (OpenSpec.ofChange fnExactTenantChargeSpec)

/-- ITS FALSE NEIGHBOUR: 'it returns false'. Refute it at one input. -/
def fnExactTenantChargeWrong : ChangeSpec := { name := "fnExactTenantCharge", fn := fun _ => fun
  | [d1, d2] => { results := [.lit (.bool false)], args := [d1, d2] }
  | _ => none }
def FnExactTenantChargeWrongFalsely : Prop := fnExactTenantChargeRow.holds Try.pinned (OpenSpec.ofChange fnExactTenantChargeWrong)

/-- 'laws.FnExactCoalitionCost': WHATEVER THE INPUT: true; the input reads as it did. -/
def fnExactCoalitionCostSpec : ChangeSpec := { name := "fnExactCoalitionCost", fn := fun _ => fun
  | [d1, d2] => { results := [.lit (.bool true)], args := [d1, d2] }
  | _ => none }
def fnExactCoalitionCostRow : OpenClaim := { program := "ytlpgopanikikkaa", sum := "5bc29d6e49e6ecf331373c81fa0318b66e486f933b69bf0343c595b2b265bf9b", func := "loop.example/g01986/laws.FnExactCoalitionCost", spec := "fnExactCoalitionCost", apart := false }
def FnExactCoalitionCostSaid : Prop := fnExactCoalitionCostRow.holds Try.pinned (OpenSpec.ofChange fnExactCoalitionCostSpec)

/-- ITS FALSE NEIGHBOUR: 'it returns false'. Refute it at one input. -/
def fnExactCoalitionCostWrong : ChangeSpec := { name := "fnExactCoalitionCost", fn := fun _ => fun
  | [d1, d2] => { results := [.lit (.bool false)], args := [d1, d2] }
  | _ => none }
def FnExactCoalitionCostWrongFalsely : Prop := fnExactCoalitionCostRow.holds Try.pinned (OpenSpec.ofChange fnExactCoalitionCostWrong)

/- THE SECOND FORM. 'bulk': how many values and letters a reading holds, each counted each time it is reached (what is shared counts as often as it is met; a slice's spare places count too). A statement '..UptoSaid' is the law's where the arguments, and the package variables that the reading takes, are together of bulk at most 1048576: NARROWER than '..Said'. Prove '..Said' where nothing that the law and all that it calls make is longer than what came in: it says more and counts as full. Else prove '..UptoSaid'. A law counts once. -/
mutual
def uptoBulk {H : Type} : DataW H → Nat
  | .lit (.string bytes) => bytes.length + 1
  | .lit _ => 1
  | .nil => 1
  | .ptr d => uptoBulk d + 1
  | .slice elems spare => uptoBulkAll elems + uptoBulkAll spare + 1
  | .agg parts => uptoBulkAll parts + 1
  | .iface _ d => uptoBulk d + 1
  | .map entries => uptoBulkEntries entries + 1
  | .held _ => 1
def uptoBulkAll {H : Type} : List (DataW H) → Nat
  | [] => 0
  | d :: r => uptoBulk d + uptoBulkAll r
def uptoBulkEntries {H : Type} : List (Lit × DataW H) → Nat
  | [] => 0
  | x :: r => uptoBulkEntry x + uptoBulkEntries r
def uptoBulkEntry {H : Type} : Lit × DataW H → Nat
  | (.string bytes, d) => bytes.length + uptoBulk d + 1
  | (_, d) => uptoBulk d + 1
 end
def uptoSmall : (H : Type) → List (DataW H) → Bool := fun _ ds => decide (uptoBulkAll ds ≤ 1048576)
def OpenSpec.upto (s : _root_.Go.ChangeSpec) : _root_.Go.OpenSpec := { _root_.Go.OpenSpec.ofChange s with cond := some uptoSmall }

/-- 'laws.FnExactStepBound', WHERE WHAT IT READS IS OF BULK AT MOST 1048576: true; the input reads as it did. -/
def fnExactStepBoundUptoRow : OpenClaim := { program := "ytlpgopanikikkaa", sum := "5bc29d6e49e6ecf331373c81fa0318b66e486f933b69bf0343c595b2b265bf9b", func := "loop.example/g01986/laws.FnExactStepBound", spec := "fnExactStepBound", apart := false, narrowed := true }
def FnExactStepBoundUptoSaid : Prop := fnExactStepBoundUptoRow.holds Try.pinned (OpenSpec.upto fnExactStepBoundSpec)

/-- 'laws.FnExactGroupsOf', WHERE WHAT IT READS IS OF BULK AT MOST 1048576: true; the input reads as it did. -/
def fnExactGroupsOfUptoRow : OpenClaim := { program := "ytlpgopanikikkaa", sum := "5bc29d6e49e6ecf331373c81fa0318b66e486f933b69bf0343c595b2b265bf9b", func := "loop.example/g01986/laws.FnExactGroupsOf", spec := "fnExactGroupsOf", apart := false, narrowed := true }
def FnExactGroupsOfUptoSaid : Prop := fnExactGroupsOfUptoRow.holds Try.pinned (OpenSpec.upto fnExactGroupsOfSpec)

/-- 'laws.FnExactIsCharge', WHERE WHAT IT READS IS OF BULK AT MOST 1048576: true; the input reads as it did. -/
def fnExactIsChargeUptoRow : OpenClaim := { program := "ytlpgopanikikkaa", sum := "5bc29d6e49e6ecf331373c81fa0318b66e486f933b69bf0343c595b2b265bf9b", func := "loop.example/g01986/laws.FnExactIsCharge", spec := "fnExactIsCharge", apart := false, narrowed := true }
def FnExactIsChargeUptoSaid : Prop := fnExactIsChargeUptoRow.holds Try.pinned (OpenSpec.upto fnExactIsChargeSpec)

/-- 'laws.FnExactCountRouted', WHERE WHAT IT READS IS OF BULK AT MOST 1048576: true; the input reads as it did. -/
def fnExactCountRoutedUptoRow : OpenClaim := { program := "ytlpgopanikikkaa", sum := "5bc29d6e49e6ecf331373c81fa0318b66e486f933b69bf0343c595b2b265bf9b", func := "loop.example/g01986/laws.FnExactCountRouted", spec := "fnExactCountRouted", apart := false, narrowed := true }
def FnExactCountRoutedUptoSaid : Prop := fnExactCountRoutedUptoRow.holds Try.pinned (OpenSpec.upto fnExactCountRoutedSpec)

/-- 'laws.FnExactIsUpdate', WHERE WHAT IT READS IS OF BULK AT MOST 1048576: true; the input reads as it did. -/
def fnExactIsUpdateUptoRow : OpenClaim := { program := "ytlpgopanikikkaa", sum := "5bc29d6e49e6ecf331373c81fa0318b66e486f933b69bf0343c595b2b265bf9b", func := "loop.example/g01986/laws.FnExactIsUpdate", spec := "fnExactIsUpdate", apart := false, narrowed := true }
def FnExactIsUpdateUptoSaid : Prop := fnExactIsUpdateUptoRow.holds Try.pinned (OpenSpec.upto fnExactIsUpdateSpec)

/-- 'laws.FnExactWorkDone', WHERE WHAT IT READS IS OF BULK AT MOST 1048576: true; the input reads as it did. -/
def fnExactWorkDoneUptoRow : OpenClaim := { program := "ytlpgopanikikkaa", sum := "5bc29d6e49e6ecf331373c81fa0318b66e486f933b69bf0343c595b2b265bf9b", func := "loop.example/g01986/laws.FnExactWorkDone", spec := "fnExactWorkDone", apart := false, narrowed := true }
def FnExactWorkDoneUptoSaid : Prop := fnExactWorkDoneUptoRow.holds Try.pinned (OpenSpec.upto fnExactWorkDoneSpec)

/-- 'laws.FnExactEqualAnnotated', WHERE WHAT IT READS IS OF BULK AT MOST 1048576: true; the input reads as it did. -/
def fnExactEqualAnnotatedUptoRow : OpenClaim := { program := "ytlpgopanikikkaa", sum := "5bc29d6e49e6ecf331373c81fa0318b66e486f933b69bf0343c595b2b265bf9b", func := "loop.example/g01986/laws.FnExactEqualAnnotated", spec := "fnExactEqualAnnotated", apart := false, narrowed := true }
def FnExactEqualAnnotatedUptoSaid : Prop := fnExactEqualAnnotatedUptoRow.holds Try.pinned (OpenSpec.upto fnExactEqualAnnotatedSpec)

/-- 'laws.FnExactSharesOf', WHERE WHAT IT READS IS OF BULK AT MOST 1048576: true; the input reads as it did. -/
def fnExactSharesOfUptoRow : OpenClaim := { program := "ytlpgopanikikkaa", sum := "5bc29d6e49e6ecf331373c81fa0318b66e486f933b69bf0343c595b2b265bf9b", func := "loop.example/g01986/laws.FnExactSharesOf", spec := "fnExactSharesOf", apart := false, narrowed := true }
def FnExactSharesOfUptoSaid : Prop := fnExactSharesOfUptoRow.holds Try.pinned (OpenSpec.upto fnExactSharesOfSpec)

/-- 'laws.FnExactTotalWork', WHERE WHAT IT READS IS OF BULK AT MOST 1048576: true; the input reads as it did. -/
def fnExactTotalWorkUptoRow : OpenClaim := { program := "ytlpgopanikikkaa", sum := "5bc29d6e49e6ecf331373c81fa0318b66e486f933b69bf0343c595b2b265bf9b", func := "loop.example/g01986/laws.FnExactTotalWork", spec := "fnExactTotalWork", apart := false, narrowed := true }
def FnExactTotalWorkUptoSaid : Prop := fnExactTotalWorkUptoRow.holds Try.pinned (OpenSpec.upto fnExactTotalWorkSpec)

/-- 'laws.FnExactWorstStep', WHERE WHAT IT READS IS OF BULK AT MOST 1048576: true; the input reads as it did. -/
def fnExactWorstStepUptoRow : OpenClaim := { program := "ytlpgopanikikkaa", sum := "5bc29d6e49e6ecf331373c81fa0318b66e486f933b69bf0343c595b2b265bf9b", func := "loop.example/g01986/laws.FnExactWorstStep", spec := "fnExactWorstStep", apart := false, narrowed := true }
def FnExactWorstStepUptoSaid : Prop := fnExactWorstStepUptoRow.holds Try.pinned (OpenSpec.upto fnExactWorstStepSpec)

/-- 'laws.FnExactTenantCharge', WHERE WHAT IT READS IS OF BULK AT MOST 1048576: true; the input reads as it did. -/
def fnExactTenantChargeUptoRow : OpenClaim := { program := "ytlpgopanikikkaa", sum := "5bc29d6e49e6ecf331373c81fa0318b66e486f933b69bf0343c595b2b265bf9b", func := "loop.example/g01986/laws.FnExactTenantCharge", spec := "fnExactTenantCharge", apart := false, narrowed := true }
def FnExactTenantChargeUptoSaid : Prop := fnExactTenantChargeUptoRow.holds Try.pinned (OpenSpec.upto fnExactTenantChargeSpec)

/-- 'laws.FnExactCoalitionCost', WHERE WHAT IT READS IS OF BULK AT MOST 1048576: true; the input reads as it did. -/
def fnExactCoalitionCostUptoRow : OpenClaim := { program := "ytlpgopanikikkaa", sum := "5bc29d6e49e6ecf331373c81fa0318b66e486f933b69bf0343c595b2b265bf9b", func := "loop.example/g01986/laws.FnExactCoalitionCost", spec := "fnExactCoalitionCost", apart := false, narrowed := true }
def FnExactCoalitionCostUptoSaid : Prop := fnExactCoalitionCostUptoRow.holds Try.pinned (OpenSpec.upto fnExactCoalitionCostSpec)

end Rows
end Go.Proofs.Ytlpgopanikikkaa
