/-
  No cell of these rows narrows 'for every input' (looked for: loops, veiled, ifaces, maps, wideKeys, modest, calm, conditions, laid).
  DERIVED. THE GIVEN ROWS OF THIS SEAT. 8 by the template 'for every input the law returns true; each argument reads behind the call as it read before'; 0 by the template 'total and deterministic' (their statements: YtjcdginailhfmaaTotals.lean).
  GIVEN WITH THE SEED: the statements are not yours to turn. If you find one false, say at which input.
  Laid BY PROGRAM, IN A SANDBOX (cutbox-rows.mjs): the forced cells as the released guide's own fill.sh prints them over the translation 4aff9817058ec9ff… (all of the seat's roots in one cut). By AI agents, Wed Nov 11 2026. No macro, syntax, notation, axiom, sorry.
-/
import Derived.Test.YtjcdginailhfmaaChecked
import GoSem.Claim
import GoSem.ClaimJoined
import GoSem.ClaimMapViews
import Derived.JoinedTies
import Derived.KernelRfl
namespace Go.Proofs.Ytjcdginailhfmaa
/- THE CELL 'sum', in the pinned program and in every row, IS THE sha256 OF THE DUMP (.gsa) THAT YtjcdginailhfmaaProg.lean LOADS. Nothing in Lean hashes anything: it is a label: what it is worth is what the hold of that sum in a sandbox is worth. -/
noncomputable def Try.pinned : Pinned := { name := "ytjcdginailhfmaa", sum := "4aff9817058ec9ff7507a5d667da9034b84b733c9de6a9674d1db7cf3dd58525", checked := Try.checked }
namespace Rows
def none {H : Type} : Left H := { results := [], args := [] }

/-- 'laws.FnExactRouteRows': WHATEVER THE INPUT: true; the input reads as it did. -/
def fnExactRouteRowsSpec : ChangeSpec := { name := "fnExactRouteRows", fn := fun _ => fun
  | [d1, d2] => { results := [.lit (.bool true)], args := [d1, d2] }
  | _ => none }
def fnExactRouteRowsRow : OpenClaim := { program := "ytjcdginailhfmaa", sum := "4aff9817058ec9ff7507a5d667da9034b84b733c9de6a9674d1db7cf3dd58525", func := "loop.example/g01986/laws.FnExactRouteRows", spec := "fnExactRouteRows", apart := false }
def FnExactRouteRowsSaid : Prop := fnExactRouteRowsRow.holds Try.pinned (OpenSpec.ofChange fnExactRouteRowsSpec)

/-- ITS FALSE NEIGHBOUR: 'it returns false'. Refute it at one input. -/
def fnExactRouteRowsWrong : ChangeSpec := { name := "fnExactRouteRows", fn := fun _ => fun
  | [d1, d2] => { results := [.lit (.bool false)], args := [d1, d2] }
  | _ => none }
def FnExactRouteRowsWrongFalsely : Prop := fnExactRouteRowsRow.holds Try.pinned (OpenSpec.ofChange fnExactRouteRowsWrong)

/-- 'laws.FnExactKeepSet': WHATEVER THE INPUT: true; the input reads as it did. -/
def fnExactKeepSetSpec : ChangeSpec := { name := "fnExactKeepSet", fn := fun _ => fun
  | [d1, d2] => { results := [.lit (.bool true)], args := [d1, d2] }
  | _ => none }
def fnExactKeepSetRow : OpenClaim := { program := "ytjcdginailhfmaa", sum := "4aff9817058ec9ff7507a5d667da9034b84b733c9de6a9674d1db7cf3dd58525", func := "loop.example/g01986/laws.FnExactKeepSet", spec := "fnExactKeepSet", unfollowed := true, recurses := true, apart := false }
def FnExactKeepSetSaid : Prop := fnExactKeepSetRow.holds Try.pinned (OpenSpec.ofChange fnExactKeepSetSpec)

/-- ITS FALSE NEIGHBOUR: 'it returns false'. Refute it at one input. -/
def fnExactKeepSetWrong : ChangeSpec := { name := "fnExactKeepSet", fn := fun _ => fun
  | [d1, d2] => { results := [.lit (.bool false)], args := [d1, d2] }
  | _ => none }
def FnExactKeepSetWrongFalsely : Prop := fnExactKeepSetRow.holds Try.pinned (OpenSpec.ofChange fnExactKeepSetWrong)

/-- 'laws.FnExactReclaimStore': WHATEVER THE INPUT: true; the input reads as it did. -/
def fnExactReclaimStoreSpec : ChangeSpec := { name := "fnExactReclaimStore", fn := fun _ => fun
  | [d1, d2] => { results := [.lit (.bool true)], args := [d1, d2] }
  | _ => none }
def fnExactReclaimStoreRow : OpenClaim := { program := "ytjcdginailhfmaa", sum := "4aff9817058ec9ff7507a5d667da9034b84b733c9de6a9674d1db7cf3dd58525", func := "loop.example/g01986/laws.FnExactReclaimStore", spec := "fnExactReclaimStore", apart := false }
def FnExactReclaimStoreSaid : Prop := fnExactReclaimStoreRow.holds Try.pinned (OpenSpec.ofChange fnExactReclaimStoreSpec)

/-- ITS FALSE NEIGHBOUR: 'it returns false'. Refute it at one input. -/
def fnExactReclaimStoreWrong : ChangeSpec := { name := "fnExactReclaimStore", fn := fun _ => fun
  | [d1, d2] => { results := [.lit (.bool false)], args := [d1, d2] }
  | _ => none }
def FnExactReclaimStoreWrongFalsely : Prop := fnExactReclaimStoreRow.holds Try.pinned (OpenSpec.ofChange fnExactReclaimStoreWrong)

/-- 'laws.FnExactGroupAlone': WHATEVER THE INPUT: true; the input reads as it did. -/
def fnExactGroupAloneSpec : ChangeSpec := { name := "fnExactGroupAlone", fn := fun _ => fun
  | [d1, d2, d3, d4] => { results := [.lit (.bool true)], args := [d1, d2, d3, d4] }
  | _ => none }
def fnExactGroupAloneRow : OpenClaim := { program := "ytjcdginailhfmaa", sum := "4aff9817058ec9ff7507a5d667da9034b84b733c9de6a9674d1db7cf3dd58525", func := "loop.example/g01986/laws.FnExactGroupAlone", spec := "fnExactGroupAlone", unfollowed := true, recurses := true, apart := false }
def FnExactGroupAloneSaid : Prop := fnExactGroupAloneRow.holds Try.pinned (OpenSpec.ofChange fnExactGroupAloneSpec)

/-- ITS FALSE NEIGHBOUR: 'it returns false'. Refute it at one input. -/
def fnExactGroupAloneWrong : ChangeSpec := { name := "fnExactGroupAlone", fn := fun _ => fun
  | [d1, d2, d3, d4] => { results := [.lit (.bool false)], args := [d1, d2, d3, d4] }
  | _ => none }
def FnExactGroupAloneWrongFalsely : Prop := fnExactGroupAloneRow.holds Try.pinned (OpenSpec.ofChange fnExactGroupAloneWrong)

/-- 'laws.FnExactGroupShared': WHATEVER THE INPUT: true; the input reads as it did. -/
def fnExactGroupSharedSpec : ChangeSpec := { name := "fnExactGroupShared", fn := fun _ => fun
  | [d1, d2, d3] => { results := [.lit (.bool true)], args := [d1, d2, d3] }
  | _ => none }
def fnExactGroupSharedRow : OpenClaim := { program := "ytjcdginailhfmaa", sum := "4aff9817058ec9ff7507a5d667da9034b84b733c9de6a9674d1db7cf3dd58525", func := "loop.example/g01986/laws.FnExactGroupShared", spec := "fnExactGroupShared", unfollowed := true, recurses := true, apart := false }
def FnExactGroupSharedSaid : Prop := fnExactGroupSharedRow.holds Try.pinned (OpenSpec.ofChange fnExactGroupSharedSpec)

/-- ITS FALSE NEIGHBOUR: 'it returns false'. Refute it at one input. -/
def fnExactGroupSharedWrong : ChangeSpec := { name := "fnExactGroupShared", fn := fun _ => fun
  | [d1, d2, d3] => { results := [.lit (.bool false)], args := [d1, d2, d3] }
  | _ => none }
def FnExactGroupSharedWrongFalsely : Prop := fnExactGroupSharedRow.holds Try.pinned (OpenSpec.ofChange fnExactGroupSharedWrong)

/-- 'laws.FnExactApplyUpdate': WHATEVER THE INPUT: true; the input reads as it did. -/
def fnExactApplyUpdateSpec : ChangeSpec := { name := "fnExactApplyUpdate", fn := fun _ => fun
  | [d1, d2] => { results := [.lit (.bool true)], args := [d1, d2] }
  | _ => none }
def fnExactApplyUpdateRow : OpenClaim := { program := "ytjcdginailhfmaa", sum := "4aff9817058ec9ff7507a5d667da9034b84b733c9de6a9674d1db7cf3dd58525", func := "loop.example/g01986/laws.FnExactApplyUpdate", spec := "fnExactApplyUpdate", apart := false }
def FnExactApplyUpdateSaid : Prop := fnExactApplyUpdateRow.holds Try.pinned (OpenSpec.ofChange fnExactApplyUpdateSpec)

/-- ITS FALSE NEIGHBOUR: 'it returns false'. Refute it at one input. -/
def fnExactApplyUpdateWrong : ChangeSpec := { name := "fnExactApplyUpdate", fn := fun _ => fun
  | [d1, d2] => { results := [.lit (.bool false)], args := [d1, d2] }
  | _ => none }
def FnExactApplyUpdateWrongFalsely : Prop := fnExactApplyUpdateRow.holds Try.pinned (OpenSpec.ofChange fnExactApplyUpdateWrong)

/-- 'laws.FnExactApplyUpdates': WHATEVER THE INPUT: true; the input reads as it did. -/
def fnExactApplyUpdatesSpec : ChangeSpec := { name := "fnExactApplyUpdates", fn := fun _ => fun
  | [d1, d2] => { results := [.lit (.bool true)], args := [d1, d2] }
  | _ => none }
def fnExactApplyUpdatesRow : OpenClaim := { program := "ytjcdginailhfmaa", sum := "4aff9817058ec9ff7507a5d667da9034b84b733c9de6a9674d1db7cf3dd58525", func := "loop.example/g01986/laws.FnExactApplyUpdates", spec := "fnExactApplyUpdates", apart := false }
def FnExactApplyUpdatesSaid : Prop := fnExactApplyUpdatesRow.holds Try.pinned (OpenSpec.ofChange fnExactApplyUpdatesSpec)

/-- ITS FALSE NEIGHBOUR: 'it returns false'. Refute it at one input. -/
def fnExactApplyUpdatesWrong : ChangeSpec := { name := "fnExactApplyUpdates", fn := fun _ => fun
  | [d1, d2] => { results := [.lit (.bool false)], args := [d1, d2] }
  | _ => none }
def FnExactApplyUpdatesWrongFalsely : Prop := fnExactApplyUpdatesRow.holds Try.pinned (OpenSpec.ofChange fnExactApplyUpdatesWrong)

/-- 'laws.FnExactRowsAt': WHATEVER THE INPUT: true; the input reads as it did. -/
def fnExactRowsAtSpec : ChangeSpec := { name := "fnExactRowsAt", fn := fun _ => fun
  | [d1, d2] => { results := [.lit (.bool true)], args := [d1, d2] }
  | _ => none }
def fnExactRowsAtRow : OpenClaim := { program := "ytjcdginailhfmaa", sum := "4aff9817058ec9ff7507a5d667da9034b84b733c9de6a9674d1db7cf3dd58525", func := "loop.example/g01986/laws.FnExactRowsAt", spec := "fnExactRowsAt", unfollowed := true, recurses := true, apart := false }
def FnExactRowsAtSaid : Prop := fnExactRowsAtRow.holds Try.pinned (OpenSpec.ofChange fnExactRowsAtSpec)

/-- ITS FALSE NEIGHBOUR: 'it returns false'. Refute it at one input. -/
def fnExactRowsAtWrong : ChangeSpec := { name := "fnExactRowsAt", fn := fun _ => fun
  | [d1, d2] => { results := [.lit (.bool false)], args := [d1, d2] }
  | _ => none }
def FnExactRowsAtWrongFalsely : Prop := fnExactRowsAtRow.holds Try.pinned (OpenSpec.ofChange fnExactRowsAtWrong)

/- THE SECOND FORM. 'bulk': how many values and letters a reading holds, each counted each time it is reached (what is shared counts as often as it is met; a slice's spare places count too). A statement '..UptoSaid' is the law's where the arguments, and the package variables that the reading takes, are together of bulk at most 1048576: NARROWER than '..Said'. Prove '..Said' where nothing that the law and all that it calls make is longer than what came in: it says more and counts as full. Else prove '..UptoSaid'. A law counts once. -/
mutual
def uptoBulk {H : Type} : DataW H → Nat
  | .lit (.string bytes) => bytes.length + 1
  | .lit _ => 1
  | .nil => 1
  | .ptr d => uptoBulk d + 1
  | .slice elems spare => uptoBulkAll elems + uptoBulkAll spare + 1
  | .agg parts => uptoBulkAll parts + 1
  | .iface _ d => uptoBulk d + 1
  | .map entries => uptoBulkEntries entries + 1
  | .held _ => 1
def uptoBulkAll {H : Type} : List (DataW H) → Nat
  | [] => 0
  | d :: r => uptoBulk d + uptoBulkAll r
def uptoBulkEntries {H : Type} : List (Lit × DataW H) → Nat
  | [] => 0
  | x :: r => uptoBulkEntry x + uptoBulkEntries r
def uptoBulkEntry {H : Type} : Lit × DataW H → Nat
  | (.string bytes, d) => bytes.length + uptoBulk d + 1
  | (_, d) => uptoBulk d + 1
 end
def uptoSmall : (H : Type) → List (DataW H) → Bool := fun _ ds => decide (uptoBulkAll ds ≤ 1048576)
def OpenSpec.upto (s : _root_.Go.ChangeSpec) : _root_.Go.OpenSpec := { _root_.Go.OpenSpec.ofChange s with cond := some uptoSmall }

/-- 'laws.FnExactRouteRows', WHERE WHAT IT READS IS OF BULK AT MOST 1048576: true; the input reads as it did. -/
def fnExactRouteRowsUptoRow : OpenClaim := { program := "ytjcdginailhfmaa", sum := "4aff9817058ec9ff7507a5d667da9034b84b733c9de6a9674d1db7cf3dd58525", func := "loop.example/g01986/laws.FnExactRouteRows", spec := "fnExactRouteRows", apart := false, narrowed := true }
def FnExactRouteRowsUptoSaid : Prop := fnExactRouteRowsUptoRow.holds Try.pinned (OpenSpec.upto fnExactRouteRowsSpec)

/-- 'laws.FnExactKeepSet', WHERE WHAT IT READS IS OF BULK AT MOST 1048576: true; the input reads as it did. -/
def fnExactKeepSetUptoRow : OpenClaim := { program := "ytjcdginailhfmaa", sum := "4aff9817058ec9ff7507a5d667da9034b84b733c9de6a9674d1db7cf3dd58525", func := "loop.example/g01986/laws.FnExactKeepSet", spec := "fnExactKeepSet", unfollowed := true, recurses := true, apart := false, narrowed := true }
def FnExactKeepSetUptoSaid : Prop := fnExactKeepSetUptoRow.holds Try.pinned (OpenSpec.upto fnExactKeepSetSpec)

/-- 'laws.FnExactReclaimStore', WHERE WHAT IT READS IS OF BULK AT MOST 1048576: true; the input reads as it did. -/
def fnExactReclaimStoreUptoRow : OpenClaim := { program := "ytjcdginailhfmaa", sum := "4aff9817058ec9ff7507a5d667da9034b84b733c9de6a9674d1db7cf3dd58525", func := "loop.example/g01986/laws.FnExactReclaimStore", spec := "fnExactReclaimStore", apart := false, narrowed := true }
def FnExactReclaimStoreUptoSaid : Prop := fnExactReclaimStoreUptoRow.holds Try.pinned (OpenSpec.upto fnExactReclaimStoreSpec)

/-- 'laws.FnExactGroupAlone', WHERE WHAT IT READS IS OF BULK AT MOST 1048576: true; the input reads as it did. -/
def fnExactGroupAloneUptoRow : OpenClaim := { program := "ytjcdginailhfmaa", sum := "4aff9817058ec9ff7507a5d667da9034b84b733c9de6a9674d1db7cf3dd58525", func := "loop.example/g01986/laws.FnExactGroupAlone", spec := "fnExactGroupAlone", unfollowed := true, recurses := true, apart := false, narrowed := true }
def FnExactGroupAloneUptoSaid : Prop := fnExactGroupAloneUptoRow.holds Try.pinned (OpenSpec.upto fnExactGroupAloneSpec)

/-- 'laws.FnExactGroupShared', WHERE WHAT IT READS IS OF BULK AT MOST 1048576: true; the input reads as it did. -/
def fnExactGroupSharedUptoRow : OpenClaim := { program := "ytjcdginailhfmaa", sum := "4aff9817058ec9ff7507a5d667da9034b84b733c9de6a9674d1db7cf3dd58525", func := "loop.example/g01986/laws.FnExactGroupShared", spec := "fnExactGroupShared", unfollowed := true, recurses := true, apart := false, narrowed := true }
def FnExactGroupSharedUptoSaid : Prop := fnExactGroupSharedUptoRow.holds Try.pinned (OpenSpec.upto fnExactGroupSharedSpec)

/-- 'laws.FnExactApplyUpdate', WHERE WHAT IT READS IS OF BULK AT MOST 1048576: true; the input reads as it did. -/
def fnExactApplyUpdateUptoRow : OpenClaim := { program := "ytjcdginailhfmaa", sum := "4aff9817058ec9ff7507a5d667da9034b84b733c9de6a9674d1db7cf3dd58525", func := "loop.example/g01986/laws.FnExactApplyUpdate", spec := "fnExactApplyUpdate", apart := false, narrowed := true }
def FnExactApplyUpdateUptoSaid : Prop := fnExactApplyUpdateUptoRow.holds Try.pinned (OpenSpec.upto fnExactApplyUpdateSpec)

/-- 'laws.FnExactApplyUpdates', WHERE WHAT IT READS IS OF BULK AT MOST 1048576: true; the input reads as it did. -/
def fnExactApplyUpdatesUptoRow : OpenClaim := { program := "ytjcdginailhfmaa", sum := "4aff9817058ec9ff7507a5d667da9034b84b733c9de6a9674d1db7cf3dd58525", func := "loop.example/g01986/laws.FnExactApplyUpdates", spec := "fnExactApplyUpdates", apart := false, narrowed := true }
def FnExactApplyUpdatesUptoSaid : Prop := fnExactApplyUpdatesUptoRow.holds Try.pinned (OpenSpec.upto fnExactApplyUpdatesSpec)

/-- 'laws.FnExactRowsAt', WHERE WHAT IT READS IS OF BULK AT MOST 1048576: true; the input reads as it did. -/
def fnExactRowsAtUptoRow : OpenClaim := { program := "ytjcdginailhfmaa", sum := "4aff9817058ec9ff7507a5d667da9034b84b733c9de6a9674d1db7cf3dd58525", func := "loop.example/g01986/laws.FnExactRowsAt", spec := "fnExactRowsAt", unfollowed := true, recurses := true, apart := false, narrowed := true }
def FnExactRowsAtUptoSaid : Prop := fnExactRowsAtUptoRow.holds Try.pinned (OpenSpec.upto fnExactRowsAtSpec)

end Rows
end Go.Proofs.Ytjcdginailhfmaa
