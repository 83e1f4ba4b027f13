/-
  DERIVED. GIVEN WITH THE SEED: THE CARDS: each row of YtcjelfdpekbbkaaDoorRows.lean that lists a variable, with what it lists TIED to the program's text (the seventh form; the later family's looks); each row that meets fmt, with fmt's text TOLD by the authors' own Lean function (tested against real Go, not proved from fmt's source: count such statements apart). THE CARD IS WHAT COUNTS. Prove the row's statement (the work); the ties are given (YtcjelfdpekbbkaaDoorTie.lean); close each card by the builder's one call (the guide's Derived/Test/ToyasCard.lean, 'card_holds'). Laid BY PROGRAM, IN A SANDBOX (cutbox-door.mjs). By AI agents, Wed Nov 11 2026. No macro, syntax, notation, axiom, sorry.
-/
import Derived.Test.YtcjelfdpekbbkaaDoorRows
import GoSem.ClaimSeven
namespace Go.Proofs.YtcjelfdpekbbkaaDoor
namespace Rows

/-- THE TIED CARD OF 'laws.FnExactFormatGroup'. -/
def fnExactFormatGroupCard : Claim7 := { stood := { row := fnExactFormatGroupRow, standIns := [], harness := (true, "092247ba6eee52496c857ccc5284e047c5903aba78d9638ba384c54274b864dc"), looks := false }, kinds := [], alts := [], laidByText := true, laidKinds := [.data, .data, .data], laidTests := true, laidLooks := .later }
def FnExactFormatGroupCardSaid : Prop := Claim7.holds Tryd.pinned (.plain (OpenSpec.ofChange fnExactFormatGroupSpec)) fnExactFormatGroupCard

/-- THE TIED CARD OF 'laws.FnExactFormatCharge'. -/
def fnExactFormatChargeCard : Claim7 := { stood := { row := fnExactFormatChargeRow, standIns := [], harness := (true, "092247ba6eee52496c857ccc5284e047c5903aba78d9638ba384c54274b864dc"), looks := false }, kinds := [], alts := [], laidByText := true, laidKinds := [.data, .data, .data], laidTests := true, laidLooks := .later }
def FnExactFormatChargeCardSaid : Prop := Claim7.holds Tryd.pinned (.plain (OpenSpec.ofChange fnExactFormatChargeSpec)) fnExactFormatChargeCard

/-- THE TIED CARD OF 'laws.FnExactFormatUpdate'. -/
def fnExactFormatUpdateCard : Claim7 := { stood := { row := fnExactFormatUpdateRow, standIns := [], harness := (true, "092247ba6eee52496c857ccc5284e047c5903aba78d9638ba384c54274b864dc"), looks := false }, kinds := [], alts := [], laidByText := true, laidKinds := [.data, .data, .data], laidTests := true, laidLooks := .later }
def FnExactFormatUpdateCardSaid : Prop := Claim7.holds Tryd.pinned (.plain (OpenSpec.ofChange fnExactFormatUpdateSpec)) fnExactFormatUpdateCard

/-- THE TIED CARD OF 'laws.FnCharges'. -/
def fnChargesCard : Claim7 := { stood := { row := fnChargesRow, standIns := [], harness := (true, "092247ba6eee52496c857ccc5284e047c5903aba78d9638ba384c54274b864dc"), looks := false }, kinds := [], alts := [], laidByText := true, laidKinds := [.data, .data, .data], laidTests := true, laidLooks := .later }
def FnChargesCardSaid : Prop := Claim7.holds Tryd.pinned (.plain (OpenSpec.ofChange fnChargesSpec)) fnChargesCard

/-- THE TIED CARD OF 'laws.FnGroups'. -/
def fnGroupsCard : Claim7 := { stood := { row := fnGroupsRow, standIns := [], harness := (true, "092247ba6eee52496c857ccc5284e047c5903aba78d9638ba384c54274b864dc"), looks := false }, kinds := [], alts := [], laidByText := true, laidKinds := [.data, .data, .data], laidTests := true, laidLooks := .later }
def FnGroupsCardSaid : Prop := Claim7.holds Tryd.pinned (.plain (OpenSpec.ofChange fnGroupsSpec)) fnGroupsCard

/-- THE SECOND FORM's CARD OF 'laws.FnExactFormatGroup'. -/
def fnExactFormatGroupUptoCard : Claim7 := { stood := { row := fnExactFormatGroupUptoRow, standIns := [], harness := (true, "092247ba6eee52496c857ccc5284e047c5903aba78d9638ba384c54274b864dc"), looks := false }, kinds := [], alts := [], laidByText := true, laidKinds := [.data, .data, .data], laidTests := true, laidLooks := .later }
def FnExactFormatGroupUptoCardSaid : Prop := Claim7.holds Tryd.pinned (.plain (OpenSpec.upto fnExactFormatGroupSpec)) fnExactFormatGroupUptoCard

/-- THE SECOND FORM's CARD OF 'laws.FnExactFormatCharge'. -/
def fnExactFormatChargeUptoCard : Claim7 := { stood := { row := fnExactFormatChargeUptoRow, standIns := [], harness := (true, "092247ba6eee52496c857ccc5284e047c5903aba78d9638ba384c54274b864dc"), looks := false }, kinds := [], alts := [], laidByText := true, laidKinds := [.data, .data, .data], laidTests := true, laidLooks := .later }
def FnExactFormatChargeUptoCardSaid : Prop := Claim7.holds Tryd.pinned (.plain (OpenSpec.upto fnExactFormatChargeSpec)) fnExactFormatChargeUptoCard

/-- THE SECOND FORM's CARD OF 'laws.FnExactFormatUpdate'. -/
def fnExactFormatUpdateUptoCard : Claim7 := { stood := { row := fnExactFormatUpdateUptoRow, standIns := [], harness := (true, "092247ba6eee52496c857ccc5284e047c5903aba78d9638ba384c54274b864dc"), looks := false }, kinds := [], alts := [], laidByText := true, laidKinds := [.data, .data, .data], laidTests := true, laidLooks := .later }
def FnExactFormatUpdateUptoCardSaid : Prop := Claim7.holds Tryd.pinned (.plain (OpenSpec.upto fnExactFormatUpdateSpec)) fnExactFormatUpdateUptoCard

/-- THE SECOND FORM's CARD OF 'laws.FnCharges'. -/
def fnChargesUptoCard : Claim7 := { stood := { row := fnChargesUptoRow, standIns := [], harness := (true, "092247ba6eee52496c857ccc5284e047c5903aba78d9638ba384c54274b864dc"), looks := false }, kinds := [], alts := [], laidByText := true, laidKinds := [.data, .data, .data], laidTests := true, laidLooks := .later }
def FnChargesUptoCardSaid : Prop := Claim7.holds Tryd.pinned (.plain (OpenSpec.upto fnChargesSpec)) fnChargesUptoCard

/-- THE SECOND FORM's CARD OF 'laws.FnGroups'. -/
def fnGroupsUptoCard : Claim7 := { stood := { row := fnGroupsUptoRow, standIns := [], harness := (true, "092247ba6eee52496c857ccc5284e047c5903aba78d9638ba384c54274b864dc"), looks := false }, kinds := [], alts := [], laidByText := true, laidKinds := [.data, .data, .data], laidTests := true, laidLooks := .later }
def FnGroupsUptoCardSaid : Prop := Claim7.holds Tryd.pinned (.plain (OpenSpec.upto fnGroupsSpec)) fnGroupsUptoCard
end Rows
end Go.Proofs.YtcjelfdpekbbkaaDoor
