/-
  DERIVED. GIVEN WITH THE SEED: THE CARDS: each row of YtlcodlnldcidoaaDoorRows.lean that lists a variable, with what it lists TIED to the program's text (the seventh form; the later family's looks); each row that meets fmt, with fmt's text TOLD by the authors' own Lean function (tested against real Go, not proved from fmt's source: count such statements apart). THE CARD IS WHAT COUNTS. Prove the row's statement (the work); the ties are given (YtlcodlnldcidoaaDoorTie.lean); close each card by the builder's one call (the guide's Derived/Test/ToyasCard.lean, 'card_holds'). Laid BY PROGRAM, IN A SANDBOX (cutbox-door.mjs). By AI agents, Wed Nov 11 2026. No macro, syntax, notation, axiom, sorry.
-/
import Derived.Test.YtlcodlnldcidoaaDoorRows
import GoSem.ClaimSeven
namespace Go.Proofs.YtlcodlnldcidoaaDoor
namespace Rows

/-- THE TIED CARD OF 'laws.FnExactRejected'. -/
def fnExactRejectedCard : Claim7 := { stood := { row := fnExactRejectedRow, standIns := [], harness := (true, "b56cf614e796498b68a4d7846c29b992fa8621cedde53014eb7c5f3028f06b61"), looks := false }, kinds := [], alts := [], laidByText := true, laidKinds := [.data, .pinned], laidTests := true, laidLooks := .later }
def FnExactRejectedCardSaid : Prop := Claim7.holds Tryd.pinned (.plain (OpenSpec.ofChange fnExactRejectedSpec)) fnExactRejectedCard

/-- THE TIED CARD OF 'laws.FnNets'. -/
def fnNetsCard : Claim7 := { stood := { row := fnNetsRow, standIns := [], harness := (true, "b56cf614e796498b68a4d7846c29b992fa8621cedde53014eb7c5f3028f06b61"), looks := false }, kinds := [], alts := [], laidByText := true, laidKinds := [.data, .pinned], laidTests := true, laidLooks := .later }
def FnNetsCardSaid : Prop := Claim7.holds Tryd.pinned (.plain (OpenSpec.ofChange fnNetsSpec)) fnNetsCard

/-- THE TIED CARD OF 'laws.FnExactDelivered'. -/
def fnExactDeliveredCard : Claim7 := { stood := { row := fnExactDeliveredRow, standIns := [], harness := (true, "b56cf614e796498b68a4d7846c29b992fa8621cedde53014eb7c5f3028f06b61"), looks := false }, kinds := [], alts := [], laidByText := true, laidKinds := [.data, .pinned], laidTests := true, laidLooks := .later }
def FnExactDeliveredCardSaid : Prop := Claim7.holds Tryd.pinned (.plain (OpenSpec.ofChange fnExactDeliveredSpec)) fnExactDeliveredCard

/-- THE TIED CARD OF 'laws.FnExactReadRow'. -/
def fnExactReadRowCard : Claim7 := { stood := { row := fnExactReadRowRow, standIns := [], harness := (true, "b56cf614e796498b68a4d7846c29b992fa8621cedde53014eb7c5f3028f06b61"), looks := false }, kinds := [], alts := [], laidByText := true, laidKinds := [.data, .data, .data, .data, .pinned], laidTests := true, laidLooks := .later }
def FnExactReadRowCardSaid : Prop := Claim7.holds Tryd.pinned (.plain (OpenSpec.ofChange fnExactReadRowSpec)) fnExactReadRowCard

/-- THE TIED CARD OF 'laws.FnExactNetTodo'. -/
def fnExactNetTodoCard : Claim7 := { stood := { row := fnExactNetTodoRow, standIns := [], harness := (true, "b56cf614e796498b68a4d7846c29b992fa8621cedde53014eb7c5f3028f06b61"), looks := false }, kinds := [], alts := [], laidByText := true, laidKinds := [.data, .pinned], laidTests := true, laidLooks := .later }
def FnExactNetTodoCardSaid : Prop := Claim7.holds Tryd.pinned (.plain (OpenSpec.ofChange fnExactNetTodoSpec)) fnExactNetTodoCard

/-- THE TIED CARD OF 'laws.FnExactReadReport'. -/
def fnExactReadReportCard : Claim7 := { stood := { row := fnExactReadReportRow, standIns := [], harness := (true, "b56cf614e796498b68a4d7846c29b992fa8621cedde53014eb7c5f3028f06b61"), looks := false }, kinds := [], alts := [], laidByText := true, laidKinds := [.data, .data, .data, .data, .pinned], laidTests := true, laidLooks := .later }
def FnExactReadReportCardSaid : Prop := Claim7.holds Tryd.pinned (.plain (OpenSpec.ofChange fnExactReadReportSpec)) fnExactReadReportCard

/-- THE TIED CARD OF 'laws.FnLines'. -/
def fnLinesCard : Claim7 := { stood := { row := fnLinesRow, standIns := [], harness := (true, "b56cf614e796498b68a4d7846c29b992fa8621cedde53014eb7c5f3028f06b61"), looks := false }, kinds := [], alts := [], laidByText := true, laidKinds := [.data, .data, .data, .data, .pinned], laidTests := true, laidLooks := .later }
def FnLinesCardSaid : Prop := Claim7.holds Tryd.pinned (.plain (OpenSpec.ofChange fnLinesSpec)) fnLinesCard

/-- THE TIED CARD OF 'laws.FnReports'. -/
def fnReportsCard : Claim7 := { stood := { row := fnReportsRow, standIns := [], harness := (true, "b56cf614e796498b68a4d7846c29b992fa8621cedde53014eb7c5f3028f06b61"), looks := false }, kinds := [], alts := [], laidByText := true, laidKinds := [.data, .data, .data, .data, .pinned], laidTests := true, laidLooks := .later }
def FnReportsCardSaid : Prop := Claim7.holds Tryd.pinned (.plain (OpenSpec.ofChange fnReportsSpec)) fnReportsCard

/-- THE SECOND FORM's CARD OF 'laws.FnExactRejected'. -/
def fnExactRejectedUptoCard : Claim7 := { stood := { row := fnExactRejectedUptoRow, standIns := [], harness := (true, "b56cf614e796498b68a4d7846c29b992fa8621cedde53014eb7c5f3028f06b61"), looks := false }, kinds := [], alts := [], laidByText := true, laidKinds := [.data, .pinned], laidTests := true, laidLooks := .later }
def FnExactRejectedUptoCardSaid : Prop := Claim7.holds Tryd.pinned (.plain (OpenSpec.upto fnExactRejectedSpec)) fnExactRejectedUptoCard

/-- THE SECOND FORM's CARD OF 'laws.FnNets'. -/
def fnNetsUptoCard : Claim7 := { stood := { row := fnNetsUptoRow, standIns := [], harness := (true, "b56cf614e796498b68a4d7846c29b992fa8621cedde53014eb7c5f3028f06b61"), looks := false }, kinds := [], alts := [], laidByText := true, laidKinds := [.data, .pinned], laidTests := true, laidLooks := .later }
def FnNetsUptoCardSaid : Prop := Claim7.holds Tryd.pinned (.plain (OpenSpec.upto fnNetsSpec)) fnNetsUptoCard

/-- THE SECOND FORM's CARD OF 'laws.FnExactDelivered'. -/
def fnExactDeliveredUptoCard : Claim7 := { stood := { row := fnExactDeliveredUptoRow, standIns := [], harness := (true, "b56cf614e796498b68a4d7846c29b992fa8621cedde53014eb7c5f3028f06b61"), looks := false }, kinds := [], alts := [], laidByText := true, laidKinds := [.data, .pinned], laidTests := true, laidLooks := .later }
def FnExactDeliveredUptoCardSaid : Prop := Claim7.holds Tryd.pinned (.plain (OpenSpec.upto fnExactDeliveredSpec)) fnExactDeliveredUptoCard

/-- THE SECOND FORM's CARD OF 'laws.FnExactReadRow'. -/
def fnExactReadRowUptoCard : Claim7 := { stood := { row := fnExactReadRowUptoRow, standIns := [], harness := (true, "b56cf614e796498b68a4d7846c29b992fa8621cedde53014eb7c5f3028f06b61"), looks := false }, kinds := [], alts := [], laidByText := true, laidKinds := [.data, .data, .data, .data, .pinned], laidTests := true, laidLooks := .later }
def FnExactReadRowUptoCardSaid : Prop := Claim7.holds Tryd.pinned (.plain (OpenSpec.upto fnExactReadRowSpec)) fnExactReadRowUptoCard

/-- THE SECOND FORM's CARD OF 'laws.FnExactNetTodo'. -/
def fnExactNetTodoUptoCard : Claim7 := { stood := { row := fnExactNetTodoUptoRow, standIns := [], harness := (true, "b56cf614e796498b68a4d7846c29b992fa8621cedde53014eb7c5f3028f06b61"), looks := false }, kinds := [], alts := [], laidByText := true, laidKinds := [.data, .pinned], laidTests := true, laidLooks := .later }
def FnExactNetTodoUptoCardSaid : Prop := Claim7.holds Tryd.pinned (.plain (OpenSpec.upto fnExactNetTodoSpec)) fnExactNetTodoUptoCard

/-- THE SECOND FORM's CARD OF 'laws.FnExactReadReport'. -/
def fnExactReadReportUptoCard : Claim7 := { stood := { row := fnExactReadReportUptoRow, standIns := [], harness := (true, "b56cf614e796498b68a4d7846c29b992fa8621cedde53014eb7c5f3028f06b61"), looks := false }, kinds := [], alts := [], laidByText := true, laidKinds := [.data, .data, .data, .data, .pinned], laidTests := true, laidLooks := .later }
def FnExactReadReportUptoCardSaid : Prop := Claim7.holds Tryd.pinned (.plain (OpenSpec.upto fnExactReadReportSpec)) fnExactReadReportUptoCard

/-- THE SECOND FORM's CARD OF 'laws.FnLines'. -/
def fnLinesUptoCard : Claim7 := { stood := { row := fnLinesUptoRow, standIns := [], harness := (true, "b56cf614e796498b68a4d7846c29b992fa8621cedde53014eb7c5f3028f06b61"), looks := false }, kinds := [], alts := [], laidByText := true, laidKinds := [.data, .data, .data, .data, .pinned], laidTests := true, laidLooks := .later }
def FnLinesUptoCardSaid : Prop := Claim7.holds Tryd.pinned (.plain (OpenSpec.upto fnLinesSpec)) fnLinesUptoCard

/-- THE SECOND FORM's CARD OF 'laws.FnReports'. -/
def fnReportsUptoCard : Claim7 := { stood := { row := fnReportsUptoRow, standIns := [], harness := (true, "b56cf614e796498b68a4d7846c29b992fa8621cedde53014eb7c5f3028f06b61"), looks := false }, kinds := [], alts := [], laidByText := true, laidKinds := [.data, .data, .data, .data, .pinned], laidTests := true, laidLooks := .later }
def FnReportsUptoCardSaid : Prop := Claim7.holds Tryd.pinned (.plain (OpenSpec.upto fnReportsSpec)) fnReportsUptoCard
end Rows
end Go.Proofs.YtlcodlnldcidoaaDoor
