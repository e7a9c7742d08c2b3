/-
  DERIVED. GIVEN WITH THE SEED: THE CARDS: each row of YthnjmaipafmlaaaDoorRows.lean that lists a variable, with what it lists TIED to the program's text (the seventh form; the later family's looks); each row that meets fmt, with fmt's text TOLD by the authors' own Lean function (tested against real Go, not proved from fmt's source: count such statements apart). THE CARD IS WHAT COUNTS. Prove the row's statement (the work); the ties are given (YthnjmaipafmlaaaDoorTie.lean); close each card by the builder's one call (the guide's Derived/Test/ToyasCard.lean, 'card_holds'). Laid BY PROGRAM, IN A SANDBOX (cutbox-door.mjs). By AI agents, Wed Nov 11 2026. No macro, syntax, notation, axiom, sorry.
-/
import Derived.Test.YthnjmaipafmlaaaDoorRows
import GoSem.ClaimSeven
namespace Go.Proofs.YthnjmaipafmlaaaDoor
namespace Rows

/-- THE TIED CARD OF 'laws.FnExactShowRow'. -/
def fnExactShowRowCard : Claim7 := { stood := { row := fnExactShowRowRow, standIns := [], harness := (true, "640191a660115e14a5f19e7b7dcd76c63c2aef93d214e64c91a6b211e3944edd"), looks := false }, kinds := [], alts := [], laidByText := true, laidKinds := [.data, .data, .data], laidTests := true, laidLooks := .later }
def FnExactShowRowCardSaid : Prop := Claim7.holds Tryd.pinned (.plain (OpenSpec.ofChange fnExactShowRowSpec)) fnExactShowRowCard

/-- THE TIED CARD OF 'laws.FnNoise'. -/
def fnNoiseCard : Claim7 := { stood := { row := fnNoiseRow, standIns := [], harness := (true, "640191a660115e14a5f19e7b7dcd76c63c2aef93d214e64c91a6b211e3944edd"), looks := false }, kinds := [], alts := [], laidByText := true, laidKinds := [.data, .pinned], laidTests := true, laidLooks := .later }
def FnNoiseCardSaid : Prop := Claim7.holds Tryd.pinned (.plain (OpenSpec.ofChange fnNoiseSpec)) fnNoiseCard

/-- THE TIED CARD OF 'laws.FnExactShowReport'. -/
def fnExactShowReportCard : Claim7 := { stood := { row := fnExactShowReportRow, standIns := [], harness := (true, "640191a660115e14a5f19e7b7dcd76c63c2aef93d214e64c91a6b211e3944edd"), looks := false }, kinds := [], alts := [], laidByText := true, laidKinds := [.data, .data, .data], laidTests := true, laidLooks := .later }
def FnExactShowReportCardSaid : Prop := Claim7.holds Tryd.pinned (.plain (OpenSpec.ofChange fnExactShowReportSpec)) fnExactShowReportCard

/-- THE TIED CARD OF 'laws.FnExactValueIs'. -/
def fnExactValueIsCard : Claim7 := { stood := { row := fnExactValueIsRow, standIns := [], harness := (true, "640191a660115e14a5f19e7b7dcd76c63c2aef93d214e64c91a6b211e3944edd"), looks := false }, kinds := [], alts := [], laidByText := true, laidKinds := [.data, .data, .data, .data, .pinned], laidTests := true, laidLooks := .later }
def FnExactValueIsCardSaid : Prop := Claim7.holds Tryd.pinned (.plain (OpenSpec.ofChange fnExactValueIsSpec)) fnExactValueIsCard

/-- THE TIED CARD OF 'laws.FnExactParseGram'. -/
def fnExactParseGramCard : Claim7 := { stood := { row := fnExactParseGramRow, standIns := [], harness := (true, "640191a660115e14a5f19e7b7dcd76c63c2aef93d214e64c91a6b211e3944edd"), looks := false }, kinds := [], alts := [], laidByText := true, laidKinds := [.data, .pinned], laidTests := true, laidLooks := .later }
def FnExactParseGramCardSaid : Prop := Claim7.holds Tryd.pinned (.plain (OpenSpec.ofChange fnExactParseGramSpec)) fnExactParseGramCard

/-- THE TIED CARD OF 'laws.FnGrams'. -/
def fnGramsCard : Claim7 := { stood := { row := fnGramsRow, standIns := [], harness := (true, "640191a660115e14a5f19e7b7dcd76c63c2aef93d214e64c91a6b211e3944edd"), looks := false }, kinds := [], alts := [], laidByText := true, laidKinds := [.data, .pinned], laidTests := true, laidLooks := .later }
def FnGramsCardSaid : Prop := Claim7.holds Tryd.pinned (.plain (OpenSpec.ofChange fnGramsSpec)) fnGramsCard

/-- THE TIED CARD OF 'laws.FnValues'. -/
def fnValuesCard : Claim7 := { stood := { row := fnValuesRow, standIns := [], harness := (true, "640191a660115e14a5f19e7b7dcd76c63c2aef93d214e64c91a6b211e3944edd"), looks := false }, kinds := [], alts := [], laidByText := true, laidKinds := [.data, .data, .data, .data, .pinned], laidTests := true, laidLooks := .later }
def FnValuesCardSaid : Prop := Claim7.holds Tryd.pinned (.plain (OpenSpec.ofChange fnValuesSpec)) fnValuesCard

/-- THE TIED CARD OF 'laws.FnExactLineIs'. -/
def fnExactLineIsCard : Claim7 := { stood := { row := fnExactLineIsRow, standIns := [], harness := (true, "640191a660115e14a5f19e7b7dcd76c63c2aef93d214e64c91a6b211e3944edd"), looks := false }, kinds := [], alts := [], laidByText := true, laidKinds := [.data, .data, .data, .data, .pinned], laidTests := true, laidLooks := .later }
def FnExactLineIsCardSaid : Prop := Claim7.holds Tryd.pinned (.plain (OpenSpec.ofChange fnExactLineIsSpec)) fnExactLineIsCard

/-- THE TIED CARD OF 'laws.FnTwice'. -/
def fnTwiceCard : Claim7 := { stood := { row := fnTwiceRow, standIns := [], harness := (true, "640191a660115e14a5f19e7b7dcd76c63c2aef93d214e64c91a6b211e3944edd"), looks := false }, kinds := [], alts := [], laidByText := true, laidKinds := [.data, .pinned], laidTests := true, laidLooks := .later }
def FnTwiceCardSaid : Prop := Claim7.holds Tryd.pinned (.plain (OpenSpec.ofChange fnTwiceSpec)) fnTwiceCard

/-- THE TIED CARD OF 'laws.FnExactLost'. -/
def fnExactLostCard : Claim7 := { stood := { row := fnExactLostRow, standIns := [], harness := (true, "640191a660115e14a5f19e7b7dcd76c63c2aef93d214e64c91a6b211e3944edd"), looks := false }, kinds := [], alts := [], laidByText := true, laidKinds := [.data, .pinned], laidTests := true, laidLooks := .later }
def FnExactLostCardSaid : Prop := Claim7.holds Tryd.pinned (.plain (OpenSpec.ofChange fnExactLostSpec)) fnExactLostCard

/-- THE SECOND FORM's CARD OF 'laws.FnExactShowRow'. -/
def fnExactShowRowUptoCard : Claim7 := { stood := { row := fnExactShowRowUptoRow, standIns := [], harness := (true, "640191a660115e14a5f19e7b7dcd76c63c2aef93d214e64c91a6b211e3944edd"), looks := false }, kinds := [], alts := [], laidByText := true, laidKinds := [.data, .data, .data], laidTests := true, laidLooks := .later }
def FnExactShowRowUptoCardSaid : Prop := Claim7.holds Tryd.pinned (.plain (OpenSpec.upto fnExactShowRowSpec)) fnExactShowRowUptoCard

/-- THE SECOND FORM's CARD OF 'laws.FnNoise'. -/
def fnNoiseUptoCard : Claim7 := { stood := { row := fnNoiseUptoRow, standIns := [], harness := (true, "640191a660115e14a5f19e7b7dcd76c63c2aef93d214e64c91a6b211e3944edd"), looks := false }, kinds := [], alts := [], laidByText := true, laidKinds := [.data, .pinned], laidTests := true, laidLooks := .later }
def FnNoiseUptoCardSaid : Prop := Claim7.holds Tryd.pinned (.plain (OpenSpec.upto fnNoiseSpec)) fnNoiseUptoCard

/-- THE SECOND FORM's CARD OF 'laws.FnExactShowReport'. -/
def fnExactShowReportUptoCard : Claim7 := { stood := { row := fnExactShowReportUptoRow, standIns := [], harness := (true, "640191a660115e14a5f19e7b7dcd76c63c2aef93d214e64c91a6b211e3944edd"), looks := false }, kinds := [], alts := [], laidByText := true, laidKinds := [.data, .data, .data], laidTests := true, laidLooks := .later }
def FnExactShowReportUptoCardSaid : Prop := Claim7.holds Tryd.pinned (.plain (OpenSpec.upto fnExactShowReportSpec)) fnExactShowReportUptoCard

/-- THE SECOND FORM's CARD OF 'laws.FnExactValueIs'. -/
def fnExactValueIsUptoCard : Claim7 := { stood := { row := fnExactValueIsUptoRow, standIns := [], harness := (true, "640191a660115e14a5f19e7b7dcd76c63c2aef93d214e64c91a6b211e3944edd"), looks := false }, kinds := [], alts := [], laidByText := true, laidKinds := [.data, .data, .data, .data, .pinned], laidTests := true, laidLooks := .later }
def FnExactValueIsUptoCardSaid : Prop := Claim7.holds Tryd.pinned (.plain (OpenSpec.upto fnExactValueIsSpec)) fnExactValueIsUptoCard

/-- THE SECOND FORM's CARD OF 'laws.FnExactParseGram'. -/
def fnExactParseGramUptoCard : Claim7 := { stood := { row := fnExactParseGramUptoRow, standIns := [], harness := (true, "640191a660115e14a5f19e7b7dcd76c63c2aef93d214e64c91a6b211e3944edd"), looks := false }, kinds := [], alts := [], laidByText := true, laidKinds := [.data, .pinned], laidTests := true, laidLooks := .later }
def FnExactParseGramUptoCardSaid : Prop := Claim7.holds Tryd.pinned (.plain (OpenSpec.upto fnExactParseGramSpec)) fnExactParseGramUptoCard

/-- THE SECOND FORM's CARD OF 'laws.FnGrams'. -/
def fnGramsUptoCard : Claim7 := { stood := { row := fnGramsUptoRow, standIns := [], harness := (true, "640191a660115e14a5f19e7b7dcd76c63c2aef93d214e64c91a6b211e3944edd"), looks := false }, kinds := [], alts := [], laidByText := true, laidKinds := [.data, .pinned], laidTests := true, laidLooks := .later }
def FnGramsUptoCardSaid : Prop := Claim7.holds Tryd.pinned (.plain (OpenSpec.upto fnGramsSpec)) fnGramsUptoCard

/-- THE SECOND FORM's CARD OF 'laws.FnValues'. -/
def fnValuesUptoCard : Claim7 := { stood := { row := fnValuesUptoRow, standIns := [], harness := (true, "640191a660115e14a5f19e7b7dcd76c63c2aef93d214e64c91a6b211e3944edd"), looks := false }, kinds := [], alts := [], laidByText := true, laidKinds := [.data, .data, .data, .data, .pinned], laidTests := true, laidLooks := .later }
def FnValuesUptoCardSaid : Prop := Claim7.holds Tryd.pinned (.plain (OpenSpec.upto fnValuesSpec)) fnValuesUptoCard

/-- THE SECOND FORM's CARD OF 'laws.FnExactLineIs'. -/
def fnExactLineIsUptoCard : Claim7 := { stood := { row := fnExactLineIsUptoRow, standIns := [], harness := (true, "640191a660115e14a5f19e7b7dcd76c63c2aef93d214e64c91a6b211e3944edd"), looks := false }, kinds := [], alts := [], laidByText := true, laidKinds := [.data, .data, .data, .data, .pinned], laidTests := true, laidLooks := .later }
def FnExactLineIsUptoCardSaid : Prop := Claim7.holds Tryd.pinned (.plain (OpenSpec.upto fnExactLineIsSpec)) fnExactLineIsUptoCard

/-- THE SECOND FORM's CARD OF 'laws.FnTwice'. -/
def fnTwiceUptoCard : Claim7 := { stood := { row := fnTwiceUptoRow, standIns := [], harness := (true, "640191a660115e14a5f19e7b7dcd76c63c2aef93d214e64c91a6b211e3944edd"), looks := false }, kinds := [], alts := [], laidByText := true, laidKinds := [.data, .pinned], laidTests := true, laidLooks := .later }
def FnTwiceUptoCardSaid : Prop := Claim7.holds Tryd.pinned (.plain (OpenSpec.upto fnTwiceSpec)) fnTwiceUptoCard

/-- THE SECOND FORM's CARD OF 'laws.FnExactLost'. -/
def fnExactLostUptoCard : Claim7 := { stood := { row := fnExactLostUptoRow, standIns := [], harness := (true, "640191a660115e14a5f19e7b7dcd76c63c2aef93d214e64c91a6b211e3944edd"), looks := false }, kinds := [], alts := [], laidByText := true, laidKinds := [.data, .pinned], laidTests := true, laidLooks := .later }
def FnExactLostUptoCardSaid : Prop := Claim7.holds Tryd.pinned (.plain (OpenSpec.upto fnExactLostSpec)) fnExactLostUptoCard
end Rows
end Go.Proofs.YthnjmaipafmlaaaDoor
