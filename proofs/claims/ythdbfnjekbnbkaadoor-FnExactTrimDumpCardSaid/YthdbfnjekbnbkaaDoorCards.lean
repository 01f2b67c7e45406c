/-
  DERIVED. GIVEN WITH THE SEED: THE CARDS: each row of YthdbfnjekbnbkaaDoorRows.lean that lists a variable, with what it lists TIED to the program's text (the seventh form; the later family's looks); each row that meets fmt, with fmt's text TOLD by the authors' own Lean function (tested against real Go, not proved from fmt's source: count such statements apart). THE CARD IS WHAT COUNTS. Prove the row's statement (the work); the ties are given (YthdbfnjekbnbkaaDoorTie.lean); close each card by the builder's one call (the guide's Derived/Test/ToyasCard.lean, 'card_holds'). Laid BY PROGRAM, IN A SANDBOX (cutbox-door.mjs). By AI agents, Wed Nov 11 2026. No macro, syntax, notation, axiom, sorry.
-/
import Derived.Test.YthdbfnjekbnbkaaDoorRows
import GoSem.ClaimSeven
namespace Go.Proofs.YthdbfnjekbnbkaaDoor
namespace Rows

/-- THE TIED CARD OF 'laws.FnExactReadCart'. -/
def fnExactReadCartCard : Claim7 := { stood := { row := fnExactReadCartRow, standIns := [], harness := (true, "3d3b74ee543dcd08b47faa24a9390c673eef7c0cf58a07ddcba6746473e738cc"), looks := false }, kinds := [], alts := [], laidByText := true, laidKinds := [.data, .pinned], laidTests := true, laidLooks := .later }
def FnExactReadCartCardSaid : Prop := Claim7.holds Tryd.pinned (.plain (OpenSpec.ofChange fnExactReadCartSpec)) fnExactReadCartCard

/-- THE TIED CARD OF 'laws.FnExactTrimDump'. -/
def fnExactTrimDumpCard : Claim7 := { stood := { row := fnExactTrimDumpRow, standIns := [], harness := (true, "3d3b74ee543dcd08b47faa24a9390c673eef7c0cf58a07ddcba6746473e738cc"), looks := false }, kinds := [], alts := [], laidByText := true, laidKinds := [.data, .pinned], laidTests := true, laidLooks := .later }
def FnExactTrimDumpCardSaid : Prop := Claim7.holds Tryd.pinned (.plain (OpenSpec.ofChange fnExactTrimDumpSpec)) fnExactTrimDumpCard

/-- THE TIED CARD OF 'laws.FnExactValidBench'. -/
def fnExactValidBenchCard : Claim7 := { stood := { row := fnExactValidBenchRow, standIns := [], harness := (true, "3d3b74ee543dcd08b47faa24a9390c673eef7c0cf58a07ddcba6746473e738cc"), looks := false }, kinds := [], alts := [], laidByText := true, laidKinds := [.data, .pinned], laidTests := true, laidLooks := .later }
def FnExactValidBenchCardSaid : Prop := Claim7.holds Tryd.pinned (.plain (OpenSpec.ofChange fnExactValidBenchSpec)) fnExactValidBenchCard

/-- THE TIED CARD OF 'laws.FnExactBenchText'. -/
def fnExactBenchTextCard : Claim7 := { stood := { row := fnExactBenchTextRow, standIns := [], harness := (true, "3d3b74ee543dcd08b47faa24a9390c673eef7c0cf58a07ddcba6746473e738cc"), looks := false }, kinds := [], alts := [], laidByText := true, laidKinds := [.data, .data, .data, .data, .widerDeep, .widerDeep, .pinned], laidTests := true, laidLooks := .later }
def FnExactBenchTextCardSaid : Prop := Claim7.holds Tryd.pinned (.plain (OpenSpec.ofChange fnExactBenchTextSpec)) fnExactBenchTextCard

/-- THE TIED CARD OF 'laws.FnExactReportText'. -/
def fnExactReportTextCard : Claim7 := { stood := { row := fnExactReportTextRow, standIns := [], harness := (true, "3d3b74ee543dcd08b47faa24a9390c673eef7c0cf58a07ddcba6746473e738cc"), looks := false }, kinds := [], alts := [], laidByText := true, laidKinds := [.data, .data, .data], laidTests := true, laidLooks := .later }
def FnExactReportTextCardSaid : Prop := Claim7.holds Tryd.pinned (.plain (OpenSpec.ofChange fnExactReportTextSpec)) fnExactReportTextCard

/-- THE SECOND FORM's CARD OF 'laws.FnExactReadCart'. -/
def fnExactReadCartUptoCard : Claim7 := { stood := { row := fnExactReadCartUptoRow, standIns := [], harness := (true, "3d3b74ee543dcd08b47faa24a9390c673eef7c0cf58a07ddcba6746473e738cc"), looks := false }, kinds := [], alts := [], laidByText := true, laidKinds := [.data, .pinned], laidTests := true, laidLooks := .later }
def FnExactReadCartUptoCardSaid : Prop := Claim7.holds Tryd.pinned (.plain (OpenSpec.upto fnExactReadCartSpec)) fnExactReadCartUptoCard

/-- THE SECOND FORM's CARD OF 'laws.FnExactTrimDump'. -/
def fnExactTrimDumpUptoCard : Claim7 := { stood := { row := fnExactTrimDumpUptoRow, standIns := [], harness := (true, "3d3b74ee543dcd08b47faa24a9390c673eef7c0cf58a07ddcba6746473e738cc"), looks := false }, kinds := [], alts := [], laidByText := true, laidKinds := [.data, .pinned], laidTests := true, laidLooks := .later }
def FnExactTrimDumpUptoCardSaid : Prop := Claim7.holds Tryd.pinned (.plain (OpenSpec.upto fnExactTrimDumpSpec)) fnExactTrimDumpUptoCard

/-- THE SECOND FORM's CARD OF 'laws.FnExactValidBench'. -/
def fnExactValidBenchUptoCard : Claim7 := { stood := { row := fnExactValidBenchUptoRow, standIns := [], harness := (true, "3d3b74ee543dcd08b47faa24a9390c673eef7c0cf58a07ddcba6746473e738cc"), looks := false }, kinds := [], alts := [], laidByText := true, laidKinds := [.data, .pinned], laidTests := true, laidLooks := .later }
def FnExactValidBenchUptoCardSaid : Prop := Claim7.holds Tryd.pinned (.plain (OpenSpec.upto fnExactValidBenchSpec)) fnExactValidBenchUptoCard

/-- THE SECOND FORM's CARD OF 'laws.FnExactBenchText'. -/
def fnExactBenchTextUptoCard : Claim7 := { stood := { row := fnExactBenchTextUptoRow, standIns := [], harness := (true, "3d3b74ee543dcd08b47faa24a9390c673eef7c0cf58a07ddcba6746473e738cc"), looks := false }, kinds := [], alts := [], laidByText := true, laidKinds := [.data, .data, .data, .data, .widerDeep, .widerDeep, .pinned], laidTests := true, laidLooks := .later }
def FnExactBenchTextUptoCardSaid : Prop := Claim7.holds Tryd.pinned (.plain (OpenSpec.upto fnExactBenchTextSpec)) fnExactBenchTextUptoCard

/-- THE SECOND FORM's CARD OF 'laws.FnExactReportText'. -/
def fnExactReportTextUptoCard : Claim7 := { stood := { row := fnExactReportTextUptoRow, standIns := [], harness := (true, "3d3b74ee543dcd08b47faa24a9390c673eef7c0cf58a07ddcba6746473e738cc"), looks := false }, kinds := [], alts := [], laidByText := true, laidKinds := [.data, .data, .data], laidTests := true, laidLooks := .later }
def FnExactReportTextUptoCardSaid : Prop := Claim7.holds Tryd.pinned (.plain (OpenSpec.upto fnExactReportTextSpec)) fnExactReportTextUptoCard
end Rows
end Go.Proofs.YthdbfnjekbnbkaaDoor
