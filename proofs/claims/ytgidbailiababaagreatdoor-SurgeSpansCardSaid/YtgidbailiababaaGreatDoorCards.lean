/-
  DERIVED. GIVEN WITH THE SEED: THE CARDS: each row of YtgidbailiababaaGreatDoorRows.lean that lists a variable, with what it lists TIED to the program's text (the seventh form; the later family's looks); each row that meets fmt, with fmt's text TOLD by the authors' own Lean function (tested against real Go, not proved from fmt's source: count such statements apart). THE CARD IS WHAT COUNTS. Prove the row's statement (the work); the ties are given (YtgidbailiababaaGreatDoorTie.lean); close each card by the builder's one call (the guide's Derived/Test/ToyasCard.lean, 'card_holds'). Laid BY PROGRAM, IN A SANDBOX (cutbox-door.mjs). By AI agents, Wed Nov 11 2026. No macro, syntax, notation, axiom, sorry.
-/
import Derived.Test.YtgidbailiababaaGreatDoorRows
import GoSem.ClaimSeven
namespace Go.Proofs.YtgidbailiababaaGreatDoor
namespace Rows

/-- THE TIED CARD OF 'barragelaw02.SurgeChecks'. -/
def surgeChecksCard : Claim7 := { stood := { row := surgeChecksRow, standIns := [], harness := (true, "402bf9b05149c0ebbe15e280c7be297b205d2471c7ce0d1b91062956100c75f3"), looks := false }, kinds := [], alts := [], laidByText := true, laidKinds := [.data], laidTests := true, laidLooks := .later }
def SurgeChecksCardSaid : Prop := Claim7.holds Tryz.pinned (.plain (OpenSpec.ofChange surgeChecksSpec)) surgeChecksCard

/-- THE TIED CARD OF 'barragelaw02.SurgeBoxes'. -/
def surgeBoxesCard : Claim7 := { stood := { row := surgeBoxesRow, standIns := [], harness := (true, "402bf9b05149c0ebbe15e280c7be297b205d2471c7ce0d1b91062956100c75f3"), looks := false }, kinds := [], alts := [], laidByText := true, laidKinds := [.data], laidTests := true, laidLooks := .later }
def SurgeBoxesCardSaid : Prop := Claim7.holds Tryz.pinned (.plain (OpenSpec.ofChange surgeBoxesSpec)) surgeBoxesCard

/-- THE TIED CARD OF 'barragelaw02.SurgeMore'. -/
def surgeMoreCard : Claim7 := { stood := { row := surgeMoreRow, standIns := [], harness := (true, "402bf9b05149c0ebbe15e280c7be297b205d2471c7ce0d1b91062956100c75f3"), looks := false }, kinds := [], alts := [], laidByText := true, laidKinds := [.data], laidTests := true, laidLooks := .later }
def SurgeMoreCardSaid : Prop := Claim7.holds Tryz.pinned (.plain (OpenSpec.ofChange surgeMoreSpec)) surgeMoreCard

/-- THE TIED CARD OF 'barragelaw02.SurgeUnknown'. -/
def surgeUnknownCard : Claim7 := { stood := { row := surgeUnknownRow, standIns := [], harness := (true, "402bf9b05149c0ebbe15e280c7be297b205d2471c7ce0d1b91062956100c75f3"), looks := false }, kinds := [], alts := [], laidByText := true, laidKinds := [.data], laidTests := true, laidLooks := .later }
def SurgeUnknownCardSaid : Prop := Claim7.holds Tryz.pinned (.plain (OpenSpec.ofChange surgeUnknownSpec)) surgeUnknownCard

/-- THE TIED CARD OF 'barragelaw02.SurgeLater'. -/
def surgeLaterCard : Claim7 := { stood := { row := surgeLaterRow, standIns := [], harness := (true, "402bf9b05149c0ebbe15e280c7be297b205d2471c7ce0d1b91062956100c75f3"), looks := false }, kinds := [], alts := [], laidByText := true, laidKinds := [.data], laidTests := true, laidLooks := .later }
def SurgeLaterCardSaid : Prop := Claim7.holds Tryz.pinned (.plain (OpenSpec.ofChange surgeLaterSpec)) surgeLaterCard

/-- THE TIED CARD OF 'barragelaw02.SurgeIs'. -/
def surgeIsCard : Claim7 := { stood := { row := surgeIsRow, standIns := [], harness := (true, "402bf9b05149c0ebbe15e280c7be297b205d2471c7ce0d1b91062956100c75f3"), looks := false }, kinds := [], alts := [], laidByText := true, laidKinds := [.data], laidTests := true, laidLooks := .later }
def SurgeIsCardSaid : Prop := Claim7.holds Tryz.pinned (.plain (OpenSpec.ofChange surgeIsSpec)) surgeIsCard

/-- THE TIED CARD OF 'barragelaw02.SurgeRules'. -/
def surgeRulesCard : Claim7 := { stood := { row := surgeRulesRow, standIns := [], harness := (true, "402bf9b05149c0ebbe15e280c7be297b205d2471c7ce0d1b91062956100c75f3"), looks := false }, kinds := [], alts := [], laidByText := true, laidKinds := [.data], laidTests := true, laidLooks := .later }
def SurgeRulesCardSaid : Prop := Claim7.holds Tryz.pinned (.plain (OpenSpec.ofChange surgeRulesSpec)) surgeRulesCard

/-- THE TIED CARD OF 'barragelaw02.SurgeTight'. -/
def surgeTightCard : Claim7 := { stood := { row := surgeTightRow, standIns := [], harness := (true, "402bf9b05149c0ebbe15e280c7be297b205d2471c7ce0d1b91062956100c75f3"), looks := false }, kinds := [], alts := [], laidByText := true, laidKinds := [.data], laidTests := true, laidLooks := .later }
def SurgeTightCardSaid : Prop := Claim7.holds Tryz.pinned (.plain (OpenSpec.ofChange surgeTightSpec)) surgeTightCard

/-- THE TIED CARD OF 'barragelaw02.SurgeKnows'. -/
def surgeKnowsCard : Claim7 := { stood := { row := surgeKnowsRow, standIns := [], harness := (true, "402bf9b05149c0ebbe15e280c7be297b205d2471c7ce0d1b91062956100c75f3"), looks := false }, kinds := [], alts := [], laidByText := true, laidKinds := [.data], laidTests := true, laidLooks := .later }
def SurgeKnowsCardSaid : Prop := Claim7.holds Tryz.pinned (.plain (OpenSpec.ofChange surgeKnowsSpec)) surgeKnowsCard

/-- THE TIED CARD OF 'barragelaw02.SurgeTrue'. -/
def surgeTrueCard : Claim7 := { stood := { row := surgeTrueRow, standIns := [], harness := (true, "402bf9b05149c0ebbe15e280c7be297b205d2471c7ce0d1b91062956100c75f3"), looks := false }, kinds := [], alts := [], laidByText := true, laidKinds := [.data], laidTests := true, laidLooks := .later }
def SurgeTrueCardSaid : Prop := Claim7.holds Tryz.pinned (.plain (OpenSpec.ofChange surgeTrueSpec)) surgeTrueCard

/-- THE TIED CARD OF 'barragelaw02.SurgeSpans'. -/
def surgeSpansCard : Claim7 := { stood := { row := surgeSpansRow, standIns := [], harness := (true, "402bf9b05149c0ebbe15e280c7be297b205d2471c7ce0d1b91062956100c75f3"), looks := false }, kinds := [], alts := [], laidByText := true, laidKinds := [.data], laidTests := true, laidLooks := .later }
def SurgeSpansCardSaid : Prop := Claim7.holds Tryz.pinned (.plain (OpenSpec.ofChange surgeSpansSpec)) surgeSpansCard

/-- THE TIED CARD OF 'barragelaw02.SurgeSuspects'. -/
def surgeSuspectsCard : Claim7 := { stood := { row := surgeSuspectsRow, standIns := [], harness := (true, "402bf9b05149c0ebbe15e280c7be297b205d2471c7ce0d1b91062956100c75f3"), looks := false }, kinds := [], alts := [], laidByText := true, laidKinds := [.data], laidTests := true, laidLooks := .later }
def SurgeSuspectsCardSaid : Prop := Claim7.holds Tryz.pinned (.plain (OpenSpec.ofChange surgeSuspectsSpec)) surgeSuspectsCard

/-- THE TIED CARD OF 'barragelaw02.SurgeCovers'. -/
def surgeCoversCard : Claim7 := { stood := { row := surgeCoversRow, standIns := [], harness := (true, "402bf9b05149c0ebbe15e280c7be297b205d2471c7ce0d1b91062956100c75f3"), looks := false }, kinds := [], alts := [], laidByText := true, laidKinds := [.data], laidTests := true, laidLooks := .later }
def SurgeCoversCardSaid : Prop := Claim7.holds Tryz.pinned (.plain (OpenSpec.ofChange surgeCoversSpec)) surgeCoversCard

/-- THE TIED CARD OF 'barragelaw02.SurgeKnown'. -/
def surgeKnownCard : Claim7 := { stood := { row := surgeKnownRow, standIns := [], harness := (true, "402bf9b05149c0ebbe15e280c7be297b205d2471c7ce0d1b91062956100c75f3"), looks := false }, kinds := [], alts := [], laidByText := true, laidKinds := [.data], laidTests := true, laidLooks := .later }
def SurgeKnownCardSaid : Prop := Claim7.holds Tryz.pinned (.plain (OpenSpec.ofChange surgeKnownSpec)) surgeKnownCard

/-- THE SECOND FORM's CARD OF 'barragelaw02.SurgeChecks'. -/
def surgeChecksUptoCard : Claim7 := { stood := { row := surgeChecksUptoRow, standIns := [], harness := (true, "402bf9b05149c0ebbe15e280c7be297b205d2471c7ce0d1b91062956100c75f3"), looks := false }, kinds := [], alts := [], laidByText := true, laidKinds := [.data], laidTests := true, laidLooks := .later }
def SurgeChecksUptoCardSaid : Prop := Claim7.holds Tryz.pinned (.plain (OpenSpec.upto surgeChecksSpec)) surgeChecksUptoCard

/-- THE SECOND FORM's CARD OF 'barragelaw02.SurgeBoxes'. -/
def surgeBoxesUptoCard : Claim7 := { stood := { row := surgeBoxesUptoRow, standIns := [], harness := (true, "402bf9b05149c0ebbe15e280c7be297b205d2471c7ce0d1b91062956100c75f3"), looks := false }, kinds := [], alts := [], laidByText := true, laidKinds := [.data], laidTests := true, laidLooks := .later }
def SurgeBoxesUptoCardSaid : Prop := Claim7.holds Tryz.pinned (.plain (OpenSpec.upto surgeBoxesSpec)) surgeBoxesUptoCard

/-- THE SECOND FORM's CARD OF 'barragelaw02.SurgeMore'. -/
def surgeMoreUptoCard : Claim7 := { stood := { row := surgeMoreUptoRow, standIns := [], harness := (true, "402bf9b05149c0ebbe15e280c7be297b205d2471c7ce0d1b91062956100c75f3"), looks := false }, kinds := [], alts := [], laidByText := true, laidKinds := [.data], laidTests := true, laidLooks := .later }
def SurgeMoreUptoCardSaid : Prop := Claim7.holds Tryz.pinned (.plain (OpenSpec.upto surgeMoreSpec)) surgeMoreUptoCard

/-- THE SECOND FORM's CARD OF 'barragelaw02.SurgeUnknown'. -/
def surgeUnknownUptoCard : Claim7 := { stood := { row := surgeUnknownUptoRow, standIns := [], harness := (true, "402bf9b05149c0ebbe15e280c7be297b205d2471c7ce0d1b91062956100c75f3"), looks := false }, kinds := [], alts := [], laidByText := true, laidKinds := [.data], laidTests := true, laidLooks := .later }
def SurgeUnknownUptoCardSaid : Prop := Claim7.holds Tryz.pinned (.plain (OpenSpec.upto surgeUnknownSpec)) surgeUnknownUptoCard

/-- THE SECOND FORM's CARD OF 'barragelaw02.SurgeLater'. -/
def surgeLaterUptoCard : Claim7 := { stood := { row := surgeLaterUptoRow, standIns := [], harness := (true, "402bf9b05149c0ebbe15e280c7be297b205d2471c7ce0d1b91062956100c75f3"), looks := false }, kinds := [], alts := [], laidByText := true, laidKinds := [.data], laidTests := true, laidLooks := .later }
def SurgeLaterUptoCardSaid : Prop := Claim7.holds Tryz.pinned (.plain (OpenSpec.upto surgeLaterSpec)) surgeLaterUptoCard

/-- THE SECOND FORM's CARD OF 'barragelaw02.SurgeIs'. -/
def surgeIsUptoCard : Claim7 := { stood := { row := surgeIsUptoRow, standIns := [], harness := (true, "402bf9b05149c0ebbe15e280c7be297b205d2471c7ce0d1b91062956100c75f3"), looks := false }, kinds := [], alts := [], laidByText := true, laidKinds := [.data], laidTests := true, laidLooks := .later }
def SurgeIsUptoCardSaid : Prop := Claim7.holds Tryz.pinned (.plain (OpenSpec.upto surgeIsSpec)) surgeIsUptoCard

/-- THE SECOND FORM's CARD OF 'barragelaw02.SurgeRules'. -/
def surgeRulesUptoCard : Claim7 := { stood := { row := surgeRulesUptoRow, standIns := [], harness := (true, "402bf9b05149c0ebbe15e280c7be297b205d2471c7ce0d1b91062956100c75f3"), looks := false }, kinds := [], alts := [], laidByText := true, laidKinds := [.data], laidTests := true, laidLooks := .later }
def SurgeRulesUptoCardSaid : Prop := Claim7.holds Tryz.pinned (.plain (OpenSpec.upto surgeRulesSpec)) surgeRulesUptoCard

/-- THE SECOND FORM's CARD OF 'barragelaw02.SurgeTight'. -/
def surgeTightUptoCard : Claim7 := { stood := { row := surgeTightUptoRow, standIns := [], harness := (true, "402bf9b05149c0ebbe15e280c7be297b205d2471c7ce0d1b91062956100c75f3"), looks := false }, kinds := [], alts := [], laidByText := true, laidKinds := [.data], laidTests := true, laidLooks := .later }
def SurgeTightUptoCardSaid : Prop := Claim7.holds Tryz.pinned (.plain (OpenSpec.upto surgeTightSpec)) surgeTightUptoCard

/-- THE SECOND FORM's CARD OF 'barragelaw02.SurgeKnows'. -/
def surgeKnowsUptoCard : Claim7 := { stood := { row := surgeKnowsUptoRow, standIns := [], harness := (true, "402bf9b05149c0ebbe15e280c7be297b205d2471c7ce0d1b91062956100c75f3"), looks := false }, kinds := [], alts := [], laidByText := true, laidKinds := [.data], laidTests := true, laidLooks := .later }
def SurgeKnowsUptoCardSaid : Prop := Claim7.holds Tryz.pinned (.plain (OpenSpec.upto surgeKnowsSpec)) surgeKnowsUptoCard

/-- THE SECOND FORM's CARD OF 'barragelaw02.SurgeTrue'. -/
def surgeTrueUptoCard : Claim7 := { stood := { row := surgeTrueUptoRow, standIns := [], harness := (true, "402bf9b05149c0ebbe15e280c7be297b205d2471c7ce0d1b91062956100c75f3"), looks := false }, kinds := [], alts := [], laidByText := true, laidKinds := [.data], laidTests := true, laidLooks := .later }
def SurgeTrueUptoCardSaid : Prop := Claim7.holds Tryz.pinned (.plain (OpenSpec.upto surgeTrueSpec)) surgeTrueUptoCard

/-- THE SECOND FORM's CARD OF 'barragelaw02.SurgeSpans'. -/
def surgeSpansUptoCard : Claim7 := { stood := { row := surgeSpansUptoRow, standIns := [], harness := (true, "402bf9b05149c0ebbe15e280c7be297b205d2471c7ce0d1b91062956100c75f3"), looks := false }, kinds := [], alts := [], laidByText := true, laidKinds := [.data], laidTests := true, laidLooks := .later }
def SurgeSpansUptoCardSaid : Prop := Claim7.holds Tryz.pinned (.plain (OpenSpec.upto surgeSpansSpec)) surgeSpansUptoCard

/-- THE SECOND FORM's CARD OF 'barragelaw02.SurgeSuspects'. -/
def surgeSuspectsUptoCard : Claim7 := { stood := { row := surgeSuspectsUptoRow, standIns := [], harness := (true, "402bf9b05149c0ebbe15e280c7be297b205d2471c7ce0d1b91062956100c75f3"), looks := false }, kinds := [], alts := [], laidByText := true, laidKinds := [.data], laidTests := true, laidLooks := .later }
def SurgeSuspectsUptoCardSaid : Prop := Claim7.holds Tryz.pinned (.plain (OpenSpec.upto surgeSuspectsSpec)) surgeSuspectsUptoCard

/-- THE SECOND FORM's CARD OF 'barragelaw02.SurgeCovers'. -/
def surgeCoversUptoCard : Claim7 := { stood := { row := surgeCoversUptoRow, standIns := [], harness := (true, "402bf9b05149c0ebbe15e280c7be297b205d2471c7ce0d1b91062956100c75f3"), looks := false }, kinds := [], alts := [], laidByText := true, laidKinds := [.data], laidTests := true, laidLooks := .later }
def SurgeCoversUptoCardSaid : Prop := Claim7.holds Tryz.pinned (.plain (OpenSpec.upto surgeCoversSpec)) surgeCoversUptoCard

/-- THE SECOND FORM's CARD OF 'barragelaw02.SurgeKnown'. -/
def surgeKnownUptoCard : Claim7 := { stood := { row := surgeKnownUptoRow, standIns := [], harness := (true, "402bf9b05149c0ebbe15e280c7be297b205d2471c7ce0d1b91062956100c75f3"), looks := false }, kinds := [], alts := [], laidByText := true, laidKinds := [.data], laidTests := true, laidLooks := .later }
def SurgeKnownUptoCardSaid : Prop := Claim7.holds Tryz.pinned (.plain (OpenSpec.upto surgeKnownSpec)) surgeKnownUptoCard
end Rows
end Go.Proofs.YtgidbailiababaaGreatDoor
