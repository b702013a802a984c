/-
  DERIVED. GIVEN WITH THE SEED: THE CARDS: each row of YtmoilbakmlekbaaGreatDoorRows.lean that lists a variable, with what it lists TIED to the program's text (the seventh form; the later family's looks); each row that meets fmt, with fmt's text TOLD by the authors' own Lean function (tested against real Go, not proved from fmt's source: count such statements apart). THE CARD IS WHAT COUNTS. Prove the row's statement (the work); the ties are given (YtmoilbakmlekbaaGreatDoorTie.lean); close each card by the builder's one call (the guide's Derived/Test/ToyasCard.lean, 'card_holds'). Laid BY PROGRAM, IN A SANDBOX (cutbox-door.mjs). By AI agents, Wed Nov 11 2026. No macro, syntax, notation, axiom, sorry.
-/
import Derived.Test.YtmoilbakmlekbaaGreatDoorRows
import GoSem.ClaimSeven
namespace Go.Proofs.YtmoilbakmlekbaaGreatDoor
namespace Rows

/-- THE TIED CARD OF 'barragelaw11.AlarmInTime'. -/
def alarmInTimeCard : Claim7 := { stood := { row := alarmInTimeRow, standIns := [], harness := (true, "e0e55f247e56b714b1a0bbf149099448149fc592b9cd2cda45c232cb6a588d85"), looks := true }, kinds := [], alts := [], laidByText := true, laidKinds := [.handle], laidTests := true, laidLooks := .later }
def AlarmInTimeCardSaid : Prop := Claim7.holds Tryz.pinned (.plain (OpenSpec.ofChange alarmInTimeSpec)) alarmInTimeCard

/-- THE TIED CARD OF 'barragelaw11.AlarmChecks'. -/
def alarmChecksCard : Claim7 := { stood := { row := alarmChecksRow, standIns := [], harness := (true, "e0e55f247e56b714b1a0bbf149099448149fc592b9cd2cda45c232cb6a588d85"), looks := true }, kinds := [], alts := [], laidByText := true, laidKinds := [.handle], laidTests := true, laidLooks := .later }
def AlarmChecksCardSaid : Prop := Claim7.holds Tryz.pinned (.plain (OpenSpec.ofChange alarmChecksSpec)) alarmChecksCard

/-- THE TIED CARD OF 'barragelaw11.AlarmHall'. -/
def alarmHallCard : Claim7 := { stood := { row := alarmHallRow, standIns := [], harness := (true, "e0e55f247e56b714b1a0bbf149099448149fc592b9cd2cda45c232cb6a588d85"), looks := true }, kinds := [], alts := [], laidByText := true, laidKinds := [.handle], laidTests := true, laidLooks := .later }
def AlarmHallCardSaid : Prop := Claim7.holds Tryz.pinned (.plain (OpenSpec.ofChange alarmHallSpec)) alarmHallCard

/-- THE TIED CARD OF 'barragelaw11.AlarmMore'. -/
def alarmMoreCard : Claim7 := { stood := { row := alarmMoreRow, standIns := [], harness := (true, "e0e55f247e56b714b1a0bbf149099448149fc592b9cd2cda45c232cb6a588d85"), looks := true }, kinds := [], alts := [], laidByText := true, laidKinds := [.handle], laidTests := true, laidLooks := .later }
def AlarmMoreCardSaid : Prop := Claim7.holds Tryz.pinned (.plain (OpenSpec.ofChange alarmMoreSpec)) alarmMoreCard

/-- THE TIED CARD OF 'barragelaw11.AlarmStages'. -/
def alarmStagesCard : Claim7 := { stood := { row := alarmStagesRow, standIns := [], harness := (true, "e0e55f247e56b714b1a0bbf149099448149fc592b9cd2cda45c232cb6a588d85"), looks := true }, kinds := [], alts := [], laidByText := true, laidKinds := [.handle], laidTests := true, laidLooks := .later }
def AlarmStagesCardSaid : Prop := Claim7.holds Tryz.pinned (.plain (OpenSpec.ofChange alarmStagesSpec)) alarmStagesCard

/-- THE TIED CARD OF 'barragelaw11.AlarmZones'. -/
def alarmZonesCard : Claim7 := { stood := { row := alarmZonesRow, standIns := [], harness := (true, "e0e55f247e56b714b1a0bbf149099448149fc592b9cd2cda45c232cb6a588d85"), looks := true }, kinds := [], alts := [], laidByText := true, laidKinds := [.handle], laidTests := true, laidLooks := .later }
def AlarmZonesCardSaid : Prop := Claim7.holds Tryz.pinned (.plain (OpenSpec.ofChange alarmZonesSpec)) alarmZonesCard

/-- THE TIED CARD OF 'barragelaw11.AlarmLogs'. -/
def alarmLogsCard : Claim7 := { stood := { row := alarmLogsRow, standIns := [], harness := (true, "e0e55f247e56b714b1a0bbf149099448149fc592b9cd2cda45c232cb6a588d85"), looks := true }, kinds := [], alts := [], laidByText := true, laidKinds := [.handle], laidTests := true, laidLooks := .later }
def AlarmLogsCardSaid : Prop := Claim7.holds Tryz.pinned (.plain (OpenSpec.ofChange alarmLogsSpec)) alarmLogsCard

/-- THE TIED CARD OF 'barragelaw11.AlarmRest'. -/
def alarmRestCard : Claim7 := { stood := { row := alarmRestRow, standIns := [], harness := (true, "e0e55f247e56b714b1a0bbf149099448149fc592b9cd2cda45c232cb6a588d85"), looks := true }, kinds := [], alts := [], laidByText := true, laidKinds := [.handle], laidTests := true, laidLooks := .later }
def AlarmRestCardSaid : Prop := Claim7.holds Tryz.pinned (.plain (OpenSpec.ofChange alarmRestSpec)) alarmRestCard

/-- THE TIED CARD OF 'barragelaw11.AlarmOrders'. -/
def alarmOrdersCard : Claim7 := { stood := { row := alarmOrdersRow, standIns := [], harness := (true, "e0e55f247e56b714b1a0bbf149099448149fc592b9cd2cda45c232cb6a588d85"), looks := true }, kinds := [], alts := [], laidByText := true, laidKinds := [.handle], laidTests := true, laidLooks := .later }
def AlarmOrdersCardSaid : Prop := Claim7.holds Tryz.pinned (.plain (OpenSpec.ofChange alarmOrdersSpec)) alarmOrdersCard

/-- THE TIED CARD OF 'barragelaw11.AlarmParts'. -/
def alarmPartsCard : Claim7 := { stood := { row := alarmPartsRow, standIns := [], harness := (true, "e0e55f247e56b714b1a0bbf149099448149fc592b9cd2cda45c232cb6a588d85"), looks := true }, kinds := [], alts := [], laidByText := true, laidKinds := [.handle], laidTests := true, laidLooks := .later }
def AlarmPartsCardSaid : Prop := Claim7.holds Tryz.pinned (.plain (OpenSpec.ofChange alarmPartsSpec)) alarmPartsCard

/-- THE TIED CARD OF 'barragelaw11.AlarmPlans'. -/
def alarmPlansCard : Claim7 := { stood := { row := alarmPlansRow, standIns := [], harness := (true, "e0e55f247e56b714b1a0bbf149099448149fc592b9cd2cda45c232cb6a588d85"), looks := true }, kinds := [], alts := [], laidByText := true, laidKinds := [.handle], laidTests := true, laidLooks := .later }
def AlarmPlansCardSaid : Prop := Claim7.holds Tryz.pinned (.plain (OpenSpec.ofChange alarmPlansSpec)) alarmPlansCard

/-- THE TIED CARD OF 'barragelaw11.AlarmBlocked'. -/
def alarmBlockedCard : Claim7 := { stood := { row := alarmBlockedRow, standIns := [], harness := (true, "e0e55f247e56b714b1a0bbf149099448149fc592b9cd2cda45c232cb6a588d85"), looks := true }, kinds := [], alts := [], laidByText := true, laidKinds := [.handle], laidTests := true, laidLooks := .later }
def AlarmBlockedCardSaid : Prop := Claim7.holds Tryz.pinned (.plain (OpenSpec.ofChange alarmBlockedSpec)) alarmBlockedCard

/-- THE TIED CARD OF 'barragelaw11.AlarmKnown'. -/
def alarmKnownCard : Claim7 := { stood := { row := alarmKnownRow, standIns := [], harness := (true, "e0e55f247e56b714b1a0bbf149099448149fc592b9cd2cda45c232cb6a588d85"), looks := true }, kinds := [], alts := [], laidByText := true, laidKinds := [.handle], laidTests := true, laidLooks := .later }
def AlarmKnownCardSaid : Prop := Claim7.holds Tryz.pinned (.plain (OpenSpec.ofChange alarmKnownSpec)) alarmKnownCard

/-- THE TIED CARD OF 'barragelaw11.AlarmFrom'. -/
def alarmFromCard : Claim7 := { stood := { row := alarmFromRow, standIns := [], harness := (true, "e0e55f247e56b714b1a0bbf149099448149fc592b9cd2cda45c232cb6a588d85"), looks := true }, kinds := [], alts := [], laidByText := true, laidKinds := [.handle], laidTests := true, laidLooks := .later }
def AlarmFromCardSaid : Prop := Claim7.holds Tryz.pinned (.plain (OpenSpec.ofChange alarmFromSpec)) alarmFromCard

/-- THE TIED CARD OF 'barragelaw11.AlarmFloods'. -/
def alarmFloodsCard : Claim7 := { stood := { row := alarmFloodsRow, standIns := [], harness := (true, "e0e55f247e56b714b1a0bbf149099448149fc592b9cd2cda45c232cb6a588d85"), looks := true }, kinds := [], alts := [], laidByText := true, laidKinds := [.handle], laidTests := true, laidLooks := .later }
def AlarmFloodsCardSaid : Prop := Claim7.holds Tryz.pinned (.plain (OpenSpec.ofChange alarmFloodsSpec)) alarmFloodsCard

/-- THE SECOND FORM's CARD OF 'barragelaw11.AlarmInTime'. -/
def alarmInTimeUptoCard : Claim7 := { stood := { row := alarmInTimeUptoRow, standIns := [], harness := (true, "e0e55f247e56b714b1a0bbf149099448149fc592b9cd2cda45c232cb6a588d85"), looks := true }, kinds := [], alts := [], laidByText := true, laidKinds := [.handle], laidTests := true, laidLooks := .later }
def AlarmInTimeUptoCardSaid : Prop := Claim7.holds Tryz.pinned (.plain (OpenSpec.upto alarmInTimeSpec)) alarmInTimeUptoCard

/-- THE SECOND FORM's CARD OF 'barragelaw11.AlarmChecks'. -/
def alarmChecksUptoCard : Claim7 := { stood := { row := alarmChecksUptoRow, standIns := [], harness := (true, "e0e55f247e56b714b1a0bbf149099448149fc592b9cd2cda45c232cb6a588d85"), looks := true }, kinds := [], alts := [], laidByText := true, laidKinds := [.handle], laidTests := true, laidLooks := .later }
def AlarmChecksUptoCardSaid : Prop := Claim7.holds Tryz.pinned (.plain (OpenSpec.upto alarmChecksSpec)) alarmChecksUptoCard

/-- THE SECOND FORM's CARD OF 'barragelaw11.AlarmHall'. -/
def alarmHallUptoCard : Claim7 := { stood := { row := alarmHallUptoRow, standIns := [], harness := (true, "e0e55f247e56b714b1a0bbf149099448149fc592b9cd2cda45c232cb6a588d85"), looks := true }, kinds := [], alts := [], laidByText := true, laidKinds := [.handle], laidTests := true, laidLooks := .later }
def AlarmHallUptoCardSaid : Prop := Claim7.holds Tryz.pinned (.plain (OpenSpec.upto alarmHallSpec)) alarmHallUptoCard

/-- THE SECOND FORM's CARD OF 'barragelaw11.AlarmMore'. -/
def alarmMoreUptoCard : Claim7 := { stood := { row := alarmMoreUptoRow, standIns := [], harness := (true, "e0e55f247e56b714b1a0bbf149099448149fc592b9cd2cda45c232cb6a588d85"), looks := true }, kinds := [], alts := [], laidByText := true, laidKinds := [.handle], laidTests := true, laidLooks := .later }
def AlarmMoreUptoCardSaid : Prop := Claim7.holds Tryz.pinned (.plain (OpenSpec.upto alarmMoreSpec)) alarmMoreUptoCard

/-- THE SECOND FORM's CARD OF 'barragelaw11.AlarmStages'. -/
def alarmStagesUptoCard : Claim7 := { stood := { row := alarmStagesUptoRow, standIns := [], harness := (true, "e0e55f247e56b714b1a0bbf149099448149fc592b9cd2cda45c232cb6a588d85"), looks := true }, kinds := [], alts := [], laidByText := true, laidKinds := [.handle], laidTests := true, laidLooks := .later }
def AlarmStagesUptoCardSaid : Prop := Claim7.holds Tryz.pinned (.plain (OpenSpec.upto alarmStagesSpec)) alarmStagesUptoCard

/-- THE SECOND FORM's CARD OF 'barragelaw11.AlarmZones'. -/
def alarmZonesUptoCard : Claim7 := { stood := { row := alarmZonesUptoRow, standIns := [], harness := (true, "e0e55f247e56b714b1a0bbf149099448149fc592b9cd2cda45c232cb6a588d85"), looks := true }, kinds := [], alts := [], laidByText := true, laidKinds := [.handle], laidTests := true, laidLooks := .later }
def AlarmZonesUptoCardSaid : Prop := Claim7.holds Tryz.pinned (.plain (OpenSpec.upto alarmZonesSpec)) alarmZonesUptoCard

/-- THE SECOND FORM's CARD OF 'barragelaw11.AlarmLogs'. -/
def alarmLogsUptoCard : Claim7 := { stood := { row := alarmLogsUptoRow, standIns := [], harness := (true, "e0e55f247e56b714b1a0bbf149099448149fc592b9cd2cda45c232cb6a588d85"), looks := true }, kinds := [], alts := [], laidByText := true, laidKinds := [.handle], laidTests := true, laidLooks := .later }
def AlarmLogsUptoCardSaid : Prop := Claim7.holds Tryz.pinned (.plain (OpenSpec.upto alarmLogsSpec)) alarmLogsUptoCard

/-- THE SECOND FORM's CARD OF 'barragelaw11.AlarmRest'. -/
def alarmRestUptoCard : Claim7 := { stood := { row := alarmRestUptoRow, standIns := [], harness := (true, "e0e55f247e56b714b1a0bbf149099448149fc592b9cd2cda45c232cb6a588d85"), looks := true }, kinds := [], alts := [], laidByText := true, laidKinds := [.handle], laidTests := true, laidLooks := .later }
def AlarmRestUptoCardSaid : Prop := Claim7.holds Tryz.pinned (.plain (OpenSpec.upto alarmRestSpec)) alarmRestUptoCard

/-- THE SECOND FORM's CARD OF 'barragelaw11.AlarmOrders'. -/
def alarmOrdersUptoCard : Claim7 := { stood := { row := alarmOrdersUptoRow, standIns := [], harness := (true, "e0e55f247e56b714b1a0bbf149099448149fc592b9cd2cda45c232cb6a588d85"), looks := true }, kinds := [], alts := [], laidByText := true, laidKinds := [.handle], laidTests := true, laidLooks := .later }
def AlarmOrdersUptoCardSaid : Prop := Claim7.holds Tryz.pinned (.plain (OpenSpec.upto alarmOrdersSpec)) alarmOrdersUptoCard

/-- THE SECOND FORM's CARD OF 'barragelaw11.AlarmParts'. -/
def alarmPartsUptoCard : Claim7 := { stood := { row := alarmPartsUptoRow, standIns := [], harness := (true, "e0e55f247e56b714b1a0bbf149099448149fc592b9cd2cda45c232cb6a588d85"), looks := true }, kinds := [], alts := [], laidByText := true, laidKinds := [.handle], laidTests := true, laidLooks := .later }
def AlarmPartsUptoCardSaid : Prop := Claim7.holds Tryz.pinned (.plain (OpenSpec.upto alarmPartsSpec)) alarmPartsUptoCard

/-- THE SECOND FORM's CARD OF 'barragelaw11.AlarmPlans'. -/
def alarmPlansUptoCard : Claim7 := { stood := { row := alarmPlansUptoRow, standIns := [], harness := (true, "e0e55f247e56b714b1a0bbf149099448149fc592b9cd2cda45c232cb6a588d85"), looks := true }, kinds := [], alts := [], laidByText := true, laidKinds := [.handle], laidTests := true, laidLooks := .later }
def AlarmPlansUptoCardSaid : Prop := Claim7.holds Tryz.pinned (.plain (OpenSpec.upto alarmPlansSpec)) alarmPlansUptoCard

/-- THE SECOND FORM's CARD OF 'barragelaw11.AlarmBlocked'. -/
def alarmBlockedUptoCard : Claim7 := { stood := { row := alarmBlockedUptoRow, standIns := [], harness := (true, "e0e55f247e56b714b1a0bbf149099448149fc592b9cd2cda45c232cb6a588d85"), looks := true }, kinds := [], alts := [], laidByText := true, laidKinds := [.handle], laidTests := true, laidLooks := .later }
def AlarmBlockedUptoCardSaid : Prop := Claim7.holds Tryz.pinned (.plain (OpenSpec.upto alarmBlockedSpec)) alarmBlockedUptoCard

/-- THE SECOND FORM's CARD OF 'barragelaw11.AlarmKnown'. -/
def alarmKnownUptoCard : Claim7 := { stood := { row := alarmKnownUptoRow, standIns := [], harness := (true, "e0e55f247e56b714b1a0bbf149099448149fc592b9cd2cda45c232cb6a588d85"), looks := true }, kinds := [], alts := [], laidByText := true, laidKinds := [.handle], laidTests := true, laidLooks := .later }
def AlarmKnownUptoCardSaid : Prop := Claim7.holds Tryz.pinned (.plain (OpenSpec.upto alarmKnownSpec)) alarmKnownUptoCard

/-- THE SECOND FORM's CARD OF 'barragelaw11.AlarmFrom'. -/
def alarmFromUptoCard : Claim7 := { stood := { row := alarmFromUptoRow, standIns := [], harness := (true, "e0e55f247e56b714b1a0bbf149099448149fc592b9cd2cda45c232cb6a588d85"), looks := true }, kinds := [], alts := [], laidByText := true, laidKinds := [.handle], laidTests := true, laidLooks := .later }
def AlarmFromUptoCardSaid : Prop := Claim7.holds Tryz.pinned (.plain (OpenSpec.upto alarmFromSpec)) alarmFromUptoCard

/-- THE SECOND FORM's CARD OF 'barragelaw11.AlarmFloods'. -/
def alarmFloodsUptoCard : Claim7 := { stood := { row := alarmFloodsUptoRow, standIns := [], harness := (true, "e0e55f247e56b714b1a0bbf149099448149fc592b9cd2cda45c232cb6a588d85"), looks := true }, kinds := [], alts := [], laidByText := true, laidKinds := [.handle], laidTests := true, laidLooks := .later }
def AlarmFloodsUptoCardSaid : Prop := Claim7.holds Tryz.pinned (.plain (OpenSpec.upto alarmFloodsSpec)) alarmFloodsUptoCard
end Rows
end Go.Proofs.YtmoilbakmlekbaaGreatDoor
