/-
  NARROWER THAN 'FOR EVERY INPUT', by the rows' own cells (each row's printed sentence says how): AlarmInTime: laid · AlarmChecks: laid · AlarmHall: laid · AlarmMore: laid · AlarmStages: laid · AlarmZones: laid · AlarmLogs: laid · AlarmRest: laid · AlarmOrders: laid · AlarmParts: laid · AlarmPlans: laid · AlarmBlocked: laid · AlarmKnown: laid · AlarmFrom: laid · AlarmFloods: laid.
  DERIVED. THE GIVEN ROWS OF THIS SEAT. 15 by the template 'for every input the law returns true; each argument reads behind the call as it read before'; 0 by the template 'total and deterministic' (their statements: YtmoilbakmlekbaaGreatDoorTotals.lean).
  GIVEN WITH THE SEED: the statements are not yours to turn. If you find one false, say at which input.
  Laid BY PROGRAM, IN A SANDBOX (cutbox-rows.mjs): the forced cells as the released guide's own fill.sh prints them over the translation 827885ad1eafb492… (all of the seat's roots in one cut). By AI agents, Wed Nov 11 2026. No macro, syntax, notation, axiom, sorry.
-/
import Derived.Test.YtmoilbakmlekbaaGreatDoorChecked
import GoSem.Claim
import GoSem.ClaimJoined
import GoSem.ClaimMapViews
import Derived.JoinedTies
import Derived.KernelRfl
namespace Go.Proofs.YtmoilbakmlekbaaGreatDoor
/- THE CELL 'sum', in the pinned program and in every row, IS THE sha256 OF THE DUMP (.gsa) THAT YtmoilbakmlekbaaGreatDoorProg.lean LOADS. Nothing in Lean hashes anything: it is a label: what it is worth is what the hold of that sum in a sandbox is worth. -/
noncomputable def Tryz.pinned : Pinned := { name := "ytmoilbakmlekbaagreatdoor", sum := "827885ad1eafb492656ddb27a78a68f0505c6ca417ae0164318e1cf92acfa98e", checked := Tryz.checked }
namespace Rows
def none {H : Type} : Left H := { results := [], args := [] }

/- WHAT THE LISTED PACKAGE-LEVEL VARIABLES READ AS WHEN THE CALL BEGINS. Each datum BY PROGRAM (the guide's laid-datum.mjs) off the statement by which the dump's own 'gosem.cut.vars' lays the variable. In a bare row this is a premise. The card (YtmoilbakmlekbaaGreatDoorCards.lean) ties it to the program's text. -/
def laid_errors_errorType {H : Type} : DataW H := .iface "internal/reflectlite.rtype" (.agg [.ptr (.lit (.string [101, 114, 114, 111, 114]))])

/-- 'barragelaw11.AlarmInTime': WHATEVER THE INPUT: true; the input reads as it did. -/
def alarmInTimeSpec : ChangeSpec := { name := "alarmInTime", fn := fun _ => fun
  | [d1, d2] => { results := [.lit (.bool true)], args := [d1, d2] }
  | _ => none }
def alarmInTimeRow : OpenClaim := { program := "ytmoilbakmlekbaagreatdoor", sum := "827885ad1eafb492656ddb27a78a68f0505c6ca417ae0164318e1cf92acfa98e", func := "barrage/barragelaw11.AlarmInTime", spec := "alarmInTime", inPlace := ["internal/reflectlite.ValueOf", "(internal/reflectlite.Value).Type", "(internal/reflectlite.Value).IsNil", "internal/reflectlite.TypeOf", "(internal/reflectlite.Value).Elem", "(internal/reflectlite.Value).Set"], unfollowed := true, recurses := true, named := ["errors.errorType"], plainKeys := false, apart := false, laid := [("errors.errorType", laid_errors_errorType)] }
def AlarmInTimeSaid : Prop := alarmInTimeRow.holds Tryz.pinned (OpenSpec.ofChange alarmInTimeSpec)

/-- ITS FALSE NEIGHBOUR: 'it returns false'. Refute it at one input. -/
def alarmInTimeWrong : ChangeSpec := { name := "alarmInTime", fn := fun _ => fun
  | [d1, d2] => { results := [.lit (.bool false)], args := [d1, d2] }
  | _ => none }
def AlarmInTimeWrongFalsely : Prop := alarmInTimeRow.holds Tryz.pinned (OpenSpec.ofChange alarmInTimeWrong)

/-- 'barragelaw11.AlarmChecks': WHATEVER THE INPUT: true; the input reads as it did. -/
def alarmChecksSpec : ChangeSpec := { name := "alarmChecks", fn := fun _ => fun
  | [d1, d2, d3] => { results := [.lit (.bool true)], args := [d1, d2, d3] }
  | _ => none }
def alarmChecksRow : OpenClaim := { program := "ytmoilbakmlekbaagreatdoor", sum := "827885ad1eafb492656ddb27a78a68f0505c6ca417ae0164318e1cf92acfa98e", func := "barrage/barragelaw11.AlarmChecks", spec := "alarmChecks", inPlace := ["internal/reflectlite.ValueOf", "(internal/reflectlite.Value).Type", "(internal/reflectlite.Value).IsNil", "internal/reflectlite.TypeOf", "(internal/reflectlite.Value).Elem", "(internal/reflectlite.Value).Set"], unfollowed := true, recurses := true, named := ["errors.errorType"], plainKeys := false, apart := false, laid := [("errors.errorType", laid_errors_errorType)] }
def AlarmChecksSaid : Prop := alarmChecksRow.holds Tryz.pinned (OpenSpec.ofChange alarmChecksSpec)

/-- ITS FALSE NEIGHBOUR: 'it returns false'. Refute it at one input. -/
def alarmChecksWrong : ChangeSpec := { name := "alarmChecks", fn := fun _ => fun
  | [d1, d2, d3] => { results := [.lit (.bool false)], args := [d1, d2, d3] }
  | _ => none }
def AlarmChecksWrongFalsely : Prop := alarmChecksRow.holds Tryz.pinned (OpenSpec.ofChange alarmChecksWrong)

/-- 'barragelaw11.AlarmHall': WHATEVER THE INPUT: true; the input reads as it did. -/
def alarmHallSpec : ChangeSpec := { name := "alarmHall", fn := fun _ => fun
  | [d1, d2, d3] => { results := [.lit (.bool true)], args := [d1, d2, d3] }
  | _ => none }
def alarmHallRow : OpenClaim := { program := "ytmoilbakmlekbaagreatdoor", sum := "827885ad1eafb492656ddb27a78a68f0505c6ca417ae0164318e1cf92acfa98e", func := "barrage/barragelaw11.AlarmHall", spec := "alarmHall", inPlace := ["internal/reflectlite.ValueOf", "(internal/reflectlite.Value).Type", "(internal/reflectlite.Value).IsNil", "internal/reflectlite.TypeOf", "(internal/reflectlite.Value).Elem", "(internal/reflectlite.Value).Set"], unfollowed := true, recurses := true, named := ["errors.errorType"], plainKeys := false, apart := false, laid := [("errors.errorType", laid_errors_errorType)] }
def AlarmHallSaid : Prop := alarmHallRow.holds Tryz.pinned (OpenSpec.ofChange alarmHallSpec)

/-- ITS FALSE NEIGHBOUR: 'it returns false'. Refute it at one input. -/
def alarmHallWrong : ChangeSpec := { name := "alarmHall", fn := fun _ => fun
  | [d1, d2, d3] => { results := [.lit (.bool false)], args := [d1, d2, d3] }
  | _ => none }
def AlarmHallWrongFalsely : Prop := alarmHallRow.holds Tryz.pinned (OpenSpec.ofChange alarmHallWrong)

/-- 'barragelaw11.AlarmMore': WHATEVER THE INPUT: true; the input reads as it did. -/
def alarmMoreSpec : ChangeSpec := { name := "alarmMore", fn := fun _ => fun
  | [d1, d2, d3] => { results := [.lit (.bool true)], args := [d1, d2, d3] }
  | _ => none }
def alarmMoreRow : OpenClaim := { program := "ytmoilbakmlekbaagreatdoor", sum := "827885ad1eafb492656ddb27a78a68f0505c6ca417ae0164318e1cf92acfa98e", func := "barrage/barragelaw11.AlarmMore", spec := "alarmMore", inPlace := ["internal/reflectlite.ValueOf", "(internal/reflectlite.Value).Type", "(internal/reflectlite.Value).IsNil", "internal/reflectlite.TypeOf", "(internal/reflectlite.Value).Elem", "(internal/reflectlite.Value).Set"], unfollowed := true, recurses := true, named := ["errors.errorType"], plainKeys := false, apart := false, laid := [("errors.errorType", laid_errors_errorType)] }
def AlarmMoreSaid : Prop := alarmMoreRow.holds Tryz.pinned (OpenSpec.ofChange alarmMoreSpec)

/-- ITS FALSE NEIGHBOUR: 'it returns false'. Refute it at one input. -/
def alarmMoreWrong : ChangeSpec := { name := "alarmMore", fn := fun _ => fun
  | [d1, d2, d3] => { results := [.lit (.bool false)], args := [d1, d2, d3] }
  | _ => none }
def AlarmMoreWrongFalsely : Prop := alarmMoreRow.holds Tryz.pinned (OpenSpec.ofChange alarmMoreWrong)

/-- 'barragelaw11.AlarmStages': WHATEVER THE INPUT: true; the input reads as it did. -/
def alarmStagesSpec : ChangeSpec := { name := "alarmStages", fn := fun _ => fun
  | [d1, d2, d3] => { results := [.lit (.bool true)], args := [d1, d2, d3] }
  | _ => none }
def alarmStagesRow : OpenClaim := { program := "ytmoilbakmlekbaagreatdoor", sum := "827885ad1eafb492656ddb27a78a68f0505c6ca417ae0164318e1cf92acfa98e", func := "barrage/barragelaw11.AlarmStages", spec := "alarmStages", inPlace := ["internal/reflectlite.ValueOf", "(internal/reflectlite.Value).Type", "(internal/reflectlite.Value).IsNil", "internal/reflectlite.TypeOf", "(internal/reflectlite.Value).Elem", "(internal/reflectlite.Value).Set"], unfollowed := true, recurses := true, named := ["errors.errorType"], plainKeys := false, apart := false, laid := [("errors.errorType", laid_errors_errorType)] }
def AlarmStagesSaid : Prop := alarmStagesRow.holds Tryz.pinned (OpenSpec.ofChange alarmStagesSpec)

/-- ITS FALSE NEIGHBOUR: 'it returns false'. Refute it at one input. -/
def alarmStagesWrong : ChangeSpec := { name := "alarmStages", fn := fun _ => fun
  | [d1, d2, d3] => { results := [.lit (.bool false)], args := [d1, d2, d3] }
  | _ => none }
def AlarmStagesWrongFalsely : Prop := alarmStagesRow.holds Tryz.pinned (OpenSpec.ofChange alarmStagesWrong)

/-- 'barragelaw11.AlarmZones': WHATEVER THE INPUT: true; the input reads as it did. -/
def alarmZonesSpec : ChangeSpec := { name := "alarmZones", fn := fun _ => fun
  | [d1, d2, d3] => { results := [.lit (.bool true)], args := [d1, d2, d3] }
  | _ => none }
def alarmZonesRow : OpenClaim := { program := "ytmoilbakmlekbaagreatdoor", sum := "827885ad1eafb492656ddb27a78a68f0505c6ca417ae0164318e1cf92acfa98e", func := "barrage/barragelaw11.AlarmZones", spec := "alarmZones", inPlace := ["internal/reflectlite.ValueOf", "(internal/reflectlite.Value).Type", "(internal/reflectlite.Value).IsNil", "internal/reflectlite.TypeOf", "(internal/reflectlite.Value).Elem", "(internal/reflectlite.Value).Set"], unfollowed := true, recurses := true, named := ["errors.errorType"], plainKeys := false, apart := false, laid := [("errors.errorType", laid_errors_errorType)] }
def AlarmZonesSaid : Prop := alarmZonesRow.holds Tryz.pinned (OpenSpec.ofChange alarmZonesSpec)

/-- ITS FALSE NEIGHBOUR: 'it returns false'. Refute it at one input. -/
def alarmZonesWrong : ChangeSpec := { name := "alarmZones", fn := fun _ => fun
  | [d1, d2, d3] => { results := [.lit (.bool false)], args := [d1, d2, d3] }
  | _ => none }
def AlarmZonesWrongFalsely : Prop := alarmZonesRow.holds Tryz.pinned (OpenSpec.ofChange alarmZonesWrong)

/-- 'barragelaw11.AlarmLogs': WHATEVER THE INPUT: true; the input reads as it did. -/
def alarmLogsSpec : ChangeSpec := { name := "alarmLogs", fn := fun _ => fun
  | [d1, d2, d3] => { results := [.lit (.bool true)], args := [d1, d2, d3] }
  | _ => none }
def alarmLogsRow : OpenClaim := { program := "ytmoilbakmlekbaagreatdoor", sum := "827885ad1eafb492656ddb27a78a68f0505c6ca417ae0164318e1cf92acfa98e", func := "barrage/barragelaw11.AlarmLogs", spec := "alarmLogs", inPlace := ["internal/reflectlite.ValueOf", "(internal/reflectlite.Value).Type", "(internal/reflectlite.Value).IsNil", "internal/reflectlite.TypeOf", "(internal/reflectlite.Value).Elem", "(internal/reflectlite.Value).Set"], unfollowed := true, recurses := true, named := ["errors.errorType"], plainKeys := false, apart := false, laid := [("errors.errorType", laid_errors_errorType)] }
def AlarmLogsSaid : Prop := alarmLogsRow.holds Tryz.pinned (OpenSpec.ofChange alarmLogsSpec)

/-- ITS FALSE NEIGHBOUR: 'it returns false'. Refute it at one input. -/
def alarmLogsWrong : ChangeSpec := { name := "alarmLogs", fn := fun _ => fun
  | [d1, d2, d3] => { results := [.lit (.bool false)], args := [d1, d2, d3] }
  | _ => none }
def AlarmLogsWrongFalsely : Prop := alarmLogsRow.holds Tryz.pinned (OpenSpec.ofChange alarmLogsWrong)

/-- 'barragelaw11.AlarmRest': WHATEVER THE INPUT: true; the input reads as it did. -/
def alarmRestSpec : ChangeSpec := { name := "alarmRest", fn := fun _ => fun
  | [d1, d2, d3] => { results := [.lit (.bool true)], args := [d1, d2, d3] }
  | _ => none }
def alarmRestRow : OpenClaim := { program := "ytmoilbakmlekbaagreatdoor", sum := "827885ad1eafb492656ddb27a78a68f0505c6ca417ae0164318e1cf92acfa98e", func := "barrage/barragelaw11.AlarmRest", spec := "alarmRest", inPlace := ["internal/reflectlite.ValueOf", "(internal/reflectlite.Value).Type", "(internal/reflectlite.Value).IsNil", "internal/reflectlite.TypeOf", "(internal/reflectlite.Value).Elem", "(internal/reflectlite.Value).Set"], unfollowed := true, recurses := true, named := ["errors.errorType"], plainKeys := false, apart := false, laid := [("errors.errorType", laid_errors_errorType)] }
def AlarmRestSaid : Prop := alarmRestRow.holds Tryz.pinned (OpenSpec.ofChange alarmRestSpec)

/-- ITS FALSE NEIGHBOUR: 'it returns false'. Refute it at one input. -/
def alarmRestWrong : ChangeSpec := { name := "alarmRest", fn := fun _ => fun
  | [d1, d2, d3] => { results := [.lit (.bool false)], args := [d1, d2, d3] }
  | _ => none }
def AlarmRestWrongFalsely : Prop := alarmRestRow.holds Tryz.pinned (OpenSpec.ofChange alarmRestWrong)

/-- 'barragelaw11.AlarmOrders': WHATEVER THE INPUT: true; the input reads as it did. -/
def alarmOrdersSpec : ChangeSpec := { name := "alarmOrders", fn := fun _ => fun
  | [d1, d2, d3] => { results := [.lit (.bool true)], args := [d1, d2, d3] }
  | _ => none }
def alarmOrdersRow : OpenClaim := { program := "ytmoilbakmlekbaagreatdoor", sum := "827885ad1eafb492656ddb27a78a68f0505c6ca417ae0164318e1cf92acfa98e", func := "barrage/barragelaw11.AlarmOrders", spec := "alarmOrders", inPlace := ["internal/reflectlite.ValueOf", "(internal/reflectlite.Value).Type", "(internal/reflectlite.Value).IsNil", "internal/reflectlite.TypeOf", "(internal/reflectlite.Value).Elem", "(internal/reflectlite.Value).Set"], unfollowed := true, recurses := true, named := ["errors.errorType"], plainKeys := false, apart := false, laid := [("errors.errorType", laid_errors_errorType)] }
def AlarmOrdersSaid : Prop := alarmOrdersRow.holds Tryz.pinned (OpenSpec.ofChange alarmOrdersSpec)

/-- ITS FALSE NEIGHBOUR: 'it returns false'. Refute it at one input. -/
def alarmOrdersWrong : ChangeSpec := { name := "alarmOrders", fn := fun _ => fun
  | [d1, d2, d3] => { results := [.lit (.bool false)], args := [d1, d2, d3] }
  | _ => none }
def AlarmOrdersWrongFalsely : Prop := alarmOrdersRow.holds Tryz.pinned (OpenSpec.ofChange alarmOrdersWrong)

/-- 'barragelaw11.AlarmParts': WHATEVER THE INPUT: true; the input reads as it did. -/
def alarmPartsSpec : ChangeSpec := { name := "alarmParts", fn := fun _ => fun
  | [d1, d2, d3] => { results := [.lit (.bool true)], args := [d1, d2, d3] }
  | _ => none }
def alarmPartsRow : OpenClaim := { program := "ytmoilbakmlekbaagreatdoor", sum := "827885ad1eafb492656ddb27a78a68f0505c6ca417ae0164318e1cf92acfa98e", func := "barrage/barragelaw11.AlarmParts", spec := "alarmParts", inPlace := ["internal/reflectlite.ValueOf", "(internal/reflectlite.Value).Type", "(internal/reflectlite.Value).IsNil", "internal/reflectlite.TypeOf", "(internal/reflectlite.Value).Elem", "(internal/reflectlite.Value).Set"], unfollowed := true, recurses := true, named := ["errors.errorType"], plainKeys := false, apart := false, laid := [("errors.errorType", laid_errors_errorType)] }
def AlarmPartsSaid : Prop := alarmPartsRow.holds Tryz.pinned (OpenSpec.ofChange alarmPartsSpec)

/-- ITS FALSE NEIGHBOUR: 'it returns false'. Refute it at one input. -/
def alarmPartsWrong : ChangeSpec := { name := "alarmParts", fn := fun _ => fun
  | [d1, d2, d3] => { results := [.lit (.bool false)], args := [d1, d2, d3] }
  | _ => none }
def AlarmPartsWrongFalsely : Prop := alarmPartsRow.holds Tryz.pinned (OpenSpec.ofChange alarmPartsWrong)

/-- 'barragelaw11.AlarmPlans': WHATEVER THE INPUT: true; the input reads as it did. -/
def alarmPlansSpec : ChangeSpec := { name := "alarmPlans", fn := fun _ => fun
  | [d1, d2] => { results := [.lit (.bool true)], args := [d1, d2] }
  | _ => none }
def alarmPlansRow : OpenClaim := { program := "ytmoilbakmlekbaagreatdoor", sum := "827885ad1eafb492656ddb27a78a68f0505c6ca417ae0164318e1cf92acfa98e", func := "barrage/barragelaw11.AlarmPlans", spec := "alarmPlans", inPlace := ["internal/reflectlite.ValueOf", "(internal/reflectlite.Value).Type", "(internal/reflectlite.Value).IsNil", "internal/reflectlite.TypeOf", "(internal/reflectlite.Value).Elem", "(internal/reflectlite.Value).Set"], unfollowed := true, recurses := true, named := ["errors.errorType"], plainKeys := false, apart := false, laid := [("errors.errorType", laid_errors_errorType)] }
def AlarmPlansSaid : Prop := alarmPlansRow.holds Tryz.pinned (OpenSpec.ofChange alarmPlansSpec)

/-- ITS FALSE NEIGHBOUR: 'it returns false'. Refute it at one input. -/
def alarmPlansWrong : ChangeSpec := { name := "alarmPlans", fn := fun _ => fun
  | [d1, d2] => { results := [.lit (.bool false)], args := [d1, d2] }
  | _ => none }
def AlarmPlansWrongFalsely : Prop := alarmPlansRow.holds Tryz.pinned (OpenSpec.ofChange alarmPlansWrong)

/-- 'barragelaw11.AlarmBlocked': WHATEVER THE INPUT: true; the input reads as it did. -/
def alarmBlockedSpec : ChangeSpec := { name := "alarmBlocked", fn := fun _ => fun
  | [d1, d2] => { results := [.lit (.bool true)], args := [d1, d2] }
  | _ => none }
def alarmBlockedRow : OpenClaim := { program := "ytmoilbakmlekbaagreatdoor", sum := "827885ad1eafb492656ddb27a78a68f0505c6ca417ae0164318e1cf92acfa98e", func := "barrage/barragelaw11.AlarmBlocked", spec := "alarmBlocked", inPlace := ["internal/reflectlite.ValueOf", "(internal/reflectlite.Value).Type", "(internal/reflectlite.Value).IsNil", "internal/reflectlite.TypeOf", "(internal/reflectlite.Value).Elem", "(internal/reflectlite.Value).Set"], unfollowed := true, recurses := true, named := ["errors.errorType"], plainKeys := false, apart := false, laid := [("errors.errorType", laid_errors_errorType)] }
def AlarmBlockedSaid : Prop := alarmBlockedRow.holds Tryz.pinned (OpenSpec.ofChange alarmBlockedSpec)

/-- ITS FALSE NEIGHBOUR: 'it returns false'. Refute it at one input. -/
def alarmBlockedWrong : ChangeSpec := { name := "alarmBlocked", fn := fun _ => fun
  | [d1, d2] => { results := [.lit (.bool false)], args := [d1, d2] }
  | _ => none }
def AlarmBlockedWrongFalsely : Prop := alarmBlockedRow.holds Tryz.pinned (OpenSpec.ofChange alarmBlockedWrong)

/-- 'barragelaw11.AlarmKnown': WHATEVER THE INPUT: true; the input reads as it did. -/
def alarmKnownSpec : ChangeSpec := { name := "alarmKnown", fn := fun _ => fun
  | [] => { results := [.lit (.bool true)], args := [] }
  | _ => none }
def alarmKnownRow : OpenClaim := { program := "ytmoilbakmlekbaagreatdoor", sum := "827885ad1eafb492656ddb27a78a68f0505c6ca417ae0164318e1cf92acfa98e", func := "barrage/barragelaw11.AlarmKnown", spec := "alarmKnown", inPlace := ["internal/reflectlite.ValueOf", "(internal/reflectlite.Value).Type", "(internal/reflectlite.Value).IsNil", "internal/reflectlite.TypeOf", "(internal/reflectlite.Value).Elem", "(internal/reflectlite.Value).Set"], unfollowed := true, recurses := true, named := ["errors.errorType"], plainKeys := false, apart := false, laid := [("errors.errorType", laid_errors_errorType)] }
def AlarmKnownSaid : Prop := alarmKnownRow.holds Tryz.pinned (OpenSpec.ofChange alarmKnownSpec)

/-- ITS FALSE NEIGHBOUR: 'it returns false'. Refute it at one input. -/
def alarmKnownWrong : ChangeSpec := { name := "alarmKnown", fn := fun _ => fun
  | [] => { results := [.lit (.bool false)], args := [] }
  | _ => none }
def AlarmKnownWrongFalsely : Prop := alarmKnownRow.holds Tryz.pinned (OpenSpec.ofChange alarmKnownWrong)

/-- 'barragelaw11.AlarmFrom': WHATEVER THE INPUT: true; the input reads as it did. -/
def alarmFromSpec : ChangeSpec := { name := "alarmFrom", fn := fun _ => fun
  | [d] => { results := [.lit (.bool true)], args := [d] }
  | _ => none }
def alarmFromRow : OpenClaim := { program := "ytmoilbakmlekbaagreatdoor", sum := "827885ad1eafb492656ddb27a78a68f0505c6ca417ae0164318e1cf92acfa98e", func := "barrage/barragelaw11.AlarmFrom", spec := "alarmFrom", inPlace := ["internal/reflectlite.ValueOf", "(internal/reflectlite.Value).Type", "(internal/reflectlite.Value).IsNil", "internal/reflectlite.TypeOf", "(internal/reflectlite.Value).Elem", "(internal/reflectlite.Value).Set"], unfollowed := true, recurses := true, named := ["errors.errorType"], plainKeys := false, apart := false, laid := [("errors.errorType", laid_errors_errorType)] }
def AlarmFromSaid : Prop := alarmFromRow.holds Tryz.pinned (OpenSpec.ofChange alarmFromSpec)

/-- ITS FALSE NEIGHBOUR: 'it returns false'. Refute it at one input. -/
def alarmFromWrong : ChangeSpec := { name := "alarmFrom", fn := fun _ => fun
  | [d] => { results := [.lit (.bool false)], args := [d] }
  | _ => none }
def AlarmFromWrongFalsely : Prop := alarmFromRow.holds Tryz.pinned (OpenSpec.ofChange alarmFromWrong)

/-- 'barragelaw11.AlarmFloods': WHATEVER THE INPUT: true; the input reads as it did. -/
def alarmFloodsSpec : ChangeSpec := { name := "alarmFloods", fn := fun _ => fun
  | [d1, d2] => { results := [.lit (.bool true)], args := [d1, d2] }
  | _ => none }
def alarmFloodsRow : OpenClaim := { program := "ytmoilbakmlekbaagreatdoor", sum := "827885ad1eafb492656ddb27a78a68f0505c6ca417ae0164318e1cf92acfa98e", func := "barrage/barragelaw11.AlarmFloods", spec := "alarmFloods", inPlace := ["internal/reflectlite.ValueOf", "(internal/reflectlite.Value).Type", "(internal/reflectlite.Value).IsNil", "internal/reflectlite.TypeOf", "(internal/reflectlite.Value).Elem", "(internal/reflectlite.Value).Set"], unfollowed := true, recurses := true, named := ["errors.errorType"], plainKeys := false, apart := false, laid := [("errors.errorType", laid_errors_errorType)] }
def AlarmFloodsSaid : Prop := alarmFloodsRow.holds Tryz.pinned (OpenSpec.ofChange alarmFloodsSpec)

/-- ITS FALSE NEIGHBOUR: 'it returns false'. Refute it at one input. -/
def alarmFloodsWrong : ChangeSpec := { name := "alarmFloods", fn := fun _ => fun
  | [d1, d2] => { results := [.lit (.bool false)], args := [d1, d2] }
  | _ => none }
def AlarmFloodsWrongFalsely : Prop := alarmFloodsRow.holds Tryz.pinned (OpenSpec.ofChange alarmFloodsWrong)

/- THE SECOND FORM. 'bulk': how many values and letters a reading holds, each counted each time it is reached (what is shared counts as often as it is met; a slice's spare places count too). A statement '..UptoSaid' is the law's where the arguments, and the package variables that the reading takes, are together of bulk at most 1048576: NARROWER than '..Said'. Prove '..Said' where nothing that the law and all that it calls make is longer than what came in: it says more and counts as full. Else prove '..UptoSaid'. A law counts once. -/
mutual
def uptoBulk {H : Type} : DataW H → Nat
  | .lit (.string bytes) => bytes.length + 1
  | .lit _ => 1
  | .nil => 1
  | .ptr d => uptoBulk d + 1
  | .slice elems spare => uptoBulkAll elems + uptoBulkAll spare + 1
  | .agg parts => uptoBulkAll parts + 1
  | .iface _ d => uptoBulk d + 1
  | .map entries => uptoBulkEntries entries + 1
  | .held _ => 1
def uptoBulkAll {H : Type} : List (DataW H) → Nat
  | [] => 0
  | d :: r => uptoBulk d + uptoBulkAll r
def uptoBulkEntries {H : Type} : List (Lit × DataW H) → Nat
  | [] => 0
  | x :: r => uptoBulkEntry x + uptoBulkEntries r
def uptoBulkEntry {H : Type} : Lit × DataW H → Nat
  | (.string bytes, d) => bytes.length + uptoBulk d + 1
  | (_, d) => uptoBulk d + 1
 end
def uptoSmall : (H : Type) → List (DataW H) → Bool := fun _ ds => decide (uptoBulkAll ds ≤ 1048576)
def OpenSpec.upto (s : _root_.Go.ChangeSpec) : _root_.Go.OpenSpec := { _root_.Go.OpenSpec.ofChange s with cond := some uptoSmall }

/-- 'barragelaw11.AlarmInTime', WHERE WHAT IT READS IS OF BULK AT MOST 1048576: true; the input reads as it did. -/
def alarmInTimeUptoRow : OpenClaim := { program := "ytmoilbakmlekbaagreatdoor", sum := "827885ad1eafb492656ddb27a78a68f0505c6ca417ae0164318e1cf92acfa98e", func := "barrage/barragelaw11.AlarmInTime", spec := "alarmInTime", inPlace := ["internal/reflectlite.ValueOf", "(internal/reflectlite.Value).Type", "(internal/reflectlite.Value).IsNil", "internal/reflectlite.TypeOf", "(internal/reflectlite.Value).Elem", "(internal/reflectlite.Value).Set"], unfollowed := true, recurses := true, named := ["errors.errorType"], plainKeys := false, apart := false, laid := [("errors.errorType", laid_errors_errorType)], narrowed := true }
def AlarmInTimeUptoSaid : Prop := alarmInTimeUptoRow.holds Tryz.pinned (OpenSpec.upto alarmInTimeSpec)

/-- 'barragelaw11.AlarmChecks', WHERE WHAT IT READS IS OF BULK AT MOST 1048576: true; the input reads as it did. -/
def alarmChecksUptoRow : OpenClaim := { program := "ytmoilbakmlekbaagreatdoor", sum := "827885ad1eafb492656ddb27a78a68f0505c6ca417ae0164318e1cf92acfa98e", func := "barrage/barragelaw11.AlarmChecks", spec := "alarmChecks", inPlace := ["internal/reflectlite.ValueOf", "(internal/reflectlite.Value).Type", "(internal/reflectlite.Value).IsNil", "internal/reflectlite.TypeOf", "(internal/reflectlite.Value).Elem", "(internal/reflectlite.Value).Set"], unfollowed := true, recurses := true, named := ["errors.errorType"], plainKeys := false, apart := false, laid := [("errors.errorType", laid_errors_errorType)], narrowed := true }
def AlarmChecksUptoSaid : Prop := alarmChecksUptoRow.holds Tryz.pinned (OpenSpec.upto alarmChecksSpec)

/-- 'barragelaw11.AlarmHall', WHERE WHAT IT READS IS OF BULK AT MOST 1048576: true; the input reads as it did. -/
def alarmHallUptoRow : OpenClaim := { program := "ytmoilbakmlekbaagreatdoor", sum := "827885ad1eafb492656ddb27a78a68f0505c6ca417ae0164318e1cf92acfa98e", func := "barrage/barragelaw11.AlarmHall", spec := "alarmHall", inPlace := ["internal/reflectlite.ValueOf", "(internal/reflectlite.Value).Type", "(internal/reflectlite.Value).IsNil", "internal/reflectlite.TypeOf", "(internal/reflectlite.Value).Elem", "(internal/reflectlite.Value).Set"], unfollowed := true, recurses := true, named := ["errors.errorType"], plainKeys := false, apart := false, laid := [("errors.errorType", laid_errors_errorType)], narrowed := true }
def AlarmHallUptoSaid : Prop := alarmHallUptoRow.holds Tryz.pinned (OpenSpec.upto alarmHallSpec)

/-- 'barragelaw11.AlarmMore', WHERE WHAT IT READS IS OF BULK AT MOST 1048576: true; the input reads as it did. -/
def alarmMoreUptoRow : OpenClaim := { program := "ytmoilbakmlekbaagreatdoor", sum := "827885ad1eafb492656ddb27a78a68f0505c6ca417ae0164318e1cf92acfa98e", func := "barrage/barragelaw11.AlarmMore", spec := "alarmMore", inPlace := ["internal/reflectlite.ValueOf", "(internal/reflectlite.Value).Type", "(internal/reflectlite.Value).IsNil", "internal/reflectlite.TypeOf", "(internal/reflectlite.Value).Elem", "(internal/reflectlite.Value).Set"], unfollowed := true, recurses := true, named := ["errors.errorType"], plainKeys := false, apart := false, laid := [("errors.errorType", laid_errors_errorType)], narrowed := true }
def AlarmMoreUptoSaid : Prop := alarmMoreUptoRow.holds Tryz.pinned (OpenSpec.upto alarmMoreSpec)

/-- 'barragelaw11.AlarmStages', WHERE WHAT IT READS IS OF BULK AT MOST 1048576: true; the input reads as it did. -/
def alarmStagesUptoRow : OpenClaim := { program := "ytmoilbakmlekbaagreatdoor", sum := "827885ad1eafb492656ddb27a78a68f0505c6ca417ae0164318e1cf92acfa98e", func := "barrage/barragelaw11.AlarmStages", spec := "alarmStages", inPlace := ["internal/reflectlite.ValueOf", "(internal/reflectlite.Value).Type", "(internal/reflectlite.Value).IsNil", "internal/reflectlite.TypeOf", "(internal/reflectlite.Value).Elem", "(internal/reflectlite.Value).Set"], unfollowed := true, recurses := true, named := ["errors.errorType"], plainKeys := false, apart := false, laid := [("errors.errorType", laid_errors_errorType)], narrowed := true }
def AlarmStagesUptoSaid : Prop := alarmStagesUptoRow.holds Tryz.pinned (OpenSpec.upto alarmStagesSpec)

/-- 'barragelaw11.AlarmZones', WHERE WHAT IT READS IS OF BULK AT MOST 1048576: true; the input reads as it did. -/
def alarmZonesUptoRow : OpenClaim := { program := "ytmoilbakmlekbaagreatdoor", sum := "827885ad1eafb492656ddb27a78a68f0505c6ca417ae0164318e1cf92acfa98e", func := "barrage/barragelaw11.AlarmZones", spec := "alarmZones", inPlace := ["internal/reflectlite.ValueOf", "(internal/reflectlite.Value).Type", "(internal/reflectlite.Value).IsNil", "internal/reflectlite.TypeOf", "(internal/reflectlite.Value).Elem", "(internal/reflectlite.Value).Set"], unfollowed := true, recurses := true, named := ["errors.errorType"], plainKeys := false, apart := false, laid := [("errors.errorType", laid_errors_errorType)], narrowed := true }
def AlarmZonesUptoSaid : Prop := alarmZonesUptoRow.holds Tryz.pinned (OpenSpec.upto alarmZonesSpec)

/-- 'barragelaw11.AlarmLogs', WHERE WHAT IT READS IS OF BULK AT MOST 1048576: true; the input reads as it did. -/
def alarmLogsUptoRow : OpenClaim := { program := "ytmoilbakmlekbaagreatdoor", sum := "827885ad1eafb492656ddb27a78a68f0505c6ca417ae0164318e1cf92acfa98e", func := "barrage/barragelaw11.AlarmLogs", spec := "alarmLogs", inPlace := ["internal/reflectlite.ValueOf", "(internal/reflectlite.Value).Type", "(internal/reflectlite.Value).IsNil", "internal/reflectlite.TypeOf", "(internal/reflectlite.Value).Elem", "(internal/reflectlite.Value).Set"], unfollowed := true, recurses := true, named := ["errors.errorType"], plainKeys := false, apart := false, laid := [("errors.errorType", laid_errors_errorType)], narrowed := true }
def AlarmLogsUptoSaid : Prop := alarmLogsUptoRow.holds Tryz.pinned (OpenSpec.upto alarmLogsSpec)

/-- 'barragelaw11.AlarmRest', WHERE WHAT IT READS IS OF BULK AT MOST 1048576: true; the input reads as it did. -/
def alarmRestUptoRow : OpenClaim := { program := "ytmoilbakmlekbaagreatdoor", sum := "827885ad1eafb492656ddb27a78a68f0505c6ca417ae0164318e1cf92acfa98e", func := "barrage/barragelaw11.AlarmRest", spec := "alarmRest", inPlace := ["internal/reflectlite.ValueOf", "(internal/reflectlite.Value).Type", "(internal/reflectlite.Value).IsNil", "internal/reflectlite.TypeOf", "(internal/reflectlite.Value).Elem", "(internal/reflectlite.Value).Set"], unfollowed := true, recurses := true, named := ["errors.errorType"], plainKeys := false, apart := false, laid := [("errors.errorType", laid_errors_errorType)], narrowed := true }
def AlarmRestUptoSaid : Prop := alarmRestUptoRow.holds Tryz.pinned (OpenSpec.upto alarmRestSpec)

/-- 'barragelaw11.AlarmOrders', WHERE WHAT IT READS IS OF BULK AT MOST 1048576: true; the input reads as it did. -/
def alarmOrdersUptoRow : OpenClaim := { program := "ytmoilbakmlekbaagreatdoor", sum := "827885ad1eafb492656ddb27a78a68f0505c6ca417ae0164318e1cf92acfa98e", func := "barrage/barragelaw11.AlarmOrders", spec := "alarmOrders", inPlace := ["internal/reflectlite.ValueOf", "(internal/reflectlite.Value).Type", "(internal/reflectlite.Value).IsNil", "internal/reflectlite.TypeOf", "(internal/reflectlite.Value).Elem", "(internal/reflectlite.Value).Set"], unfollowed := true, recurses := true, named := ["errors.errorType"], plainKeys := false, apart := false, laid := [("errors.errorType", laid_errors_errorType)], narrowed := true }
def AlarmOrdersUptoSaid : Prop := alarmOrdersUptoRow.holds Tryz.pinned (OpenSpec.upto alarmOrdersSpec)

/-- 'barragelaw11.AlarmParts', WHERE WHAT IT READS IS OF BULK AT MOST 1048576: true; the input reads as it did. -/
def alarmPartsUptoRow : OpenClaim := { program := "ytmoilbakmlekbaagreatdoor", sum := "827885ad1eafb492656ddb27a78a68f0505c6ca417ae0164318e1cf92acfa98e", func := "barrage/barragelaw11.AlarmParts", spec := "alarmParts", inPlace := ["internal/reflectlite.ValueOf", "(internal/reflectlite.Value).Type", "(internal/reflectlite.Value).IsNil", "internal/reflectlite.TypeOf", "(internal/reflectlite.Value).Elem", "(internal/reflectlite.Value).Set"], unfollowed := true, recurses := true, named := ["errors.errorType"], plainKeys := false, apart := false, laid := [("errors.errorType", laid_errors_errorType)], narrowed := true }
def AlarmPartsUptoSaid : Prop := alarmPartsUptoRow.holds Tryz.pinned (OpenSpec.upto alarmPartsSpec)

/-- 'barragelaw11.AlarmPlans', WHERE WHAT IT READS IS OF BULK AT MOST 1048576: true; the input reads as it did. -/
def alarmPlansUptoRow : OpenClaim := { program := "ytmoilbakmlekbaagreatdoor", sum := "827885ad1eafb492656ddb27a78a68f0505c6ca417ae0164318e1cf92acfa98e", func := "barrage/barragelaw11.AlarmPlans", spec := "alarmPlans", inPlace := ["internal/reflectlite.ValueOf", "(internal/reflectlite.Value).Type", "(internal/reflectlite.Value).IsNil", "internal/reflectlite.TypeOf", "(internal/reflectlite.Value).Elem", "(internal/reflectlite.Value).Set"], unfollowed := true, recurses := true, named := ["errors.errorType"], plainKeys := false, apart := false, laid := [("errors.errorType", laid_errors_errorType)], narrowed := true }
def AlarmPlansUptoSaid : Prop := alarmPlansUptoRow.holds Tryz.pinned (OpenSpec.upto alarmPlansSpec)

/-- 'barragelaw11.AlarmBlocked', WHERE WHAT IT READS IS OF BULK AT MOST 1048576: true; the input reads as it did. -/
def alarmBlockedUptoRow : OpenClaim := { program := "ytmoilbakmlekbaagreatdoor", sum := "827885ad1eafb492656ddb27a78a68f0505c6ca417ae0164318e1cf92acfa98e", func := "barrage/barragelaw11.AlarmBlocked", spec := "alarmBlocked", inPlace := ["internal/reflectlite.ValueOf", "(internal/reflectlite.Value).Type", "(internal/reflectlite.Value).IsNil", "internal/reflectlite.TypeOf", "(internal/reflectlite.Value).Elem", "(internal/reflectlite.Value).Set"], unfollowed := true, recurses := true, named := ["errors.errorType"], plainKeys := false, apart := false, laid := [("errors.errorType", laid_errors_errorType)], narrowed := true }
def AlarmBlockedUptoSaid : Prop := alarmBlockedUptoRow.holds Tryz.pinned (OpenSpec.upto alarmBlockedSpec)

/-- 'barragelaw11.AlarmKnown', WHERE WHAT IT READS IS OF BULK AT MOST 1048576: true; the input reads as it did. -/
def alarmKnownUptoRow : OpenClaim := { program := "ytmoilbakmlekbaagreatdoor", sum := "827885ad1eafb492656ddb27a78a68f0505c6ca417ae0164318e1cf92acfa98e", func := "barrage/barragelaw11.AlarmKnown", spec := "alarmKnown", inPlace := ["internal/reflectlite.ValueOf", "(internal/reflectlite.Value).Type", "(internal/reflectlite.Value).IsNil", "internal/reflectlite.TypeOf", "(internal/reflectlite.Value).Elem", "(internal/reflectlite.Value).Set"], unfollowed := true, recurses := true, named := ["errors.errorType"], plainKeys := false, apart := false, laid := [("errors.errorType", laid_errors_errorType)], narrowed := true }
def AlarmKnownUptoSaid : Prop := alarmKnownUptoRow.holds Tryz.pinned (OpenSpec.upto alarmKnownSpec)

/-- 'barragelaw11.AlarmFrom', WHERE WHAT IT READS IS OF BULK AT MOST 1048576: true; the input reads as it did. -/
def alarmFromUptoRow : OpenClaim := { program := "ytmoilbakmlekbaagreatdoor", sum := "827885ad1eafb492656ddb27a78a68f0505c6ca417ae0164318e1cf92acfa98e", func := "barrage/barragelaw11.AlarmFrom", spec := "alarmFrom", inPlace := ["internal/reflectlite.ValueOf", "(internal/reflectlite.Value).Type", "(internal/reflectlite.Value).IsNil", "internal/reflectlite.TypeOf", "(internal/reflectlite.Value).Elem", "(internal/reflectlite.Value).Set"], unfollowed := true, recurses := true, named := ["errors.errorType"], plainKeys := false, apart := false, laid := [("errors.errorType", laid_errors_errorType)], narrowed := true }
def AlarmFromUptoSaid : Prop := alarmFromUptoRow.holds Tryz.pinned (OpenSpec.upto alarmFromSpec)

/-- 'barragelaw11.AlarmFloods', WHERE WHAT IT READS IS OF BULK AT MOST 1048576: true; the input reads as it did. -/
def alarmFloodsUptoRow : OpenClaim := { program := "ytmoilbakmlekbaagreatdoor", sum := "827885ad1eafb492656ddb27a78a68f0505c6ca417ae0164318e1cf92acfa98e", func := "barrage/barragelaw11.AlarmFloods", spec := "alarmFloods", inPlace := ["internal/reflectlite.ValueOf", "(internal/reflectlite.Value).Type", "(internal/reflectlite.Value).IsNil", "internal/reflectlite.TypeOf", "(internal/reflectlite.Value).Elem", "(internal/reflectlite.Value).Set"], unfollowed := true, recurses := true, named := ["errors.errorType"], plainKeys := false, apart := false, laid := [("errors.errorType", laid_errors_errorType)], narrowed := true }
def AlarmFloodsUptoSaid : Prop := alarmFloodsUptoRow.holds Tryz.pinned (OpenSpec.upto alarmFloodsSpec)

end Rows
end Go.Proofs.YtmoilbakmlekbaaGreatDoor
