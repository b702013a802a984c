/-
  NARROWER THAN 'FOR EVERY INPUT', by the rows' own cells (each row's printed sentence says how): SurgeChecks: laid · SurgeBoxes: laid · SurgeMore: laid · SurgeUnknown: laid · SurgeLater: laid · SurgeIs: laid · SurgeRules: laid · SurgeTight: laid · SurgeKnows: laid · SurgeTrue: laid · SurgeSpans: laid · SurgeSuspects: laid · SurgeCovers: laid · SurgeKnown: laid.
  DERIVED. THE GIVEN ROWS OF THIS SEAT. 14 by the template 'for every input the law returns true; each argument reads behind the call as it read before'; 0 by the template 'total and deterministic' (their statements: YtgidbailiababaaGreatDoorTotals.lean).
  GIVEN WITH THE SEED: the statements are not yours to turn. If you find one false, say at which input.
  Laid BY PROGRAM, IN A SANDBOX (cutbox-rows.mjs): the forced cells as the released guide's own fill.sh prints them over the translation 5353aa6a50964e6d… (all of the seat's roots in one cut). By AI agents, Wed Nov 11 2026. No macro, syntax, notation, axiom, sorry.
-/
import Derived.Test.YtgidbailiababaaGreatDoorChecked
import GoSem.Claim
import GoSem.ClaimJoined
import GoSem.ClaimMapViews
import Derived.JoinedTies
import Derived.KernelRfl
namespace Go.Proofs.YtgidbailiababaaGreatDoor
/- THE CELL 'sum', in the pinned program and in every row, IS THE sha256 OF THE DUMP (.gsa) THAT YtgidbailiababaaGreatDoorProg.lean LOADS. Nothing in Lean hashes anything: it is a label: what it is worth is what the hold of that sum in a sandbox is worth. -/
noncomputable def Tryz.pinned : Pinned := { name := "ytgidbailiababaagreatdoor", sum := "5353aa6a50964e6dc526e160f0631c77437efdd5f34f1a297b2563b68ed5cf43", checked := Tryz.checked }
namespace Rows
def none {H : Type} : Left H := { results := [], args := [] }

/- WHAT THE LISTED PACKAGE-LEVEL VARIABLES READ AS WHEN THE CALL BEGINS. Each datum BY PROGRAM (the guide's laid-datum.mjs) off the statement by which the dump's own 'gosem.cut.vars' lays the variable. In a bare row this is a premise. The card (YtgidbailiababaaGreatDoorCards.lean) ties it to the program's text. -/
def laid_barrage_surge_level {H : Type} : DataW H := .agg [.lit (.int .i64 (-20000)), .lit (.int .i64 20000)]

/-- 'barragelaw02.SurgeChecks': WHATEVER THE INPUT: true; the input reads as it did. -/
def surgeChecksSpec : ChangeSpec := { name := "surgeChecks", fn := fun _ => fun
  | [d] => { results := [.lit (.bool true)], args := [d] }
  | _ => none }
def surgeChecksRow : OpenClaim := { program := "ytgidbailiababaagreatdoor", sum := "5353aa6a50964e6dc526e160f0631c77437efdd5f34f1a297b2563b68ed5cf43", func := "barrage/barragelaw02.SurgeChecks", spec := "surgeChecks", unfollowed := true, recurses := true, named := ["barrage/surge.level"], apart := false, laid := [("barrage/surge.level", laid_barrage_surge_level)] }
def SurgeChecksSaid : Prop := surgeChecksRow.holds Tryz.pinned (OpenSpec.ofChange surgeChecksSpec)

/-- ITS FALSE NEIGHBOUR: 'it returns false'. Refute it at one input. -/
def surgeChecksWrong : ChangeSpec := { name := "surgeChecks", fn := fun _ => fun
  | [d] => { results := [.lit (.bool false)], args := [d] }
  | _ => none }
def SurgeChecksWrongFalsely : Prop := surgeChecksRow.holds Tryz.pinned (OpenSpec.ofChange surgeChecksWrong)

/-- 'barragelaw02.SurgeBoxes': WHATEVER THE INPUT: true; the input reads as it did. -/
def surgeBoxesSpec : ChangeSpec := { name := "surgeBoxes", fn := fun _ => fun
  | [d1, d2] => { results := [.lit (.bool true)], args := [d1, d2] }
  | _ => none }
def surgeBoxesRow : OpenClaim := { program := "ytgidbailiababaagreatdoor", sum := "5353aa6a50964e6dc526e160f0631c77437efdd5f34f1a297b2563b68ed5cf43", func := "barrage/barragelaw02.SurgeBoxes", spec := "surgeBoxes", unfollowed := true, recurses := true, named := ["barrage/surge.level"], apart := false, laid := [("barrage/surge.level", laid_barrage_surge_level)] }
def SurgeBoxesSaid : Prop := surgeBoxesRow.holds Tryz.pinned (OpenSpec.ofChange surgeBoxesSpec)

/-- ITS FALSE NEIGHBOUR: 'it returns false'. Refute it at one input. -/
def surgeBoxesWrong : ChangeSpec := { name := "surgeBoxes", fn := fun _ => fun
  | [d1, d2] => { results := [.lit (.bool false)], args := [d1, d2] }
  | _ => none }
def SurgeBoxesWrongFalsely : Prop := surgeBoxesRow.holds Tryz.pinned (OpenSpec.ofChange surgeBoxesWrong)

/-- 'barragelaw02.SurgeMore': WHATEVER THE INPUT: true; the input reads as it did. -/
def surgeMoreSpec : ChangeSpec := { name := "surgeMore", fn := fun _ => fun
  | [d1, d2, d3] => { results := [.lit (.bool true)], args := [d1, d2, d3] }
  | _ => none }
def surgeMoreRow : OpenClaim := { program := "ytgidbailiababaagreatdoor", sum := "5353aa6a50964e6dc526e160f0631c77437efdd5f34f1a297b2563b68ed5cf43", func := "barrage/barragelaw02.SurgeMore", spec := "surgeMore", unfollowed := true, recurses := true, named := ["barrage/surge.level"], apart := false, laid := [("barrage/surge.level", laid_barrage_surge_level)] }
def SurgeMoreSaid : Prop := surgeMoreRow.holds Tryz.pinned (OpenSpec.ofChange surgeMoreSpec)

/-- ITS FALSE NEIGHBOUR: 'it returns false'. Refute it at one input. -/
def surgeMoreWrong : ChangeSpec := { name := "surgeMore", fn := fun _ => fun
  | [d1, d2, d3] => { results := [.lit (.bool false)], args := [d1, d2, d3] }
  | _ => none }
def SurgeMoreWrongFalsely : Prop := surgeMoreRow.holds Tryz.pinned (OpenSpec.ofChange surgeMoreWrong)

/-- 'barragelaw02.SurgeUnknown': WHATEVER THE INPUT: true; the input reads as it did. -/
def surgeUnknownSpec : ChangeSpec := { name := "surgeUnknown", fn := fun _ => fun
  | [d1, d2, d3] => { results := [.lit (.bool true)], args := [d1, d2, d3] }
  | _ => none }
def surgeUnknownRow : OpenClaim := { program := "ytgidbailiababaagreatdoor", sum := "5353aa6a50964e6dc526e160f0631c77437efdd5f34f1a297b2563b68ed5cf43", func := "barrage/barragelaw02.SurgeUnknown", spec := "surgeUnknown", unfollowed := true, recurses := true, named := ["barrage/surge.level"], apart := false, laid := [("barrage/surge.level", laid_barrage_surge_level)] }
def SurgeUnknownSaid : Prop := surgeUnknownRow.holds Tryz.pinned (OpenSpec.ofChange surgeUnknownSpec)

/-- ITS FALSE NEIGHBOUR: 'it returns false'. Refute it at one input. -/
def surgeUnknownWrong : ChangeSpec := { name := "surgeUnknown", fn := fun _ => fun
  | [d1, d2, d3] => { results := [.lit (.bool false)], args := [d1, d2, d3] }
  | _ => none }
def SurgeUnknownWrongFalsely : Prop := surgeUnknownRow.holds Tryz.pinned (OpenSpec.ofChange surgeUnknownWrong)

/-- 'barragelaw02.SurgeLater': WHATEVER THE INPUT: true; the input reads as it did. -/
def surgeLaterSpec : ChangeSpec := { name := "surgeLater", fn := fun _ => fun
  | [d1, d2, d3] => { results := [.lit (.bool true)], args := [d1, d2, d3] }
  | _ => none }
def surgeLaterRow : OpenClaim := { program := "ytgidbailiababaagreatdoor", sum := "5353aa6a50964e6dc526e160f0631c77437efdd5f34f1a297b2563b68ed5cf43", func := "barrage/barragelaw02.SurgeLater", spec := "surgeLater", unfollowed := true, recurses := true, named := ["barrage/surge.level"], apart := false, laid := [("barrage/surge.level", laid_barrage_surge_level)] }
def SurgeLaterSaid : Prop := surgeLaterRow.holds Tryz.pinned (OpenSpec.ofChange surgeLaterSpec)

/-- ITS FALSE NEIGHBOUR: 'it returns false'. Refute it at one input. -/
def surgeLaterWrong : ChangeSpec := { name := "surgeLater", fn := fun _ => fun
  | [d1, d2, d3] => { results := [.lit (.bool false)], args := [d1, d2, d3] }
  | _ => none }
def SurgeLaterWrongFalsely : Prop := surgeLaterRow.holds Tryz.pinned (OpenSpec.ofChange surgeLaterWrong)

/-- 'barragelaw02.SurgeIs': WHATEVER THE INPUT: true; the input reads as it did. -/
def surgeIsSpec : ChangeSpec := { name := "surgeIs", fn := fun _ => fun
  | [d1, d2, d3] => { results := [.lit (.bool true)], args := [d1, d2, d3] }
  | _ => none }
def surgeIsRow : OpenClaim := { program := "ytgidbailiababaagreatdoor", sum := "5353aa6a50964e6dc526e160f0631c77437efdd5f34f1a297b2563b68ed5cf43", func := "barrage/barragelaw02.SurgeIs", spec := "surgeIs", unfollowed := true, recurses := true, named := ["barrage/surge.level"], apart := false, laid := [("barrage/surge.level", laid_barrage_surge_level)] }
def SurgeIsSaid : Prop := surgeIsRow.holds Tryz.pinned (OpenSpec.ofChange surgeIsSpec)

/-- ITS FALSE NEIGHBOUR: 'it returns false'. Refute it at one input. -/
def surgeIsWrong : ChangeSpec := { name := "surgeIs", fn := fun _ => fun
  | [d1, d2, d3] => { results := [.lit (.bool false)], args := [d1, d2, d3] }
  | _ => none }
def SurgeIsWrongFalsely : Prop := surgeIsRow.holds Tryz.pinned (OpenSpec.ofChange surgeIsWrong)

/-- 'barragelaw02.SurgeRules': WHATEVER THE INPUT: true; the input reads as it did. -/
def surgeRulesSpec : ChangeSpec := { name := "surgeRules", fn := fun _ => fun
  | [d1, d2, d3] => { results := [.lit (.bool true)], args := [d1, d2, d3] }
  | _ => none }
def surgeRulesRow : OpenClaim := { program := "ytgidbailiababaagreatdoor", sum := "5353aa6a50964e6dc526e160f0631c77437efdd5f34f1a297b2563b68ed5cf43", func := "barrage/barragelaw02.SurgeRules", spec := "surgeRules", unfollowed := true, recurses := true, named := ["barrage/surge.level"], apart := false, laid := [("barrage/surge.level", laid_barrage_surge_level)] }
def SurgeRulesSaid : Prop := surgeRulesRow.holds Tryz.pinned (OpenSpec.ofChange surgeRulesSpec)

/-- ITS FALSE NEIGHBOUR: 'it returns false'. Refute it at one input. -/
def surgeRulesWrong : ChangeSpec := { name := "surgeRules", fn := fun _ => fun
  | [d1, d2, d3] => { results := [.lit (.bool false)], args := [d1, d2, d3] }
  | _ => none }
def SurgeRulesWrongFalsely : Prop := surgeRulesRow.holds Tryz.pinned (OpenSpec.ofChange surgeRulesWrong)

/-- 'barragelaw02.SurgeTight': WHATEVER THE INPUT: true; the input reads as it did. -/
def surgeTightSpec : ChangeSpec := { name := "surgeTight", fn := fun _ => fun
  | [d1, d2] => { results := [.lit (.bool true)], args := [d1, d2] }
  | _ => none }
def surgeTightRow : OpenClaim := { program := "ytgidbailiababaagreatdoor", sum := "5353aa6a50964e6dc526e160f0631c77437efdd5f34f1a297b2563b68ed5cf43", func := "barrage/barragelaw02.SurgeTight", spec := "surgeTight", unfollowed := true, recurses := true, named := ["barrage/surge.level"], apart := false, laid := [("barrage/surge.level", laid_barrage_surge_level)] }
def SurgeTightSaid : Prop := surgeTightRow.holds Tryz.pinned (OpenSpec.ofChange surgeTightSpec)

/-- ITS FALSE NEIGHBOUR: 'it returns false'. Refute it at one input. -/
def surgeTightWrong : ChangeSpec := { name := "surgeTight", fn := fun _ => fun
  | [d1, d2] => { results := [.lit (.bool false)], args := [d1, d2] }
  | _ => none }
def SurgeTightWrongFalsely : Prop := surgeTightRow.holds Tryz.pinned (OpenSpec.ofChange surgeTightWrong)

/-- 'barragelaw02.SurgeKnows': WHATEVER THE INPUT: true; the input reads as it did. -/
def surgeKnowsSpec : ChangeSpec := { name := "surgeKnows", fn := fun _ => fun
  | [d1, d2, d3] => { results := [.lit (.bool true)], args := [d1, d2, d3] }
  | _ => none }
def surgeKnowsRow : OpenClaim := { program := "ytgidbailiababaagreatdoor", sum := "5353aa6a50964e6dc526e160f0631c77437efdd5f34f1a297b2563b68ed5cf43", func := "barrage/barragelaw02.SurgeKnows", spec := "surgeKnows", unfollowed := true, recurses := true, named := ["barrage/surge.level"], apart := false, laid := [("barrage/surge.level", laid_barrage_surge_level)] }
def SurgeKnowsSaid : Prop := surgeKnowsRow.holds Tryz.pinned (OpenSpec.ofChange surgeKnowsSpec)

/-- ITS FALSE NEIGHBOUR: 'it returns false'. Refute it at one input. -/
def surgeKnowsWrong : ChangeSpec := { name := "surgeKnows", fn := fun _ => fun
  | [d1, d2, d3] => { results := [.lit (.bool false)], args := [d1, d2, d3] }
  | _ => none }
def SurgeKnowsWrongFalsely : Prop := surgeKnowsRow.holds Tryz.pinned (OpenSpec.ofChange surgeKnowsWrong)

/-- 'barragelaw02.SurgeTrue': WHATEVER THE INPUT: true; the input reads as it did. -/
def surgeTrueSpec : ChangeSpec := { name := "surgeTrue", fn := fun _ => fun
  | [d1, d2] => { results := [.lit (.bool true)], args := [d1, d2] }
  | _ => none }
def surgeTrueRow : OpenClaim := { program := "ytgidbailiababaagreatdoor", sum := "5353aa6a50964e6dc526e160f0631c77437efdd5f34f1a297b2563b68ed5cf43", func := "barrage/barragelaw02.SurgeTrue", spec := "surgeTrue", unfollowed := true, recurses := true, named := ["barrage/surge.level"], apart := false, laid := [("barrage/surge.level", laid_barrage_surge_level)] }
def SurgeTrueSaid : Prop := surgeTrueRow.holds Tryz.pinned (OpenSpec.ofChange surgeTrueSpec)

/-- ITS FALSE NEIGHBOUR: 'it returns false'. Refute it at one input. -/
def surgeTrueWrong : ChangeSpec := { name := "surgeTrue", fn := fun _ => fun
  | [d1, d2] => { results := [.lit (.bool false)], args := [d1, d2] }
  | _ => none }
def SurgeTrueWrongFalsely : Prop := surgeTrueRow.holds Tryz.pinned (OpenSpec.ofChange surgeTrueWrong)

/-- 'barragelaw02.SurgeSpans': WHATEVER THE INPUT: true; the input reads as it did. -/
def surgeSpansSpec : ChangeSpec := { name := "surgeSpans", fn := fun _ => fun
  | [d1, d2] => { results := [.lit (.bool true)], args := [d1, d2] }
  | _ => none }
def surgeSpansRow : OpenClaim := { program := "ytgidbailiababaagreatdoor", sum := "5353aa6a50964e6dc526e160f0631c77437efdd5f34f1a297b2563b68ed5cf43", func := "barrage/barragelaw02.SurgeSpans", spec := "surgeSpans", unfollowed := true, recurses := true, named := ["barrage/surge.level"], apart := false, laid := [("barrage/surge.level", laid_barrage_surge_level)] }
def SurgeSpansSaid : Prop := surgeSpansRow.holds Tryz.pinned (OpenSpec.ofChange surgeSpansSpec)

/-- ITS FALSE NEIGHBOUR: 'it returns false'. Refute it at one input. -/
def surgeSpansWrong : ChangeSpec := { name := "surgeSpans", fn := fun _ => fun
  | [d1, d2] => { results := [.lit (.bool false)], args := [d1, d2] }
  | _ => none }
def SurgeSpansWrongFalsely : Prop := surgeSpansRow.holds Tryz.pinned (OpenSpec.ofChange surgeSpansWrong)

/-- 'barragelaw02.SurgeSuspects': WHATEVER THE INPUT: true; the input reads as it did. -/
def surgeSuspectsSpec : ChangeSpec := { name := "surgeSuspects", fn := fun _ => fun
  | [d1, d2, d3] => { results := [.lit (.bool true)], args := [d1, d2, d3] }
  | _ => none }
def surgeSuspectsRow : OpenClaim := { program := "ytgidbailiababaagreatdoor", sum := "5353aa6a50964e6dc526e160f0631c77437efdd5f34f1a297b2563b68ed5cf43", func := "barrage/barragelaw02.SurgeSuspects", spec := "surgeSuspects", unfollowed := true, recurses := true, named := ["barrage/surge.level"], apart := false, laid := [("barrage/surge.level", laid_barrage_surge_level)] }
def SurgeSuspectsSaid : Prop := surgeSuspectsRow.holds Tryz.pinned (OpenSpec.ofChange surgeSuspectsSpec)

/-- ITS FALSE NEIGHBOUR: 'it returns false'. Refute it at one input. -/
def surgeSuspectsWrong : ChangeSpec := { name := "surgeSuspects", fn := fun _ => fun
  | [d1, d2, d3] => { results := [.lit (.bool false)], args := [d1, d2, d3] }
  | _ => none }
def SurgeSuspectsWrongFalsely : Prop := surgeSuspectsRow.holds Tryz.pinned (OpenSpec.ofChange surgeSuspectsWrong)

/-- 'barragelaw02.SurgeCovers': WHATEVER THE INPUT: true; the input reads as it did. -/
def surgeCoversSpec : ChangeSpec := { name := "surgeCovers", fn := fun _ => fun
  | [d1, d2, d3] => { results := [.lit (.bool true)], args := [d1, d2, d3] }
  | _ => none }
def surgeCoversRow : OpenClaim := { program := "ytgidbailiababaagreatdoor", sum := "5353aa6a50964e6dc526e160f0631c77437efdd5f34f1a297b2563b68ed5cf43", func := "barrage/barragelaw02.SurgeCovers", spec := "surgeCovers", unfollowed := true, recurses := true, named := ["barrage/surge.level"], apart := false, laid := [("barrage/surge.level", laid_barrage_surge_level)] }
def SurgeCoversSaid : Prop := surgeCoversRow.holds Tryz.pinned (OpenSpec.ofChange surgeCoversSpec)

/-- ITS FALSE NEIGHBOUR: 'it returns false'. Refute it at one input. -/
def surgeCoversWrong : ChangeSpec := { name := "surgeCovers", fn := fun _ => fun
  | [d1, d2, d3] => { results := [.lit (.bool false)], args := [d1, d2, d3] }
  | _ => none }
def SurgeCoversWrongFalsely : Prop := surgeCoversRow.holds Tryz.pinned (OpenSpec.ofChange surgeCoversWrong)

/-- 'barragelaw02.SurgeKnown': WHATEVER THE INPUT: true; the input reads as it did. -/
def surgeKnownSpec : ChangeSpec := { name := "surgeKnown", fn := fun _ => fun
  | [] => { results := [.lit (.bool true)], args := [] }
  | _ => none }
def surgeKnownRow : OpenClaim := { program := "ytgidbailiababaagreatdoor", sum := "5353aa6a50964e6dc526e160f0631c77437efdd5f34f1a297b2563b68ed5cf43", func := "barrage/barragelaw02.SurgeKnown", spec := "surgeKnown", unfollowed := true, recurses := true, named := ["barrage/surge.level"], apart := false, laid := [("barrage/surge.level", laid_barrage_surge_level)] }
def SurgeKnownSaid : Prop := surgeKnownRow.holds Tryz.pinned (OpenSpec.ofChange surgeKnownSpec)

/-- ITS FALSE NEIGHBOUR: 'it returns false'. Refute it at one input. -/
def surgeKnownWrong : ChangeSpec := { name := "surgeKnown", fn := fun _ => fun
  | [] => { results := [.lit (.bool false)], args := [] }
  | _ => none }
def SurgeKnownWrongFalsely : Prop := surgeKnownRow.holds Tryz.pinned (OpenSpec.ofChange surgeKnownWrong)

/- THE SECOND FORM. 'bulk': how many values and letters a reading holds, each counted each time it is reached (what is shared counts as often as it is met; a slice's spare places count too). A statement '..UptoSaid' is the law's where the arguments, and the package variables that the reading takes, are together of bulk at most 1048576: NARROWER than '..Said'. Prove '..Said' where nothing that the law and all that it calls make is longer than what came in: it says more and counts as full. Else prove '..UptoSaid'. A law counts once. -/
mutual
def uptoBulk {H : Type} : DataW H → Nat
  | .lit (.string bytes) => bytes.length + 1
  | .lit _ => 1
  | .nil => 1
  | .ptr d => uptoBulk d + 1
  | .slice elems spare => uptoBulkAll elems + uptoBulkAll spare + 1
  | .agg parts => uptoBulkAll parts + 1
  | .iface _ d => uptoBulk d + 1
  | .map entries => uptoBulkEntries entries + 1
  | .held _ => 1
def uptoBulkAll {H : Type} : List (DataW H) → Nat
  | [] => 0
  | d :: r => uptoBulk d + uptoBulkAll r
def uptoBulkEntries {H : Type} : List (Lit × DataW H) → Nat
  | [] => 0
  | x :: r => uptoBulkEntry x + uptoBulkEntries r
def uptoBulkEntry {H : Type} : Lit × DataW H → Nat
  | (.string bytes, d) => bytes.length + uptoBulk d + 1
  | (_, d) => uptoBulk d + 1
 end
def uptoSmall : (H : Type) → List (DataW H) → Bool := fun _ ds => decide (uptoBulkAll ds ≤ 1048576)
def OpenSpec.upto (s : _root_.Go.ChangeSpec) : _root_.Go.OpenSpec := { _root_.Go.OpenSpec.ofChange s with cond := some uptoSmall }

/-- 'barragelaw02.SurgeChecks', WHERE WHAT IT READS IS OF BULK AT MOST 1048576: true; the input reads as it did. -/
def surgeChecksUptoRow : OpenClaim := { program := "ytgidbailiababaagreatdoor", sum := "5353aa6a50964e6dc526e160f0631c77437efdd5f34f1a297b2563b68ed5cf43", func := "barrage/barragelaw02.SurgeChecks", spec := "surgeChecks", unfollowed := true, recurses := true, named := ["barrage/surge.level"], apart := false, laid := [("barrage/surge.level", laid_barrage_surge_level)], narrowed := true }
def SurgeChecksUptoSaid : Prop := surgeChecksUptoRow.holds Tryz.pinned (OpenSpec.upto surgeChecksSpec)

/-- 'barragelaw02.SurgeBoxes', WHERE WHAT IT READS IS OF BULK AT MOST 1048576: true; the input reads as it did. -/
def surgeBoxesUptoRow : OpenClaim := { program := "ytgidbailiababaagreatdoor", sum := "5353aa6a50964e6dc526e160f0631c77437efdd5f34f1a297b2563b68ed5cf43", func := "barrage/barragelaw02.SurgeBoxes", spec := "surgeBoxes", unfollowed := true, recurses := true, named := ["barrage/surge.level"], apart := false, laid := [("barrage/surge.level", laid_barrage_surge_level)], narrowed := true }
def SurgeBoxesUptoSaid : Prop := surgeBoxesUptoRow.holds Tryz.pinned (OpenSpec.upto surgeBoxesSpec)

/-- 'barragelaw02.SurgeMore', WHERE WHAT IT READS IS OF BULK AT MOST 1048576: true; the input reads as it did. -/
def surgeMoreUptoRow : OpenClaim := { program := "ytgidbailiababaagreatdoor", sum := "5353aa6a50964e6dc526e160f0631c77437efdd5f34f1a297b2563b68ed5cf43", func := "barrage/barragelaw02.SurgeMore", spec := "surgeMore", unfollowed := true, recurses := true, named := ["barrage/surge.level"], apart := false, laid := [("barrage/surge.level", laid_barrage_surge_level)], narrowed := true }
def SurgeMoreUptoSaid : Prop := surgeMoreUptoRow.holds Tryz.pinned (OpenSpec.upto surgeMoreSpec)

/-- 'barragelaw02.SurgeUnknown', WHERE WHAT IT READS IS OF BULK AT MOST 1048576: true; the input reads as it did. -/
def surgeUnknownUptoRow : OpenClaim := { program := "ytgidbailiababaagreatdoor", sum := "5353aa6a50964e6dc526e160f0631c77437efdd5f34f1a297b2563b68ed5cf43", func := "barrage/barragelaw02.SurgeUnknown", spec := "surgeUnknown", unfollowed := true, recurses := true, named := ["barrage/surge.level"], apart := false, laid := [("barrage/surge.level", laid_barrage_surge_level)], narrowed := true }
def SurgeUnknownUptoSaid : Prop := surgeUnknownUptoRow.holds Tryz.pinned (OpenSpec.upto surgeUnknownSpec)

/-- 'barragelaw02.SurgeLater', WHERE WHAT IT READS IS OF BULK AT MOST 1048576: true; the input reads as it did. -/
def surgeLaterUptoRow : OpenClaim := { program := "ytgidbailiababaagreatdoor", sum := "5353aa6a50964e6dc526e160f0631c77437efdd5f34f1a297b2563b68ed5cf43", func := "barrage/barragelaw02.SurgeLater", spec := "surgeLater", unfollowed := true, recurses := true, named := ["barrage/surge.level"], apart := false, laid := [("barrage/surge.level", laid_barrage_surge_level)], narrowed := true }
def SurgeLaterUptoSaid : Prop := surgeLaterUptoRow.holds Tryz.pinned (OpenSpec.upto surgeLaterSpec)

/-- 'barragelaw02.SurgeIs', WHERE WHAT IT READS IS OF BULK AT MOST 1048576: true; the input reads as it did. -/
def surgeIsUptoRow : OpenClaim := { program := "ytgidbailiababaagreatdoor", sum := "5353aa6a50964e6dc526e160f0631c77437efdd5f34f1a297b2563b68ed5cf43", func := "barrage/barragelaw02.SurgeIs", spec := "surgeIs", unfollowed := true, recurses := true, named := ["barrage/surge.level"], apart := false, laid := [("barrage/surge.level", laid_barrage_surge_level)], narrowed := true }
def SurgeIsUptoSaid : Prop := surgeIsUptoRow.holds Tryz.pinned (OpenSpec.upto surgeIsSpec)

/-- 'barragelaw02.SurgeRules', WHERE WHAT IT READS IS OF BULK AT MOST 1048576: true; the input reads as it did. -/
def surgeRulesUptoRow : OpenClaim := { program := "ytgidbailiababaagreatdoor", sum := "5353aa6a50964e6dc526e160f0631c77437efdd5f34f1a297b2563b68ed5cf43", func := "barrage/barragelaw02.SurgeRules", spec := "surgeRules", unfollowed := true, recurses := true, named := ["barrage/surge.level"], apart := false, laid := [("barrage/surge.level", laid_barrage_surge_level)], narrowed := true }
def SurgeRulesUptoSaid : Prop := surgeRulesUptoRow.holds Tryz.pinned (OpenSpec.upto surgeRulesSpec)

/-- 'barragelaw02.SurgeTight', WHERE WHAT IT READS IS OF BULK AT MOST 1048576: true; the input reads as it did. -/
def surgeTightUptoRow : OpenClaim := { program := "ytgidbailiababaagreatdoor", sum := "5353aa6a50964e6dc526e160f0631c77437efdd5f34f1a297b2563b68ed5cf43", func := "barrage/barragelaw02.SurgeTight", spec := "surgeTight", unfollowed := true, recurses := true, named := ["barrage/surge.level"], apart := false, laid := [("barrage/surge.level", laid_barrage_surge_level)], narrowed := true }
def SurgeTightUptoSaid : Prop := surgeTightUptoRow.holds Tryz.pinned (OpenSpec.upto surgeTightSpec)

/-- 'barragelaw02.SurgeKnows', WHERE WHAT IT READS IS OF BULK AT MOST 1048576: true; the input reads as it did. -/
def surgeKnowsUptoRow : OpenClaim := { program := "ytgidbailiababaagreatdoor", sum := "5353aa6a50964e6dc526e160f0631c77437efdd5f34f1a297b2563b68ed5cf43", func := "barrage/barragelaw02.SurgeKnows", spec := "surgeKnows", unfollowed := true, recurses := true, named := ["barrage/surge.level"], apart := false, laid := [("barrage/surge.level", laid_barrage_surge_level)], narrowed := true }
def SurgeKnowsUptoSaid : Prop := surgeKnowsUptoRow.holds Tryz.pinned (OpenSpec.upto surgeKnowsSpec)

/-- 'barragelaw02.SurgeTrue', WHERE WHAT IT READS IS OF BULK AT MOST 1048576: true; the input reads as it did. -/
def surgeTrueUptoRow : OpenClaim := { program := "ytgidbailiababaagreatdoor", sum := "5353aa6a50964e6dc526e160f0631c77437efdd5f34f1a297b2563b68ed5cf43", func := "barrage/barragelaw02.SurgeTrue", spec := "surgeTrue", unfollowed := true, recurses := true, named := ["barrage/surge.level"], apart := false, laid := [("barrage/surge.level", laid_barrage_surge_level)], narrowed := true }
def SurgeTrueUptoSaid : Prop := surgeTrueUptoRow.holds Tryz.pinned (OpenSpec.upto surgeTrueSpec)

/-- 'barragelaw02.SurgeSpans', WHERE WHAT IT READS IS OF BULK AT MOST 1048576: true; the input reads as it did. -/
def surgeSpansUptoRow : OpenClaim := { program := "ytgidbailiababaagreatdoor", sum := "5353aa6a50964e6dc526e160f0631c77437efdd5f34f1a297b2563b68ed5cf43", func := "barrage/barragelaw02.SurgeSpans", spec := "surgeSpans", unfollowed := true, recurses := true, named := ["barrage/surge.level"], apart := false, laid := [("barrage/surge.level", laid_barrage_surge_level)], narrowed := true }
def SurgeSpansUptoSaid : Prop := surgeSpansUptoRow.holds Tryz.pinned (OpenSpec.upto surgeSpansSpec)

/-- 'barragelaw02.SurgeSuspects', WHERE WHAT IT READS IS OF BULK AT MOST 1048576: true; the input reads as it did. -/
def surgeSuspectsUptoRow : OpenClaim := { program := "ytgidbailiababaagreatdoor", sum := "5353aa6a50964e6dc526e160f0631c77437efdd5f34f1a297b2563b68ed5cf43", func := "barrage/barragelaw02.SurgeSuspects", spec := "surgeSuspects", unfollowed := true, recurses := true, named := ["barrage/surge.level"], apart := false, laid := [("barrage/surge.level", laid_barrage_surge_level)], narrowed := true }
def SurgeSuspectsUptoSaid : Prop := surgeSuspectsUptoRow.holds Tryz.pinned (OpenSpec.upto surgeSuspectsSpec)

/-- 'barragelaw02.SurgeCovers', WHERE WHAT IT READS IS OF BULK AT MOST 1048576: true; the input reads as it did. -/
def surgeCoversUptoRow : OpenClaim := { program := "ytgidbailiababaagreatdoor", sum := "5353aa6a50964e6dc526e160f0631c77437efdd5f34f1a297b2563b68ed5cf43", func := "barrage/barragelaw02.SurgeCovers", spec := "surgeCovers", unfollowed := true, recurses := true, named := ["barrage/surge.level"], apart := false, laid := [("barrage/surge.level", laid_barrage_surge_level)], narrowed := true }
def SurgeCoversUptoSaid : Prop := surgeCoversUptoRow.holds Tryz.pinned (OpenSpec.upto surgeCoversSpec)

/-- 'barragelaw02.SurgeKnown', WHERE WHAT IT READS IS OF BULK AT MOST 1048576: true; the input reads as it did. -/
def surgeKnownUptoRow : OpenClaim := { program := "ytgidbailiababaagreatdoor", sum := "5353aa6a50964e6dc526e160f0631c77437efdd5f34f1a297b2563b68ed5cf43", func := "barrage/barragelaw02.SurgeKnown", spec := "surgeKnown", unfollowed := true, recurses := true, named := ["barrage/surge.level"], apart := false, laid := [("barrage/surge.level", laid_barrage_surge_level)], narrowed := true }
def SurgeKnownUptoSaid : Prop := surgeKnownUptoRow.holds Tryz.pinned (OpenSpec.upto surgeKnownSpec)

end Rows
end Go.Proofs.YtgidbailiababaaGreatDoor
