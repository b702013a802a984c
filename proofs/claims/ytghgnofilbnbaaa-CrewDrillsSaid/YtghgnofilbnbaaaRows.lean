/-
  No cell of these rows narrows 'for every input' (looked for: loops, veiled, ifaces, maps, wideKeys, modest, calm, conditions, laid).
  DERIVED. THE GIVEN ROWS OF THIS SEAT. 12 by the template 'for every input the law returns true; each argument reads behind the call as it read before'; 0 by the template 'total and deterministic' (their statements: YtghgnofilbnbaaaTotals.lean).
  GIVEN WITH THE SEED: the statements are not yours to turn. If you find one false, say at which input.
  Laid BY PROGRAM, IN A SANDBOX (cutbox-rows.mjs): the forced cells as the released guide's own fill.sh prints them over the translation cf80b40f4dd465a0… (all of the seat's roots in one cut). By AI agents, Wed Nov 11 2026. No macro, syntax, notation, axiom, sorry.
-/
import Derived.Test.YtghgnofilbnbaaaChecked
import GoSem.Claim
import GoSem.ClaimJoined
import GoSem.ClaimMapViews
import Derived.JoinedTies
import Derived.KernelRfl
namespace Go.Proofs.Ytghgnofilbnbaaa
/- THE CELL 'sum', in the pinned program and in every row, IS THE sha256 OF THE DUMP (.gsa) THAT YtghgnofilbnbaaaProg.lean LOADS. Nothing in Lean hashes anything: it is a label: what it is worth is what the hold of that sum in a sandbox is worth. -/
noncomputable def Try.pinned : Pinned := { name := "ytghgnofilbnbaaa", sum := "cf80b40f4dd465a091757ae7c6a4cc64660c86c75eb5b4c666a005d34e9bb2fa", checked := Try.checked }
namespace Rows
def none {H : Type} : Left H := { results := [], args := [] }

/-- 'barragelaw10.CrewPlans': WHATEVER THE INPUT: true; the input reads as it did. -/
def crewPlansSpec : ChangeSpec := { name := "crewPlans", fn := fun _ => fun
  | [d1, d2, d3] => { results := [.lit (.bool true)], args := [d1, d2, d3] }
  | _ => none }
def crewPlansRow : OpenClaim := { program := "ytghgnofilbnbaaa", sum := "cf80b40f4dd465a091757ae7c6a4cc64660c86c75eb5b4c666a005d34e9bb2fa", func := "barrage/barragelaw10.CrewPlans", spec := "crewPlans", unfollowed := true, recurses := true, plainKeys := false, apart := false }
def CrewPlansSaid : Prop := crewPlansRow.holds Try.pinned (OpenSpec.ofChange crewPlansSpec)

/-- ITS FALSE NEIGHBOUR: 'it returns false'. Refute it at one input. -/
def crewPlansWrong : ChangeSpec := { name := "crewPlans", fn := fun _ => fun
  | [d1, d2, d3] => { results := [.lit (.bool false)], args := [d1, d2, d3] }
  | _ => none }
def CrewPlansWrongFalsely : Prop := crewPlansRow.holds Try.pinned (OpenSpec.ofChange crewPlansWrong)

/-- 'barragelaw10.CrewShift': WHATEVER THE INPUT: true; the input reads as it did. -/
def crewShiftSpec : ChangeSpec := { name := "crewShift", fn := fun _ => fun
  | [d1, d2, d3] => { results := [.lit (.bool true)], args := [d1, d2, d3] }
  | _ => none }
def crewShiftRow : OpenClaim := { program := "ytghgnofilbnbaaa", sum := "cf80b40f4dd465a091757ae7c6a4cc64660c86c75eb5b4c666a005d34e9bb2fa", func := "barrage/barragelaw10.CrewShift", spec := "crewShift", unfollowed := true, recurses := true, plainKeys := false, apart := false }
def CrewShiftSaid : Prop := crewShiftRow.holds Try.pinned (OpenSpec.ofChange crewShiftSpec)

/-- ITS FALSE NEIGHBOUR: 'it returns false'. Refute it at one input. -/
def crewShiftWrong : ChangeSpec := { name := "crewShift", fn := fun _ => fun
  | [d1, d2, d3] => { results := [.lit (.bool false)], args := [d1, d2, d3] }
  | _ => none }
def CrewShiftWrongFalsely : Prop := crewShiftRow.holds Try.pinned (OpenSpec.ofChange crewShiftWrong)

/-- 'barragelaw10.CrewCancelled': WHATEVER THE INPUT: true; the input reads as it did. -/
def crewCancelledSpec : ChangeSpec := { name := "crewCancelled", fn := fun _ => fun
  | [d1, d2] => { results := [.lit (.bool true)], args := [d1, d2] }
  | _ => none }
def crewCancelledRow : OpenClaim := { program := "ytghgnofilbnbaaa", sum := "cf80b40f4dd465a091757ae7c6a4cc64660c86c75eb5b4c666a005d34e9bb2fa", func := "barrage/barragelaw10.CrewCancelled", spec := "crewCancelled", unfollowed := true, recurses := true, plainKeys := false, apart := false }
def CrewCancelledSaid : Prop := crewCancelledRow.holds Try.pinned (OpenSpec.ofChange crewCancelledSpec)

/-- ITS FALSE NEIGHBOUR: 'it returns false'. Refute it at one input. -/
def crewCancelledWrong : ChangeSpec := { name := "crewCancelled", fn := fun _ => fun
  | [d1, d2] => { results := [.lit (.bool false)], args := [d1, d2] }
  | _ => none }
def CrewCancelledWrongFalsely : Prop := crewCancelledRow.holds Try.pinned (OpenSpec.ofChange crewCancelledWrong)

/-- 'barragelaw10.CrewPrefix': WHATEVER THE INPUT: true; the input reads as it did. -/
def crewPrefixSpec : ChangeSpec := { name := "crewPrefix", fn := fun _ => fun
  | [d1, d2, d3] => { results := [.lit (.bool true)], args := [d1, d2, d3] }
  | _ => none }
def crewPrefixRow : OpenClaim := { program := "ytghgnofilbnbaaa", sum := "cf80b40f4dd465a091757ae7c6a4cc64660c86c75eb5b4c666a005d34e9bb2fa", func := "barrage/barragelaw10.CrewPrefix", spec := "crewPrefix", unfollowed := true, recurses := true, plainKeys := false, apart := false }
def CrewPrefixSaid : Prop := crewPrefixRow.holds Try.pinned (OpenSpec.ofChange crewPrefixSpec)

/-- ITS FALSE NEIGHBOUR: 'it returns false'. Refute it at one input. -/
def crewPrefixWrong : ChangeSpec := { name := "crewPrefix", fn := fun _ => fun
  | [d1, d2, d3] => { results := [.lit (.bool false)], args := [d1, d2, d3] }
  | _ => none }
def CrewPrefixWrongFalsely : Prop := crewPrefixRow.holds Try.pinned (OpenSpec.ofChange crewPrefixWrong)

/-- 'barragelaw10.CrewScripts': WHATEVER THE INPUT: true; the input reads as it did. -/
def crewScriptsSpec : ChangeSpec := { name := "crewScripts", fn := fun _ => fun
  | [d1, d2] => { results := [.lit (.bool true)], args := [d1, d2] }
  | _ => none }
def crewScriptsRow : OpenClaim := { program := "ytghgnofilbnbaaa", sum := "cf80b40f4dd465a091757ae7c6a4cc64660c86c75eb5b4c666a005d34e9bb2fa", func := "barrage/barragelaw10.CrewScripts", spec := "crewScripts", unfollowed := true, recurses := true, plainKeys := false, apart := false }
def CrewScriptsSaid : Prop := crewScriptsRow.holds Try.pinned (OpenSpec.ofChange crewScriptsSpec)

/-- ITS FALSE NEIGHBOUR: 'it returns false'. Refute it at one input. -/
def crewScriptsWrong : ChangeSpec := { name := "crewScripts", fn := fun _ => fun
  | [d1, d2] => { results := [.lit (.bool false)], args := [d1, d2] }
  | _ => none }
def CrewScriptsWrongFalsely : Prop := crewScriptsRow.holds Try.pinned (OpenSpec.ofChange crewScriptsWrong)

/-- 'barragelaw10.CrewMore': WHATEVER THE INPUT: true; the input reads as it did. -/
def crewMoreSpec : ChangeSpec := { name := "crewMore", fn := fun _ => fun
  | [d1, d2, d3] => { results := [.lit (.bool true)], args := [d1, d2, d3] }
  | _ => none }
def crewMoreRow : OpenClaim := { program := "ytghgnofilbnbaaa", sum := "cf80b40f4dd465a091757ae7c6a4cc64660c86c75eb5b4c666a005d34e9bb2fa", func := "barrage/barragelaw10.CrewMore", spec := "crewMore", unfollowed := true, recurses := true, plainKeys := false, apart := false }
def CrewMoreSaid : Prop := crewMoreRow.holds Try.pinned (OpenSpec.ofChange crewMoreSpec)

/-- ITS FALSE NEIGHBOUR: 'it returns false'. Refute it at one input. -/
def crewMoreWrong : ChangeSpec := { name := "crewMore", fn := fun _ => fun
  | [d1, d2, d3] => { results := [.lit (.bool false)], args := [d1, d2, d3] }
  | _ => none }
def CrewMoreWrongFalsely : Prop := crewMoreRow.holds Try.pinned (OpenSpec.ofChange crewMoreWrong)

/-- 'barragelaw10.CrewKeys': WHATEVER THE INPUT: true; the input reads as it did. -/
def crewKeysSpec : ChangeSpec := { name := "crewKeys", fn := fun _ => fun
  | [d1, d2] => { results := [.lit (.bool true)], args := [d1, d2] }
  | _ => none }
def crewKeysRow : OpenClaim := { program := "ytghgnofilbnbaaa", sum := "cf80b40f4dd465a091757ae7c6a4cc64660c86c75eb5b4c666a005d34e9bb2fa", func := "barrage/barragelaw10.CrewKeys", spec := "crewKeys", unfollowed := true, recurses := true, plainKeys := false, apart := false }
def CrewKeysSaid : Prop := crewKeysRow.holds Try.pinned (OpenSpec.ofChange crewKeysSpec)

/-- ITS FALSE NEIGHBOUR: 'it returns false'. Refute it at one input. -/
def crewKeysWrong : ChangeSpec := { name := "crewKeys", fn := fun _ => fun
  | [d1, d2] => { results := [.lit (.bool false)], args := [d1, d2] }
  | _ => none }
def CrewKeysWrongFalsely : Prop := crewKeysRow.holds Try.pinned (OpenSpec.ofChange crewKeysWrong)

/-- 'barragelaw10.CrewTwo': WHATEVER THE INPUT: true; the input reads as it did. -/
def crewTwoSpec : ChangeSpec := { name := "crewTwo", fn := fun _ => fun
  | [d1, d2] => { results := [.lit (.bool true)], args := [d1, d2] }
  | _ => none }
def crewTwoRow : OpenClaim := { program := "ytghgnofilbnbaaa", sum := "cf80b40f4dd465a091757ae7c6a4cc64660c86c75eb5b4c666a005d34e9bb2fa", func := "barrage/barragelaw10.CrewTwo", spec := "crewTwo", unfollowed := true, recurses := true, plainKeys := false, apart := false }
def CrewTwoSaid : Prop := crewTwoRow.holds Try.pinned (OpenSpec.ofChange crewTwoSpec)

/-- ITS FALSE NEIGHBOUR: 'it returns false'. Refute it at one input. -/
def crewTwoWrong : ChangeSpec := { name := "crewTwo", fn := fun _ => fun
  | [d1, d2] => { results := [.lit (.bool false)], args := [d1, d2] }
  | _ => none }
def CrewTwoWrongFalsely : Prop := crewTwoRow.holds Try.pinned (OpenSpec.ofChange crewTwoWrong)

/-- 'barragelaw10.CrewChecks': WHATEVER THE INPUT: true; the input reads as it did. -/
def crewChecksSpec : ChangeSpec := { name := "crewChecks", fn := fun _ => fun
  | [d1, d2] => { results := [.lit (.bool true)], args := [d1, d2] }
  | _ => none }
def crewChecksRow : OpenClaim := { program := "ytghgnofilbnbaaa", sum := "cf80b40f4dd465a091757ae7c6a4cc64660c86c75eb5b4c666a005d34e9bb2fa", func := "barrage/barragelaw10.CrewChecks", spec := "crewChecks", unfollowed := true, recurses := true, plainKeys := false, apart := false }
def CrewChecksSaid : Prop := crewChecksRow.holds Try.pinned (OpenSpec.ofChange crewChecksSpec)

/-- ITS FALSE NEIGHBOUR: 'it returns false'. Refute it at one input. -/
def crewChecksWrong : ChangeSpec := { name := "crewChecks", fn := fun _ => fun
  | [d1, d2] => { results := [.lit (.bool false)], args := [d1, d2] }
  | _ => none }
def CrewChecksWrongFalsely : Prop := crewChecksRow.holds Try.pinned (OpenSpec.ofChange crewChecksWrong)

/-- 'barragelaw10.CrewFirst': WHATEVER THE INPUT: true; the input reads as it did. -/
def crewFirstSpec : ChangeSpec := { name := "crewFirst", fn := fun _ => fun
  | [d1, d2, d3] => { results := [.lit (.bool true)], args := [d1, d2, d3] }
  | _ => none }
def crewFirstRow : OpenClaim := { program := "ytghgnofilbnbaaa", sum := "cf80b40f4dd465a091757ae7c6a4cc64660c86c75eb5b4c666a005d34e9bb2fa", func := "barrage/barragelaw10.CrewFirst", spec := "crewFirst", unfollowed := true, recurses := true, plainKeys := false, apart := false }
def CrewFirstSaid : Prop := crewFirstRow.holds Try.pinned (OpenSpec.ofChange crewFirstSpec)

/-- ITS FALSE NEIGHBOUR: 'it returns false'. Refute it at one input. -/
def crewFirstWrong : ChangeSpec := { name := "crewFirst", fn := fun _ => fun
  | [d1, d2, d3] => { results := [.lit (.bool false)], args := [d1, d2, d3] }
  | _ => none }
def CrewFirstWrongFalsely : Prop := crewFirstRow.holds Try.pinned (OpenSpec.ofChange crewFirstWrong)

/-- 'barragelaw10.CrewDrills': WHATEVER THE INPUT: true; the input reads as it did. -/
def crewDrillsSpec : ChangeSpec := { name := "crewDrills", fn := fun _ => fun
  | [d1, d2, d3] => { results := [.lit (.bool true)], args := [d1, d2, d3] }
  | _ => none }
def crewDrillsRow : OpenClaim := { program := "ytghgnofilbnbaaa", sum := "cf80b40f4dd465a091757ae7c6a4cc64660c86c75eb5b4c666a005d34e9bb2fa", func := "barrage/barragelaw10.CrewDrills", spec := "crewDrills", unfollowed := true, recurses := true, plainKeys := false, apart := false }
def CrewDrillsSaid : Prop := crewDrillsRow.holds Try.pinned (OpenSpec.ofChange crewDrillsSpec)

/-- ITS FALSE NEIGHBOUR: 'it returns false'. Refute it at one input. -/
def crewDrillsWrong : ChangeSpec := { name := "crewDrills", fn := fun _ => fun
  | [d1, d2, d3] => { results := [.lit (.bool false)], args := [d1, d2, d3] }
  | _ => none }
def CrewDrillsWrongFalsely : Prop := crewDrillsRow.holds Try.pinned (OpenSpec.ofChange crewDrillsWrong)

/-- 'barragelaw10.CrewKnown': WHATEVER THE INPUT: true; the input reads as it did. -/
def crewKnownSpec : ChangeSpec := { name := "crewKnown", fn := fun _ => fun
  | [] => { results := [.lit (.bool true)], args := [] }
  | _ => none }
def crewKnownRow : OpenClaim := { program := "ytghgnofilbnbaaa", sum := "cf80b40f4dd465a091757ae7c6a4cc64660c86c75eb5b4c666a005d34e9bb2fa", func := "barrage/barragelaw10.CrewKnown", spec := "crewKnown", unfollowed := true, recurses := true, plainKeys := false, apart := false }
def CrewKnownSaid : Prop := crewKnownRow.holds Try.pinned (OpenSpec.ofChange crewKnownSpec)

/-- ITS FALSE NEIGHBOUR: 'it returns false'. Refute it at one input. -/
def crewKnownWrong : ChangeSpec := { name := "crewKnown", fn := fun _ => fun
  | [] => { results := [.lit (.bool false)], args := [] }
  | _ => none }
def CrewKnownWrongFalsely : Prop := crewKnownRow.holds Try.pinned (OpenSpec.ofChange crewKnownWrong)

/- THE SECOND FORM. 'bulk': how many values and letters a reading holds, each counted each time it is reached (what is shared counts as often as it is met; a slice's spare places count too). A statement '..UptoSaid' is the law's where the arguments, and the package variables that the reading takes, are together of bulk at most 1048576: NARROWER than '..Said'. Prove '..Said' where nothing that the law and all that it calls make is longer than what came in: it says more and counts as full. Else prove '..UptoSaid'. A law counts once. -/
mutual
def uptoBulk {H : Type} : DataW H → Nat
  | .lit (.string bytes) => bytes.length + 1
  | .lit _ => 1
  | .nil => 1
  | .ptr d => uptoBulk d + 1
  | .slice elems spare => uptoBulkAll elems + uptoBulkAll spare + 1
  | .agg parts => uptoBulkAll parts + 1
  | .iface _ d => uptoBulk d + 1
  | .map entries => uptoBulkEntries entries + 1
  | .held _ => 1
def uptoBulkAll {H : Type} : List (DataW H) → Nat
  | [] => 0
  | d :: r => uptoBulk d + uptoBulkAll r
def uptoBulkEntries {H : Type} : List (Lit × DataW H) → Nat
  | [] => 0
  | x :: r => uptoBulkEntry x + uptoBulkEntries r
def uptoBulkEntry {H : Type} : Lit × DataW H → Nat
  | (.string bytes, d) => bytes.length + uptoBulk d + 1
  | (_, d) => uptoBulk d + 1
 end
def uptoSmall : (H : Type) → List (DataW H) → Bool := fun _ ds => decide (uptoBulkAll ds ≤ 1048576)
def OpenSpec.upto (s : _root_.Go.ChangeSpec) : _root_.Go.OpenSpec := { _root_.Go.OpenSpec.ofChange s with cond := some uptoSmall }

/-- 'barragelaw10.CrewPlans', WHERE WHAT IT READS IS OF BULK AT MOST 1048576: true; the input reads as it did. -/
def crewPlansUptoRow : OpenClaim := { program := "ytghgnofilbnbaaa", sum := "cf80b40f4dd465a091757ae7c6a4cc64660c86c75eb5b4c666a005d34e9bb2fa", func := "barrage/barragelaw10.CrewPlans", spec := "crewPlans", unfollowed := true, recurses := true, plainKeys := false, apart := false, narrowed := true }
def CrewPlansUptoSaid : Prop := crewPlansUptoRow.holds Try.pinned (OpenSpec.upto crewPlansSpec)

/-- 'barragelaw10.CrewShift', WHERE WHAT IT READS IS OF BULK AT MOST 1048576: true; the input reads as it did. -/
def crewShiftUptoRow : OpenClaim := { program := "ytghgnofilbnbaaa", sum := "cf80b40f4dd465a091757ae7c6a4cc64660c86c75eb5b4c666a005d34e9bb2fa", func := "barrage/barragelaw10.CrewShift", spec := "crewShift", unfollowed := true, recurses := true, plainKeys := false, apart := false, narrowed := true }
def CrewShiftUptoSaid : Prop := crewShiftUptoRow.holds Try.pinned (OpenSpec.upto crewShiftSpec)

/-- 'barragelaw10.CrewCancelled', WHERE WHAT IT READS IS OF BULK AT MOST 1048576: true; the input reads as it did. -/
def crewCancelledUptoRow : OpenClaim := { program := "ytghgnofilbnbaaa", sum := "cf80b40f4dd465a091757ae7c6a4cc64660c86c75eb5b4c666a005d34e9bb2fa", func := "barrage/barragelaw10.CrewCancelled", spec := "crewCancelled", unfollowed := true, recurses := true, plainKeys := false, apart := false, narrowed := true }
def CrewCancelledUptoSaid : Prop := crewCancelledUptoRow.holds Try.pinned (OpenSpec.upto crewCancelledSpec)

/-- 'barragelaw10.CrewPrefix', WHERE WHAT IT READS IS OF BULK AT MOST 1048576: true; the input reads as it did. -/
def crewPrefixUptoRow : OpenClaim := { program := "ytghgnofilbnbaaa", sum := "cf80b40f4dd465a091757ae7c6a4cc64660c86c75eb5b4c666a005d34e9bb2fa", func := "barrage/barragelaw10.CrewPrefix", spec := "crewPrefix", unfollowed := true, recurses := true, plainKeys := false, apart := false, narrowed := true }
def CrewPrefixUptoSaid : Prop := crewPrefixUptoRow.holds Try.pinned (OpenSpec.upto crewPrefixSpec)

/-- 'barragelaw10.CrewScripts', WHERE WHAT IT READS IS OF BULK AT MOST 1048576: true; the input reads as it did. -/
def crewScriptsUptoRow : OpenClaim := { program := "ytghgnofilbnbaaa", sum := "cf80b40f4dd465a091757ae7c6a4cc64660c86c75eb5b4c666a005d34e9bb2fa", func := "barrage/barragelaw10.CrewScripts", spec := "crewScripts", unfollowed := true, recurses := true, plainKeys := false, apart := false, narrowed := true }
def CrewScriptsUptoSaid : Prop := crewScriptsUptoRow.holds Try.pinned (OpenSpec.upto crewScriptsSpec)

/-- 'barragelaw10.CrewMore', WHERE WHAT IT READS IS OF BULK AT MOST 1048576: true; the input reads as it did. -/
def crewMoreUptoRow : OpenClaim := { program := "ytghgnofilbnbaaa", sum := "cf80b40f4dd465a091757ae7c6a4cc64660c86c75eb5b4c666a005d34e9bb2fa", func := "barrage/barragelaw10.CrewMore", spec := "crewMore", unfollowed := true, recurses := true, plainKeys := false, apart := false, narrowed := true }
def CrewMoreUptoSaid : Prop := crewMoreUptoRow.holds Try.pinned (OpenSpec.upto crewMoreSpec)

/-- 'barragelaw10.CrewKeys', WHERE WHAT IT READS IS OF BULK AT MOST 1048576: true; the input reads as it did. -/
def crewKeysUptoRow : OpenClaim := { program := "ytghgnofilbnbaaa", sum := "cf80b40f4dd465a091757ae7c6a4cc64660c86c75eb5b4c666a005d34e9bb2fa", func := "barrage/barragelaw10.CrewKeys", spec := "crewKeys", unfollowed := true, recurses := true, plainKeys := false, apart := false, narrowed := true }
def CrewKeysUptoSaid : Prop := crewKeysUptoRow.holds Try.pinned (OpenSpec.upto crewKeysSpec)

/-- 'barragelaw10.CrewTwo', WHERE WHAT IT READS IS OF BULK AT MOST 1048576: true; the input reads as it did. -/
def crewTwoUptoRow : OpenClaim := { program := "ytghgnofilbnbaaa", sum := "cf80b40f4dd465a091757ae7c6a4cc64660c86c75eb5b4c666a005d34e9bb2fa", func := "barrage/barragelaw10.CrewTwo", spec := "crewTwo", unfollowed := true, recurses := true, plainKeys := false, apart := false, narrowed := true }
def CrewTwoUptoSaid : Prop := crewTwoUptoRow.holds Try.pinned (OpenSpec.upto crewTwoSpec)

/-- 'barragelaw10.CrewChecks', WHERE WHAT IT READS IS OF BULK AT MOST 1048576: true; the input reads as it did. -/
def crewChecksUptoRow : OpenClaim := { program := "ytghgnofilbnbaaa", sum := "cf80b40f4dd465a091757ae7c6a4cc64660c86c75eb5b4c666a005d34e9bb2fa", func := "barrage/barragelaw10.CrewChecks", spec := "crewChecks", unfollowed := true, recurses := true, plainKeys := false, apart := false, narrowed := true }
def CrewChecksUptoSaid : Prop := crewChecksUptoRow.holds Try.pinned (OpenSpec.upto crewChecksSpec)

/-- 'barragelaw10.CrewFirst', WHERE WHAT IT READS IS OF BULK AT MOST 1048576: true; the input reads as it did. -/
def crewFirstUptoRow : OpenClaim := { program := "ytghgnofilbnbaaa", sum := "cf80b40f4dd465a091757ae7c6a4cc64660c86c75eb5b4c666a005d34e9bb2fa", func := "barrage/barragelaw10.CrewFirst", spec := "crewFirst", unfollowed := true, recurses := true, plainKeys := false, apart := false, narrowed := true }
def CrewFirstUptoSaid : Prop := crewFirstUptoRow.holds Try.pinned (OpenSpec.upto crewFirstSpec)

/-- 'barragelaw10.CrewDrills', WHERE WHAT IT READS IS OF BULK AT MOST 1048576: true; the input reads as it did. -/
def crewDrillsUptoRow : OpenClaim := { program := "ytghgnofilbnbaaa", sum := "cf80b40f4dd465a091757ae7c6a4cc64660c86c75eb5b4c666a005d34e9bb2fa", func := "barrage/barragelaw10.CrewDrills", spec := "crewDrills", unfollowed := true, recurses := true, plainKeys := false, apart := false, narrowed := true }
def CrewDrillsUptoSaid : Prop := crewDrillsUptoRow.holds Try.pinned (OpenSpec.upto crewDrillsSpec)

/-- 'barragelaw10.CrewKnown', WHERE WHAT IT READS IS OF BULK AT MOST 1048576: true; the input reads as it did. -/
def crewKnownUptoRow : OpenClaim := { program := "ytghgnofilbnbaaa", sum := "cf80b40f4dd465a091757ae7c6a4cc64660c86c75eb5b4c666a005d34e9bb2fa", func := "barrage/barragelaw10.CrewKnown", spec := "crewKnown", unfollowed := true, recurses := true, plainKeys := false, apart := false, narrowed := true }
def CrewKnownUptoSaid : Prop := crewKnownUptoRow.holds Try.pinned (OpenSpec.upto crewKnownSpec)

end Rows
end Go.Proofs.Ytghgnofilbnbaaa
