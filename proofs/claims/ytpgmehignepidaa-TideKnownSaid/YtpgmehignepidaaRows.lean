/-
  No cell of these rows narrows 'for every input' (looked for: loops, veiled, ifaces, maps, wideKeys, modest, calm, conditions, laid).
  DERIVED. THE GIVEN ROWS OF THIS SEAT. 16 by the template 'for every input the law returns true; each argument reads behind the call as it read before'; 0 by the template 'total and deterministic' (their statements: YtpgmehignepidaaTotals.lean).
  GIVEN WITH THE SEED: the statements are not yours to turn. If you find one false, say at which input.
  Laid BY PROGRAM, IN A SANDBOX (cutbox-rows.mjs): the forced cells as the released guide's own fill.sh prints them over the translation 3d827a583bad4984… (all of the seat's roots in one cut). By AI agents, Wed Nov 11 2026. No macro, syntax, notation, axiom, sorry.
-/
import Derived.Test.YtpgmehignepidaaChecked
import GoSem.Claim
import GoSem.ClaimJoined
import GoSem.ClaimMapViews
import Derived.JoinedTies
import Derived.KernelRfl
namespace Go.Proofs.Ytpgmehignepidaa
/- THE CELL 'sum', in the pinned program and in every row, IS THE sha256 OF THE DUMP (.gsa) THAT YtpgmehignepidaaProg.lean LOADS. Nothing in Lean hashes anything: it is a label: what it is worth is what the hold of that sum in a sandbox is worth. -/
noncomputable def Try.pinned : Pinned := { name := "ytpgmehignepidaa", sum := "3d827a583bad4984e5cfcdc70febe3dc1f84e3a158b2407029b35327860b4e01", checked := Try.checked }
namespace Rows
def none {H : Type} : Left H := { results := [], args := [] }

/-- 'barragelaw01.TideChecks': WHATEVER THE INPUT: true; the input reads as it did. -/
def tideChecksSpec : ChangeSpec := { name := "tideChecks", fn := fun _ => fun
  | [d1, d2] => { results := [.lit (.bool true)], args := [d1, d2] }
  | _ => none }
def tideChecksRow : OpenClaim := { program := "ytpgmehignepidaa", sum := "3d827a583bad4984e5cfcdc70febe3dc1f84e3a158b2407029b35327860b4e01", func := "barrage/barragelaw01.TideChecks", spec := "tideChecks", unfollowed := true, recurses := true, apart := false }
def TideChecksSaid : Prop := tideChecksRow.holds Try.pinned (OpenSpec.ofChange tideChecksSpec)

/-- ITS FALSE NEIGHBOUR: 'it returns false'. Refute it at one input. -/
def tideChecksWrong : ChangeSpec := { name := "tideChecks", fn := fun _ => fun
  | [d1, d2] => { results := [.lit (.bool false)], args := [d1, d2] }
  | _ => none }
def TideChecksWrongFalsely : Prop := tideChecksRow.holds Try.pinned (OpenSpec.ofChange tideChecksWrong)

/-- 'barragelaw01.TideSays': WHATEVER THE INPUT: true; the input reads as it did. -/
def tideSaysSpec : ChangeSpec := { name := "tideSays", fn := fun _ => fun
  | [d1, d2, d3] => { results := [.lit (.bool true)], args := [d1, d2, d3] }
  | _ => none }
def tideSaysRow : OpenClaim := { program := "ytpgmehignepidaa", sum := "3d827a583bad4984e5cfcdc70febe3dc1f84e3a158b2407029b35327860b4e01", func := "barrage/barragelaw01.TideSays", spec := "tideSays", unfollowed := true, recurses := true, apart := false }
def TideSaysSaid : Prop := tideSaysRow.holds Try.pinned (OpenSpec.ofChange tideSaysSpec)

/-- ITS FALSE NEIGHBOUR: 'it returns false'. Refute it at one input. -/
def tideSaysWrong : ChangeSpec := { name := "tideSays", fn := fun _ => fun
  | [d1, d2, d3] => { results := [.lit (.bool false)], args := [d1, d2, d3] }
  | _ => none }
def TideSaysWrongFalsely : Prop := tideSaysRow.holds Try.pinned (OpenSpec.ofChange tideSaysWrong)

/-- 'barragelaw01.TideBetween': WHATEVER THE INPUT: true; the input reads as it did. -/
def tideBetweenSpec : ChangeSpec := { name := "tideBetween", fn := fun _ => fun
  | [d1, d2, d3] => { results := [.lit (.bool true)], args := [d1, d2, d3] }
  | _ => none }
def tideBetweenRow : OpenClaim := { program := "ytpgmehignepidaa", sum := "3d827a583bad4984e5cfcdc70febe3dc1f84e3a158b2407029b35327860b4e01", func := "barrage/barragelaw01.TideBetween", spec := "tideBetween", unfollowed := true, recurses := true, apart := false }
def TideBetweenSaid : Prop := tideBetweenRow.holds Try.pinned (OpenSpec.ofChange tideBetweenSpec)

/-- ITS FALSE NEIGHBOUR: 'it returns false'. Refute it at one input. -/
def tideBetweenWrong : ChangeSpec := { name := "tideBetween", fn := fun _ => fun
  | [d1, d2, d3] => { results := [.lit (.bool false)], args := [d1, d2, d3] }
  | _ => none }
def TideBetweenWrongFalsely : Prop := tideBetweenRow.holds Try.pinned (OpenSpec.ofChange tideBetweenWrong)

/-- 'barragelaw01.TideTrue': WHATEVER THE INPUT: true; the input reads as it did. -/
def tideTrueSpec : ChangeSpec := { name := "tideTrue", fn := fun _ => fun
  | [d1, d2, d3] => { results := [.lit (.bool true)], args := [d1, d2, d3] }
  | _ => none }
def tideTrueRow : OpenClaim := { program := "ytpgmehignepidaa", sum := "3d827a583bad4984e5cfcdc70febe3dc1f84e3a158b2407029b35327860b4e01", func := "barrage/barragelaw01.TideTrue", spec := "tideTrue", unfollowed := true, recurses := true, apart := false }
def TideTrueSaid : Prop := tideTrueRow.holds Try.pinned (OpenSpec.ofChange tideTrueSpec)

/-- ITS FALSE NEIGHBOUR: 'it returns false'. Refute it at one input. -/
def tideTrueWrong : ChangeSpec := { name := "tideTrue", fn := fun _ => fun
  | [d1, d2, d3] => { results := [.lit (.bool false)], args := [d1, d2, d3] }
  | _ => none }
def TideTrueWrongFalsely : Prop := tideTrueRow.holds Try.pinned (OpenSpec.ofChange tideTrueWrong)

/-- 'barragelaw01.TideKnows': WHATEVER THE INPUT: true; the input reads as it did. -/
def tideKnowsSpec : ChangeSpec := { name := "tideKnows", fn := fun _ => fun
  | [d1, d2] => { results := [.lit (.bool true)], args := [d1, d2] }
  | _ => none }
def tideKnowsRow : OpenClaim := { program := "ytpgmehignepidaa", sum := "3d827a583bad4984e5cfcdc70febe3dc1f84e3a158b2407029b35327860b4e01", func := "barrage/barragelaw01.TideKnows", spec := "tideKnows", unfollowed := true, recurses := true, apart := false }
def TideKnowsSaid : Prop := tideKnowsRow.holds Try.pinned (OpenSpec.ofChange tideKnowsSpec)

/-- ITS FALSE NEIGHBOUR: 'it returns false'. Refute it at one input. -/
def tideKnowsWrong : ChangeSpec := { name := "tideKnows", fn := fun _ => fun
  | [d1, d2] => { results := [.lit (.bool false)], args := [d1, d2] }
  | _ => none }
def TideKnowsWrongFalsely : Prop := tideKnowsRow.holds Try.pinned (OpenSpec.ofChange tideKnowsWrong)

/-- 'barragelaw01.TideCycles': WHATEVER THE INPUT: true; the input reads as it did. -/
def tideCyclesSpec : ChangeSpec := { name := "tideCycles", fn := fun _ => fun
  | [d1, d2] => { results := [.lit (.bool true)], args := [d1, d2] }
  | _ => none }
def tideCyclesRow : OpenClaim := { program := "ytpgmehignepidaa", sum := "3d827a583bad4984e5cfcdc70febe3dc1f84e3a158b2407029b35327860b4e01", func := "barrage/barragelaw01.TideCycles", spec := "tideCycles", unfollowed := true, recurses := true, apart := false }
def TideCyclesSaid : Prop := tideCyclesRow.holds Try.pinned (OpenSpec.ofChange tideCyclesSpec)

/-- ITS FALSE NEIGHBOUR: 'it returns false'. Refute it at one input. -/
def tideCyclesWrong : ChangeSpec := { name := "tideCycles", fn := fun _ => fun
  | [d1, d2] => { results := [.lit (.bool false)], args := [d1, d2] }
  | _ => none }
def TideCyclesWrongFalsely : Prop := tideCyclesRow.holds Try.pinned (OpenSpec.ofChange tideCyclesWrong)

/-- 'barragelaw01.TideLevels': WHATEVER THE INPUT: true; the input reads as it did. -/
def tideLevelsSpec : ChangeSpec := { name := "tideLevels", fn := fun _ => fun
  | [d1, d2, d3] => { results := [.lit (.bool true)], args := [d1, d2, d3] }
  | _ => none }
def tideLevelsRow : OpenClaim := { program := "ytpgmehignepidaa", sum := "3d827a583bad4984e5cfcdc70febe3dc1f84e3a158b2407029b35327860b4e01", func := "barrage/barragelaw01.TideLevels", spec := "tideLevels", unfollowed := true, recurses := true, apart := false }
def TideLevelsSaid : Prop := tideLevelsRow.holds Try.pinned (OpenSpec.ofChange tideLevelsSpec)

/-- ITS FALSE NEIGHBOUR: 'it returns false'. Refute it at one input. -/
def tideLevelsWrong : ChangeSpec := { name := "tideLevels", fn := fun _ => fun
  | [d1, d2, d3] => { results := [.lit (.bool false)], args := [d1, d2, d3] }
  | _ => none }
def TideLevelsWrongFalsely : Prop := tideLevelsRow.holds Try.pinned (OpenSpec.ofChange tideLevelsWrong)

/-- 'barragelaw01.TideSounds': WHATEVER THE INPUT: true; the input reads as it did. -/
def tideSoundsSpec : ChangeSpec := { name := "tideSounds", fn := fun _ => fun
  | [d1, d2] => { results := [.lit (.bool true)], args := [d1, d2] }
  | _ => none }
def tideSoundsRow : OpenClaim := { program := "ytpgmehignepidaa", sum := "3d827a583bad4984e5cfcdc70febe3dc1f84e3a158b2407029b35327860b4e01", func := "barrage/barragelaw01.TideSounds", spec := "tideSounds", unfollowed := true, recurses := true, apart := false }
def TideSoundsSaid : Prop := tideSoundsRow.holds Try.pinned (OpenSpec.ofChange tideSoundsSpec)

/-- ITS FALSE NEIGHBOUR: 'it returns false'. Refute it at one input. -/
def tideSoundsWrong : ChangeSpec := { name := "tideSounds", fn := fun _ => fun
  | [d1, d2] => { results := [.lit (.bool false)], args := [d1, d2] }
  | _ => none }
def TideSoundsWrongFalsely : Prop := tideSoundsRow.holds Try.pinned (OpenSpec.ofChange tideSoundsWrong)

/-- 'barragelaw01.TideVotes': WHATEVER THE INPUT: true; the input reads as it did. -/
def tideVotesSpec : ChangeSpec := { name := "tideVotes", fn := fun _ => fun
  | [d1, d2, d3] => { results := [.lit (.bool true)], args := [d1, d2, d3] }
  | _ => none }
def tideVotesRow : OpenClaim := { program := "ytpgmehignepidaa", sum := "3d827a583bad4984e5cfcdc70febe3dc1f84e3a158b2407029b35327860b4e01", func := "barrage/barragelaw01.TideVotes", spec := "tideVotes", unfollowed := true, recurses := true, apart := false }
def TideVotesSaid : Prop := tideVotesRow.holds Try.pinned (OpenSpec.ofChange tideVotesSpec)

/-- ITS FALSE NEIGHBOUR: 'it returns false'. Refute it at one input. -/
def tideVotesWrong : ChangeSpec := { name := "tideVotes", fn := fun _ => fun
  | [d1, d2, d3] => { results := [.lit (.bool false)], args := [d1, d2, d3] }
  | _ => none }
def TideVotesWrongFalsely : Prop := tideVotesRow.holds Try.pinned (OpenSpec.ofChange tideVotesWrong)

/-- 'barragelaw01.TideOrders': WHATEVER THE INPUT: true; the input reads as it did. -/
def tideOrdersSpec : ChangeSpec := { name := "tideOrders", fn := fun _ => fun
  | [d1, d2] => { results := [.lit (.bool true)], args := [d1, d2] }
  | _ => none }
def tideOrdersRow : OpenClaim := { program := "ytpgmehignepidaa", sum := "3d827a583bad4984e5cfcdc70febe3dc1f84e3a158b2407029b35327860b4e01", func := "barrage/barragelaw01.TideOrders", spec := "tideOrders", unfollowed := true, recurses := true, apart := false }
def TideOrdersSaid : Prop := tideOrdersRow.holds Try.pinned (OpenSpec.ofChange tideOrdersSpec)

/-- ITS FALSE NEIGHBOUR: 'it returns false'. Refute it at one input. -/
def tideOrdersWrong : ChangeSpec := { name := "tideOrders", fn := fun _ => fun
  | [d1, d2] => { results := [.lit (.bool false)], args := [d1, d2] }
  | _ => none }
def TideOrdersWrongFalsely : Prop := tideOrdersRow.holds Try.pinned (OpenSpec.ofChange tideOrdersWrong)

/-- 'barragelaw01.TideFitted': WHATEVER THE INPUT: true; the input reads as it did. -/
def tideFittedSpec : ChangeSpec := { name := "tideFitted", fn := fun _ => fun
  | [d1, d2, d3] => { results := [.lit (.bool true)], args := [d1, d2, d3] }
  | _ => none }
def tideFittedRow : OpenClaim := { program := "ytpgmehignepidaa", sum := "3d827a583bad4984e5cfcdc70febe3dc1f84e3a158b2407029b35327860b4e01", func := "barrage/barragelaw01.TideFitted", spec := "tideFitted", unfollowed := true, recurses := true, apart := false }
def TideFittedSaid : Prop := tideFittedRow.holds Try.pinned (OpenSpec.ofChange tideFittedSpec)

/-- ITS FALSE NEIGHBOUR: 'it returns false'. Refute it at one input. -/
def tideFittedWrong : ChangeSpec := { name := "tideFitted", fn := fun _ => fun
  | [d1, d2, d3] => { results := [.lit (.bool false)], args := [d1, d2, d3] }
  | _ => none }
def TideFittedWrongFalsely : Prop := tideFittedRow.holds Try.pinned (OpenSpec.ofChange tideFittedWrong)

/-- 'barragelaw01.TideResiduals': WHATEVER THE INPUT: true; the input reads as it did. -/
def tideResidualsSpec : ChangeSpec := { name := "tideResiduals", fn := fun _ => fun
  | [d1, d2, d3] => { results := [.lit (.bool true)], args := [d1, d2, d3] }
  | _ => none }
def tideResidualsRow : OpenClaim := { program := "ytpgmehignepidaa", sum := "3d827a583bad4984e5cfcdc70febe3dc1f84e3a158b2407029b35327860b4e01", func := "barrage/barragelaw01.TideResiduals", spec := "tideResiduals", unfollowed := true, recurses := true, apart := false }
def TideResidualsSaid : Prop := tideResidualsRow.holds Try.pinned (OpenSpec.ofChange tideResidualsSpec)

/-- ITS FALSE NEIGHBOUR: 'it returns false'. Refute it at one input. -/
def tideResidualsWrong : ChangeSpec := { name := "tideResiduals", fn := fun _ => fun
  | [d1, d2, d3] => { results := [.lit (.bool false)], args := [d1, d2, d3] }
  | _ => none }
def TideResidualsWrongFalsely : Prop := tideResidualsRow.holds Try.pinned (OpenSpec.ofChange tideResidualsWrong)

/-- 'barragelaw01.TideDiffers': WHATEVER THE INPUT: true; the input reads as it did. -/
def tideDiffersSpec : ChangeSpec := { name := "tideDiffers", fn := fun _ => fun
  | [d1, d2, d3] => { results := [.lit (.bool true)], args := [d1, d2, d3] }
  | _ => none }
def tideDiffersRow : OpenClaim := { program := "ytpgmehignepidaa", sum := "3d827a583bad4984e5cfcdc70febe3dc1f84e3a158b2407029b35327860b4e01", func := "barrage/barragelaw01.TideDiffers", spec := "tideDiffers", unfollowed := true, recurses := true, apart := false }
def TideDiffersSaid : Prop := tideDiffersRow.holds Try.pinned (OpenSpec.ofChange tideDiffersSpec)

/-- ITS FALSE NEIGHBOUR: 'it returns false'. Refute it at one input. -/
def tideDiffersWrong : ChangeSpec := { name := "tideDiffers", fn := fun _ => fun
  | [d1, d2, d3] => { results := [.lit (.bool false)], args := [d1, d2, d3] }
  | _ => none }
def TideDiffersWrongFalsely : Prop := tideDiffersRow.holds Try.pinned (OpenSpec.ofChange tideDiffersWrong)

/-- 'barragelaw01.TideHighest': WHATEVER THE INPUT: true; the input reads as it did. -/
def tideHighestSpec : ChangeSpec := { name := "tideHighest", fn := fun _ => fun
  | [d1, d2, d3] => { results := [.lit (.bool true)], args := [d1, d2, d3] }
  | _ => none }
def tideHighestRow : OpenClaim := { program := "ytpgmehignepidaa", sum := "3d827a583bad4984e5cfcdc70febe3dc1f84e3a158b2407029b35327860b4e01", func := "barrage/barragelaw01.TideHighest", spec := "tideHighest", unfollowed := true, recurses := true, apart := false }
def TideHighestSaid : Prop := tideHighestRow.holds Try.pinned (OpenSpec.ofChange tideHighestSpec)

/-- ITS FALSE NEIGHBOUR: 'it returns false'. Refute it at one input. -/
def tideHighestWrong : ChangeSpec := { name := "tideHighest", fn := fun _ => fun
  | [d1, d2, d3] => { results := [.lit (.bool false)], args := [d1, d2, d3] }
  | _ => none }
def TideHighestWrongFalsely : Prop := tideHighestRow.holds Try.pinned (OpenSpec.ofChange tideHighestWrong)

/-- 'barragelaw01.TideHighs': WHATEVER THE INPUT: true; the input reads as it did. -/
def tideHighsSpec : ChangeSpec := { name := "tideHighs", fn := fun _ => fun
  | [d1, d2, d3] => { results := [.lit (.bool true)], args := [d1, d2, d3] }
  | _ => none }
def tideHighsRow : OpenClaim := { program := "ytpgmehignepidaa", sum := "3d827a583bad4984e5cfcdc70febe3dc1f84e3a158b2407029b35327860b4e01", func := "barrage/barragelaw01.TideHighs", spec := "tideHighs", unfollowed := true, recurses := true, apart := false }
def TideHighsSaid : Prop := tideHighsRow.holds Try.pinned (OpenSpec.ofChange tideHighsSpec)

/-- ITS FALSE NEIGHBOUR: 'it returns false'. Refute it at one input. -/
def tideHighsWrong : ChangeSpec := { name := "tideHighs", fn := fun _ => fun
  | [d1, d2, d3] => { results := [.lit (.bool false)], args := [d1, d2, d3] }
  | _ => none }
def TideHighsWrongFalsely : Prop := tideHighsRow.holds Try.pinned (OpenSpec.ofChange tideHighsWrong)

/-- 'barragelaw01.TideKnown': WHATEVER THE INPUT: true; the input reads as it did. -/
def tideKnownSpec : ChangeSpec := { name := "tideKnown", fn := fun _ => fun
  | [] => { results := [.lit (.bool true)], args := [] }
  | _ => none }
def tideKnownRow : OpenClaim := { program := "ytpgmehignepidaa", sum := "3d827a583bad4984e5cfcdc70febe3dc1f84e3a158b2407029b35327860b4e01", func := "barrage/barragelaw01.TideKnown", spec := "tideKnown", unfollowed := true, recurses := true, apart := false }
def TideKnownSaid : Prop := tideKnownRow.holds Try.pinned (OpenSpec.ofChange tideKnownSpec)

/-- ITS FALSE NEIGHBOUR: 'it returns false'. Refute it at one input. -/
def tideKnownWrong : ChangeSpec := { name := "tideKnown", fn := fun _ => fun
  | [] => { results := [.lit (.bool false)], args := [] }
  | _ => none }
def TideKnownWrongFalsely : Prop := tideKnownRow.holds Try.pinned (OpenSpec.ofChange tideKnownWrong)

/- THE SECOND FORM. 'bulk': how many values and letters a reading holds, each counted each time it is reached (what is shared counts as often as it is met; a slice's spare places count too). A statement '..UptoSaid' is the law's where the arguments, and the package variables that the reading takes, are together of bulk at most 1048576: NARROWER than '..Said'. Prove '..Said' where nothing that the law and all that it calls make is longer than what came in: it says more and counts as full. Else prove '..UptoSaid'. A law counts once. -/
mutual
def uptoBulk {H : Type} : DataW H → Nat
  | .lit (.string bytes) => bytes.length + 1
  | .lit _ => 1
  | .nil => 1
  | .ptr d => uptoBulk d + 1
  | .slice elems spare => uptoBulkAll elems + uptoBulkAll spare + 1
  | .agg parts => uptoBulkAll parts + 1
  | .iface _ d => uptoBulk d + 1
  | .map entries => uptoBulkEntries entries + 1
  | .held _ => 1
def uptoBulkAll {H : Type} : List (DataW H) → Nat
  | [] => 0
  | d :: r => uptoBulk d + uptoBulkAll r
def uptoBulkEntries {H : Type} : List (Lit × DataW H) → Nat
  | [] => 0
  | x :: r => uptoBulkEntry x + uptoBulkEntries r
def uptoBulkEntry {H : Type} : Lit × DataW H → Nat
  | (.string bytes, d) => bytes.length + uptoBulk d + 1
  | (_, d) => uptoBulk d + 1
 end
def uptoSmall : (H : Type) → List (DataW H) → Bool := fun _ ds => decide (uptoBulkAll ds ≤ 1048576)
def OpenSpec.upto (s : _root_.Go.ChangeSpec) : _root_.Go.OpenSpec := { _root_.Go.OpenSpec.ofChange s with cond := some uptoSmall }

/-- 'barragelaw01.TideChecks', WHERE WHAT IT READS IS OF BULK AT MOST 1048576: true; the input reads as it did. -/
def tideChecksUptoRow : OpenClaim := { program := "ytpgmehignepidaa", sum := "3d827a583bad4984e5cfcdc70febe3dc1f84e3a158b2407029b35327860b4e01", func := "barrage/barragelaw01.TideChecks", spec := "tideChecks", unfollowed := true, recurses := true, apart := false, narrowed := true }
def TideChecksUptoSaid : Prop := tideChecksUptoRow.holds Try.pinned (OpenSpec.upto tideChecksSpec)

/-- 'barragelaw01.TideSays', WHERE WHAT IT READS IS OF BULK AT MOST 1048576: true; the input reads as it did. -/
def tideSaysUptoRow : OpenClaim := { program := "ytpgmehignepidaa", sum := "3d827a583bad4984e5cfcdc70febe3dc1f84e3a158b2407029b35327860b4e01", func := "barrage/barragelaw01.TideSays", spec := "tideSays", unfollowed := true, recurses := true, apart := false, narrowed := true }
def TideSaysUptoSaid : Prop := tideSaysUptoRow.holds Try.pinned (OpenSpec.upto tideSaysSpec)

/-- 'barragelaw01.TideBetween', WHERE WHAT IT READS IS OF BULK AT MOST 1048576: true; the input reads as it did. -/
def tideBetweenUptoRow : OpenClaim := { program := "ytpgmehignepidaa", sum := "3d827a583bad4984e5cfcdc70febe3dc1f84e3a158b2407029b35327860b4e01", func := "barrage/barragelaw01.TideBetween", spec := "tideBetween", unfollowed := true, recurses := true, apart := false, narrowed := true }
def TideBetweenUptoSaid : Prop := tideBetweenUptoRow.holds Try.pinned (OpenSpec.upto tideBetweenSpec)

/-- 'barragelaw01.TideTrue', WHERE WHAT IT READS IS OF BULK AT MOST 1048576: true; the input reads as it did. -/
def tideTrueUptoRow : OpenClaim := { program := "ytpgmehignepidaa", sum := "3d827a583bad4984e5cfcdc70febe3dc1f84e3a158b2407029b35327860b4e01", func := "barrage/barragelaw01.TideTrue", spec := "tideTrue", unfollowed := true, recurses := true, apart := false, narrowed := true }
def TideTrueUptoSaid : Prop := tideTrueUptoRow.holds Try.pinned (OpenSpec.upto tideTrueSpec)

/-- 'barragelaw01.TideKnows', WHERE WHAT IT READS IS OF BULK AT MOST 1048576: true; the input reads as it did. -/
def tideKnowsUptoRow : OpenClaim := { program := "ytpgmehignepidaa", sum := "3d827a583bad4984e5cfcdc70febe3dc1f84e3a158b2407029b35327860b4e01", func := "barrage/barragelaw01.TideKnows", spec := "tideKnows", unfollowed := true, recurses := true, apart := false, narrowed := true }
def TideKnowsUptoSaid : Prop := tideKnowsUptoRow.holds Try.pinned (OpenSpec.upto tideKnowsSpec)

/-- 'barragelaw01.TideCycles', WHERE WHAT IT READS IS OF BULK AT MOST 1048576: true; the input reads as it did. -/
def tideCyclesUptoRow : OpenClaim := { program := "ytpgmehignepidaa", sum := "3d827a583bad4984e5cfcdc70febe3dc1f84e3a158b2407029b35327860b4e01", func := "barrage/barragelaw01.TideCycles", spec := "tideCycles", unfollowed := true, recurses := true, apart := false, narrowed := true }
def TideCyclesUptoSaid : Prop := tideCyclesUptoRow.holds Try.pinned (OpenSpec.upto tideCyclesSpec)

/-- 'barragelaw01.TideLevels', WHERE WHAT IT READS IS OF BULK AT MOST 1048576: true; the input reads as it did. -/
def tideLevelsUptoRow : OpenClaim := { program := "ytpgmehignepidaa", sum := "3d827a583bad4984e5cfcdc70febe3dc1f84e3a158b2407029b35327860b4e01", func := "barrage/barragelaw01.TideLevels", spec := "tideLevels", unfollowed := true, recurses := true, apart := false, narrowed := true }
def TideLevelsUptoSaid : Prop := tideLevelsUptoRow.holds Try.pinned (OpenSpec.upto tideLevelsSpec)

/-- 'barragelaw01.TideSounds', WHERE WHAT IT READS IS OF BULK AT MOST 1048576: true; the input reads as it did. -/
def tideSoundsUptoRow : OpenClaim := { program := "ytpgmehignepidaa", sum := "3d827a583bad4984e5cfcdc70febe3dc1f84e3a158b2407029b35327860b4e01", func := "barrage/barragelaw01.TideSounds", spec := "tideSounds", unfollowed := true, recurses := true, apart := false, narrowed := true }
def TideSoundsUptoSaid : Prop := tideSoundsUptoRow.holds Try.pinned (OpenSpec.upto tideSoundsSpec)

/-- 'barragelaw01.TideVotes', WHERE WHAT IT READS IS OF BULK AT MOST 1048576: true; the input reads as it did. -/
def tideVotesUptoRow : OpenClaim := { program := "ytpgmehignepidaa", sum := "3d827a583bad4984e5cfcdc70febe3dc1f84e3a158b2407029b35327860b4e01", func := "barrage/barragelaw01.TideVotes", spec := "tideVotes", unfollowed := true, recurses := true, apart := false, narrowed := true }
def TideVotesUptoSaid : Prop := tideVotesUptoRow.holds Try.pinned (OpenSpec.upto tideVotesSpec)

/-- 'barragelaw01.TideOrders', WHERE WHAT IT READS IS OF BULK AT MOST 1048576: true; the input reads as it did. -/
def tideOrdersUptoRow : OpenClaim := { program := "ytpgmehignepidaa", sum := "3d827a583bad4984e5cfcdc70febe3dc1f84e3a158b2407029b35327860b4e01", func := "barrage/barragelaw01.TideOrders", spec := "tideOrders", unfollowed := true, recurses := true, apart := false, narrowed := true }
def TideOrdersUptoSaid : Prop := tideOrdersUptoRow.holds Try.pinned (OpenSpec.upto tideOrdersSpec)

/-- 'barragelaw01.TideFitted', WHERE WHAT IT READS IS OF BULK AT MOST 1048576: true; the input reads as it did. -/
def tideFittedUptoRow : OpenClaim := { program := "ytpgmehignepidaa", sum := "3d827a583bad4984e5cfcdc70febe3dc1f84e3a158b2407029b35327860b4e01", func := "barrage/barragelaw01.TideFitted", spec := "tideFitted", unfollowed := true, recurses := true, apart := false, narrowed := true }
def TideFittedUptoSaid : Prop := tideFittedUptoRow.holds Try.pinned (OpenSpec.upto tideFittedSpec)

/-- 'barragelaw01.TideResiduals', WHERE WHAT IT READS IS OF BULK AT MOST 1048576: true; the input reads as it did. -/
def tideResidualsUptoRow : OpenClaim := { program := "ytpgmehignepidaa", sum := "3d827a583bad4984e5cfcdc70febe3dc1f84e3a158b2407029b35327860b4e01", func := "barrage/barragelaw01.TideResiduals", spec := "tideResiduals", unfollowed := true, recurses := true, apart := false, narrowed := true }
def TideResidualsUptoSaid : Prop := tideResidualsUptoRow.holds Try.pinned (OpenSpec.upto tideResidualsSpec)

/-- 'barragelaw01.TideDiffers', WHERE WHAT IT READS IS OF BULK AT MOST 1048576: true; the input reads as it did. -/
def tideDiffersUptoRow : OpenClaim := { program := "ytpgmehignepidaa", sum := "3d827a583bad4984e5cfcdc70febe3dc1f84e3a158b2407029b35327860b4e01", func := "barrage/barragelaw01.TideDiffers", spec := "tideDiffers", unfollowed := true, recurses := true, apart := false, narrowed := true }
def TideDiffersUptoSaid : Prop := tideDiffersUptoRow.holds Try.pinned (OpenSpec.upto tideDiffersSpec)

/-- 'barragelaw01.TideHighest', WHERE WHAT IT READS IS OF BULK AT MOST 1048576: true; the input reads as it did. -/
def tideHighestUptoRow : OpenClaim := { program := "ytpgmehignepidaa", sum := "3d827a583bad4984e5cfcdc70febe3dc1f84e3a158b2407029b35327860b4e01", func := "barrage/barragelaw01.TideHighest", spec := "tideHighest", unfollowed := true, recurses := true, apart := false, narrowed := true }
def TideHighestUptoSaid : Prop := tideHighestUptoRow.holds Try.pinned (OpenSpec.upto tideHighestSpec)

/-- 'barragelaw01.TideHighs', WHERE WHAT IT READS IS OF BULK AT MOST 1048576: true; the input reads as it did. -/
def tideHighsUptoRow : OpenClaim := { program := "ytpgmehignepidaa", sum := "3d827a583bad4984e5cfcdc70febe3dc1f84e3a158b2407029b35327860b4e01", func := "barrage/barragelaw01.TideHighs", spec := "tideHighs", unfollowed := true, recurses := true, apart := false, narrowed := true }
def TideHighsUptoSaid : Prop := tideHighsUptoRow.holds Try.pinned (OpenSpec.upto tideHighsSpec)

/-- 'barragelaw01.TideKnown', WHERE WHAT IT READS IS OF BULK AT MOST 1048576: true; the input reads as it did. -/
def tideKnownUptoRow : OpenClaim := { program := "ytpgmehignepidaa", sum := "3d827a583bad4984e5cfcdc70febe3dc1f84e3a158b2407029b35327860b4e01", func := "barrage/barragelaw01.TideKnown", spec := "tideKnown", unfollowed := true, recurses := true, apart := false, narrowed := true }
def TideKnownUptoSaid : Prop := tideKnownUptoRow.holds Try.pinned (OpenSpec.upto tideKnownSpec)

end Rows
end Go.Proofs.Ytpgmehignepidaa
