/-
  DERIVED. GIVEN WITH THE SEED: THE CARDS: each row of YtchbdfcbogjhcaaGreatDoorRows.lean that lists a variable, with what it lists TIED to the program's text (the seventh form; the later family's looks); each row that meets fmt, with fmt's text TOLD by the authors' own Lean function (tested against real Go, not proved from fmt's source: count such statements apart). THE CARD IS WHAT COUNTS. Prove the row's statement (the work); the ties are given (YtchbdfcbogjhcaaGreatDoorTie.lean); close each card by the builder's one call (the guide's Derived/Test/ToyasCard.lean, 'card_holds'). Laid BY PROGRAM, IN A SANDBOX (cutbox-door.mjs). By AI agents, Wed Nov 11 2026. No macro, syntax, notation, axiom, sorry.
-/
import Derived.Test.YtchbdfcbogjhcaaGreatDoorRows
import GoSem.ClaimSeven
namespace Go.Proofs.YtchbdfcbogjhcaaGreatDoor
namespace Rows

/-- THE TIED CARD OF 'barragetop.TopSurge'. -/
def topSurgeCard : Claim7 := { stood := { row := topSurgeRow, standIns := [], harness := (true, "fcac4c40c0bd879f15be60868b7de7bd4713538ecb0214c08f9cb601f43f0b04"), looks := false }, kinds := [], alts := [], laidByText := true, laidKinds := [.data], laidTests := true, laidLooks := .later }
def TopSurgeCardSaid : Prop := Claim7.holds Tryz.pinned (.plain (OpenSpec.ofChange topSurgeSpec)) topSurgeCard

/-- THE SECOND FORM's CARD OF 'barragetop.TopSurge'. -/
def topSurgeUptoCard : Claim7 := { stood := { row := topSurgeUptoRow, standIns := [], harness := (true, "fcac4c40c0bd879f15be60868b7de7bd4713538ecb0214c08f9cb601f43f0b04"), looks := false }, kinds := [], alts := [], laidByText := true, laidKinds := [.data], laidTests := true, laidLooks := .later }
def TopSurgeUptoCardSaid : Prop := Claim7.holds Tryz.pinned (.plain (OpenSpec.upto topSurgeSpec)) topSurgeUptoCard
end Rows
end Go.Proofs.YtchbdfcbogjhcaaGreatDoor
