/- The closed facts of the row of TopSurge. -/
import Derived.Test.YtchbdfcbogjhcaaGreatDoorRows
import Derived.JoinedOf
set_option linter.all false
namespace Go.Proofs.YtchbdfcbogjhcaaGreatDoor.topSurge
open Go
theorem closed : joinedFacts Tryz.pinned.checked.prog 3 Tryz.f3 Rows.topSurgeSpec Rows.topSurgeRow = true := by kernel_rfl
end Go.Proofs.YtchbdfcbogjhcaaGreatDoor.topSurge
