/- The closed facts of the row of AlarmKnown. -/
import Derived.Test.YtmoilbakmlekbaaGreatDoorRows
import Derived.JoinedOf
set_option linter.all false
namespace Go.Proofs.YtmoilbakmlekbaaGreatDoor.alarmKnown
open Go
theorem closed : joinedFacts Tryz.pinned.checked.prog 15 Tryz.f15 Rows.alarmKnownSpec Rows.alarmKnownRow = true := by kernel_rfl
end Go.Proofs.YtmoilbakmlekbaaGreatDoor.alarmKnown
