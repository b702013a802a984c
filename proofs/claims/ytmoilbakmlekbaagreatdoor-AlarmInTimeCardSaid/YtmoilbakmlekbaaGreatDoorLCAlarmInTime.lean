/- The closed facts of the row of AlarmInTime. -/
import Derived.Test.YtmoilbakmlekbaaGreatDoorRows
import Derived.JoinedOf
set_option linter.all false
namespace Go.Proofs.YtmoilbakmlekbaaGreatDoor.alarmInTime
open Go
theorem closed : joinedFacts Tryz.pinned.checked.prog 3 Tryz.f3 Rows.alarmInTimeSpec Rows.alarmInTimeRow = true := by kernel_rfl
end Go.Proofs.YtmoilbakmlekbaaGreatDoor.alarmInTime
