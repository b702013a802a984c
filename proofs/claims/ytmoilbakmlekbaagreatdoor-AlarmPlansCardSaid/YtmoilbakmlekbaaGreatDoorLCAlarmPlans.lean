/- The closed facts of the row of AlarmPlans. -/
import Derived.Test.YtmoilbakmlekbaaGreatDoorRows
import Derived.JoinedOf
set_option linter.all false
namespace Go.Proofs.YtmoilbakmlekbaaGreatDoor.alarmPlans
open Go
theorem closed : joinedFacts Tryz.pinned.checked.prog 13 Tryz.f13 Rows.alarmPlansSpec Rows.alarmPlansRow = true := by kernel_rfl
end Go.Proofs.YtmoilbakmlekbaaGreatDoor.alarmPlans
