/- The closed facts of the row of AlarmRest. -/
import Derived.Test.YtmoilbakmlekbaaGreatDoorRows
import Derived.JoinedOf
set_option linter.all false
namespace Go.Proofs.YtmoilbakmlekbaaGreatDoor.alarmRest
open Go
theorem closed : joinedFacts Tryz.pinned.checked.prog 10 Tryz.f10 Rows.alarmRestSpec Rows.alarmRestRow = true := by kernel_rfl
end Go.Proofs.YtmoilbakmlekbaaGreatDoor.alarmRest
