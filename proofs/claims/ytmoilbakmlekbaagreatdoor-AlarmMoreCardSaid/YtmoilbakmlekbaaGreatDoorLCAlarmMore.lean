/- The closed facts of the row of AlarmMore. -/
import Derived.Test.YtmoilbakmlekbaaGreatDoorRows
import Derived.JoinedOf
set_option linter.all false
namespace Go.Proofs.YtmoilbakmlekbaaGreatDoor.alarmMore
open Go
theorem closed : joinedFacts Tryz.pinned.checked.prog 6 Tryz.f6 Rows.alarmMoreSpec Rows.alarmMoreRow = true := by kernel_rfl
end Go.Proofs.YtmoilbakmlekbaaGreatDoor.alarmMore
