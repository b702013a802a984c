/- The closed facts of the row of AlarmBlocked. -/
import Derived.Test.YtmoilbakmlekbaaGreatDoorRows
import Derived.JoinedOf
set_option linter.all false
namespace Go.Proofs.YtmoilbakmlekbaaGreatDoor.alarmBlocked
open Go
theorem closed : joinedFacts Tryz.pinned.checked.prog 14 Tryz.f14 Rows.alarmBlockedSpec Rows.alarmBlockedRow = true := by kernel_rfl
end Go.Proofs.YtmoilbakmlekbaaGreatDoor.alarmBlocked
