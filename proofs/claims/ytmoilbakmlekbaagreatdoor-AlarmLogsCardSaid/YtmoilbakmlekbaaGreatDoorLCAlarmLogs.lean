/- The closed facts of the row of AlarmLogs. -/
import Derived.Test.YtmoilbakmlekbaaGreatDoorRows
import Derived.JoinedOf
set_option linter.all false
namespace Go.Proofs.YtmoilbakmlekbaaGreatDoor.alarmLogs
open Go
theorem closed : joinedFacts Tryz.pinned.checked.prog 9 Tryz.f9 Rows.alarmLogsSpec Rows.alarmLogsRow = true := by kernel_rfl
end Go.Proofs.YtmoilbakmlekbaaGreatDoor.alarmLogs
