/- The closed facts of the row of AlarmStages. -/
import Derived.Test.YtmoilbakmlekbaaGreatDoorRows
import Derived.JoinedOf
set_option linter.all false
namespace Go.Proofs.YtmoilbakmlekbaaGreatDoor.alarmStages
open Go
theorem closed : joinedFacts Tryz.pinned.checked.prog 7 Tryz.f7 Rows.alarmStagesSpec Rows.alarmStagesRow = true := by kernel_rfl
end Go.Proofs.YtmoilbakmlekbaaGreatDoor.alarmStages
