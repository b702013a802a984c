/- The closed facts of the row of AlarmFrom. -/
import Derived.Test.YtmoilbakmlekbaaGreatDoorRows
import Derived.JoinedOf
set_option linter.all false
namespace Go.Proofs.YtmoilbakmlekbaaGreatDoor.alarmFrom
open Go
theorem closed : joinedFacts Tryz.pinned.checked.prog 16 Tryz.f16 Rows.alarmFromSpec Rows.alarmFromRow = true := by kernel_rfl
end Go.Proofs.YtmoilbakmlekbaaGreatDoor.alarmFrom
