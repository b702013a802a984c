/- The closed facts of the row of AlarmParts. -/
import Derived.Test.YtmoilbakmlekbaaGreatDoorRows
import Derived.JoinedOf
set_option linter.all false
namespace Go.Proofs.YtmoilbakmlekbaaGreatDoor.alarmParts
open Go
theorem closed : joinedFacts Tryz.pinned.checked.prog 12 Tryz.f12 Rows.alarmPartsSpec Rows.alarmPartsRow = true := by kernel_rfl
end Go.Proofs.YtmoilbakmlekbaaGreatDoor.alarmParts
