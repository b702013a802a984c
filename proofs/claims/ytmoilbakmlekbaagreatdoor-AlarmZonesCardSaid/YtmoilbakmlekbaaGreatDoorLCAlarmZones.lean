/- The closed facts of the row of AlarmZones. -/
import Derived.Test.YtmoilbakmlekbaaGreatDoorRows
import Derived.JoinedOf
set_option linter.all false
namespace Go.Proofs.YtmoilbakmlekbaaGreatDoor.alarmZones
open Go
theorem closed : joinedFacts Tryz.pinned.checked.prog 8 Tryz.f8 Rows.alarmZonesSpec Rows.alarmZonesRow = true := by kernel_rfl
end Go.Proofs.YtmoilbakmlekbaaGreatDoor.alarmZones
