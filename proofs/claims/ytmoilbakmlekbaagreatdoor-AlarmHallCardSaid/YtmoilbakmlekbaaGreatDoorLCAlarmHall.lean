/- The closed facts of the row of AlarmHall. -/
import Derived.Test.YtmoilbakmlekbaaGreatDoorRows
import Derived.JoinedOf
set_option linter.all false
namespace Go.Proofs.YtmoilbakmlekbaaGreatDoor.alarmHall
open Go
theorem closed : joinedFacts Tryz.pinned.checked.prog 5 Tryz.f5 Rows.alarmHallSpec Rows.alarmHallRow = true := by kernel_rfl
end Go.Proofs.YtmoilbakmlekbaaGreatDoor.alarmHall
