/- The closed facts of the row of AlarmOrders. -/
import Derived.Test.YtmoilbakmlekbaaGreatDoorRows
import Derived.JoinedOf
set_option linter.all false
namespace Go.Proofs.YtmoilbakmlekbaaGreatDoor.alarmOrders
open Go
theorem closed : joinedFacts Tryz.pinned.checked.prog 11 Tryz.f11 Rows.alarmOrdersSpec Rows.alarmOrdersRow = true := by kernel_rfl
end Go.Proofs.YtmoilbakmlekbaaGreatDoor.alarmOrders
