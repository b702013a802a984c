/- The closed facts of the row of AlarmFloods. -/
import Derived.Test.YtmoilbakmlekbaaGreatDoorRows
import Derived.JoinedOf
set_option linter.all false
namespace Go.Proofs.YtmoilbakmlekbaaGreatDoor.alarmFloods
open Go
theorem closed : joinedFacts Tryz.pinned.checked.prog 17 Tryz.f17 Rows.alarmFloodsSpec Rows.alarmFloodsRow = true := by kernel_rfl
end Go.Proofs.YtmoilbakmlekbaaGreatDoor.alarmFloods
