/- FjTopRetires1 -/
import Derived.Test.YtpokipdpjhookaaGreatDoorCards
import Derived.Test.YtpokipdpjhookaaGreatDoorTie
import Derived.LaidMore
import Derived.Lay
import Derived.Test.YtpokipdpjhookaaGreatDoorBTopRetires01
set_option maxHeartbeats 8000000
set_option maxRecDepth 20000
set_option linter.all false
namespace Go.Proofs.YtpokipdpjhookaaGreatDoor.topRetires
open Go.ChangeShapes Go.WideShapes Go.ChangeAt Go.RowKit
open Go.ChangeMaps (open_string shut_string)
set_option linter.unusedVariables false
theorem j9 : ((Rows.topRetiresRow.inPlace == Tryz.prog.inPlace 3)) = true := by kernel_rfl
theorem j10 : ((Rows.topRetiresRow.unfollowed == Tryz.prog.unfollowed 3)) = true := by kernel_rfl
end Go.Proofs.YtpokipdpjhookaaGreatDoor.topRetires
