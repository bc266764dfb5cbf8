/- FjTopRetires0 -/
import Derived.Test.YtpokipdpjhookaaGreatDoorCards
import Derived.Test.YtpokipdpjhookaaGreatDoorTie
import Derived.LaidMore
import Derived.Lay
import Derived.Test.YtpokipdpjhookaaGreatDoorBTopRetires01
set_option maxHeartbeats 8000000
set_option maxRecDepth 20000
set_option linter.all false
namespace Go.Proofs.YtpokipdpjhookaaGreatDoor.topRetires
open Go.ChangeShapes Go.WideShapes Go.ChangeAt Go.RowKit
open Go.ChangeMaps (open_string shut_string)
set_option linter.unusedVariables false
theorem j0 : (Rows.topRetiresRow.wf (OpenSpec.ofChange Rows.topRetiresSpec)) = true := by kernel_rfl
theorem j1 : (laidOutB Tryz.prog) = true := by kernel_rfl
theorem j2 : (mapsRowed Tryz.prog) = true := by kernel_rfl
theorem j3 : (Tryz.f3.params.all (Tryz.prog.readableRec ·)) = true := by kernel_rfl
theorem j4 : (namedTie Tryz.prog Rows.topRetiresRow.named Rows.topRetiresSpec.vars) = true := by kernel_rfl
theorem j5 : ((Rows.topRetiresRow.stops == [])) = true := by kernel_rfl
theorem j6 : ((Tryz.prog.stops == [])) = true := by kernel_rfl
theorem j7 : ((Rows.topRetiresRow.knobs == [])) = true := by kernel_rfl
theorem j8 : ((Tryz.prog.stopKnobs == [])) = true := by kernel_rfl
end Go.Proofs.YtpokipdpjhookaaGreatDoor.topRetires
