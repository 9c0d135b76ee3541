/- part -/
import Derived.Test.YtjpojeapdgjbhaaGreatDoorQ27
import Derived.Test.YtjpojeapdgjbhaaGreatDoorQ28
import Derived.StillTailTactics
namespace Go.Proofs.YtjpojeapdgjbhaaGreatDoor
open Go.RowKit
section
variable (w:World)
end
end Go.Proofs.YtjpojeapdgjbhaaGreatDoor
