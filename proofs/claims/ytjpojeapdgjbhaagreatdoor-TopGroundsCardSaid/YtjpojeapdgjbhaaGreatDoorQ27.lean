/- part -/
import Derived.Test.YtjpojeapdgjbhaaGreatDoorQ26
import Derived.Laws.EntriesVeiled
namespace Go.Proofs.YtjpojeapdgjbhaaGreatDoor
open Go.RowKit
section
variable (w W:World)
end
section
variable (w:World)
end
end Go.Proofs.YtjpojeapdgjbhaaGreatDoor
