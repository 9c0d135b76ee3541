/- part -/
import Derived.Test.YtjpojeapdgjbhaaGreatDoorJ3
import Derived.Shelf.Abstract
import Derived.Laws.EntriesVeiled
namespace Go.Proofs.YtjpojeapdgjbhaaGreatDoor
open Go.RowKit
section
variable (w W:World)
end
section
variable (w:World)
end
end Go.Proofs.YtjpojeapdgjbhaaGreatDoor
