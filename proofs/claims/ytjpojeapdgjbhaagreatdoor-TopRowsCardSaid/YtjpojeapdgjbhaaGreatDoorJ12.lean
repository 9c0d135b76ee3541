/- part -/
import Derived.Test.YtjpojeapdgjbhaaGreatDoorJ6
import Derived.Test.YtjpojeapdgjbhaaGreatDoorJ8
import Derived.Test.YtjpojeapdgjbhaaGreatDoorShelf
import Derived.Shelf.SlicesE.Kit
namespace Go.Proofs.YtjpojeapdgjbhaaGreatDoor
open Go.RowKit Go.Sort
end Go.Proofs.YtjpojeapdgjbhaaGreatDoor
