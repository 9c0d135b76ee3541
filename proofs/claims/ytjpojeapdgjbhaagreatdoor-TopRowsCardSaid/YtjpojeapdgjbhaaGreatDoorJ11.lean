/- part -/
import Derived.Test.YtjpojeapdgjbhaaGreatDoorJ3
import Derived.Test.YtjpojeapdgjbhaaGreatDoorJ10
namespace Go.Proofs.YtjpojeapdgjbhaaGreatDoor
open Go.RowKit
end Go.Proofs.YtjpojeapdgjbhaaGreatDoor
