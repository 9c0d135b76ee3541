/- part -/
import Derived.Test.YtjpojeapdgjbhaaGreatDoorQ14
namespace Go.Proofs.YtjpojeapdgjbhaaGreatDoor
open Go.RowKit Dig
end Go.Proofs.YtjpojeapdgjbhaaGreatDoor
