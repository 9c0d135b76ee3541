/- part -/
import Derived.Test.YtjpojeapdgjbhaaGreatDoorJ29
namespace Go.Proofs.YtjpojeapdgjbhaaGreatDoor
open Go.RowKit Dig
end Go.Proofs.YtjpojeapdgjbhaaGreatDoor
