/- strings.Cut at one byte -/
import Derived.Test.YthmdhlopeponcaaGreatDoorX16
import Derived.Deep.DeepCutAuto
import Derived.IntWalk
namespace Go.Proofs.YthmdhlopeponcaaGreatDoor
open Go.RowKit Dig
end Go.Proofs.YthmdhlopeponcaaGreatDoor
