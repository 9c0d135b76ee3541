/- a part of the proof -/
import Derived.Test.YthmdhlopeponcaaGreatDoorJ15
import Derived.Deep.DeepCutAuto
import Derived.IntWalk
namespace Go.Proofs.YthmdhlopeponcaaGreatDoor
open Go.RowKit Dig
end Go.Proofs.YthmdhlopeponcaaGreatDoor
