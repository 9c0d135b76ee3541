/- part -/
import Derived.Test.YthmdhlopeponcaaGreatDoorK14
namespace Go.Proofs.YthmdhlopeponcaaGreatDoor
open Go.RowKit Dig
end Go.Proofs.YthmdhlopeponcaaGreatDoor
