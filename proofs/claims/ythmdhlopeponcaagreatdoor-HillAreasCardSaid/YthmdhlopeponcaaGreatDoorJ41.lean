/- a part of the proof -/
import Derived.Test.YthmdhlopeponcaaGreatDoorJ7
import Derived.Deep.RegionHeld3
namespace Go.Proofs.YthmdhlopeponcaaGreatDoor
open Go.RowKit Dig
section
variable {P:Program} {ops:Array Oper} {Q:Exit->Act->World->Prop} {md:Region.Mode} {S:World->Prop} {w W:World} {bs:List (Nat×Array Value×TypeId)} {rs:List (World->Prop)} {fuel:Nat} {l:Array Bool} {a:Act}
end
end Go.Proofs.YthmdhlopeponcaaGreatDoor
