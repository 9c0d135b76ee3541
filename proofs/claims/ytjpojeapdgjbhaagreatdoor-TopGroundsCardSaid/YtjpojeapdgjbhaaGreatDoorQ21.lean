/- part -/
import Derived.Test.YtjpojeapdgjbhaaGreatDoorQ1
import Derived.BigQuiet
namespace Go.Proofs.YtjpojeapdgjbhaaGreatDoor
open Go.RowKit
theorem below_dN {B:Nat} {a w:World} (h:Below B a w) (n:Nat):Below B a (w.drewN n):=⟨h.os,h.tape,h.output,h.size,h.block⟩
section
variable {w W W':World} {bs:List (Nat×Array Value×TypeId)} {os:List Rw} {rs rs':List (World->Prop)}
theorem Sy.imp (h:Sy w W bs os rs) (hi:∀V,(∀r∈rs,r V)->∀r∈rs',r V):Sy w W bs os rs':=⟨h.be,h.bx,h.ow,h.inc,fun r hr V hV=>hi V (fun q hq=>h.rd q hq V hV) r hr⟩
end
theorem tkSub {α:Type} (n:Nat) (l:List α) {l':List α} (h:l.take n=l'):l'.Sublist l:=h ▸ List.take_sublist n l
end Go.Proofs.YtjpojeapdgjbhaaGreatDoor
