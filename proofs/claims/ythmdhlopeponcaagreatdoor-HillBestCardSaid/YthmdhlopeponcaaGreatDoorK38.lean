/- part -/
import Derived.Test.YthmdhlopeponcaaGreatDoorK7
namespace Go.Proofs.YthmdhlopeponcaaGreatDoor
open Go.RowKit Dig
section
variable {P:Program} {ops:Array Oper} {Q:Exit->Act->World->Prop} {md:Region.Mode} {S:World->Prop} {w W:World} {bs:List (Nat×Array Value×TypeId)} {rs:List (World->Prop)} {fuel:Nat} {l:Array Bool} {a:Act}
theorem wpAnyH_gen (h:St w W bs rs) (hS:S W) (k:∀V,St w V bs rs->S V->wpAnyH P md ops Q S fuel l a V):wpAnyH P md ops Q S fuel l a W:=k W h hS
theorem stepH {K':Act->World->Prop} (hK:Shut (∀a w,S w->(S w->wpAnyH P md ops Q S fuel l a w)->K' a w)) (h:St w W bs rs) (hS:∀V,St w V bs rs->S V) (k:∀V,St w V bs rs->S V->wpAnyH P md ops Q S fuel l a V):K' a W:=
 hK.out _ _ (hS W h) (fun hs=>k W h hs)
end
end Go.Proofs.YthmdhlopeponcaaGreatDoor
