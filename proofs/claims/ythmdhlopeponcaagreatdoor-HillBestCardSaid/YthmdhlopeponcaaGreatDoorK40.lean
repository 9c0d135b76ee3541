/- part -/
import Derived.Test.YthmdhlopeponcaaGreatDoorK18
namespace Go.Proofs.YthmdhlopeponcaaGreatDoor
abbrev q8 (T:Type):Type:=Int->Option Addr->Nat->Nat->Int->Option Addr->Nat->Nat->T
abbrev q7 (T:Type):Type:=Option Addr->Nat->Nat->Bool->Option Addr->Nat->Nat->T
section
variable {P:Program} {ops:Array Oper} {Q:Exit->Act->World->Prop} {md:Region.Mode} {S:World->Prop} {fuel0:Nat} {listed0:Array Bool} {a0:Act} {w0:World}
theorem nodeM {T T2:Type} (fuel:Nat) (listed:Array Bool) (A:T) (B:T2) (Φ:T->T2->(World->Prop)->(Act->World->Prop)->Prop)
  (h1:Φ A B S (fun a V=>wpAnyH P md ops Q S fuel listed a V)->wpAnyH P md ops Q S fuel0 listed0 a0 w0) (h2:Φ A B S (fun a V=>wpAnyH P md ops Q S fuel listed a V)):wpAnyH P md ops Q S fuel0 listed0 a0 w0:=h1 h2
theorem nodeU {listed:Array Bool} (h:wpAnyH P md ops Q S fuel0 listed a0 w0) (e:listed0=listed):wpAnyH P md ops Q S fuel0 listed0 a0 w0:=e ▸ h
end
section
variable {P:Program} {w W:World} {bs:List (Nat×Array Value×TypeId)} {os:List Rw} {rs:List (World->Prop)}
theorem op_al2 {o:Oper} {a:Act} {K:Act->World->Prop} {Q:Exit->Act->World->Prop} (h:Sy w W bs os rs) (t:TypeId) (ho:o.op= .alloc t) (z:Value) (cs:Array Value) (hc:z.cells=cs) (hz:(P.info? t).map (·.zero)=some (some z))
  (hK:∀b V,Sy w V (bs++ [(b,cs,t)]) os rs->K (a.put o.dst (.pointer (some ⟨b,0,none⟩))) V):Oper.wp P o a W K Q:=by
 subst hc;exact op_al h t ho z hz hK
end
end Go.Proofs.YthmdhlopeponcaaGreatDoor
