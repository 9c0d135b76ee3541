/- part -/
import Derived.Test.YtjpojeapdgjbhaaGreatDoorQ24
namespace Go.Proofs.YtjpojeapdgjbhaaGreatDoor
section
variable {frames paces:List Int} {L:Int}
abbrev endsOf (frames:List Int) (L:Int):List Int:=frames++ [L]
def RightF (frames:List Int) (L:Int):Prop:=1<=L/\L<=100000/\(0::(frames++ [L])).Pairwise (· < ·)
def RightP (paces:List Int):Prop:=paces≠ []/\∀p∈paces,1<=p/\p<=20000
theorem RightF.ends_le (h:RightF frames L):∀e∈endsOf frames L,e<=L:=fun e he=>by
 rcases List.mem_append.1 he with h1 | h1
 ·have:=(List.pairwise_append.1 (List.pairwise_cons.1 h.2.2).2).2.2 e h1 L (List.mem_singleton.2 rfl);omega
 ·rw [List.mem_singleton.1 h1];exact Int.le_refl _
theorem RightF.frame (h:RightF frames L):∀e∈frames,0 < e/\e < L:=fun e he=>
 ⟨(List.pairwise_cons.1 h.2.2).1 e (List.mem_append_left _ he),(List.pairwise_append.1 (List.pairwise_cons.1 h.2.2).2).2.2 e he L (List.mem_singleton.2 rfl)⟩
theorem RightF.reach_le (h:RightF frames L) (d:Int):reachOf (endsOf frames L) paces d<=L:=Go.Proofs.YtjpojeapdgjbhaaGreatDoor.reach_le (by have:=h.1;omega) h.ends_le _
theorem RightF.enough (h:RightF frames L) (hp:RightP paces) {d:Int} (hd:L<=d):reachOf (endsOf frames L) paces d=L:=
 reach_enough (List.mem_append_right _ (List.mem_singleton.2 rfl)) h.ends_le (by have:=h.1;omega) hp.1 (fun p hp'=>(hp.2 p hp').1) hd
end
end Go.Proofs.YtjpojeapdgjbhaaGreatDoor
