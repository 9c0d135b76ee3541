/- part -/
import Derived.Test.YthmdhlopeponcaaGreatDoorK7
namespace Go.Proofs.YthmdhlopeponcaaGreatDoor
open Go.RowKit Dig
section
variable {w W:World} {bs:List (Nat×Array Value×TypeId)} {rs:List (World->Prop)}
theorem St.setk {i b:Nat} {cs:Array Value} {t:TypeId} (hi:i < bs.length) (h:St w W (bs.set i (b,cs,t)) rs) (j:Nat) (v:Value):St w (W.setCell ⟨b,j,none⟩ v) (bs.set i (b,cs.setIfInBounds j v,t)) rs:=by
 have:=h.set i (j:=j) (v:=v) (b:=b) (cs:=cs) (t:=t) (by rw [List.getElem?_set_self hi]);rwa [List.set_set]at this
theorem St.set0 {i:Nat} {x:Nat×Array Value×TypeId} (h:St w W bs rs) (hx:bs[i]? =some x):i < bs.length/\St w W (bs.set i x) rs:=by
 obtain ⟨hi,rfl⟩:=List.getElem?_eq_some_iff.1 hx;exact⟨hi,by rw [List.set_getElem_self];exact h⟩
theorem St.set2 (h:St w W bs rs) (i:Nat) {b:Nat} {t:TypeId} {u0 u1 v0 v1:Value} (hx:bs[i]? =some (b,#[u0,u1],t)):St w ((W.setCell ⟨b,0,none⟩ v0).setCell ⟨b,1,none⟩ v1) (bs.set i (b,#[v0,v1],t)) rs:=by
 have H:=(St.setk (h.set0 hx).1 (St.setk (h.set0 hx).1 (h.set0 hx).2 0 v0) 1 v1)
 simpa only [List.setIfInBounds_toArray,List.set_cons_zero,List.set_cons_succ] using H
theorem St.set4 (h:St w W bs rs) (i:Nat) {b:Nat} {t:TypeId} {u0 u1 u2 u3 v0 v1 v2 v3:Value} (hx:bs[i]? =some (b,#[u0,u1,u2,u3],t)):St w ((((W.setCell ⟨b,0,none⟩ v0).setCell ⟨b,1,none⟩ v1).setCell ⟨b,2,none⟩ v2).setCell ⟨b,3,none⟩ v3) (bs.set i (b,#[v0,v1,v2,v3],t)) rs:=by
 have H:=(St.setk (h.set0 hx).1 (St.setk (h.set0 hx).1 (St.setk (h.set0 hx).1 (St.setk (h.set0 hx).1 (h.set0 hx).2 0 v0) 1 v1) 2 v2) 3 v3)
 simpa only [List.setIfInBounds_toArray,List.set_cons_zero,List.set_cons_succ] using H
end
end Go.Proofs.YthmdhlopeponcaaGreatDoor
