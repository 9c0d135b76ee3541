/- cells of rows of integers -/
import Derived.Test.YthmdhlopeponcaaGreatDoorJ27
import Derived.Test.YthmdhlopeponcaaGreatDoorJ29
namespace Go.Proofs.YthmdhlopeponcaaGreatDoor
open Go.RowKit Go.Shelf Dig
theorem Sx.atX {W:World} {g o n c:Nat} {l:List Int} (h:Sx 1 W (some ⟨g,o,none⟩) n c (L1 l)) {i:Nat} (hi:i < l.length):W.cell? ⟨g,o+i,none⟩=some (.int .i64 (bX l i)):=by rw [bX_at hi];exact h.at1 hi
theorem bX_in {l:List Int} {P:Int→Prop} (h:∀z∈l,P z) {i:Nat} (hi:i < l.length):P (bX l i):=by rw [bX_at hi];exact h _ (List.getElem_mem hi)
theorem L1_one (l:List Int):∀u∈L1 l,u.oneCell'=true:=fun u hu=>by
 obtain ⟨x,_,rfl⟩:=List.mem_map.1 hu
 rfl
end Go.Proofs.YthmdhlopeponcaaGreatDoor
