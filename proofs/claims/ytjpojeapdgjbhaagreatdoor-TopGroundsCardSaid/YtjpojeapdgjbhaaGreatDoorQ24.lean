/- part -/
import Derived.Test.YtjpojeapdgjbhaaGreatDoorQ23
namespace Go.Proofs.YtjpojeapdgjbhaaGreatDoor
def markRow (E:List Int) (r:List Bool) (far:Int):List Bool:=(List.range E.length).map fun b=>r.getD b false || (List.range b).any fun a=>r.getD a false && decide (E.getD b 0 - E.getD a 0<=far)
def marks0 (E:List Int):List Bool:=(List.range E.length).map fun b=>decide (b=0)
def marks (E:List Int) (paces:List Int) (days:Int):List Bool:=paces.foldl (fun r p=>markRow E r (p*days)) (marks0 E)
def gone (r:List Int) (is:List Nat):List Int:=is.foldl (fun r i=>r.set i (-1)) r
def ahead (r:List Int) (i k:Nat):Prop:=r.getD k 0 < r.getD i 0\/r.getD i 0=r.getD k 0/\i < k
def rests (s all:Int) (parts:List Int):List Int:=parts.map fun n=>s*n % all
section
variable {s:Int} {parts:List Int} {order:List Nat}
end
section
open Go.RowKit
def RetRow (w:World) (t:TypeId) (size n:Nat) (xs:List Value) (e:Ending) (w':World):Prop:=∃a c,e= .returned (.slice a n c)/\w'.ownsRow w.heap.size t size (.slice a n c) n xs/\Below w.heap.size w w'
theorem L2_snoc (l:List I2) (k:Nat) (h:k < l.length):L2 (l.take (k+1))=L2 (l.take k)++c2 l[k]:=by rw [List.take_succ_eq_append_getElem h,L2_append];simp [L2]
end
end Go.Proofs.YtjpojeapdgjbhaaGreatDoor
