/- part -/
import Derived.Test.YtjpojeapdgjbhaaGreatDoorJ2
namespace Go.Proofs.YtjpojeapdgjbhaaGreatDoor
def markRow (E:List Int) (r:List Bool) (far:Int):List Bool:=(List.range E.length).map fun b=>r.getD b false || (List.range b).any fun a=>r.getD a false && decide (E.getD b 0 - E.getD a 0<=far)
def marks0 (E:List Int):List Bool:=(List.range E.length).map fun b=>decide (b=0)
def marks (E:List Int) (paces:List Int) (days:Int):List Bool:=paces.foldl (fun r p=>markRow E r (p*days)) (marks0 E)
theorem getD_at {l:List Int} {i:Nat} (h:i < l.length):l.getD i 0=l[i]:=by
 rw [List.getD_eq_getElem?_getD,List.getElem?_eq_getElem h];rfl
def bestAt (r:List Int):Nat:=(List.range r.length).foldl (fun b i=>if r.getD b 0 < r.getD i 0 then i else b) 0
def pennyStep (s:List Int×List Int):List Int×List Int:=(s.1.set (bestAt s.2) (s.1.getD (bestAt s.2) 0+1),s.2.set (bestAt s.2) (-1))
def pennies:Nat->List Int×List Int->List Int×List Int
 | 0,s=>s
 | m+1,s=>pennyStep (pennies m s)
def gone (r:List Int) (is:List Nat):List Int:=is.foldl (fun r i=>r.set i (-1)) r
def rests (s all:Int) (parts:List Int):List Int:=parts.map fun n=>s*n % all
section
variable {s:Int} {parts:List Int} {order:List Nat}
end
section
open Go.RowKit
end
section
abbrev Us:=Int×Int
def meetsB (u o:Us):Bool:=decide (u.1 < o.2) && decide (o.1 < u.2)
def hasDay (d:Int) (u:Us):Bool:=decide (u.1<=d) && decide (d < u.2)
def onB (l:List Us) (d:Int):Nat:=l.countP (hasDay d)
abbrev at0 (l:List Us) (k:Nat):Us:=l.getD k (0,0)
def before (l:List Us) (i k:Nat):Prop:=(at0 l i).1 < (at0 l k).1\/(at0 l i).1=(at0 l k).1/\i < k
section
variable {l:List Us}
structure AllotI (l:List Us) (P:List Nat) (s:List Int×Int×Int):Prop where
 un:∀k,k∉P->s.1.getD k (-1)= -1
 az:∀k,k∈P->∃m:Nat,s.1.getD k (-1)=(m:Int)/\(m:Int) < s.2.1
 ok:∀i k,i∈P->k∈P->i≠k->meetsB (at0 l i) (at0 l k)=true->s.1.getD i (-1)≠s.1.getD k (-1)
 n0:0<=s.2.1
 z:P= []->s.2=(0,0)
 d:P≠ []->∃j,∃h:j < P.length,0 < s.2.1/\s.1.getD P[j] (-1)=s.2.1 - 1/\s.2.2=(at0 l P[j]).1/\(∀t (ht:t < j),s.1.getD (P[t]'(by omega)) (-1) < s.2.1 - 1)/\s.2.1<=onB l (at0 l P[j]).1
end
end
end Go.Proofs.YtjpojeapdgjbhaaGreatDoor
