/- part -/
import Derived.Test.YtjpojeapdgjbhaaGreatDoorJ1
import Derived.BigQuiet
namespace Go.Proofs.YtjpojeapdgjbhaaGreatDoor
open Go.RowKit
theorem below_dN {B:Nat} {a w:World} (h:Below B a w) (n:Nat):Below B a (w.drewN n):=⟨h.os,h.tape,h.output,h.size,h.block⟩
section
variable {w W W':World} {bs:List (Nat×Array Value×TypeId)} {os:List Rw} {rs rs':List (World->Prop)}
theorem ownsRow_awayB {own:List Nat} {W V:World} {B:Nat} {e:TypeId} {size n:Nat} {v:Value} {xs:List Value} (h:W.ownsRow B e size v n xs) (hV:Away own W V) (hn:∀b,v.ownBlock=some b->b∉own):V.ownsRow B e size v n xs:=by
 refine⟨h.1,h.2.imp id ?_⟩;rintro ⟨g,cap,cur,rfl,h0,hg,rest⟩;exact⟨g,cap,cur,rfl,h0,(hV.2 g (Array.getElem?_eq_some_iff.1 hg).1 (hn g rfl)).trans hg,rest⟩
theorem Sy.imp (h:Sy w W bs os rs) (hi:∀V,(∀r∈rs,r V)->∀r∈rs',r V):Sy w W bs os rs':=⟨h.be,h.bx,h.ow,h.inc,fun r hr V hV=>hi V (fun q hq=>h.rd q hq V hV) r hr⟩
theorem Sy.retire {v:Value} {e:TypeId} {size n:Nat} {xs:List Value} (h:Sy w W bs (os++ [⟨v,e,size,n,xs⟩]) rs):Sy w W bs os (rs++ [fun V=>V.ownsRow w.heap.size e size v n xs]):=by
 have ho:=h.ow ⟨v,e,size,n,xs⟩ (by simp);have hi:=h.inc;refine(h.thin (List.Sublist.refl _) (List.sublist_append_left _ _)).push fun V hV=>ownsRow_awayB ho hV fun b hb hm=>?_;unfold ownOf at hi hm;rw [List.filterMap_append,<-List.append_assoc]at hi;have h2:(([⟨v,e,size,n,xs⟩]:List Rw).filterMap (fun o=>o.v.ownBlock))= [b]:=by simp [hb]
 rw [h2]at hi;exact(List.nodup_append.1 hi).2.2 b hm b (by simp) rfl
end
end Go.Proofs.YtjpojeapdgjbhaaGreatDoor
