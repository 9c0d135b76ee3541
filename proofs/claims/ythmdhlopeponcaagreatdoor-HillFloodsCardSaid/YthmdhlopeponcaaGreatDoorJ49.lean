/- the pool's level (plain): below it too little, from it on enough -/
import Derived.Test.YthmdhlopeponcaaGreatDoorJ26
namespace Go.Proofs.YthmdhlopeponcaaGreatDoor
open Go.RowKit Go.Shelf Dig
theorem mono_thr {p:Nat->Bool} :∀N:Nat,(∀x y,x<=y->y < N->p x=true->p y=true)->∃k,k<=N/\(∀i,i < k->p i=false)/\∀i,k<=i->i < N->p i=true
 | 0,_=>⟨0,Nat.le_refl _,fun _ h=>absurd h (by omega),fun _ _ h=>absurd h (by omega)⟩
 | N+1,h=>by
   obtain ⟨k,hk,h1,h2⟩:=mono_thr N (fun x y hxy hy hp=>h x y hxy (by omega) hp)
   by_cases hkN:k < N
   ·exact⟨k,by omega,h1,fun i hi hN=>h k i hi hN (h2 k (Nat.le_refl _) hkN)⟩
   ·obtain rfl:k=N:=by omega
    cases hp:p k
    ·refine⟨k+1,Nat.le_refl _,fun i hi=>?_,fun i hi hN=>absurd hN (by omega)⟩
     by_cases e:i=k
     ·rw [e];exact hp
     ·exact h1 i (by omega)
    ·refine⟨k,by omega,h1,fun i hi hN=>?_⟩
     obtain rfl:i=k:=by omega
     exact hp
theorem Strt.poolN_is {l:List Pt} {a b area:Int} (hT:Strt l a b):poolN l a b area<=200001/\(∀i,i < poolN l a b area->poolB l a b area i=false)/\∀i,poolN l a b area<=i->i < 200001->poolB l a b area i=true:=by
 obtain ⟨k,hk,h1,h2⟩:=mono_thr (p:=poolB l a b area) 200001 hT.pool_mono
 have h3:=count_mono (p:=fun i=>if i < 200001 then poolB l a b area i else true) (k:=k) (fun i hi=>by
  split
  ·rename_i h;exact h2 i hi h
  ·rfl) (fun i hi=>by
  rw [if_pos (by omega)]
  exact h1 i hi) 200001
 have e:poolN l a b area=k:=by
  unfold poolN
  rw [show min 200001 k=k by omega]at h3
  rw [<-h3]
  refine List.countP_congr fun i hi=>?_
  rw [if_pos (List.mem_range.1 hi)]
 rw [e]
 exact⟨hk,h1,h2⟩
end Go.Proofs.YthmdhlopeponcaaGreatDoor
