/- halving finds the pool's level (plain) -/
import Derived.Test.YthmdhlopeponcaaGreatDoorJ49
import Derived.Test.YthmdhlopeponcaaGreatDoorJ42
namespace Go.Proofs.YthmdhlopeponcaaGreatDoor
theorem half_in {low high:Int} (h:low+2<=high):low < (low+high).tdiv 2/\(low+high).tdiv 2 < high:=by
 have h1:=Int.mul_tdiv_add_tmod (low+high) 2
 have h2:=Int.tmod_lt_of_pos (low+high) (show(0:Int) < 2 by omega)
 have h3:=Int.lt_tmod_of_pos (low+high) (show(0:Int) < 2 by omega)
 generalize (low+high).tdiv 2=q at*
 generalize (low+high).tmod 2=r at*
 omega
section
variable {l:List Pt} {a b area:Int}
theorem poolB_at {z:Int} (h: -100000<=z):poolB l a b area (z+100000).toNat=decide (0<=cmpQ (below l a b z) (area:Rat)):=by
 unfold poolB
 rw [show(((z+100000).toNat:Nat):Int) - 100000=z by omega]
theorem Strt.pool_no (hT:Strt l a b) (h:cmpQ (below l a b 100000) (area:Rat) < 0):poolN l a b area=200001:=by
 obtain ⟨p1,p2,p3⟩:=hT.poolN_is (area:=area)
 rcases Nat.lt_or_ge (poolN l a b area) 200001 with h1 | h1
 ·have:=p3 200000 (by omega) (by omega)
  rw [show 200000=((100000:Int)+100000).toNat from rfl,poolB_at (by omega),decide_eq_true_eq]at this
  omega
 ·omega
theorem Strt.pool_end (hT:Strt l a b) {low high:Int} (h1:high<=low+1) (h2: -100001<=low/\low < high/\high<=100000) (h3: -100001 < low->cmpQ (below l a b low) (area:Rat) < 0) (h4:0<=cmpQ (below l a b high) (area:Rat)):poolN l a b area≠200001/\high=(poolN l a b area:Int) - 100000:=by
 obtain ⟨p1,p2,p3⟩:=hT.poolN_is (area:=area)
 have q1:poolN l a b area<=(high+100000).toNat:=by
  rcases Nat.lt_or_ge (high+100000).toNat (poolN l a b area)with h | h
  ·have:=p2 _ h
   rw [poolB_at (by omega),decide_eq_false_iff_not]at this
   omega
  ·exact h
 have q2:(high+100000).toNat<=poolN l a b area:=by
  rcases Int.lt_or_le (-100001) low with h | h
  ·have e:=h3 h
   rcases Nat.lt_or_ge (low+100000).toNat (poolN l a b area)with g | g
   ·omega
   ·have:=p3 _ g (by omega)
    rw [poolB_at (by omega),decide_eq_true_eq]at this
    omega
  ·omega
 omega
theorem Strt.integ_bq (hT:Strt l a b) {z:Int} (hz: -200000<=z/\z<=200000):Bq 8000 (integ l a b z):=by
 have h1:=part_bq (f:=pieceI l z) (R:=cor l a b) (N:=117) (k:=(cor l a b).length - 1) (fun t ht=>hT.pieceI_bq hz ht) (by
  have:=hT.ok.forty
  unfold cor ins
  rw [List.length_cons,List.length_append,List.length_singleton]
  have:=List.length_filter_le (fun x=>decide (a < x) && decide (x < b)) (l.map (·.x))
  rw [List.length_map]at this
  omega)
 rw [hT.integ_is]at h1
 exact h1.mono (by omega)
end
theorem below_of {x y z:Rat} (h:x - y=z):x - z=y:=by grind
end Go.Proofs.YthmdhlopeponcaaGreatDoor
