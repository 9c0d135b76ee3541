/- feet are the greatest levels that keep both conditions (plain) -/
import Derived.Test.YthmdhlopeponcaaGreatDoorJ28
namespace Go.Proofs.YthmdhlopeponcaaGreatDoor
section
variable {l:List Pt} {bs:List Int} {d r:Int}
def baseL (l:List Pt) (bs:List Int) (d:Int):List Int:=(nbr bs).map fun t=>footI l t.1 t.2 d
theorem baseL_len:(baseL l bs d).length=bs.length - 1:=by unfold baseL;rw [List.length_map,nbr_len]
theorem baseL_at {i:Nat} (h:i+1 < bs.length):bX (baseL l bs d) i=footI l (bX bs i) (bX bs (i+1)) d:=by
 rw [bX_at (by rw [baseL_len];omega),bX_at h,bX_at (show i < bs.length by omega)]
 unfold baseL
 rw [List.getElem_map]
 have:=nbr_get h
 have hl:i < (nbr bs).length:=by rw [nbr_len];omega
 rw [List.getElem?_eq_getElem hl]at this
 rw [Option.some.inj this]
def okK (l:List Pt) (bs zs:List Int) (d r:Int) (i:Nat):Bool:=
 decide (((bX zs i+d:Int):Rat)≤loQ l (bX bs i) (bX bs (i+1))) && (decide (i=0) || (decide (bX zs i - bX zs (i - 1)≤r) && decide (bX zs (i - 1) - bX zs i≤r)))
def keepB (l:List Pt) (bs zs:List Int) (d r:Int):Bool:=(List.range zs.length).all (okK l bs zs d r)
theorem okK_iff {zs:List Int} {i:Nat} :okK l bs zs d r i=true↔bX zs i≤footI l (bX bs i) (bX bs (i+1)) d∧(0 < i→bX zs i - bX zs (i - 1)≤r∧bX zs (i - 1) - bX zs i≤r):=by
 unfold okK footI
 rw [Bool.and_eq_true,Bool.or_eq_true,Bool.and_eq_true,decide_eq_true_iff,decide_eq_true_iff,decide_eq_true_iff,decide_eq_true_iff,←Rat.le_floor_iff]
 omega
theorem keepB_iff {zs:List Int} :keepB l bs zs d r=true↔∀i,i < zs.length→bX zs i≤footI l (bX bs i) (bX bs (i+1)) d∧(0 < i→bX zs i - bX zs (i - 1)≤r∧bX zs (i - 1) - bX zs i≤r):=by
 unfold keepB
 simp only [List.all_eq_true,List.mem_range,okK_iff]
theorem keepB_no {zs:List Int} {i:Nat} (hi:i < zs.length) (h:okK l bs zs d r i=false):keepB l bs zs d r=false:=by
 cases hk:keepB l bs zs d r
 ·rfl
 ·unfold keepB at hk
  rw [List.all_eq_true]at hk
  have:=hk i (List.mem_range.2 hi)
  rw [h]at this;cases this
theorem keepB_yes {zs:List Int} (h:∀i,i < zs.length→okK l bs zs d r i=true):keepB l bs zs d r=true:=by
 unfold keepB
 rw [List.all_eq_true]
 intro i hi
 exact h i (List.mem_range.1 hi)
theorem step_far {f:Nat→Int} {r:Int} {n:Nat} (h:∀i,i < n→0 < i→f i - f (i - 1)≤r∧f (i - 1) - f i≤r):∀m k,k+m < n→f (k+m)≤f k+r*m∧f k≤f (k+m)+r*m
 | 0,k,_=>by simp
 | m+1,k,hk=>by
   have h1:=step_far h m k (by omega)
   have h2:=h (k+(m+1)) hk (by omega)
   rw [show k+(m+1) - 1=k+m by omega]at h2
   have e:r*((m+1:Nat):Int)=r*(m:Int)+r:=by rw [Int.natCast_add,Int.mul_add];simp
   rw [e]
   omega
theorem keep_le {zs:List Int} (hz:zs.length=bs.length - 1) (hk:keepB l bs zs d r=true) {i:Nat} (hi:i < zs.length) {v:Int} (hv:IsLow (bX (baseL l bs d)) r (bs.length - 1) i v):bX zs i≤v:=by
 have hk':=keepB_iff.1 hk
 obtain ⟨k,hkn,rfl⟩:=hv.ex
 have hb:=(hk' k (by omega)).1
 rw [baseL_at (by omega)]
 have hst:=step_far (f:=bX zs) (r:=r) (n:=zs.length) (fun i h1 h2=>(hk' i h1).2 h2)
 rcases Nat.le_total k i with h | h
 ·have:=(hst (i - k) k (by omega)).1
  rw [show k+(i - k)=i by omega]at this
  rw [dif_ge h]
  have e:((i - k:Nat):Int)=(i:Int) - k:=by omega
  rw [e]at this
  omega
 ·have:=(hst (k - i) i (by omega)).2
  rw [show i+(k - i)=k by omega]at this
  rw [dif_le h]
  have e:((k - i:Nat):Int)=(k:Int) - i:=by omega
  rw [e]at this
  omega
theorem feet_low (hr:0≤r) {i:Nat} (hi:i < bs.length - 1):IsLow (bX (baseL l bs d)) r (bs.length - 1) i (bX (folL min r (baseL l bs d)) i):=by
 rw [folL_at (by rw [baseL_len];exact hi),baseL_len,bkG_min]
 have:=bk_low (l:=bX (baseL l bs d)) hr (n:=bs.length - 1) (bs.length - 1 - 1 - i) (by omega)
 rw [show bs.length - 1 - 1 - (bs.length - 1 - 1 - i)=i by omega]at this
 exact this
theorem feet_keep (hr:0≤r):keepB l bs (folL min r (baseL l bs d)) d r=true:=by
 rw [keepB_iff,folL_len,baseL_len]
 intro i hi
 have hL:=feet_low (l:=l) (d:=d) hr hi
 refine⟨?_,fun h0=>?_⟩
 ·have:=hL.le i hi
  rw [baseL_at (by omega)]at this
  rw [show dif i i=0 by unfold dif;omega,Int.mul_zero,Int.add_zero]at this
  exact this
 ·have hM:=feet_low (l:=l) (d:=d) hr (show i - 1 < bs.length - 1 by omega)
  have h1:=hL.near hr hM (by unfold dif;omega)
  have h2:=hM.near hr hL (by unfold dif;omega)
  omega
theorem feet_most {zs:List Int} (hr:0≤r) (hz:zs.length=bs.length - 1) {i:Nat} (hi:i < zs.length) (h:bX (folL min r (baseL l bs d)) i < bX zs i):keepB l bs zs d r=false:=by
 cases hk:keepB l bs zs d r
 ·rfl
 ·have:=keep_le hz hk hi (feet_low (l:=l) (d:=d) hr (by omega))
  omega
theorem feet_in (hk:brkB l bs=true) (hd:0≤d∧d≤3000) (hr:0≤r):∀z∈folL min r (baseL l bs d),-103000≤z∧z≤100000:=by
 intro z hz
 obtain ⟨i,hi,rfl⟩:=List.getElem_of_mem hz
 rw [←bX_at hi]
 rw [folL_len,baseL_len]at hi
 have hL:=feet_low (l:=l) (d:=d) hr hi
 have hb:∀k,k < bs.length - 1→ -103000≤bX (baseL l bs d) k∧bX (baseL l bs d) k≤100000:=fun k hk'=>by
  have hk2:k+1 < bs.length:=by omega
  have hT:Strt l (bX bs k) (bX bs (k+1)):=by
   rw [bX_at hk2,bX_at (show k < bs.length by omega)];exact brk_strt hk (List.mem_of_getElem? (nbr_get hk2))
  rw [baseL_at hk2]
  have:=hT.lo_gd.floor
  unfold footI
  omega
 obtain ⟨k,hk',e⟩:=hL.ex
 have h1:=hb k hk'
 have h2:=hL.le i hi
 rw [show dif i i=0 by unfold dif;omega,Int.mul_zero,Int.add_zero]at h2
 have h3:=Int.mul_nonneg hr (dif_nonneg i k)
 have h4:=hb i hi
 omega
theorem brk_in (hk:brkB l bs=true) {k:Nat} (h:k < bs.length): -100000≤bX bs k∧bX bs k≤100000:=by
 obtain ⟨hP,_,_,hh⟩:=brk_ok hk
 have h1:=hh _ (List.getElem_mem h)
 unfold hasB at h1
 have h2:=inB_iff.1 h1
 have h3:=hP.bx (i:=0) (by have:=hP.two;omega)
 have h4:=hP.bx (i:=l.length - 1) (by have:=hP.two;omega)
 rw [bX_at h]
 omega
end
end Go.Proofs.YthmdhlopeponcaaGreatDoor
