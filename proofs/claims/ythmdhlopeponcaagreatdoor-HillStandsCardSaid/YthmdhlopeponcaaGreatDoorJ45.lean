/- the reference's Breaks -/
import Derived.Test.YthmdhlopeponcaaGreatDoorJ35
import Derived.Test.YthmdhlopeponcaaGreatDoorJ27
namespace Go.Proofs.YthmdhlopeponcaaGreatDoor
open Go.RowKit Go.Shelf Dig
section
variable (w:World)
set_option maxHeartbeats 2000000 in
set_option maxRecDepth 100000 in
theorem rHasQ_any (a:Option Addr) (n c:Nat) (l:List Pt) (x:Int) (hs:Sx 2 w a n c (L2 l)) (h0:0 < n):Calls Tryz.prog 53 #[.slice a n c,.int .i64 x] w (fun e w'=>e= .returned (.bool (hasB l x))∧∃m,w'=w.drewN m):=by
 obtain rfl:=hs.n2
 have hcap:=hs.cap
 unfold maxLen at hcap
 obtain ⟨g0,o0,rfl⟩:=hs.addr h0
 obtain ⟨x0,-⟩:=hs.at2 h0
 rw [Nat.zero_mul,Nat.add_zero]at x0
 obtain ⟨x1,-⟩:=hs.at2 (show l.length - 1 < l.length by omega)
 have HE:=Lib.hid (show hasB l x=inB x l[0].1 l[l.length - 1].1 from by unfold hasB;rw [hX_at h0,hX_at (show l.length - 1 < l.length by omega)])
 rw [HE.out]
 clear HE hs
 obtain ⟨j,hj⟩:∃j:Nat,j=l.length - 1:=⟨_,rfl⟩
 generalize l[0].1=y0 at*
 generalize l[l.length - 1].1=y1 at*
 rw [←hj]at x1
 have i2:IntKind.i64.wrap ((l.length:Int) - 1)=(j:Int):=by rw [IntWalk.i64_in _ (by omega)];omega
 have i0:(0:Int)≤(j:Int):=by omega
 have i1:(j:Int) < (l.length:Int):=by omega
 have i3:(0:Int) < (l.length:Int):=by omega
 have HI:=Lib.hid (fun W=>rIn_any W x y0 y1)
 clear hj
 go_enter Tryz.func53,Tryz.ntmps53
 go_wp2
 go_big_quiet (exact Calls.quiet_of_same (HI.out _))
 go_wp2
 go_ret
 exact⟨rfl,_,rfl⟩
theorem brk_no1 {l:List Pt} {bs:List Int} {k:Nat} (hk:k < bs.length) (h:hasB l bs[k]=false):brkB l bs=false:=by
 have:bs.all (hasB l)=false:=List.all_eq_false.2 ⟨_,List.getElem_mem hk,by rw [h];exact Bool.false_ne_true⟩
 unfold brkB
 rw [this];simp
theorem brk_no2 {l:List Pt} {bs:List Int} {k:Nat} (hk:k+1 < bs.length) (h:bs[k+1]≤bs[k]):brkB l bs=false:=by
 have:upI bs=false:=by
  cases e:upI bs
  ·rfl
  ·have:=upI_iff.1 e k hk
   rw [bX_at (show k < bs.length by omega),bX_at hk]at this
   omega
 unfold brkB
 rw [this];simp
theorem brk_end {l:List Pt} {bs:List Int} (hp:profB l=true) (h:∀i (hi:i < bs.length),hasB l bs[i]=true∧∀hj:i - 1 < bs.length,0 < i→bs[i - 1] < bs[i]):brkB l bs=inB bs.length 2 61:=by
 have h1:bs.all (hasB l)=true:=List.all_eq_true.2 fun p hp=>by
  obtain ⟨i,hi,rfl⟩:=List.getElem_of_mem hp
  exact(h i hi).1
 have h2:upI bs=true:=upI_iff.2 fun i hi=>by
  have:=(h (i+1) hi).2 (by omega) (by omega)
  rw [bX_at (show i < bs.length by omega),bX_at hi]
  simpa using this
 unfold brkB
 rw [hp,h1,h2]
 simp
set_option maxHeartbeats 8000000 in
set_option maxRecDepth 100000 in
theorem rBreaks_any (a:Option Addr) (n c:Nat) (l:List Pt) (hs:Sx 2 w a n c (L2 l)) (ba:Option Addr) (bn bc:Nat) (bs:List Int) (hb:Sx 1 w ba bn bc (L1 bs)) (hp:profB l=true):
  Calls Tryz.prog 21 #[.slice a n c,.slice ba bn bc] w (Gives (.bool (brkB l bs)) w):=by
 obtain rfl:=hb.n1
 have hcap:=hb.cap
 unfold maxLen at hcap
 have HS:=Lib.hid (fun W (hW:Below w.heap.size w W) x=>rHasQ_any W a n c l x (hs.below hW) (by have:=hs.n2;have:=(prof_iff.1 hp).two;omega))
 have HB:=Lib.hid hb
 have HN1:=Lib.hid (fun k hk h=>brk_no1 (l:=l) (bs:=bs) (k:=k) hk h)
 have HN2:=Lib.hid (fun k hk h=>brk_no2 (l:=l) (bs:=bs) (k:=k) hk h)
 have HEN:=Lib.hid (fun h=>brk_end (l:=l) (bs:=bs) hp h)
 clear hs hb hp
 generalize brkB l bs=R at*
 go_enter Tryz.func21,Tryz.ntmps21
 go_wp2
 go_loopw [5] (fun iv wr=>∃k:Nat,k≤bs.length∧iv= .int .i64 k∧Hid (∀i (hi:i < bs.length),i < k→hasB l bs[i]=true∧∀hj:i - 1 < bs.length,0 < i→bs[i - 1] < bs[i])∧Hid (Sy w wr [] [] [])) (fun iv _=>bs.length - (intOf iv).toNat)
 case atStart=>exact⟨0,Nat.zero_le _,rfl,Lib.hid (fun i _ h=>absurd h (Nat.not_lt_zero i)),Lib.hid (Sy.enter w)⟩
 case round=>
  obtain ⟨k,hk,rfl,HI,hS⟩:=hrel
  by_cases hlt:k < bs.length
  ·obtain ⟨g0,o0,rfl⟩:=HB.out.addr (by omega)
   have x0:=(hS.out.sx HB.out).at1 hlt
   have i0:(0:Int)≤(k:Int):=by omega
   have i1:(k:Int) < (bs.length:Int):=by omega
   have HK1:=Lib.hid (HN1.out k hlt)
   have HNX:=Lib.hid (show hasB l bs[k]=true→(∀hj:k - 1 < bs.length,0 < k→bs[k - 1] < bs[k])→∀i (hi:i < bs.length),i < k+1→hasB l bs[i]=true∧∀hj:i - 1 < bs.length,0 < i→bs[i - 1] < bs[i]from fun h1 h2 i hi hik=>by
    rcases Nat.lt_or_ge i k with h | h
    ·exact HI.out i hi h
    ·have:i=k:=by omega
     subst this;exact⟨h1,h2⟩)
   have HA:=Lib.hid (fun n=>HS.out (wr.drewN n) (below_dN hS.out.be n) bs[k])
   have HPV:=Lib.hid (fun(h:k - 1 < bs.length)=>(hS.out.sx HB.out).at1 h)
   have HK2:=Lib.hid (show ∀ (h:k - 1 < bs.length),0 < k→bs[k]≤bs[k - 1]→R=false from fun h h0 h1=>by
    obtain ⟨j,rfl⟩:∃j,k=j+1:=⟨k - 1,by omega⟩
    exact HN2.out j hlt (by simpa using h1))
   clear HI
   generalize bs[k]=u at*
   generalize hasB l u=hu at*
   go_upto_region 4 with fail
   cases hu
   ·have HG:=Lib.hid (HK1.out rfl)
    go_big_quiet (with_reducible exact Calls.quiet_of (HA.out _))
    have hZ:=Lib.hid (hS.out.call (below_dN (Below.refl _ _) nq))
    go_wp2
    go_ret
    exact⟨ret_bool HG.out.symm,hZ.out.be⟩
   rcases Nat.eq_zero_or_pos k with hk0 | hk0
   ·have hkn:decide (0 < k)=false:=decide_eq_false (by omega)
    have HNX2:=Lib.hid (HNX.out rfl (fun _ h=>absurd h (by omega)))
    clear hk0
    go_big_quiet (with_reducible exact Calls.quiet_of (HA.out _))
    have hZ:=Lib.hid (hS.out.call (below_dN (Below.refl _ _) nq))
    go_wp2
    go_roundw
    case rel=>exact⟨k+1,by omega,by go_num,HNX2,hZ⟩
    case measure=>simp [intOf];omega
   ·have hkn:decide (0 < k)=true:=decide_eq_true hk0
    have hkz:(0:Int) < (k:Int):=by omega
    have v2:IntKind.i64.wrap ((k:Int) - 1)=((k - 1:Nat):Int):=by rw [IntWalk.i64_in _ (by omega)];omega
    have n1:(k:Int) - 1=((k - 1:Nat):Int):=by omega
    have n2:(0:Int)≤((k - 1:Nat):Int):=by omega
    have n3:((k - 1:Nat):Int) < (bs.length:Int):=by omega
    have hk1:k - 1 < bs.length:=by omega
    have y0:=HPV.out hk1
    have HK3:=Lib.hid (HK2.out hk1 hk0)
    have HNX3:=Lib.hid (show bs[k - 1] < u→_ from fun h=>HNX.out rfl (fun _ _=>h))
    clear HPV HK2 HNX
    generalize bs[k - 1]=pv at*
    by_cases hle:u≤pv
    ·have HG:=Lib.hid (HK3.out hle)
     have d1:=decide_eq_true hle
     go_big_quiet (with_reducible exact Calls.quiet_of (HA.out _))
     have hZ:=Lib.hid (hS.out.call (below_dN (Below.refl _ _) nq))
     go_wp2
     go_ret
     exact⟨ret_bool HG.out.symm,hZ.out.be⟩
    ·have d1:=decide_eq_false hle
     have HNX4:=Lib.hid (HNX3.out (by omega))
     go_big_quiet (with_reducible exact Calls.quiet_of (HA.out _))
     have hZ:=Lib.hid (hS.out.call (below_dN (Below.refl _ _) nq))
     go_wp2
     go_roundw
     case rel=>exact⟨k+1,by omega,by go_num,HNX4,hZ⟩
     case measure=>simp [intOf];omega
  ·obtain rfl:k=bs.length:=by omega
   have HG:=Lib.hid (HEN.out (fun i hi=>HI.out i hi hi))
   have HQ:=Lib.hid (show inB (bs.length:Int) 2 61=(decide ((2:Int)≤bs.length) && decide ((bs.length:Int)≤61))from rfl)
   by_cases q1:(2:Int)≤(bs.length:Int)
   ·by_cases q2:(bs.length:Int)≤61
    ·go_wp2
     go_ret
     exact⟨ret_bool (by rw [HG.out,HQ.out,decide_eq_true (show(2:Int)≤bs.length by omega),decide_eq_true (show(bs.length:Int)≤61 by omega)];first | done | rfl),hS.out.be⟩
    ·go_wp2
     go_ret
     exact⟨ret_bool (by rw [HG.out,HQ.out,decide_eq_true (show(2:Int)≤bs.length by omega),decide_eq_false (show ¬ (bs.length:Int)≤61 by omega)];first | done | rfl),hS.out.be⟩
   ·go_wp2
    go_ret
    exact⟨ret_bool (by rw [HG.out,HQ.out,decide_eq_false (show ¬ (2:Int)≤bs.length by omega)];first | done | rfl),hS.out.be⟩
end
end Go.Proofs.YthmdhlopeponcaaGreatDoor
