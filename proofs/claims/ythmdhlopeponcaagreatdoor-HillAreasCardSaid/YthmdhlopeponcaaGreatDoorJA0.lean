/- part -/
import Derived.Test.YthmdhlopeponcaaGreatDoorJ26
import Derived.Test.YthmdhlopeponcaaGreatDoorJ42
import Derived.Test.YthmdhlopeponcaaGreatDoorJ0
import Derived.Test.YthmdhlopeponcaaGreatDoorJ48
import Derived.Test.YthmdhlopeponcaaGreatDoorJ44
import Derived.Test.YthmdhlopeponcaaGreatDoorJ40
import Derived.Test.YthmdhlopeponcaaGreatDoorJ1
import Derived.Test.YthmdhlopeponcaaGreatDoorJ25
import Derived.Test.YthmdhlopeponcaaGreatDoorJ30
import Derived.Test.YthmdhlopeponcaaGreatDoorJ45
import Derived.Test.YthmdhlopeponcaaGreatDoorJ47
import Derived.Test.YthmdhlopeponcaaGreatDoorJ22
section
namespace Go.Proofs.YthmdhlopeponcaaGreatDoor
open Go.RowKit Go.Shelf Dig
theorem mono_thr {p:Nat->Bool} :∀N:Nat,(∀x y,x<=y->y < N->p x=true->p y=true)->∃k,k<=N/\(∀i,i < k->p i=false)/\∀i,k<=i->i < N->p i=true
 | 0,_=>⟨0,Nat.le_refl _,fun _ h=>absurd h (by omega),fun _ _ h=>absurd h (by omega)⟩
 | N+1,h=>by
   obtain ⟨k,hk,h1,h2⟩:=mono_thr N (fun x y hxy hy hp=>h x y hxy (by omega) hp)
   by_cases hkN:k < N
   ·exact⟨k,by omega,h1,fun i hi hN=>h k i hi hN (h2 k (Nat.le_refl _) hkN)⟩
   ·obtain rfl:k=N:=by omega
    cases hp:p k
    ·refine⟨k+1,Nat.le_refl _,fun i hi=>?_,fun i hi hN=>absurd hN (by omega)⟩
     by_cases e:i=k
     ·rw [e];exact hp
     ·exact h1 i (by omega)
    ·refine⟨k,by omega,h1,fun i hi hN=>?_⟩
     obtain rfl:i=k:=by omega
     exact hp
theorem Strt.poolN_is {l:List Pt} {a b area:Int} (hT:Strt l a b):poolN l a b area<=200001/\(∀i,i < poolN l a b area->poolB l a b area i=false)/\∀i,poolN l a b area<=i->i < 200001->poolB l a b area i=true:=by
 obtain ⟨k,hk,h1,h2⟩:=mono_thr (p:=poolB l a b area) 200001 hT.pool_mono
 have h3:=count_mono (p:=fun i=>if i < 200001 then poolB l a b area i else true) (k:=k) (fun i hi=>by
  split
  ·rename_i h;exact h2 i hi h
  ·rfl) (fun i hi=>by
  rw [if_pos (by omega)]
  exact h1 i hi) 200001
 have e:poolN l a b area=k:=by
  unfold poolN
  rw [show min 200001 k=k by omega]at h3
  rw [<-h3]
  refine List.countP_congr fun i hi=>?_
  rw [if_pos (List.mem_range.1 hi)]
 rw [e]
 exact⟨hk,h1,h2⟩
end Go.Proofs.YthmdhlopeponcaaGreatDoor
end
section
namespace Go.Proofs.YthmdhlopeponcaaGreatDoor
theorem half_in {low high:Int} (h:low+2<=high):low < (low+high).tdiv 2/\(low+high).tdiv 2 < high:=by
 have h1:=Int.mul_tdiv_add_tmod (low+high) 2
 have h2:=Int.tmod_lt_of_pos (low+high) (show(0:Int) < 2 by omega)
 have h3:=Int.lt_tmod_of_pos (low+high) (show(0:Int) < 2 by omega)
 generalize (low+high).tdiv 2=q at*
 generalize (low+high).tmod 2=r at*
 omega
section
variable {l:List Pt} {a b area:Int}
theorem poolB_at {z:Int} (h: -100000<=z):poolB l a b area (z+100000).toNat=decide (0<=cmpQ (below l a b z) (area:Rat)):=by
 unfold poolB
 rw [show(((z+100000).toNat:Nat):Int) - 100000=z by omega]
theorem Strt.pool_no (hT:Strt l a b) (h:cmpQ (below l a b 100000) (area:Rat) < 0):poolN l a b area=200001:=by
 obtain ⟨p1,p2,p3⟩:=hT.poolN_is (area:=area)
 rcases Nat.lt_or_ge (poolN l a b area) 200001 with h1 | h1
 ·have:=p3 200000 (by omega) (by omega)
  rw [show 200000=((100000:Int)+100000).toNat from rfl,poolB_at (by omega),decide_eq_true_eq]at this
  omega
 ·omega
theorem Strt.pool_end (hT:Strt l a b) {low high:Int} (h1:high<=low+1) (h2: -100001<=low/\low < high/\high<=100000) (h3: -100001 < low->cmpQ (below l a b low) (area:Rat) < 0) (h4:0<=cmpQ (below l a b high) (area:Rat)):poolN l a b area≠200001/\high=(poolN l a b area:Int) - 100000:=by
 obtain ⟨p1,p2,p3⟩:=hT.poolN_is (area:=area)
 have q1:poolN l a b area<=(high+100000).toNat:=by
  rcases Nat.lt_or_ge (high+100000).toNat (poolN l a b area)with h | h
  ·have:=p2 _ h
   rw [poolB_at (by omega),decide_eq_false_iff_not]at this
   omega
  ·exact h
 have q2:(high+100000).toNat<=poolN l a b area:=by
  rcases Int.lt_or_le (-100001) low with h | h
  ·have e:=h3 h
   rcases Nat.lt_or_ge (low+100000).toNat (poolN l a b area)with g | g
   ·omega
   ·have:=p3 _ g (by omega)
    rw [poolB_at (by omega),decide_eq_true_eq]at this
    omega
  ·omega
 omega
theorem Strt.integ_bq (hT:Strt l a b) {z:Int} (hz: -200000<=z/\z<=200000):Bq 8000 (integ l a b z):=by
 have h1:=part_bq (f:=pieceI l z) (R:=cor l a b) (N:=117) (k:=(cor l a b).length - 1) (fun t ht=>hT.pieceI_bq hz ht) (by
  have:=hT.ok.forty
  unfold cor ins
  rw [List.length_cons,List.length_append,List.length_singleton]
  have:=List.length_filter_le (fun x=>decide (a < x) && decide (x < b)) (l.map (·.x))
  rw [List.length_map]at this
  omega)
 rw [hT.integ_is]at h1
 exact h1.mono (by omega)
end
theorem below_of {x y z:Rat} (h:x - y=z):x - z=y:=by grind
end Go.Proofs.YthmdhlopeponcaaGreatDoor
end
section
set_option maxRecDepth 100000
set_option maxHeartbeats 8000000
namespace Go.Proofs.YthmdhlopeponcaaGreatDoor
open Go.RowKit Go.Shelf Dig
def RetFl (w:World) (N:Nat) (e:Ending) (w':World):Prop:=∃ (lev:Int) (some_:Bool),e= .returned (.tuple #[.int .i64 lev,.bool some_])/\Hid ((some_=false->N=200001)/\(some_=true->N≠200001/\lev=(N:Int) - 100000))/\Below w.heap.size w w'
section
variable (w:World)
theorem rBelow_any (a:OA) (n c:Nat) (l:List Pt) (x y z:Int) (hs:Sx 2 w a n c (L2 l)) (hT:Strt l x y) (hz: -100000<=z/\z<=100000):
  Calls Tryz.prog 49 #[.slice a n c,.int .i64 x,.int .i64 y,.int .i64 z] w (RetNQ w (below l x y z)):=by
 have HA:=ζ (fun W (hW:Below w.heap.size w W)=>rAbove_any W a n c l x y z (hs.below hW) hT (by omega))
 have HI:=ζ (fun W (hW:Below w.heap.size w W)=>rIntegral_any W a n c l x y z (hs.below hW) hT (by omega))
 have BA:=ζ (hT.above_bq (z:=z) (by unfold InZ;omega))
 have BI:=ζ (hT.integ_bq (z:=z) (by omega))
 have HE:=ζ (below_of (above_below l x y z))
 clear hs hT hz
 generalize above l x y z=qa at*
 generalize integ l x y z=qi at*
 generalize below l x y z=qb at*
 have hC:=ζ ((Sy.enter w).al w.heap.size #[.int .i64 0,.slice none 0 0,.int .i64 0,.slice none 0 0] 50 rfl)
 go_enter Tryz.func49,Tryz.ntmps49
 go_wp2_with fail
 refine(HA.out _ hC.out.be).mono ?_
 rintro e W1 ⟨s1,a1,n1,c1,t1,d1,e1,f1,rfl,hq,hb⟩
 have hD:=ζ ((hC.out.call hb).pq rfl rfl hq)
 clear hb hq hC HA
 go_wp2_with fail
 refine(HI.out _ hD.out.be).mono ?_
 rintro e W2 ⟨s2,a2,n2,c2,t2,d2,e2,f2,rfl,hq,hb⟩
 have hE:=ζ ((hD.out.call hb).pq rfl rfl hq)
 clear hb hq hD HI
 go_wp2_with fail
 refine(rsubN_b (hE.out.r 0 rfl) (hE.out.r 1 rfl) BA.out BI.out (by omega) (by omega)).mono ?_
 rintro e W3 ⟨s3,a3,n3,c3,t3,d3,e3,f3,rfl,hq,hb⟩
 rw [HE.out]at hq
 have hF:=ζ ((hE.out.call hb).pq rfl rfl hq)
 clear hb hq hE
 have AE:=hF.out.c 0 0
 have AA:=hF.out.f 0 0
 have AF:=hF.out.c 0 1
 have AB:=hF.out.f 0 1
 have AG:=hF.out.c 0 2
 have AC:=hF.out.f 0 2
 have AH:=hF.out.c 0 3
 have AD:=hF.out.f 0 3
 go_wp2
 have hZ:=ζ (hF.out|>.set (j:=0) (v:= .int .i64 s3) 0 rfl|>.set (j:=1) (v:= .slice a3 n3 c3) 0 rfl|>.set (j:=2) (v:= .int .i64 t3) 0 rfl|>.set (j:=3) (v:= .slice d3 e3 f3) 0 rfl)
 refine ret_sy hZ.out (v:= .agg #[.int .i64 s3,.slice a3 n3 c3,.int .i64 t3,.slice d3 e3 f3]) (fun hF=>?_) rfl (fun hF=>⟨_,_,_,_,_,_,_,_,rfl,hF.r 2 rfl,hF.be⟩)
 have g0:=hF.c 0 0
 have g1:=hF.c 0 1
 have g2:=hF.c 0 2
 have g3:=hF.c 0 3
 simp [results,Tryz.results49,go_sem,g0,g1,g2,g3]
theorem rFlood_any (a:OA) (n c:Nat) (l:List Pt) (x y area:Int) (hs:Sx 2 w a n c (L2 l)) (hT:Strt l x y) (ha:1<=area/\area<=1000000000000):
  Calls Tryz.prog 38 #[.slice a n c,.int .i64 x,.int .i64 y,.int .i64 area] w (RetFl w (poolN l x y area)):=by
 have HB:=ζ (fun W (hW:Below w.heap.size w W) z hz=>rBelow_any W a n c l x y z (hs.below hW) hT hz)
 have BB:=ζ (fun z (hz: -100000<=z/\z<=100000)=>hT.below_bq (z:=z) (by unfold InZ;omega))
 have HO:=ζ (fun W=>ofN_any area (by omega) W)
 have BO:=ζ (Bq.int (n:=41) (z:=area) (by unfold Bd;omega))
 have HNO:=ζ (fun h=>hT.pool_no (area:=area) h)
 have HEN:=ζ (fun low high h1 h2 h3 h4=>hT.pool_end (area:=area) (low:=low) (high:=high) h1 h2 h3 h4)
 have HBE:=ζ (show ∀z,∃q,below l x y z=q from fun z=>⟨_,rfl⟩)
 clear hs hT ha
 generalize below l x y=bel at*
 generalize poolN l x y area=N at*
 have hC:=ζ (Sy.enter w)
 go_enter Tryz.func38,Tryz.ntmps38
 go_wp2_with fail
 refine(HB.out _ hC.out.be 100000 (by omega)).mono ?_
 rintro e W1 ⟨s1,a1,n1,c1,t1,d1,e1,f1,rfl,hq,hb⟩
 have hD:=ζ ((hC.out.call hb).pq rfl rfl hq)
 clear hb hq hC
 go_wp2_with fail
 refine(HO.out _).mono ?_
 rintro e W2 ⟨s2,a2,n2,c2,t2,d2,e2,f2,rfl,hq,hb⟩
 have hE:=ζ ((hD.out.call hb).pq rfl rfl hq)
 clear hb hq hD
 obtain ⟨v,hv⟩:∃v,cmpQ (bel 100000) (area:Rat)=v:=⟨_,rfl⟩
 have HV:=ζ hv
 clear hv
 go_wp2_with fail
 refine(rcmpN_is (hE.out.r 0 rfl) (hE.out.r 1 rfl) (BB.out 100000 (by omega)) BO.out (by omega) (by omega) HV.out).mono ?_
 rintro e W3 ⟨rfl,hb⟩
 have hF:=ζ ((hE.out.call hb).pick [] (rs':=[]) rfl)
 clear hb hE
 by_cases hn:v < 0
 ·have HN:=ζ (HNO.out (by rw [HV.out];exact hn))
  go_wp2
  go_ret2
  exact⟨0,false,rfl,ζ ⟨fun _=>HN.out,fun h=>absurd h (by decide)⟩,hF.out.be⟩
 have H0:=ζ (show 0<=cmpQ (bel 100000) (area:Rat)by rw [HV.out];omega)
 go_upto_region 4 with fail
 clear hn
 go_wp2
 go_loopw [10,11] (fun lv hv wr=>∃low high:Int,lv= .int .i64 low/\hv= .int .i64 high/\(-100001<=low/\low < high/\high<=100000)/\Hid (-100001 < low->cmpQ (bel low) (area:Rat) < 0)/\Hid (0<=cmpQ (bel high) (area:Rat))/\Hid (Sy w wr [] [] [])) (fun lv hv _=>(intOf hv - intOf lv).toNat)
 case atStart=>exact⟨-100001,100000,rfl,rfl,by omega,ζ (fun h=>absurd h (by omega)),H0,hF⟩
 case round=>
  clear hF
  obtain ⟨low,high,rfl,rfl,hlh,HLO,HHI,hS⟩:=hrel
  have e1:IntKind.i64.wrap (high - low)=high - low:=IntWalk.i64_in _ (by omega)
  by_cases hgo:low+2<=high
  ·have hz:=half_in hgo
   have e2:IntKind.i64.wrap (low+high)=low+high:=IntWalk.i64_in _ (by omega)
   obtain ⟨z,hze⟩:∃z,(low+high).tdiv 2=z:=⟨_,rfl⟩
   rw [hze]at hz
   have e3:IntKind.i64.wrap ((low+high).tdiv 2)=z:=by rw [hze];exact IntWalk.i64_in _ (by omega)
   have e4:1 < high - low:=by omega
   clear hze
   go_wp2_with fail
   refine(HB.out _ hS.out.be z (by omega)).mono ?_
   rintro e W4 ⟨s1,a1,n1,c1,t1,d1,e1,f1,rfl,hq,hb⟩
   have hD:=ζ ((hS.out.call hb).pq rfl rfl hq)
   clear hb hq hS
   go_wp2_with fail
   refine(HO.out _).mono ?_
   rintro e W5 ⟨s2,a2,n2,c2,t2,d2,e2,f2,rfl,hq,hb⟩
   have hE:=ζ ((hD.out.call hb).pq rfl rfl hq)
   clear hb hq hD
   obtain ⟨v,hv⟩:∃v,cmpQ (bel z) (area:Rat)=v:=⟨_,rfl⟩
   have HV:=ζ hv
   clear hv
   go_wp2_with fail
   refine(rcmpN_is (hE.out.r 0 rfl) (hE.out.r 1 rfl) (BB.out z (by omega)) BO.out (by omega) (by omega) HV.out).mono ?_
   rintro e W6 ⟨rfl,hb⟩
   have hF:=ζ ((hE.out.call hb).pick [] (rs':=[]) rfl)
   clear hb hE
   by_cases hn:0<=v
   ·have HN:=ζ (show 0<=cmpQ (bel z) (area:Rat)by rw [HV.out];exact hn)
    go_wp2
    go_roundw
    case rel=>exact⟨low,z,rfl,rfl,by omega,HLO,HN,hF⟩
    case measure=>simp [intOf];omega
   ·have HN:=ζ (show -100001 < z->cmpQ (bel z) (area:Rat) < 0 from fun _=>by rw [HV.out];omega)
    go_wp2
    go_roundw
    case rel=>exact⟨z,high,rfl,rfl,by omega,HN,HHI,hF⟩
    case measure=>simp [intOf];omega
  ·have e4:¬ 1 < high - low:=by omega
   have HN:=ζ (HEN.out low high (by omega) hlh HLO.out HHI.out)
   go_wp2
   go_ret2
   exact⟨high,true,rfl,ζ ⟨fun h=>absurd h (by decide),fun _=>HN.out⟩,hS.out.be⟩
end
end Go.Proofs.YthmdhlopeponcaaGreatDoor
end
section
set_option maxRecDepth 100000
set_option maxHeartbeats 8000000
namespace Go.Proofs.YthmdhlopeponcaaGreatDoor
open Go.RowKit Go.Shelf Dig
section
variable (w:World)
theorem mQ16_0 {P_ : Prop} (h : P_ := by
 refine(nil0_any _ _ 3 3 (RowZ.of3 hR.out 1 rfl (hR.out.r 0 rfl) (hR.out.r 1 rfl) (hR.out.r 2 rfl)) (by omega)).mono ?_
 rintro e WN5 ⟨rfl,hb⟩
 have hN5:=ζ (show Sy w _ [(b10,#[.slice ap np cp,.bool mp,.slice dp ep fp],42),(b11,#[.slice aq nq cq,.bool mq,.slice dq eq fq],42),(b13,#[.slice ar nr cr,.bool mr,.slice dr er fr],42)] [⟨.slice a1 l.length c1,83,2,l.length,L2 l⟩] [(fun V=>Rd V (.slice ap np cp) mp (.slice dp ep fp) (0)),(fun V=>Rd V (.slice aq nq cq) mq (.slice dq eq fq) (0)),(fun V=>Rd V (.slice ar nr cr) mr (.slice dr er fr) (0))]from(hR.out.call hb).thin (List.Sublist.refl _) (List.sublist_append_left [_] _))
 clear hb hR hN4 y0_0 y0_1 y0_2 y1_0 y1_1 y1_2 y2_0 y2_1 y2_2
 go_wp2_with fail
 refine(HW.out _).mono ?_
 rintro e WZ ⟨rfl,hb⟩
 have hZ:=ζ (hN5.out.call hb)
 clear hb
 go_wp2
 go_ret
 exact⟨rfl,hZ.out.be⟩) : P_ := h
theorem hillAreas_walk (la:OA) (ln lc:Nat) (l:List Pt) (a b z:Int) (hs:Sx 2 w la ln lc (L2 l)):
  Calls Tryz.prog 11 #[.slice la ln lc,.int .i64 a,.int .i64 b,.int .i64 z] w (Gives (.bool true) w):=by
 have HW:=ζ wakes08
 obtain rfl:=hs.n2
 have hC:=ζ (Sy.enter w)
 by_cases g0:50 < l.length
 ·have pl1:=decide_eq_true (show(50:Int) < (l.length:Int)by omega)
  have pl2:=decide_eq_true (show 50 < l.length by omega)
  clear g0
  go_enter Tryz.func11,Tryz.ntmps11
  go_wp2_with fail
  refine(HW.out _).mono ?_
  rintro e WZ ⟨rfl,hb⟩
  have hZ:=ζ (hC.out.call hb)
  clear hb
  go_wp2
  go_ret
  exact⟨rfl,hZ.out.be⟩
 have pl1:=decide_eq_false (show ¬ (50:Int) < (l.length:Int)by omega)
 have pl2:=decide_eq_false (show ¬ 50 < l.length by omega)
 have HS:=ζ (fun W (hW:Below w.heap.size w W)=>hs.below hW)
 have HPT:=ζ (fun W (hW:Below w.heap.size w W)=>conv_Pts la l.length lc l W (HS.out W hW) (by omega))
 have HV:=ζ (fun W (hW:Below w.heap.size w W)=>rValid_any W la l.length lc l (HS.out W hW))
 have HSR:=ζ (fun W (hW:Below w.heap.size w W) h0=>rStretch_any W la l.length lc l a b (HS.out W hW) h0)
 have HIN:=ζ (fun W=>rIn_any W z (-100000) 100000)
 have HRA:=ζ (fun W (hW:Below w.heap.size w W)=>rAbove_any W la l.length lc l a b z (HS.out W hW))
 have HRB:=ζ (fun W (hW:Below w.heap.size w W)=>rBelow_any W la l.length lc l a b z (HS.out W hW))
 have HAB:=ζ (fun er he h0 W c1 c (hh:Sx 2 W c1 l.length c (L2 l))=>hAreas_bad W c1 l.length c l a b hh z er he h0)
 have HAF:=ζ (fun he h0 W c1 c (hh:Sx 2 W c1 l.length c (L2 l))=>hAreas_far W c1 l.length c l a b hh z he h0)
 have HAO:=ζ (fun he h0 W c1 c (hh:Sx 2 W c1 l.length c (L2 l))=>hAreas_ok W c1 l.length c l a b hh z he h0)
 have HPO:=ζ (fun W c1 c p q k hA=>hPool_of W c1 l.length c a b z p q k hA)
 clear hs g0
 go_enter Tryz.func11,Tryz.ntmps11
 go_wp2_with fail
 refine(HPT.out _ hC.out.be).mono ?_
 rintro e W1 ⟨a1,c1,rfl,hr,hb⟩
 have hD:=ζ (show Sy w _ [] [⟨.slice a1 l.length c1,83,2,l.length,L2 l⟩] []from hC.out.adopt hb hr)
 clear hb hr hC HPT
 cases qp:profB l
 ·have HA:=ζ (HAB.out 2 (strErr_bad qp) (by decide))
  rw [qp]at HV
  clear qp HAB HAF HAO
  go_wp2_with fail
  refine(HA.out _ _ _ (hD.out.osx 0 rfl)).mono ?_
  rintro e W ⟨ap,np,cp,mp,dp,ep,fp,aq,nq,cq,mq,dq,eq,fq,rfl,hz1,hz2,hb⟩
  have hY:=ζ (((hD.out.call hb).pR rfl rfl hz1).pR rfl rfl hz2)
  clear hb hz1 hz2 hD
  go_upto_region 5 with fail
  have hX:=ζ (show Sy w _ [(W.heap.size,#[.slice ap np cp,.bool mp,.slice dp ep fp],42),(W.heap.size+1,#[.slice aq nq cq,.bool mq,.slice dq eq fq],42)] [⟨.slice a1 l.length c1,83,2,l.length,L2 l⟩] [(fun V=>Rd V (.slice ap np cp) mp (.slice dp ep fp) (0)),(fun V=>Rd V (.slice aq nq cq) mq (.slice dq eq fq) (0))]from(hY.out.al W.heap.size #[.slice ap np cp,.bool mp,.slice dp ep fp] 42 rfl|>.al (W.heap.size+1) #[.slice aq nq cq,.bool mq,.slice dq eq fq] 42 (by simp)))
  obtain ⟨b11,eb11⟩:∃b,W.heap.size+1=b:=⟨_,rfl⟩
  rw [eb11]at hX⊢
  obtain ⟨b10,eb10⟩:∃b,W.heap.size=b:=⟨_,rfl⟩
  rw [eb10]at hX⊢
  refine wp_geny hX.out ?_
  intro WN1 hc
  have hN1:=ζ hc
  clear hc hX eb11 eb10 hY
  go_wp2_with fail
  refine(HPO.out _ _ _ (0) (0) 2 (fun V hV=>HA.out V _ _ ((hN1.out.osx 0 rfl).below hV))).mono ?_
  rintro e W ⟨ar,nr,cr,mr,dr,er,fr,rfl,hz,hb⟩
  have hY:=ζ ((hN1.out.call hb).pR rfl rfl hz)
  clear hb hz hN1
  go_upto_region 6 with fail
  have hX:=ζ (show Sy w _ [(b10,#[.slice ap np cp,.bool mp,.slice dp ep fp],42),(b11,#[.slice aq nq cq,.bool mq,.slice dq eq fq],42),(W.heap.size,#[.slice ar nr cr,.bool mr,.slice dr er fr],42)] [⟨.slice a1 l.length c1,83,2,l.length,L2 l⟩] [(fun V=>Rd V (.slice ap np cp) mp (.slice dp ep fp) (0)),(fun V=>Rd V (.slice aq nq cq) mq (.slice dq eq fq) (0)),(fun V=>Rd V (.slice ar nr cr) mr (.slice dr er fr) (0))]from hY.out.al W.heap.size #[.slice ar nr cr,.bool mr,.slice dr er fr] 42 rfl)
  obtain ⟨b13,eb13⟩:∃b,W.heap.size=b:=⟨_,rfl⟩
  rw [eb13]at hX⊢
  refine wp_geny hX.out ?_
  intro WN2 hc
  have hN2:=ζ hc
  clear hc hX eb13 hY
  go_wp2_with fail
  refine(HV.out _ hN2.out.be).mono ?_
  rintro e WN3 ⟨rfl,hb⟩
  have hN3:=ζ (hN2.out.call hb)
  clear hb hN2
  have y0_0:=hN3.out.c 0 0
  have y0_1:=hN3.out.c 0 1
  have y0_2:=hN3.out.c 0 2
  have y1_0:=hN3.out.c 1 0
  have y1_1:=hN3.out.c 1 1
  have y1_2:=hN3.out.c 1 2
  have y2_0:=hN3.out.c 2 0
  have y2_1:=hN3.out.c 2 1
  have y2_2:=hN3.out.c 2 2
  go_wp2_with fail
  have hR:=ζ (hN3.out.onew WN3.heap.size #[.slice ap np cp,.bool mp,.slice dp ep fp,.slice aq nq cq,.bool mq,.slice dq eq fq,.slice ar nr cr,.bool mr,.slice dr er fr] 42 3 3 rfl (by omega) rfl)
  refine(nil0_any _ _ 3 3 (RowZ.of3 hR.out 1 rfl (hR.out.r 0 rfl) (hR.out.r 1 rfl) (hR.out.r 2 rfl)) (by omega)).mono ?_
  rintro e WN4 ⟨rfl,hb⟩
  have hN4:=ζ (show Sy w _ [(b10,#[.slice ap np cp,.bool mp,.slice dp ep fp],42),(b11,#[.slice aq nq cq,.bool mq,.slice dq eq fq],42),(b13,#[.slice ar nr cr,.bool mr,.slice dr er fr],42)] [⟨.slice a1 l.length c1,83,2,l.length,L2 l⟩] [(fun V=>Rd V (.slice ap np cp) mp (.slice dp ep fp) (0)),(fun V=>Rd V (.slice aq nq cq) mq (.slice dq eq fq) (0)),(fun V=>Rd V (.slice ar nr cr) mr (.slice dr er fr) (0))]from(hR.out.call hb).thin (List.Sublist.refl _) (List.sublist_append_left [_] _))
  clear hb hR hN3 y0_0 y0_1 y0_2 y1_0 y1_1 y1_2 y2_0 y2_1 y2_2
  go_wp2_with fail
  refine(HW.out _).mono ?_
  rintro e WZ ⟨rfl,hb⟩
  have hZ:=ζ (hN4.out.call hb)
  clear hb
  go_wp2
  go_ret
  exact⟨rfl,hZ.out.be⟩
 rw [qp]at HV
 have HSR2:=ζ (fun W hW=>HSR.out W hW (by have:=(prof_iff.1 qp).two;omega))
 clear HSR
 cases qs:strB l a b
 ·have HA:=ζ (HAB.out 11 (strErr_no qp qs) (by decide))
  rw [qs]at HSR2
  clear qp qs HAB HAF HAO
  go_wp2_with fail
  refine(HA.out _ _ _ (hD.out.osx 0 rfl)).mono ?_
  rintro e W ⟨ap,np,cp,mp,dp,ep,fp,aq,nq,cq,mq,dq,eq,fq,rfl,hz1,hz2,hb⟩
  have hY:=ζ (((hD.out.call hb).pR rfl rfl hz1).pR rfl rfl hz2)
  clear hb hz1 hz2 hD
  go_upto_region 5 with fail
  have hX:=ζ (show Sy w _ [(W.heap.size,#[.slice ap np cp,.bool mp,.slice dp ep fp],42),(W.heap.size+1,#[.slice aq nq cq,.bool mq,.slice dq eq fq],42)] [⟨.slice a1 l.length c1,83,2,l.length,L2 l⟩] [(fun V=>Rd V (.slice ap np cp) mp (.slice dp ep fp) (0)),(fun V=>Rd V (.slice aq nq cq) mq (.slice dq eq fq) (0))]from(hY.out.al W.heap.size #[.slice ap np cp,.bool mp,.slice dp ep fp] 42 rfl|>.al (W.heap.size+1) #[.slice aq nq cq,.bool mq,.slice dq eq fq] 42 (by simp)))
  obtain ⟨b11,eb11⟩:∃b,W.heap.size+1=b:=⟨_,rfl⟩
  rw [eb11]at hX⊢
  obtain ⟨b10,eb10⟩:∃b,W.heap.size=b:=⟨_,rfl⟩
  rw [eb10]at hX⊢
  refine wp_geny hX.out ?_
  intro WN1 hc
  have hN1:=ζ hc
  clear hc hX eb11 eb10 hY
  go_wp2_with fail
  refine(HPO.out _ _ _ (0) (0) 11 (fun V hV=>HA.out V _ _ ((hN1.out.osx 0 rfl).below hV))).mono ?_
  rintro e W ⟨ar,nr,cr,mr,dr,er,fr,rfl,hz,hb⟩
  have hY:=ζ ((hN1.out.call hb).pR rfl rfl hz)
  clear hb hz hN1
  go_upto_region 6 with fail
  have hX:=ζ (show Sy w _ [(b10,#[.slice ap np cp,.bool mp,.slice dp ep fp],42),(b11,#[.slice aq nq cq,.bool mq,.slice dq eq fq],42),(W.heap.size,#[.slice ar nr cr,.bool mr,.slice dr er fr],42)] [⟨.slice a1 l.length c1,83,2,l.length,L2 l⟩] [(fun V=>Rd V (.slice ap np cp) mp (.slice dp ep fp) (0)),(fun V=>Rd V (.slice aq nq cq) mq (.slice dq eq fq) (0)),(fun V=>Rd V (.slice ar nr cr) mr (.slice dr er fr) (0))]from hY.out.al W.heap.size #[.slice ar nr cr,.bool mr,.slice dr er fr] 42 rfl)
  obtain ⟨b13,eb13⟩:∃b,W.heap.size=b:=⟨_,rfl⟩
  rw [eb13]at hX⊢
  refine wp_geny hX.out ?_
  intro WN2 hc
  have hN2:=ζ hc
  clear hc hX eb13 hY
  go_wp2_with fail
  refine(HV.out _ hN2.out.be).mono ?_
  rintro e WN3 ⟨rfl,hb⟩
  have hN3:=ζ (hN2.out.call hb)
  clear hb hN2
  go_wp2_with fail
  refine(HSR2.out _ hN3.out.be).mono ?_
  rintro e WN4 ⟨rfl,hb⟩
  have hN4:=ζ (hN3.out.call hb)
  clear hb hN3
  have y0_0:=hN4.out.c 0 0
  have y0_1:=hN4.out.c 0 1
  have y0_2:=hN4.out.c 0 2
  have y1_0:=hN4.out.c 1 0
  have y1_1:=hN4.out.c 1 1
  have y1_2:=hN4.out.c 1 2
  have y2_0:=hN4.out.c 2 0
  have y2_1:=hN4.out.c 2 1
  have y2_2:=hN4.out.c 2 2
  go_wp2_with fail
  have hR:=ζ (hN4.out.onew WN4.heap.size #[.slice ap np cp,.bool mp,.slice dp ep fp,.slice aq nq cq,.bool mq,.slice dq eq fq,.slice ar nr cr,.bool mr,.slice dr er fr] 42 3 3 rfl (by omega) rfl)
  exact mQ16_0
 rw [qs]at HSR2
 have he0:=strErr_ok qp qs
 have HT:=ζ (strErr_zero he0)
 clear qp qs HAB
 cases qz:inB z (-100000) 100000
 ·have HA:=ζ (HAF.out he0 qz)
  rw [qz]at HIN
  clear qz HAF HAO he0
  go_wp2_with fail
  refine(HA.out _ _ _ (hD.out.osx 0 rfl)).mono ?_
  rintro e W ⟨ap,np,cp,mp,dp,ep,fp,aq,nq,cq,mq,dq,eq,fq,rfl,hz1,hz2,hb⟩
  have hY:=ζ (((hD.out.call hb).pR rfl rfl hz1).pR rfl rfl hz2)
  clear hb hz1 hz2 hD
  go_upto_region 5 with fail
  have hX:=ζ (show Sy w _ [(W.heap.size,#[.slice ap np cp,.bool mp,.slice dp ep fp],42),(W.heap.size+1,#[.slice aq nq cq,.bool mq,.slice dq eq fq],42)] [⟨.slice a1 l.length c1,83,2,l.length,L2 l⟩] [(fun V=>Rd V (.slice ap np cp) mp (.slice dp ep fp) (0)),(fun V=>Rd V (.slice aq nq cq) mq (.slice dq eq fq) (0))]from(hY.out.al W.heap.size #[.slice ap np cp,.bool mp,.slice dp ep fp] 42 rfl|>.al (W.heap.size+1) #[.slice aq nq cq,.bool mq,.slice dq eq fq] 42 (by simp)))
  obtain ⟨b11,eb11⟩:∃b,W.heap.size+1=b:=⟨_,rfl⟩
  rw [eb11]at hX⊢
  obtain ⟨b10,eb10⟩:∃b,W.heap.size=b:=⟨_,rfl⟩
  rw [eb10]at hX⊢
  refine wp_geny hX.out ?_
  intro WN1 hc
  have hN1:=ζ hc
  clear hc hX eb11 eb10 hY
  go_wp2_with fail
  refine(HPO.out _ _ _ (0) (0) 3 (fun V hV=>HA.out V _ _ ((hN1.out.osx 0 rfl).below hV))).mono ?_
  rintro e W ⟨ar,nr,cr,mr,dr,er,fr,rfl,hz,hb⟩
  have hY:=ζ ((hN1.out.call hb).pR rfl rfl hz)
  clear hb hz hN1
  go_upto_region 6 with fail
  have hX:=ζ (show Sy w _ [(b10,#[.slice ap np cp,.bool mp,.slice dp ep fp],42),(b11,#[.slice aq nq cq,.bool mq,.slice dq eq fq],42),(W.heap.size,#[.slice ar nr cr,.bool mr,.slice dr er fr],42)] [⟨.slice a1 l.length c1,83,2,l.length,L2 l⟩] [(fun V=>Rd V (.slice ap np cp) mp (.slice dp ep fp) (0)),(fun V=>Rd V (.slice aq nq cq) mq (.slice dq eq fq) (0)),(fun V=>Rd V (.slice ar nr cr) mr (.slice dr er fr) (0))]from hY.out.al W.heap.size #[.slice ar nr cr,.bool mr,.slice dr er fr] 42 rfl)
  obtain ⟨b13,eb13⟩:∃b,W.heap.size=b:=⟨_,rfl⟩
  rw [eb13]at hX⊢
  refine wp_geny hX.out ?_
  intro WN2 hc
  have hN2:=ζ hc
  clear hc hX eb13 hY
  go_wp2_with fail
  refine(HV.out _ hN2.out.be).mono ?_
  rintro e WN3 ⟨rfl,hb⟩
  have hN3:=ζ (hN2.out.call hb)
  clear hb hN2
  go_wp2_with fail
  refine(HSR2.out _ hN3.out.be).mono ?_
  rintro e WN4 ⟨rfl,hb⟩
  have hN4:=ζ (hN3.out.call hb)
  clear hb hN3
  have y0_0:=hN4.out.c 0 0
  have y0_1:=hN4.out.c 0 1
  have y0_2:=hN4.out.c 0 2
  have y1_0:=hN4.out.c 1 0
  have y1_1:=hN4.out.c 1 1
  have y1_2:=hN4.out.c 1 2
  have y2_0:=hN4.out.c 2 0
  have y2_1:=hN4.out.c 2 1
  have y2_2:=hN4.out.c 2 2
  go_wp2_with ((with_reducible refine(HIN.out _).mono ?_);rintro e WI ⟨rfl,rfl⟩)
  have hR:=ζ (hN4.out.onew WI.heap.size #[.slice ap np cp,.bool mp,.slice dp ep fp,.slice aq nq cq,.bool mq,.slice dq eq fq,.slice ar nr cr,.bool mr,.slice dr er fr] 42 3 3 rfl (by omega) rfl)
  exact mQ16_0
 have HA:=ζ (HAO.out he0 qz)
 have hzb:=inB_iff.1 qz
 have HRA2:=ζ (fun W hW=>HRA.out W hW HT.out (by omega))
 have HRB2:=ζ (fun W hW=>HRB.out W hW HT.out (by omega))
 have BA:=ζ (HT.out.above_bq (z:=z) (by unfold InZ;omega))
 have BB:=ζ (HT.out.below_bq (z:=z) (by unfold InZ;omega))
 rw [qz]at HIN
 clear qz HAF HAO he0 HRA HRB
 generalize above l a b z=qa at*
 generalize below l a b z=qb at*
 go_wp2_with fail
 refine(HA.out _ _ _ (hD.out.osx 0 rfl)).mono ?_
 rintro e W ⟨ap,np,cp,mp,dp,ep,fp,aq,nq,cq,mq,dq,eq,fq,rfl,hz1,hz2,hb⟩
 have hY:=ζ (((hD.out.call hb).pR rfl rfl hz1).pR rfl rfl hz2)
 clear hb hz1 hz2 hD
 go_upto_region 5 with fail
 have hX:=ζ (show Sy w _ [(W.heap.size,#[.slice ap np cp,.bool mp,.slice dp ep fp],42),(W.heap.size+1,#[.slice aq nq cq,.bool mq,.slice dq eq fq],42)] [⟨.slice a1 l.length c1,83,2,l.length,L2 l⟩] [(fun V=>Rd V (.slice ap np cp) mp (.slice dp ep fp) (qa)),(fun V=>Rd V (.slice aq nq cq) mq (.slice dq eq fq) (qb))]from(hY.out.al W.heap.size #[.slice ap np cp,.bool mp,.slice dp ep fp] 42 rfl|>.al (W.heap.size+1) #[.slice aq nq cq,.bool mq,.slice dq eq fq] 42 (by simp)))
 obtain ⟨b11,eb11⟩:∃b,W.heap.size+1=b:=⟨_,rfl⟩
 rw [eb11]at hX⊢
 obtain ⟨b10,eb10⟩:∃b,W.heap.size=b:=⟨_,rfl⟩
 rw [eb10]at hX⊢
 refine wp_geny hX.out ?_
 intro WN1 hc
 have hN1:=ζ hc
 clear hc hX eb11 eb10 hY
 go_wp2_with fail
 refine(HPO.out _ _ _ (qa) (qb) 0 (fun V hV=>HA.out V _ _ ((hN1.out.osx 0 rfl).below hV))).mono ?_
 rintro e W ⟨ar,nr,cr,mr,dr,er,fr,rfl,hz,hb⟩
 have hY:=ζ ((hN1.out.call hb).pR rfl rfl hz)
 clear hb hz hN1
 go_upto_region 6 with fail
 have hX:=ζ (show Sy w _ [(b10,#[.slice ap np cp,.bool mp,.slice dp ep fp],42),(b11,#[.slice aq nq cq,.bool mq,.slice dq eq fq],42),(W.heap.size,#[.slice ar nr cr,.bool mr,.slice dr er fr],42)] [⟨.slice a1 l.length c1,83,2,l.length,L2 l⟩] [(fun V=>Rd V (.slice ap np cp) mp (.slice dp ep fp) (qa)),(fun V=>Rd V (.slice aq nq cq) mq (.slice dq eq fq) (qb)),(fun V=>Rd V (.slice ar nr cr) mr (.slice dr er fr) (qb))]from hY.out.al W.heap.size #[.slice ar nr cr,.bool mr,.slice dr er fr] 42 rfl)
 obtain ⟨b13,eb13⟩:∃b,W.heap.size=b:=⟨_,rfl⟩
 rw [eb13]at hX⊢
 refine wp_geny hX.out ?_
 intro WN2 hc
 have hN2:=ζ hc
 clear hc hX eb13 hY
 go_wp2_with fail
 refine(HV.out _ hN2.out.be).mono ?_
 rintro e WN3 ⟨rfl,hb⟩
 have hN3:=ζ (hN2.out.call hb)
 clear hb hN2
 go_wp2_with fail
 refine(HSR2.out _ hN3.out.be).mono ?_
 rintro e WN4 ⟨rfl,hb⟩
 have hN4:=ζ (hN3.out.call hb)
 clear hb hN3
 go_wp2_with ((with_reducible refine(HIN.out _).mono ?_);rintro e WI ⟨rfl,rfl⟩)
 refine(HRB2.out _ hN4.out.be).mono ?_
 rintro e W ⟨su,au,nu,cu,tu,du,eu,fu,rfl,hz1,hb⟩
 have hY:=ζ ((hN4.out.call hb).pq rfl rfl hz1)
 clear hb hz1 hN4
 go_upto_region 16 with fail
 have hX:=ζ (show Sy w _ [(b10,#[.slice ap np cp,.bool mp,.slice dp ep fp],42),(b11,#[.slice aq nq cq,.bool mq,.slice dq eq fq],42),(b13,#[.slice ar nr cr,.bool mr,.slice dr er fr],42),(W.heap.size,#[.int .i64 su,.slice au nu cu,.int .i64 tu,.slice du eu fu],50)] [⟨.slice a1 l.length c1,83,2,l.length,L2 l⟩] [(fun V=>Rd V (.slice ap np cp) mp (.slice dp ep fp) (qa)),(fun V=>Rd V (.slice aq nq cq) mq (.slice dq eq fq) (qb)),(fun V=>Rd V (.slice ar nr cr) mr (.slice dr er fr) (qb)),(fun V=>Nq V su (.slice au nu cu) tu (.slice du eu fu) (qb))]from hY.out.al W.heap.size #[.int .i64 su,.slice au nu cu,.int .i64 tu,.slice du eu fu] 50 rfl)
 obtain ⟨b16,eb16⟩:∃b,W.heap.size=b:=⟨_,rfl⟩
 rw [eb16]at hX⊢
 refine wp_geny hX.out ?_
 intro WN5 hc
 have hN5:=ζ hc
 clear hc hX eb16 hY
 have HSL:∀V ex os rs,Sy w V ([(b10,#[.slice ap np cp,.bool mp,.slice dp ep fp],42),(b11,#[.slice aq nq cq,.bool mq,.slice dq eq fq],42),(b13,#[.slice ar nr cr,.bool mr,.slice dr er fr],42),(b16,#[.int .i64 su,.slice au nu cu,.int .i64 tu,.slice du eu fu],50)]++ex) os rs->(fun w'=>w'.cell? ⟨b10,0,none⟩=some (.slice ap np cp)/\w'.cell? ⟨b10,1,none⟩=some (.bool mp)/\w'.cell? ⟨b10,2,none⟩=some (.slice dp ep fp)/\w'.cell? ⟨b11,0,none⟩=some (.slice aq nq cq)/\w'.cell? ⟨b11,1,none⟩=some (.bool mq)/\w'.cell? ⟨b11,2,none⟩=some (.slice dq eq fq)/\w'.cell? ⟨b13,0,none⟩=some (.slice ar nr cr)/\w'.cell? ⟨b13,1,none⟩=some (.bool mr)/\w'.cell? ⟨b13,2,none⟩=some (.slice dr er fr)/\w'.cell? ⟨b16,0,none⟩=some (.int .i64 su)/\w'.cell? ⟨b16,1,none⟩=some (.slice au nu cu)/\w'.cell? ⟨b16,2,none⟩=some (.int .i64 tu)/\w'.cell? ⟨b16,3,none⟩=some (.slice du eu fu)/\True) V:=fun V ex os rs hX=>⟨hX.c 0 0,hX.c 0 1,hX.c 0 2,hX.c 1 0,hX.c 1 1,hX.c 1 2,hX.c 2 0,hX.c 2 1,hX.c 2 2,hX.c 3 0,hX.c 3 1,hX.c 3 2,hX.c 3 3,trivial⟩
 refine wp_region_held_drew (S:=(fun w'=>w'.cell? ⟨b10,0,none⟩=some (.slice ap np cp)/\w'.cell? ⟨b10,1,none⟩=some (.bool mp)/\w'.cell? ⟨b10,2,none⟩=some (.slice dp ep fp)/\w'.cell? ⟨b11,0,none⟩=some (.slice aq nq cq)/\w'.cell? ⟨b11,1,none⟩=some (.bool mq)/\w'.cell? ⟨b11,2,none⟩=some (.slice dq eq fq)/\w'.cell? ⟨b13,0,none⟩=some (.slice ar nr cr)/\w'.cell? ⟨b13,1,none⟩=some (.bool mr)/\w'.cell? ⟨b13,2,none⟩=some (.slice dr er fr)/\w'.cell? ⟨b16,0,none⟩=some (.int .i64 su)/\w'.cell? ⟨b16,1,none⟩=some (.slice au nu cu)/\w'.cell? ⟨b16,2,none⟩=some (.int .i64 tu)/\w'.cell? ⟨b16,3,none⟩=some (.slice du eu fu)/\True)) (by kernel_rfl) ⟨hN5.out.drew.c 0 0,hN5.out.drew.c 0 1,hN5.out.drew.c 0 2,hN5.out.drew.c 1 0,hN5.out.drew.c 1 1,hN5.out.drew.c 1 2,hN5.out.drew.c 2 0,hN5.out.drew.c 2 1,hN5.out.drew.c 2 2,hN5.out.drew.c 3 0,hN5.out.drew.c 3 1,hN5.out.drew.c 3 2,hN5.out.drew.c 3 3,trivial⟩ (fun hH=>?_)
 refine wpAnyH_geny (show Sy w _ [(b10,#[.slice ap np cp,.bool mp,.slice dp ep fp],42),(b11,#[.slice aq nq cq,.bool mq,.slice dq eq fq],42),(b13,#[.slice ar nr cr,.bool mr,.slice dr er fr],42),(b16,#[.int .i64 su,.slice au nu cu,.int .i64 tu,.slice du eu fu],50)] [⟨.slice a1 l.length c1,83,2,l.length,L2 l⟩] [(fun V=>Rd V (.slice ap np cp) mp (.slice dp ep fp) (qa)),(fun V=>Rd V (.slice aq nq cq) mq (.slice dq eq fq) (qb)),(fun V=>Rd V (.slice ar nr cr) mr (.slice dr er fr) (qb)),(fun V=>Nq V su (.slice au nu cu) tu (.slice du eu fu) (qb))]from hN5.out.drew) hH ?_
 intro AP hc AA
 have AH:=ζ hc
 clear hc hH hN5
 refine tkA 0 rfl AA ?_
 try simp only [zP]
 refine tkA 1 rfl AA ?_
 try simp only [zP]
 refine tkA 2 rfl AA ?_
 try simp only [zP]
 refine tkA 3 rfl AA ?_
 try simp only [zP]
 refine tkA 4 rfl AA ?_
 try simp only [zP]
 refine tkA 5 rfl AA ?_
 try simp only [zP]
 refine tkA 6 rfl AA ?_
 try simp only [zP]
 refine tkA 7 rfl AA ?_
 try simp only [zP]
 refine tkA 8 rfl AA ?_
 try simp only [zP]
 refine tkA 9 rfl AA ?_
 try simp only [zP]
 refine tkA 10 rfl AA ?_
 try simp only [zP]
 refine tkA 11 rfl AA ?_
 try simp only [zP]
 refine rdy1 12 rfl (fun Kq AB=>?_)
 go_simp
 go_at_call 50
 refine(HRA2.out _ AH.out.be).mono ?_
 rintro e wT ⟨sg,ag,ng,cg,tg,dg,eg,fg,rfl,hz,hb⟩
 (try go_wp2_with fail)
 refine stW AB ((AH.out.call hb).pq rfl rfl hz) ?_
 intro AQ AE AM
 clear AB Kq AH hb hz AA
 try simp only [zP]
 refine rdy1 13 rfl (fun Kq AB=>?_)
 go_simp
 go_at_call 29
 refine(same_b (AE.out.r 0 rfl) (AE.out.r 4 rfl) BA.out (by omega)).mono ?_
 rintro e wT ⟨rfl,hb⟩
 (try go_wp2_with fail)
 refine stW AB (AE.out.call hb) ?_
 intro AR AF AC
 clear AB Kq AE hb AM
 try simp only [zP]
 refine tkA 14 rfl AC ?_
 try simp only [zP]
 refine tkA 15 rfl AC ?_
 try simp only [zP]
 refine tkA 16 rfl AC ?_
 try simp only [zP]
 refine tkA 17 rfl AC ?_
 try simp only [zP]
 refine rdy1 18 rfl (fun Kq AB=>?_)
 go_simp
 go_at_call 29
 refine(same_b (AF.out.r 1 rfl) (AF.out.r 3 rfl) BB.out (by omega)).mono ?_
 rintro e wT ⟨rfl,hb⟩
 (try go_wp2_with fail)
 refine stW AB (AF.out.call hb) ?_
 intro AS AG AD
 clear AB Kq AF hb AC
 try simp only [zP]
 refine tkA 19 rfl AD ?_
 try simp only [zP]
 refine tkA 20 rfl AD ?_
 try simp only [zP]
 refine tkA 21 rfl AD ?_
 try simp only [zP]
 refine tkA 22 rfl AD ?_
 try simp only [zP]
 refine rdy1 23 rfl (fun Kq AB=>?_)
 go_simp
 go_at_call 29
 refine(same_b (AG.out.r 2 rfl) (AG.out.r 3 rfl) BB.out (by omega)).mono ?_
 rintro e wT ⟨rfl,hb⟩
 (try go_wp2_with fail)
 refine stW AB (AG.out.call hb) ?_
 intro AT AJ AI
 clear AB Kq AG hb AD
 try simp only [zP]
 refine tkA 24 rfl AI ?_
 try simp only [zP]
 refine tkA 25 rfl AI ?_
 try simp only [zP]
 refine rdy1 26 rfl (fun Kq AB=>?_)
 go_simp
 go_at_call 16
 refine(HW.out _).mono ?_
 rintro e wT ⟨rfl,hb⟩
 (try go_wp2_with fail)
 refine stW AB (AJ.out.call hb) ?_
 intro AU AK AL
 clear AB Kq AJ hb AI
 try simp only [zP]
 refine tkA 27 rfl AL ?_
 try simp only [zP]
 refine rdy1 28 rfl (fun Kq AB=>?_)
 go_simp
 refine stW AB AK.out ?_
 intro AV AN AO
 clear AB Kq AK AL
 try simp only [zP]
 refine wpAnyH_done (by kernel_rfl) ?_ _
 go_wp2
 go_ret
 exact⟨rfl,AN.out.be⟩
end
end Go.Proofs.YthmdhlopeponcaaGreatDoor
end
