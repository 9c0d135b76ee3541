/- a part of the proof -/
import Derived.Test.YthmdhlopeponcaaGreatDoorJ0
import Derived.Test.YthmdhlopeponcaaGreatDoorJ48
import Derived.Test.YthmdhlopeponcaaGreatDoorJ44
import Derived.Test.YthmdhlopeponcaaGreatDoorJ50
import Derived.Test.YthmdhlopeponcaaGreatDoorJ40
set_option maxRecDepth 100000
set_option maxHeartbeats 8000000
namespace Go.Proofs.YthmdhlopeponcaaGreatDoor
open Go.RowKit Go.Shelf Dig
def RetFl (w:World) (N:Nat) (e:Ending) (w':World):Prop:=∃ (lev:Int) (some_:Bool),e= .returned (.tuple #[.int .i64 lev,.bool some_])/\Hid ((some_=false->N=200001)/\(some_=true->N≠200001/\lev=(N:Int) - 100000))/\Below w.heap.size w w'
section
variable (w:World)
theorem rBelow_any (a:OA) (n c:Nat) (l:List Pt) (x y z:Int) (hs:Sx 2 w a n c (L2 l)) (hT:Strt l x y) (hz: -100000<=z/\z<=100000):
  Calls Tryz.prog 49 #[.slice a n c,.int .i64 x,.int .i64 y,.int .i64 z] w (RetNQ w (below l x y z)):=by
 have HA:=ζ (fun W (hW:Below w.heap.size w W)=>rAbove_any W a n c l x y z (hs.below hW) hT (by omega))
 have HI:=ζ (fun W (hW:Below w.heap.size w W)=>rIntegral_any W a n c l x y z (hs.below hW) hT (by omega))
 have BA:=ζ (hT.above_bq (z:=z) (by unfold InZ;omega))
 have BI:=ζ (hT.integ_bq (z:=z) (by omega))
 have HE:=ζ (below_of (above_below l x y z))
 clear hs hT hz
 generalize above l x y z=qa at*
 generalize integ l x y z=qi at*
 generalize below l x y z=qb at*
 have hC:=ζ ((Sy.enter w).al w.heap.size #[.int .i64 0,.slice none 0 0,.int .i64 0,.slice none 0 0] 50 rfl)
 go_enter Tryz.func49,Tryz.ntmps49
 go_wp2_with fail
 refine(HA.out _ hC.out.be).mono ?_
 rintro e W1 ⟨s1,a1,n1,c1,t1,d1,e1,f1,rfl,hq,hb⟩
 have hD:=ζ ((hC.out.call hb).pq rfl rfl hq)
 clear hb hq hC HA
 go_wp2_with fail
 refine(HI.out _ hD.out.be).mono ?_
 rintro e W2 ⟨s2,a2,n2,c2,t2,d2,e2,f2,rfl,hq,hb⟩
 have hE:=ζ ((hD.out.call hb).pq rfl rfl hq)
 clear hb hq hD HI
 go_wp2_with fail
 refine(rsubN_b (hE.out.r 0 rfl) (hE.out.r 1 rfl) BA.out BI.out (by omega) (by omega)).mono ?_
 rintro e W3 ⟨s3,a3,n3,c3,t3,d3,e3,f3,rfl,hq,hb⟩
 rw [HE.out]at hq
 have hF:=ζ ((hE.out.call hb).pq rfl rfl hq)
 clear hb hq hE
 have AE:=hF.out.c 0 0
 have AA:=hF.out.f 0 0
 have AF:=hF.out.c 0 1
 have AB:=hF.out.f 0 1
 have AG:=hF.out.c 0 2
 have AC:=hF.out.f 0 2
 have AH:=hF.out.c 0 3
 have AD:=hF.out.f 0 3
 go_wp2
 have hZ:=ζ (hF.out|>.set (j:=0) (v:= .int .i64 s3) 0 rfl|>.set (j:=1) (v:= .slice a3 n3 c3) 0 rfl|>.set (j:=2) (v:= .int .i64 t3) 0 rfl|>.set (j:=3) (v:= .slice d3 e3 f3) 0 rfl)
 refine ret_sy hZ.out (v:= .agg #[.int .i64 s3,.slice a3 n3 c3,.int .i64 t3,.slice d3 e3 f3]) (fun hF=>?_) rfl (fun hF=>⟨_,_,_,_,_,_,_,_,rfl,hF.r 2 rfl,hF.be⟩)
 have g0:=hF.c 0 0
 have g1:=hF.c 0 1
 have g2:=hF.c 0 2
 have g3:=hF.c 0 3
 simp [results,Tryz.results49,go_sem,g0,g1,g2,g3]
theorem rFlood_any (a:OA) (n c:Nat) (l:List Pt) (x y area:Int) (hs:Sx 2 w a n c (L2 l)) (hT:Strt l x y) (ha:1<=area/\area<=1000000000000):
  Calls Tryz.prog 38 #[.slice a n c,.int .i64 x,.int .i64 y,.int .i64 area] w (RetFl w (poolN l x y area)):=by
 have HB:=ζ (fun W (hW:Below w.heap.size w W) z hz=>rBelow_any W a n c l x y z (hs.below hW) hT hz)
 have BB:=ζ (fun z (hz: -100000<=z/\z<=100000)=>hT.below_bq (z:=z) (by unfold InZ;omega))
 have HO:=ζ (fun W=>ofN_any area (by omega) W)
 have BO:=ζ (Bq.int (n:=41) (z:=area) (by unfold Bd;omega))
 have HNO:=ζ (fun h=>hT.pool_no (area:=area) h)
 have HEN:=ζ (fun low high h1 h2 h3 h4=>hT.pool_end (area:=area) (low:=low) (high:=high) h1 h2 h3 h4)
 have HBE:=ζ (show ∀z,∃q,below l x y z=q from fun z=>⟨_,rfl⟩)
 clear hs hT ha
 generalize below l x y=bel at*
 generalize poolN l x y area=N at*
 have hC:=ζ (Sy.enter w)
 go_enter Tryz.func38,Tryz.ntmps38
 go_wp2_with fail
 refine(HB.out _ hC.out.be 100000 (by omega)).mono ?_
 rintro e W1 ⟨s1,a1,n1,c1,t1,d1,e1,f1,rfl,hq,hb⟩
 have hD:=ζ ((hC.out.call hb).pq rfl rfl hq)
 clear hb hq hC
 go_wp2_with fail
 refine(HO.out _).mono ?_
 rintro e W2 ⟨s2,a2,n2,c2,t2,d2,e2,f2,rfl,hq,hb⟩
 have hE:=ζ ((hD.out.call hb).pq rfl rfl hq)
 clear hb hq hD
 obtain ⟨v,hv⟩:∃v,cmpQ (bel 100000) (area:Rat)=v:=⟨_,rfl⟩
 have HV:=ζ hv
 clear hv
 go_wp2_with fail
 refine(rcmpN_is (hE.out.r 0 rfl) (hE.out.r 1 rfl) (BB.out 100000 (by omega)) BO.out (by omega) (by omega) HV.out).mono ?_
 rintro e W3 ⟨rfl,hb⟩
 have hF:=ζ ((hE.out.call hb).pick [] (rs':=[]) rfl)
 clear hb hE
 by_cases hn:v < 0
 ·have HN:=ζ (HNO.out (by rw [HV.out];exact hn))
  go_wp2
  go_ret2
  exact⟨0,false,rfl,ζ ⟨fun _=>HN.out,fun h=>absurd h (by decide)⟩,hF.out.be⟩
 have H0:=ζ (show 0<=cmpQ (bel 100000) (area:Rat)by rw [HV.out];omega)
 go_upto_region 4 with fail
 clear hn
 go_wp2
 go_loopw [10,11] (fun lv hv wr=>∃low high:Int,lv= .int .i64 low/\hv= .int .i64 high/\(-100001<=low/\low < high/\high<=100000)/\Hid (-100001 < low->cmpQ (bel low) (area:Rat) < 0)/\Hid (0<=cmpQ (bel high) (area:Rat))/\Hid (Sy w wr [] [] [])) (fun lv hv _=>(intOf hv - intOf lv).toNat)
 case atStart=>exact⟨-100001,100000,rfl,rfl,by omega,ζ (fun h=>absurd h (by omega)),H0,hF⟩
 case round=>
  clear hF
  obtain ⟨low,high,rfl,rfl,hlh,HLO,HHI,hS⟩:=hrel
  have e1:IntKind.i64.wrap (high - low)=high - low:=IntWalk.i64_in _ (by omega)
  by_cases hgo:low+2<=high
  ·have hz:=half_in hgo
   have e2:IntKind.i64.wrap (low+high)=low+high:=IntWalk.i64_in _ (by omega)
   obtain ⟨z,hze⟩:∃z,(low+high).tdiv 2=z:=⟨_,rfl⟩
   rw [hze]at hz
   have e3:IntKind.i64.wrap ((low+high).tdiv 2)=z:=by rw [hze];exact IntWalk.i64_in _ (by omega)
   have e4:1 < high - low:=by omega
   clear hze
   go_wp2_with fail
   refine(HB.out _ hS.out.be z (by omega)).mono ?_
   rintro e W4 ⟨s1,a1,n1,c1,t1,d1,e1,f1,rfl,hq,hb⟩
   have hD:=ζ ((hS.out.call hb).pq rfl rfl hq)
   clear hb hq hS
   go_wp2_with fail
   refine(HO.out _).mono ?_
   rintro e W5 ⟨s2,a2,n2,c2,t2,d2,e2,f2,rfl,hq,hb⟩
   have hE:=ζ ((hD.out.call hb).pq rfl rfl hq)
   clear hb hq hD
   obtain ⟨v,hv⟩:∃v,cmpQ (bel z) (area:Rat)=v:=⟨_,rfl⟩
   have HV:=ζ hv
   clear hv
   go_wp2_with fail
   refine(rcmpN_is (hE.out.r 0 rfl) (hE.out.r 1 rfl) (BB.out z (by omega)) BO.out (by omega) (by omega) HV.out).mono ?_
   rintro e W6 ⟨rfl,hb⟩
   have hF:=ζ ((hE.out.call hb).pick [] (rs':=[]) rfl)
   clear hb hE
   by_cases hn:0<=v
   ·have HN:=ζ (show 0<=cmpQ (bel z) (area:Rat)by rw [HV.out];exact hn)
    go_wp2
    go_roundw
    case rel=>exact⟨low,z,rfl,rfl,by omega,HLO,HN,hF⟩
    case measure=>simp [intOf];omega
   ·have HN:=ζ (show -100001 < z->cmpQ (bel z) (area:Rat) < 0 from fun _=>by rw [HV.out];omega)
    go_wp2
    go_roundw
    case rel=>exact⟨z,high,rfl,rfl,by omega,HN,HHI,hF⟩
    case measure=>simp [intOf];omega
  ·have e4:¬ 1 < high - low:=by omega
   have HN:=ζ (HEN.out low high (by omega) hlh HLO.out HHI.out)
   go_wp2
   go_ret2
   exact⟨high,true,rfl,ζ ⟨fun h=>absurd h (by decide),fun _=>HN.out⟩,hS.out.be⟩
end
end Go.Proofs.YthmdhlopeponcaaGreatDoor
