/- the law HillRises, walked -/
import Derived.Test.YthmdhlopeponcaaGreatDoorJ0
import Derived.Test.YthmdhlopeponcaaGreatDoorJ30
import Derived.Test.YthmdhlopeponcaaGreatDoorJ35
namespace Go.Proofs.YthmdhlopeponcaaGreatDoor
open Go.RowKit Go.Shelf Dig
theorem pool_ok {w:World} {sa:Option Addr} {sn sc:Nat} {l:List Pt} {a b:Int} (hs:Sx 2 w sa sn sc (L2 l)) {z:Int} (he:strErr l a b=0) (hz: -100000≤z∧z≤100000):Calls Tryz.prog 48 #[.slice sa sn sc,.int .i64 a,.int .i64 b,.int .i64 z] w (RetRE w (below l a b z) 0):=
 hPool_of w sa sn sc a b z (above l a b z) (below l a b z) 0 fun W hW=>hAreas_ok W sa sn sc l a b (hs.below hW) z he (inB_iff.2 hz)
theorem pool_far {w:World} {sa:Option Addr} {sn sc:Nat} {l:List Pt} {a b:Int} (hs:Sx 2 w sa sn sc (L2 l)) {z:Int} (he:strErr l a b=0) (hz:¬ (-100000≤z∧z≤100000)):Calls Tryz.prog 48 #[.slice sa sn sc,.int .i64 a,.int .i64 b,.int .i64 z] w (RetRE w 0 3):=
 hPool_of w sa sn sc a b z 0 0 3 fun W hW=>hAreas_far W sa sn sc l a b (hs.below hW) z he (by cases h:inB z (-100000) 100000;rfl;exact absurd (inB_iff.1 h) hz)
section
variable (w:World)
set_option maxHeartbeats 8000000 in
set_option maxRecDepth 100000 in
theorem hillRises_walk (la:Option Addr) (ln lc:Nat) (l:List Pt) (a b area z more:Int) (hs:Sx 2 w la ln lc (L2 l)) (har: -9223372036854775808≤area∧area < 9223372036854775808) (hmo:0≤more∧more≤65535):
  Calls Tryz.prog 12 #[.slice la ln lc,.int .i64 a,.int .i64 b,.int .i64 area,.int .i64 z,.int .u16 more] w (Gives (.bool true) w):=by
 have HW:=Lib.hid wakes08
 have HV:=Lib.hid (fun W (hW:Below w.heap.size w W)=>rValid_any W la ln lc l (hs.below hW))
 have HI1:=Lib.hid (fun W=>rIn_any W z (-100000) 100000)
 have HI2:=Lib.hid (fun W=>rIn_any W (z+more) (-100000) 100000)
 have HS:=Lib.hid hs
 have hC:=Lib.hid (Sy.enter w)
 cases hp:profB l
 ·rw [hp]at HV
  clear hs hp
  go_enter Tryz.func12,Tryz.ntmps12
  go_wp2_with fail
  refine(HV.out _ hC.out.be).mono ?_
  rintro e W1 ⟨rfl,hb⟩
  have hD:=Lib.hid (hC.out.call hb)
  clear hb hC
  go_wp2_with fail
  refine(HW.out _).mono ?_
  rintro e WZ ⟨rfl,hb⟩
  have hZ:=Lib.hid (hD.out.call hb)
  clear hb
  go_wp2
  go_ret
  exact⟨rfl,hZ.out.be⟩
 rw [hp]at HV
 have hP:=prof_iff.1 hp
 have hlen:2≤l.length∧l.length≤40:=⟨hP.two,hP.forty⟩
 have hn:=hs.n2
 have HST:=Lib.hid (fun W (hW:Below w.heap.size w W)=>rStretch_any W la ln lc l a b (hs.below hW) (by omega))
 have HPT:=Lib.hid (fun W (hW:Below w.heap.size w W)=>conv_Pts la ln lc l W (hs.below hW) (by omega))
 clear hn hs hP
 go_enter Tryz.func12,Tryz.ntmps12
 go_wp2_with fail
 refine(HV.out _ hC.out.be).mono ?_
 rintro e W1 ⟨rfl,hb⟩
 have hD:=Lib.hid (hC.out.call hb)
 clear hb hC HV
 cases hb2:strB l a b
 ·rw [hb2]at HST
  clear hb2 hp
  go_wp2_with fail
  refine(HST.out _ hD.out.be).mono ?_
  rintro e W2 ⟨rfl,hb⟩
  have hE:=Lib.hid (hD.out.call hb)
  clear hb hD
  go_wp2_with fail
  refine(HW.out _).mono ?_
  rintro e WZ ⟨rfl,hb⟩
  have hZ:=Lib.hid (hE.out.call hb)
  clear hb
  go_wp2
  go_ret
  exact⟨rfl,hZ.out.be⟩
 rw [hb2]at HST
 have hse:=strErr_ok hp hb2
 have hT:=strErr_zero hse
 have HSE:=Lib.hid hse
 have HFE:=Lib.hid (flood_err (area:=area) hse)
 have HFI:=Lib.hid (fun h=>hT.flood_is (area:=area) hse h)
 have HMO:=Lib.hid (fun x y h=>hT.below_mono (y:=x) (z:=y) h)
 have HBQ:=Lib.hid (fun x (h: -300000≤x∧x≤300000)=>hT.below_bq (z:=x) h)
 clear hp hb2 hse hT
 go_wp2_with fail
 refine(HST.out _ hD.out.be).mono ?_
 rintro e W2 ⟨rfl,hb⟩
 have hE:=Lib.hid (hD.out.call hb)
 clear hb hD HST
 go_wp2_with fail
 refine(HPT.out _ hE.out.be).mono ?_
 rintro e W3 ⟨a3,c3,rfl,hr,hb⟩
 have hF:=Lib.hid (show Sy w _ [] [⟨.slice a3 l.length c3,83,2,l.length,L2 l⟩] []from hE.out.adopt hb hr)
 clear hb hr hE HPT
 go_wp2_with fail
 refine(flood_any _ a3 l.length c3 l a b (hF.out.osx 0 rfl) area har).mono ?_
 rintro e W4 ⟨rfl,hb⟩
 have hG:=Lib.hid (hF.out.call hb)
 clear hb hF
 generalize floodErr l a b area=fe at*
 generalize floodLev l a b area=lev at*
 by_cases hfe:fe=0
 rotate_left
 ·have e1:(fe==0)=false:=beq_eq_false_iff_ne.2 hfe
  have HF2:=Lib.hid (show fe=3∨fe=12 from by rcases HFE.out with h | h | h;exact absurd h hfe;exact .inl h;exact .inr h)
  clear HFI HFE hfe
  rcases HF2.out with hfe | hfe
  ·subst hfe
   clear HF2 e1
   have hT0:=Lib.hid ((hG.out.thin (List.nil_sublist _) (List.Sublist.refl _)).pick [] (rs':=[]) rfl)
   clear hG
   cases hz:inB z (-100000) 100000
   ·rw [hz]at HI1
    clear hz
    go_wp2_with ((with_reducible refine(HI1.out _).mono ?_);rintro e w1 ⟨rfl,rfl⟩)
    go_wp2_with fail
    refine(HW.out _).mono ?_
    rintro e WZ ⟨rfl,hb⟩
    have hZ:=Lib.hid (hT0.out.call hb)
    clear hb
    go_wp2
    go_ret
    exact⟨rfl,hZ.out.be⟩
   rw [hz]at HI1
   have hzz:=inB_iff.1 hz
   have zw:IntKind.i64.wrap (z+more)=z+more:=IntWalk.i64_in _ (by omega)
   have zc:IntKind.i64.wrap more=more:=IntWalk.i64_in _ (by omega)
   cases hz2:inB (z+more) (-100000) 100000
   ·rw [hz2]at HI2
    clear hz hz2
    go_wp2_with (first | ((with_reducible refine(HI1.out _).mono ?_);rintro e w1 ⟨rfl,rfl⟩) | ((with_reducible refine(HI2.out _).mono ?_);rintro e w1 ⟨rfl,rfl⟩))
    go_wp2_with fail
    refine(HW.out _).mono ?_
    rintro e WZ ⟨rfl,hb⟩
    have hZ:=Lib.hid (hT0.out.call hb)
    clear hb
    go_wp2
    go_ret
    exact⟨rfl,hZ.out.be⟩
   rw [hz2]at HI2
   have hzm:=inB_iff.1 hz2
   clear hz hz2
   go_upto_region 16 with (first | ((with_reducible refine(HI1.out _).mono ?_);rintro e w1 ⟨rfl,rfl⟩) | ((with_reducible refine(HI2.out _).mono ?_);rintro e w1 ⟨rfl,rfl⟩))
   go_wp2_with fail
   refine(pool_ok (hT0.out.osx 0 rfl) HSE.out (by omega)).mono ?_
   rintro e W ⟨a20,n20,c20,m20,d20,e20,f20,rfl,hz,hb⟩
   have hY:=Lib.hid ((hT0.out.call hb).pR rfl rfl hz)
   clear hb hz
   go_upto_region 17 with fail
   have hX:=Lib.hid (show Sy w _ [(W.heap.size,#[.slice a20 n20 c20,.bool m20,.slice d20 e20 f20],42)] [⟨.slice a3 l.length c3,83,2,l.length,L2 l⟩] [(fun V=>Rd V (.slice a20 n20 c20) m20 (.slice d20 e20 f20) (below l a b z))]from hY.out.al W.heap.size #[.slice a20 n20 c20,.bool m20,.slice d20 e20 f20] 42 rfl)
   obtain ⟨b20,eb⟩:∃b,W.heap.size=b:=⟨_,rfl⟩
   rw [eb]at hX⊢
   refine wp_geny hX.out ?_
   intro V5 hc
   have hV5:=Lib.hid hc
   clear hc hX eb hY
   go_wp2_with fail
   refine(pool_ok (hV5.out.osx 0 rfl) HSE.out (by omega)).mono ?_
   rintro e W ⟨a22,n22,c22,m22,d22,e22,f22,rfl,hz,hb⟩
   have hY:=Lib.hid ((hV5.out.call hb).pR rfl rfl hz)
   clear hb hz
   go_upto_region 18 with fail
   have hX:=Lib.hid (show Sy w _ [(b20,#[.slice a20 n20 c20,.bool m20,.slice d20 e20 f20],42),(W.heap.size,#[.slice a22 n22 c22,.bool m22,.slice d22 e22 f22],42)] [⟨.slice a3 l.length c3,83,2,l.length,L2 l⟩] [(fun V=>Rd V (.slice a20 n20 c20) m20 (.slice d20 e20 f20) (below l a b z)),(fun V=>Rd V (.slice a22 n22 c22) m22 (.slice d22 e22 f22) (below l a b (z+more)))]from hY.out.al W.heap.size #[.slice a22 n22 c22,.bool m22,.slice d22 e22 f22] 42 rfl)
   obtain ⟨b22,eb⟩:∃b,W.heap.size=b:=⟨_,rfl⟩
   rw [eb]at hX⊢
   refine wp_geny hX.out ?_
   intro V6 hc
   have hV6:=Lib.hid hc
   clear hc hX eb hY
   have hcm:0≤cmpQ (below l a b (z+more)) (below l a b z):=cmpQ_ge.2 (HMO.out z (z+more) (by omega))
   obtain ⟨v9,ev9⟩:∃v,cmpQ (below l a b (z+more)) (below l a b z)=v:=⟨_,rfl⟩
   rw [ev9]at hcm
   have EV9:=Lib.hid ev9
   clear ev9
   have k0_0:V6.cell? ⟨b20,0,none⟩=some (.slice a20 n20 c20):=hV6.out.cell 0 0 rfl rfl
   have k0_1:V6.cell? ⟨b20,1,none⟩=some (.bool m20):=hV6.out.cell 0 1 rfl rfl
   have k0_2:V6.cell? ⟨b20,2,none⟩=some (.slice d20 e20 f20):=hV6.out.cell 0 2 rfl rfl
   have k1_0:V6.cell? ⟨b22,0,none⟩=some (.slice a22 n22 c22):=hV6.out.cell 1 0 rfl rfl
   have k1_1:V6.cell? ⟨b22,1,none⟩=some (.bool m22):=hV6.out.cell 1 1 rfl rfl
   have k1_2:V6.cell? ⟨b22,2,none⟩=some (.slice d22 e22 f22):=hV6.out.cell 1 2 rfl rfl
   go_wp2_with fail
   refine(hcmp_is (hV6.out.r 1 rfl) (hV6.out.r 0 rfl) (HBQ.out (z+more) (by omega)) (HBQ.out z (by omega)) (by omega) (by omega) EV9.out).mono ?_
   rintro e W9 ⟨rfl,hb⟩
   have hT9:=Lib.hid (hV6.out.call hb)
   clear hb hV6 k0_0 k0_1 k0_2 k1_0 k1_1 k1_2
   go_wp2_with fail
   refine(HW.out _).mono ?_
   rintro e WZ ⟨rfl,hb⟩
   have hZ:=Lib.hid (hT9.out.call hb)
   clear hb
   go_wp2
   go_ret
   exact⟨rfl,hZ.out.be⟩
  ·subst hfe
   clear HF2 e1
   have hT0:=Lib.hid ((hG.out.thin (List.nil_sublist _) (List.Sublist.refl _)).pick [] (rs':=[]) rfl)
   clear hG
   cases hz:inB z (-100000) 100000
   ·rw [hz]at HI1
    clear hz
    go_wp2_with ((with_reducible refine(HI1.out _).mono ?_);rintro e w1 ⟨rfl,rfl⟩)
    go_wp2_with fail
    refine(HW.out _).mono ?_
    rintro e WZ ⟨rfl,hb⟩
    have hZ:=Lib.hid (hT0.out.call hb)
    clear hb
    go_wp2
    go_ret
    exact⟨rfl,hZ.out.be⟩
   rw [hz]at HI1
   have hzz:=inB_iff.1 hz
   have zw:IntKind.i64.wrap (z+more)=z+more:=IntWalk.i64_in _ (by omega)
   have zc:IntKind.i64.wrap more=more:=IntWalk.i64_in _ (by omega)
   cases hz2:inB (z+more) (-100000) 100000
   ·rw [hz2]at HI2
    clear hz hz2
    go_wp2_with (first | ((with_reducible refine(HI1.out _).mono ?_);rintro e w1 ⟨rfl,rfl⟩) | ((with_reducible refine(HI2.out _).mono ?_);rintro e w1 ⟨rfl,rfl⟩))
    go_wp2_with fail
    refine(HW.out _).mono ?_
    rintro e WZ ⟨rfl,hb⟩
    have hZ:=Lib.hid (hT0.out.call hb)
    clear hb
    go_wp2
    go_ret
    exact⟨rfl,hZ.out.be⟩
   rw [hz2]at HI2
   have hzm:=inB_iff.1 hz2
   clear hz hz2
   go_upto_region 16 with (first | ((with_reducible refine(HI1.out _).mono ?_);rintro e w1 ⟨rfl,rfl⟩) | ((with_reducible refine(HI2.out _).mono ?_);rintro e w1 ⟨rfl,rfl⟩))
   go_wp2_with fail
   refine(pool_ok (hT0.out.osx 0 rfl) HSE.out (by omega)).mono ?_
   rintro e W ⟨a20,n20,c20,m20,d20,e20,f20,rfl,hz,hb⟩
   have hY:=Lib.hid ((hT0.out.call hb).pR rfl rfl hz)
   clear hb hz
   go_upto_region 17 with fail
   have hX:=Lib.hid (show Sy w _ [(W.heap.size,#[.slice a20 n20 c20,.bool m20,.slice d20 e20 f20],42)] [⟨.slice a3 l.length c3,83,2,l.length,L2 l⟩] [(fun V=>Rd V (.slice a20 n20 c20) m20 (.slice d20 e20 f20) (below l a b z))]from hY.out.al W.heap.size #[.slice a20 n20 c20,.bool m20,.slice d20 e20 f20] 42 rfl)
   obtain ⟨b20,eb⟩:∃b,W.heap.size=b:=⟨_,rfl⟩
   rw [eb]at hX⊢
   refine wp_geny hX.out ?_
   intro V5 hc
   have hV5:=Lib.hid hc
   clear hc hX eb hY
   go_wp2_with fail
   refine(pool_ok (hV5.out.osx 0 rfl) HSE.out (by omega)).mono ?_
   rintro e W ⟨a22,n22,c22,m22,d22,e22,f22,rfl,hz,hb⟩
   have hY:=Lib.hid ((hV5.out.call hb).pR rfl rfl hz)
   clear hb hz
   go_upto_region 18 with fail
   have hX:=Lib.hid (show Sy w _ [(b20,#[.slice a20 n20 c20,.bool m20,.slice d20 e20 f20],42),(W.heap.size,#[.slice a22 n22 c22,.bool m22,.slice d22 e22 f22],42)] [⟨.slice a3 l.length c3,83,2,l.length,L2 l⟩] [(fun V=>Rd V (.slice a20 n20 c20) m20 (.slice d20 e20 f20) (below l a b z)),(fun V=>Rd V (.slice a22 n22 c22) m22 (.slice d22 e22 f22) (below l a b (z+more)))]from hY.out.al W.heap.size #[.slice a22 n22 c22,.bool m22,.slice d22 e22 f22] 42 rfl)
   obtain ⟨b22,eb⟩:∃b,W.heap.size=b:=⟨_,rfl⟩
   rw [eb]at hX⊢
   refine wp_geny hX.out ?_
   intro V6 hc
   have hV6:=Lib.hid hc
   clear hc hX eb hY
   have hcm:0≤cmpQ (below l a b (z+more)) (below l a b z):=cmpQ_ge.2 (HMO.out z (z+more) (by omega))
   obtain ⟨v9,ev9⟩:∃v,cmpQ (below l a b (z+more)) (below l a b z)=v:=⟨_,rfl⟩
   rw [ev9]at hcm
   have EV9:=Lib.hid ev9
   clear ev9
   have k0_0:V6.cell? ⟨b20,0,none⟩=some (.slice a20 n20 c20):=hV6.out.cell 0 0 rfl rfl
   have k0_1:V6.cell? ⟨b20,1,none⟩=some (.bool m20):=hV6.out.cell 0 1 rfl rfl
   have k0_2:V6.cell? ⟨b20,2,none⟩=some (.slice d20 e20 f20):=hV6.out.cell 0 2 rfl rfl
   have k1_0:V6.cell? ⟨b22,0,none⟩=some (.slice a22 n22 c22):=hV6.out.cell 1 0 rfl rfl
   have k1_1:V6.cell? ⟨b22,1,none⟩=some (.bool m22):=hV6.out.cell 1 1 rfl rfl
   have k1_2:V6.cell? ⟨b22,2,none⟩=some (.slice d22 e22 f22):=hV6.out.cell 1 2 rfl rfl
   go_wp2_with fail
   refine(hcmp_is (hV6.out.r 1 rfl) (hV6.out.r 0 rfl) (HBQ.out (z+more) (by omega)) (HBQ.out z (by omega)) (by omega) (by omega) EV9.out).mono ?_
   rintro e W9 ⟨rfl,hb⟩
   have hT9:=Lib.hid (hV6.out.call hb)
   clear hb hV6 k0_0 k0_1 k0_2 k1_0 k1_1 k1_2
   go_wp2_with fail
   refine(HW.out _).mono ?_
   rintro e WZ ⟨rfl,hb⟩
   have hZ:=Lib.hid (hT9.out.call hb)
   clear hb
   go_wp2
   go_ret
   exact⟨rfl,hZ.out.be⟩
 subst hfe
 obtain ⟨ha1,hl1,HQ1,HQ2⟩:=HFI.out rfl
 have HQ3:=Lib.hid HQ1
 have HQ4:=Lib.hid HQ2
 clear HQ1 HQ2 HFI HFE
 have HK:=Lib.hid (show -9223372036854775808≤area∧area < 9223372036854775808 from har)
 have B1:=Lib.hid (HBQ.out lev (by omega))
 have B3:=Lib.hid (show Bq 41 (area:Rat)from Bq.int (n:=40) (by unfold Bd;omega))
 have lw:IntKind.i64.wrap (lev - 1)=lev - 1:=IntWalk.i64_in _ (by omega)
 go_wp2_with fail
 refine(pool_ok (hG.out.osx 0 rfl) HSE.out hl1).mono ?_
 rintro e W ⟨a5,n5,c5,m5,d5,e5,f5,rfl,hz,hb⟩
 have hY:=Lib.hid ((hG.out.call hb).pR rfl rfl hz)
 clear hb hz
 go_upto_region 7 with fail
 have hX:=Lib.hid (show Sy w _ [(W.heap.size,#[.slice a5 n5 c5,.bool m5,.slice d5 e5 f5],42)] [⟨.slice a3 l.length c3,83,2,l.length,L2 l⟩] [(fun V=>Rd V (.slice a5 n5 c5) m5 (.slice d5 e5 f5) (below l a b lev))]from hY.out.al W.heap.size #[.slice a5 n5 c5,.bool m5,.slice d5 e5 f5] 42 rfl)
 obtain ⟨b16,eb⟩:∃b,W.heap.size=b:=⟨_,rfl⟩
 rw [eb]at hX⊢
 refine wp_geny hX.out ?_
 intro V1 hc
 have hV1:=Lib.hid hc
 clear hc hX eb hY
 have hv1:=HQ3.out
 obtain ⟨v1,ev1⟩:∃v,cmpQ (below l a b lev) (area:Rat)=v:=⟨_,rfl⟩
 rw [ev1]at hv1
 have EV1:=Lib.hid ev1
 have hv2:¬ v1 < 0:=by omega
 clear ev1 HQ3
 refine wp_region_held_drew (S:=(fun w'=>w'.cell? ⟨b16,0,none⟩=some (.slice a5 n5 c5)∧w'.cell? ⟨b16,1,none⟩=some (.bool m5)∧w'.cell? ⟨b16,2,none⟩=some (.slice d5 e5 f5)∧True)) (by kernel_rfl) ⟨hV1.out.drew.cell 0 0 rfl rfl,hV1.out.drew.cell 0 1 rfl rfl,hV1.out.drew.cell 0 2 rfl rfl,trivial⟩ (fun hH=>?_)
 refine wpAnyH_geny (show Sy w _ [(b16,#[.slice a5 n5 c5,.bool m5,.slice d5 e5 f5],42)] [⟨.slice a3 l.length c3,83,2,l.length,L2 l⟩] [(fun V=>Rd V (.slice a5 n5 c5) m5 (.slice d5 e5 f5) (below l a b lev))]from hV1.out.drew) hH ?_
 intro VA_0 hc hHA_0
 have hVA_0:=Lib.hid hc
 clear hc hH hV1
 refine tkL 0 ?_ rfl hHA_0 ?_ ?_;rotate_left
 ·intro wS hSw;(try dsimp only at hSw);go_simp;try with_reducible rfl
 try simp only [Act.put,zI,z0,zS]
 refine tkL 1 ?_ rfl hHA_0 ?_ ?_;rotate_left
 ·intro wS hSw;(try dsimp only at hSw);go_simp;try with_reducible rfl
 try simp only [Act.put,zI,z0,zS]
 refine tkL 2 ?_ rfl hHA_0 ?_ ?_;rotate_left
 ·intro wS hSw;(try dsimp only at hSw);go_simp;try with_reducible rfl
 try simp only [Act.put,zI,z0,zS]
 refine tkL 3 ?_ rfl hHA_0 ?_ ?_;rotate_left
 ·intro wS hSw;(try dsimp only at hSw);go_simp;try with_reducible rfl
 try simp only [Act.put,zI,z0,zS]
 refine tkL 4 ?_ rfl hHA_0 ?_ ?_;rotate_left
 ·intro wS hSw;(try dsimp only at hSw);go_simp;try with_reducible rfl
 try simp only [Act.put,zI,z0,zS]
 refine rdy1 5 rfl (fun Kq hKq=>?_)
 go_simp
 go_at_call 45
 refine(of_any _ HK.out _).mono ?_
 rintro e wT ⟨a7,n7,c7,m7,d7,e7,f7,rfl,hz,hb⟩
 (try go_wp2_with fail)
 refine stepY hKq (show Sy w _ [(b16,#[.slice a5 n5 c5,.bool m5,.slice d5 e5 f5],42)] [⟨.slice a3 l.length c3,83,2,l.length,L2 l⟩] [(fun V=>Rd V (.slice a5 n5 c5) m5 (.slice d5 e5 f5) (below l a b lev)),(fun V=>Rd V (.slice a7 n7 c7) m7 (.slice d7 e7 f7) (area))]from((hVA_0.out.call hb).pR rfl rfl hz)) (fun _ hX=>⟨hX.cell 0 0 rfl rfl,hX.cell 0 1 rfl rfl,hX.cell 0 2 rfl rfl,trivial⟩) ?_
 intro VA_1 hc hHA_1
 have hVA_1:=Lib.hid hc
 clear hc hKq Kq hVA_0 hb hz hHA_0
 try simp only [Act.put,zI,z0,zS]
 refine rdy1 6 rfl (fun Kq hKq=>?_)
 go_simp
 go_at_call 41
 refine(hcmp_is (hVA_1.out.r 0 rfl) (hVA_1.out.r 1 rfl) B1.out B3.out (by omega) (by omega) EV1.out).mono ?_
 rintro e wT ⟨rfl,hb⟩
 (try go_wp2_with fail)
 refine stepY hKq (show Sy w _ [(b16,#[.slice a5 n5 c5,.bool m5,.slice d5 e5 f5],42)] [⟨.slice a3 l.length c3,83,2,l.length,L2 l⟩] [(fun V=>Rd V (.slice a5 n5 c5) m5 (.slice d5 e5 f5) (below l a b lev)),(fun V=>Rd V (.slice a7 n7 c7) m7 (.slice d7 e7 f7) (area))]from(hVA_1.out.call hb)) (fun _ hX=>⟨hX.cell 0 0 rfl rfl,hX.cell 0 1 rfl rfl,hX.cell 0 2 rfl rfl,trivial⟩) ?_
 intro VA_2 hc hHA_2
 have hVA_2:=Lib.hid hc
 clear hc hKq Kq hVA_1 hb hHA_1
 try simp only [Act.put,zI,z0,zS]
 refine tkL 7 ?_ rfl hHA_2 ?_ ?_;rotate_left
 ·intro wS hSw;(try dsimp only at hSw);go_simp;try with_reducible rfl
 try simp only [Act.put,zI,z0,zS]
 refine tkL 8 ?_ rfl hHA_2 ?_ ?_;rotate_left
 ·intro wS hSw;(try dsimp only at hSw);go_simp;try with_reducible rfl
 try simp only [Act.put,zI,z0,zS]
 refine wpAnyH_done (by kernel_rfl) ?_ _
 have hK7:=Lib.hid hVA_2.out
 by_cases hlo: -100000 < lev
 ·have hv3:=HQ4.out hlo
  obtain ⟨v2,ev2⟩:∃v,cmpQ (below l a b (lev - 1)) (area:Rat)=v:=⟨_,rfl⟩
  rw [ev2]at hv3
  have EV2:=Lib.hid ev2
  have B2:=Lib.hid (HBQ.out (lev - 1) (by omega))
  clear ev2 HQ4
  go_wp2_with fail
  refine(pool_ok (hK7.out.osx 0 rfl) HSE.out (by omega)).mono ?_
  rintro e W ⟨a8,n8,c8,m8,d8,e8,f8,rfl,hz,hb⟩
  have hY:=Lib.hid ((hK7.out.call hb).pR rfl rfl hz)
  clear hb hz
  go_upto_region 10 with fail
  have hX:=Lib.hid (show Sy w _ [(b16,#[.slice a5 n5 c5,.bool m5,.slice d5 e5 f5],42),(W.heap.size,#[.slice a8 n8 c8,.bool m8,.slice d8 e8 f8],42)] [⟨.slice a3 l.length c3,83,2,l.length,L2 l⟩] [(fun V=>Rd V (.slice a5 n5 c5) m5 (.slice d5 e5 f5) (below l a b lev)),(fun V=>Rd V (.slice a7 n7 c7) m7 (.slice d7 e7 f7) (area)),(fun V=>Rd V (.slice a8 n8 c8) m8 (.slice d8 e8 f8) (below l a b (lev - 1)))]from hY.out.al W.heap.size #[.slice a8 n8 c8,.bool m8,.slice d8 e8 f8] 42 rfl)
  obtain ⟨b18,eb⟩:∃b,W.heap.size=b:=⟨_,rfl⟩
  rw [eb]at hX⊢
  refine wp_geny hX.out ?_
  intro V2 hc
  have hV2:=Lib.hid hc
  clear hc hX eb hY
  refine wp_region_held_drew (S:=(fun w'=>w'.cell? ⟨b18,0,none⟩=some (.slice a8 n8 c8)∧w'.cell? ⟨b18,1,none⟩=some (.bool m8)∧w'.cell? ⟨b18,2,none⟩=some (.slice d8 e8 f8)∧True)) (by kernel_rfl) ⟨hV2.out.drew.cell 1 0 rfl rfl,hV2.out.drew.cell 1 1 rfl rfl,hV2.out.drew.cell 1 2 rfl rfl,trivial⟩ (fun hH=>?_)
  refine wpAnyH_geny (show Sy w _ [(b16,#[.slice a5 n5 c5,.bool m5,.slice d5 e5 f5],42),(b18,#[.slice a8 n8 c8,.bool m8,.slice d8 e8 f8],42)] [⟨.slice a3 l.length c3,83,2,l.length,L2 l⟩] [(fun V=>Rd V (.slice a5 n5 c5) m5 (.slice d5 e5 f5) (below l a b lev)),(fun V=>Rd V (.slice a7 n7 c7) m7 (.slice d7 e7 f7) (area)),(fun V=>Rd V (.slice a8 n8 c8) m8 (.slice d8 e8 f8) (below l a b (lev - 1)))]from hV2.out.drew) hH ?_
  intro VB_0 hc hHB_0
  have hVB_0:=Lib.hid hc
  clear hc hH hV2
  refine tkL 0 ?_ rfl hHB_0 ?_ ?_;rotate_left
  ·intro wS hSw;(try dsimp only at hSw);go_simp;try with_reducible rfl
  try simp only [Act.put,zI,z0,zS]
  refine tkL 1 ?_ rfl hHB_0 ?_ ?_;rotate_left
  ·intro wS hSw;(try dsimp only at hSw);go_simp;try with_reducible rfl
  try simp only [Act.put,zI,z0,zS]
  refine tkL 2 ?_ rfl hHB_0 ?_ ?_;rotate_left
  ·intro wS hSw;(try dsimp only at hSw);go_simp;try with_reducible rfl
  try simp only [Act.put,zI,z0,zS]
  refine tkL 3 ?_ rfl hHB_0 ?_ ?_;rotate_left
  ·intro wS hSw;(try dsimp only at hSw);go_simp;try with_reducible rfl
  try simp only [Act.put,zI,z0,zS]
  refine tkL 4 ?_ rfl hHB_0 ?_ ?_;rotate_left
  ·intro wS hSw;(try dsimp only at hSw);go_simp;try with_reducible rfl
  try simp only [Act.put,zI,z0,zS]
  refine rdy1 5 rfl (fun Kq hKq=>?_)
  go_simp
  go_at_call 45
  refine(of_any _ HK.out _).mono ?_
  rintro e wT ⟨a9,n9,c9,m9,d9,e9,f9,rfl,hz,hb⟩
  (try go_wp2_with fail)
  refine stepY hKq (show Sy w _ [(b16,#[.slice a5 n5 c5,.bool m5,.slice d5 e5 f5],42),(b18,#[.slice a8 n8 c8,.bool m8,.slice d8 e8 f8],42)] [⟨.slice a3 l.length c3,83,2,l.length,L2 l⟩] [(fun V=>Rd V (.slice a5 n5 c5) m5 (.slice d5 e5 f5) (below l a b lev)),(fun V=>Rd V (.slice a7 n7 c7) m7 (.slice d7 e7 f7) (area)),(fun V=>Rd V (.slice a8 n8 c8) m8 (.slice d8 e8 f8) (below l a b (lev - 1))),(fun V=>Rd V (.slice a9 n9 c9) m9 (.slice d9 e9 f9) (area))]from((hVB_0.out.call hb).pR rfl rfl hz)) (fun _ hX=>⟨hX.cell 1 0 rfl rfl,hX.cell 1 1 rfl rfl,hX.cell 1 2 rfl rfl,trivial⟩) ?_
  intro VB_1 hc hHB_1
  have hVB_1:=Lib.hid hc
  clear hc hKq Kq hVB_0 hb hz hHB_0
  try simp only [Act.put,zI,z0,zS]
  refine rdy1 6 rfl (fun Kq hKq=>?_)
  go_simp
  go_at_call 41
  refine(hcmp_is (hVB_1.out.r 2 rfl) (hVB_1.out.r 3 rfl) B2.out B3.out (by omega) (by omega) EV2.out).mono ?_
  rintro e wT ⟨rfl,hb⟩
  (try go_wp2_with fail)
  refine stepY hKq (show Sy w _ [(b16,#[.slice a5 n5 c5,.bool m5,.slice d5 e5 f5],42),(b18,#[.slice a8 n8 c8,.bool m8,.slice d8 e8 f8],42)] [⟨.slice a3 l.length c3,83,2,l.length,L2 l⟩] [(fun V=>Rd V (.slice a5 n5 c5) m5 (.slice d5 e5 f5) (below l a b lev)),(fun V=>Rd V (.slice a7 n7 c7) m7 (.slice d7 e7 f7) (area)),(fun V=>Rd V (.slice a8 n8 c8) m8 (.slice d8 e8 f8) (below l a b (lev - 1))),(fun V=>Rd V (.slice a9 n9 c9) m9 (.slice d9 e9 f9) (area))]from(hVB_1.out.call hb)) (fun _ hX=>⟨hX.cell 1 0 rfl rfl,hX.cell 1 1 rfl rfl,hX.cell 1 2 rfl rfl,trivial⟩) ?_
  intro VB_2 hc hHB_2
  have hVB_2:=Lib.hid hc
  clear hc hKq Kq hVB_1 hb hHB_1
  try simp only [Act.put,zI,z0,zS]
  refine wpAnyH_take (i:=7) (oi:=⟨_,_,_,_,_,_⟩) (v:= .bool false) rfl (by kernel_rfl) (by kernel_rfl) (by kernel_rfl) (fun _ _ _ h=>h) (Or.inl ⟨by rfl,?_⟩) hHB_2 ?_
  ·intro wS hSw;(try dsimp only at hSw);go_simp;all_goals (first | rfl | (simp;omega))
  try simp only [Act.put,zI,z0,zS]
  refine tkL 8 ?_ rfl hHB_2 ?_ ?_;rotate_left
  ·intro wS hSw;(try dsimp only at hSw);go_simp;try with_reducible rfl
  try simp only [Act.put,zI,z0,zS]
  refine tkL 9 ?_ rfl hHB_2 ?_ ?_;rotate_left
  ·intro wS hSw;(try dsimp only at hSw);go_simp;try with_reducible rfl
  try simp only [Act.put,zI,z0,zS]
  refine tkL 10 ?_ rfl hHB_2 ?_ ?_;rotate_left
  ·intro wS hSw;(try dsimp only at hSw);go_simp;try with_reducible rfl
  try simp only [Act.put,zI,z0,zS]
  refine tkL 11 ?_ rfl hHB_2 ?_ ?_;rotate_left
  ·intro wS hSw;(try dsimp only at hSw);go_simp;try with_reducible rfl
  try simp only [Act.put,zI,z0,zS]
  refine tkL 12 ?_ rfl hHB_2 ?_ ?_;rotate_left
  ·intro wS hSw;(try dsimp only at hSw);go_simp;try with_reducible rfl
  try simp only [Act.put,zI,z0,zS]
  refine tkR 13 rfl hHB_2 ?_
  try simp only [Act.put,zI,z0,zS]
  refine tkR 14 rfl hHB_2 ?_
  try simp only [Act.put,zI,z0,zS]
  refine tkL 15 ?_ rfl hHB_2 ?_ ?_;rotate_left
  ·intro wS hSw;(try dsimp only at hSw);go_simp;try with_reducible rfl
  try simp only [Act.put,zI,z0,zS]
  refine tkL 16 ?_ rfl hHB_2 ?_ ?_;rotate_left
  ·intro wS hSw;(try dsimp only at hSw);go_simp;try with_reducible rfl
  try simp only [Act.put,zI,z0,zS]
  refine wpAnyH_done (by kernel_rfl) ?_ _
  have hK9:=Lib.hid hVB_2.out
  have hv4:¬ 0≤v2:=by omega
  have hT0:=Lib.hid ((hK9.out.thin (List.nil_sublist _) (List.Sublist.refl _)).pick [] (rs':=[]) rfl)
  clear hK9
  cases hz:inB z (-100000) 100000
  ·rw [hz]at HI1
   clear hz
   go_wp2_with ((with_reducible refine(HI1.out _).mono ?_);rintro e w1 ⟨rfl,rfl⟩)
   go_wp2_with fail
   refine(HW.out _).mono ?_
   rintro e WZ ⟨rfl,hb⟩
   have hZ:=Lib.hid (hT0.out.call hb)
   clear hb
   go_wp2
   go_ret
   exact⟨rfl,hZ.out.be⟩
  rw [hz]at HI1
  have hzz:=inB_iff.1 hz
  have zw:IntKind.i64.wrap (z+more)=z+more:=IntWalk.i64_in _ (by omega)
  have zc:IntKind.i64.wrap more=more:=IntWalk.i64_in _ (by omega)
  cases hz2:inB (z+more) (-100000) 100000
  ·rw [hz2]at HI2
   clear hz hz2
   go_wp2_with (first | ((with_reducible refine(HI1.out _).mono ?_);rintro e w1 ⟨rfl,rfl⟩) | ((with_reducible refine(HI2.out _).mono ?_);rintro e w1 ⟨rfl,rfl⟩))
   go_wp2_with fail
   refine(HW.out _).mono ?_
   rintro e WZ ⟨rfl,hb⟩
   have hZ:=Lib.hid (hT0.out.call hb)
   clear hb
   go_wp2
   go_ret
   exact⟨rfl,hZ.out.be⟩
  rw [hz2]at HI2
  have hzm:=inB_iff.1 hz2
  clear hz hz2
  go_upto_region 16 with (first | ((with_reducible refine(HI1.out _).mono ?_);rintro e w1 ⟨rfl,rfl⟩) | ((with_reducible refine(HI2.out _).mono ?_);rintro e w1 ⟨rfl,rfl⟩))
  go_wp2_with fail
  refine(pool_ok (hT0.out.osx 0 rfl) HSE.out (by omega)).mono ?_
  rintro e W ⟨a20,n20,c20,m20,d20,e20,f20,rfl,hz,hb⟩
  have hY:=Lib.hid ((hT0.out.call hb).pR rfl rfl hz)
  clear hb hz
  go_upto_region 17 with fail
  have hX:=Lib.hid (show Sy w _ [(W.heap.size,#[.slice a20 n20 c20,.bool m20,.slice d20 e20 f20],42)] [⟨.slice a3 l.length c3,83,2,l.length,L2 l⟩] [(fun V=>Rd V (.slice a20 n20 c20) m20 (.slice d20 e20 f20) (below l a b z))]from hY.out.al W.heap.size #[.slice a20 n20 c20,.bool m20,.slice d20 e20 f20] 42 rfl)
  obtain ⟨b20,eb⟩:∃b,W.heap.size=b:=⟨_,rfl⟩
  rw [eb]at hX⊢
  refine wp_geny hX.out ?_
  intro V5 hc
  have hV5:=Lib.hid hc
  clear hc hX eb hY
  go_wp2_with fail
  refine(pool_ok (hV5.out.osx 0 rfl) HSE.out (by omega)).mono ?_
  rintro e W ⟨a22,n22,c22,m22,d22,e22,f22,rfl,hz,hb⟩
  have hY:=Lib.hid ((hV5.out.call hb).pR rfl rfl hz)
  clear hb hz
  go_upto_region 18 with fail
  have hX:=Lib.hid (show Sy w _ [(b20,#[.slice a20 n20 c20,.bool m20,.slice d20 e20 f20],42),(W.heap.size,#[.slice a22 n22 c22,.bool m22,.slice d22 e22 f22],42)] [⟨.slice a3 l.length c3,83,2,l.length,L2 l⟩] [(fun V=>Rd V (.slice a20 n20 c20) m20 (.slice d20 e20 f20) (below l a b z)),(fun V=>Rd V (.slice a22 n22 c22) m22 (.slice d22 e22 f22) (below l a b (z+more)))]from hY.out.al W.heap.size #[.slice a22 n22 c22,.bool m22,.slice d22 e22 f22] 42 rfl)
  obtain ⟨b22,eb⟩:∃b,W.heap.size=b:=⟨_,rfl⟩
  rw [eb]at hX⊢
  refine wp_geny hX.out ?_
  intro V6 hc
  have hV6:=Lib.hid hc
  clear hc hX eb hY
  have hcm:0≤cmpQ (below l a b (z+more)) (below l a b z):=cmpQ_ge.2 (HMO.out z (z+more) (by omega))
  obtain ⟨v9,ev9⟩:∃v,cmpQ (below l a b (z+more)) (below l a b z)=v:=⟨_,rfl⟩
  rw [ev9]at hcm
  have EV9:=Lib.hid ev9
  clear ev9
  have k0_0:V6.cell? ⟨b20,0,none⟩=some (.slice a20 n20 c20):=hV6.out.cell 0 0 rfl rfl
  have k0_1:V6.cell? ⟨b20,1,none⟩=some (.bool m20):=hV6.out.cell 0 1 rfl rfl
  have k0_2:V6.cell? ⟨b20,2,none⟩=some (.slice d20 e20 f20):=hV6.out.cell 0 2 rfl rfl
  have k1_0:V6.cell? ⟨b22,0,none⟩=some (.slice a22 n22 c22):=hV6.out.cell 1 0 rfl rfl
  have k1_1:V6.cell? ⟨b22,1,none⟩=some (.bool m22):=hV6.out.cell 1 1 rfl rfl
  have k1_2:V6.cell? ⟨b22,2,none⟩=some (.slice d22 e22 f22):=hV6.out.cell 1 2 rfl rfl
  go_wp2_with fail
  refine(hcmp_is (hV6.out.r 1 rfl) (hV6.out.r 0 rfl) (HBQ.out (z+more) (by omega)) (HBQ.out z (by omega)) (by omega) (by omega) EV9.out).mono ?_
  rintro e W9 ⟨rfl,hb⟩
  have hT9:=Lib.hid (hV6.out.call hb)
  clear hb hV6 k0_0 k0_1 k0_2 k1_0 k1_1 k1_2
  go_wp2_with fail
  refine(HW.out _).mono ?_
  rintro e WZ ⟨rfl,hb⟩
  have hZ:=Lib.hid (hT9.out.call hb)
  clear hb
  go_wp2
  go_ret
  exact⟨rfl,hZ.out.be⟩
 ·obtain rfl:lev= -100000:=by omega
  clear HQ4
  go_wp2_with fail
  refine(pool_far (hK7.out.osx 0 rfl) HSE.out (by omega)).mono ?_
  rintro e W ⟨a8,n8,c8,m8,d8,e8,f8,rfl,hz,hb⟩
  have hY:=Lib.hid ((hK7.out.call hb).pR rfl rfl hz)
  clear hb hz
  go_upto_region 10 with fail
  have hX:=Lib.hid (show Sy w _ [(b16,#[.slice a5 n5 c5,.bool m5,.slice d5 e5 f5],42),(W.heap.size,#[.slice a8 n8 c8,.bool m8,.slice d8 e8 f8],42)] [⟨.slice a3 l.length c3,83,2,l.length,L2 l⟩] [(fun V=>Rd V (.slice a5 n5 c5) m5 (.slice d5 e5 f5) (below l a b (-100000))),(fun V=>Rd V (.slice a7 n7 c7) m7 (.slice d7 e7 f7) (area)),(fun V=>Rd V (.slice a8 n8 c8) m8 (.slice d8 e8 f8) (0))]from hY.out.al W.heap.size #[.slice a8 n8 c8,.bool m8,.slice d8 e8 f8] 42 rfl)
  obtain ⟨b18,eb⟩:∃b,W.heap.size=b:=⟨_,rfl⟩
  rw [eb]at hX⊢
  refine wp_geny hX.out ?_
  intro V2 hc
  have hV2:=Lib.hid hc
  clear hc hX eb hY
  refine wp_region_held_drew (S:=(fun w'=>w'.cell? ⟨b18,0,none⟩=some (.slice a8 n8 c8)∧w'.cell? ⟨b18,1,none⟩=some (.bool m8)∧w'.cell? ⟨b18,2,none⟩=some (.slice d8 e8 f8)∧True)) (by kernel_rfl) ⟨hV2.out.drew.cell 1 0 rfl rfl,hV2.out.drew.cell 1 1 rfl rfl,hV2.out.drew.cell 1 2 rfl rfl,trivial⟩ (fun hH=>?_)
  refine wpAnyH_geny (show Sy w _ [(b16,#[.slice a5 n5 c5,.bool m5,.slice d5 e5 f5],42),(b18,#[.slice a8 n8 c8,.bool m8,.slice d8 e8 f8],42)] [⟨.slice a3 l.length c3,83,2,l.length,L2 l⟩] [(fun V=>Rd V (.slice a5 n5 c5) m5 (.slice d5 e5 f5) (below l a b (-100000))),(fun V=>Rd V (.slice a7 n7 c7) m7 (.slice d7 e7 f7) (area)),(fun V=>Rd V (.slice a8 n8 c8) m8 (.slice d8 e8 f8) (0))]from hV2.out.drew) hH ?_
  intro VC_0 hc hHC_0
  have hVC_0:=Lib.hid hc
  clear hc hH hV2
  refine tkL 0 ?_ rfl hHC_0 ?_ ?_;rotate_left
  ·intro wS hSw;(try dsimp only at hSw);go_simp;try with_reducible rfl
  try simp only [Act.put,zI,z0,zS]
  refine tkL 1 ?_ rfl hHC_0 ?_ ?_;rotate_left
  ·intro wS hSw;(try dsimp only at hSw);go_simp;try with_reducible rfl
  try simp only [Act.put,zI,z0,zS]
  refine tkL 2 ?_ rfl hHC_0 ?_ ?_;rotate_left
  ·intro wS hSw;(try dsimp only at hSw);go_simp;try with_reducible rfl
  try simp only [Act.put,zI,z0,zS]
  refine tkR 3 rfl hHC_0 ?_
  try simp only [Act.put,zI,z0,zS]
  refine tkR 4 rfl hHC_0 ?_
  try simp only [Act.put,zI,z0,zS]
  refine tkR 5 rfl hHC_0 ?_
  try simp only [Act.put,zI,z0,zS]
  refine tkR 6 rfl hHC_0 ?_
  try simp only [Act.put,zI,z0,zS]
  refine tkR 7 rfl hHC_0 ?_
  try simp only [Act.put,zI,z0,zS]
  refine tkL 8 ?_ rfl hHC_0 ?_ ?_;rotate_left
  ·intro wS hSw;(try dsimp only at hSw);go_simp;try with_reducible rfl
  try simp only [Act.put,zI,z0,zS]
  refine tkL 9 ?_ rfl hHC_0 ?_ ?_;rotate_left
  ·intro wS hSw;(try dsimp only at hSw);go_simp;try with_reducible rfl
  try simp only [Act.put,zI,z0,zS]
  refine tkL 10 ?_ rfl hHC_0 ?_ ?_;rotate_left
  ·intro wS hSw;(try dsimp only at hSw);go_simp;try with_reducible rfl
  try simp only [Act.put,zI,z0,zS]
  refine tkL 11 ?_ rfl hHC_0 ?_ ?_;rotate_left
  ·intro wS hSw;(try dsimp only at hSw);go_simp;try with_reducible rfl
  try simp only [Act.put,zI,z0,zS]
  refine tkL 12 ?_ rfl hHC_0 ?_ ?_;rotate_left
  ·intro wS hSw;(try dsimp only at hSw);go_simp;try with_reducible rfl
  try simp only [Act.put,zI,z0,zS]
  refine tkL 13 ?_ rfl hHC_0 ?_ ?_;rotate_left
  ·intro wS hSw;(try dsimp only at hSw);go_simp;try with_reducible rfl
  try simp only [Act.put,zI,z0,zS]
  refine tkL 14 ?_ rfl hHC_0 ?_ ?_;rotate_left
  ·intro wS hSw;(try dsimp only at hSw);go_simp;try with_reducible rfl
  try simp only [Act.put,zI,z0,zS]
  refine tkL 15 ?_ rfl hHC_0 ?_ ?_;rotate_left
  ·intro wS hSw;(try dsimp only at hSw);go_simp;try with_reducible rfl
  try simp only [Act.put,zI,z0,zS]
  refine tkL 16 ?_ rfl hHC_0 ?_ ?_;rotate_left
  ·intro wS hSw;(try dsimp only at hSw);go_simp;try with_reducible rfl
  try simp only [Act.put,zI,z0,zS]
  refine wpAnyH_done (by kernel_rfl) ?_ _
  have hK9:=Lib.hid hVC_0.out
  have hT0:=Lib.hid ((hK9.out.thin (List.nil_sublist _) (List.Sublist.refl _)).pick [] (rs':=[]) rfl)
  clear hK9
  cases hz:inB z (-100000) 100000
  ·rw [hz]at HI1
   clear hz
   go_wp2_with ((with_reducible refine(HI1.out _).mono ?_);rintro e w1 ⟨rfl,rfl⟩)
   go_wp2_with fail
   refine(HW.out _).mono ?_
   rintro e WZ ⟨rfl,hb⟩
   have hZ:=Lib.hid (hT0.out.call hb)
   clear hb
   go_wp2
   go_ret
   exact⟨rfl,hZ.out.be⟩
  rw [hz]at HI1
  have hzz:=inB_iff.1 hz
  have zw:IntKind.i64.wrap (z+more)=z+more:=IntWalk.i64_in _ (by omega)
  have zc:IntKind.i64.wrap more=more:=IntWalk.i64_in _ (by omega)
  cases hz2:inB (z+more) (-100000) 100000
  ·rw [hz2]at HI2
   clear hz hz2
   go_wp2_with (first | ((with_reducible refine(HI1.out _).mono ?_);rintro e w1 ⟨rfl,rfl⟩) | ((with_reducible refine(HI2.out _).mono ?_);rintro e w1 ⟨rfl,rfl⟩))
   go_wp2_with fail
   refine(HW.out _).mono ?_
   rintro e WZ ⟨rfl,hb⟩
   have hZ:=Lib.hid (hT0.out.call hb)
   clear hb
   go_wp2
   go_ret
   exact⟨rfl,hZ.out.be⟩
  rw [hz2]at HI2
  have hzm:=inB_iff.1 hz2
  clear hz hz2
  go_upto_region 16 with (first | ((with_reducible refine(HI1.out _).mono ?_);rintro e w1 ⟨rfl,rfl⟩) | ((with_reducible refine(HI2.out _).mono ?_);rintro e w1 ⟨rfl,rfl⟩))
  go_wp2_with fail
  refine(pool_ok (hT0.out.osx 0 rfl) HSE.out (by omega)).mono ?_
  rintro e W ⟨a20,n20,c20,m20,d20,e20,f20,rfl,hz,hb⟩
  have hY:=Lib.hid ((hT0.out.call hb).pR rfl rfl hz)
  clear hb hz
  go_upto_region 17 with fail
  have hX:=Lib.hid (show Sy w _ [(W.heap.size,#[.slice a20 n20 c20,.bool m20,.slice d20 e20 f20],42)] [⟨.slice a3 l.length c3,83,2,l.length,L2 l⟩] [(fun V=>Rd V (.slice a20 n20 c20) m20 (.slice d20 e20 f20) (below l a b z))]from hY.out.al W.heap.size #[.slice a20 n20 c20,.bool m20,.slice d20 e20 f20] 42 rfl)
  obtain ⟨b20,eb⟩:∃b,W.heap.size=b:=⟨_,rfl⟩
  rw [eb]at hX⊢
  refine wp_geny hX.out ?_
  intro V5 hc
  have hV5:=Lib.hid hc
  clear hc hX eb hY
  go_wp2_with fail
  refine(pool_ok (hV5.out.osx 0 rfl) HSE.out (by omega)).mono ?_
  rintro e W ⟨a22,n22,c22,m22,d22,e22,f22,rfl,hz,hb⟩
  have hY:=Lib.hid ((hV5.out.call hb).pR rfl rfl hz)
  clear hb hz
  go_upto_region 18 with fail
  have hX:=Lib.hid (show Sy w _ [(b20,#[.slice a20 n20 c20,.bool m20,.slice d20 e20 f20],42),(W.heap.size,#[.slice a22 n22 c22,.bool m22,.slice d22 e22 f22],42)] [⟨.slice a3 l.length c3,83,2,l.length,L2 l⟩] [(fun V=>Rd V (.slice a20 n20 c20) m20 (.slice d20 e20 f20) (below l a b z)),(fun V=>Rd V (.slice a22 n22 c22) m22 (.slice d22 e22 f22) (below l a b (z+more)))]from hY.out.al W.heap.size #[.slice a22 n22 c22,.bool m22,.slice d22 e22 f22] 42 rfl)
  obtain ⟨b22,eb⟩:∃b,W.heap.size=b:=⟨_,rfl⟩
  rw [eb]at hX⊢
  refine wp_geny hX.out ?_
  intro V6 hc
  have hV6:=Lib.hid hc
  clear hc hX eb hY
  have hcm:0≤cmpQ (below l a b (z+more)) (below l a b z):=cmpQ_ge.2 (HMO.out z (z+more) (by omega))
  obtain ⟨v9,ev9⟩:∃v,cmpQ (below l a b (z+more)) (below l a b z)=v:=⟨_,rfl⟩
  rw [ev9]at hcm
  have EV9:=Lib.hid ev9
  clear ev9
  have k0_0:V6.cell? ⟨b20,0,none⟩=some (.slice a20 n20 c20):=hV6.out.cell 0 0 rfl rfl
  have k0_1:V6.cell? ⟨b20,1,none⟩=some (.bool m20):=hV6.out.cell 0 1 rfl rfl
  have k0_2:V6.cell? ⟨b20,2,none⟩=some (.slice d20 e20 f20):=hV6.out.cell 0 2 rfl rfl
  have k1_0:V6.cell? ⟨b22,0,none⟩=some (.slice a22 n22 c22):=hV6.out.cell 1 0 rfl rfl
  have k1_1:V6.cell? ⟨b22,1,none⟩=some (.bool m22):=hV6.out.cell 1 1 rfl rfl
  have k1_2:V6.cell? ⟨b22,2,none⟩=some (.slice d22 e22 f22):=hV6.out.cell 1 2 rfl rfl
  go_wp2_with fail
  refine(hcmp_is (hV6.out.r 1 rfl) (hV6.out.r 0 rfl) (HBQ.out (z+more) (by omega)) (HBQ.out z (by omega)) (by omega) (by omega) EV9.out).mono ?_
  rintro e W9 ⟨rfl,hb⟩
  have hT9:=Lib.hid (hV6.out.call hb)
  clear hb hV6 k0_0 k0_1 k0_2 k1_0 k1_1 k1_2
  go_wp2_with fail
  refine(HW.out _).mono ?_
  rintro e WZ ⟨rfl,hb⟩
  have hZ:=Lib.hid (hT9.out.call hb)
  clear hb
  go_wp2
  go_ret
  exact⟨rfl,hZ.out.be⟩
end
end Go.Proofs.YthmdhlopeponcaaGreatDoor
