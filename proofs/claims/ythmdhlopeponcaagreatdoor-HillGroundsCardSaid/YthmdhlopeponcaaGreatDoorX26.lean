/- Bounds, Areas, Pool -/
import Derived.Test.YthmdhlopeponcaaGreatDoorX1
import Derived.Test.YthmdhlopeponcaaGreatDoorX25
import Derived.Test.YthmdhlopeponcaaGreatDoorX0
import Derived.Test.YthmdhlopeponcaaGreatDoorX17
import Derived.Test.YthmdhlopeponcaaGreatDoorX5
set_option maxRecDepth 100000
set_option maxHeartbeats 8000000
namespace Go.Proofs.YthmdhlopeponcaaGreatDoor
open Go.RowKit Go.Shelf Dig
section
variable (w:World)
theorem hBounds_bad (sa:Option Addr) (sn sc:Nat) (l:List Pt) (a b:Int) (hs:Sx 2 w sa sn sc (L2 l)) (er:Int) (he:strErr l a b=er) (h0:er≠0):Calls Tryz.prog 51 #[.slice sa sn sc,.int .i64 a,.int .i64 b] w (RetRRE w 0 0 er):=by
 have HK:=ζ (fun W (hW:Below w.heap.size w W)=>hstretched_any W sa sn sc l a b (hs.below hW))
 rw [he]at HK
 have e0:(er !=0)=true:=bne_iff_ne.2 h0
 have hC:=ζ (((Sy.enter w).al w.heap.size #[.slice none 0 0,.bool false,.slice none 0 0] 42 rfl).al (w.heap.size+1) #[.slice none 0 0,.bool false,.slice none 0 0] 42 (by simp))
 clear he hs h0
 go_enter Tryz.func51,Tryz.ntmps51
 go_wp2_with fail
 refine(HK.out _ hC.out.be).mono ?_
 rintro e w1 ⟨rfl,hb⟩
 have hD:=ζ (hC.out.call hb)
 clear hb hC
 have hE:=ζ (hD.out.al w1.heap.size #[.slice sa sn sc,.int .i64 a,.int .i64 b] 120 rfl)
 go_upto_region 2 with fail
 refine wp_geny hE.out ?_
 intro V1 hc
 obtain ⟨b2,hb2⟩:∃b2,w1.heap.size=b2:=⟨_,rfl⟩
 rw [hb2]at hc⊢
 have hG:Hid (Sy w V1 [(w.heap.size,#[.slice none 0 0,.bool false,.slice none 0 0],42),((w.heap.size+1),#[.slice none 0 0,.bool false,.slice none 0 0],42),(b2,#[.slice sa sn sc,.int .i64 a,.int .i64 b],120)] [] []):=ζ hc
 clear hc hD hE hb2
 have x0_0:=hG.out.cell 0 0 rfl rfl
 have xf0_0:=hG.out.free 0 0 rfl
 have x0_1:=hG.out.cell 0 1 rfl rfl
 have xf0_1:=hG.out.free 0 1 rfl
 have x0_2:=hG.out.cell 0 2 rfl rfl
 have xf0_2:=hG.out.free 0 2 rfl
 have x1_0:=hG.out.cell 1 0 rfl rfl
 have xf1_0:=hG.out.free 1 0 rfl
 have x1_1:=hG.out.cell 1 1 rfl rfl
 have xf1_1:=hG.out.free 1 1 rfl
 have x1_2:=hG.out.cell 1 2 rfl rfl
 have xf1_2:=hG.out.free 1 2 rfl
 go_wp2
 have hZ:=ζ ((hG.out|>.set (j:=0) (v:= .slice none 0 0) 0 rfl|>.set (j:=1) (v:= .bool false) 0 rfl|>.set (j:=2) (v:= .slice none 0 0) 0 rfl|>.set (j:=0) (v:= .slice none 0 0) 1 rfl|>.set (j:=1) (v:= .bool false) 1 rfl|>.set (j:=2) (v:= .slice none 0 0) 1 rfl).pR rfl rfl Rd.nil)
 refine ret_sy hZ.out (v:= .tuple #[.agg #[.slice none 0 0,.bool false,.slice none 0 0],.agg #[.slice none 0 0,.bool false,.slice none 0 0],.int .i64 er]) (fun hF=>?_) rfl (fun hF=>⟨_,_,_,_,_,_,_,_,_,_,_,_,_,_,rfl,hF.r 0 rfl,hF.r 0 rfl,hF.be⟩)
 have g0_0:=hF.cell 0 0 rfl rfl
 have g0_1:=hF.cell 0 1 rfl rfl
 have g0_2:=hF.cell 0 2 rfl rfl
 have g1_0:=hF.cell 1 0 rfl rfl
 have g1_1:=hF.cell 1 1 rfl rfl
 have g1_2:=hF.cell 1 2 rfl rfl
 simp [results,Tryz.results51,go_sem,g0_0,g0_1,g0_2,g1_0,g1_1,g1_2]
theorem hBounds_ok (sa:Option Addr) (sn sc:Nat) (l:List Pt) (a b:Int) (hs:Sx 2 w sa sn sc (L2 l)) (he:strErr l a b=0):Calls Tryz.prog 51 #[.slice sa sn sc,.int .i64 a,.int .i64 b] w (RetRRE w (loQ l a b) (hiQ l a b) 0):=by
 have HK:=ζ (fun W (hW:Below w.heap.size w W)=>hstretched_any W sa sn sc l a b (hs.below hW))
 rw [he]at HK
 have HB:=ζ (fun W (hW:Below w.heap.size w W)=>callsIn_wide.1 (hbounds_in W 4 (Nat.le_refl _) sa sn sc l a b (strErr_zero he) (hs.below hW)))
 have hC:=ζ (((Sy.enter w).al w.heap.size #[.slice none 0 0,.bool false,.slice none 0 0] 42 rfl).al (w.heap.size+1) #[.slice none 0 0,.bool false,.slice none 0 0] 42 (by simp))
 clear he hs
 generalize loQ l a b=lo at*
 generalize hiQ l a b=hi at*
 go_enter Tryz.func51,Tryz.ntmps51
 go_wp2_with fail
 refine(HK.out _ hC.out.be).mono ?_
 rintro e w1 ⟨rfl,hb⟩
 have hD:=ζ (hC.out.call hb)
 clear hb hC
 have hE:=ζ (hD.out.al w1.heap.size #[.slice sa sn sc,.int .i64 a,.int .i64 b] 120 rfl)
 go_upto_region 4 with fail
 refine wp_geny hE.out ?_
 intro V1 hc
 obtain ⟨b2,hb2⟩:∃b2,w1.heap.size=b2:=⟨_,rfl⟩
 rw [hb2]at hc⊢
 have hG:Hid (Sy w V1 [(w.heap.size,#[.slice none 0 0,.bool false,.slice none 0 0],42),((w.heap.size+1),#[.slice none 0 0,.bool false,.slice none 0 0],42),(b2,#[.slice sa sn sc,.int .i64 a,.int .i64 b],120)] [] []):=ζ hc
 clear hc hD hE hb2
 have x2_0:=hG.out.cell 2 0 rfl rfl
 have xf2_0:=hG.out.free 2 0 rfl
 have x2_1:=hG.out.cell 2 1 rfl rfl
 have xf2_1:=hG.out.free 2 1 rfl
 have x2_2:=hG.out.cell 2 2 rfl rfl
 have xf2_2:=hG.out.free 2 2 rfl
 go_wp2_with fail
 refine(HB.out _ hG.out.be).mono ?_
 rintro e w2 ⟨a5,n5,c5,m5,d5,e5,f5,a6,n6,c6,m6,d6,e6,f6,rfl,hz1,hz2,hb⟩
 have hI:=ζ (((hG.out.call hb).pR rfl rfl hz1).pR rfl rfl hz2)
 clear hb hG hz1 hz2 x2_0 xf2_0 x2_1 xf2_1 x2_2 xf2_2
 have x0_0:=hI.out.cell 0 0 rfl rfl
 have xf0_0:=hI.out.free 0 0 rfl
 have x0_1:=hI.out.cell 0 1 rfl rfl
 have xf0_1:=hI.out.free 0 1 rfl
 have x0_2:=hI.out.cell 0 2 rfl rfl
 have xf0_2:=hI.out.free 0 2 rfl
 have x1_0:=hI.out.cell 1 0 rfl rfl
 have xf1_0:=hI.out.free 1 0 rfl
 have x1_1:=hI.out.cell 1 1 rfl rfl
 have xf1_1:=hI.out.free 1 1 rfl
 have x1_2:=hI.out.cell 1 2 rfl rfl
 have xf1_2:=hI.out.free 1 2 rfl
 go_upto_region 5 with fail
 have hJ:=ζ (hI.out|>.set (j:=0) (v:= .slice a5 n5 c5) 0 rfl|>.set (j:=1) (v:= .bool m5) 0 rfl|>.set (j:=2) (v:= .slice d5 e5 f5) 0 rfl|>.set (j:=0) (v:= .slice a6 n6 c6) 1 rfl|>.set (j:=1) (v:= .bool m6) 1 rfl|>.set (j:=2) (v:= .slice d6 e6 f6) 1 rfl)
 refine wp_geny hJ.out ?_
 intro V2 hc
 obtain ⟨b1,hb1⟩:∃b1,w.heap.size+1=b1:=⟨_,rfl⟩
 obtain ⟨b0,hb0⟩:∃b0,w.heap.size=b0:=⟨_,rfl⟩
 have hS:Hid (Sy w V2 [(b0,#[.slice a5 n5 c5,.bool m5,.slice d5 e5 f5],42),(b1,#[.slice a6 n6 c6,.bool m6,.slice d6 e6 f6],42),(b2,#[.slice sa sn sc,.int .i64 a,.int .i64 b],120)] [] [(fun V=>Rd V (.slice a5 n5 c5) m5 (.slice d5 e5 f5) (lo)),(fun V=>Rd V (.slice a6 n6 c6) m6 (.slice d6 e6 f6) (hi))]):=ζ (by rw [←hb1,←hb0];exact hc)
 rw [hb1,hb0]
 clear hc hJ hI hb1 hb0 x0_0 xf0_0 x0_1 xf0_1 x0_2 xf0_2 x1_0 xf1_0 x1_1 xf1_1 x1_2 xf1_2
 refine wp_region_held_drew (S:=(fun w'=>w'.cell? ⟨b0,0,none⟩=some (.slice a5 n5 c5)∧w'.cell? ⟨b0,1,none⟩=some (.bool m5)∧w'.cell? ⟨b0,2,none⟩=some (.slice d5 e5 f5)∧w'.cell? ⟨b1,0,none⟩=some (.slice a6 n6 c6)∧w'.cell? ⟨b1,1,none⟩=some (.bool m6)∧w'.cell? ⟨b1,2,none⟩=some (.slice d6 e6 f6)∧True)) (by kernel_rfl) ⟨hS.out.drew.cell 0 0 rfl rfl,hS.out.drew.cell 0 1 rfl rfl,hS.out.drew.cell 0 2 rfl rfl,hS.out.drew.cell 1 0 rfl rfl,hS.out.drew.cell 1 1 rfl rfl,hS.out.drew.cell 1 2 rfl rfl,trivial⟩ (fun hH=>?_)
 refine wpAnyH_geny (show Sy w _ [(b0,#[.slice a5 n5 c5,.bool m5,.slice d5 e5 f5],42),(b1,#[.slice a6 n6 c6,.bool m6,.slice d6 e6 f6],42),(b2,#[.slice sa sn sc,.int .i64 a,.int .i64 b],120)] [] [(fun V=>Rd V (.slice a5 n5 c5) m5 (.slice d5 e5 f5) (lo)),(fun V=>Rd V (.slice a6 n6 c6) m6 (.slice d6 e6 f6) (hi))]from hS.out.drew) hH ?_
 intro VZ_0 hc hHZ_0
 have hVZ_0:=ζ hc
 clear hc hH hS
 refine tkA 0 rfl hHZ_0 ?_
 try simp only [Act.put,zI,z0,zS]
 refine tkA 1 rfl hHZ_0 ?_
 try simp only [Act.put,zI,z0,zS]
 refine rdy1 2 rfl (fun Kq hKq=>?_)
 have cQ0:=hVZ_0.out.cell 0 0 rfl rfl
 have fQ0:=hVZ_0.out.free 0 0 rfl
 have cQ1:=hVZ_0.out.cell 0 1 rfl rfl
 have fQ1:=hVZ_0.out.free 0 1 rfl
 have cQ2:=hVZ_0.out.cell 0 2 rfl rfl
 have fQ2:=hVZ_0.out.free 0 2 rfl
 go_simp
 refine stepZ hKq (show Sy w _ [(b0,#[.slice a5 n5 c5,.bool m5,.slice d5 e5 f5],42),(b1,#[.slice a6 n6 c6,.bool m6,.slice d6 e6 f6],42),(b2,#[.slice sa sn sc,.int .i64 a,.int .i64 b],120)] [] [(fun V=>Rd V (.slice a5 n5 c5) m5 (.slice d5 e5 f5) (lo)),(fun V=>Rd V (.slice a6 n6 c6) m6 (.slice d6 e6 f6) (hi))]from(hVZ_0.out|>.set (j:=0) (v:= .slice a5 n5 c5) 0 rfl|>.set (j:=1) (v:= .bool m5) 0 rfl|>.set (j:=2) (v:= .slice d5 e5 f5) 0 rfl)) (fun _ hX=>⟨hX.cell 0 0 rfl rfl,hX.cell 0 1 rfl rfl,hX.cell 0 2 rfl rfl,hX.cell 1 0 rfl rfl,hX.cell 1 1 rfl rfl,hX.cell 1 2 rfl rfl,trivial⟩) ?_
 intro VZ_1 hVZ_1 hHZ_1
 clear hKq Kq hVZ_0 cQ0 fQ0 cQ1 fQ1 cQ2 fQ2 hHZ_0
 try simp only [Act.put]
 refine rdy1 3 rfl (fun Kq hKq=>?_)
 have cQ0:=hVZ_1.out.cell 1 0 rfl rfl
 have fQ0:=hVZ_1.out.free 1 0 rfl
 have cQ1:=hVZ_1.out.cell 1 1 rfl rfl
 have fQ1:=hVZ_1.out.free 1 1 rfl
 have cQ2:=hVZ_1.out.cell 1 2 rfl rfl
 have fQ2:=hVZ_1.out.free 1 2 rfl
 go_simp
 refine stepZ hKq (show Sy w _ [(b0,#[.slice a5 n5 c5,.bool m5,.slice d5 e5 f5],42),(b1,#[.slice a6 n6 c6,.bool m6,.slice d6 e6 f6],42),(b2,#[.slice sa sn sc,.int .i64 a,.int .i64 b],120)] [] [(fun V=>Rd V (.slice a5 n5 c5) m5 (.slice d5 e5 f5) (lo)),(fun V=>Rd V (.slice a6 n6 c6) m6 (.slice d6 e6 f6) (hi))]from(hVZ_1.out|>.set (j:=0) (v:= .slice a6 n6 c6) 1 rfl|>.set (j:=1) (v:= .bool m6) 1 rfl|>.set (j:=2) (v:= .slice d6 e6 f6) 1 rfl)) (fun _ hX=>⟨hX.cell 0 0 rfl rfl,hX.cell 0 1 rfl rfl,hX.cell 0 2 rfl rfl,hX.cell 1 0 rfl rfl,hX.cell 1 1 rfl rfl,hX.cell 1 2 rfl rfl,trivial⟩) ?_
 intro VZ_2 hVZ_2 hHZ_2
 clear hKq Kq hVZ_1 cQ0 fQ0 cQ1 fQ1 cQ2 fQ2 hHZ_1
 try simp only [Act.put]
 refine rdy1 4 rfl (fun Kq hKq=>?_)
 go_simp
 refine stepZ hKq (show Sy w _ [(b0,#[.slice a5 n5 c5,.bool m5,.slice d5 e5 f5],42),(b1,#[.slice a6 n6 c6,.bool m6,.slice d6 e6 f6],42),(b2,#[.slice sa sn sc,.int .i64 a,.int .i64 b],120)] [] [(fun V=>Rd V (.slice a5 n5 c5) m5 (.slice d5 e5 f5) (lo)),(fun V=>Rd V (.slice a6 n6 c6) m6 (.slice d6 e6 f6) (hi))]from hVZ_2.out) (fun _ hX=>⟨hX.cell 0 0 rfl rfl,hX.cell 0 1 rfl rfl,hX.cell 0 2 rfl rfl,hX.cell 1 0 rfl rfl,hX.cell 1 1 rfl rfl,hX.cell 1 2 rfl rfl,trivial⟩) ?_
 intro VZ_3 hVZ_3 hHZ_3
 clear hKq Kq hVZ_2 hHZ_2
 try simp only [Act.put,zI,z0,zS]
 refine wpAnyH_done (by kernel_rfl) ?_ _
 go_wp2
 refine ret_sy hVZ_3.out (v:= .tuple #[.agg #[.slice a5 n5 c5,.bool m5,.slice d5 e5 f5],.agg #[.slice a6 n6 c6,.bool m6,.slice d6 e6 f6],.int .i64 0]) (fun hF=>?_) rfl (fun hF=>⟨a5,n5,c5,m5,d5,e5,f5,a6,n6,c6,m6,d6,e6,f6,rfl,hF.r 0 rfl,hF.r 1 rfl,hF.be⟩)
 have g0_0:=hF.cell 0 0 rfl rfl
 have g0_1:=hF.cell 0 1 rfl rfl
 have g0_2:=hF.cell 0 2 rfl rfl
 have g1_0:=hF.cell 1 0 rfl rfl
 have g1_1:=hF.cell 1 1 rfl rfl
 have g1_2:=hF.cell 1 2 rfl rfl
 simp [results,Tryz.results51,go_sem,g0_0,g0_1,g0_2,g1_0,g1_1,g1_2]
theorem hAreas_ok (sa:Option Addr) (sn sc:Nat) (l:List Pt) (a b:Int) (hs:Sx 2 w sa sn sc (L2 l)) (z:Int) (he:strErr l a b=0) (hz:inB z (-100000) 100000=true):Calls Tryz.prog 39 #[.slice sa sn sc,.int .i64 a,.int .i64 b,.int .i64 z] w (RetRRE w (above l a b z) (below l a b z) 0):=by
 have HK:=ζ (fun W (hW:Below w.heap.size w W)=>hstretched_any W sa sn sc l a b (hs.below hW))
 rw [he]at HK
 have hzz:InZ z:=by have:=inB_iff.1 hz;unfold InZ;omega
 have HA:=ζ (fun W (hW:Below w.heap.size w W)=>above_any W sa sn sc l a b z (strErr_zero he) hzz (hs.below hW))
 have HB:=ζ (fun W (hW:Below w.heap.size w W)=>below_any W sa sn sc l a b z (strErr_zero he) hzz (hs.below hW))
 have hC:=ζ (((Sy.enter w).al w.heap.size #[.slice none 0 0,.bool false,.slice none 0 0] 42 rfl).al (w.heap.size+1) #[.slice none 0 0,.bool false,.slice none 0 0] 42 (by simp))
 clear he hs hzz
 generalize above l a b z=ab at*
 generalize below l a b z=be at*
 go_enter Tryz.func39,Tryz.ntmps39
 go_wp2_with fail
 refine(HK.out _ hC.out.be).mono ?_
 rintro e w1 ⟨rfl,hb⟩
 have hD:=ζ (hC.out.call hb)
 clear hb hC
 have hE:=ζ (hD.out.al w1.heap.size #[.slice sa sn sc,.int .i64 a,.int .i64 b] 120 rfl)
 go_upto_region 6 with ((with_reducible refine(hwithin_any _ _ _ _).mono ?_);rintro e w2 ⟨rfl,rfl⟩)
 refine wp_geny hE.out ?_
 intro V1 hc
 obtain ⟨b2,hb2⟩:∃b2,w1.heap.size=b2:=⟨_,rfl⟩
 rw [hb2]at hc⊢
 obtain ⟨b1,hb1⟩:∃b1,w.heap.size+1=b1:=⟨_,rfl⟩
 obtain ⟨b0,hb0⟩:∃b0,w.heap.size=b0:=⟨_,rfl⟩
 have hG:Hid (Sy w V1 [(b0,#[.slice none 0 0,.bool false,.slice none 0 0],42),(b1,#[.slice none 0 0,.bool false,.slice none 0 0],42),(b2,#[.slice sa sn sc,.int .i64 a,.int .i64 b],120)] [] []):=ζ (by rw [←hb1,←hb0];exact hc)
 rw [hb1,hb0]
 clear hc hD hE hb0 hb1 hb2
 refine wp_region_held_drew (S:=(fun w'=>w'.cell? ⟨b2,0,none⟩=some (.slice sa sn sc)∧w'.cell? ⟨b2,1,none⟩=some (.int .i64 a)∧w'.cell? ⟨b2,2,none⟩=some (.int .i64 b)∧True)) (by kernel_rfl) ⟨hG.out.drew.cell 2 0 rfl rfl,hG.out.drew.cell 2 1 rfl rfl,hG.out.drew.cell 2 2 rfl rfl,trivial⟩ (fun hH=>?_)
 refine wpAnyH_geny (show Sy w _ [(b0,#[.slice none 0 0,.bool false,.slice none 0 0],42),(b1,#[.slice none 0 0,.bool false,.slice none 0 0],42),(b2,#[.slice sa sn sc,.int .i64 a,.int .i64 b],120)] [] []from hG.out.drew) hH ?_
 intro VZ_0 hc hHZ_0
 have hVZ_0:=ζ hc
 clear hc hH hG
 refine tkA 0 rfl hHZ_0 ?_
 try simp only [Act.put,zI,z0,zS]
 refine tkA 1 rfl hHZ_0 ?_
 try simp only [Act.put,zI,z0,zS]
 refine tkA 3 rfl hHZ_0 ?_
 try simp only [Act.put,zI,z0,zS]
 refine tkA 4 rfl hHZ_0 ?_
 try simp only [Act.put,zI,z0,zS]
 refine rdy1 2 rfl (fun Kq hKq=>?_)
 go_simp
 go_at_call 70
 refine(HA.out _ hVZ_0.out.be).mono ?_
 rintro e wT ⟨a5,n5,c5,m5,d5,e5,f5,rfl,hz,hb⟩
 (try go_wp2_with fail)
 refine stepZ hKq (show Sy w _ [(b0,#[.slice none 0 0,.bool false,.slice none 0 0],42),(b1,#[.slice none 0 0,.bool false,.slice none 0 0],42),(b2,#[.slice sa sn sc,.int .i64 a,.int .i64 b],120)] [] [(fun V=>Rd V (.slice a5 n5 c5) m5 (.slice d5 e5 f5) (ab))]from((hVZ_0.out.call hb).pR rfl rfl hz)) (fun _ hX=>⟨hX.cell 2 0 rfl rfl,hX.cell 2 1 rfl rfl,hX.cell 2 2 rfl rfl,trivial⟩) ?_
 intro VZ_1 hVZ_1 hHZ_1
 clear hKq Kq hVZ_0 hb hz hHZ_0
 try simp only [Act.put,zI,z0,zS]
 refine rdy1 5 rfl (fun Kq hKq=>?_)
 go_simp
 go_at_call 89
 refine(HB.out _ hVZ_1.out.be).mono ?_
 rintro e wT ⟨a6,n6,c6,m6,d6,e6,f6,rfl,hz,hb⟩
 (try go_wp2_with fail)
 refine stepZ hKq (show Sy w _ [(b0,#[.slice none 0 0,.bool false,.slice none 0 0],42),(b1,#[.slice none 0 0,.bool false,.slice none 0 0],42),(b2,#[.slice sa sn sc,.int .i64 a,.int .i64 b],120)] [] [(fun V=>Rd V (.slice a5 n5 c5) m5 (.slice d5 e5 f5) (ab)),(fun V=>Rd V (.slice a6 n6 c6) m6 (.slice d6 e6 f6) (be))]from((hVZ_1.out.call hb).pR rfl rfl hz)) (fun _ hX=>⟨hX.cell 2 0 rfl rfl,hX.cell 2 1 rfl rfl,hX.cell 2 2 rfl rfl,trivial⟩) ?_
 intro VZ_2 hVZ_2 hHZ_2
 clear hKq Kq hVZ_1 hb hz hHZ_1
 try simp only [Act.put,zI,z0,zS]
 refine rdy1 6 rfl (fun Kq hKq=>?_)
 have cQ0:=hVZ_2.out.cell 0 0 rfl rfl
 have fQ0:=hVZ_2.out.free 0 0 rfl
 have cQ1:=hVZ_2.out.cell 0 1 rfl rfl
 have fQ1:=hVZ_2.out.free 0 1 rfl
 have cQ2:=hVZ_2.out.cell 0 2 rfl rfl
 have fQ2:=hVZ_2.out.free 0 2 rfl
 go_simp
 refine stepZ hKq (show Sy w _ [(b0,#[.slice a5 n5 c5,.bool m5,.slice d5 e5 f5],42),(b1,#[.slice none 0 0,.bool false,.slice none 0 0],42),(b2,#[.slice sa sn sc,.int .i64 a,.int .i64 b],120)] [] [(fun V=>Rd V (.slice a5 n5 c5) m5 (.slice d5 e5 f5) (ab)),(fun V=>Rd V (.slice a6 n6 c6) m6 (.slice d6 e6 f6) (be))]from(hVZ_2.out|>.set (j:=0) (v:= .slice a5 n5 c5) 0 rfl|>.set (j:=1) (v:= .bool m5) 0 rfl|>.set (j:=2) (v:= .slice d5 e5 f5) 0 rfl)) (fun _ hX=>⟨hX.cell 2 0 rfl rfl,hX.cell 2 1 rfl rfl,hX.cell 2 2 rfl rfl,trivial⟩) ?_
 intro VZ_3 hVZ_3 hHZ_3
 clear hKq Kq hVZ_2 cQ0 fQ0 cQ1 fQ1 cQ2 fQ2 hHZ_2
 try simp only [Act.put]
 refine rdy1 7 rfl (fun Kq hKq=>?_)
 have cQ0:=hVZ_3.out.cell 1 0 rfl rfl
 have fQ0:=hVZ_3.out.free 1 0 rfl
 have cQ1:=hVZ_3.out.cell 1 1 rfl rfl
 have fQ1:=hVZ_3.out.free 1 1 rfl
 have cQ2:=hVZ_3.out.cell 1 2 rfl rfl
 have fQ2:=hVZ_3.out.free 1 2 rfl
 go_simp
 refine stepZ hKq (show Sy w _ [(b0,#[.slice a5 n5 c5,.bool m5,.slice d5 e5 f5],42),(b1,#[.slice a6 n6 c6,.bool m6,.slice d6 e6 f6],42),(b2,#[.slice sa sn sc,.int .i64 a,.int .i64 b],120)] [] [(fun V=>Rd V (.slice a5 n5 c5) m5 (.slice d5 e5 f5) (ab)),(fun V=>Rd V (.slice a6 n6 c6) m6 (.slice d6 e6 f6) (be))]from(hVZ_3.out|>.set (j:=0) (v:= .slice a6 n6 c6) 1 rfl|>.set (j:=1) (v:= .bool m6) 1 rfl|>.set (j:=2) (v:= .slice d6 e6 f6) 1 rfl)) (fun _ hX=>⟨hX.cell 2 0 rfl rfl,hX.cell 2 1 rfl rfl,hX.cell 2 2 rfl rfl,trivial⟩) ?_
 intro VZ_4 hVZ_4 hHZ_4
 clear hKq Kq hVZ_3 cQ0 fQ0 cQ1 fQ1 cQ2 fQ2 hHZ_3
 try simp only [Act.put]
 refine rdy1 8 rfl (fun Kq hKq=>?_)
 go_simp
 refine stepZ hKq (show Sy w _ [(b0,#[.slice a5 n5 c5,.bool m5,.slice d5 e5 f5],42),(b1,#[.slice a6 n6 c6,.bool m6,.slice d6 e6 f6],42),(b2,#[.slice sa sn sc,.int .i64 a,.int .i64 b],120)] [] [(fun V=>Rd V (.slice a5 n5 c5) m5 (.slice d5 e5 f5) (ab)),(fun V=>Rd V (.slice a6 n6 c6) m6 (.slice d6 e6 f6) (be))]from hVZ_4.out) (fun _ hX=>⟨hX.cell 2 0 rfl rfl,hX.cell 2 1 rfl rfl,hX.cell 2 2 rfl rfl,trivial⟩) ?_
 intro VZ_5 hVZ_5 hHZ_5
 clear hKq Kq hVZ_4 hHZ_4
 try simp only [Act.put,zI,z0,zS]
 refine wpAnyH_done (by kernel_rfl) ?_ _
 go_wp2
 refine ret_sy hVZ_5.out (v:= .tuple #[.agg #[.slice a5 n5 c5,.bool m5,.slice d5 e5 f5],.agg #[.slice a6 n6 c6,.bool m6,.slice d6 e6 f6],.int .i64 0]) (fun hF=>?_) rfl (fun hF=>⟨a5,n5,c5,m5,d5,e5,f5,a6,n6,c6,m6,d6,e6,f6,rfl,hF.r 0 rfl,hF.r 1 rfl,hF.be⟩)
 have g0_0:=hF.cell 0 0 rfl rfl
 have g0_1:=hF.cell 0 1 rfl rfl
 have g0_2:=hF.cell 0 2 rfl rfl
 have g1_0:=hF.cell 1 0 rfl rfl
 have g1_1:=hF.cell 1 1 rfl rfl
 have g1_2:=hF.cell 1 2 rfl rfl
 simp [results,Tryz.results39,go_sem,g0_0,g0_1,g0_2,g1_0,g1_1,g1_2]
end
variable {l:List Pt} {a b:Int}
theorem Strt.in_pcs (hT:Strt l a b) {t:Int×Int} (ht:t∈Proofs.YthmdhlopeponcaaGreatDoor.pcs l a b):a≤t.1∧t.1 < t.2∧t.2≤b:=by
 obtain ⟨h1,h2,h3,_⟩:=hT.ok.stp_line (b:=b) 0 a (Nat.zero_le _) (Int.le_of_lt hT.lt) (fun h=>absurd h (Nat.lt_irrefl 0)) (fun _=>hT.lo) t ht
 exact⟨h1,h2,h3⟩
theorem Strt.below_mono (hT:Strt l a b) {y z:Int} (h:y≤z):below l a b y≤below l a b z:=by
 unfold below
 refine smQ_mono (fun t ht=>?_)
 obtain ⟨h1,h2,h3⟩:=hT.in_pcs ht
 have hc:=cast_le h
 unfold pieceB
 exact posQ_mono (by have:=cast_le (show(0:Int)≤t.2 - t.1 by omega);simpa using this) (by grind) (by grind)
theorem sums_bq {f:Int×Int→Rat} (hT:Strt l a b) (hf:∀t:Int×Int,a≤t.1→t.1 < t.2→t.2≤b→Bq 174 (f t)):Bq 7001 (smQ ((pcs l a b).map f)):=by
 have h:=smQ_bq (N:=174) (l:=(pcs l a b).map f) (by
  intro q hq
  obtain ⟨t,ht,rfl⟩:=List.mem_map.1 hq
  obtain ⟨h1,h2,h3⟩:=hT.in_pcs ht
  exact hf t h1 h2 h3)
 refine h.mono ?_
 have:=hT.ok.pcs_len a b
 rw [List.length_map]
 omega
theorem Strt.below_bq (hT:Strt l a b) {z:Int} (hz:InZ z):Bq 7001 (below l a b z):=sums_bq hT (pieceB_bq hT hz)
theorem Strt.above_bq (hT:Strt l a b) {z:Int} (hz:InZ z):Bq 7001 (above l a b z):=sums_bq hT (pieceA_bq hT hz)
theorem cmpQ_ge {x y:Rat} :0≤cmpQ x y↔y≤x:=by
 unfold cmpQ
 split
 ·rename_i h;constructor<;>intro _<;>first | omega | grind
 ·split
  ·constructor<;>intro _<;>first | omega | grind
  ·constructor<;>intro _<;>first | omega | grind
def poolB (l:List Pt) (a b area:Int) (n:Nat):Bool:=decide (0≤cmpQ (below l a b ((n:Int) - 100000)) (area:Rat))
def poolN (l:List Pt) (a b area:Int):Nat:=(List.range 200001).countP (fun i=> !poolB l a b area i)
theorem Strt.pool_mono (hT:Strt l a b) {area:Int} :∀x y,x≤y→y < 200001→poolB l a b area x=true→poolB l a b area y=true:=by
 intro x y h _ h1
 unfold poolB at*
 rw [decide_eq_true_eq,cmpQ_ge]at*
 have:=hT.below_mono (show(x:Int) - 100000≤(y:Int) - 100000 by omega)
 grind
def floodErr (l:List Pt) (a b area:Int):Int:=if strErr l a b=0 then(if inB area 1 1000000000000=true then(if poolN l a b area=200001 then 12 else 0)else 3)else strErr l a b
def floodLev (l:List Pt) (a b area:Int):Int:=if floodErr l a b area=0 then(poolN l a b area:Int) - 100000 else 0
section
variable (w:World)
theorem flood1_any (sa:Option Addr) (sn sc:Nat) (l:List Pt) (a b:Int) (hs:Sx 2 w sa sn sc (L2 l)) (area:Int) (b0 b1:Nat) (n:Nat) (hn:n < 200001) (hT:Strt l a b) (ha:1≤area∧area≤1000000000000) (h0:w.cell? ⟨b0,0,none⟩=some (.slice sa sn sc)) (h1:w.cell? ⟨b0,1,none⟩=some (.int .i64 a)) (h2:w.cell? ⟨b0,2,none⟩=some (.int .i64 b))
  (h3:w.cell? ⟨b1,0,none⟩=some (.int .i64 area)) (l0:b0 < w.heap.size) (l1:b1 < w.heap.size):
  Calls Tryz.prog 88 #[.int .i64 n,.pointer (some ⟨b0,0,none⟩),.pointer (some ⟨b1,0,none⟩)] w (Gives (.bool (poolB l a b area n)) w):=by
 have HA0:=ζ (fun W (h:Below w.heap.size w W)=>(h.cell (p:=⟨b0,0,none⟩) l0).trans h0)
 have HA1:=ζ (fun W (h:Below w.heap.size w W)=>(h.cell (p:=⟨b0,1,none⟩) l0).trans h1)
 have HA2:=ζ (fun W (h:Below w.heap.size w W)=>(h.cell (p:=⟨b0,2,none⟩) l0).trans h2)
 have HA3:=ζ (fun W (h:Below w.heap.size w W)=>(h.cell (p:=⟨b1,0,none⟩) l1).trans h3)
 have hz:InZ ((n:Int) - 100000):=by unfold InZ;omega
 have HB:=ζ (fun W (hW:Below w.heap.size w W)=>below_any W sa sn sc l a b ((n:Int) - 100000) hT hz (hs.below hW))
 have B1:=ζ (hT.below_bq hz)
 have B2:=ζ (show Bq 41 (area:Rat)from Bq.int (n:=40) (by unfold Bd;omega))
 have HK:=ζ (show -9223372036854775808≤area∧area < 9223372036854775808 by omega)
 have HP:=ζ (show poolB l a b area n=decide (0≤cmpQ (below l a b ((n:Int) - 100000)) (area:Rat))from rfl)
 have wn:IntKind.i64.wrap ((n:Int) - 100000)=(n:Int) - 100000:=IntWalk.i64_in _ (by omega)
 rw [HP.out]
 generalize below l a b ((n:Int) - 100000)=bl at*
 clear hs hT ha h0 h1 h2 h3 l0 l1 hz HP
 have hC:=ζ (Sy.enter w)
 go_enter Tryz.func88,Tryz.ntmps88
 go_upto_region 1 with fail
 refine wp_geny hC.out ?_
 intro V1 hc
 have hS:=ζ hc
 clear hc hC
 refine wp_region_held_drew (S:=(fun w'=>w'.cell? ⟨b0,0,none⟩=some (.slice sa sn sc)∧w'.cell? ⟨b0,1,none⟩=some (.int .i64 a)∧w'.cell? ⟨b0,2,none⟩=some (.int .i64 b)∧w'.cell? ⟨b1,0,none⟩=some (.int .i64 area)∧True)) (by kernel_rfl) ⟨(HA0.out _ hS.out.drew.be),(HA1.out _ hS.out.drew.be),(HA2.out _ hS.out.drew.be),(HA3.out _ hS.out.drew.be),trivial⟩ (fun hH=>?_)
 refine wpAnyH_geny (show Sy w _ [] [] []from hS.out.drew) hH ?_
 intro VA_0 hc hHA_0
 have hVA_0:=ζ hc
 clear hc hH hS
 refine tkA 0 rfl hHA_0 ?_
 try simp only [Act.put,zI,z0,zS]
 refine tkA 1 rfl hHA_0 ?_
 try simp only [Act.put,zI,z0,zS]
 refine tkA 2 rfl hHA_0 ?_
 try simp only [Act.put,zI,z0,zS]
 refine tkA 4 rfl hHA_0 ?_
 try simp only [Act.put,zI,z0,zS]
 refine rdy1 3 rfl (fun Kq hKq=>?_)
 go_simp
 go_at_call 89
 refine(HB.out _ hVA_0.out.be).mono ?_
 rintro e wT ⟨a5,n5,c5,m5,d5,e5,f5,rfl,hz,hb⟩
 (try go_wp2_with fail)
 refine stepZ hKq (show Sy w _ [] [] [(fun V=>Rd V (.slice a5 n5 c5) m5 (.slice d5 e5 f5) (bl))]from((hVA_0.out.call hb).pR rfl rfl hz)) (fun _ hX=>⟨(HA0.out _ hX.be),(HA1.out _ hX.be),(HA2.out _ hX.be),(HA3.out _ hX.be),trivial⟩) ?_
 intro VA_1 hVA_1 hHA_1
 clear hKq Kq hVA_0 hb hz hHA_0
 try simp only [Act.put,zI,z0,zS]
 refine rdy1 5 rfl (fun Kq hKq=>?_)
 go_simp
 go_at_call 45
 refine(of_any _ HK.out _).mono ?_
 rintro e wT ⟨a6,n6,c6,m6,d6,e6,f6,rfl,hz,hb⟩
 (try go_wp2_with fail)
 refine stepZ hKq (show Sy w _ [] [] [(fun V=>Rd V (.slice a5 n5 c5) m5 (.slice d5 e5 f5) (bl)),(fun V=>Rd V (.slice a6 n6 c6) m6 (.slice d6 e6 f6) (area))]from((hVA_1.out.call hb).pR rfl rfl hz)) (fun _ hX=>⟨(HA0.out _ hX.be),(HA1.out _ hX.be),(HA2.out _ hX.be),(HA3.out _ hX.be),trivial⟩) ?_
 intro VA_2 hVA_2 hHA_2
 clear hKq Kq hVA_1 hb hz hHA_1
 try simp only [Act.put,zI,z0,zS]
 refine rdy1 6 rfl (fun Kq hKq=>?_)
 go_simp
 go_at_call 41
 refine(hcmp_is (hVA_2.out.r 0 rfl) (hVA_2.out.r 1 rfl) B1.out B2.out (by omega) (by omega) rfl).mono ?_
 rintro e wT ⟨rfl,hb⟩
 (try go_wp2_with fail)
 refine stepZ hKq (show Sy w _ [] [] [(fun V=>Rd V (.slice a5 n5 c5) m5 (.slice d5 e5 f5) (bl)),(fun V=>Rd V (.slice a6 n6 c6) m6 (.slice d6 e6 f6) (area))]from(hVA_2.out.call hb)) (fun _ hX=>⟨(HA0.out _ hX.be),(HA1.out _ hX.be),(HA2.out _ hX.be),(HA3.out _ hX.be),trivial⟩) ?_
 intro VA_3 hVA_3 hHA_3
 clear hKq Kq hVA_2 hb hHA_2
 try simp only [Act.put,zI,z0,zS]
 refine tkA 7 rfl hHA_3 ?_
 try simp only [Act.put,zI,z0,zS]
 refine rdy1 8 rfl (fun Kq hKq=>?_)
 go_simp
 refine stepZ hKq (show Sy w _ [] [] [(fun V=>Rd V (.slice a5 n5 c5) m5 (.slice d5 e5 f5) (bl)),(fun V=>Rd V (.slice a6 n6 c6) m6 (.slice d6 e6 f6) (area))]from hVA_3.out) (fun _ hX=>⟨(HA0.out _ hX.be),(HA1.out _ hX.be),(HA2.out _ hX.be),(HA3.out _ hX.be),trivial⟩) ?_
 intro VA_4 hVA_4 hHA_4
 clear hKq Kq hVA_3 hHA_3
 try simp only [Act.put,zI,z0,zS]
 refine wpAnyH_done (by kernel_rfl) ?_ _
 go_wp2
 go_ret
 exact⟨rfl,hVA_4.out.be⟩
theorem eg_flood1:EG 88:=enters_of Tryz.func88 (by kernel_rfl) rfl
theorem flood_any (sa:Option Addr) (sn sc:Nat) (l:List Pt) (a b:Int) (hs:Sx 2 w sa sn sc (L2 l)) (area:Int) (hi: -9223372036854775808≤area∧area < 9223372036854775808):Calls Tryz.prog 37 #[.slice sa sn sc,.int .i64 a,.int .i64 b,.int .i64 area] w (Gives (.tuple #[.int .i64 (floodLev l a b area),.int .i64 (floodErr l a b area)]) w):=by
 have HK:=ζ (fun W (hW:Below w.heap.size w W)=>hstretched_any W sa sn sc l a b (hs.below hW))
 have HS:=ζ hs
 have HE:=ζ (show floodErr l a b area=if strErr l a b=0 then(if inB area 1 1000000000000=true then(if poolN l a b area=200001 then 12 else 0)else 3)else strErr l a b from rfl)
 have HL:=ζ (show floodLev l a b area=if floodErr l a b area=0 then(poolN l a b area:Int) - 100000 else 0 from rfl)
 have hC:=ζ ((Sy.enter w).al w.heap.size #[.int .i64 area] 2 rfl)
 have HSM:=ζ (fun(hT:Strt l a b) (ha:1≤area∧area≤1000000000000) W (hW:Below w.heap.size w W) (b0 b1:Nat) (h0:W.cell? ⟨b0,0,none⟩=some (.slice sa sn sc)) (h1:W.cell? ⟨b0,1,none⟩=some (.int .i64 a)) (h2:W.cell? ⟨b0,2,none⟩=some (.int .i64 b)) (h3:W.cell? ⟨b1,0,none⟩=some (.int .i64 area)) (l0:b0 < W.heap.size) (l1:b1 < W.heap.size)=>
  (show Calls Tryz.prog 87 #[.int .i64 (200001:Nat),.func (.func 88) #[] #[.pointer (some ⟨b0,0,none⟩),.pointer (some ⟨b1,0,none⟩)]] W (Gives (.int .i64 (poolN l a b area:Nat)) W)from
   search_any W 88 #[.pointer (some ⟨b0,0,none⟩),.pointer (some ⟨b1,0,none⟩)] 200001 (poolB l a b area) eg_flood1 (by omega)
    (fun V hV i hi=>flood1_any V sa sn sc l a b (hs.below (hW.trans (hV.mono hW.size))) area b0 b1 i hi hT ha ((hV.cell (p:=⟨b0,0,none⟩) l0).trans h0) ((hV.cell (p:=⟨b0,1,none⟩) l0).trans h1) ((hV.cell (p:=⟨b0,2,none⟩) l0).trans h2) ((hV.cell (p:=⟨b1,0,none⟩) l1).trans h3) (Nat.lt_of_lt_of_le l0 hV.size) (Nat.lt_of_lt_of_le l1 hV.size))
    hT.pool_mono))
 have hpn:poolN l a b area≤200001:=by have:=List.countP_le_length (p:=fun i=> !poolB l a b area i) (l:=List.range 200001);rw [List.length_range]at this;exact this
 have HT:=ζ (fun(h:strErr l a b=0)=>strErr_zero h)
 generalize floodLev l a b area=lev at*
 generalize floodErr l a b area=fe at*
 generalize poolN l a b area=pn at*
 generalize strErr l a b=er at*
 clear hs
 go_enter Tryz.func37,Tryz.ntmps37
 go_wp2_with fail
 refine(HK.out _ hC.out.be).mono ?_
 rintro e w1 ⟨rfl,hb⟩
 have hD:=ζ ((hC.out.call hb).al w1.heap.size #[.slice sa sn sc,.int .i64 a,.int .i64 b] 120 rfl)
 clear hb hC
 go_upto_region 2 with fail
 refine wp_geny hD.out ?_
 intro V1 hc
 obtain ⟨b2,hb2⟩:∃b2,w1.heap.size=b2:=⟨_,rfl⟩
 obtain ⟨b1,hb1⟩:∃b1,w.heap.size=b1:=⟨_,rfl⟩
 have hG:Hid (Sy w V1 [(b1,#[.int .i64 area],2),(b2,#[.slice sa sn sc,.int .i64 a,.int .i64 b],120)] [] []):=ζ (by rw [←hb1,←hb2];exact hc)
 rw [hb1,hb2]
 clear hc hD hb1 hb2
 by_cases h0:er=0
 rotate_left
 ·have e0:(er !=0)=true:=bne_iff_ne.2 h0
  have he:=HE.out
  rw [if_neg h0]at he
  have hv:=HL.out
  rw [if_neg (by rw [he];exact h0)]at hv
  clear HE HL HSM HT
  subst he
  subst hv
  go_wp2
  go_ret2
  exact⟨rfl,hG.out.be⟩
 subst h0
 have x1:=hG.out.cell 0 0 rfl rfl
 by_cases hin:inB area 1 1000000000000=true
 rotate_left
 ·have he:=HE.out
  rw [if_pos rfl,if_neg hin]at he
  have hv:=HL.out
  rw [if_neg (by rw [he];decide)]at hv
  clear HE HL HSM HT
  subst he
  subst hv
  have hq:area < 1∨1000000000000 < area:=by have:=mt inB_iff.2 hin;omega
  rcases Int.lt_or_le area 1 with q1 | q1
  ·go_wp2
   go_ret2
   exact⟨rfl,hG.out.be⟩
  ·have q2:1000000000000 < area:=by omega
   have q3:¬ area < 1:=by omega
   go_wp2
   go_ret2
   exact⟨rfl,hG.out.be⟩
 have hr:=inB_iff.1 hin
 have q1:¬ area < 1:=by omega
 have q2:¬ 1000000000000 < area:=by omega
 have he:=HE.out
 rw [if_pos rfl,if_pos hin]at he
 have HE2:=ζ he
 have HQ:=ζ (HSM.out (HT.out rfl) hr)
 clear HE HSM he hin HT
 have l1:=hG.out.lt 0 rfl
 have l2:=hG.out.lt 1 rfl
 have y0:=hG.out.cell 1 0 rfl rfl
 have y1:=hG.out.cell 1 1 rfl rfl
 have y2:=hG.out.cell 1 2 rfl rfl
 go_wp2_with fail
 refine(HQ.out _ hG.out.be b2 b1 y0 y1 y2 x1 l2 l1).mono ?_
 rintro e w2 ⟨rfl,hb⟩
 have hH:=ζ (hG.out.call hb)
 clear hb hG x1 y0 y1 y2 l1 l2 HQ
 by_cases hp:pn=200001
 ·have he:=HE2.out
  rw [if_pos hp]at he
  have hv:=HL.out
  rw [if_neg (by rw [he];decide)]at hv
  have p1:(pn:Int)=200001:=by omega
  clear HE2 HL
  subst he
  subst hv
  go_wp2
  go_ret2
  exact⟨rfl,hH.out.be⟩
 ·have he:=HE2.out
  rw [if_neg hp]at he
  have hv:=HL.out
  rw [if_pos he]at hv
  have p1:¬ (pn:Int)=200001:=by omega
  have wn:IntKind.i64.wrap ((pn:Int) - 100000)=(pn:Int) - 100000:=IntWalk.i64_in _ (by omega)
  clear HE2 HL
  subst he
  subst hv
  go_wp2
  go_ret2
  exact⟨rfl,hH.out.be⟩
end
def bX (l:List Int) (i:Nat):Int:=l.getD i 0
theorem bX_at {l:List Int} {i:Nat} (h:i < l.length):bX l i=l[i]:=by unfold bX;rw [List.getD_eq_getElem?_getD,List.getElem?_eq_getElem h];rfl
def upI (l:List Int):Bool:=(List.range (l.length - 1)).all fun i=>decide (bX l i < bX l (i+1))
theorem upI_iff {l:List Int} :upI l=true↔∀i,i+1 < l.length→bX l i < bX l (i+1):=by
 unfold upI
 simp only [List.all_eq_true,List.mem_range,decide_eq_true_eq]
 exact⟨fun h i hi=>h i (by omega),fun h i hi=>h i (by omega)⟩
def brkB (l:List Pt) (bs:List Int):Bool:=profB l && (inB bs.length 2 61 && (upI bs && bs.all (hasB l)))
def tdC (v:Value) (ts:List (Int×Int)):List Value:=ts.flatMap fun t=>[v,.int .i64 t.1,.int .i64 t.2]
theorem tdC_snoc (v:Value) (ts:List (Int×Int)) (t:Int×Int):tdC v (ts++ [t])=tdC v ts++ [v,.int .i64 t.1,.int .i64 t.2]:=by
 unfold tdC;rw [List.flatMap_append,List.flatMap_cons,List.flatMap_nil,List.append_nil]
theorem nbr_len:∀l:List Int,(nbr l).length=l.length - 1
 | []=>rfl
 | [_]=>rfl
 | x::y::r=>by rw [show nbr (x::y::r)=(x,y)::nbr (y::r)from rfl,List.length_cons,nbr_len (y::r)];simp
theorem nbr_snoc:∀ (l:List Int) (x y:Int),nbr (l++ [x,y])=nbr (l++ [x])++ [(x,y)]
 | [],_,_=>rfl
 | [_],_,_=>rfl
 | z::u::r,x,y=>by
   show(z,u)::nbr ((u::r)++ [x,y])=(z,u)::nbr ((u::r)++ [x])++ [(x,y)]
   rw [nbr_snoc (u::r) x y];rfl
theorem nbr_take {l:List Int} {k:Nat} (h:k+1 < l.length):nbr (l.take (k+1+1))=nbr (l.take (k+1))++ [(l[k],l[k+1])]:=by
 have e1:l.take (k+1+1)=l.take k++ [l[k],l[k+1]]:=by
  rw [List.take_succ_eq_append_getElem h,List.take_succ_eq_append_getElem (show k < l.length by omega),List.append_assoc];rfl
 have e2:l.take (k+1)=l.take k++ [l[k]]:=List.take_succ_eq_append_getElem (show k < l.length by omega)
 rw [e1,e2]
 exact nbr_snoc _ _ _
theorem nbr_get:∀ {l:List Int} {i:Nat} (h:i+1 < l.length),(nbr l)[i]? =some (l[i],l[i+1])
 | x::y::r,0,_=>rfl
 | x::y::r,i+1,h=>by
   show(nbr (y::r))[i]? =_
   rw [nbr_get (l:=y::r) (by simpa using h)];rfl
def RetTr (ok:Bool) (w:World) (v:Value) (bs:List Int) (e:Ending) (w':World):Prop:=
 (ok=true∧∃a c,e= .returned (.tuple #[.slice a (bs.length - 1) c,.int .i64 0])∧w'.ownsRow w.heap.size 120 3 (.slice a (bs.length - 1) c) (bs.length - 1) (tdC v (nbr bs))∧Below w.heap.size w w')∨
 (ok=false∧e= .returned (.tuple #[.slice none 0 0,.int .i64 2])∧Below w.heap.size w w')
theorem und_stretches:Tryz.prog.underlying 123=some (.slice 120):=Tryz.underlying123
theorem info_stretch:(Tryz.prog.info? 120).map (fun i=>(i.zero,i.size,i.bytes))=some (some (.agg #[.slice none 0 0,.int .i64 0,.int .i64 0]),3,40):=by kernel_rfl
section
variable (w:World)
theorem treads1_any (x y:Int):Calls Tryz.prog 128 #[.int .i64 x,.int .i64 y] w (Gives (.bool (decide (x < y))) w):=by
 go_enter Tryz.func128,Tryz.ntmps128
 go_wp2
 go_ret
 exact⟨rfl,Below.refl _ _⟩
theorem risingI_any (a:Option Addr) (n c:Nat) (l:List Int) (hs:Sx 1 w a n c (L1 l)) (hn:n≤1000000):
  Calls Tryz.prog 127 #[.slice a n c,.func (.func 128) #[] #[]] w (Gives (.bool (upI l)) w):=by
 obtain rfl:=hs.n1
 have HS:=ζ hs
 have HE:=ζ (upI_iff (l:=l))
 clear hs
 generalize upI l=r at*
 go_enter Tryz.func127,Tryz.ntmps127
 go_wp2
 go_loopw [5] (fun iv wr=>∃k:Nat,1≤k∧(k≤l.length∨k=1)∧iv= .int .i64 k∧Hid (∀i,i+1 < k→bX l i < bX l (i+1))∧Hid (Sy w wr [] [] [])) (fun iv _=>l.length - (intOf iv).toNat)
 case atStart=>exact⟨1,by omega,.inr rfl,rfl,ζ (fun i h=>by omega),ζ (Sy.enter w)⟩
 case round=>
  obtain ⟨k,hk1,hk,rfl,HI,hC⟩:=hrel
  by_cases hlt:k < l.length
  ·obtain ⟨j,rfl⟩:∃j,k=j+1:=⟨k - 1,by omega⟩
   obtain ⟨g0,o0,rfl⟩:=HS.out.addr (by omega)
   have hj:j < l.length:=by omega
   have HA:=ζ (fun W (hW:Below w.heap.size w W)=>(HS.out.below hW).at1 hj)
   have HB:=ζ (fun W (hW:Below w.heap.size w W)=>(HS.out.below hW).at1 hlt)
   have HX:=ζ (show bX l j=l[j]∧bX l (j+1)=l[j+1]from⟨bX_at hj,bX_at hlt⟩)
   have HK:=ζ (fun W=>treads1_any W l[j] l[j+1])
   have HJ:=ζ hlt
   generalize l[j]=p at*
   generalize l[j+1]=q at*
   obtain ⟨n1,hn1⟩:∃n1:Nat,n1=j+1:=⟨_,rfl⟩
   rw [←hn1]at HB
   have e0:(((j+1:Nat):Int))=(n1:Int):=by omega
   rw [e0]
   have i2:IntKind.i64.wrap ((n1:Int) - 1)=(j:Int):=by rw [IntWalk.i64_in _ (by omega)];omega
   have i0:(0:Int)≤(j:Int):=by omega
   have i1:(j:Int) < (l.length:Int):=by omega
   have i3:(0:Int)≤(n1:Int):=by omega
   have i4:(n1:Int) < (l.length:Int):=by omega
   have HN1:=ζ hn1
   clear hn1 e0 hlt hk hk1 hj
   cases hp:decide (p < q)
   ·rw [hp]at HK
    have HR:=ζ (show r=false from by
     cases r with
     | false=>rfl
     | true=>
       have:=(HE.out.1 rfl) j HJ.out
       rw [HX.out.1,HX.out.2]at this
       rw [decide_eq_true this]at hp;cases hp)
    clear hp HI HE
    go_upto_region 4 with fail
    refine wp_region_held_drew (S:=(fun w'=>w'.cell? ⟨g0,o0+j,none⟩=some (.int .i64 p)∧w'.cell? ⟨g0,o0+n1,none⟩=some (.int .i64 q)∧True)) (by kernel_rfl) ⟨(HA.out _ hC.out.drew.be),(HB.out _ hC.out.drew.be),trivial⟩ (fun hH=>?_)
    refine wpAnyH_geny (show Sy w _ [] [] []from hC.out.drew) hH ?_
    intro VA_0 hc hHA_0
    have hVA_0:=ζ hc
    clear hc hH hC
    refine tkA 0 rfl hHA_0 ?_
    try simp only [Act.put,zI,z0,zS]
    refine tkA 1 rfl hHA_0 ?_
    try simp only [Act.put,zI,z0,zS]
    refine tkA 2 rfl hHA_0 ?_
    try simp only [Act.put,zI,z0,zS]
    refine tkA 3 rfl hHA_0 ?_
    try simp only [Act.put,zI,z0,zS]
    refine tkA 4 rfl hHA_0 ?_
    try simp only [Act.put,zI,z0,zS]
    refine tkA 5 rfl hHA_0 ?_
    try simp only [Act.put,zI,z0,zS]
    refine tkA 6 rfl hHA_0 ?_
    try simp only [Act.put,zI,z0,zS]
    refine tkA 7 rfl hHA_0 ?_
    try simp only [Act.put,zI,z0,zS]
    refine tkA 8 rfl hHA_0 ?_
    try simp only [Act.put,zI,z0,zS]
    refine tkA 9 rfl hHA_0 ?_
    try simp only [Act.put,zI,z0,zS]
    refine rdy1 10 rfl (fun Kq hKq=>?_)
    go_simp
    go_at_call 128
    refine(HK.out _).mono ?_
    rintro e wT ⟨rfl,hb⟩
    (try go_wp2_with fail)
    refine stepZ hKq (show Sy w _ [] [] []from(hVA_0.out.call hb)) (fun _ hX=>⟨(HA.out _ hX.be),(HB.out _ hX.be),trivial⟩) ?_
    intro VA_1 hVA_1 hHA_1
    clear hKq Kq hVA_0 hb hHA_0
    try simp only [Act.put,zI,z0,zS]
    refine tkA 11 rfl hHA_1 ?_
    try simp only [Act.put,zI,z0,zS]
    refine wpAnyH_done (by kernel_rfl) ?_ _
    go_wp2
    go_ret
    exact⟨ret_bool HR.out.symm,hVA_1.out.be⟩
   ·rw [hp]at HK
    have HI2:=ζ (show ∀i,i+1 < (j+1)+1→bX l i < bX l (i+1)from fun i hi=>by
     rcases Nat.lt_or_ge i j with h | h
     ·exact HI.out i (by omega)
     ·obtain rfl:i=j:=by omega
      rw [HX.out.1,HX.out.2];exact of_decide_eq_true hp)
    clear hp HI
    go_upto_region 4 with fail
    refine wp_region_held_drew (S:=(fun w'=>w'.cell? ⟨g0,o0+j,none⟩=some (.int .i64 p)∧w'.cell? ⟨g0,o0+n1,none⟩=some (.int .i64 q)∧True)) (by kernel_rfl) ⟨(HA.out _ hC.out.drew.be),(HB.out _ hC.out.drew.be),trivial⟩ (fun hH=>?_)
    refine wpAnyH_geny (show Sy w _ [] [] []from hC.out.drew) hH ?_
    intro VB_0 hc hHB_0
    have hVB_0:=ζ hc
    clear hc hH hC
    refine tkA 0 rfl hHB_0 ?_
    try simp only [Act.put,zI,z0,zS]
    refine tkA 1 rfl hHB_0 ?_
    try simp only [Act.put,zI,z0,zS]
    refine tkA 2 rfl hHB_0 ?_
    try simp only [Act.put,zI,z0,zS]
    refine tkA 3 rfl hHB_0 ?_
    try simp only [Act.put,zI,z0,zS]
    refine tkA 4 rfl hHB_0 ?_
    try simp only [Act.put,zI,z0,zS]
    refine tkA 5 rfl hHB_0 ?_
    try simp only [Act.put,zI,z0,zS]
    refine tkA 6 rfl hHB_0 ?_
    try simp only [Act.put,zI,z0,zS]
    refine tkA 7 rfl hHB_0 ?_
    try simp only [Act.put,zI,z0,zS]
    refine tkA 8 rfl hHB_0 ?_
    try simp only [Act.put,zI,z0,zS]
    refine tkA 9 rfl hHB_0 ?_
    try simp only [Act.put,zI,z0,zS]
    refine rdy1 10 rfl (fun Kq hKq=>?_)
    go_simp
    go_at_call 128
    refine(HK.out _).mono ?_
    rintro e wT ⟨rfl,hb⟩
    (try go_wp2_with fail)
    refine stepZ hKq (show Sy w _ [] [] []from(hVB_0.out.call hb)) (fun _ hX=>⟨(HA.out _ hX.be),(HB.out _ hX.be),trivial⟩) ?_
    intro VB_1 hVB_1 hHB_1
    clear hKq Kq hVB_0 hb hHB_0
    try simp only [Act.put,zI,z0,zS]
    refine tkA 11 rfl hHB_1 ?_
    try simp only [Act.put,zI,z0,zS]
    refine wpAnyH_done (by kernel_rfl) ?_ _
    go_wp2
    go_roundw
    case rel=>exact⟨(j+1)+1,by omega,.inl (by have:=HJ.out;omega),by have:=HN1.out;subst this;go_num,HI2,hVB_1⟩
    case measure=>have:=HN1.out;have:=HJ.out;simp [intOf];omega
  ·have HR:=ζ (show r=true from HE.out.2 fun i hi=>HI.out i (by omega))
   go_wp2
   go_ret
   exact⟨ret_bool HR.out.symm,hC.out.be⟩
theorem treads_any (sa:Option Addr) (sn sc:Nat) (l:List Pt) (hs:Sx 2 w sa sn sc (L2 l)) (ba:Option Addr) (bn bc:Nat) (bs:List Int) (hb:Sx 1 w ba bn bc (L1 bs)):
  Calls Tryz.prog 68 #[.slice sa sn sc,.slice ba bn bc] w (RetTr (brkB l bs) w (.slice sa sn sc) bs):=by
 obtain rfl:=hb.n1
 have hcap:=hb.cap
 unfold maxLen at hcap
 have HC:=ζ (fun W (hW:Below w.heap.size w W)=>hcheck_any W sa sn sc l (hs.below hW))
 have HU:=ζ (fun W (hW:Below w.heap.size w W) hn=>risingI_any W ba bs.length bc bs (hb.below hW) hn)
 have HK:=ζ (show brkB l bs=(profB l && (inB bs.length 2 61 && (upI bs && bs.all (hasB l))))from rfl)
 have HH:=ζ (fun(hp:profB l=true) W (hW:Below w.heap.size w W) x=>has_any W sa sn sc l x (hs.below hW) (by have:=hs.n2;have:=(prof_iff.1 hp).two;omega))
 have HB:=ζ hb
 have HPE:=ζ (show profErr l=if profB l=true then 0 else 2 from rfl)
 generalize profErr l=pe at*
 generalize brkB l bs=ok at*
 generalize profB l=pb at*
 clear hs hb
 have hC:=ζ (Sy.enter w)
 cases pb
 ·have HF:=ζ (show ok=false by rw [HK.out];rfl)
  have HPE2:=HPE.out
  rw [if_neg (by decide)]at HPE2
  subst HPE2
  clear HK HH HPE HU HB
  go_enter Tryz.func68,Tryz.ntmps68
  go_wp2_with fail
  refine(HC.out _ hC.out.be).mono ?_
  rintro e w1 ⟨rfl,h1⟩
  have hD:=ζ (hC.out.call h1)
  clear h1 hC HC
  go_wp2
  go_ret2
  exact .inr ⟨HF.out,rfl,hD.out.be⟩
 have HPE2:=HPE.out
 rw [if_pos rfl]at HPE2
 subst HPE2
 have HH2:=ζ (HH.out rfl)
 clear HH HPE
 cases h1:inB bs.length 2 61
 ·have HF:=ζ (show ok=false by rw [HK.out,h1];rfl)
  clear HK HH2 HU HB
  go_enter Tryz.func68,Tryz.ntmps68
  go_wp2_with fail
  refine(HC.out _ hC.out.be).mono ?_
  rintro e w1 ⟨rfl,h2⟩
  have hD:=ζ (hC.out.call h2)
  clear h2 hC HC
  go_wp2_with ((with_reducible refine(hwithin_any _ _ _ _).mono ?_);rintro e w2 ⟨rfl,rfl⟩)
  go_ret2
  exact .inr ⟨HF.out,rfl,hD.out.be⟩
 have hln:=inB_iff.1 h1
 cases h2:upI bs
 ·have HF:=ζ (show ok=false by rw [HK.out,h2];simp)
  rw [h2]at HU
  clear HK HH2 HB h2
  go_enter Tryz.func68,Tryz.ntmps68
  go_wp2_with fail
  refine(HC.out _ hC.out.be).mono ?_
  rintro e w1 ⟨rfl,h2⟩
  have hD:=ζ (hC.out.call h2)
  clear h2 hC HC
  go_wp2_with ((with_reducible refine(hwithin_any _ _ _ _).mono ?_);rintro e w2 ⟨rfl,rfl⟩)
  refine(HU.out _ hD.out.be (by omega)).mono ?_
  rintro e w2 ⟨rfl,h2⟩
  have hE:=ζ (hD.out.call h2)
  clear h2 hD HU
  go_wp2
  go_ret2
  exact .inr ⟨HF.out,rfl,hE.out.be⟩
 have HO:=ζ (show ok=bs.all (hasB l)by rw [HK.out,h1,h2];rfl)
 rw [h2]at HU
 clear HK h2
 go_enter Tryz.func68,Tryz.ntmps68
 go_wp2_with fail
 refine(HC.out _ hC.out.be).mono ?_
 rintro e w1 ⟨rfl,h2⟩
 have hD:=ζ (hC.out.call h2)
 clear h2 hC HC
 go_wp2_with ((with_reducible refine(hwithin_any _ _ _ _).mono ?_);rintro e w2 ⟨rfl,rfl⟩)
 refine(HU.out _ hD.out.be (by omega)).mono ?_
 rintro e w2 ⟨rfl,h2⟩
 have hE:=ζ ((hD.out.call h2).onil 120 3)
 clear h2 hD HU h1
 go_wp2
 obtain ⟨g0,o0,rfl⟩:=HB.out.addr (by omega)
 go_loopw [25,6] (fun iv sv wr=>∃k:Nat,∃a c,k≤bs.length∧iv= .int .i64 k∧sv= .slice a (k - 1) c∧Hid (∀i (hi:i < k),hasB l (bX bs i)=true)∧Hid (Sy w wr [] [⟨.slice a (k - 1) c,120,3,k - 1,tdC (.slice sa sn sc) (nbr (bs.take k))⟩] [])) (fun iv _ _=>bs.length - (intOf iv).toNat)
 case atStart=>exact⟨0,none,0,Nat.zero_le _,rfl,rfl,ζ (fun i hi=>absurd hi (Nat.not_lt_zero _)),hE⟩
 case round=>
  clear hE
  obtain ⟨k,a,c,hk,rfl,rfl,HI,hS⟩:=hrel
  by_cases hkl:k < bs.length
  ·have i0:(0:Int)≤(k:Int):=by omega
   have i1:(k:Int) < (bs.length:Int):=by omega
   have c0:=(HB.out.below hS.out.be).at1 hkl
   have HX:=ζ (bX_at hkl)
   have HQ:=ζ (HH2.out _ hS.out.be bs[k])
   have HG:=ζ (show bs[k]=bX bs k from(bX_at hkl).symm)
   cases hh:hasB l bs[k]
   ·have HF:=ζ (show ok=false from by
     rw [HO.out,List.all_eq_false]
     exact⟨_,List.getElem_mem hkl,by rw [hh];decide⟩)
    rw [hh]at HQ
    generalize bs[k]=b at*
    clear hh HG HX HO HI
    go_wp2_with fail
    refine HQ.out.mono ?_
    rintro e w3 ⟨rfl,h3⟩
    have hT:=ζ (hS.out.call h3)
    clear h3 hS c0
    go_wp2
    go_ret2
    exact .inr ⟨HF.out,rfl,hT.out.be⟩
   ·have HI2:=ζ (show ∀i,i < k+1→hasB l (bX bs i)=true from fun i hi=>by
     rcases Nat.lt_or_ge i k with h | h
     ·exact HI.out i h
     ·obtain rfl:i=k:=by omega
      rw [HX.out];exact hh)
    rw [hh]at HQ
    rcases Nat.eq_zero_or_pos k with hk0 | hk0
    ·subst hk0
     generalize bs[0]=b at*
     rw [Nat.add_zero]at c0
     clear hh HG HX HI
     go_wp2_with fail
     refine HQ.out.mono ?_
     rintro e w3 ⟨rfl,h3⟩
     have hT:=ζ (hS.out.call h3)
     clear h3 hS c0
     go_wp2
     go_roundw
     case rel=>exact⟨1,a,c,by omega,rfl,rfl,HI2,ζ (by
      have:=hT.out
      have e:tdC (.slice sa sn sc) (nbr (bs.take 1))=tdC (.slice sa sn sc) (nbr (bs.take 0)):=by
       rw [List.take_zero,show bs.take 1= [bs[0]]from by rw [List.take_succ_eq_append_getElem (by omega)];rfl];rfl
      rw [e];exact this)⟩
     case measure=>simp [intOf];omega
    ·obtain ⟨j,rfl⟩:∃j,k=j+1:=⟨k - 1,by omega⟩
     have HT:=ζ (show tdC (.slice sa sn sc) (nbr (bs.take (j+1+1)))=tdC (.slice sa sn sc) (nbr (bs.take (j+1)))++ [.slice sa sn sc,.int .i64 bs[j],.int .i64 bs[j+1]]from by rw [nbr_take hkl,tdC_snoc])
     have HA:=ζ (fun W (hW:Below w.heap.size w W)=>(HB.out.below hW).at1 (show j < bs.length by omega))
     generalize bs[j+1]=b at*
     generalize bs[j]=b' at*
     obtain ⟨n1,hn1⟩:∃n1:Nat,n1=j+1:=⟨_,rfl⟩
     rw [←hn1]at c0 HI2 HT i0 i1 hk hS
     rw [←hn1]
     have i2:IntKind.i64.wrap ((n1:Int) - 1)=(j:Int):=by rw [IntWalk.i64_in _ (by omega)];omega
     have i3:(0:Int)≤(j:Int):=by omega
     have i4:(j:Int) < (bs.length:Int):=by omega
     have i5:(0:Int) < (n1:Int):=by omega
     have HN1:=ζ hn1
     clear hh HG HX HI hkl hn1
     go_wp2_with fail
     refine HQ.out.mono ?_
     rintro e w3 ⟨rfl,h3⟩
     have hT:=ζ (hS.out.call h3)
     clear h3 hS c0
     have c1:=HA.out _ hT.out.be
     go_wp2_with (refine wpList_append_sy (o:=⟨some 46,_,_,_,_,_⟩) rfl (hT.out.onew w3.heap.size #[.slice sa sn sc,.int .i64 b',.int .i64 b] 120 3 1 rfl (by omega) rfl) 0 1 rfl rfl _ _ _ rfl und_stretches info_stretch rfl (by omega) rfl rfl (by intro u hu;simp at hu;rcases hu with rfl | rfl | rfl<;>rfl) (by omega) (by omega) ?_;intro a3 c3 V3 hV3;have hJ:=ζ hV3;clear hV3 hT c1)
     have hK:=ζ (hJ.out.thin (bs':=[]) (List.Sublist.refl _) (List.Sublist.cons_cons _ (List.nil_sublist _)))
     clear hJ
     go_roundw
     case rel=>exact⟨n1+1,a3,c3,by omega,by go_num,by have:=HN1.out;congr 1;omega,HI2,by
      have e:n1 - 1+1=n1+1 - 1:=by have:=HN1.out;omega
      rw [HT.out,←e];exact hK⟩
     case measure=>simp [intOf];omega
  ·obtain rfl:k=bs.length:=by omega
   have HF:=ζ (show ok=true from by
    rw [HO.out,List.all_eq_true]
    intro x hx
    obtain ⟨i,hi,rfl⟩:=List.getElem_of_mem hx
    rw [←bX_at hi];exact HI.out i hi)
   have HTS:=ζ (show nbr (bs.take bs.length)=nbr bs from by rw [List.take_length])
   go_wp2
   go_ret2
   refine .inl ⟨HF.out,a,c,rfl,?_,hS.out.be⟩
   have:=hS.out.orow 0 rfl
   rwa [HTS.out]at this
end
theorem ceil_neg (q:Rat): -((-q).floor)=q.ceil:=by
 have h:∀k:Int,-((-q).floor)≤k↔q.ceil≤k:=fun k=>by
  rw [Rat.ceil_le_iff,show(-((-q).floor)≤k)↔(-k≤(-q).floor)from by omega,Rat.le_floor_iff,Rat.intCast_neg]
  constructor<;>intro h<;>grind
 exact Int.le_antisymm ((h _).2 (Int.le_refl _)) ((h _).1 (Int.le_refl _))
section
variable (w:World)
theorem small_any (a:Option Addr) (n c:Nat) (m:Bool) (z:Int) (h:Zd w (.slice a n c) m z) (hz: -1000000≤z∧z≤1000000):Calls Tryz.prog 122 #[.agg #[.slice a n c,.bool m]] w (Gives (.int .i64 z) w):=by
 have hC:=ζ (((Sy.enter w).pZ rfl rfl h).al w.heap.size #[.slice a n c,.bool m] 40 rfl)
 have HB:=ζ (show Bd 20 z by unfold Bd;omega)
 have HR:=ζ (show i64res z=(z,true)from by unfold i64res;rw [if_pos (by omega)])
 clear h hz
 go_enter Tryz.func122,Tryz.ntmps122
 go_wp2_with fail
 refine(int64_any _ _ _ _ z _ (hC.out.r 0 rfl) 20 HB.out (by omega)).mono ?_
 rintro e w1 ⟨rfl,hb⟩
 rw [HR.out]
 have hD:=ζ (hC.out.call hb)
 clear hb hC
 go_wp2
 go_ret
 exact⟨rfl,hD.out.be⟩
theorem rceil_b {w:World} {a1:Option Addr} {n1 c1:Nat} {m1:Bool} {d1:Option Addr} {e1 f1:Nat} {q1:Rat} {k1:Nat} (h1:Rd w (.slice a1 n1 c1) m1 (.slice d1 e1 f1) q1) (b1:Bq k1 q1) (hk1:k1≤40000):
  Calls Tryz.prog 123 #[.agg #[.slice a1 n1 c1,.bool m1,.slice d1 e1 f1]] w (RetZ w q1.ceil):=by
 rw [←ceil_neg];exact rceil_any _ _ _ _ _ _ _ _ _ h1 k1 b1 hk1
theorem foot_any (sa:Option Addr) (sn sc:Nat) (l:List Pt) (a b d:Int) (hT:Strt l a b) (hd: -100000≤d∧d≤100000) (hs:Sx 2 w sa sn sc (L2 l)):Calls Tryz.prog 61 #[.agg #[.slice sa sn sc,.int .i64 a,.int .i64 b],.int .i64 d] w (Gives (.int .i64 (footI l a b d)) w):=by
 have HB:=ζ (fun W (hW:Below w.heap.size w W)=>callsIn_wide.1 (hbounds_in W 4 (Nat.le_refl _) sa sn sc l a b hT (hs.below hW)))
 have HG:=ζ hT.lo_gd.bq
 have HF:=ζ hT.lo_gd.floor
 have HI:=ζ (show footI l a b d=(loQ l a b).floor - d from rfl)
 rw [HI.out]
 have hC:=ζ ((Sy.enter w).al w.heap.size #[.slice sa sn sc,.int .i64 a,.int .i64 b] 120 rfl)
 generalize loQ l a b=lo at*
 generalize hiQ l a b=hi at*
 generalize hz:Rat.floor lo=z at*
 have HZ:=ζ hz
 have hf:=HF.out
 have w1:IntKind.i64.wrap (z - d)=z - d:=IntWalk.i64_in _ (by omega)
 clear hs hT HI hz
 go_enter Tryz.func61,Tryz.ntmps61
 have k0:=hC.out.cell 0 0 rfl rfl
 have k1:=hC.out.cell 0 1 rfl rfl
 have k2:=hC.out.cell 0 2 rfl rfl
 go_wp2_with fail
 refine(HB.out _ hC.out.be).mono ?_
 rintro e w2 ⟨a5,n5,c5,m5,d5,e5,f5,a6,n6,c6,m6,d6,e6,f6,rfl,hz1,hz2,hb⟩
 have hD:=ζ ((((hC.out.call hb).pR rfl rfl hz1).pR rfl rfl hz2).al w2.heap.size #[.slice a5 n5 c5,.bool m5,.slice d5 e5 f5] 42 rfl|>.al (w2.heap.size+1) #[.slice a6 n6 c6,.bool m6,.slice d6 e6 f6] 42 (by simp))
 clear hb hz1 hz2 hC k0 k1 k2
 go_upto_region 2 with fail
 refine wp_geny hD.out ?_
 intro V1 hc
 have hG:=ζ hc
 clear hc hD
 generalize w2.heap.size=bb at*
 have k0:=hG.out.cell 1 0 rfl rfl
 have k1:=hG.out.cell 1 1 rfl rfl
 have k2:=hG.out.cell 1 2 rfl rfl
 go_wp2_with fail
 refine(rfloor_b (hG.out.r 0 rfl) HG.out (by omega)).mono ?_
 rintro e w3 ⟨a7,n7,c7,m7,rfl,hz,hb⟩
 rw [HZ.out]at hz
 have hH:=ζ ((hG.out.call hb).pZ rfl rfl hz)
 clear hb hz hG k0 k1 k2
 go_wp2_with fail
 refine(small_any _ _ _ _ _ _ (hH.out.r 2 rfl) (by omega)).mono ?_
 rintro e w4 ⟨rfl,hb⟩
 have hI:=ζ (hH.out.call hb)
 clear hb hH
 go_wp2
 go_ret
 exact⟨rfl,hI.out.be⟩
theorem head_any (sa:Option Addr) (sn sc:Nat) (l:List Pt) (a b d:Int) (hT:Strt l a b) (hd: -100000≤d∧d≤100000) (hs:Sx 2 w sa sn sc (L2 l)):Calls Tryz.prog 63 #[.agg #[.slice sa sn sc,.int .i64 a,.int .i64 b],.int .i64 d] w (Gives (.int .i64 (headI l a b d)) w):=by
 have HB:=ζ (fun W (hW:Below w.heap.size w W)=>callsIn_wide.1 (hbounds_in W 4 (Nat.le_refl _) sa sn sc l a b hT (hs.below hW)))
 have HG:=ζ hT.hi_gd.bq
 have HF:=ζ hT.hi_gd.ceil
 have HI:=ζ (show headI l a b d=(hiQ l a b).ceil+d from rfl)
 rw [HI.out]
 have hC:=ζ ((Sy.enter w).al w.heap.size #[.slice sa sn sc,.int .i64 a,.int .i64 b] 120 rfl)
 generalize loQ l a b=lo at*
 generalize hiQ l a b=hi at*
 generalize hz:Rat.ceil hi=z at*
 have HZ:=ζ hz
 have hf:=HF.out
 have w1:IntKind.i64.wrap (z+d)=z+d:=IntWalk.i64_in _ (by omega)
 clear hs hT HI hz
 go_enter Tryz.func63,Tryz.ntmps63
 have k0:=hC.out.cell 0 0 rfl rfl
 have k1:=hC.out.cell 0 1 rfl rfl
 have k2:=hC.out.cell 0 2 rfl rfl
 go_wp2_with fail
 refine(HB.out _ hC.out.be).mono ?_
 rintro e w2 ⟨a5,n5,c5,m5,d5,e5,f5,a6,n6,c6,m6,d6,e6,f6,rfl,hz1,hz2,hb⟩
 have hD:=ζ ((((hC.out.call hb).pR rfl rfl hz1).pR rfl rfl hz2).al w2.heap.size #[.slice a5 n5 c5,.bool m5,.slice d5 e5 f5] 42 rfl|>.al (w2.heap.size+1) #[.slice a6 n6 c6,.bool m6,.slice d6 e6 f6] 42 (by simp))
 clear hb hz1 hz2 hC k0 k1 k2
 go_upto_region 2 with fail
 refine wp_geny hD.out ?_
 intro V1 hc
 have hG:=ζ hc
 clear hc hD
 generalize w2.heap.size=bb at*
 have k0:=hG.out.cell 2 0 rfl rfl
 have k1:=hG.out.cell 2 1 rfl rfl
 have k2:=hG.out.cell 2 2 rfl rfl
 go_wp2_with fail
 refine(rceil_b (hG.out.r 1 rfl) HG.out (by omega)).mono ?_
 rintro e w3 ⟨a7,n7,c7,m7,rfl,hz,hb⟩
 rw [HZ.out]at hz
 have hH:=ζ ((hG.out.call hb).pZ rfl rfl hz)
 clear hb hz hG k0 k1 k2
 go_wp2_with fail
 refine(small_any _ _ _ _ _ _ (hH.out.r 2 rfl) (by omega)).mono ?_
 rintro e w4 ⟨rfl,hb⟩
 have hI:=ζ (hH.out.call hb)
 clear hb hH
 go_wp2
 go_ret
 exact⟨rfl,hI.out.be⟩
end
def fwG (op:Int→Int→Int) (l:Nat→Int) (s:Int):Nat→Int
 | 0=>l 0
 | i+1=>op (l (i+1)) (fwG op l s i+s)
def bkG (op:Int→Int→Int) (l:Nat→Int) (s:Int) (n:Nat):Nat→Int
 | 0=>fwG op l s (n - 1)
 | i+1=>op (fwG op l s (n - 1 - (i+1))) (bkG op l s n i+s)
def folL (op:Int→Int→Int) (s:Int) (l:List Int):List Int:=(List.range l.length).map fun i=>bkG op (bX l) s l.length (l.length - 1 - i)
theorem folL_len (op:Int→Int→Int) (s:Int) (l:List Int):(folL op s l).length=l.length:=by unfold folL;rw [List.length_map,List.length_range]
theorem folL_at {op:Int→Int→Int} {s:Int} {l:List Int} {i:Nat} (h:i < l.length):bX (folL op s l) i=bkG op (bX l) s l.length (l.length - 1 - i):=by
 rw [bX_at (by rw [folL_len];exact h)];unfold folL;rw [List.getElem_map,List.getElem_range]
theorem bX_set {L:List Int} {k i:Nat} {v:Int} (hk:k < L.length):bX (L.set k v) i=if i=k then v else bX L i:=by
 unfold bX
 rw [List.getD_eq_getElem?_getD,List.getD_eq_getElem?_getD,List.getElem?_set]
 split
 ·rename_i h;subst h;rw [if_pos rfl];simp
 ·rename_i h;rw [if_neg (fun e=>h e.symm)]
theorem bX_ext {L K:List Int} (h:L.length=K.length) (he:∀i,i < L.length→bX L i=bX K i):L=K:=by
 refine List.ext_getElem h fun i h1 h2=>?_
 have:=he i h1
 rwa [bX_at h1,bX_at h2]at this
variable {op:Int→Int→Int} {l L:List Int} {s:Int}
theorem fol_step1 {k:Nat} (hl:L.length=l.length) (hk:k+1 < l.length) (h:∀i,i < l.length→bX L i=if i < k+1 then fwG op (bX l) s i else bX l i) {x y:Int} (hx:bX L (k+1)=x) (hy:bX L k=y):
  ∀i,i < l.length→bX (L.set (k+1) (op x (y+s))) i=if i < k+1+1 then fwG op (bX l) s i else bX l i:=fun i hi=>by
 rw [bX_set (by omega)]
 rw [h _ hk,if_neg (by omega)]at hx
 rw [h _ (by omega),if_pos (by omega)]at hy
 split
 ·rename_i e;subst e;rw [if_pos (by omega),←hx,←hy];rfl
 ·rename_i e
  rw [h i hi]
  by_cases e1:i < k+1
  ·rw [if_pos e1,if_pos (by omega)]
  ·rw [if_neg e1,if_neg (by omega)]
theorem fol_step2 {m:Nat} (hl:L.length=l.length) (hm:m+1 < l.length) (h:∀i,i < l.length→bX L i=if m+1≤i then bkG op (bX l) s l.length (l.length - 1 - i)else fwG op (bX l) s i) {x y:Int} (hx:bX L m=x) (hy:bX L (m+1)=y):
  ∀i,i < l.length→bX (L.set m (op x (y+s))) i=if m≤i then bkG op (bX l) s l.length (l.length - 1 - i)else fwG op (bX l) s i:=fun i hi=>by
 rw [bX_set (by omega)]
 rw [h _ (by omega),if_neg (by omega)]at hx
 rw [h _ hm,if_pos (Nat.le_refl _)]at hy
 split
 ·rename_i e
  subst e
  rw [if_pos (Nat.le_refl _),←hx,←hy,show l.length - 1 - i=(l.length - 1 - (i+1))+1 by omega]
  show _=op (fwG op (bX l) s (l.length - 1 - (l.length - 1 - (i+1)+1))) _
  rw [show l.length - 1 - (l.length - 1 - (i+1)+1)=i by omega]
 ·rename_i e
  rw [h i hi]
  by_cases e1:m+1≤i
  ·rw [if_pos e1,if_pos (by omega)]
  ·rw [if_neg e1,if_neg (by omega)]
def Picks (op:Int→Int→Int):Prop:=∀x y,op x y=x∨op x y=y
theorem fwG_bd (ho:Picks op) {f:Nat→Int} (hf:∀i,-200000≤f i∧f i≤200000) (hs: -3000≤s∧s≤3000):∀i:Nat,-200000 - 3000*(i:Int)≤fwG op f s i∧fwG op f s i≤200000+3000*(i:Int)
 | 0=>by have:=hf 0;unfold fwG;omega
 | i+1=>by
   have h1:=hf (i+1)
   have h2:=fwG_bd ho hf hs i
   unfold fwG
   rcases ho (f (i+1)) (fwG op f s i+s)with e | e<;>rw [e]<;>omega
theorem bkG_bd (ho:Picks op) {f:Nat→Int} (hf:∀i,-200000≤f i∧f i≤200000) (hs: -3000≤s∧s≤3000) {n:Nat} (hn:n≤100):∀i:Nat,-500000 - 3000*(i:Int)≤bkG op f s n i∧bkG op f s n i≤500000+3000*(i:Int)
 | 0=>by have:=fwG_bd ho hf hs (n - 1);unfold bkG;omega
 | i+1=>by
   have h1:=fwG_bd ho hf hs (n - 1 - (i+1))
   have h2:=bkG_bd ho hf hs hn i
   unfold bkG
   rcases ho (fwG op f s (n - 1 - (i+1))) (bkG op f s n i+s)with e | e<;>rw [e]<;>omega
theorem fol_bd {m:Nat} (ho:Picks op) (hf:∀i,-200000≤bX l i∧bX l i≤200000) (hs: -3000≤s∧s≤3000) (hn:l.length≤100) (h:∀i,i < l.length→bX L i=if m≤i then bkG op (bX l) s l.length (l.length - 1 - i)else fwG op (bX l) s i) {i:Nat} (hi:i < l.length): -1000000≤bX L i∧bX L i≤1000000:=by
 rw [h i hi]
 have h1:=bkG_bd ho hf hs hn (l.length - 1 - i)
 have h2:=fwG_bd ho hf hs i
 split<;>omega
theorem fol_bd1 {k:Nat} (ho:Picks op) (hf:∀i,-200000≤bX l i∧bX l i≤200000) (hs: -3000≤s∧s≤3000) (hn:l.length≤100) (h:∀i,i < l.length→bX L i=if i < k then fwG op (bX l) s i else bX l i) {i:Nat} (hi:i < l.length): -1000000≤bX L i∧bX L i≤1000000:=by
 rw [h i hi]
 have h1:=hf i
 have h2:=fwG_bd ho hf hs i
 split<;>omega
theorem fwG_min (f:Nat→Int) (s:Int):∀i,fwG min f s i=fw f s i
 | 0=>rfl
 | i+1=>by unfold fwG fw;rw [fwG_min f s i]
theorem bkG_min (f:Nat→Int) (s:Int) (n:Nat):∀i,bkG min f s n i=bk f s n i
 | 0=>fwG_min f s _
 | i+1=>by unfold bkG bk;rw [bkG_min f s n i,fwG_min]
theorem fwG_max (f:Nat→Int) (s:Int):∀i,fwG max f (-s) i= -fw (fun j=> -f j) s i
 | 0=>by unfold fwG fw;omega
 | i+1=>by unfold fwG fw;rw [fwG_max f s i];omega
theorem bkG_max (f:Nat→Int) (s:Int) (n:Nat):∀i,bkG max f (-s) n i= -bk (fun j=> -f j) s n i
 | 0=>fwG_max f s _
 | i+1=>by unfold bkG bk;rw [bkG_max f s n i,fwG_max];omega
end Go.Proofs.YthmdhlopeponcaaGreatDoor
