/- the law HillMeasures, walked -/
import Derived.Test.YthmdhlopeponcaaGreatDoorJ0
import Derived.Test.YthmdhlopeponcaaGreatDoorJ39
import Derived.Test.YthmdhlopeponcaaGreatDoorJ35
namespace Go.Proofs.YthmdhlopeponcaaGreatDoor
open Go.RowKit Go.Shelf Dig
section
variable (w:World)
set_option maxHeartbeats 8000000 in
set_option maxRecDepth 100000 in
theorem hillMeasures_walk (la:Option Addr) (ln lc:Nat) (l:List Pt) (a b c z:Int) (hs:Sx 2 w la ln lc (L2 l)):
  Calls Tryz.prog 10 #[.slice la ln lc,.int .i64 a,.int .i64 b,.int .i64 c,.int .i64 z] w (Gives (.bool true) w):=by
 have HW:=Lib.hid wakes08
 have HV:=Lib.hid (fun W (hW:Below w.heap.size w W)=>rValid_any W la ln lc l (hs.below hW))
 have HI:=Lib.hid (fun W=>rIn_any W z (-100000) 100000)
 have hC:=Lib.hid (Sy.enter w)
 obtain rfl:=hs.n2
 have HS:=Lib.hid hs
 have HPT:=Lib.hid (fun W (hW:Below w.heap.size w W) hn=>conv_Pts la l.length lc l W (HS.out.below hW) hn)
 have HST:=Lib.hid (fun W (hW:Below w.heap.size w W) hn=>rStretch_any W la l.length lc l a b (HS.out.below hW) hn)
 have HSU:=Lib.hid (fun W (hW:Below w.heap.size w W) hn=>rStretch_any W la l.length lc l b c (HS.out.below hW) hn)
 clear hs
 cases hp:profB l
 ·rw [hp]at HV
  clear hp
  go_enter Tryz.func10,Tryz.ntmps10
  go_wp2_with fail
  refine(HV.out _ hC.out.be).mono ?_
  rintro e W1 ⟨rfl,hb⟩
  have hD:=Lib.hid (hC.out.call hb)
  clear hb hC
  go_wp2_with fail
  refine(HW.out _).mono ?_
  rintro e WZ ⟨rfl,hb⟩
  have hZ:=Lib.hid (hD.out.call hb)
  clear hb
  go_wp2
  go_ret
  exact⟨rfl,hZ.out.be⟩
 rw [hp]at HV
 have hP:=prof_iff.1 hp
 have hlen:2≤l.length∧l.length≤40:=⟨hP.two,hP.forty⟩
 clear hP
 go_enter Tryz.func10,Tryz.ntmps10
 go_wp2_with fail
 refine(HV.out _ hC.out.be).mono ?_
 rintro e W1 ⟨rfl,hb⟩
 have hD:=Lib.hid (hC.out.call hb)
 clear hb hC HV
 cases hb2:strB l a b
 ·rw [hb2]at HST
  clear hb2 hp
  go_wp2_with fail
  refine(HST.out _ hD.out.be (by omega)).mono ?_
  rintro e W2 ⟨rfl,hb⟩
  have hE:=Lib.hid (hD.out.call hb)
  clear hb hD
  go_wp2_with fail
  refine(HW.out _).mono ?_
  rintro e WZ ⟨rfl,hb⟩
  have hZ:=Lib.hid (hE.out.call hb)
  clear hb
  go_wp2
  go_ret
  exact⟨rfl,hZ.out.be⟩
 rw [hb2]at HST
 go_wp2_with fail
 refine(HST.out _ hD.out.be (by omega)).mono ?_
 rintro e W2 ⟨rfl,hb⟩
 have hE:=Lib.hid (hD.out.call hb)
 clear hb hD HST
 cases hb3:strB l b c
 ·rw [hb3]at HSU
  clear hb2 hb3 hp
  go_wp2_with fail
  refine(HSU.out _ hE.out.be (by omega)).mono ?_
  rintro e W3 ⟨rfl,hb⟩
  have hF:=Lib.hid (hE.out.call hb)
  clear hb hE
  go_wp2_with fail
  refine(HW.out _).mono ?_
  rintro e WZ ⟨rfl,hb⟩
  have hZ:=Lib.hid (hF.out.call hb)
  clear hb
  go_wp2
  go_ret
  exact⟨rfl,hZ.out.be⟩
 rw [hb3]at HSU
 go_wp2_with fail
 refine(HSU.out _ hE.out.be (by omega)).mono ?_
 rintro e W3 ⟨rfl,hb⟩
 have hF:=Lib.hid (hE.out.call hb)
 clear hb hE HSU
 cases hz:inB z (-100000) 100000
 ·rw [hz]at HI
  clear hb2 hb3 hp hz
  go_wp2_with ((with_reducible refine(HI.out _).mono ?_);rintro e w1 ⟨rfl,rfl⟩)
  go_wp2_with fail
  refine(HW.out _).mono ?_
  rintro e WZ ⟨rfl,hb⟩
  have hZ:=Lib.hid (hF.out.call hb)
  clear hb
  go_wp2
  go_ret
  exact⟨rfl,hZ.out.be⟩
 rw [hz]at HI
 have hzz:=inB_iff.1 hz
 have hse:=strErr_ok hp hb2
 have hsf:=strErr_ok hp hb3
 have hT:=strErr_zero hse
 have hU:=strErr_zero hsf
 have hJ:=hT.join hU
 have hsg:strErr l a c=0:=strErr_ok hp (strB_of hJ)
 have HE1:=Lib.hid hse
 have HE2:=Lib.hid hsf
 have HE3:=Lib.hid hsg
 have HPB:=Lib.hid hp
 have HT:=Lib.hid hT
 have hab:=hT.in100
 have hbc:=hU.in100
 obtain ⟨A1,A2⟩:=areas_add hT hU z
 have HA1:=Lib.hid A1
 have HA2:=Lib.hid A2
 have hIZ:InZ z:=by unfold InZ;omega
 have B1:=Lib.hid (hT.above_bq hIZ)
 have B2:=Lib.hid (hT.below_bq hIZ)
 have B3:=Lib.hid (hU.above_bq hIZ)
 have B4:=Lib.hid (hU.below_bq hIZ)
 have B5:=Lib.hid (hJ.above_bq hIZ)
 have B6:=Lib.hid (hJ.below_bq hIZ)
 have N1:=Lib.hid (above_nonneg hT z)
 have N2:=Lib.hid (below_nonneg hT z)
 have HAB:=Lib.hid (above_below l a b z)
 have HZI:=Lib.hid (inB_iff.2 hzz)
 clear hse hsf hsg hT hU hJ A1 A2 hIZ hp hb2 hb3 hz
 go_wp2_with ((with_reducible refine(HI.out _).mono ?_);rintro e w1 ⟨rfl,rfl⟩)
 refine(HPT.out _ hF.out.be (by omega)).mono ?_
 rintro e W4 ⟨a3,c3,rfl,hr,hb⟩
 have hN0:=Lib.hid (show Sy w _ [] [⟨.slice a3 l.length c3,83,2,l.length,L2 l⟩] []from hF.out.adopt hb hr)
 clear hb hr hF HPT HI
 go_wp2_with fail
 refine(hAreas_ok _ a3 l.length c3 l a b (hN0.out.osx 0 rfl) z HE1.out HZI.out).mono ?_
 rintro e W ⟨a51,n51,c51,m51,d51,e51,f51,a52,n52,c52,m52,d52,e52,f52,rfl,hz1,hz2,hb⟩
 have hY:=Lib.hid (((hN0.out.call hb).pR rfl rfl hz1).pR rfl rfl hz2)
 clear hb hz1 hz2 hN0
 go_upto_region 5 with fail
 have hX:=Lib.hid (show Sy w _ [(W.heap.size,#[.slice a51 n51 c51,.bool m51,.slice d51 e51 f51],42),(W.heap.size+1,#[.slice a52 n52 c52,.bool m52,.slice d52 e52 f52],42)] [⟨.slice a3 l.length c3,83,2,l.length,L2 l⟩] [(fun V=>Rd V (.slice a51 n51 c51) m51 (.slice d51 e51 f51) (above l a b z)),(fun V=>Rd V (.slice a52 n52 c52) m52 (.slice d52 e52 f52) (below l a b z))]from(hY.out.al W.heap.size #[.slice a51 n51 c51,.bool m51,.slice d51 e51 f51] 42 rfl|>.al (W.heap.size+1) #[.slice a52 n52 c52,.bool m52,.slice d52 e52 f52] 42 (by simp)))
 obtain ⟨b13,eb13⟩:∃b,W.heap.size+1=b:=⟨_,rfl⟩
 rw [eb13]at hX⊢
 obtain ⟨b12,eb12⟩:∃b,W.heap.size=b:=⟨_,rfl⟩
 rw [eb12]at hX⊢
 refine wp_geny hX.out ?_
 intro WN1 hc
 have hN1:=Lib.hid hc
 clear hc hX eb13 eb12 hY
 go_wp2_with fail
 refine(hAreas_ok _ a3 l.length c3 l b c (hN1.out.osx 0 rfl) z HE2.out HZI.out).mono ?_
 rintro e W ⟨a53,n53,c53,m53,d53,e53,f53,a54,n54,c54,m54,d54,e54,f54,rfl,hz1,hz2,hb⟩
 have hY:=Lib.hid (((hN1.out.call hb).pR rfl rfl hz1).pR rfl rfl hz2)
 clear hb hz1 hz2 hN1
 go_upto_region 6 with fail
 have hX:=Lib.hid (show Sy w _ [(b12,#[.slice a51 n51 c51,.bool m51,.slice d51 e51 f51],42),(b13,#[.slice a52 n52 c52,.bool m52,.slice d52 e52 f52],42),(W.heap.size,#[.slice a53 n53 c53,.bool m53,.slice d53 e53 f53],42),(W.heap.size+1,#[.slice a54 n54 c54,.bool m54,.slice d54 e54 f54],42)] [⟨.slice a3 l.length c3,83,2,l.length,L2 l⟩] [(fun V=>Rd V (.slice a51 n51 c51) m51 (.slice d51 e51 f51) (above l a b z)),(fun V=>Rd V (.slice a52 n52 c52) m52 (.slice d52 e52 f52) (below l a b z)),(fun V=>Rd V (.slice a53 n53 c53) m53 (.slice d53 e53 f53) (above l b c z)),(fun V=>Rd V (.slice a54 n54 c54) m54 (.slice d54 e54 f54) (below l b c z))]from(hY.out.al W.heap.size #[.slice a53 n53 c53,.bool m53,.slice d53 e53 f53] 42 rfl|>.al (W.heap.size+1) #[.slice a54 n54 c54,.bool m54,.slice d54 e54 f54] 42 (by simp)))
 obtain ⟨b16,eb16⟩:∃b,W.heap.size+1=b:=⟨_,rfl⟩
 rw [eb16]at hX⊢
 obtain ⟨b15,eb15⟩:∃b,W.heap.size=b:=⟨_,rfl⟩
 rw [eb15]at hX⊢
 refine wp_geny hX.out ?_
 intro WN2 hc
 have hN2:=Lib.hid hc
 clear hc hX eb16 eb15 hY
 go_wp2_with fail
 refine(hAreas_ok _ a3 l.length c3 l a c (hN2.out.osx 0 rfl) z HE3.out HZI.out).mono ?_
 rintro e W ⟨a55,n55,c55,m55,d55,e55,f55,a56,n56,c56,m56,d56,e56,f56,rfl,hz1,hz2,hb⟩
 have hY:=Lib.hid (((hN2.out.call hb).pR rfl rfl hz1).pR rfl rfl hz2)
 clear hb hz1 hz2 hN2
 go_upto_region 7 with fail
 have hX:=Lib.hid (show Sy w _ [(b12,#[.slice a51 n51 c51,.bool m51,.slice d51 e51 f51],42),(b13,#[.slice a52 n52 c52,.bool m52,.slice d52 e52 f52],42),(b15,#[.slice a53 n53 c53,.bool m53,.slice d53 e53 f53],42),(b16,#[.slice a54 n54 c54,.bool m54,.slice d54 e54 f54],42),(W.heap.size,#[.slice a55 n55 c55,.bool m55,.slice d55 e55 f55],42),(W.heap.size+1,#[.slice a56 n56 c56,.bool m56,.slice d56 e56 f56],42)] [⟨.slice a3 l.length c3,83,2,l.length,L2 l⟩] [(fun V=>Rd V (.slice a51 n51 c51) m51 (.slice d51 e51 f51) (above l a b z)),(fun V=>Rd V (.slice a52 n52 c52) m52 (.slice d52 e52 f52) (below l a b z)),(fun V=>Rd V (.slice a53 n53 c53) m53 (.slice d53 e53 f53) (above l b c z)),(fun V=>Rd V (.slice a54 n54 c54) m54 (.slice d54 e54 f54) (below l b c z)),(fun V=>Rd V (.slice a55 n55 c55) m55 (.slice d55 e55 f55) (above l a c z)),(fun V=>Rd V (.slice a56 n56 c56) m56 (.slice d56 e56 f56) (below l a c z))]from(hY.out.al W.heap.size #[.slice a55 n55 c55,.bool m55,.slice d55 e55 f55] 42 rfl|>.al (W.heap.size+1) #[.slice a56 n56 c56,.bool m56,.slice d56 e56 f56] 42 (by simp)))
 obtain ⟨b19,eb19⟩:∃b,W.heap.size+1=b:=⟨_,rfl⟩
 rw [eb19]at hX⊢
 obtain ⟨b18,eb18⟩:∃b,W.heap.size=b:=⟨_,rfl⟩
 rw [eb18]at hX⊢
 refine wp_geny hX.out ?_
 intro WN3 hc
 have hN3:=Lib.hid hc
 clear hc hX eb19 eb18 hY
 have EV1:=Lib.hid (show cmpQ (above l a b z+above l b c z) (above l a c z)=0 from cmpQ_of_eq HA1.out)
 have EV2:=Lib.hid (show cmpQ (below l a b z+below l b c z) (below l a c z)=0 from cmpQ_of_eq HA2.out)
 have EB1:=Lib.hid (B1.out.plus B3.out)
 have EB2:=Lib.hid (B2.out.plus B4.out)
 have HSL:∀V ex os rs,Sy w V ([(b12,#[.slice a51 n51 c51,.bool m51,.slice d51 e51 f51],42),(b13,#[.slice a52 n52 c52,.bool m52,.slice d52 e52 f52],42),(b15,#[.slice a53 n53 c53,.bool m53,.slice d53 e53 f53],42),(b16,#[.slice a54 n54 c54,.bool m54,.slice d54 e54 f54],42),(b18,#[.slice a55 n55 c55,.bool m55,.slice d55 e55 f55],42),(b19,#[.slice a56 n56 c56,.bool m56,.slice d56 e56 f56],42)]++ex) os rs→(fun w'=>w'.cell? ⟨b12,0,none⟩=some (.slice a51 n51 c51)∧w'.cell? ⟨b12,1,none⟩=some (.bool m51)∧w'.cell? ⟨b12,2,none⟩=some (.slice d51 e51 f51)∧w'.cell? ⟨b13,0,none⟩=some (.slice a52 n52 c52)∧w'.cell? ⟨b13,1,none⟩=some (.bool m52)∧w'.cell? ⟨b13,2,none⟩=some (.slice d52 e52 f52)∧w'.cell? ⟨b15,0,none⟩=some (.slice a53 n53 c53)∧w'.cell? ⟨b15,1,none⟩=some (.bool m53)∧w'.cell? ⟨b15,2,none⟩=some (.slice d53 e53 f53)∧w'.cell? ⟨b16,0,none⟩=some (.slice a54 n54 c54)∧w'.cell? ⟨b16,1,none⟩=some (.bool m54)∧w'.cell? ⟨b16,2,none⟩=some (.slice d54 e54 f54)∧w'.cell? ⟨b18,0,none⟩=some (.slice a55 n55 c55)∧w'.cell? ⟨b18,1,none⟩=some (.bool m55)∧w'.cell? ⟨b18,2,none⟩=some (.slice d55 e55 f55)∧w'.cell? ⟨b19,0,none⟩=some (.slice a56 n56 c56)∧w'.cell? ⟨b19,1,none⟩=some (.bool m56)∧w'.cell? ⟨b19,2,none⟩=some (.slice d56 e56 f56)∧True) V:=fun V ex os rs hX=>⟨hX.cell 0 0 rfl rfl,hX.cell 0 1 rfl rfl,hX.cell 0 2 rfl rfl,hX.cell 1 0 rfl rfl,hX.cell 1 1 rfl rfl,hX.cell 1 2 rfl rfl,hX.cell 2 0 rfl rfl,hX.cell 2 1 rfl rfl,hX.cell 2 2 rfl rfl,hX.cell 3 0 rfl rfl,hX.cell 3 1 rfl rfl,hX.cell 3 2 rfl rfl,hX.cell 4 0 rfl rfl,hX.cell 4 1 rfl rfl,hX.cell 4 2 rfl rfl,hX.cell 5 0 rfl rfl,hX.cell 5 1 rfl rfl,hX.cell 5 2 rfl rfl,trivial⟩
 refine wp_region_held_drew (S:=(fun w'=>w'.cell? ⟨b12,0,none⟩=some (.slice a51 n51 c51)∧w'.cell? ⟨b12,1,none⟩=some (.bool m51)∧w'.cell? ⟨b12,2,none⟩=some (.slice d51 e51 f51)∧w'.cell? ⟨b13,0,none⟩=some (.slice a52 n52 c52)∧w'.cell? ⟨b13,1,none⟩=some (.bool m52)∧w'.cell? ⟨b13,2,none⟩=some (.slice d52 e52 f52)∧w'.cell? ⟨b15,0,none⟩=some (.slice a53 n53 c53)∧w'.cell? ⟨b15,1,none⟩=some (.bool m53)∧w'.cell? ⟨b15,2,none⟩=some (.slice d53 e53 f53)∧w'.cell? ⟨b16,0,none⟩=some (.slice a54 n54 c54)∧w'.cell? ⟨b16,1,none⟩=some (.bool m54)∧w'.cell? ⟨b16,2,none⟩=some (.slice d54 e54 f54)∧w'.cell? ⟨b18,0,none⟩=some (.slice a55 n55 c55)∧w'.cell? ⟨b18,1,none⟩=some (.bool m55)∧w'.cell? ⟨b18,2,none⟩=some (.slice d55 e55 f55)∧w'.cell? ⟨b19,0,none⟩=some (.slice a56 n56 c56)∧w'.cell? ⟨b19,1,none⟩=some (.bool m56)∧w'.cell? ⟨b19,2,none⟩=some (.slice d56 e56 f56)∧True)) (by kernel_rfl) ⟨hN3.out.drew.cell 0 0 rfl rfl,hN3.out.drew.cell 0 1 rfl rfl,hN3.out.drew.cell 0 2 rfl rfl,hN3.out.drew.cell 1 0 rfl rfl,hN3.out.drew.cell 1 1 rfl rfl,hN3.out.drew.cell 1 2 rfl rfl,hN3.out.drew.cell 2 0 rfl rfl,hN3.out.drew.cell 2 1 rfl rfl,hN3.out.drew.cell 2 2 rfl rfl,hN3.out.drew.cell 3 0 rfl rfl,hN3.out.drew.cell 3 1 rfl rfl,hN3.out.drew.cell 3 2 rfl rfl,hN3.out.drew.cell 4 0 rfl rfl,hN3.out.drew.cell 4 1 rfl rfl,hN3.out.drew.cell 4 2 rfl rfl,hN3.out.drew.cell 5 0 rfl rfl,hN3.out.drew.cell 5 1 rfl rfl,hN3.out.drew.cell 5 2 rfl rfl,trivial⟩ (fun hH=>?_)
 refine wpAnyH_geny (show Sy w _ [(b12,#[.slice a51 n51 c51,.bool m51,.slice d51 e51 f51],42),(b13,#[.slice a52 n52 c52,.bool m52,.slice d52 e52 f52],42),(b15,#[.slice a53 n53 c53,.bool m53,.slice d53 e53 f53],42),(b16,#[.slice a54 n54 c54,.bool m54,.slice d54 e54 f54],42),(b18,#[.slice a55 n55 c55,.bool m55,.slice d55 e55 f55],42),(b19,#[.slice a56 n56 c56,.bool m56,.slice d56 e56 f56],42)] [⟨.slice a3 l.length c3,83,2,l.length,L2 l⟩] [(fun V=>Rd V (.slice a51 n51 c51) m51 (.slice d51 e51 f51) (above l a b z)),(fun V=>Rd V (.slice a52 n52 c52) m52 (.slice d52 e52 f52) (below l a b z)),(fun V=>Rd V (.slice a53 n53 c53) m53 (.slice d53 e53 f53) (above l b c z)),(fun V=>Rd V (.slice a54 n54 c54) m54 (.slice d54 e54 f54) (below l b c z)),(fun V=>Rd V (.slice a55 n55 c55) m55 (.slice d55 e55 f55) (above l a c z)),(fun V=>Rd V (.slice a56 n56 c56) m56 (.slice d56 e56 f56) (below l a c z))]from hN3.out.drew) hH ?_
 intro VA_0 hc hHA_0
 have hVA_0:=Lib.hid hc
 clear hc hH hN3
 refine tkL 0 ?_ rfl hHA_0 ?_ ?_;rotate_left
 ·intro wS hSw;(try dsimp only at hSw);go_simp;try with_reducible rfl
 try simp only [Act.put,zI,z0,zS]
 refine tkL 1 ?_ rfl hHA_0 ?_ ?_;rotate_left
 ·intro wS hSw;(try dsimp only at hSw);go_simp;try with_reducible rfl
 try simp only [Act.put,zI,z0,zS]
 refine tkL 2 ?_ rfl hHA_0 ?_ ?_;rotate_left
 ·intro wS hSw;(try dsimp only at hSw);go_simp;try with_reducible rfl
 try simp only [Act.put,zI,z0,zS]
 refine tkL 3 ?_ rfl hHA_0 ?_ ?_;rotate_left
 ·intro wS hSw;(try dsimp only at hSw);go_simp;try with_reducible rfl
 try simp only [Act.put,zI,z0,zS]
 refine tkL 4 ?_ rfl hHA_0 ?_ ?_;rotate_left
 ·intro wS hSw;(try dsimp only at hSw);go_simp;try with_reducible rfl
 try simp only [Act.put,zI,z0,zS]
 refine tkL 5 ?_ rfl hHA_0 ?_ ?_;rotate_left
 ·intro wS hSw;(try dsimp only at hSw);go_simp;try with_reducible rfl
 try simp only [Act.put,zI,z0,zS]
 refine tkL 6 ?_ rfl hHA_0 ?_ ?_;rotate_left
 ·intro wS hSw;(try dsimp only at hSw);go_simp;try with_reducible rfl
 try simp only [Act.put,zI,z0,zS]
 refine tkL 7 ?_ rfl hHA_0 ?_ ?_;rotate_left
 ·intro wS hSw;(try dsimp only at hSw);go_simp;try with_reducible rfl
 try simp only [Act.put,zI,z0,zS]
 refine tkL 8 ?_ rfl hHA_0 ?_ ?_;rotate_left
 ·intro wS hSw;(try dsimp only at hSw);go_simp;try with_reducible rfl
 try simp only [Act.put,zI,z0,zS]
 refine tkL 9 ?_ rfl hHA_0 ?_ ?_;rotate_left
 ·intro wS hSw;(try dsimp only at hSw);go_simp;try with_reducible rfl
 try simp only [Act.put,zI,z0,zS]
 refine tkL 10 ?_ rfl hHA_0 ?_ ?_;rotate_left
 ·intro wS hSw;(try dsimp only at hSw);go_simp;try with_reducible rfl
 try simp only [Act.put,zI,z0,zS]
 refine tkL 11 ?_ rfl hHA_0 ?_ ?_;rotate_left
 ·intro wS hSw;(try dsimp only at hSw);go_simp;try with_reducible rfl
 try simp only [Act.put,zI,z0,zS]
 refine tkL 12 ?_ rfl hHA_0 ?_ ?_;rotate_left
 ·intro wS hSw;(try dsimp only at hSw);go_simp;try with_reducible rfl
 try simp only [Act.put,zI,z0,zS]
 refine tkL 14 ?_ rfl hHA_0 ?_ ?_;rotate_left
 ·intro wS hSw;(try dsimp only at hSw);go_simp;try with_reducible rfl
 try simp only [Act.put,zI,z0,zS]
 refine rdy1 13 rfl (fun Kq hKq=>?_)
 go_simp
 go_at_call 40
 refine(radd_b (hVA_0.out.r 0 rfl) (hVA_0.out.r 2 rfl) B1.out B3.out (by omega) (by omega)).mono ?_
 rintro e wT ⟨a7,n7,c7,m7,d7,e7,f7,rfl,hz,hb⟩
 (try go_wp2_with fail)
 refine stepY hKq ((hVA_0.out.call hb).pR rfl rfl hz) (fun _ hX=>HSL _ _ _ _ hX) ?_
 intro VA_1 hc hHA_1
 have hVA_1:=Lib.hid hc
 clear hc hKq Kq hVA_0 hb hz hHA_0
 try simp only [Act.put,zI,z0,zS]
 refine rdy1 15 rfl (fun Kq hKq=>?_)
 go_simp
 go_at_call 41
 refine(hcmp_is (hVA_1.out.r 6 rfl) (hVA_1.out.r 4 rfl) EB1.out B5.out (by omega) (by omega) EV1.out).mono ?_
 rintro e wT ⟨rfl,hb⟩
 (try go_wp2_with fail)
 refine stepY hKq (hVA_1.out.call hb) (fun _ hX=>HSL _ _ _ _ hX) ?_
 intro VA_2 hc hHA_2
 have hVA_2:=Lib.hid hc
 clear hc hKq Kq hVA_1 hb hHA_1
 try simp only [Act.put,zI,z0,zS]
 refine tkL 16 ?_ rfl hHA_2 ?_ ?_;rotate_left
 ·intro wS hSw;(try dsimp only at hSw);go_simp;try with_reducible rfl
 try simp only [Act.put,zI,z0,zS]
 refine tkL 17 ?_ rfl hHA_2 ?_ ?_;rotate_left
 ·intro wS hSw;(try dsimp only at hSw);go_simp;try with_reducible rfl
 try simp only [Act.put,zI,z0,zS]
 refine tkL 18 ?_ rfl hHA_2 ?_ ?_;rotate_left
 ·intro wS hSw;(try dsimp only at hSw);go_simp;try with_reducible rfl
 try simp only [Act.put,zI,z0,zS]
 refine tkL 19 ?_ rfl hHA_2 ?_ ?_;rotate_left
 ·intro wS hSw;(try dsimp only at hSw);go_simp;try with_reducible rfl
 try simp only [Act.put,zI,z0,zS]
 refine tkL 20 ?_ rfl hHA_2 ?_ ?_;rotate_left
 ·intro wS hSw;(try dsimp only at hSw);go_simp;try with_reducible rfl
 try simp only [Act.put,zI,z0,zS]
 refine tkL 22 ?_ rfl hHA_2 ?_ ?_;rotate_left
 ·intro wS hSw;(try dsimp only at hSw);go_simp;try with_reducible rfl
 try simp only [Act.put,zI,z0,zS]
 refine rdy1 21 rfl (fun Kq hKq=>?_)
 go_simp
 go_at_call 40
 refine(radd_b (hVA_2.out.r 1 rfl) (hVA_2.out.r 3 rfl) B2.out B4.out (by omega) (by omega)).mono ?_
 rintro e wT ⟨a8,n8,c8,m8,d8,e8,f8,rfl,hz,hb⟩
 (try go_wp2_with fail)
 refine stepY hKq ((hVA_2.out.call hb).pR rfl rfl hz) (fun _ hX=>HSL _ _ _ _ hX) ?_
 intro VA_3 hc hHA_3
 have hVA_3:=Lib.hid hc
 clear hc hKq Kq hVA_2 hb hz hHA_2
 try simp only [Act.put,zI,z0,zS]
 refine rdy1 23 rfl (fun Kq hKq=>?_)
 go_simp
 go_at_call 41
 refine(hcmp_is (hVA_3.out.r 7 rfl) (hVA_3.out.r 5 rfl) EB2.out B6.out (by omega) (by omega) EV2.out).mono ?_
 rintro e wT ⟨rfl,hb⟩
 (try go_wp2_with fail)
 refine stepY hKq (hVA_3.out.call hb) (fun _ hX=>HSL _ _ _ _ hX) ?_
 intro VA_4 hc hHA_4
 have hVA_4:=Lib.hid hc
 clear hc hKq Kq hVA_3 hb hHA_3
 try simp only [Act.put,zI,z0,zS]
 refine tkL 24 ?_ rfl hHA_4 ?_ ?_;rotate_left
 ·intro wS hSw;(try dsimp only at hSw);go_simp;try with_reducible rfl
 try simp only [Act.put,zI,z0,zS]
 refine tkL 25 ?_ rfl hHA_4 ?_ ?_;rotate_left
 ·intro wS hSw;(try dsimp only at hSw);go_simp;try with_reducible rfl
 try simp only [Act.put,zI,z0,zS]
 refine wpAnyH_done (by kernel_rfl) ?_ _
 have hK:=Lib.hid ((hVA_4.out.thin (bs':=[(b12,#[.slice a51 n51 c51,.bool m51,.slice d51 e51 f51],42),(b13,#[.slice a52 n52 c52,.bool m52,.slice d52 e52 f52],42)]) (List.sublist_append_left [_,_] _) (List.Sublist.refl _)).pick [0,1] (rs':=[(fun V=>Rd V (.slice a51 n51 c51) m51 (.slice d51 e51 f51) (above l a b z)),(fun V=>Rd V (.slice a52 n52 c52) m52 (.slice d52 e52 f52) (below l a b z))]) rfl)
 clear hVA_4
 go_upto_region 10 with fail
 have hX:=Lib.hid (show Sy w _ [(b12,#[.slice a51 n51 c51,.bool m51,.slice d51 e51 f51],42),(b13,#[.slice a52 n52 c52,.bool m52,.slice d52 e52 f52],42),(VA_4.heap.size,#[.slice none 0 0,.bool false,.slice none 0 0],42)] [⟨.slice a3 l.length c3,83,2,l.length,L2 l⟩] [(fun V=>Rd V (.slice a51 n51 c51) m51 (.slice d51 e51 f51) (above l a b z)),(fun V=>Rd V (.slice a52 n52 c52) m52 (.slice d52 e52 f52) (below l a b z))]from hK.out.al _ #[.slice none 0 0,.bool false,.slice none 0 0] 42 rfl)
 obtain ⟨b21,eb21⟩:∃b,VA_4.heap.size=b:=⟨_,rfl⟩
 rw [eb21]at hX⊢
 refine wp_geny hX.out ?_
 intro WN21 hc
 have hN21:=Lib.hid hc
 clear hc hX eb21 hK
 have hG0:=Lib.hid (hN21.out.pR rfl rfl (Rd.nil (w:=WN21)))
 clear hN21
 go_wp2
 go_loopw [22,23] (fun xv iv wr=>∃ (k:Nat) (x:Int) (q:Rat) (a9:Option Addr) (n9 c9:Nat) (m9:Bool) (d9:Option Addr) (e9 f9:Nat),k≤l.length+1∧xv= .int .i64 x∧iv= .int .i64 k∧Hid (MInv l a b z (min k l.length) x q)∧Hid (Sy w wr [(b12,#[.slice a51 n51 c51,.bool m51,.slice d51 e51 f51],42),(b13,#[.slice a52 n52 c52,.bool m52,.slice d52 e52 f52],42),(b21,#[.slice a9 n9 c9,.bool m9,.slice d9 e9 f9],42)] [⟨.slice a3 l.length c3,83,2,l.length,L2 l⟩] [(fun V=>Rd V (.slice a51 n51 c51) m51 (.slice d51 e51 f51) (above l a b z)),(fun V=>Rd V (.slice a52 n52 c52) m52 (.slice d52 e52 f52) (below l a b z)),(fun V=>Rd V (.slice a9 n9 c9) m9 (.slice d9 e9 f9) (q))])) (fun _ iv _=>l.length+1 - (intOf iv).toNat)
 case atStart=>exact⟨0,a,0,none,0,0,false,none,0,0,Nat.zero_le _,rfl,rfl,Lib.hid (by rw [Nat.zero_min];exact MInv.start HT.out z),hG0⟩
 case round=>
  clear hG0
  obtain ⟨k,x,q,a9,n9,c9,m9,d9,e9,f9,hk,rfl,rfl,HM,hS⟩:=hrel
  by_cases hkl:k < l.length
  ·obtain ⟨g0,o0,rfl⟩:=HS.out.addr (by omega)
   have HX:=Lib.hid (fun W (hW:Below w.heap.size w W)=>((HS.out.below hW).at2 hkl).1)
   have HM1:=Lib.hid (show MInv l a b z k x q from by have:=HM.out;rwa [show min k l.length=k by omega]at this)
   have HSK:=Lib.hid (fun h=>HM1.out.skip hkl h)
   have HNX:=Lib.hid (fun tt h1 h2 h3=>HM1.out.next (tt:=tt) hkl h1 h2 h3)
   have hm1:=HM1.out.lo
   have hm2:=HM1.out.hi
   have hqb:=Lib.hid (HM1.out.bqs (by omega))
   have HM2:=Lib.hid (show(if hX l k < b then hX l k else b)≤x→MInv l a b z (k+1) x q from fun h=>HM1.out.skip hkl h)
   have HM3:=Lib.hid (show ∀tt,(if hX l k < b then hX l k else b)=tt→x < tt→Bq 130 (pieceI l z (x,tt))→MInv l a b z (k+1) tt (q+pieceI l z (x,tt))from fun tt h1 h2 h3=>HM1.out.next hkl h1 h2 h3)
   have hx100:=(prof_iff.1 HPB.out).bx hkl
   have EX:=Lib.hid (hX_at hkl)
   rw [EX.out]at HM2 HM3 hx100
   clear HM1 HM EX
   generalize l[k]=p at*
   obtain ⟨u,u1⟩:=p
   dsimp only [Pt.x]at*
   have x0:=HX.out _ hS.out.be
   clear HX
   have i0:(0:Int)≤(k:Int):=by omega
   have i1:(k:Int) < (l.length:Int):=by omega
   obtain ⟨tt,hto⟩:∃t,(if u < b then u else b)=t:=⟨_,rfl⟩
   rw [hto]at HM2
   have HM4:=Lib.hid (HM3.out tt hto)
   have HTO:=Lib.hid hto
   have hto2: -100000≤tt∧tt≤b:=by split at hto<;>omega
   clear HM3 hto
   go_upto_if 129 with fail
   go_cut [24] (fun s24 wx=>s24= .int .i64 tt∧Hid (Sy w wx [(b12,#[.slice a51 n51 c51,.bool m51,.slice d51 e51 f51],42),(b13,#[.slice a52 n52 c52,.bool m52,.slice d52 e52 f52],42),(b21,#[.slice a9 n9 c9,.bool m9,.slice d9 e9 f9],42)] [⟨.slice a3 l.length c3,83,2,l.length,L2 l⟩] [(fun V=>Rd V (.slice a51 n51 c51) m51 (.slice d51 e51 f51) (above l a b z)),(fun V=>Rd V (.slice a52 n52 c52) m52 (.slice d52 e52 f52) (below l a b z)),(fun V=>Rd V (.slice a9 n9 c9) m9 (.slice d9 e9 f9) (q))]))
   case first=>
    by_cases hub:u < b
    ·have ht:=HTO.out
     rw [if_pos hub]at ht
     subst ht
     clear HTO HM2 HM4
     go_wp2
     go_meet
     case rel=>exact⟨rfl,hS⟩
    ·have ht:=HTO.out
     rw [if_neg hub]at ht
     subst ht
     clear HTO HM2 HM4
     go_wp2
     go_meet
     case rel=>exact⟨rfl,hS⟩
   case rest=>
    clear hS x0
    obtain ⟨rfl,hS⟩:=hcut
    by_cases hle:tt≤x
    ·go_wp2_with fail
     go_roundw
     case rel=>exact⟨k+1,x,q,_,_,_,_,_,_,_,by omega,rfl,by go_num,Lib.hid (by rw [show min (k+1) l.length=k+1 by omega];exact HM2.out hle),hS⟩
     case measure=>simp [intOf];omega
    ·have hxt:x < tt:=by omega
     have HN:=Lib.hid (fun h=>HM4.out hxt h)
     clear HM2 HM4
     have HG1:=Lib.hid (fun W sa sn sc hW=>hground_ok W sa sn sc l x hW HPB.out (has_of HT.out (by omega) (by omega)))
     have HG2:=Lib.hid (fun W sa sn sc hW=>hground_ok W sa sn sc l tt hW HPB.out (has_of HT.out (by omega) (by omega)))
     have Q1:=Lib.hid (HT.out.gd (x:=x) (by omega) (by omega)).bq
     have Q2:=Lib.hid (HT.out.gd (x:=tt) (by omega) (by omega)).bq
     go_wp2_with fail
     refine(HG1.out _ _ _ _ (hS.out.osx 0 rfl)).mono ?_
     rintro e W ⟨a25,n25,c25,m25,d25,e25,f25,rfl,hz,hb⟩
     have hY:=Lib.hid ((hS.out.call hb).pR rfl rfl hz)
     clear hb hz hS
     go_upto_region 19 with fail
     have hX:=Lib.hid (show Sy w _ [(b12,#[.slice a51 n51 c51,.bool m51,.slice d51 e51 f51],42),(b13,#[.slice a52 n52 c52,.bool m52,.slice d52 e52 f52],42),(b21,#[.slice a9 n9 c9,.bool m9,.slice d9 e9 f9],42),(W.heap.size,#[.slice a25 n25 c25,.bool m25,.slice d25 e25 f25],42)] [⟨.slice a3 l.length c3,83,2,l.length,L2 l⟩] [(fun V=>Rd V (.slice a51 n51 c51) m51 (.slice d51 e51 f51) (above l a b z)),(fun V=>Rd V (.slice a52 n52 c52) m52 (.slice d52 e52 f52) (below l a b z)),(fun V=>Rd V (.slice a9 n9 c9) m9 (.slice d9 e9 f9) (q)),(fun V=>Rd V (.slice a25 n25 c25) m25 (.slice d25 e25 f25) (grd l x))]from hY.out.al W.heap.size #[.slice a25 n25 c25,.bool m25,.slice d25 e25 f25] 42 rfl)
     obtain ⟨b25,eb25⟩:∃b,W.heap.size=b:=⟨_,rfl⟩
     rw [eb25]at hX⊢
     refine wp_geny hX.out ?_
     intro WN41 hc
     have hN41:=Lib.hid hc
     clear hc hX eb25 hY
     go_wp2_with fail
     refine(HG2.out _ _ _ _ (hN41.out.osx 0 rfl)).mono ?_
     rintro e W ⟨a27,n27,c27,m27,d27,e27,f27,rfl,hz,hb⟩
     have hY:=Lib.hid ((hN41.out.call hb).pR rfl rfl hz)
     clear hb hz hN41
     go_upto_region 20 with fail
     have hX:=Lib.hid (show Sy w _ [(b12,#[.slice a51 n51 c51,.bool m51,.slice d51 e51 f51],42),(b13,#[.slice a52 n52 c52,.bool m52,.slice d52 e52 f52],42),(b21,#[.slice a9 n9 c9,.bool m9,.slice d9 e9 f9],42),(b25,#[.slice a25 n25 c25,.bool m25,.slice d25 e25 f25],42),(W.heap.size,#[.slice a27 n27 c27,.bool m27,.slice d27 e27 f27],42)] [⟨.slice a3 l.length c3,83,2,l.length,L2 l⟩] [(fun V=>Rd V (.slice a51 n51 c51) m51 (.slice d51 e51 f51) (above l a b z)),(fun V=>Rd V (.slice a52 n52 c52) m52 (.slice d52 e52 f52) (below l a b z)),(fun V=>Rd V (.slice a9 n9 c9) m9 (.slice d9 e9 f9) (q)),(fun V=>Rd V (.slice a25 n25 c25) m25 (.slice d25 e25 f25) (grd l x)),(fun V=>Rd V (.slice a27 n27 c27) m27 (.slice d27 e27 f27) (grd l tt))]from hY.out.al W.heap.size #[.slice a27 n27 c27,.bool m27,.slice d27 e27 f27] 42 rfl)
     obtain ⟨b27,eb27⟩:∃b,W.heap.size=b:=⟨_,rfl⟩
     rw [eb27]at hX⊢
     refine wp_geny hX.out ?_
     intro WN42 hc
     have hN42:=Lib.hid hc
     clear hc hX eb27 hY
     have j1:IntKind.i64.wrap (tt - x)=tt - x:=IntWalk.i64_in _ (by omega)
     have j2:IntKind.i64.wrap (2*z)=2*z:=IntWalk.i64_in _ (by omega)
     have RT:=Lib.hid (fun W=>ratioI_any (tt - x) 2 (by omega) (by omega) W)
     rw [show ofzE 2=0 from rfl]at RT
     go_wp2_with fail
     refine(RT.out _).mono ?_
     rintro e W ⟨a29,n29,c29,m29,d29,e29,f29,rfl,hz,hb⟩
     have hY:=Lib.hid ((hN42.out.call hb).pR rfl rfl hz)
     clear hb hz hN42
     go_upto_region 23 with fail
     have hX:=Lib.hid (show Sy w _ [(b12,#[.slice a51 n51 c51,.bool m51,.slice d51 e51 f51],42),(b13,#[.slice a52 n52 c52,.bool m52,.slice d52 e52 f52],42),(b21,#[.slice a9 n9 c9,.bool m9,.slice d9 e9 f9],42),(b25,#[.slice a25 n25 c25,.bool m25,.slice d25 e25 f25],42),(b27,#[.slice a27 n27 c27,.bool m27,.slice d27 e27 f27],42),(W.heap.size,#[.slice a29 n29 c29,.bool m29,.slice d29 e29 f29],42)] [⟨.slice a3 l.length c3,83,2,l.length,L2 l⟩] [(fun V=>Rd V (.slice a51 n51 c51) m51 (.slice d51 e51 f51) (above l a b z)),(fun V=>Rd V (.slice a52 n52 c52) m52 (.slice d52 e52 f52) (below l a b z)),(fun V=>Rd V (.slice a9 n9 c9) m9 (.slice d9 e9 f9) (q)),(fun V=>Rd V (.slice a25 n25 c25) m25 (.slice d25 e25 f25) (grd l x)),(fun V=>Rd V (.slice a27 n27 c27) m27 (.slice d27 e27 f27) (grd l tt)),(fun V=>Rd V (.slice a29 n29 c29) m29 (.slice d29 e29 f29) (Rat.divInt (tt - x) 2))]from hY.out.al W.heap.size #[.slice a29 n29 c29,.bool m29,.slice d29 e29 f29] 42 rfl)
     obtain ⟨b29,eb29⟩:∃b,W.heap.size=b:=⟨_,rfl⟩
     rw [eb29]at hX⊢
     refine wp_geny hX.out ?_
     intro WN43 hc
     have hN43:=Lib.hid hc
     clear hc hX eb29 hY
     have Q3:=Lib.hid (show Bq 73 (grd l x+grd l tt)from Q1.out.plus Q2.out)
     have Q4:=Lib.hid (show Bq 20 ((2*z:Int):Rat)from Bq.int (n:=19) (by unfold Bd;omega))
     have Q5:=Lib.hid (Q3.out.minus Q4.out)
     have Q6:=Lib.hid (show Bq 21 (Rat.divInt (tt - x) 2)from half_int (by omega))
     have Q7:=Lib.hid (Q5.out.mul Q6.out)
     have EP:=Lib.hid (show(grd l x+grd l tt - ((2*z:Int):Rat))*Rat.divInt (tt - x) 2=pieceI l z (x,tt)from by rw [Rat.divInt_eq_div];exact pieceI_eq l z x tt)
     have Q8:=Lib.hid (show Bq 130 (pieceI l z (x,tt))from by rw [←EP.out];exact Q7.out.mono (by omega))
     have HZ2:=Lib.hid (show -9223372036854775808≤2*z∧2*z < 9223372036854775808 from by omega)
     clear j1
     have HSL:∀V ex os rs,Sy w V ([(b12,#[.slice a51 n51 c51,.bool m51,.slice d51 e51 f51],42),(b13,#[.slice a52 n52 c52,.bool m52,.slice d52 e52 f52],42),(b21,#[.slice a9 n9 c9,.bool m9,.slice d9 e9 f9],42),(b25,#[.slice a25 n25 c25,.bool m25,.slice d25 e25 f25],42),(b27,#[.slice a27 n27 c27,.bool m27,.slice d27 e27 f27],42),(b29,#[.slice a29 n29 c29,.bool m29,.slice d29 e29 f29],42)]++ex) os rs→(fun w'=>w'.cell? ⟨b25,0,none⟩=some (.slice a25 n25 c25)∧w'.cell? ⟨b25,1,none⟩=some (.bool m25)∧w'.cell? ⟨b25,2,none⟩=some (.slice d25 e25 f25)∧w'.cell? ⟨b27,0,none⟩=some (.slice a27 n27 c27)∧w'.cell? ⟨b27,1,none⟩=some (.bool m27)∧w'.cell? ⟨b27,2,none⟩=some (.slice d27 e27 f27)∧w'.cell? ⟨b29,0,none⟩=some (.slice a29 n29 c29)∧w'.cell? ⟨b29,1,none⟩=some (.bool m29)∧w'.cell? ⟨b29,2,none⟩=some (.slice d29 e29 f29)∧True) V:=fun V ex os rs hX=>⟨hX.cell 3 0 rfl rfl,hX.cell 3 1 rfl rfl,hX.cell 3 2 rfl rfl,hX.cell 4 0 rfl rfl,hX.cell 4 1 rfl rfl,hX.cell 4 2 rfl rfl,hX.cell 5 0 rfl rfl,hX.cell 5 1 rfl rfl,hX.cell 5 2 rfl rfl,trivial⟩
     refine wp_region_noPanic ?_
     refine wp_region_held_drew (S:=(fun w'=>w'.cell? ⟨b25,0,none⟩=some (.slice a25 n25 c25)∧w'.cell? ⟨b25,1,none⟩=some (.bool m25)∧w'.cell? ⟨b25,2,none⟩=some (.slice d25 e25 f25)∧w'.cell? ⟨b27,0,none⟩=some (.slice a27 n27 c27)∧w'.cell? ⟨b27,1,none⟩=some (.bool m27)∧w'.cell? ⟨b27,2,none⟩=some (.slice d27 e27 f27)∧w'.cell? ⟨b29,0,none⟩=some (.slice a29 n29 c29)∧w'.cell? ⟨b29,1,none⟩=some (.bool m29)∧w'.cell? ⟨b29,2,none⟩=some (.slice d29 e29 f29)∧True)) (by kernel_rfl) ⟨hN43.out.drew.cell 3 0 rfl rfl,hN43.out.drew.cell 3 1 rfl rfl,hN43.out.drew.cell 3 2 rfl rfl,hN43.out.drew.cell 4 0 rfl rfl,hN43.out.drew.cell 4 1 rfl rfl,hN43.out.drew.cell 4 2 rfl rfl,hN43.out.drew.cell 5 0 rfl rfl,hN43.out.drew.cell 5 1 rfl rfl,hN43.out.drew.cell 5 2 rfl rfl,trivial⟩ (fun hH=>?_)
     refine wpAnyH_geny (show Sy w _ [(b12,#[.slice a51 n51 c51,.bool m51,.slice d51 e51 f51],42),(b13,#[.slice a52 n52 c52,.bool m52,.slice d52 e52 f52],42),(b21,#[.slice a9 n9 c9,.bool m9,.slice d9 e9 f9],42),(b25,#[.slice a25 n25 c25,.bool m25,.slice d25 e25 f25],42),(b27,#[.slice a27 n27 c27,.bool m27,.slice d27 e27 f27],42),(b29,#[.slice a29 n29 c29,.bool m29,.slice d29 e29 f29],42)] [⟨.slice a3 l.length c3,83,2,l.length,L2 l⟩] [(fun V=>Rd V (.slice a51 n51 c51) m51 (.slice d51 e51 f51) (above l a b z)),(fun V=>Rd V (.slice a52 n52 c52) m52 (.slice d52 e52 f52) (below l a b z)),(fun V=>Rd V (.slice a9 n9 c9) m9 (.slice d9 e9 f9) (q)),(fun V=>Rd V (.slice a25 n25 c25) m25 (.slice d25 e25 f25) (grd l x)),(fun V=>Rd V (.slice a27 n27 c27) m27 (.slice d27 e27 f27) (grd l tt)),(fun V=>Rd V (.slice a29 n29 c29) m29 (.slice d29 e29 f29) (Rat.divInt (tt - x) 2))]from hN43.out.drew) hH ?_
     intro VB_0 hc hHB_0
     have hVB_0:=Lib.hid hc
     clear hc hH hN43
     refine tkL 1 ?_ rfl hHB_0 ?_ ?_;rotate_left
     ·intro wS hSw;(try dsimp only at hSw);go_simp;try with_reducible rfl
     try simp only [Act.put,zI,z0,zS]
     refine tkL 2 ?_ rfl hHB_0 ?_ ?_;rotate_left
     ·intro wS hSw;(try dsimp only at hSw);go_simp;try with_reducible rfl
     try simp only [Act.put,zI,z0,zS]
     refine tkL 4 ?_ rfl hHB_0 ?_ ?_;rotate_left
     ·intro wS hSw;(try dsimp only at hSw);go_simp;try with_reducible rfl
     try simp only [Act.put,zI,z0,zS]
     refine tkL 5 ?_ rfl hHB_0 ?_ ?_;rotate_left
     ·intro wS hSw;(try dsimp only at hSw);go_simp;try with_reducible rfl
     try simp only [Act.put,zI,z0,zS]
     refine tkL 8 ?_ rfl hHB_0 ?_ ?_;rotate_left
     ·intro wS hSw;(try dsimp only at hSw);go_simp;try with_reducible rfl
     try simp only [Act.put,zI,z0,zS]
     refine wpAnyH_ready (rs:=[0,3]) (by kernel_rfl) (by simp) ?_
     refine AllReadyH.cons (o:=⟨_,_,_,_,_,_⟩) rfl (fun Kq hKq=>?_) ?_
     ·have cQ0:=hVB_0.out.cell 2 0 rfl rfl
      have cQ1:=hVB_0.out.cell 2 1 rfl rfl
      have cQ2:=hVB_0.out.cell 2 2 rfl rfl
      go_simp
      refine stepY hKq hVB_0.out (fun _ hX=>HSL _ _ _ _ hX) ?_
      intro VB_1 hc hHB_1
      have hVB_1:=Lib.hid hc
      clear hc hKq Kq hVB_0 cQ0 cQ1 cQ2 hHB_0
      try simp only [Act.put,zI,z0,zS]
      refine rdy1 3 rfl (fun Kq hKq=>?_)
      go_simp
      go_at_call 40
      refine(radd_b (hVB_1.out.r 3 rfl) (hVB_1.out.r 4 rfl) Q1.out Q2.out (by omega) (by omega)).mono ?_
      rintro e wT ⟨a31,n31,c31,m31,d31,e31,f31,rfl,hz,hb⟩
      (try go_wp2_with fail)
      refine stepY hKq ((hVB_1.out.call hb).pR rfl rfl hz) (fun _ hX=>HSL _ _ _ _ hX) ?_
      intro VB_2 hc hHB_2
      have hVB_2:=Lib.hid hc
      clear hc hKq Kq hVB_1 hb hz hHB_1
      try simp only [Act.put,zI,z0,zS]
      refine rdy1 6 rfl (fun Kq hKq=>?_)
      go_simp
      go_at_call 45
      refine(of_any _ HZ2.out _).mono ?_
      rintro e wT ⟨a32,n32,c32,m32,d32,e32,f32,rfl,hz,hb⟩
      (try go_wp2_with fail)
      refine stepY hKq ((hVB_2.out.call hb).pR rfl rfl hz) (fun _ hX=>HSL _ _ _ _ hX) ?_
      intro VB_3 hc hHB_3
      have hVB_3:=Lib.hid hc
      clear hc hKq Kq hVB_2 hb hz hHB_2
      try simp only [Act.put,zI,z0,zS]
      refine rdy1 7 rfl (fun Kq hKq=>?_)
      go_simp
      go_at_call 44
      refine(rsub_b (hVB_3.out.r 6 rfl) (hVB_3.out.r 7 rfl) Q3.out Q4.out (by omega) (by omega)).mono ?_
      rintro e wT ⟨a33,n33,c33,m33,d33,e33,f33,rfl,hz,hb⟩
      (try go_wp2_with fail)
      refine stepY hKq ((hVB_3.out.call hb).pR rfl rfl hz) (fun _ hX=>HSL _ _ _ _ hX) ?_
      intro VB_4 hc hHB_4
      have hVB_4:=Lib.hid hc
      clear hc hKq Kq hVB_3 hb hz hHB_3
      try simp only [Act.put,zI,z0,zS]
      refine rdy1 9 rfl (fun Kq hKq=>?_)
      go_simp
      go_at_call 46
      refine(rmul_b (hVB_4.out.r 8 rfl) (hVB_4.out.r 5 rfl) Q5.out Q6.out (by omega) (by omega)).mono ?_
      rintro e wT ⟨a34,n34,c34,m34,d34,e34,f34,rfl,hz,hb⟩
      (try go_wp2_with fail)
      refine stepY hKq ((hVB_4.out.call hb).pR rfl rfl hz) (fun _ hX=>HSL _ _ _ _ hX) ?_
      intro VB_5 hc hHB_5
      have hVB_5:=Lib.hid hc
      clear hc hKq Kq hVB_4 hb hz hHB_4
      try simp only [Act.put,zI,z0,zS]
      refine rdy1 10 rfl (fun Kq hKq=>?_)
      go_simp
      go_at_call 40
      refine(radd_b (hVB_5.out.r 2 rfl) (hVB_5.out.r 9 rfl) hqb.out Q7.out (by omega) (by omega)).mono ?_
      rintro e wT ⟨a35,n35,c35,m35,d35,e35,f35,rfl,hz,hb⟩
      (try go_wp2_with fail)
      refine stepY hKq ((hVB_5.out.call hb).pR rfl rfl hz) (fun _ hX=>HSL _ _ _ _ hX) ?_
      intro VB_6 hc hHB_6
      have hVB_6:=Lib.hid hc
      clear hc hKq Kq hVB_5 hb hz hHB_5
      try simp only [Act.put,zI,z0,zS]
      refine rdy1 11 rfl (fun Kq hKq=>?_)
      have cQ0:=hVB_6.out.cell 2 0 rfl rfl
      have fQ0:=hVB_6.out.free 2 0 rfl
      have cQ1:=hVB_6.out.cell 2 1 rfl rfl
      have fQ1:=hVB_6.out.free 2 1 rfl
      have cQ2:=hVB_6.out.cell 2 2 rfl rfl
      have fQ2:=hVB_6.out.free 2 2 rfl
      go_simp
      refine stepY hKq (hVB_6.out|>.set (j:=0) (v:= .slice a35 n35 c35) 2 rfl|>.set (j:=1) (v:= .bool m35) 2 rfl|>.set (j:=2) (v:= .slice d35 e35 f35) 2 rfl) (fun _ hX=>⟨hX.cell 3 0 rfl rfl,hX.cell 3 1 rfl rfl,hX.cell 3 2 rfl rfl,hX.cell 4 0 rfl rfl,hX.cell 4 1 rfl rfl,hX.cell 4 2 rfl rfl,hX.cell 5 0 rfl rfl,hX.cell 5 1 rfl rfl,hX.cell 5 2 rfl rfl,trivial⟩) ?_
      intro VB_7 hc hHB_7
      have hVB_7:=Lib.hid hc
      clear hc hKq Kq hVB_6 cQ0 fQ0 cQ1 fQ1 cQ2 fQ2 hHB_6
      try simp only [Act.put]
      refine wpAnyH_done (by kernel_rfl) ?_ _
      refine NoPanic.normal ?_
      go_wp2
      go_roundw
      case rel=>exact⟨k+1,tt,q+pieceI l z (x,tt),_,_,_,_,_,_,_,by omega,rfl,by go_num,Lib.hid (by rw [show min (k+1) l.length=k+1 by omega];exact HN.out Q8.out),by rw [←EP.out];exact Lib.hid ((hVB_7.out.thin (bs':=[(b12,#[.slice a51 n51 c51,.bool m51,.slice d51 e51 f51],42),(b13,#[.slice a52 n52 c52,.bool m52,.slice d52 e52 f52],42),(b21,#[.slice a35 n35 c35,.bool m35,.slice d35 e35 f35],42)]) (List.sublist_append_left [_,_,_] _) (List.Sublist.refl _)).pick [0,1,10] rfl)⟩
      case measure=>simp [intOf];omega
     refine AllReadyH.cons (o:=⟨_,_,_,_,_,_⟩) rfl (fun Kq hKq=>?_) ?_
     ·go_simp
      go_at_call 40
      refine(radd_b (hVB_0.out.r 3 rfl) (hVB_0.out.r 4 rfl) Q1.out Q2.out (by omega) (by omega)).mono ?_
      rintro e wT ⟨a31,n31,c31,m31,d31,e31,f31,rfl,hz,hb⟩
      (try go_wp2_with fail)
      refine stepY hKq ((hVB_0.out.call hb).pR rfl rfl hz) (fun _ hX=>HSL _ _ _ _ hX) ?_
      intro VB_1 hc hHB_1
      have hVB_1:=Lib.hid hc
      clear hc hKq Kq hVB_0 hb hz hHB_0
      try simp only [Act.put,zI,z0,zS]
      refine wpAnyH_ready (rs:=[0,6]) (by kernel_rfl) (by simp) ?_
      refine AllReadyH.cons (o:=⟨_,_,_,_,_,_⟩) rfl (fun Kq hKq=>?_) ?_
      ·have cQ0:=hVB_1.out.cell 2 0 rfl rfl
       have cQ1:=hVB_1.out.cell 2 1 rfl rfl
       have cQ2:=hVB_1.out.cell 2 2 rfl rfl
       go_simp
       refine stepY hKq hVB_1.out (fun _ hX=>HSL _ _ _ _ hX) ?_
       intro VB_2 hc hHB_2
       have hVB_2:=Lib.hid hc
       clear hc hKq Kq hVB_1 cQ0 cQ1 cQ2 hHB_1
       try simp only [Act.put,zI,z0,zS]
       refine rdy1 6 rfl (fun Kq hKq=>?_)
       go_simp
       go_at_call 45
       refine(of_any _ HZ2.out _).mono ?_
       rintro e wT ⟨a32,n32,c32,m32,d32,e32,f32,rfl,hz,hb⟩
       (try go_wp2_with fail)
       refine stepY hKq ((hVB_2.out.call hb).pR rfl rfl hz) (fun _ hX=>HSL _ _ _ _ hX) ?_
       intro VB_3 hc hHB_3
       have hVB_3:=Lib.hid hc
       clear hc hKq Kq hVB_2 hb hz hHB_2
       try simp only [Act.put,zI,z0,zS]
       refine rdy1 7 rfl (fun Kq hKq=>?_)
       go_simp
       go_at_call 44
       refine(rsub_b (hVB_3.out.r 6 rfl) (hVB_3.out.r 7 rfl) Q3.out Q4.out (by omega) (by omega)).mono ?_
       rintro e wT ⟨a33,n33,c33,m33,d33,e33,f33,rfl,hz,hb⟩
       (try go_wp2_with fail)
       refine stepY hKq ((hVB_3.out.call hb).pR rfl rfl hz) (fun _ hX=>HSL _ _ _ _ hX) ?_
       intro VB_4 hc hHB_4
       have hVB_4:=Lib.hid hc
       clear hc hKq Kq hVB_3 hb hz hHB_3
       try simp only [Act.put,zI,z0,zS]
       refine rdy1 9 rfl (fun Kq hKq=>?_)
       go_simp
       go_at_call 46
       refine(rmul_b (hVB_4.out.r 8 rfl) (hVB_4.out.r 5 rfl) Q5.out Q6.out (by omega) (by omega)).mono ?_
       rintro e wT ⟨a34,n34,c34,m34,d34,e34,f34,rfl,hz,hb⟩
       (try go_wp2_with fail)
       refine stepY hKq ((hVB_4.out.call hb).pR rfl rfl hz) (fun _ hX=>HSL _ _ _ _ hX) ?_
       intro VB_5 hc hHB_5
       have hVB_5:=Lib.hid hc
       clear hc hKq Kq hVB_4 hb hz hHB_4
       try simp only [Act.put,zI,z0,zS]
       refine rdy1 10 rfl (fun Kq hKq=>?_)
       go_simp
       go_at_call 40
       refine(radd_b (hVB_5.out.r 2 rfl) (hVB_5.out.r 9 rfl) hqb.out Q7.out (by omega) (by omega)).mono ?_
       rintro e wT ⟨a35,n35,c35,m35,d35,e35,f35,rfl,hz,hb⟩
       (try go_wp2_with fail)
       refine stepY hKq ((hVB_5.out.call hb).pR rfl rfl hz) (fun _ hX=>HSL _ _ _ _ hX) ?_
       intro VB_6 hc hHB_6
       have hVB_6:=Lib.hid hc
       clear hc hKq Kq hVB_5 hb hz hHB_5
       try simp only [Act.put,zI,z0,zS]
       refine rdy1 11 rfl (fun Kq hKq=>?_)
       have cQ0:=hVB_6.out.cell 2 0 rfl rfl
       have fQ0:=hVB_6.out.free 2 0 rfl
       have cQ1:=hVB_6.out.cell 2 1 rfl rfl
       have fQ1:=hVB_6.out.free 2 1 rfl
       have cQ2:=hVB_6.out.cell 2 2 rfl rfl
       have fQ2:=hVB_6.out.free 2 2 rfl
       go_simp
       refine stepY hKq (hVB_6.out|>.set (j:=0) (v:= .slice a35 n35 c35) 2 rfl|>.set (j:=1) (v:= .bool m35) 2 rfl|>.set (j:=2) (v:= .slice d35 e35 f35) 2 rfl) (fun _ hX=>⟨hX.cell 3 0 rfl rfl,hX.cell 3 1 rfl rfl,hX.cell 3 2 rfl rfl,hX.cell 4 0 rfl rfl,hX.cell 4 1 rfl rfl,hX.cell 4 2 rfl rfl,hX.cell 5 0 rfl rfl,hX.cell 5 1 rfl rfl,hX.cell 5 2 rfl rfl,trivial⟩) ?_
       intro VB_7 hc hHB_7
       have hVB_7:=Lib.hid hc
       clear hc hKq Kq hVB_6 cQ0 fQ0 cQ1 fQ1 cQ2 fQ2 hHB_6
       try simp only [Act.put]
       refine wpAnyH_done (by kernel_rfl) ?_ _
       refine NoPanic.normal ?_
       go_wp2
       go_roundw
       case rel=>exact⟨k+1,tt,q+pieceI l z (x,tt),_,_,_,_,_,_,_,by omega,rfl,by go_num,Lib.hid (by rw [show min (k+1) l.length=k+1 by omega];exact HN.out Q8.out),by rw [←EP.out];exact Lib.hid ((hVB_7.out.thin (bs':=[(b12,#[.slice a51 n51 c51,.bool m51,.slice d51 e51 f51],42),(b13,#[.slice a52 n52 c52,.bool m52,.slice d52 e52 f52],42),(b21,#[.slice a35 n35 c35,.bool m35,.slice d35 e35 f35],42)]) (List.sublist_append_left [_,_,_] _) (List.Sublist.refl _)).pick [0,1,10] rfl)⟩
       case measure=>simp [intOf];omega
      refine AllReadyH.cons (o:=⟨_,_,_,_,_,_⟩) rfl (fun Kq hKq=>?_) ?_
      ·go_simp
       go_at_call 45
       refine(of_any _ HZ2.out _).mono ?_
       rintro e wT ⟨a32,n32,c32,m32,d32,e32,f32,rfl,hz,hb⟩
       (try go_wp2_with fail)
       refine stepY hKq ((hVB_1.out.call hb).pR rfl rfl hz) (fun _ hX=>HSL _ _ _ _ hX) ?_
       intro VB_2 hc hHB_2
       have hVB_2:=Lib.hid hc
       clear hc hKq Kq hVB_1 hb hz hHB_1
       try simp only [Act.put,zI,z0,zS]
       refine wpAnyH_ready (rs:=[0,7]) (by kernel_rfl) (by simp) ?_
       refine AllReadyH.cons (o:=⟨_,_,_,_,_,_⟩) rfl (fun Kq hKq=>?_) ?_
       ·have cQ0:=hVB_2.out.cell 2 0 rfl rfl
        have cQ1:=hVB_2.out.cell 2 1 rfl rfl
        have cQ2:=hVB_2.out.cell 2 2 rfl rfl
        go_simp
        refine stepY hKq hVB_2.out (fun _ hX=>HSL _ _ _ _ hX) ?_
        intro VB_3 hc hHB_3
        have hVB_3:=Lib.hid hc
        clear hc hKq Kq hVB_2 cQ0 cQ1 cQ2 hHB_2
        try simp only [Act.put,zI,z0,zS]
        refine rdy1 7 rfl (fun Kq hKq=>?_)
        go_simp
        go_at_call 44
        refine(rsub_b (hVB_3.out.r 6 rfl) (hVB_3.out.r 7 rfl) Q3.out Q4.out (by omega) (by omega)).mono ?_
        rintro e wT ⟨a33,n33,c33,m33,d33,e33,f33,rfl,hz,hb⟩
        (try go_wp2_with fail)
        refine stepY hKq ((hVB_3.out.call hb).pR rfl rfl hz) (fun _ hX=>HSL _ _ _ _ hX) ?_
        intro VB_4 hc hHB_4
        have hVB_4:=Lib.hid hc
        clear hc hKq Kq hVB_3 hb hz hHB_3
        try simp only [Act.put,zI,z0,zS]
        refine rdy1 9 rfl (fun Kq hKq=>?_)
        go_simp
        go_at_call 46
        refine(rmul_b (hVB_4.out.r 8 rfl) (hVB_4.out.r 5 rfl) Q5.out Q6.out (by omega) (by omega)).mono ?_
        rintro e wT ⟨a34,n34,c34,m34,d34,e34,f34,rfl,hz,hb⟩
        (try go_wp2_with fail)
        refine stepY hKq ((hVB_4.out.call hb).pR rfl rfl hz) (fun _ hX=>HSL _ _ _ _ hX) ?_
        intro VB_5 hc hHB_5
        have hVB_5:=Lib.hid hc
        clear hc hKq Kq hVB_4 hb hz hHB_4
        try simp only [Act.put,zI,z0,zS]
        refine rdy1 10 rfl (fun Kq hKq=>?_)
        go_simp
        go_at_call 40
        refine(radd_b (hVB_5.out.r 2 rfl) (hVB_5.out.r 9 rfl) hqb.out Q7.out (by omega) (by omega)).mono ?_
        rintro e wT ⟨a35,n35,c35,m35,d35,e35,f35,rfl,hz,hb⟩
        (try go_wp2_with fail)
        refine stepY hKq ((hVB_5.out.call hb).pR rfl rfl hz) (fun _ hX=>HSL _ _ _ _ hX) ?_
        intro VB_6 hc hHB_6
        have hVB_6:=Lib.hid hc
        clear hc hKq Kq hVB_5 hb hz hHB_5
        try simp only [Act.put,zI,z0,zS]
        refine rdy1 11 rfl (fun Kq hKq=>?_)
        have cQ0:=hVB_6.out.cell 2 0 rfl rfl
        have fQ0:=hVB_6.out.free 2 0 rfl
        have cQ1:=hVB_6.out.cell 2 1 rfl rfl
        have fQ1:=hVB_6.out.free 2 1 rfl
        have cQ2:=hVB_6.out.cell 2 2 rfl rfl
        have fQ2:=hVB_6.out.free 2 2 rfl
        go_simp
        refine stepY hKq (hVB_6.out|>.set (j:=0) (v:= .slice a35 n35 c35) 2 rfl|>.set (j:=1) (v:= .bool m35) 2 rfl|>.set (j:=2) (v:= .slice d35 e35 f35) 2 rfl) (fun _ hX=>⟨hX.cell 3 0 rfl rfl,hX.cell 3 1 rfl rfl,hX.cell 3 2 rfl rfl,hX.cell 4 0 rfl rfl,hX.cell 4 1 rfl rfl,hX.cell 4 2 rfl rfl,hX.cell 5 0 rfl rfl,hX.cell 5 1 rfl rfl,hX.cell 5 2 rfl rfl,trivial⟩) ?_
        intro VB_7 hc hHB_7
        have hVB_7:=Lib.hid hc
        clear hc hKq Kq hVB_6 cQ0 fQ0 cQ1 fQ1 cQ2 fQ2 hHB_6
        try simp only [Act.put]
        refine wpAnyH_done (by kernel_rfl) ?_ _
        refine NoPanic.normal ?_
        go_wp2
        go_roundw
        case rel=>exact⟨k+1,tt,q+pieceI l z (x,tt),_,_,_,_,_,_,_,by omega,rfl,by go_num,Lib.hid (by rw [show min (k+1) l.length=k+1 by omega];exact HN.out Q8.out),by rw [←EP.out];exact Lib.hid ((hVB_7.out.thin (bs':=[(b12,#[.slice a51 n51 c51,.bool m51,.slice d51 e51 f51],42),(b13,#[.slice a52 n52 c52,.bool m52,.slice d52 e52 f52],42),(b21,#[.slice a35 n35 c35,.bool m35,.slice d35 e35 f35],42)]) (List.sublist_append_left [_,_,_] _) (List.Sublist.refl _)).pick [0,1,10] rfl)⟩
        case measure=>simp [intOf];omega
       refine AllReadyH.cons (o:=⟨_,_,_,_,_,_⟩) rfl (fun Kq hKq=>?_) ?_
       ·go_simp
        go_at_call 44
        refine(rsub_b (hVB_2.out.r 6 rfl) (hVB_2.out.r 7 rfl) Q3.out Q4.out (by omega) (by omega)).mono ?_
        rintro e wT ⟨a33,n33,c33,m33,d33,e33,f33,rfl,hz,hb⟩
        (try go_wp2_with fail)
        refine stepY hKq ((hVB_2.out.call hb).pR rfl rfl hz) (fun _ hX=>HSL _ _ _ _ hX) ?_
        intro VB_3 hc hHB_3
        have hVB_3:=Lib.hid hc
        clear hc hKq Kq hVB_2 hb hz hHB_2
        try simp only [Act.put,zI,z0,zS]
        refine wpAnyH_ready (rs:=[0,9]) (by kernel_rfl) (by simp) ?_
        refine AllReadyH.cons (o:=⟨_,_,_,_,_,_⟩) rfl (fun Kq hKq=>?_) ?_
        ·have cQ0:=hVB_3.out.cell 2 0 rfl rfl
         have cQ1:=hVB_3.out.cell 2 1 rfl rfl
         have cQ2:=hVB_3.out.cell 2 2 rfl rfl
         go_simp
         refine stepY hKq hVB_3.out (fun _ hX=>HSL _ _ _ _ hX) ?_
         intro VB_4 hc hHB_4
         have hVB_4:=Lib.hid hc
         clear hc hKq Kq hVB_3 cQ0 cQ1 cQ2 hHB_3
         try simp only [Act.put,zI,z0,zS]
         refine rdy1 9 rfl (fun Kq hKq=>?_)
         go_simp
         go_at_call 46
         refine(rmul_b (hVB_4.out.r 8 rfl) (hVB_4.out.r 5 rfl) Q5.out Q6.out (by omega) (by omega)).mono ?_
         rintro e wT ⟨a34,n34,c34,m34,d34,e34,f34,rfl,hz,hb⟩
         (try go_wp2_with fail)
         refine stepY hKq ((hVB_4.out.call hb).pR rfl rfl hz) (fun _ hX=>HSL _ _ _ _ hX) ?_
         intro VB_5 hc hHB_5
         have hVB_5:=Lib.hid hc
         clear hc hKq Kq hVB_4 hb hz hHB_4
         try simp only [Act.put,zI,z0,zS]
         refine rdy1 10 rfl (fun Kq hKq=>?_)
         go_simp
         go_at_call 40
         refine(radd_b (hVB_5.out.r 2 rfl) (hVB_5.out.r 9 rfl) hqb.out Q7.out (by omega) (by omega)).mono ?_
         rintro e wT ⟨a35,n35,c35,m35,d35,e35,f35,rfl,hz,hb⟩
         (try go_wp2_with fail)
         refine stepY hKq ((hVB_5.out.call hb).pR rfl rfl hz) (fun _ hX=>HSL _ _ _ _ hX) ?_
         intro VB_6 hc hHB_6
         have hVB_6:=Lib.hid hc
         clear hc hKq Kq hVB_5 hb hz hHB_5
         try simp only [Act.put,zI,z0,zS]
         refine rdy1 11 rfl (fun Kq hKq=>?_)
         have cQ0:=hVB_6.out.cell 2 0 rfl rfl
         have fQ0:=hVB_6.out.free 2 0 rfl
         have cQ1:=hVB_6.out.cell 2 1 rfl rfl
         have fQ1:=hVB_6.out.free 2 1 rfl
         have cQ2:=hVB_6.out.cell 2 2 rfl rfl
         have fQ2:=hVB_6.out.free 2 2 rfl
         go_simp
         refine stepY hKq (hVB_6.out|>.set (j:=0) (v:= .slice a35 n35 c35) 2 rfl|>.set (j:=1) (v:= .bool m35) 2 rfl|>.set (j:=2) (v:= .slice d35 e35 f35) 2 rfl) (fun _ hX=>⟨hX.cell 3 0 rfl rfl,hX.cell 3 1 rfl rfl,hX.cell 3 2 rfl rfl,hX.cell 4 0 rfl rfl,hX.cell 4 1 rfl rfl,hX.cell 4 2 rfl rfl,hX.cell 5 0 rfl rfl,hX.cell 5 1 rfl rfl,hX.cell 5 2 rfl rfl,trivial⟩) ?_
         intro VB_7 hc hHB_7
         have hVB_7:=Lib.hid hc
         clear hc hKq Kq hVB_6 cQ0 fQ0 cQ1 fQ1 cQ2 fQ2 hHB_6
         try simp only [Act.put]
         refine wpAnyH_done (by kernel_rfl) ?_ _
         refine NoPanic.normal ?_
         go_wp2
         go_roundw
         case rel=>exact⟨k+1,tt,q+pieceI l z (x,tt),_,_,_,_,_,_,_,by omega,rfl,by go_num,Lib.hid (by rw [show min (k+1) l.length=k+1 by omega];exact HN.out Q8.out),by rw [←EP.out];exact Lib.hid ((hVB_7.out.thin (bs':=[(b12,#[.slice a51 n51 c51,.bool m51,.slice d51 e51 f51],42),(b13,#[.slice a52 n52 c52,.bool m52,.slice d52 e52 f52],42),(b21,#[.slice a35 n35 c35,.bool m35,.slice d35 e35 f35],42)]) (List.sublist_append_left [_,_,_] _) (List.Sublist.refl _)).pick [0,1,10] rfl)⟩
         case measure=>simp [intOf];omega
        refine AllReadyH.cons (o:=⟨_,_,_,_,_,_⟩) rfl (fun Kq hKq=>?_) ?_
        ·go_simp
         go_at_call 46
         refine(rmul_b (hVB_3.out.r 8 rfl) (hVB_3.out.r 5 rfl) Q5.out Q6.out (by omega) (by omega)).mono ?_
         rintro e wT ⟨a34,n34,c34,m34,d34,e34,f34,rfl,hz,hb⟩
         (try go_wp2_with fail)
         refine stepY hKq ((hVB_3.out.call hb).pR rfl rfl hz) (fun _ hX=>HSL _ _ _ _ hX) ?_
         intro VB_4 hc hHB_4
         have hVB_4:=Lib.hid hc
         clear hc hKq Kq hVB_3 hb hz hHB_3
         try simp only [Act.put,zI,z0,zS]
         refine rdy1 0 rfl (fun Kq hKq=>?_)
         have cQ0:=hVB_4.out.cell 2 0 rfl rfl
         have cQ1:=hVB_4.out.cell 2 1 rfl rfl
         have cQ2:=hVB_4.out.cell 2 2 rfl rfl
         go_simp
         refine stepY hKq hVB_4.out (fun _ hX=>HSL _ _ _ _ hX) ?_
         intro VB_5 hc hHB_5
         have hVB_5:=Lib.hid hc
         clear hc hKq Kq hVB_4 cQ0 cQ1 cQ2 hHB_4
         try simp only [Act.put,zI,z0,zS]
         refine rdy1 10 rfl (fun Kq hKq=>?_)
         go_simp
         go_at_call 40
         refine(radd_b (hVB_5.out.r 2 rfl) (hVB_5.out.r 9 rfl) hqb.out Q7.out (by omega) (by omega)).mono ?_
         rintro e wT ⟨a35,n35,c35,m35,d35,e35,f35,rfl,hz,hb⟩
         (try go_wp2_with fail)
         refine stepY hKq ((hVB_5.out.call hb).pR rfl rfl hz) (fun _ hX=>HSL _ _ _ _ hX) ?_
         intro VB_6 hc hHB_6
         have hVB_6:=Lib.hid hc
         clear hc hKq Kq hVB_5 hb hz hHB_5
         try simp only [Act.put,zI,z0,zS]
         refine rdy1 11 rfl (fun Kq hKq=>?_)
         have cQ0:=hVB_6.out.cell 2 0 rfl rfl
         have fQ0:=hVB_6.out.free 2 0 rfl
         have cQ1:=hVB_6.out.cell 2 1 rfl rfl
         have fQ1:=hVB_6.out.free 2 1 rfl
         have cQ2:=hVB_6.out.cell 2 2 rfl rfl
         have fQ2:=hVB_6.out.free 2 2 rfl
         go_simp
         refine stepY hKq (hVB_6.out|>.set (j:=0) (v:= .slice a35 n35 c35) 2 rfl|>.set (j:=1) (v:= .bool m35) 2 rfl|>.set (j:=2) (v:= .slice d35 e35 f35) 2 rfl) (fun _ hX=>⟨hX.cell 3 0 rfl rfl,hX.cell 3 1 rfl rfl,hX.cell 3 2 rfl rfl,hX.cell 4 0 rfl rfl,hX.cell 4 1 rfl rfl,hX.cell 4 2 rfl rfl,hX.cell 5 0 rfl rfl,hX.cell 5 1 rfl rfl,hX.cell 5 2 rfl rfl,trivial⟩) ?_
         intro VB_7 hc hHB_7
         have hVB_7:=Lib.hid hc
         clear hc hKq Kq hVB_6 cQ0 fQ0 cQ1 fQ1 cQ2 fQ2 hHB_6
         try simp only [Act.put]
         refine wpAnyH_done (by kernel_rfl) ?_ _
         refine NoPanic.normal ?_
         go_wp2
         go_roundw
         case rel=>exact⟨k+1,tt,q+pieceI l z (x,tt),_,_,_,_,_,_,_,by omega,rfl,by go_num,Lib.hid (by rw [show min (k+1) l.length=k+1 by omega];exact HN.out Q8.out),by rw [←EP.out];exact Lib.hid ((hVB_7.out.thin (bs':=[(b12,#[.slice a51 n51 c51,.bool m51,.slice d51 e51 f51],42),(b13,#[.slice a52 n52 c52,.bool m52,.slice d52 e52 f52],42),(b21,#[.slice a35 n35 c35,.bool m35,.slice d35 e35 f35],42)]) (List.sublist_append_left [_,_,_] _) (List.Sublist.refl _)).pick [0,1,10] rfl)⟩
         case measure=>simp [intOf];omega
        exact AllReadyH.nil
       exact AllReadyH.nil
      exact AllReadyH.nil
     exact AllReadyH.nil
  ·have HD:=Lib.hid ((by have:=HM.out;rw [show min k l.length=l.length by omega]at this;exact this:MInv l a b z l.length x q).done HT.out)
   by_cases hke:k=l.length
   ·have hxb:=HD.out.1
    have hle:b≤x:=by omega
    clear hxb
    have i2:(k:Int)≤(l.length:Int):=by omega
    have i3:¬ (k:Int) < (l.length:Int):=by omega
    go_wp2_with fail
    go_roundw
    case rel=>exact⟨k+1,x,q,_,_,_,_,_,_,_,by omega,rfl,by go_num,Lib.hid (by have:=HM.out;rwa [show min (k+1) l.length=min k l.length by omega]),hS⟩
    case measure=>simp [intOf];omega
   ·have hke2:¬ (k:Int)≤(l.length:Int):=by omega
    have HQ:=Lib.hid HD.out.2
    have EV5:=Lib.hid (show cmpQ (above l a b z - below l a b z) q=0 from cmpQ_of_eq (by rw [HQ.out];exact HAB.out))
    have EQB:=Lib.hid (show Bq 5300 q from(by have:=HM.out;rw [show min k l.length=l.length by omega]at this;exact this:MInv l a b z l.length x q).bqs (by omega))
    have EB5:=Lib.hid (B1.out.minus B2.out)
    obtain ⟨v1,ev1⟩:∃v,sgnQ (above l a b z)=v:=⟨_,rfl⟩
    have hv1:0≤v1:=by rw [←ev1];exact sgnQ_of_ge N1.out
    have EV6:=Lib.hid ev1
    obtain ⟨v2,ev2⟩:∃v,sgnQ (below l a b z)=v:=⟨_,rfl⟩
    have hv2:0≤v2:=by rw [←ev2];exact sgnQ_of_ge N2.out
    have EV7:=Lib.hid ev2
    clear ev1 ev2 HD
    go_upto_region 25 with fail
    have HSL:∀V ex os rs,Sy w V ([(b12,#[.slice a51 n51 c51,.bool m51,.slice d51 e51 f51],42),(b13,#[.slice a52 n52 c52,.bool m52,.slice d52 e52 f52],42),(b21,#[.slice a9 n9 c9,.bool m9,.slice d9 e9 f9],42)]++ex) os rs→(fun w'=>w'.cell? ⟨b12,0,none⟩=some (.slice a51 n51 c51)∧w'.cell? ⟨b12,1,none⟩=some (.bool m51)∧w'.cell? ⟨b12,2,none⟩=some (.slice d51 e51 f51)∧w'.cell? ⟨b13,0,none⟩=some (.slice a52 n52 c52)∧w'.cell? ⟨b13,1,none⟩=some (.bool m52)∧w'.cell? ⟨b13,2,none⟩=some (.slice d52 e52 f52)∧w'.cell? ⟨b21,0,none⟩=some (.slice a9 n9 c9)∧w'.cell? ⟨b21,1,none⟩=some (.bool m9)∧w'.cell? ⟨b21,2,none⟩=some (.slice d9 e9 f9)∧True) V:=fun V ex os rs hX=>⟨hX.cell 0 0 rfl rfl,hX.cell 0 1 rfl rfl,hX.cell 0 2 rfl rfl,hX.cell 1 0 rfl rfl,hX.cell 1 1 rfl rfl,hX.cell 1 2 rfl rfl,hX.cell 2 0 rfl rfl,hX.cell 2 1 rfl rfl,hX.cell 2 2 rfl rfl,trivial⟩
    refine wp_region_held_drew (S:=(fun w'=>w'.cell? ⟨b12,0,none⟩=some (.slice a51 n51 c51)∧w'.cell? ⟨b12,1,none⟩=some (.bool m51)∧w'.cell? ⟨b12,2,none⟩=some (.slice d51 e51 f51)∧w'.cell? ⟨b13,0,none⟩=some (.slice a52 n52 c52)∧w'.cell? ⟨b13,1,none⟩=some (.bool m52)∧w'.cell? ⟨b13,2,none⟩=some (.slice d52 e52 f52)∧w'.cell? ⟨b21,0,none⟩=some (.slice a9 n9 c9)∧w'.cell? ⟨b21,1,none⟩=some (.bool m9)∧w'.cell? ⟨b21,2,none⟩=some (.slice d9 e9 f9)∧True)) (by kernel_rfl) ⟨hS.out.drew.cell 0 0 rfl rfl,hS.out.drew.cell 0 1 rfl rfl,hS.out.drew.cell 0 2 rfl rfl,hS.out.drew.cell 1 0 rfl rfl,hS.out.drew.cell 1 1 rfl rfl,hS.out.drew.cell 1 2 rfl rfl,hS.out.drew.cell 2 0 rfl rfl,hS.out.drew.cell 2 1 rfl rfl,hS.out.drew.cell 2 2 rfl rfl,trivial⟩ (fun hH=>?_)
    refine wpAnyH_geny (show Sy w _ [(b12,#[.slice a51 n51 c51,.bool m51,.slice d51 e51 f51],42),(b13,#[.slice a52 n52 c52,.bool m52,.slice d52 e52 f52],42),(b21,#[.slice a9 n9 c9,.bool m9,.slice d9 e9 f9],42)] [⟨.slice a3 l.length c3,83,2,l.length,L2 l⟩] [(fun V=>Rd V (.slice a51 n51 c51) m51 (.slice d51 e51 f51) (above l a b z)),(fun V=>Rd V (.slice a52 n52 c52) m52 (.slice d52 e52 f52) (below l a b z)),(fun V=>Rd V (.slice a9 n9 c9) m9 (.slice d9 e9 f9) (q))]from hS.out.drew) hH ?_
    intro VD_0 hc hHD_0
    have hVD_0:=Lib.hid hc
    clear hc hH hS
    refine tkL 0 ?_ rfl hHD_0 ?_ ?_;rotate_left
    ·intro wS hSw;(try dsimp only at hSw);go_simp;try with_reducible rfl
    try simp only [Act.put,zI,z0,zS]
    refine tkL 1 ?_ rfl hHD_0 ?_ ?_;rotate_left
    ·intro wS hSw;(try dsimp only at hSw);go_simp;try with_reducible rfl
    try simp only [Act.put,zI,z0,zS]
    refine tkL 3 ?_ rfl hHD_0 ?_ ?_;rotate_left
    ·intro wS hSw;(try dsimp only at hSw);go_simp;try with_reducible rfl
    try simp only [Act.put,zI,z0,zS]
    refine rdy1 2 rfl (fun Kq hKq=>?_)
    go_simp
    go_at_call 44
    refine(rsub_b (hVD_0.out.r 0 rfl) (hVD_0.out.r 1 rfl) B1.out B2.out (by omega) (by omega)).mono ?_
    rintro e wT ⟨a41,n41,c41,m41,d41,e41,f41,rfl,hz,hb⟩
    (try go_wp2_with fail)
    refine stepY hKq ((hVD_0.out.call hb).pR rfl rfl hz) (fun _ hX=>HSL _ _ _ _ hX) ?_
    intro VD_1 hc hHD_1
    have hVD_1:=Lib.hid hc
    clear hc hKq Kq hVD_0 hb hz hHD_0
    try simp only [Act.put,zI,z0,zS]
    refine rdy1 4 rfl (fun Kq hKq=>?_)
    go_simp
    go_at_call 41
    refine(hcmp_is (hVD_1.out.r 3 rfl) (hVD_1.out.r 2 rfl) EB5.out EQB.out (by omega) (by omega) EV5.out).mono ?_
    rintro e wT ⟨rfl,hb⟩
    (try go_wp2_with fail)
    refine stepY hKq (hVD_1.out.call hb) (fun _ hX=>HSL _ _ _ _ hX) ?_
    intro VD_2 hc hHD_2
    have hVD_2:=Lib.hid hc
    clear hc hKq Kq hVD_1 hb hHD_1
    try simp only [Act.put,zI,z0,zS]
    refine tkL 5 ?_ rfl hHD_2 ?_ ?_;rotate_left
    ·intro wS hSw;(try dsimp only at hSw);go_simp;try with_reducible rfl
    try simp only [Act.put,zI,z0,zS]
    refine tkL 6 ?_ rfl hHD_2 ?_ ?_;rotate_left
    ·intro wS hSw;(try dsimp only at hSw);go_simp;try with_reducible rfl
    try simp only [Act.put,zI,z0,zS]
    refine tkL 7 ?_ rfl hHD_2 ?_ ?_;rotate_left
    ·intro wS hSw;(try dsimp only at hSw);go_simp;try with_reducible rfl
    try simp only [Act.put,zI,z0,zS]
    refine rdy1 8 rfl (fun Kq hKq=>?_)
    go_simp
    go_at_call 47
    refine(hsign_is (hVD_2.out.r 0 rfl) EV6.out).mono ?_
    rintro e wT ⟨rfl,hb⟩
    (try go_wp2_with fail)
    refine stepY hKq (hVD_2.out.call hb) (fun _ hX=>HSL _ _ _ _ hX) ?_
    intro VD_3 hc hHD_3
    have hVD_3:=Lib.hid hc
    clear hc hKq Kq hVD_2 hb hHD_2
    try simp only [Act.put,zI,z0,zS]
    refine tkL 9 ?_ rfl hHD_3 ?_ ?_;rotate_left
    ·intro wS hSw;(try dsimp only at hSw);go_simp;try with_reducible rfl
    try simp only [Act.put,zI,z0,zS]
    refine tkL 10 ?_ rfl hHD_3 ?_ ?_;rotate_left
    ·intro wS hSw;(try dsimp only at hSw);go_simp;try with_reducible rfl
    try simp only [Act.put,zI,z0,zS]
    refine tkL 11 ?_ rfl hHD_3 ?_ ?_;rotate_left
    ·intro wS hSw;(try dsimp only at hSw);go_simp;try with_reducible rfl
    try simp only [Act.put,zI,z0,zS]
    refine tkL 12 ?_ rfl hHD_3 ?_ ?_;rotate_left
    ·intro wS hSw;(try dsimp only at hSw);go_simp;try with_reducible rfl
    try simp only [Act.put,zI,z0,zS]
    refine rdy1 13 rfl (fun Kq hKq=>?_)
    go_simp
    go_at_call 47
    refine(hsign_is (hVD_3.out.r 1 rfl) EV7.out).mono ?_
    rintro e wT ⟨rfl,hb⟩
    (try go_wp2_with fail)
    refine stepY hKq (hVD_3.out.call hb) (fun _ hX=>HSL _ _ _ _ hX) ?_
    intro VD_4 hc hHD_4
    have hVD_4:=Lib.hid hc
    clear hc hKq Kq hVD_3 hb hHD_3
    try simp only [Act.put,zI,z0,zS]
    refine tkL 14 ?_ rfl hHD_4 ?_ ?_;rotate_left
    ·intro wS hSw;(try dsimp only at hSw);go_simp;try with_reducible rfl
    try simp only [Act.put,zI,z0,zS]
    refine tkL 15 ?_ rfl hHD_4 ?_ ?_;rotate_left
    ·intro wS hSw;(try dsimp only at hSw);go_simp;try with_reducible rfl
    try simp only [Act.put,zI,z0,zS]
    refine tkL 16 ?_ rfl hHD_4 ?_ ?_;rotate_left
    ·intro wS hSw;(try dsimp only at hSw);go_simp;try with_reducible rfl
    try simp only [Act.put,zI,z0,zS]
    refine rdy1 17 rfl (fun Kq hKq=>?_)
    go_simp
    go_at_call 16
    refine(HW.out _).mono ?_
    rintro e wT ⟨rfl,hb⟩
    (try go_wp2_with fail)
    refine stepY hKq (hVD_4.out.call hb) (fun _ hX=>HSL _ _ _ _ hX) ?_
    intro VD_5 hc hHD_5
    have hVD_5:=Lib.hid hc
    clear hc hKq Kq hVD_4 hb hHD_4
    try simp only [Act.put,zI,z0,zS]
    refine tkL 18 ?_ rfl hHD_5 ?_ ?_;rotate_left
    ·intro wS hSw;(try dsimp only at hSw);go_simp;try with_reducible rfl
    try simp only [Act.put,zI,z0,zS]
    refine rdy1 19 rfl (fun Kq hKq=>?_)
    go_simp
    refine stepY hKq hVD_5.out (fun _ hX=>HSL _ _ _ _ hX) ?_
    intro VD_6 hc hHD_6
    have hVD_6:=Lib.hid hc
    clear hc hKq Kq hVD_5 hHD_5
    try simp only [Act.put,zI,z0,zS]
    refine wpAnyH_done (by kernel_rfl) ?_ _
    go_wp2
    go_ret
    exact⟨rfl,hVD_6.out.be⟩
end
end Go.Proofs.YthmdhlopeponcaaGreatDoor
