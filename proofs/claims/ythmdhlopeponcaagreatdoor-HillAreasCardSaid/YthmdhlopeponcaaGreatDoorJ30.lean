/- a part of the proof -/
import Derived.Test.YthmdhlopeponcaaGreatDoorJ0
import Derived.Test.YthmdhlopeponcaaGreatDoorJ26
import Derived.Test.YthmdhlopeponcaaGreatDoorJ23
import Derived.Test.YthmdhlopeponcaaGreatDoorJ25
import Derived.Test.YthmdhlopeponcaaGreatDoorJ20
import Derived.Test.YthmdhlopeponcaaGreatDoorJ29
set_option maxRecDepth 100000
set_option maxHeartbeats 8000000
namespace Go.Proofs.YthmdhlopeponcaaGreatDoor
open Go.RowKit Go.Shelf Dig
def RetI (w:World) (vs:List Int) (e:Ending) (w':World):Prop:=∃a c,e= .returned (.tuple #[.slice a vs.length c,.int .i64 0])/\w'.ownsRow w.heap.size 3 1 (.slice a vs.length c) vs.length (L1 vs)/\Below w.heap.size w w'
theorem lv_ok {w:World} {k:Int} {vs:List Int} (hk:k=0) {e:Ending} {w':World} (h:RetLv w k vs e w'):RetI w vs e w':=by
 subst hk
 rcases h with ⟨-,h⟩ | ⟨h,-⟩
 ·exact h
 ·exact absurd rfl h
section
variable {w:World} {sa:OA} {sc:Nat} (hs:Sx 2 w sa 4 sc (L2 slopeL)) {ba:OA} {bc:Nat} (hb:Sx 1 w ba 5 bc (L1 brk5)) {fa:OA} {fc:Nat} (hf:Sx 1 w fa 4 fc (L1 [-50,-50,100,250])) {ha:OA} {hc:Nat} (hh:Sx 1 w ha 4 hc (L1 [1100,1250,1400,1400]))
include hs
theorem w_ground:Calls Tryz.prog 42 #[.slice sa 4 sc,.int .i64 1500] w (RetRE w 100 0):=by
 have:=hground_ok w sa 4 sc slopeL 1500 hs sl_prof (by decide+kernel)
 rwa [sl_g]at this
theorem w_areas:Calls Tryz.prog 39 #[.slice sa 4 sc,.int .i64 0,.int .i64 2000,.int .i64 100] w (RetRRE w 25000 125000 0):=by
 have:=hAreas_ok w sa 4 sc slopeL 0 2000 hs 100 sl_e1 (by decide+kernel)
 rwa [sl_a,sl_b]at this
theorem w_flood:Calls Tryz.prog 37 #[.slice sa 4 sc,.int .i64 0,.int .i64 2000,.int .i64 100000] w (Gives (.tuple #[.int .i64 83,.int .i64 0]) w):=by
 have:=flood_any w sa 4 sc slopeL 0 2000 hs 100000 (by omega)
 rwa [sl_flood.1,sl_flood.2]at this
theorem w_best:Calls Tryz.prog 32 #[.slice sa 4 sc,.int .i64 0,.int .i64 4000,.int .i64 1000,.int .i64 1000,.int .i64 2,.int .i64 50] w (RetBest w (600000,[0,2000,4000])):=by
 have:=hBest_ok w sa 4 sc slopeL 0 4000 1000 1000 50 hs 4 2 sl_e2 (by decide+kernel) (by omega) (by omega) (by omega) (by omega) (by omega)
 rw [sl_best]at this
 exact this
include hb
theorem w_feet:Calls Tryz.prog 18 #[.slice sa 4 sc,.slice ba 5 bc,.int .i64 50,.int .i64 150] w (RetI w [-50,-50,100,250]):=by
 have:=hFeet_any w sa 4 sc slopeL hs ba 5 bc brk5 hb 50 150 (by omega) (by omega)
 rw [sl_feet]at this
 exact this.mono fun e w' h=>lv_ok (by decide+kernel) h
theorem w_heads:Calls Tryz.prog 19 #[.slice sa 4 sc,.slice ba 5 bc,.int .i64 1000,.int .i64 150] w (RetI w [1100,1250,1400,1400]):=by
 have:=hHeads_any w sa 4 sc slopeL hs ba 5 bc brk5 hb 1000 150 (by omega) (by omega)
 rw [sl_heads]at this
 exact this.mono fun e w' h=>lv_ok (by decide+kernel) h
include hf
theorem w_dig:Calls Tryz.prog 26 #[.slice sa 4 sc,.slice ba 5 bc,.slice fa 4 fc] w (RetRE w 550000 0):=by
 have:=hDig_ok w sa 4 sc slopeL hs ba 5 bc brk5 hb fa 4 fc _ hf (by decide+kernel)
 rwa [sl_dig]at this
include hh
theorem w_rows:Calls Tryz.prog 34 #[.slice sa 4 sc,.slice ba 5 bc,.slice fa 4 fc,.slice ha 4 hc,.int .i64 300] w (fun e w'=>∃a c,e= .returned (.tuple #[.slice a 4 c,.int .i64 0])/\Below w.heap.size w w'):=by
 refine(hRows_ok w sa 4 sc slopeL hs ba 5 bc brk5 hb fa 4 fc _ hf ha 4 hc _ hh 300 sl_rows).mono fun e w' h=>?_
 rcases h with ⟨h,-⟩ | ⟨-,a,c,T,hT,he,-,hb⟩
 ·exact absurd rfl h
 ·have e4:T.length=4:=by rw [<-sl_rows4,<-hT.out,List.length_map]
  rw [e4]at he
  exact⟨a,c,he,hb⟩
end
theorem tx_100 {w:World} {a1:OA} {n1 c1:Nat} {m1:Bool} {d1:OA} {e1 f1:Nat} (h1:Rd w (.slice a1 n1 c1) m1 (.slice d1 e1 f1) 100):Calls Tryz.prog 59 #[.agg #[.slice a1 n1 c1,.bool m1,.slice d1 e1 f1]] w (Gives (.string ⟨#[49,48,48]⟩) w):=by
 have:=rtext_b (k1:=41) h1 ⟨by unfold Bd;decide+kernel,by unfold Bd;decide+kernel⟩ (by omega)
 rw [show rtext 100= [49,48,48]by decide+kernel]at this
 exact this
theorem tx_25000 {w:World} {a1:OA} {n1 c1:Nat} {m1:Bool} {d1:OA} {e1 f1:Nat} (h1:Rd w (.slice a1 n1 c1) m1 (.slice d1 e1 f1) 25000):Calls Tryz.prog 59 #[.agg #[.slice a1 n1 c1,.bool m1,.slice d1 e1 f1]] w (Gives (.string ⟨#[50,53,48,48,48]⟩) w):=by
 have:=rtext_b (k1:=41) h1 ⟨by unfold Bd;decide+kernel,by unfold Bd;decide+kernel⟩ (by omega)
 rw [show rtext 25000= [50,53,48,48,48]by decide+kernel]at this
 exact this
theorem tx_125000 {w:World} {a1:OA} {n1 c1:Nat} {m1:Bool} {d1:OA} {e1 f1:Nat} (h1:Rd w (.slice a1 n1 c1) m1 (.slice d1 e1 f1) 125000):Calls Tryz.prog 59 #[.agg #[.slice a1 n1 c1,.bool m1,.slice d1 e1 f1]] w (Gives (.string ⟨#[49,50,53,48,48,48]⟩) w):=by
 have:=rtext_b (k1:=41) h1 ⟨by unfold Bd;decide+kernel,by unfold Bd;decide+kernel⟩ (by omega)
 rw [show rtext 125000= [49,50,53,48,48,48]by decide+kernel]at this
 exact this
theorem tx_550000 {w:World} {a1:OA} {n1 c1:Nat} {m1:Bool} {d1:OA} {e1 f1:Nat} (h1:Rd w (.slice a1 n1 c1) m1 (.slice d1 e1 f1) 550000):Calls Tryz.prog 59 #[.agg #[.slice a1 n1 c1,.bool m1,.slice d1 e1 f1]] w (Gives (.string ⟨#[53,53,48,48,48,48]⟩) w):=by
 have:=rtext_b (k1:=41) h1 ⟨by unfold Bd;decide+kernel,by unfold Bd;decide+kernel⟩ (by omega)
 rw [show rtext 550000= [53,53,48,48,48,48]by decide+kernel]at this
 exact this
theorem tx_600000 {w:World} {a1:OA} {n1 c1:Nat} {m1:Bool} {d1:OA} {e1 f1:Nat} (h1:Rd w (.slice a1 n1 c1) m1 (.slice d1 e1 f1) 600000):Calls Tryz.prog 59 #[.agg #[.slice a1 n1 c1,.bool m1,.slice d1 e1 f1]] w (Gives (.string ⟨#[54,48,48,48,48,48]⟩) w):=by
 have:=rtext_b (k1:=41) h1 ⟨by unfold Bd;decide+kernel,by unfold Bd;decide+kernel⟩ (by omega)
 rw [show rtext 600000= [54,48,48,48,48,48]by decide+kernel]at this
 exact this
section
variable (w:World)
theorem wakes08:Calls Tryz.prog 16 #[] w (Gives (.bool true) w):=by
 go_enter Tryz.func16,Tryz.ntmps16
 go_wp2_with fail
 refine(slope_any _).mono ?_
 rintro e W1 ⟨a1,c1,rfl,hr,hb⟩
 have hA:=ζ ((Sy.enter w).adopt hb hr)
 clear hb hr
 go_upto_region 2 with fail
 have hX:=ζ (show Sy w _ [] [⟨.slice a1 4 c1,83,2,4,L2 slopeL⟩,⟨.slice (some ⟨W1.heap.size,0,none⟩) 5 5,3,1,5,L1 brk5⟩] []from hA.out.onew W1.heap.size #[.int .i64 0,.int .i64 1000,.int .i64 2000,.int .i64 3000,.int .i64 4000] 3 1 5 rfl (by omega) rfl)
 obtain ⟨g2,eg2⟩:∃b,W1.heap.size=b:=⟨_,rfl⟩
 rw [eg2]at hX⊢
 refine wp_geny hX.out ?_
 intro V1 hc
 have hB:=ζ hc
 clear hc hX eg2
 clear hA
 go_wp2_with fail
 refine(w_ground (hB.out.osx 0 rfl)).mono ?_
 rintro e W ⟨a3,n3,c3,m3,d3,e3,f3,rfl,hz,hb⟩
 have hY:=ζ ((hB.out.call hb).pR rfl rfl hz)
 clear hb hz hB
 go_upto_region 3 with fail
 have hX:=ζ (show Sy w _ [(W.heap.size,#[.slice a3 n3 c3,.bool m3,.slice d3 e3 f3],42)] [⟨.slice a1 4 c1,83,2,4,L2 slopeL⟩,⟨.slice (some ⟨g2,0,none⟩) 5 5,3,1,5,L1 brk5⟩] [(fun V=>Rd V (.slice a3 n3 c3) m3 (.slice d3 e3 f3) (100))]from hY.out.al W.heap.size #[.slice a3 n3 c3,.bool m3,.slice d3 e3 f3] 42 rfl)
 obtain ⟨b3,eb3⟩:∃b,W.heap.size=b:=⟨_,rfl⟩
 rw [eb3]at hX⊢
 refine wp_geny hX.out ?_
 intro V2 hc
 have hV2:=ζ hc
 clear hc hX eb3
 clear hY
 go_wp2_with fail
 refine(w_areas (hV2.out.osx 0 rfl)).mono ?_
 rintro e W ⟨a5,n5,c5,m5,d5,e5,f5,a6,n6,c6,m6,d6,e6,f6,rfl,hz1,hz2,hb⟩
 have hY:=ζ (((hV2.out.call hb).pR rfl rfl hz1).pR rfl rfl hz2)
 clear hb hz1 hz2 hV2
 go_upto_region 4 with fail
 have hX:=ζ (show Sy w _ [(b3,#[.slice a3 n3 c3,.bool m3,.slice d3 e3 f3],42),(W.heap.size,#[.slice a5 n5 c5,.bool m5,.slice d5 e5 f5],42),(W.heap.size+1,#[.slice a6 n6 c6,.bool m6,.slice d6 e6 f6],42)] [⟨.slice a1 4 c1,83,2,4,L2 slopeL⟩,⟨.slice (some ⟨g2,0,none⟩) 5 5,3,1,5,L1 brk5⟩] [(fun V=>Rd V (.slice a3 n3 c3) m3 (.slice d3 e3 f3) (100)),(fun V=>Rd V (.slice a5 n5 c5) m5 (.slice d5 e5 f5) (25000)),(fun V=>Rd V (.slice a6 n6 c6) m6 (.slice d6 e6 f6) (125000))]from(hY.out.al W.heap.size #[.slice a5 n5 c5,.bool m5,.slice d5 e5 f5] 42 rfl|>.al (W.heap.size+1) #[.slice a6 n6 c6,.bool m6,.slice d6 e6 f6] 42 (by simp)))
 obtain ⟨b6,eb6⟩:∃b,W.heap.size+1=b:=⟨_,rfl⟩
 rw [eb6]at hX⊢
 obtain ⟨b5,eb5⟩:∃b,W.heap.size=b:=⟨_,rfl⟩
 rw [eb5]at hX⊢
 refine wp_geny hX.out ?_
 intro V3 hc
 have hV3:=ζ hc
 clear hc hX eb6 eb5
 clear hY
 go_wp2_with fail
 refine(w_feet (hV3.out.osx 0 rfl) (hV3.out.osx 1 rfl)).mono ?_
 rintro e WR1 ⟨a8,c8,rfl,hr,hb⟩
 have hR1:=ζ (show Sy w _ [(b3,#[.slice a3 n3 c3,.bool m3,.slice d3 e3 f3],42),(b5,#[.slice a5 n5 c5,.bool m5,.slice d5 e5 f5],42),(b6,#[.slice a6 n6 c6,.bool m6,.slice d6 e6 f6],42)] [⟨.slice a1 4 c1,83,2,4,L2 slopeL⟩,⟨.slice (some ⟨g2,0,none⟩) 5 5,3,1,5,L1 brk5⟩,⟨.slice a8 4 c8,3,1,4,L1 [-50,-50,100,250]⟩] [(fun V=>Rd V (.slice a3 n3 c3) m3 (.slice d3 e3 f3) (100)),(fun V=>Rd V (.slice a5 n5 c5) m5 (.slice d5 e5 f5) (25000)),(fun V=>Rd V (.slice a6 n6 c6) m6 (.slice d6 e6 f6) (125000))]from hV3.out.adopt hb hr)
 clear hb hr hV3
 go_wp2_with fail
 refine(w_heads (hR1.out.osx 0 rfl) (hR1.out.osx 1 rfl)).mono ?_
 rintro e WR2 ⟨a10,c10,rfl,hr,hb⟩
 have hR2:=ζ (show Sy w _ [(b3,#[.slice a3 n3 c3,.bool m3,.slice d3 e3 f3],42),(b5,#[.slice a5 n5 c5,.bool m5,.slice d5 e5 f5],42),(b6,#[.slice a6 n6 c6,.bool m6,.slice d6 e6 f6],42)] [⟨.slice a1 4 c1,83,2,4,L2 slopeL⟩,⟨.slice (some ⟨g2,0,none⟩) 5 5,3,1,5,L1 brk5⟩,⟨.slice a8 4 c8,3,1,4,L1 [-50,-50,100,250]⟩,⟨.slice a10 4 c10,3,1,4,L1 [1100,1250,1400,1400]⟩] [(fun V=>Rd V (.slice a3 n3 c3) m3 (.slice d3 e3 f3) (100)),(fun V=>Rd V (.slice a5 n5 c5) m5 (.slice d5 e5 f5) (25000)),(fun V=>Rd V (.slice a6 n6 c6) m6 (.slice d6 e6 f6) (125000))]from hR1.out.adopt hb hr)
 clear hb hr hR1
 go_wp2_with fail
 refine(w_dig (hR2.out.osx 0 rfl) (hR2.out.osx 1 rfl) (hR2.out.osx 2 rfl)).mono ?_
 rintro e W ⟨a12,n12,c12,m12,d12,e12,f12,rfl,hz,hb⟩
 have hY:=ζ ((hR2.out.call hb).pR rfl rfl hz)
 clear hb hz hR2
 go_upto_region 7 with fail
 have hX:=ζ (show Sy w _ [(b3,#[.slice a3 n3 c3,.bool m3,.slice d3 e3 f3],42),(b5,#[.slice a5 n5 c5,.bool m5,.slice d5 e5 f5],42),(b6,#[.slice a6 n6 c6,.bool m6,.slice d6 e6 f6],42),(W.heap.size,#[.slice a12 n12 c12,.bool m12,.slice d12 e12 f12],42)] [⟨.slice a1 4 c1,83,2,4,L2 slopeL⟩,⟨.slice (some ⟨g2,0,none⟩) 5 5,3,1,5,L1 brk5⟩,⟨.slice a8 4 c8,3,1,4,L1 [-50,-50,100,250]⟩,⟨.slice a10 4 c10,3,1,4,L1 [1100,1250,1400,1400]⟩] [(fun V=>Rd V (.slice a3 n3 c3) m3 (.slice d3 e3 f3) (100)),(fun V=>Rd V (.slice a5 n5 c5) m5 (.slice d5 e5 f5) (25000)),(fun V=>Rd V (.slice a6 n6 c6) m6 (.slice d6 e6 f6) (125000)),(fun V=>Rd V (.slice a12 n12 c12) m12 (.slice d12 e12 f12) (550000))]from hY.out.al W.heap.size #[.slice a12 n12 c12,.bool m12,.slice d12 e12 f12] 42 rfl)
 obtain ⟨b12,eb12⟩:∃b,W.heap.size=b:=⟨_,rfl⟩
 rw [eb12]at hX⊢
 refine wp_geny hX.out ?_
 intro V4 hc
 have hV4:=ζ hc
 clear hc hX eb12
 clear hY
 go_wp2_with fail
 refine(w_best (hV4.out.osx 0 rfl)).mono ?_
 rintro e W ⟨a15,n15,c15,m15,d15,e15,f15,a14,n14,c14,rfl,hz,hr,hb⟩
 have hY:=ζ (((hV4.out.adopt hb hr)).pR rfl rfl hz)
 clear hb hz hr hV4
 go_upto_region 8 with fail
 have hX:=ζ (show Sy w _ [(b3,#[.slice a3 n3 c3,.bool m3,.slice d3 e3 f3],42),(b5,#[.slice a5 n5 c5,.bool m5,.slice d5 e5 f5],42),(b6,#[.slice a6 n6 c6,.bool m6,.slice d6 e6 f6],42),(b12,#[.slice a12 n12 c12,.bool m12,.slice d12 e12 f12],42),(W.heap.size,#[.slice a15 n15 c15,.bool m15,.slice d15 e15 f15],42)] [⟨.slice a1 4 c1,83,2,4,L2 slopeL⟩,⟨.slice (some ⟨g2,0,none⟩) 5 5,3,1,5,L1 brk5⟩,⟨.slice a8 4 c8,3,1,4,L1 [-50,-50,100,250]⟩,⟨.slice a10 4 c10,3,1,4,L1 [1100,1250,1400,1400]⟩,⟨.slice a14 n14 c14,3,1,n14,L1 [0,2000,4000]⟩] [(fun V=>Rd V (.slice a3 n3 c3) m3 (.slice d3 e3 f3) (100)),(fun V=>Rd V (.slice a5 n5 c5) m5 (.slice d5 e5 f5) (25000)),(fun V=>Rd V (.slice a6 n6 c6) m6 (.slice d6 e6 f6) (125000)),(fun V=>Rd V (.slice a12 n12 c12) m12 (.slice d12 e12 f12) (550000)),(fun V=>Rd V (.slice a15 n15 c15) m15 (.slice d15 e15 f15) (600000))]from hY.out.al W.heap.size #[.slice a15 n15 c15,.bool m15,.slice d15 e15 f15] 42 rfl)
 obtain ⟨b15,eb15⟩:∃b,W.heap.size=b:=⟨_,rfl⟩
 rw [eb15]at hX⊢
 refine wp_geny hX.out ?_
 intro V5 hc
 have hV5:=ζ hc
 clear hc hX eb15
 clear hY
 go_wp2_with fail
 refine(w_flood (hV5.out.osx 0 rfl)).mono ?_
 rintro e W7 ⟨rfl,hb⟩
 have hF:=ζ (hV5.out.call hb)
 clear hb hV5
 go_wp2_with fail
 refine(w_rows (hF.out.osx 0 rfl) (hF.out.osx 1 rfl) (hF.out.osx 2 rfl) (hF.out.osx 3 rfl)).mono ?_
 rintro e W8 ⟨a19,c19,rfl,hb⟩
 have hG:=ζ (hF.out.call hb)
 clear hb hF
 have k0:W8.cell? ⟨b3,0,none⟩=some (.slice a3 n3 c3):=hG.out.c 0 0
 have k1:W8.cell? ⟨b3,1,none⟩=some (.bool m3):=hG.out.c 0 1
 have k2:W8.cell? ⟨b3,2,none⟩=some (.slice d3 e3 f3):=hG.out.c 0 2
 go_wp2_with fail
 refine(tx_100 (hG.out.r 0 rfl)).mono ?_
 rintro e X1 ⟨rfl,hb⟩
 have hX1:=ζ (hG.out.call hb)
 clear hb hG k0 k1 k2
 have k0:X1.cell? ⟨b5,0,none⟩=some (.slice a5 n5 c5):=hX1.out.c 1 0
 have k1:X1.cell? ⟨b5,1,none⟩=some (.bool m5):=hX1.out.c 1 1
 have k2:X1.cell? ⟨b5,2,none⟩=some (.slice d5 e5 f5):=hX1.out.c 1 2
 go_wp2_with fail
 refine(tx_25000 (hX1.out.r 1 rfl)).mono ?_
 rintro e X2 ⟨rfl,hb⟩
 have hX2:=ζ (hX1.out.call hb)
 clear hb hX1 k0 k1 k2
 have k0:X2.cell? ⟨b6,0,none⟩=some (.slice a6 n6 c6):=hX2.out.c 2 0
 have k1:X2.cell? ⟨b6,1,none⟩=some (.bool m6):=hX2.out.c 2 1
 have k2:X2.cell? ⟨b6,2,none⟩=some (.slice d6 e6 f6):=hX2.out.c 2 2
 go_wp2_with fail
 refine(tx_125000 (hX2.out.r 2 rfl)).mono ?_
 rintro e X3 ⟨rfl,hb⟩
 have hX3:=ζ (hX2.out.call hb)
 clear hb hX2 k0 k1 k2
 have hN:=ζ (show Sy w _ [(b3,#[.slice a3 n3 c3,.bool m3,.slice d3 e3 f3],42),(b5,#[.slice a5 n5 c5,.bool m5,.slice d5 e5 f5],42),(b6,#[.slice a6 n6 c6,.bool m6,.slice d6 e6 f6],42),(b12,#[.slice a12 n12 c12,.bool m12,.slice d12 e12 f12],42),(b15,#[.slice a15 n15 c15,.bool m15,.slice d15 e15 f15],42)] [⟨.slice a1 4 c1,83,2,4,L2 slopeL⟩,⟨.slice (some ⟨g2,0,none⟩) 5 5,3,1,5,L1 brk5⟩,⟨.slice a8 4 c8,3,1,4,L1 [-50,-50,100,250]⟩,⟨.slice a10 4 c10,3,1,4,L1 [1100,1250,1400,1400]⟩,⟨.slice a14 n14 c14,3,1,n14,L1 [0,2000,4000]⟩,⟨.slice (some ⟨X3.heap.size,0,none⟩) 4 4,3,1,4,L1 [-50,-50,100,250]⟩] [(fun V=>Rd V (.slice a3 n3 c3) m3 (.slice d3 e3 f3) (100)),(fun V=>Rd V (.slice a5 n5 c5) m5 (.slice d5 e5 f5) (25000)),(fun V=>Rd V (.slice a6 n6 c6) m6 (.slice d6 e6 f6) (125000)),(fun V=>Rd V (.slice a12 n12 c12) m12 (.slice d12 e12 f12) (550000)),(fun V=>Rd V (.slice a15 n15 c15) m15 (.slice d15 e15 f15) (600000))]from hX3.out.onew X3.heap.size #[.int .i64 (-50),.int .i64 (-50),.int .i64 100,.int .i64 250] 3 1 4 rfl (by omega) rfl)
 go_wp2_with fail
 refine(ints_any _ _ _ _ _ _ _ _ _ (hN.out.osx 2 rfl) (hN.out.osx 5 rfl)).mono ?_
 rintro e X4 ⟨rfl,hb⟩
 have hX4:=ζ (show Sy w _ [(b3,#[.slice a3 n3 c3,.bool m3,.slice d3 e3 f3],42),(b5,#[.slice a5 n5 c5,.bool m5,.slice d5 e5 f5],42),(b6,#[.slice a6 n6 c6,.bool m6,.slice d6 e6 f6],42),(b12,#[.slice a12 n12 c12,.bool m12,.slice d12 e12 f12],42),(b15,#[.slice a15 n15 c15,.bool m15,.slice d15 e15 f15],42)] [⟨.slice a1 4 c1,83,2,4,L2 slopeL⟩,⟨.slice (some ⟨g2,0,none⟩) 5 5,3,1,5,L1 brk5⟩,⟨.slice a8 4 c8,3,1,4,L1 [-50,-50,100,250]⟩,⟨.slice a10 4 c10,3,1,4,L1 [1100,1250,1400,1400]⟩,⟨.slice a14 n14 c14,3,1,n14,L1 [0,2000,4000]⟩] [(fun V=>Rd V (.slice a3 n3 c3) m3 (.slice d3 e3 f3) (100)),(fun V=>Rd V (.slice a5 n5 c5) m5 (.slice d5 e5 f5) (25000)),(fun V=>Rd V (.slice a6 n6 c6) m6 (.slice d6 e6 f6) (125000)),(fun V=>Rd V (.slice a12 n12 c12) m12 (.slice d12 e12 f12) (550000)),(fun V=>Rd V (.slice a15 n15 c15) m15 (.slice d15 e15 f15) (600000))]from(hN.out.call hb).thin (List.Sublist.refl _) (sub_take 5 _ rfl))
 clear hb hN hX3
 rw [show decide (([-50,-50,100,250]:List Int)= [-50,-50,100,250])=true by decide]
 have hN:=ζ (show Sy w _ [(b3,#[.slice a3 n3 c3,.bool m3,.slice d3 e3 f3],42),(b5,#[.slice a5 n5 c5,.bool m5,.slice d5 e5 f5],42),(b6,#[.slice a6 n6 c6,.bool m6,.slice d6 e6 f6],42),(b12,#[.slice a12 n12 c12,.bool m12,.slice d12 e12 f12],42),(b15,#[.slice a15 n15 c15,.bool m15,.slice d15 e15 f15],42)] [⟨.slice a1 4 c1,83,2,4,L2 slopeL⟩,⟨.slice (some ⟨g2,0,none⟩) 5 5,3,1,5,L1 brk5⟩,⟨.slice a8 4 c8,3,1,4,L1 [-50,-50,100,250]⟩,⟨.slice a10 4 c10,3,1,4,L1 [1100,1250,1400,1400]⟩,⟨.slice a14 n14 c14,3,1,n14,L1 [0,2000,4000]⟩,⟨.slice (some ⟨X4.heap.size,0,none⟩) 4 4,3,1,4,L1 [1100,1250,1400,1400]⟩] [(fun V=>Rd V (.slice a3 n3 c3) m3 (.slice d3 e3 f3) (100)),(fun V=>Rd V (.slice a5 n5 c5) m5 (.slice d5 e5 f5) (25000)),(fun V=>Rd V (.slice a6 n6 c6) m6 (.slice d6 e6 f6) (125000)),(fun V=>Rd V (.slice a12 n12 c12) m12 (.slice d12 e12 f12) (550000)),(fun V=>Rd V (.slice a15 n15 c15) m15 (.slice d15 e15 f15) (600000))]from hX4.out.onew X4.heap.size #[.int .i64 1100,.int .i64 1250,.int .i64 1400,.int .i64 1400] 3 1 4 rfl (by omega) rfl)
 go_wp2_with fail
 refine(ints_any _ _ _ _ _ _ _ _ _ (hN.out.osx 3 rfl) (hN.out.osx 5 rfl)).mono ?_
 rintro e X5 ⟨rfl,hb⟩
 have hX5:=ζ (show Sy w _ [(b3,#[.slice a3 n3 c3,.bool m3,.slice d3 e3 f3],42),(b5,#[.slice a5 n5 c5,.bool m5,.slice d5 e5 f5],42),(b6,#[.slice a6 n6 c6,.bool m6,.slice d6 e6 f6],42),(b12,#[.slice a12 n12 c12,.bool m12,.slice d12 e12 f12],42),(b15,#[.slice a15 n15 c15,.bool m15,.slice d15 e15 f15],42)] [⟨.slice a1 4 c1,83,2,4,L2 slopeL⟩,⟨.slice (some ⟨g2,0,none⟩) 5 5,3,1,5,L1 brk5⟩,⟨.slice a8 4 c8,3,1,4,L1 [-50,-50,100,250]⟩,⟨.slice a10 4 c10,3,1,4,L1 [1100,1250,1400,1400]⟩,⟨.slice a14 n14 c14,3,1,n14,L1 [0,2000,4000]⟩] [(fun V=>Rd V (.slice a3 n3 c3) m3 (.slice d3 e3 f3) (100)),(fun V=>Rd V (.slice a5 n5 c5) m5 (.slice d5 e5 f5) (25000)),(fun V=>Rd V (.slice a6 n6 c6) m6 (.slice d6 e6 f6) (125000)),(fun V=>Rd V (.slice a12 n12 c12) m12 (.slice d12 e12 f12) (550000)),(fun V=>Rd V (.slice a15 n15 c15) m15 (.slice d15 e15 f15) (600000))]from(hN.out.call hb).thin (List.Sublist.refl _) (sub_take 5 _ rfl))
 clear hb hN hX4
 rw [show decide (([1100,1250,1400,1400]:List Int)= [1100,1250,1400,1400])=true by decide]
 have k0:X5.cell? ⟨b12,0,none⟩=some (.slice a12 n12 c12):=hX5.out.c 3 0
 have k1:X5.cell? ⟨b12,1,none⟩=some (.bool m12):=hX5.out.c 3 1
 have k2:X5.cell? ⟨b12,2,none⟩=some (.slice d12 e12 f12):=hX5.out.c 3 2
 go_wp2_with fail
 refine(tx_550000 (hX5.out.r 3 rfl)).mono ?_
 rintro e X6 ⟨rfl,hb⟩
 have hX6:=ζ (hX5.out.call hb)
 clear hb hX5 k0 k1 k2
 have hN:=ζ (show Sy w _ [(b3,#[.slice a3 n3 c3,.bool m3,.slice d3 e3 f3],42),(b5,#[.slice a5 n5 c5,.bool m5,.slice d5 e5 f5],42),(b6,#[.slice a6 n6 c6,.bool m6,.slice d6 e6 f6],42),(b12,#[.slice a12 n12 c12,.bool m12,.slice d12 e12 f12],42),(b15,#[.slice a15 n15 c15,.bool m15,.slice d15 e15 f15],42)] [⟨.slice a1 4 c1,83,2,4,L2 slopeL⟩,⟨.slice (some ⟨g2,0,none⟩) 5 5,3,1,5,L1 brk5⟩,⟨.slice a8 4 c8,3,1,4,L1 [-50,-50,100,250]⟩,⟨.slice a10 4 c10,3,1,4,L1 [1100,1250,1400,1400]⟩,⟨.slice a14 n14 c14,3,1,n14,L1 [0,2000,4000]⟩,⟨.slice (some ⟨X6.heap.size,0,none⟩) 3 3,3,1,3,L1 [0,2000,4000]⟩] [(fun V=>Rd V (.slice a3 n3 c3) m3 (.slice d3 e3 f3) (100)),(fun V=>Rd V (.slice a5 n5 c5) m5 (.slice d5 e5 f5) (25000)),(fun V=>Rd V (.slice a6 n6 c6) m6 (.slice d6 e6 f6) (125000)),(fun V=>Rd V (.slice a12 n12 c12) m12 (.slice d12 e12 f12) (550000)),(fun V=>Rd V (.slice a15 n15 c15) m15 (.slice d15 e15 f15) (600000))]from hX6.out.onew X6.heap.size #[.int .i64 0,.int .i64 2000,.int .i64 4000] 3 1 3 rfl (by omega) rfl)
 go_wp2_with fail
 refine(ints_any _ _ _ _ _ _ _ _ _ (hN.out.osx 4 rfl) (hN.out.osx 5 rfl)).mono ?_
 rintro e X7 ⟨rfl,hb⟩
 have hX7:=ζ (show Sy w _ [(b3,#[.slice a3 n3 c3,.bool m3,.slice d3 e3 f3],42),(b5,#[.slice a5 n5 c5,.bool m5,.slice d5 e5 f5],42),(b6,#[.slice a6 n6 c6,.bool m6,.slice d6 e6 f6],42),(b12,#[.slice a12 n12 c12,.bool m12,.slice d12 e12 f12],42),(b15,#[.slice a15 n15 c15,.bool m15,.slice d15 e15 f15],42)] [⟨.slice a1 4 c1,83,2,4,L2 slopeL⟩,⟨.slice (some ⟨g2,0,none⟩) 5 5,3,1,5,L1 brk5⟩,⟨.slice a8 4 c8,3,1,4,L1 [-50,-50,100,250]⟩,⟨.slice a10 4 c10,3,1,4,L1 [1100,1250,1400,1400]⟩,⟨.slice a14 n14 c14,3,1,n14,L1 [0,2000,4000]⟩] [(fun V=>Rd V (.slice a3 n3 c3) m3 (.slice d3 e3 f3) (100)),(fun V=>Rd V (.slice a5 n5 c5) m5 (.slice d5 e5 f5) (25000)),(fun V=>Rd V (.slice a6 n6 c6) m6 (.slice d6 e6 f6) (125000)),(fun V=>Rd V (.slice a12 n12 c12) m12 (.slice d12 e12 f12) (550000)),(fun V=>Rd V (.slice a15 n15 c15) m15 (.slice d15 e15 f15) (600000))]from(hN.out.call hb).thin (List.Sublist.refl _) (sub_take 5 _ rfl))
 clear hb hN hX6
 rw [show decide (([0,2000,4000]:List Int)= [0,2000,4000])=true by decide]
 have k0:X7.cell? ⟨b15,0,none⟩=some (.slice a15 n15 c15):=hX7.out.c 4 0
 have k1:X7.cell? ⟨b15,1,none⟩=some (.bool m15):=hX7.out.c 4 1
 have k2:X7.cell? ⟨b15,2,none⟩=some (.slice d15 e15 f15):=hX7.out.c 4 2
 go_wp2_with fail
 refine(tx_600000 (hX7.out.r 4 rfl)).mono ?_
 rintro e X8 ⟨rfl,hb⟩
 have hX8:=ζ (hX7.out.call hb)
 clear hb hX7 k0 k1 k2
 go_wp2
 go_ret
 exact⟨rfl,hX8.out.be⟩
end
end Go.Proofs.YthmdhlopeponcaaGreatDoor
