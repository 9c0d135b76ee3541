/- part -/
import Derived.Test.YtjpojeapdgjbhaaGreatDoorJ36
import Derived.Test.YtjpojeapdgjbhaaGreatDoorJ35
import Derived.Test.YtjpojeapdgjbhaaGreatDoorJ9
set_option maxRecDepth 100000
set_option maxHeartbeats 8000000
namespace Go.Proofs.YtjpojeapdgjbhaaGreatDoor
open Go.RowKit Dig
section
open Go.RowKit Go.Shelf Dig
def slopeL:List Pt:=[(0,0),(1000,0),(3000,400),(4000,400)]
theorem sl_prof:profB slopeL=true:=by decide+kernel
theorem sl_g:grd slopeL 1500=100:=by decide+kernel
theorem tx_100 {w:World} {a1:OA} {n1 c1:Nat} {m1:Bool} {d1:OA} {e1 f1:Nat} (h1:Rd w (.slice a1 n1 c1) m1 (.slice d1 e1 f1) 100):Calls Tryz.prog 28 #[.agg #[.slice a1 n1 c1,.bool m1,.slice d1 e1 f1]] w (Gives (.string ⟨#[49,48,48]⟩) w):=by
 have:=rtext_one _ _ _ _ _ _ _ _ _ h1 41 ⟨by unfold Bd;decide+kernel,by unfold Bd;decide+kernel⟩ (by omega) (by decide+kernel);rw [show rtext 100= [49,48,48]by decide+kernel]at this;exact this
theorem B100:Bq 41 (100:Rat):=⟨by unfold Bd;decide+kernel,by unfold Bd;decide+kernel⟩
section
variable (w:World)
theorem slope_any:Calls Tryz.prog 27 #[] w (RetRow w 47 2 4 (L2 slopeL)):=by
 go_enter Tryz.func27,Tryz.ntmps27;go_wp2;go_ret;have hC:=(Sy.enter w).onew w.heap.size #[.int .i64 0,.int .i64 0,.int .i64 1000,.int .i64 0,.int .i64 3000,.int .i64 400,.int .i64 4000,.int .i64 400] 47 2 4 rfl (by omega) rfl;exact⟨_,_,rfl,hC.orow 0 rfl,hC.be⟩
theorem w_ground {sa:OA} {sc:Nat} (hs:Sx 2 w sa 4 sc (L2 slopeL)):Calls Tryz.prog 15 #[.slice sa 4 sc,.int .i64 1500] w (RetRE w 100 0):=by
 have:=hground_ok w sa 4 sc slopeL 1500 hs sl_prof (by decide+kernel);rwa [sl_g]at this
theorem w_height {sa:OA} {sc:Nat} (hs:Sx 2 w sa 4 sc (L2 slopeL)) (a1:OA) (n1 c1:Nat) (m1:Bool) (d1:OA) (e1 f1:Nat) (hx:Rd w (.slice a1 n1 c1) m1 (.slice d1 e1 f1) (((1500:Int):Rat))):Calls Tryz.prog 16 #[.agg #[.slice sa 4 sc,.slice none 0 0],.int .u8 1,.agg #[.slice a1 n1 c1,.bool m1,.slice d1 e1 f1]] w (RetH w 100):=by
 have:=callsIn_wide.1 (pheight_in w 6 (by omega) sa 4 sc slopeL 1500 a1 n1 c1 m1 d1 e1 f1 sl_prof (prof_iff.1 sl_prof) hs hx (by decide+kernel) (by decide+kernel));rwa [sl_g]at this
theorem wakes08t:Calls Tryz.prog 8 #[] w (Gives (.bool true) w):=by
 go_enter Tryz.func8,Tryz.ntmps8;go_wp2_with fail
 refine(slope_any _).mono ?_;rintro e W1 ⟨a1,c1,rfl,hr,hb⟩;have hA:=ζ ((Sy.enter w).adopt hb hr);clear hb hr;go_wp2_with fail
 refine(w_ground _ (hA.out.osx 0 rfl)).mono ?_;rintro e W ⟨a3,n3,c3,m3,d3,e3,f3,rfl,hz,hb⟩;have hY:=ζ ((hA.out.call hb).pR rfl rfl hz);clear hb hz hA;go_upto_region 2 with fail
 have hX:=ζ (show Sy w _ [(W.heap.size,#[.slice a3 n3 c3,.bool m3,.slice d3 e3 f3],72)] [⟨.slice a1 4 c1,47,2,4,L2 slopeL⟩] [(fun V=>Rd V (.slice a3 n3 c3) m3 (.slice d3 e3 f3) (100))]from hY.out.al W.heap.size #[.slice a3 n3 c3,.bool m3,.slice d3 e3 f3] 72 rfl);obtain ⟨b3,eb3⟩:∃b,W.heap.size=b:=⟨_,rfl⟩
 rw [eb3]at hX⊢;refine wp_geny hX.out ?_;intro V2 hc;have hB:=ζ hc;clear hc hX eb3;clear hY;go_wp2_with fail
 refine(slope_any _).mono ?_;rintro e W2 ⟨a4,c4,rfl,hr,hb⟩;have hC:=ζ (hB.out.adopt hb hr);clear hb hr hB;go_wp2_with fail
 refine(of_any 1500 (by omega) _).mono ?_;rintro e W3 ⟨a5,n5,c5,m5,d5,e5,f5,rfl,hz,hb⟩;have hD:=ζ ((hC.out.call hb).pR rfl rfl hz);clear hb hz hC;go_wp2_with fail
 refine(w_height _ (hD.out.osx 1 rfl) _ _ _ _ _ _ _ (hD.out.r 1 rfl)).mono ?_;rintro e W ⟨a6,n6,c6,m6,d6,e6,f6,rfl,hz,hb⟩;have hY:=ζ ((hD.out.call hb).pR rfl rfl hz);clear hb hz hD;go_upto_region 3 with fail
 have hX:=ζ (show Sy w _ [(b3,#[.slice a3 n3 c3,.bool m3,.slice d3 e3 f3],72),(W.heap.size,#[.slice a6 n6 c6,.bool m6,.slice d6 e6 f6],72)] [⟨.slice a1 4 c1,47,2,4,L2 slopeL⟩,⟨.slice a4 4 c4,47,2,4,L2 slopeL⟩] [(fun V=>Rd V (.slice a3 n3 c3) m3 (.slice d3 e3 f3) (100)),(fun V=>Rd V (.slice a5 n5 c5) m5 (.slice d5 e5 f5) (((1500:Int):Rat))),(fun V=>Rd V (.slice a6 n6 c6) m6 (.slice d6 e6 f6) (100))]from hY.out.al W.heap.size #[.slice a6 n6 c6,.bool m6,.slice d6 e6 f6] 72 rfl);obtain ⟨b6,eb6⟩:∃b,W.heap.size=b:=⟨_,rfl⟩
 rw [eb6]at hX⊢;refine wp_geny hX.out ?_;intro V3 hc;have hE:=ζ hc;clear hc hX eb6;clear hY;have AA:=hE.out.c 0 0;have AB:=hE.out.c 0 1;have AC:=hE.out.c 0 2;have AD:=hE.out.c 1 0;have AE:=hE.out.c 1 1;have AF:=hE.out.c 1 2;go_wp2_with fail
 refine(hcmp_is (v:=0) (hE.out.r 0 rfl) (hE.out.r 2 rfl) B100 B100 (by omega) (by omega) (by decide+kernel)).mono ?_;rintro e W4 ⟨rfl,hb⟩;have hF:=ζ (hE.out.call hb);clear hb hE AA AB AC AD AE AF;have AA:=hF.out.c 0 0;have AB:=hF.out.c 0 1;have AC:=hF.out.c 0 2;go_wp2_with fail
 refine(tx_100 (hF.out.r 0 rfl)).mono ?_;rintro e W5 ⟨rfl,hb⟩;have hG:=ζ (hF.out.call hb);clear hb hF AA AB AC;go_wp2;go_ret;exact⟨rfl,hG.out.be⟩
end
end
end Go.Proofs.YtjpojeapdgjbhaaGreatDoor
