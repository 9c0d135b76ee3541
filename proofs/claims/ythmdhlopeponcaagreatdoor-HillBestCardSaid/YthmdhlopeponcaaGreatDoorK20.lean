/- part -/
import Derived.Test.YthmdhlopeponcaaGreatDoorK19
set_option maxRecDepth 100000
set_option maxHeartbeats 8000000
namespace Go.Proofs.YthmdhlopeponcaaGreatDoor
open Go.RowKit Go.Shelf Dig
def strB (l:List Pt) (a b:Int):Bool:=hasB l a && hasB l b && decide (a < b)
def strErr (l:List Pt) (a b:Int):Int:=if profB l=true then(if strB l a b=true then 0 else 11)else 2
theorem strErr_bad {l:List Pt} {a b:Int} (h:profB l=false):strErr l a b=2:=by unfold strErr;rw [h];rfl
theorem strErr_no {l:List Pt} {a b:Int} (h:profB l=true) (h2:strB l a b=false):strErr l a b=11:=by unfold strErr;rw [if_pos h,h2];rfl
theorem strErr_ok {l:List Pt} {a b:Int} (h:profB l=true) (h2:strB l a b=true):strErr l a b=0:=by unfold strErr;rw [if_pos h,if_pos h2]
theorem strErr_zero {l:List Pt} {a b:Int} (h:strErr l a b=0):Strt l a b:=by
 unfold strErr at h
 split at h
 ·rename_i h1
  split at h
  ·rename_i h2;unfold strB at h2;simp only [Bool.and_eq_true,decide_eq_true_eq]at h2;exact⟨prof_iff.1 h1,(inB_iff.1 h2.1.1).1,h2.2,(inB_iff.1 h2.1.2).2⟩
  ·cases h
 ·cases h
def RetRRE (w:World) (p q:Rat) (k:Int) (e:Ending) (w':World):Prop:=∃ (a5:OA) (n5 c5:Nat) (m5:Bool) (d5:OA) (e5 f5:Nat) (a6:OA) (n6 c6:Nat) (m6:Bool) (d6:OA) (e6 f6:Nat),e= .returned (.tuple #[.agg #[.slice a5 n5 c5,.bool m5,.slice d5 e5 f5],.agg #[.slice a6 n6 c6,.bool m6,.slice d6 e6 f6],.int .i64 k])/\Rd w' (.slice a5 n5 c5) m5 (.slice d5 e5 f5) (p)/\Rd w' (.slice a6 n6 c6) m6 (.slice d6 e6 f6) (q)/\Below w.heap.size w w'
section
variable (w:World)
theorem hground_ok (sa:OA) (sn sc:Nat) (l:List Pt) (x:Int) (hs:Sx 2 w sa sn sc (L2 l)) (hb:profB l=true) (hx:hasB l x=true):Calls Tryz.prog 42 #[.slice sa sn sc,.int .i64 x] w (RetRE w (grd l x) 0):=by
 have hC:=ζ ((Sy.enter w).al w.heap.size zR 42 rfl);have HK:=ζ (fun W (hW:Below w.heap.size w W)=>hcheck_any W sa sn sc l (hs.below hW));have HH:=ζ (fun W (hW:Below w.heap.size w W)=>has_any W sa sn sc l x (hs.below hW) (by have:=hs.n2;have:=(prof_iff.1 hb).two;omega));rw [profErr_yes hb]at HK;have HG:=ζ (fun W (hW:Below w.heap.size w W)=>ground_any W sa sn sc l x (hs.below hW) (prof_iff.1 hb) (inB_iff.1 hx).1 (inB_iff.1 hx).2);rw [hx]at HH;clear hb hs hx;go_enter Tryz.func42,Tryz.ntmps42;go_wp2_with fail
 refine(HK.out _ hC.out.be).mono ?_;rintro e w1 ⟨rfl,hb⟩;have hD:=ζ (hC.out.call hb);clear hb hC;go_wp2_with fail
 refine(HH.out _ hD.out.be).mono ?_;rintro e w2 ⟨rfl,hb⟩;have hE:=ζ (hD.out.call hb);clear hb hD;go_wp2_with fail
 refine(HG.out _ hE.out.be).mono ?_;rintro e w3 ⟨a3,n3,c3,m3,d3,e3,f3,rfl,hz,hb⟩;have hG:=ζ ((hE.out.call hb).pR rfl rfl hz);clear hb hE hz;have AG:=hG.out.c 0 0;have AA:=hG.out.f 0 0;have AH:=hG.out.c 0 1;have AB:=hG.out.f 0 1;have AI:=hG.out.c 0 2;have AC:=hG.out.f 0 2;go_wp2;have hZ:=ζ (hG.out|>.set (j:=0) (v:= .slice a3 n3 c3) 0 rfl|>.set (j:=1) (v:= .bool m3) 0 rfl|>.set (j:=2) (v:= .slice d3 e3 f3) 0 rfl);clear hG;refine ret_sy hZ.out (v:= .tuple #[.agg #[.slice a3 n3 c3,.bool m3,.slice d3 e3 f3],.int .i64 0]) (fun hF=>?_) rfl (fun hF=>⟨_,_,_,_,_,_,_,rfl,hF.r 0 rfl,hF.be⟩);have g0_0:=hF.c 0 0;have g0_1:=hF.c 0 1;have g0_2:=hF.c 0 2;simp [results,Tryz.results42,go_sem,g0_0,g0_1,g0_2]
theorem mW8_1 {P_:Prop} (h:P_:=by
 have g0:=hF.c 0 0;have g1:=hF.c 0 1;have g2:=hF.c 0 2;simp [results,Tryz.results74,go_sem,g0,g1,g2]):P_:=h
theorem mW8_0 {P_:Prop} (h:P_:=by
 rw [HE.out];clear h1 h2 HE HY HN HS;go_enter Tryz.func74,Tryz.ntmps74;go_wp2_with fail
 refine(HK.out _ hC.out.be).mono ?_;rintro e w1 ⟨rfl,hb⟩;have hD:=ζ (hC.out.call hb);clear hb hC;have y1_0:=hD.out.c 1 0;go_wp2_with fail
 refine(HA.out _ hD.out.be).mono ?_;rintro e w2 ⟨rfl,hb⟩;have hE:=ζ (hD.out.call hb);clear hb hD y1_0;have y1_0:=hE.out.c 1 0;go_wp2_with fail
 refine(HB.out _ hE.out.be).mono ?_;rintro e w3 ⟨rfl,hb⟩;have hG:=ζ (hE.out.call hb);clear hb hE y1_0;have AG:=hG.out.c 0 0;have AA:=hG.out.f 0 0;have AH:=hG.out.c 0 1;have AB:=hG.out.f 0 1;have AI:=hG.out.c 0 2;have AC:=hG.out.f 0 2;have AJ:=hG.out.c 1 0;have AD:=hG.out.f 1 0;have AK:=hG.out.c 1 1;have AE:=hG.out.f 1 1;have AL:=hG.out.c 1 2;have AF:=hG.out.f 1 2;go_wp2;refine ret_sy (hG.out|>.set (j:=0) (v:= .slice sa sn sc) 0 rfl|>.set (j:=1) (v:= .int .i64 a) 0 rfl|>.set (j:=2) (v:= .int .i64 b) 0 rfl) (v:= .tuple #[.agg #[.slice sa sn sc,.int .i64 a,.int .i64 b],.int .i64 11]) (fun hF=>?_) rfl (fun hF=>⟨rfl,hF.be⟩);exact mW8_1):P_:=h
theorem hstretched_any (sa:OA) (sn sc:Nat) (l:List Pt) (a b:Int) (hs:Sx 2 w sa sn sc (L2 l)):Calls Tryz.prog 74 #[.slice sa sn sc,.int .i64 a,.int .i64 b] w (Gives (.tuple #[.agg #[.slice sa sn sc,.int .i64 a,.int .i64 b],.int .i64 (strErr l a b)]) w):=by
 have HK:=ζ (fun W (hW:Below w.heap.size w W)=>hcheck_any W sa sn sc l (hs.below hW));have hC:=ζ (((Sy.enter w).al w.heap.size #[.slice none 0 0,.int .i64 0,.int .i64 0] 120 rfl).al (w.heap.size+1) #[.slice sa sn sc,.int .i64 a,.int .i64 b] 120 (by simp));cases hb:profB l
 ·have HE:=ζ (strErr_bad (a:=a) (b:=b) hb);rw [profErr_no hb]at HK;rw [HE.out];clear hb hs HE;go_enter Tryz.func74,Tryz.ntmps74;go_wp2_with fail
  refine(HK.out _ hC.out.be).mono ?_;rintro e w1 ⟨rfl,hb⟩;have hD:=ζ (hC.out.call hb);clear hb hC;have AG:=hD.out.c 0 0;have AA:=hD.out.f 0 0;have AH:=hD.out.c 0 1;have AB:=hD.out.f 0 1;have AI:=hD.out.c 0 2;have AC:=hD.out.f 0 2;have AJ:=hD.out.c 1 0;have AD:=hD.out.f 1 0;have AK:=hD.out.c 1 1;have AE:=hD.out.f 1 1;have AL:=hD.out.c 1 2;have AF:=hD.out.f 1 2;go_wp2;refine ret_sy (hD.out|>.set (j:=0) (v:= .slice sa sn sc) 0 rfl|>.set (j:=1) (v:= .int .i64 a) 0 rfl|>.set (j:=2) (v:= .int .i64 b) 0 rfl) (v:= .tuple #[.agg #[.slice sa sn sc,.int .i64 a,.int .i64 b],.int .i64 2]) (fun hF=>?_) rfl (fun hF=>⟨rfl,hF.be⟩);exact mW8_1
 ·have h0:0 < sn:=by have:=hs.n2;have:=(prof_iff.1 hb).two;omega
  have HA:=ζ (fun W (hW:Below w.heap.size w W)=>has_any W sa sn sc l a (hs.below hW) h0);have HB:=ζ (fun W (hW:Below w.heap.size w W)=>has_any W sa sn sc l b (hs.below hW) h0);have HY:=ζ (strErr_ok (a:=a) (b:=b) hb);have HN:=ζ (strErr_no (a:=a) (b:=b) hb);rw [profErr_yes hb]at HK;have HS:=ζ (show strB l a b=(hasB l a && hasB l b && decide (a < b))from rfl);clear hb hs h0;generalize strErr l a b=er at*;generalize strB l a b=sb at*;cases h1:hasB l a
  ·rw [h1]at HA HS;have HE:=ζ (HN.out (by rw [HS.out];rfl));rw [HE.out];clear h1 HE HY HN HS HB;go_enter Tryz.func74,Tryz.ntmps74;go_wp2_with fail
   refine(HK.out _ hC.out.be).mono ?_;rintro e w1 ⟨rfl,hb⟩;have hD:=ζ (hC.out.call hb);clear hb hC;have y1_0:=hD.out.c 1 0;go_wp2_with fail
   refine(HA.out _ hD.out.be).mono ?_;rintro e w2 ⟨rfl,hb⟩;have hE:=ζ (hD.out.call hb);clear hb hD y1_0;have AG:=hE.out.c 0 0;have AA:=hE.out.f 0 0;have AH:=hE.out.c 0 1;have AB:=hE.out.f 0 1;have AI:=hE.out.c 0 2;have AC:=hE.out.f 0 2;have AJ:=hE.out.c 1 0;have AD:=hE.out.f 1 0;have AK:=hE.out.c 1 1;have AE:=hE.out.f 1 1;have AL:=hE.out.c 1 2;have AF:=hE.out.f 1 2;go_wp2;refine ret_sy (hE.out|>.set (j:=0) (v:= .slice sa sn sc) 0 rfl|>.set (j:=1) (v:= .int .i64 a) 0 rfl|>.set (j:=2) (v:= .int .i64 b) 0 rfl) (v:= .tuple #[.agg #[.slice sa sn sc,.int .i64 a,.int .i64 b],.int .i64 11]) (fun hF=>?_) rfl (fun hF=>⟨rfl,hF.be⟩);exact mW8_1
  ·rw [h1]at HA HS;cases h2:hasB l b
   ·rw [h2]at HB HS;have HE:=ζ (HN.out (by rw [HS.out];rfl));exact mW8_0
   ·rw [h2]at HB HS;by_cases h3:a < b
    ·have HE:=ζ (HY.out (by rw [HS.out,decide_eq_true h3];rfl));rw [HE.out];clear h1 h2 HE HY HN HS;go_enter Tryz.func74,Tryz.ntmps74;go_wp2_with fail
     refine(HK.out _ hC.out.be).mono ?_;rintro e w1 ⟨rfl,hb⟩;have hD:=ζ (hC.out.call hb);clear hb hC;have y1_0:=hD.out.c 1 0;go_wp2_with fail
     refine(HA.out _ hD.out.be).mono ?_;rintro e w2 ⟨rfl,hb⟩;have hE:=ζ (hD.out.call hb);clear hb hD y1_0;have y1_0:=hE.out.c 1 0;go_wp2_with fail
     refine(HB.out _ hE.out.be).mono ?_;rintro e w3 ⟨rfl,hb⟩;have hG:=ζ (hE.out.call hb);clear hb hE y1_0;have AG:=hG.out.c 0 0;have AA:=hG.out.f 0 0;have AH:=hG.out.c 0 1;have AB:=hG.out.f 0 1;have AI:=hG.out.c 0 2;have AC:=hG.out.f 0 2;have AJ:=hG.out.c 1 0;have AD:=hG.out.f 1 0;have AK:=hG.out.c 1 1;have AE:=hG.out.f 1 1;have AL:=hG.out.c 1 2;have AF:=hG.out.f 1 2;go_wp2;refine ret_sy (hG.out|>.set (j:=0) (v:= .slice sa sn sc) 0 rfl|>.set (j:=1) (v:= .int .i64 a) 0 rfl|>.set (j:=2) (v:= .int .i64 b) 0 rfl) (v:= .tuple #[.agg #[.slice sa sn sc,.int .i64 a,.int .i64 b],.int .i64 0]) (fun hF=>?_) rfl (fun hF=>⟨rfl,hF.be⟩);exact mW8_1
    ·have HE:=ζ (HN.out (by rw [HS.out,decide_eq_false h3];rfl));exact mW8_0
end
section
variable (w:World)
theorem hAreas_ok (sa:OA) (sn sc:Nat) (l:List Pt) (a b:Int) (hs:Sx 2 w sa sn sc (L2 l)) (z:Int) (he:strErr l a b=0) (hz:inB z (-100000) 100000=true):Calls Tryz.prog 39 #[.slice sa sn sc,.int .i64 a,.int .i64 b,.int .i64 z] w (RetRRE w (above l a b z) (below l a b z) 0):=by
 have HK:=ζ (fun W (hW:Below w.heap.size w W)=>hstretched_any W sa sn sc l a b (hs.below hW));rw [he]at HK;have hzz:InZ z:=by have:=inB_iff.1 hz;unfold InZ;omega
 have HA:=ζ (fun W (hW:Below w.heap.size w W)=>above_any W sa sn sc l a b z (strErr_zero he) hzz (hs.below hW));have HB:=ζ (fun W (hW:Below w.heap.size w W)=>below_any W sa sn sc l a b z (strErr_zero he) hzz (hs.below hW));have hC:=ζ (((Sy.enter w).al w.heap.size zR 42 rfl).al (w.heap.size+1) zR 42 (by simp));clear he hs hzz;generalize above l a b z=ab at*;generalize below l a b z=be at*;go_enter Tryz.func39,Tryz.ntmps39;go_wp2_with fail
 refine(HK.out _ hC.out.be).mono ?_;rintro e w1 ⟨rfl,hb⟩;have hD:=ζ (hC.out.call hb);clear hb hC;have hE:=ζ (hD.out.al w1.heap.size #[.slice sa sn sc,.int .i64 a,.int .i64 b] 120 rfl);go_upto_region 6 with ((with_reducible refine(hwithin_any _ _ _ _).mono ?_);rintro e w2 ⟨rfl,rfl⟩)
 refine wp_geny hE.out ?_;intro V1 hc;obtain ⟨b2,hb2⟩:∃b2,w1.heap.size=b2:=⟨_,rfl⟩
 rw [hb2]at hc⊢;obtain ⟨b1,hb1⟩:∃b1,w.heap.size+1=b1:=⟨_,rfl⟩
 obtain ⟨b0,hb0⟩:∃b0,w.heap.size=b0:=⟨_,rfl⟩
 have hG:Hid (Sy w V1 [(b0,zR,42),(b1,zR,42),(b2,#[.slice sa sn sc,.int .i64 a,.int .i64 b],120)] [] []):=ζ (by rw [<-hb1,<-hb0];exact hc);rw [hb1,hb0];clear hc hD hE hb0 hb1 hb2;refine wp_region_held_drew (S:=(fun w'=>w'.cell? ⟨b2,0,none⟩=some (.slice sa sn sc)/\w'.cell? ⟨b2,1,none⟩=some (.int .i64 a)/\w'.cell? ⟨b2,2,none⟩=some (.int .i64 b)/\True)) (by kernel_rfl) ⟨hG.out.drew.c 2 0,hG.out.drew.c 2 1,hG.out.drew.c 2 2,trivial⟩ (fun hH=>?_);refine wpAnyH_geny (show Sy w _ [(b0,zR,42),(b1,zR,42),(b2,#[.slice sa sn sc,.int .i64 a,.int .i64 b],120)] [] []from hG.out.drew) hH ?_;intro AN hc AC;have AE:=ζ hc;clear hc hH hG;refine tkA 0 rfl AC ?_;try simp only [zP]
 refine tkA 1 rfl AC ?_;try simp only [zP]
 refine tkA 3 rfl AC ?_;try simp only [zP]
 refine tkA 4 rfl AC ?_;try simp only [zP]
 refine rdy1 2 rfl (fun Kq AD=>?_);go_simp;go_at_call 70;refine(HA.out _ AE.out.be).mono ?_;rintro e wT ⟨a5,n5,c5,m5,d5,e5,f5,rfl,hz,hb⟩;(try go_wp2_with fail);refine stepZ AD (show Sy w _ [(b0,zR,42),(b1,zR,42),(b2,#[.slice sa sn sc,.int .i64 a,.int .i64 b],120)] [] [(fun V=>Rd V (.slice a5 n5 c5) m5 (.slice d5 e5 f5) (ab))]from((AE.out.call hb).pR rfl rfl hz)) (fun _ hX=>⟨hX.c 2 0,hX.c 2 1,hX.c 2 2,trivial⟩) ?_;intro AO AF AH;clear AD Kq AE hb hz AC;try simp only [zP]
 refine rdy1 5 rfl (fun Kq AD=>?_);go_simp;go_at_call 89;refine(HB.out _ AF.out.be).mono ?_;rintro e wT ⟨a6,n6,c6,m6,d6,e6,f6,rfl,hz,hb⟩;(try go_wp2_with fail);refine stepZ AD (show Sy w _ [(b0,zR,42),(b1,zR,42),(b2,#[.slice sa sn sc,.int .i64 a,.int .i64 b],120)] [] [(fun V=>Rd V (.slice a5 n5 c5) m5 (.slice d5 e5 f5) (ab)),(fun V=>Rd V (.slice a6 n6 c6) m6 (.slice d6 e6 f6) (be))]from((AF.out.call hb).pR rfl rfl hz)) (fun _ hX=>⟨hX.c 2 0,hX.c 2 1,hX.c 2 2,trivial⟩) ?_;intro AP AA AI;clear AD Kq AF hb hz AH;try simp only [zP]
 refine rdy1 6 rfl (fun Kq AD=>?_);have cQ0:=AA.out.c 0 0;have fQ0:=AA.out.f 0 0;have cQ1:=AA.out.c 0 1;have fQ1:=AA.out.f 0 1;have cQ2:=AA.out.c 0 2;have fQ2:=AA.out.f 0 2;go_simp;refine stepZ AD (show Sy w _ [(b0,#[.slice a5 n5 c5,.bool m5,.slice d5 e5 f5],42),(b1,zR,42),(b2,#[.slice sa sn sc,.int .i64 a,.int .i64 b],120)] [] [(fun V=>Rd V (.slice a5 n5 c5) m5 (.slice d5 e5 f5) (ab)),(fun V=>Rd V (.slice a6 n6 c6) m6 (.slice d6 e6 f6) (be))]from(AA.out|>.set (j:=0) (v:= .slice a5 n5 c5) 0 rfl|>.set (j:=1) (v:= .bool m5) 0 rfl|>.set (j:=2) (v:= .slice d5 e5 f5) 0 rfl)) (fun _ hX=>⟨hX.c 2 0,hX.c 2 1,hX.c 2 2,trivial⟩) ?_;intro AQ AB AJ;clear AD Kq AA cQ0 fQ0 cQ1 fQ1 cQ2 fQ2 AI;try simp only [Act.put]
 refine rdy1 7 rfl (fun Kq AD=>?_);have cQ0:=AB.out.c 1 0;have fQ0:=AB.out.f 1 0;have cQ1:=AB.out.c 1 1;have fQ1:=AB.out.f 1 1;have cQ2:=AB.out.c 1 2;have fQ2:=AB.out.f 1 2;go_simp;refine stepZ AD (show Sy w _ [(b0,#[.slice a5 n5 c5,.bool m5,.slice d5 e5 f5],42),(b1,#[.slice a6 n6 c6,.bool m6,.slice d6 e6 f6],42),(b2,#[.slice sa sn sc,.int .i64 a,.int .i64 b],120)] [] [(fun V=>Rd V (.slice a5 n5 c5) m5 (.slice d5 e5 f5) (ab)),(fun V=>Rd V (.slice a6 n6 c6) m6 (.slice d6 e6 f6) (be))]from(AB.out|>.set (j:=0) (v:= .slice a6 n6 c6) 1 rfl|>.set (j:=1) (v:= .bool m6) 1 rfl|>.set (j:=2) (v:= .slice d6 e6 f6) 1 rfl)) (fun _ hX=>⟨hX.c 2 0,hX.c 2 1,hX.c 2 2,trivial⟩) ?_;intro AR AG AK;clear AD Kq AB cQ0 fQ0 cQ1 fQ1 cQ2 fQ2 AJ;try simp only [Act.put]
 refine rdy1 8 rfl (fun Kq AD=>?_);go_simp;refine stepZ AD (show Sy w _ [(b0,#[.slice a5 n5 c5,.bool m5,.slice d5 e5 f5],42),(b1,#[.slice a6 n6 c6,.bool m6,.slice d6 e6 f6],42),(b2,#[.slice sa sn sc,.int .i64 a,.int .i64 b],120)] [] [(fun V=>Rd V (.slice a5 n5 c5) m5 (.slice d5 e5 f5) (ab)),(fun V=>Rd V (.slice a6 n6 c6) m6 (.slice d6 e6 f6) (be))]from AG.out) (fun _ hX=>⟨hX.c 2 0,hX.c 2 1,hX.c 2 2,trivial⟩) ?_;intro AS AL AM;clear AD Kq AG AK;try simp only [zP]
 refine wpAnyH_done (by kernel_rfl) ?_ _;go_wp2;refine ret_sy AL.out (v:= .tuple #[.agg #[.slice a5 n5 c5,.bool m5,.slice d5 e5 f5],.agg #[.slice a6 n6 c6,.bool m6,.slice d6 e6 f6],.int .i64 0]) (fun hF=>?_) rfl (fun hF=>⟨a5,n5,c5,m5,d5,e5,f5,a6,n6,c6,m6,d6,e6,f6,rfl,hF.r 0 rfl,hF.r 1 rfl,hF.be⟩);have g0_0:=hF.c 0 0;have g0_1:=hF.c 0 1;have g0_2:=hF.c 0 2;have g1_0:=hF.c 1 0;have g1_1:=hF.c 1 1;have g1_2:=hF.c 1 2;simp [results,Tryz.results39,go_sem,g0_0,g0_1,g0_2,g1_0,g1_1,g1_2]
end
variable {l:List Pt} {a b:Int}
theorem Strt.in_pcs (hT:Strt l a b) {t:Int×Int} (ht:t∈Proofs.YthmdhlopeponcaaGreatDoor.pcs l a b):a<=t.1/\t.1 < t.2/\t.2<=b:=by
 obtain ⟨h1,h2,h3,_⟩:=hT.ok.stp_line (b:=b) 0 a (Nat.zero_le _) (Int.le_of_lt hT.lt) (fun h=>absurd h (Nat.lt_irrefl 0)) (fun _=>hT.lo) t ht;exact⟨h1,h2,h3⟩
theorem Strt.below_mono (hT:Strt l a b) {y z:Int} (h:y<=z):below l a b y<=below l a b z:=by
 unfold below;refine smQ_mono (fun t ht=>?_);obtain ⟨h1,h2,h3⟩:=hT.in_pcs ht;have hc:=cast_le h;unfold pieceB;exact posQ_mono (by have:=cast_le (show(0:Int)<=t.2 - t.1 by omega);simpa using this) (by grind) (by grind)
theorem sums_bq {f:Int×Int->Rat} (hT:Strt l a b) (hf:∀t:Int×Int,a<=t.1->t.1 < t.2->t.2<=b->Bq 174 (f t)):Bq 7001 (smQ ((pcs l a b).map f)):=by
 have h:=smQ_bq (N:=174) (l:=(pcs l a b).map f) (by
  intro q hq;obtain ⟨t,ht,rfl⟩:=List.mem_map.1 hq;obtain ⟨h1,h2,h3⟩:=hT.in_pcs ht;exact hf t h1 h2 h3)
 refine h.mono ?_;have:=hT.ok.pcs_len a b;rw [List.length_map];omega
theorem Strt.below_bq (hT:Strt l a b) {z:Int} (hz:InZ z):Bq 7001 (below l a b z):=sums_bq hT (pieceB_bq hT hz)
theorem Strt.above_bq (hT:Strt l a b) {z:Int} (hz:InZ z):Bq 7001 (above l a b z):=sums_bq hT (pieceA_bq hT hz)
theorem cmpQ_ge {x y:Rat} :0<=cmpQ x y↔y<=x:=by
 unfold cmpQ
 split
 ·rename_i h;constructor<;>intro _<;>first | omega | grind
 ·split
  ·constructor<;>intro _<;>first | omega | grind
  ·constructor<;>intro _<;>first | omega | grind
def poolB (l:List Pt) (a b area:Int) (n:Nat):Bool:=decide (0<=cmpQ (below l a b ((n:Int) - 100000)) (area:Rat))
def poolN (l:List Pt) (a b area:Int):Nat:=(List.range 200001).countP (fun i=> !poolB l a b area i)
theorem Strt.pool_mono (hT:Strt l a b) {area:Int} :∀x y,x<=y->y < 200001->poolB l a b area x=true->poolB l a b area y=true:=by
 intro x y h _ h1;unfold poolB at*;rw [decide_eq_true_eq,cmpQ_ge]at*;have:=hT.below_mono (show(x:Int) - 100000<=(y:Int) - 100000 by omega);grind
def floodErr (l:List Pt) (a b area:Int):Int:=if strErr l a b=0 then(if inB area 1 1000000000000=true then(if poolN l a b area=200001 then 12 else 0)else 3)else strErr l a b
def floodLev (l:List Pt) (a b area:Int):Int:=if floodErr l a b area=0 then(poolN l a b area:Int) - 100000 else 0
section
variable (w:World)
theorem flood1_any (sa:OA) (sn sc:Nat) (l:List Pt) (a b:Int) (hs:Sx 2 w sa sn sc (L2 l)) (area:Int) (b0 b1:Nat) (n:Nat) (hn:n < 200001) (hT:Strt l a b) (ha:1<=area/\area<=1000000000000) (h0:w.cell? ⟨b0,0,none⟩=some (.slice sa sn sc)) (h1:w.cell? ⟨b0,1,none⟩=some (.int .i64 a)) (h2:w.cell? ⟨b0,2,none⟩=some (.int .i64 b))
  (h3:w.cell? ⟨b1,0,none⟩=some (.int .i64 area)) (l0:b0 < w.heap.size) (l1:b1 < w.heap.size):
  Calls Tryz.prog 88 #[.int .i64 n,.pointer (some ⟨b0,0,none⟩),.pointer (some ⟨b1,0,none⟩)] w (Gives (.bool (poolB l a b area n)) w):=by
 have AH:=ζ (fun W (h:Below w.heap.size w W)=>(h.cell (p:=⟨b0,0,none⟩) l0).trans h0);have AI:=ζ (fun W (h:Below w.heap.size w W)=>(h.cell (p:=⟨b0,1,none⟩) l0).trans h1);have AJ:=ζ (fun W (h:Below w.heap.size w W)=>(h.cell (p:=⟨b0,2,none⟩) l0).trans h2);have AK:=ζ (fun W (h:Below w.heap.size w W)=>(h.cell (p:=⟨b1,0,none⟩) l1).trans h3);have hz:InZ ((n:Int) - 100000):=by unfold InZ;omega
 have HB:=ζ (fun W (hW:Below w.heap.size w W)=>below_any W sa sn sc l a b ((n:Int) - 100000) hT hz (hs.below hW));have B1:=ζ (hT.below_bq hz);have B2:=ζ (show Bq 41 (area:Rat)from Bq.int (n:=40) (by unfold Bd;omega));have HK:=ζ (show -9223372036854775808<=area/\area < 9223372036854775808 by omega);have HP:=ζ (show poolB l a b area n=decide (0<=cmpQ (below l a b ((n:Int) - 100000)) (area:Rat))from rfl);have wn:IntKind.i64.wrap ((n:Int) - 100000)=(n:Int) - 100000:=IntWalk.i64_in _ (by omega);rw [HP.out];generalize below l a b ((n:Int) - 100000)=bl at*;clear hs hT ha h0 h1 h2 h3 l0 l1 hz HP;have hC:=ζ (Sy.enter w);go_enter Tryz.func88,Tryz.ntmps88;go_upto_region 1 with fail
 refine wp_geny hC.out ?_;intro V1 hc;have hS:=ζ hc;clear hc hC;refine wp_region_held_drew (S:=(fun w'=>w'.cell? ⟨b0,0,none⟩=some (.slice sa sn sc)/\w'.cell? ⟨b0,1,none⟩=some (.int .i64 a)/\w'.cell? ⟨b0,2,none⟩=some (.int .i64 b)/\w'.cell? ⟨b1,0,none⟩=some (.int .i64 area)/\True)) (by kernel_rfl) ⟨(AH.out _ hS.out.drew.be),(AI.out _ hS.out.drew.be),(AJ.out _ hS.out.drew.be),(AK.out _ hS.out.drew.be),trivial⟩ (fun hH=>?_);refine wpAnyH_geny (show Sy w _ [] [] []from hS.out.drew) hH ?_;intro AR hc AA;have AC:=ζ hc;clear hc hH hS;refine tkA 0 rfl AA ?_;try simp only [zP]
 refine tkA 1 rfl AA ?_;try simp only [zP]
 refine tkA 2 rfl AA ?_;try simp only [zP]
 refine tkA 4 rfl AA ?_;try simp only [zP]
 refine rdy1 3 rfl (fun Kq AD=>?_);go_simp;go_at_call 89;refine(HB.out _ AC.out.be).mono ?_;rintro e wT ⟨a5,n5,c5,m5,d5,e5,f5,rfl,hz,hb⟩;(try go_wp2_with fail);refine stepZ AD (show Sy w _ [] [] [(fun V=>Rd V (.slice a5 n5 c5) m5 (.slice d5 e5 f5) (bl))]from((AC.out.call hb).pR rfl rfl hz)) (fun _ hX=>⟨(AH.out _ hX.be),(AI.out _ hX.be),(AJ.out _ hX.be),(AK.out _ hX.be),trivial⟩) ?_;intro AS AE AL;clear AD Kq AC hb hz AA;try simp only [zP]
 refine rdy1 5 rfl (fun Kq AD=>?_);go_simp;go_at_call 45;refine(of_any _ HK.out _).mono ?_;rintro e wT ⟨a6,n6,c6,m6,d6,e6,f6,rfl,hz,hb⟩;(try go_wp2_with fail);refine stepZ AD (show Sy w _ [] [] [(fun V=>Rd V (.slice a5 n5 c5) m5 (.slice d5 e5 f5) (bl)),(fun V=>Rd V (.slice a6 n6 c6) m6 (.slice d6 e6 f6) (area))]from((AE.out.call hb).pR rfl rfl hz)) (fun _ hX=>⟨(AH.out _ hX.be),(AI.out _ hX.be),(AJ.out _ hX.be),(AK.out _ hX.be),trivial⟩) ?_;intro AT AB AM;clear AD Kq AE hb hz AL;try simp only [zP]
 refine rdy1 6 rfl (fun Kq AD=>?_);go_simp;go_at_call 41;refine(hcmp_is (AB.out.r 0 rfl) (AB.out.r 1 rfl) B1.out B2.out (by omega) (by omega) rfl).mono ?_;rintro e wT ⟨rfl,hb⟩;(try go_wp2_with fail);refine stepZ AD (show Sy w _ [] [] [(fun V=>Rd V (.slice a5 n5 c5) m5 (.slice d5 e5 f5) (bl)),(fun V=>Rd V (.slice a6 n6 c6) m6 (.slice d6 e6 f6) (area))]from(AB.out.call hb)) (fun _ hX=>⟨(AH.out _ hX.be),(AI.out _ hX.be),(AJ.out _ hX.be),(AK.out _ hX.be),trivial⟩) ?_;intro AU AF AG;clear AD Kq AB hb AM;try simp only [zP]
 refine tkA 7 rfl AG ?_;try simp only [zP]
 refine rdy1 8 rfl (fun Kq AD=>?_);go_simp;refine stepZ AD (show Sy w _ [] [] [(fun V=>Rd V (.slice a5 n5 c5) m5 (.slice d5 e5 f5) (bl)),(fun V=>Rd V (.slice a6 n6 c6) m6 (.slice d6 e6 f6) (area))]from AF.out) (fun _ hX=>⟨(AH.out _ hX.be),(AI.out _ hX.be),(AJ.out _ hX.be),(AK.out _ hX.be),trivial⟩) ?_;intro AV AN AQ;clear AD Kq AF AG;try simp only [zP]
 refine wpAnyH_done (by kernel_rfl) ?_ _;go_wp2;go_ret;exact⟨rfl,AN.out.be⟩
theorem eg_flood1:EG 88:=enters_of Tryz.func88 (by kernel_rfl) rfl
theorem flood_any (sa:OA) (sn sc:Nat) (l:List Pt) (a b:Int) (hs:Sx 2 w sa sn sc (L2 l)) (area:Int) (hi: -9223372036854775808<=area/\area < 9223372036854775808):Calls Tryz.prog 37 #[.slice sa sn sc,.int .i64 a,.int .i64 b,.int .i64 area] w (Gives (.tuple #[.int .i64 (floodLev l a b area),.int .i64 (floodErr l a b area)]) w):=by
 have HK:=ζ (fun W (hW:Below w.heap.size w W)=>hstretched_any W sa sn sc l a b (hs.below hW));have HS:=ζ hs;have HE:=ζ (show floodErr l a b area=if strErr l a b=0 then(if inB area 1 1000000000000=true then(if poolN l a b area=200001 then 12 else 0)else 3)else strErr l a b from rfl);have HL:=ζ (show floodLev l a b area=if floodErr l a b area=0 then(poolN l a b area:Int) - 100000 else 0 from rfl);have hC:=ζ ((Sy.enter w).al w.heap.size #[.int .i64 area] 2 rfl);have AO:=ζ (fun(hT:Strt l a b) (ha:1<=area/\area<=1000000000000) W (hW:Below w.heap.size w W) (b0 b1:Nat) (h0:W.cell? ⟨b0,0,none⟩=some (.slice sa sn sc)) (h1:W.cell? ⟨b0,1,none⟩=some (.int .i64 a)) (h2:W.cell? ⟨b0,2,none⟩=some (.int .i64 b)) (h3:W.cell? ⟨b1,0,none⟩=some (.int .i64 area)) (l0:b0 < W.heap.size) (l1:b1 < W.heap.size)=>
  (show Calls Tryz.prog 87 #[.int .i64 (200001:Nat),.func (.func 88) #[] #[.pointer (some ⟨b0,0,none⟩),.pointer (some ⟨b1,0,none⟩)]] W (Gives (.int .i64 (poolN l a b area:Nat)) W)from
   search_any W 88 #[.pointer (some ⟨b0,0,none⟩),.pointer (some ⟨b1,0,none⟩)] 200001 (poolB l a b area) eg_flood1 (by omega)
    (fun V hV i hi=>flood1_any V sa sn sc l a b (hs.below (hW.trans (hV.mono hW.size))) area b0 b1 i hi hT ha ((hV.cell (p:=⟨b0,0,none⟩) l0).trans h0) ((hV.cell (p:=⟨b0,1,none⟩) l0).trans h1) ((hV.cell (p:=⟨b0,2,none⟩) l0).trans h2) ((hV.cell (p:=⟨b1,0,none⟩) l1).trans h3) (Nat.lt_of_lt_of_le l0 hV.size) (Nat.lt_of_lt_of_le l1 hV.size))
    hT.pool_mono))
 have hpn:poolN l a b area<=200001:=by have:=List.countP_le_length (p:=fun i=> !poolB l a b area i) (l:=List.range 200001);rw [List.length_range]at this;exact this
 have HT:=ζ (fun(h:strErr l a b=0)=>strErr_zero h);generalize floodLev l a b area=lev at*;generalize floodErr l a b area=fe at*;generalize poolN l a b area=pn at*;generalize strErr l a b=er at*;clear hs;go_enter Tryz.func37,Tryz.ntmps37;go_wp2_with fail
 refine(HK.out _ hC.out.be).mono ?_;rintro e w1 ⟨rfl,hb⟩;have hD:=ζ ((hC.out.call hb).al w1.heap.size #[.slice sa sn sc,.int .i64 a,.int .i64 b] 120 rfl);clear hb hC;go_upto_region 2 with fail
 refine wp_geny hD.out ?_;intro V1 hc;obtain ⟨b2,hb2⟩:∃b2,w1.heap.size=b2:=⟨_,rfl⟩
 obtain ⟨b1,hb1⟩:∃b1,w.heap.size=b1:=⟨_,rfl⟩
 have hG:Hid (Sy w V1 [(b1,#[.int .i64 area],2),(b2,#[.slice sa sn sc,.int .i64 a,.int .i64 b],120)] [] []):=ζ (by rw [<-hb1,<-hb2];exact hc);rw [hb1,hb2];clear hc hD hb1 hb2;by_cases h0:er=0;rotate_left
 ·have e0:(er !=0)=true:=bne_iff_ne.2 h0;have he:=HE.out;rw [if_neg h0]at he;have hv:=HL.out;rw [if_neg (by rw [he];exact h0)]at hv;clear HE HL AO HT;subst he;subst hv;go_wp2;go_ret2;exact⟨rfl,hG.out.be⟩
 subst h0;have x1:=hG.out.c 0 0;by_cases hin:inB area 1 1000000000000=true;rotate_left
 ·have he:=HE.out;rw [if_pos rfl,if_neg hin]at he;have hv:=HL.out;rw [if_neg (by rw [he];decide)]at hv;clear HE HL AO HT;subst he;subst hv;have hq:area < 1\/1000000000000 < area:=by have:=mt inB_iff.2 hin;omega
  rcases Int.lt_or_le area 1 with q1 | q1
  ·go_wp2;go_ret2;exact⟨rfl,hG.out.be⟩
  ·have q2:1000000000000 < area:=(by omega);have q3:¬ area < 1:=(by omega);go_wp2;go_ret2;exact⟨rfl,hG.out.be⟩
 have hr:=inB_iff.1 hin;have q1:¬ area < 1:=by omega
 have q2:¬ 1000000000000 < area:=by omega
 have he:=HE.out;rw [if_pos rfl,if_pos hin]at he;have AP:=ζ he;have HQ:=ζ (AO.out (HT.out rfl) hr);clear HE AO he hin HT;have l1:=hG.out.lt 0 rfl;have l2:=hG.out.lt 1 rfl;have y0:=hG.out.c 1 0;have y1:=hG.out.c 1 1;have y2:=hG.out.c 1 2;go_wp2_with fail
 refine(HQ.out _ hG.out.be b2 b1 y0 y1 y2 x1 l2 l1).mono ?_;rintro e w2 ⟨rfl,hb⟩;have hH:=ζ (hG.out.call hb);clear hb hG x1 y0 y1 y2 l1 l2 HQ;by_cases hp:pn=200001
 ·have he:=AP.out;rw [if_pos hp]at he;have hv:=HL.out;rw [if_neg (by rw [he];decide)]at hv;have p1:(pn:Int)=200001:=by omega
  clear AP HL;subst he;subst hv;go_wp2;go_ret2;exact⟨rfl,hH.out.be⟩
 ·have he:=AP.out;rw [if_neg hp]at he;have hv:=HL.out;rw [if_pos he]at hv;have p1:¬ (pn:Int)=200001:=by omega
  have wn:IntKind.i64.wrap ((pn:Int) - 100000)=(pn:Int) - 100000:=IntWalk.i64_in _ (by omega);clear AP HL;subst he;subst hv;go_wp2;go_ret2;exact⟨rfl,hH.out.be⟩
end
def bX (l:List Int) (i:Nat):Int:=l.getD i 0
theorem bX_at {l:List Int} {i:Nat} (h:i < l.length):bX l i=l[i]:=by unfold bX;rw [List.getD_eq_getElem?_getD,List.getElem?_eq_getElem h];rfl
def upI (l:List Int):Bool:=(List.range (l.length - 1)).all fun i=>decide (bX l i < bX l (i+1))
theorem upI_iff {l:List Int} :upI l=true↔∀i,i+1 < l.length->bX l i < bX l (i+1):=by
 unfold upI;simp only [List.all_eq_true,List.mem_range,decide_eq_true_eq];exact⟨fun h i hi=>h i (by omega),fun h i hi=>h i (by omega)⟩
def brkB (l:List Pt) (bs:List Int):Bool:=profB l && (inB bs.length 2 61 && (upI bs && bs.all (hasB l)))
def tdC (v:Value) (ts:List (Int×Int)):List Value:=ts.flatMap fun t=>[v,.int .i64 t.1,.int .i64 t.2]
theorem tdC_snoc (v:Value) (ts:List (Int×Int)) (t:Int×Int):tdC v (ts++ [t])=tdC v ts++ [v,.int .i64 t.1,.int .i64 t.2]:=by
 unfold tdC;rw [List.flatMap_append,List.flatMap_cons,List.flatMap_nil,List.append_nil]
theorem nbr_len:∀l:List Int,(nbr l).length=l.length - 1
 | []=>rfl
 | [_]=>rfl
 | x::y::r=>by rw [show nbr (x::y::r)=(x,y)::nbr (y::r)from rfl,List.length_cons,nbr_len (y::r)];simp
theorem nbr_snoc:∀ (l:List Int) (x y:Int),nbr (l++ [x,y])=nbr (l++ [x])++ [(x,y)]
 | [],_,_=>rfl
 | [_],_,_=>rfl
 | z::u::r,x,y=>by
   show(z,u)::nbr ((u::r)++ [x,y])=(z,u)::nbr ((u::r)++ [x])++ [(x,y)];rw [nbr_snoc (u::r) x y];rfl
theorem nbr_take {l:List Int} {k:Nat} (h:k+1 < l.length):nbr (l.take (k+1+1))=nbr (l.take (k+1))++ [(l[k],l[k+1])]:=by
 have e1:l.take (k+1+1)=l.take k++ [l[k],l[k+1]]:=by
  rw [List.take_succ_eq_append_getElem h,List.take_succ_eq_append_getElem (show k < l.length by omega),List.append_assoc];rfl
 have e2:l.take (k+1)=l.take k++ [l[k]]:=List.take_succ_eq_append_getElem (show k < l.length by omega);rw [e1,e2];exact nbr_snoc _ _ _
theorem nbr_get:∀ {l:List Int} {i:Nat} (h:i+1 < l.length),(nbr l)[i]? =some (l[i],l[i+1])
 | x::y::r,0,_=>rfl
 | x::y::r,i+1,h=>by
   show(nbr (y::r))[i]? =_;rw [nbr_get (l:=y::r) (by simpa using h)];rfl
def RetTr (ok:Bool) (w:World) (v:Value) (bs:List Int) (e:Ending) (w':World):Prop:=
 (ok=true/\∃a c,e= .returned (.tuple #[.slice a (bs.length - 1) c,.int .i64 0])/\w'.ownsRow w.heap.size 120 3 (.slice a (bs.length - 1) c) (bs.length - 1) (tdC v (nbr bs))/\Below w.heap.size w w')\/
 (ok=false/\e= .returned (.tuple #[.slice none 0 0,.int .i64 2])/\Below w.heap.size w w')
theorem und_stretches:Tryz.prog.underlying 123=some (.slice 120):=Tryz.underlying123
theorem info_stretch:(Tryz.prog.info? 120).map (fun i=>(i.zero,i.size,i.bytes))=some (some (.agg #[.slice none 0 0,.int .i64 0,.int .i64 0]),3,40):=by kernel_rfl
section
variable (w:World)
theorem treads1_any (x y:Int):Calls Tryz.prog 128 #[.int .i64 x,.int .i64 y] w (Gives (.bool (decide (x < y))) w):=by
 go_enter Tryz.func128,Tryz.ntmps128;go_wp2;go_ret;exact⟨rfl,Below.refl _ _⟩
theorem risingI_any (a:OA) (n c:Nat) (l:List Int) (hs:Sx 1 w a n c (L1 l)) (hn:n<=1000000):
  Calls Tryz.prog 127 #[.slice a n c,.func (.func 128) #[] #[]] w (Gives (.bool (upI l)) w):=by
 obtain rfl:=hs.n1;have HS:=ζ hs;have HE:=ζ (upI_iff (l:=l));clear hs;generalize upI l=r at*;go_enter Tryz.func127,Tryz.ntmps127;go_wp2;go_loopw [5] (fun iv wr=>∃k:Nat,1<=k/\(k<=l.length\/k=1)/\iv= .int .i64 k/\Hid (∀i,i+1 < k->bX l i < bX l (i+1))/\Hid (Sy w wr [] [] [])) (fun iv _=>l.length - (intOf iv).toNat)
 case atStart=>exact⟨1,by omega,.inr rfl,rfl,ζ (fun i h=>by omega),ζ (Sy.enter w)⟩
 case round=>
  obtain ⟨k,hk1,hk,rfl,HI,hC⟩:=hrel;by_cases hlt:k < l.length
  ·obtain ⟨j,rfl⟩:∃j,k=j+1:=⟨k - 1,by omega⟩
   obtain ⟨g0,o0,rfl⟩:=HS.out.addr (by omega);have hj:j < l.length:=(by omega);have HA:=ζ (fun W (hW:Below w.heap.size w W)=>(HS.out.below hW).at1 hj);have HB:=ζ (fun W (hW:Below w.heap.size w W)=>(HS.out.below hW).at1 hlt);have HX:=ζ (show bX l j=l[j]/\bX l (j+1)=l[j+1]from⟨bX_at hj,bX_at hlt⟩);have HK:=ζ (fun W=>treads1_any W l[j] l[j+1]);have HJ:=ζ hlt;generalize l[j]=p at*;generalize l[j+1]=q at*;obtain ⟨n1,hn1⟩:∃n1:Nat,n1=j+1:=⟨_,rfl⟩
   rw [<-hn1]at HB;have e0:(((j+1:Nat):Int))=(n1:Int):=(by omega);rw [e0];have i2:IntKind.i64.wrap ((n1:Int) - 1)=(j:Int):=(by rw [IntWalk.i64_in _ (by omega)];omega);have i0:(0:Int)<=(j:Int):=(by omega);have i1:(j:Int) < (l.length:Int):=(by omega);have i3:(0:Int)<=(n1:Int):=(by omega);have i4:(n1:Int) < (l.length:Int):=(by omega);have AF:=ζ hn1;clear hn1 e0 hlt hk hk1 hj;cases hp:decide (p < q)
   ·rw [hp]at HK;have HR:=ζ (show r=false by
     cases r with
     | false=>rfl
     | true=>
       have:=(HE.out.1 rfl) j HJ.out;rw [HX.out.1,HX.out.2]at this;rw [decide_eq_true this]at hp;cases hp)
    clear hp HI HE;go_upto_region 4 with fail
    refine wp_region_held_drew (S:=(fun w'=>w'.cell? ⟨g0,o0+j,none⟩=some (.int .i64 p)/\w'.cell? ⟨g0,o0+n1,none⟩=some (.int .i64 q)/\True)) (by kernel_rfl) ⟨(HA.out _ hC.out.drew.be),(HB.out _ hC.out.drew.be),trivial⟩ (fun hH=>?_);refine wpAnyH_geny (show Sy w _ [] [] []from hC.out.drew) hH ?_;intro AP hc AA;have AD:=ζ hc;clear hc hH hC;refine tkA 0 rfl AA ?_;(try simp only [zP]);refine tkA 1 rfl AA ?_;(try simp only [zP]);refine tkA 2 rfl AA ?_;(try simp only [zP]);refine tkA 3 rfl AA ?_;(try simp only [zP]);refine tkA 4 rfl AA ?_;(try simp only [zP]);refine tkA 5 rfl AA ?_;(try simp only [zP]);refine tkA 6 rfl AA ?_;(try simp only [zP]);refine tkA 7 rfl AA ?_;(try simp only [zP]);refine tkA 8 rfl AA ?_;(try simp only [zP]);refine tkA 9 rfl AA ?_;(try simp only [zP]);refine rdy1 10 rfl (fun Kq AG=>?_);go_simp;go_at_call 128;refine(HK.out _).mono ?_;rintro e wT ⟨rfl,hb⟩;(try go_wp2_with fail);refine stepZ AG (show Sy w _ [] [] []from(AD.out.call hb)) (fun _ hX=>⟨(HA.out _ hX.be),(HB.out _ hX.be),trivial⟩) ?_;intro AQ AH AI;clear AG Kq AD hb AA;(try simp only [zP]);refine tkA 11 rfl AI ?_;(try simp only [zP]);refine wpAnyH_done (by kernel_rfl) ?_ _;go_wp2;go_ret;exact⟨ret_bool HR.out.symm,AH.out.be⟩
   ·rw [hp]at HK;have AJ:=ζ (show ∀i,i+1 < (j+1)+1->bX l i < bX l (i+1)from fun i hi=>by
     rcases Nat.lt_or_ge i j with h | h
     ·exact HI.out i (by omega)
     ·obtain rfl:i=j:=by omega
      rw [HX.out.1,HX.out.2];exact of_decide_eq_true hp)
    clear hp HI;go_upto_region 4 with fail
    refine wp_region_held_drew (S:=(fun w'=>w'.cell? ⟨g0,o0+j,none⟩=some (.int .i64 p)/\w'.cell? ⟨g0,o0+n1,none⟩=some (.int .i64 q)/\True)) (by kernel_rfl) ⟨(HA.out _ hC.out.drew.be),(HB.out _ hC.out.drew.be),trivial⟩ (fun hH=>?_);refine wpAnyH_geny (show Sy w _ [] [] []from hC.out.drew) hH ?_;intro AR hc AB;have AE:=ζ hc;clear hc hH hC;refine tkA 0 rfl AB ?_;(try simp only [zP]);refine tkA 1 rfl AB ?_;(try simp only [zP]);refine tkA 2 rfl AB ?_;(try simp only [zP]);refine tkA 3 rfl AB ?_;(try simp only [zP]);refine tkA 4 rfl AB ?_;(try simp only [zP]);refine tkA 5 rfl AB ?_;(try simp only [zP]);refine tkA 6 rfl AB ?_;(try simp only [zP]);refine tkA 7 rfl AB ?_;(try simp only [zP]);refine tkA 8 rfl AB ?_;(try simp only [zP]);refine tkA 9 rfl AB ?_;(try simp only [zP]);refine rdy1 10 rfl (fun Kq AG=>?_);go_simp;go_at_call 128;refine(HK.out _).mono ?_;rintro e wT ⟨rfl,hb⟩;(try go_wp2_with fail);refine stepZ AG (show Sy w _ [] [] []from(AE.out.call hb)) (fun _ hX=>⟨(HA.out _ hX.be),(HB.out _ hX.be),trivial⟩) ?_;intro AS AK AL;clear AG Kq AE hb AB;(try simp only [zP]);refine tkA 11 rfl AL ?_;(try simp only [zP]);refine wpAnyH_done (by kernel_rfl) ?_ _;go_wp2;go_roundw
    case rel=>exact⟨(j+1)+1,by omega,.inl (by have:=HJ.out;omega),by have:=AF.out;subst this;go_num,AJ,AK⟩
    case measure=>have:=AF.out;have:=HJ.out;simp [intOf];omega
  ·have HR:=ζ (show r=true from HE.out.2 fun i hi=>HI.out i (by omega));go_wp2;go_ret;exact⟨ret_bool HR.out.symm,hC.out.be⟩
theorem treads_any (sa:OA) (sn sc:Nat) (l:List Pt) (hs:Sx 2 w sa sn sc (L2 l)) (ba:OA) (bn bc:Nat) (bs:List Int) (hb:Sx 1 w ba bn bc (L1 bs)):
  Calls Tryz.prog 68 #[.slice sa sn sc,.slice ba bn bc] w (RetTr (brkB l bs) w (.slice sa sn sc) bs):=by
 obtain rfl:=hb.n1;have hcap:=hb.cap;unfold maxLen at hcap;have HC:=ζ (fun W (hW:Below w.heap.size w W)=>hcheck_any W sa sn sc l (hs.below hW));have HU:=ζ (fun W (hW:Below w.heap.size w W) hn=>risingI_any W ba bs.length bc bs (hb.below hW) hn);have HK:=ζ (show brkB l bs=(profB l && (inB bs.length 2 61 && (upI bs && bs.all (hasB l))))from rfl);have HH:=ζ (fun(hp:profB l=true) W (hW:Below w.heap.size w W) x=>has_any W sa sn sc l x (hs.below hW) (by have:=hs.n2;have:=(prof_iff.1 hp).two;omega));have HB:=ζ hb;have AM:=ζ (show profErr l=if profB l=true then 0 else 2 from rfl);generalize profErr l=pe at*;generalize brkB l bs=ok at*;generalize profB l=pb at*;clear hs hb;have hC:=ζ (Sy.enter w);cases pb
 ·have HF:=ζ (show ok=false by rw [HK.out];rfl);have AC:=AM.out;rw [if_neg (by decide)]at AC;subst AC;clear HK HH AM HU HB;go_enter Tryz.func68,Tryz.ntmps68;go_wp2_with fail
  refine(HC.out _ hC.out.be).mono ?_;rintro e w1 ⟨rfl,h1⟩;have hD:=ζ (hC.out.call h1);clear h1 hC HC;go_wp2;go_ret2;exact .inr ⟨HF.out,rfl,hD.out.be⟩
 have AC:=AM.out;rw [if_pos rfl]at AC;subst AC;have AN:=ζ (HH.out rfl);clear HH AM;cases h1:inB bs.length 2 61
 ·have HF:=ζ (show ok=false by rw [HK.out,h1];rfl);clear HK AN HU HB;go_enter Tryz.func68,Tryz.ntmps68;go_wp2_with fail
  refine(HC.out _ hC.out.be).mono ?_;rintro e w1 ⟨rfl,h2⟩;have hD:=ζ (hC.out.call h2);clear h2 hC HC;go_wp2_with ((with_reducible refine(hwithin_any _ _ _ _).mono ?_);rintro e w2 ⟨rfl,rfl⟩)
  go_ret2;exact .inr ⟨HF.out,rfl,hD.out.be⟩
 have hln:=inB_iff.1 h1;cases h2:upI bs
 ·have HF:=ζ (show ok=false by rw [HK.out,h2];simp);rw [h2]at HU;clear HK AN HB h2;go_enter Tryz.func68,Tryz.ntmps68;go_wp2_with fail
  refine(HC.out _ hC.out.be).mono ?_;rintro e w1 ⟨rfl,h2⟩;have hD:=ζ (hC.out.call h2);clear h2 hC HC;go_wp2_with ((with_reducible refine(hwithin_any _ _ _ _).mono ?_);rintro e w2 ⟨rfl,rfl⟩)
  refine(HU.out _ hD.out.be (by omega)).mono ?_;rintro e w2 ⟨rfl,h2⟩;have hE:=ζ (hD.out.call h2);clear h2 hD HU;go_wp2;go_ret2;exact .inr ⟨HF.out,rfl,hE.out.be⟩
 have HO:=ζ (show ok=bs.all (hasB l)by rw [HK.out,h1,h2];rfl);rw [h2]at HU;clear HK h2;go_enter Tryz.func68,Tryz.ntmps68;go_wp2_with fail
 refine(HC.out _ hC.out.be).mono ?_;rintro e w1 ⟨rfl,h2⟩;have hD:=ζ (hC.out.call h2);clear h2 hC HC;go_wp2_with ((with_reducible refine(hwithin_any _ _ _ _).mono ?_);rintro e w2 ⟨rfl,rfl⟩)
 refine(HU.out _ hD.out.be (by omega)).mono ?_;rintro e w2 ⟨rfl,h2⟩;have hE:=ζ ((hD.out.call h2).onil 120 3);clear h2 hD HU h1;go_wp2;obtain ⟨g0,o0,rfl⟩:=HB.out.addr (by omega);go_loopw [25,6] (fun iv sv wr=>∃k:Nat,∃a c,k<=bs.length/\iv= .int .i64 k/\sv= .slice a (k - 1) c/\Hid (∀i (hi:i < k),hasB l (bX bs i)=true)/\Hid (Sy w wr [] [⟨.slice a (k - 1) c,120,3,k - 1,tdC (.slice sa sn sc) (nbr (bs.take k))⟩] [])) (fun iv _ _=>bs.length - (intOf iv).toNat)
 case atStart=>exact⟨0,none,0,Nat.zero_le _,rfl,rfl,ζ (fun i hi=>absurd hi (Nat.not_lt_zero _)),hE⟩
 case round=>
  clear hE;obtain ⟨k,a,c,hk,rfl,rfl,HI,hS⟩:=hrel;by_cases hkl:k < bs.length
  ·have i0:(0:Int)<=(k:Int):=(by omega);have i1:(k:Int) < (bs.length:Int):=(by omega);have c0:=(HB.out.below hS.out.be).at1 hkl;have HX:=ζ (bX_at hkl);have HQ:=ζ (AN.out _ hS.out.be bs[k]);have HG:=ζ (show bs[k]=bX bs k from(bX_at hkl).symm);cases hh:hasB l bs[k]
   ·have HF:=ζ (show ok=false by
     rw [HO.out,List.all_eq_false];exact⟨_,List.getElem_mem hkl,by rw [hh];decide⟩)
    rw [hh]at HQ;generalize bs[k]=b at*;clear hh HG HX HO HI;go_wp2_with fail
    refine HQ.out.mono ?_;rintro e w3 ⟨rfl,h3⟩;have hT:=ζ (hS.out.call h3);clear h3 hS c0;go_wp2;go_ret2;exact .inr ⟨HF.out,rfl,hT.out.be⟩
   ·have AJ:=ζ (show ∀i,i < k+1->hasB l (bX bs i)=true from fun i hi=>by
     rcases Nat.lt_or_ge i k with h | h
     ·exact HI.out i h
     ·obtain rfl:i=k:=by omega
      rw [HX.out];exact hh)
    rw [hh]at HQ;rcases Nat.eq_zero_or_pos k with hk0 | hk0
    ·subst hk0;generalize bs[0]=b at*;rw [Nat.add_zero]at c0;clear hh HG HX HI;go_wp2_with fail
     refine HQ.out.mono ?_;rintro e w3 ⟨rfl,h3⟩;have hT:=ζ (hS.out.call h3);clear h3 hS c0;go_wp2;go_roundw
     case rel=>exact⟨1,a,c,by omega,rfl,rfl,AJ,ζ (by
      have:=hT.out;have e:tdC (.slice sa sn sc) (nbr (bs.take 1))=tdC (.slice sa sn sc) (nbr (bs.take 0)):=by
       rw [List.take_zero,show bs.take 1= [bs[0]]by rw [List.take_succ_eq_append_getElem (by omega)];rfl];rfl
      rw [e];exact this)⟩
     case measure=>simp [intOf];omega
    ·obtain ⟨j,rfl⟩:∃j,k=j+1:=⟨k - 1,by omega⟩
     have HT:=ζ (show tdC (.slice sa sn sc) (nbr (bs.take (j+1+1)))=tdC (.slice sa sn sc) (nbr (bs.take (j+1)))++ [.slice sa sn sc,.int .i64 bs[j],.int .i64 bs[j+1]]by rw [nbr_take hkl,tdC_snoc]);have HA:=ζ (fun W (hW:Below w.heap.size w W)=>(HB.out.below hW).at1 (show j < bs.length by omega));generalize bs[j+1]=b at*;generalize bs[j]=b' at*;obtain ⟨n1,hn1⟩:∃n1:Nat,n1=j+1:=⟨_,rfl⟩
     rw [<-hn1]at c0 AJ HT i0 i1 hk hS;rw [<-hn1];have i2:IntKind.i64.wrap ((n1:Int) - 1)=(j:Int):=(by rw [IntWalk.i64_in _ (by omega)];omega);have i3:(0:Int)<=(j:Int):=(by omega);have i4:(j:Int) < (bs.length:Int):=(by omega);have i5:(0:Int) < (n1:Int):=(by omega);have AF:=ζ hn1;clear hh HG HX HI hkl hn1;go_wp2_with fail
     refine HQ.out.mono ?_;rintro e w3 ⟨rfl,h3⟩;have hT:=ζ (hS.out.call h3);clear h3 hS c0;have c1:=HA.out _ hT.out.be;go_wp2_with (refine wpList_append_sy (o:=⟨some 46,_,_,_,_,_⟩) rfl (hT.out.onew w3.heap.size #[.slice sa sn sc,.int .i64 b',.int .i64 b] 120 3 1 rfl (by omega) rfl) 0 1 rfl rfl _ _ _ rfl und_stretches info_stretch rfl (by omega) rfl rfl (by intro u hu;simp at hu;rcases hu with rfl | rfl | rfl<;>rfl) (by omega) (by omega) ?_;intro a3 c3 V3 AO;have hJ:=ζ AO;clear AO hT c1)
     have hK:=ζ (hJ.out.thin (bs':=[]) (List.Sublist.refl _) (List.Sublist.cons_cons _ (List.nil_sublist _)));clear hJ;go_roundw
     case rel=>exact⟨n1+1,a3,c3,by omega,by go_num,by have:=AF.out;congr 1;omega,AJ,by
      have e:n1 - 1+1=n1+1 - 1:=(by have:=AF.out;omega);rw [HT.out,<-e];exact hK⟩
     case measure=>simp [intOf];omega
  ·obtain rfl:k=bs.length:=by omega
   have HF:=ζ (show ok=true by
    rw [HO.out,List.all_eq_true];intro x hx;obtain ⟨i,hi,rfl⟩:=List.getElem_of_mem hx;rw [<-bX_at hi];exact HI.out i hi)
   have AT:=ζ (show nbr (bs.take bs.length)=nbr bs by rw [List.take_length]);go_wp2;go_ret2;refine .inl ⟨HF.out,a,c,rfl,?_,hS.out.be⟩;have:=hS.out.orow 0 rfl;rwa [AT.out]at this
end
theorem ceil_neg (q:Rat): -((-q).floor)=q.ceil:=by
 have h:∀k:Int,-((-q).floor)<=k↔q.ceil<=k:=fun k=>by
  rw [Rat.ceil_le_iff,show(-((-q).floor)<=k)↔(-k<=(-q).floor)by omega,Rat.le_floor_iff,Rat.intCast_neg];constructor<;>intro h<;>grind
 exact Int.le_antisymm ((h _).2 (Int.le_refl _)) ((h _).1 (Int.le_refl _))
section
variable (w:World)
theorem small_any (a:OA) (n c:Nat) (m:Bool) (z:Int) (h:Zd w (.slice a n c) m z) (hz: -1000000<=z/\z<=1000000):Calls Tryz.prog 122 #[.agg #[.slice a n c,.bool m]] w (Gives (.int .i64 z) w):=by
 have hC:=ζ (((Sy.enter w).pZ rfl rfl h).al w.heap.size #[.slice a n c,.bool m] 40 rfl);have HB:=ζ (show Bd 20 z by unfold Bd;omega);have HR:=ζ (show i64res z=(z,true)by unfold i64res;rw [if_pos (by omega)]);clear h hz;go_enter Tryz.func122,Tryz.ntmps122;go_wp2_with fail
 refine(int64_any _ _ _ _ z _ (hC.out.r 0 rfl) 20 HB.out (by omega)).mono ?_;rintro e w1 ⟨rfl,hb⟩;rw [HR.out];have hD:=ζ (hC.out.call hb);clear hb hC;go_wp2;go_ret;exact⟨rfl,hD.out.be⟩
theorem rceil_b {w:World} {a1:OA} {n1 c1:Nat} {m1:Bool} {d1:OA} {e1 f1:Nat} {q1:Rat} {k1:Nat} (h1:Rd w (.slice a1 n1 c1) m1 (.slice d1 e1 f1) q1) (b1:Bq k1 q1) (hk1:k1<=40000):
  Calls Tryz.prog 123 #[.agg #[.slice a1 n1 c1,.bool m1,.slice d1 e1 f1]] w (RetZ w q1.ceil):=by
 rw [<-ceil_neg];exact rceil_any _ _ _ _ _ _ _ _ _ h1 k1 b1 hk1
theorem foot_any (sa:OA) (sn sc:Nat) (l:List Pt) (a b d:Int) (hT:Strt l a b) (hd: -100000<=d/\d<=100000) (hs:Sx 2 w sa sn sc (L2 l)):Calls Tryz.prog 61 #[.agg #[.slice sa sn sc,.int .i64 a,.int .i64 b],.int .i64 d] w (Gives (.int .i64 (footI l a b d)) w):=by
 have HB:=ζ (fun W (hW:Below w.heap.size w W)=>callsIn_wide.1 (hbounds_in W 4 (Nat.le_refl _) sa sn sc l a b hT (hs.below hW)));have HG:=ζ hT.lo_gd.bq;have HF:=ζ hT.lo_gd.floor;have HI:=ζ (show footI l a b d=(loQ l a b).floor - d from rfl);rw [HI.out];have hC:=ζ ((Sy.enter w).al w.heap.size #[.slice sa sn sc,.int .i64 a,.int .i64 b] 120 rfl);generalize loQ l a b=lo at*;generalize hiQ l a b=hi at*;generalize hz:Rat.floor lo=z at*;have HZ:=ζ hz;have hf:=HF.out;have w1:IntKind.i64.wrap (z - d)=z - d:=IntWalk.i64_in _ (by omega);clear hs hT HI hz;go_enter Tryz.func61,Tryz.ntmps61;have k0:=hC.out.c 0 0;have k1:=hC.out.c 0 1;have k2:=hC.out.c 0 2;go_wp2_with fail
 refine(HB.out _ hC.out.be).mono ?_;rintro e w2 ⟨a5,n5,c5,m5,d5,e5,f5,a6,n6,c6,m6,d6,e6,f6,rfl,hz1,hz2,hb⟩;have hD:=ζ ((((hC.out.call hb).pR rfl rfl hz1).pR rfl rfl hz2).al w2.heap.size #[.slice a5 n5 c5,.bool m5,.slice d5 e5 f5] 42 rfl|>.al (w2.heap.size+1) #[.slice a6 n6 c6,.bool m6,.slice d6 e6 f6] 42 (by simp));clear hb hz1 hz2 hC k0 k1 k2;go_upto_region 2 with fail
 refine wp_geny hD.out ?_;intro V1 hc;have hG:=ζ hc;clear hc hD;generalize w2.heap.size=bb at*;have k0:=hG.out.c 1 0;have k1:=hG.out.c 1 1;have k2:=hG.out.c 1 2;go_wp2_with fail
 refine(rfloor_b (hG.out.r 0 rfl) HG.out (by omega)).mono ?_;rintro e w3 ⟨a7,n7,c7,m7,rfl,hz,hb⟩;rw [HZ.out]at hz;have hH:=ζ ((hG.out.call hb).pZ rfl rfl hz);clear hb hz hG k0 k1 k2;go_wp2_with fail
 refine(small_any _ _ _ _ _ _ (hH.out.r 2 rfl) (by omega)).mono ?_;rintro e w4 ⟨rfl,hb⟩;have hI:=ζ (hH.out.call hb);clear hb hH;go_wp2;go_ret;exact⟨rfl,hI.out.be⟩
theorem head_any (sa:OA) (sn sc:Nat) (l:List Pt) (a b d:Int) (hT:Strt l a b) (hd: -100000<=d/\d<=100000) (hs:Sx 2 w sa sn sc (L2 l)):Calls Tryz.prog 63 #[.agg #[.slice sa sn sc,.int .i64 a,.int .i64 b],.int .i64 d] w (Gives (.int .i64 (headI l a b d)) w):=by
 have HB:=ζ (fun W (hW:Below w.heap.size w W)=>callsIn_wide.1 (hbounds_in W 4 (Nat.le_refl _) sa sn sc l a b hT (hs.below hW)));have HG:=ζ hT.hi_gd.bq;have HF:=ζ hT.hi_gd.ceil;have HI:=ζ (show headI l a b d=(hiQ l a b).ceil+d from rfl);rw [HI.out];have hC:=ζ ((Sy.enter w).al w.heap.size #[.slice sa sn sc,.int .i64 a,.int .i64 b] 120 rfl);generalize loQ l a b=lo at*;generalize hiQ l a b=hi at*;generalize hz:Rat.ceil hi=z at*;have HZ:=ζ hz;have hf:=HF.out;have w1:IntKind.i64.wrap (z+d)=z+d:=IntWalk.i64_in _ (by omega);clear hs hT HI hz;go_enter Tryz.func63,Tryz.ntmps63;have k0:=hC.out.c 0 0;have k1:=hC.out.c 0 1;have k2:=hC.out.c 0 2;go_wp2_with fail
 refine(HB.out _ hC.out.be).mono ?_;rintro e w2 ⟨a5,n5,c5,m5,d5,e5,f5,a6,n6,c6,m6,d6,e6,f6,rfl,hz1,hz2,hb⟩;have hD:=ζ ((((hC.out.call hb).pR rfl rfl hz1).pR rfl rfl hz2).al w2.heap.size #[.slice a5 n5 c5,.bool m5,.slice d5 e5 f5] 42 rfl|>.al (w2.heap.size+1) #[.slice a6 n6 c6,.bool m6,.slice d6 e6 f6] 42 (by simp));clear hb hz1 hz2 hC k0 k1 k2;go_upto_region 2 with fail
 refine wp_geny hD.out ?_;intro V1 hc;have hG:=ζ hc;clear hc hD;generalize w2.heap.size=bb at*;have k0:=hG.out.c 2 0;have k1:=hG.out.c 2 1;have k2:=hG.out.c 2 2;go_wp2_with fail
 refine(rceil_b (hG.out.r 1 rfl) HG.out (by omega)).mono ?_;rintro e w3 ⟨a7,n7,c7,m7,rfl,hz,hb⟩;rw [HZ.out]at hz;have hH:=ζ ((hG.out.call hb).pZ rfl rfl hz);clear hb hz hG k0 k1 k2;go_wp2_with fail
 refine(small_any _ _ _ _ _ _ (hH.out.r 2 rfl) (by omega)).mono ?_;rintro e w4 ⟨rfl,hb⟩;have hI:=ζ (hH.out.call hb);clear hb hH;go_wp2;go_ret;exact⟨rfl,hI.out.be⟩
end
def fwG (op:Int->Int->Int) (l:Nat->Int) (s:Int):Nat->Int
 | 0=>l 0
 | i+1=>op (l (i+1)) (fwG op l s i+s)
def bkG (op:Int->Int->Int) (l:Nat->Int) (s:Int) (n:Nat):Nat->Int
 | 0=>fwG op l s (n - 1)
 | i+1=>op (fwG op l s (n - 1 - (i+1))) (bkG op l s n i+s)
def folL (op:Int->Int->Int) (s:Int) (l:List Int):List Int:=(List.range l.length).map fun i=>bkG op (bX l) s l.length (l.length - 1 - i)
theorem folL_len (op:Int->Int->Int) (s:Int) (l:List Int):(folL op s l).length=l.length:=by unfold folL;rw [List.length_map,List.length_range]
theorem folL_at {op:Int->Int->Int} {s:Int} {l:List Int} {i:Nat} (h:i < l.length):bX (folL op s l) i=bkG op (bX l) s l.length (l.length - 1 - i):=by
 rw [bX_at (by rw [folL_len];exact h)];unfold folL;rw [List.getElem_map,List.getElem_range]
theorem bX_set {L:List Int} {k i:Nat} {v:Int} (hk:k < L.length):bX (L.set k v) i=if i=k then v else bX L i:=by
 unfold bX;rw [List.getD_eq_getElem?_getD,List.getD_eq_getElem?_getD,List.getElem?_set]
 split
 ·rename_i h;subst h;rw [if_pos rfl];simp
 ·rename_i h;rw [if_neg (fun e=>h e.symm)]
theorem bX_ext {L K:List Int} (h:L.length=K.length) (he:∀i,i < L.length->bX L i=bX K i):L=K:=by
 refine List.ext_getElem h fun i h1 h2=>?_;have:=he i h1;rwa [bX_at h1,bX_at h2]at this
variable {op:Int->Int->Int} {l L:List Int} {s:Int}
theorem fol_step1 {k:Nat} (hl:L.length=l.length) (hk:k+1 < l.length) (h:∀i,i < l.length->bX L i=if i < k+1 then fwG op (bX l) s i else bX l i) {x y:Int} (hx:bX L (k+1)=x) (hy:bX L k=y):
  ∀i,i < l.length->bX (L.set (k+1) (op x (y+s))) i=if i < k+1+1 then fwG op (bX l) s i else bX l i:=fun i hi=>by
 rw [bX_set (by omega)];rw [h _ hk,if_neg (by omega)]at hx;rw [h _ (by omega),if_pos (by omega)]at hy
 split
 ·rename_i e;subst e;rw [if_pos (by omega),<-hx,<-hy];rfl
 ·rename_i e;rw [h i hi];by_cases e1:i < k+1
  ·rw [if_pos e1,if_pos (by omega)]
  ·rw [if_neg e1,if_neg (by omega)]
theorem fol_step2 {m:Nat} (hl:L.length=l.length) (hm:m+1 < l.length) (h:∀i,i < l.length->bX L i=if m+1<=i then bkG op (bX l) s l.length (l.length - 1 - i)else fwG op (bX l) s i) {x y:Int} (hx:bX L m=x) (hy:bX L (m+1)=y):
  ∀i,i < l.length->bX (L.set m (op x (y+s))) i=if m<=i then bkG op (bX l) s l.length (l.length - 1 - i)else fwG op (bX l) s i:=fun i hi=>by
 rw [bX_set (by omega)];rw [h _ (by omega),if_neg (by omega)]at hx;rw [h _ hm,if_pos (Nat.le_refl _)]at hy
 split
 ·rename_i e;subst e;rw [if_pos (Nat.le_refl _),<-hx,<-hy,show l.length - 1 - i=(l.length - 1 - (i+1))+1 by omega];show _=op (fwG op (bX l) s (l.length - 1 - (l.length - 1 - (i+1)+1))) _;rw [show l.length - 1 - (l.length - 1 - (i+1)+1)=i by omega]
 ·rename_i e;rw [h i hi];by_cases e1:m+1<=i
  ·rw [if_pos e1,if_pos (by omega)]
  ·rw [if_neg e1,if_neg (by omega)]
def Picks (op:Int->Int->Int):Prop:=∀x y,op x y=x\/op x y=y
theorem fwG_bd (ho:Picks op) {f:Nat->Int} (hf:∀i,-200000<=f i/\f i<=200000) (hs: -3000<=s/\s<=3000):∀i:Nat,-200000 - 3000*(i:Int)<=fwG op f s i/\fwG op f s i<=200000+3000*(i:Int)
 | 0=>by have:=hf 0;unfold fwG;omega
 | i+1=>by
   have h1:=hf (i+1);have h2:=fwG_bd ho hf hs i;unfold fwG;rcases ho (f (i+1)) (fwG op f s i+s)with e | e<;>rw [e]<;>omega
theorem bkG_bd (ho:Picks op) {f:Nat->Int} (hf:∀i,-200000<=f i/\f i<=200000) (hs: -3000<=s/\s<=3000) {n:Nat} (hn:n<=100):∀i:Nat,-500000 - 3000*(i:Int)<=bkG op f s n i/\bkG op f s n i<=500000+3000*(i:Int)
 | 0=>by have:=fwG_bd ho hf hs (n - 1);unfold bkG;omega
 | i+1=>by
   have h1:=fwG_bd ho hf hs (n - 1 - (i+1));have h2:=bkG_bd ho hf hs hn i;unfold bkG;rcases ho (fwG op f s (n - 1 - (i+1))) (bkG op f s n i+s)with e | e<;>rw [e]<;>omega
theorem fol_bd {m:Nat} (ho:Picks op) (hf:∀i,-200000<=bX l i/\bX l i<=200000) (hs: -3000<=s/\s<=3000) (hn:l.length<=100) (h:∀i,i < l.length->bX L i=if m<=i then bkG op (bX l) s l.length (l.length - 1 - i)else fwG op (bX l) s i) {i:Nat} (hi:i < l.length): -1000000<=bX L i/\bX L i<=1000000:=by
 rw [h i hi];have h1:=bkG_bd ho hf hs hn (l.length - 1 - i);have h2:=fwG_bd ho hf hs i
 split<;>omega
theorem fol_bd1 {k:Nat} (ho:Picks op) (hf:∀i,-200000<=bX l i/\bX l i<=200000) (hs: -3000<=s/\s<=3000) (hn:l.length<=100) (h:∀i,i < l.length->bX L i=if i < k then fwG op (bX l) s i else bX l i) {i:Nat} (hi:i < l.length): -1000000<=bX L i/\bX L i<=1000000:=by
 rw [h i hi];have h1:=hf i;have h2:=fwG_bd ho hf hs i
 split<;>omega
theorem L1_set (L:List Int) (k:Nat) (v:Int):(L1 L).set k (.int .i64 v)=L1 (L.set k v):=by unfold L1;rw [List.map_set]
def PickC (op:Int->Int->Int) (g:Nat) (cb:Array Value):Prop:=Picks op/\∀ (W:World) (x y:Int),Calls Tryz.prog g (#[.int .i64 x,.int .i64 y]++cb) W (Gives (.int .i64 (op x y)) W)
section
variable (w W:World)
theorem mW13_0 {P_:Prop} (h:P_:=by
 try simp only [zP]
 refine rdy1 14 rfl (fun Kq AA=>?_);go_simp;refine(AV.out _).mono ?_;rintro e wT ⟨rfl,hb⟩;(try go_wp2_with fail);refine stepZ AA (show Sy w _ [] [⟨.slice (some ⟨g,0,none⟩) l.length c,3,1,l.length,L1 L⟩] []from(AJ.out.call hb)) (fun _ hX=>trivial) ?_;intro A0 AD AK;clear AA Kq AJ hb AO;try simp only [zP]
 refine tkA 15 rfl AK ?_;try simp only [zP]
 refine rdy1 16 rfl (fun Kq AA=>?_);have cQ0:=AD.out.rcell 0 rfl HX.out;have fQ0:=AD.out.rfree 0 rfl n1;go_simp;refine stepZ AA (show Sy w _ [] [⟨.slice (some ⟨g,0,none⟩) l.length c,3,1,l.length,(L1 L).set n1 (.int .i64 v)⟩] []from(AD.out.ostore 0 rfl n1 (.int .i64 v))) (fun _ hX=>trivial) ?_;intro A1 AS AW;clear AA Kq AD cQ0 fQ0 AK;try simp only [Act.put]
 refine wpAnyH_done (by kernel_rfl) ?_ _;have hJ:=ζ AS.out;rw [AU.out]at hJ;go_wp2;go_roundw
 case rel=>exact⟨n1,L.set n1 v,by have:=A7.out;omega,by rw [List.length_set];exact hL,by go_num,AR,hJ⟩
 case measure=>simp [intOf];omega):P_:=h
theorem mW13_1 {P_:Prop} (h:P_:=by
 try simp only [zP]
 refine rdy1 14 rfl (fun Kq AA=>?_);go_simp;refine(AV.out _).mono ?_;rintro e wT ⟨rfl,hb⟩;(try go_wp2_with fail);refine stepZ AA (show Sy w _ [] [⟨.slice (some ⟨g,0,none⟩) l.length c,3,1,l.length,L1 L⟩] []from(AL.out.call hb)) (fun _ hX=>trivial) ?_;intro A4 AE AM;clear AA Kq AL hb AQ;try simp only [zP]
 refine tkA 15 rfl AM ?_;try simp only [zP]
 refine rdy1 16 rfl (fun Kq AA=>?_);have cQ0:=AE.out.rcell 0 rfl HX.out;have fQ0:=AE.out.rfree 0 rfl m;go_simp;refine stepZ AA (show Sy w _ [] [⟨.slice (some ⟨g,0,none⟩) l.length c,3,1,l.length,(L1 L).set m (.int .i64 v)⟩] []from(AE.out.ostore 0 rfl m (.int .i64 v))) (fun _ hX=>trivial) ?_;intro A5 AT AX;clear AA Kq AE cQ0 fQ0 AM;try simp only [Act.put]
 refine wpAnyH_done (by kernel_rfl) ?_ _;have hJ:=ζ AT.out;rw [AU.out]at hJ;go_wp2;go_roundw
 case rel=>exact⟨m,L.set m v,by have:=A9.out;omega,by rw [List.length_set];exact hL,rfl,AR,hJ⟩
 case measure=>simp [intOf]):P_:=h
theorem follow_any (g c:Nat) (l:List Int) (s:Int) (op:Int->Int->Int) (pk:Nat) (hp:PickC op pk #[]) (eg:EG pk) (hn0:0 < l.length) (hn:l.length<=100) (_hcap:l.length<=c/\c<=maxLen) (hf:∀i,-200000<=bX l i/\bX l i<=200000) (hs: -3000<=s/\s<=3000)
  (hS:Sy w W [] [⟨.slice (some ⟨g,0,none⟩) l.length c,3,1,l.length,L1 l⟩] []):
  Calls Tryz.prog 121 #[.slice (some ⟨g,0,none⟩) l.length c,.int .i64 s,.func (.func pk) #[] #[]] W
   (fun e w'=>e= .returned (.slice (some ⟨g,0,none⟩) l.length c)/\Sy w w' [] [⟨.slice (some ⟨g,0,none⟩) l.length c,3,1,l.length,L1 (folL op s l)⟩] []):=by
 have HF:=ζ hf;have HP:=ζ hp;have hC:=ζ hS;unfold maxLen at _hcap;clear hf hp hS;go_enter Tryz.func121,Tryz.ntmps121;go_wp2;go_loopw [7] (fun iv wr=>∃ (k:Nat) (L:List Int),k+1<=l.length/\L.length=l.length/\iv= .int .i64 ((k+1:Nat):Int)/\Hid (∀i,i < l.length->bX L i=if i < k+1 then fwG op (bX l) s i else bX l i)/\Hid (Sy w wr [] [⟨.slice (some ⟨g,0,none⟩) l.length c,3,1,l.length,L1 L⟩] [])) (fun iv _=>l.length - (intOf iv).toNat)
 case atStart=>exact⟨0,l,by omega,rfl,rfl,ζ (fun i hi=>by
  split
  ·obtain rfl:i=0:=by omega
   rfl
  ·rfl),hC⟩
 case round=>
  clear hC;obtain ⟨k,L,hk,hL,rfl,HV,hS⟩:=hrel;by_cases hlt:k+1 < l.length
  ·have HX:=ζ (show(L1 L)[k+1]? =some (.int .i64 (bX L (k+1)))by rw [bX_at (by omega)];exact L1_get L (k+1) (by omega));have HY:=ζ (show(L1 L)[k]? =some (.int .i64 (bX L k))by rw [bX_at (by omega)];exact L1_get L k (by omega));have hb:=fol_bd1 HP.out.1 HF.out hs hn HV.out (show k < l.length by omega);have A6:=ζ (fun x y (hx:bX L (k+1)=x) (hy:bX L k=y)=>fol_step1 hL hlt HV.out hx hy);have AR:=ζ (A6.out _ _ rfl rfl);clear A6 HV;generalize bX L (k+1)=x at*;generalize bX L k=y at*;have AV:=ζ (fun V=>HP.out.2 V x (y+s));have AU:=ζ (L1_set L (k+1) (op x (y+s)));generalize op x (y+s)=v at*;have w1:IntKind.i64.wrap (y+s)=y+s:=IntWalk.i64_in _ (by omega);obtain ⟨n1,hn1⟩:∃n1:Nat,n1=k+1:=⟨_,rfl⟩
   rw [<-hn1]at HX AR AU hlt⊢;have i2:IntKind.i64.wrap ((n1:Int) - 1)=(k:Int):=(by rw [IntWalk.i64_in _ (by omega)];omega);have i0:(0:Int)<=(k:Int):=(by omega);have i1:(k:Int) < (l.length:Int):=(by omega);have i3:(0:Int)<=(n1:Int):=(by omega);have i4:(n1:Int) < (l.length:Int):=(by omega);have A7:=ζ hn1;clear hn1 hk;go_upto_region 4 with fail
   refine wp_region_held_drew (S:=(fun w'=>True)) (by kernel_rfl) trivial (fun hH=>?_);refine wpAnyH_geny (show Sy w _ [] [⟨.slice (some ⟨g,0,none⟩) l.length c,3,1,l.length,L1 L⟩] []from hS.out.drew) hH ?_;intro Ab hc AB;have AH:=ζ hc;clear hc hH hS;refine tkA 0 rfl AB ?_;(try simp only [zP]);refine tkA 1 rfl AB ?_;(try simp only [zP]);refine tkA 2 rfl AB ?_;(try simp only [zP]);refine tkA 3 rfl AB ?_;(try simp only [zP]);refine tkA 4 rfl AB ?_;(try simp only [zP]);refine tkA 5 rfl AB ?_;(try simp only [zP]);refine tkA 7 rfl AB ?_;(try simp only [zP]);refine tkA 8 rfl AB ?_;(try simp only [zP]);refine tkA 9 rfl AB ?_;(try simp only [zP]);refine tkA 10 rfl AB ?_;(try simp only [zP]);refine tkA 12 rfl AB ?_;(try simp only [zP]);refine rdyL [6,11] ?_;refine arc rfl (fun Kq AA=>?_) ?_
   ·have cQ0:=AH.out.rcell 0 rfl HX.out;go_simp;refine stepZ AA (show Sy w _ [] [⟨.slice (some ⟨g,0,none⟩) l.length c,3,1,l.length,L1 L⟩] []from AH.out) (fun _ hX=>trivial) ?_;intro AY AF AN;clear AA Kq AH cQ0 AB;(try simp only [zP]);refine rdy1 11 rfl (fun Kq AA=>?_);have cQ0:=AF.out.rcell 0 rfl HY.out;go_simp;refine stepZ AA (show Sy w _ [] [⟨.slice (some ⟨g,0,none⟩) l.length c,3,1,l.length,L1 L⟩] []from AF.out) (fun _ hX=>trivial) ?_;intro AZ AJ AO;clear AA Kq AF cQ0 AN;(try simp only [zP]);refine tkA 13 rfl AO ?_;exact mW13_0
   refine arc rfl (fun Kq AA=>?_) ?_
   ·have cQ0:=AH.out.rcell 0 rfl HY.out;go_simp;refine stepZ AA (show Sy w _ [] [⟨.slice (some ⟨g,0,none⟩) l.length c,3,1,l.length,L1 L⟩] []from AH.out) (fun _ hX=>trivial) ?_;intro AY AF AN;clear AA Kq AH cQ0 AB;(try simp only [zP]);refine tkA 13 rfl AN ?_;(try simp only [zP]);refine rdy1 6 rfl (fun Kq AA=>?_);have cQ0:=AF.out.rcell 0 rfl HX.out;go_simp;refine stepZ AA (show Sy w _ [] [⟨.slice (some ⟨g,0,none⟩) l.length c,3,1,l.length,L1 L⟩] []from AF.out) (fun _ hX=>trivial) ?_;intro AZ AJ AO;clear AA Kq AF cQ0 AN;exact mW13_0
   exact AllReadyH.nil
  ·have hkl:k+1=l.length:=(by omega);rw [hkl]at HV⊢;clear hlt hkl;have A8:=ζ (show ∀i,i < l.length->bX L i=if l.length - 1<=i then bkG op (bX l) s l.length (l.length - 1 - i)else fwG op (bX l) s i from fun i hi=>by
    rw [HV.out i hi,if_pos (by omega)]
    split
    ·obtain rfl:i=l.length - 1:=by omega
     rw [Nat.sub_self];rfl
    ·rfl)
   have j0:IntKind.i64.wrap ((l.length:Int) - 2)=(l.length:Int) - 2:=IntWalk.i64_in _ (by omega);clear HV hk;go_wp2;go_loopw [8] (fun iv wr=>∃ (m:Nat) (L:List Int),m+1<=l.length/\L.length=l.length/\iv= .int .i64 ((m:Int) - 1)/\Hid (∀i,i < l.length->bX L i=if m<=i then bkG op (bX l) s l.length (l.length - 1 - i)else fwG op (bX l) s i)/\Hid (Sy w wr [] [⟨.slice (some ⟨g,0,none⟩) l.length c,3,1,l.length,L1 L⟩] [])) (fun iv _=>(intOf iv+1).toNat)
   case atStart=>exact⟨l.length - 1,L,by omega,hL,by congr 1;omega,A8,hS⟩
   case round=>
    clear hS A8 hL L j0;obtain ⟨m',L,hm,hL,rfl,HV,hS⟩:=hrel;rcases Nat.eq_zero_or_pos m' with hm0 | hm0
    ·subst hm0;have HL:=ζ (show L=folL op s l from bX_ext (by rw [hL,folL_len]) fun i hi=>by rw [HV.out i (by omega),if_pos (Nat.zero_le _),folL_at (by omega)]);go_wp2;go_ret;refine⟨rfl,?_⟩;rw [<-HL.out];exact hS.out
    ·obtain ⟨m,rfl⟩:∃m,m'=m+1:=⟨m' - 1,by omega⟩
     have e0:(((m+1:Nat):Int)) - 1=(m:Int):=(by omega);rw [e0];have HX:=ζ (show(L1 L)[m]? =some (.int .i64 (bX L m))by rw [bX_at (by omega)];exact L1_get L m (by omega));have HY:=ζ (show(L1 L)[m+1]? =some (.int .i64 (bX L (m+1)))by rw [bX_at (by omega)];exact L1_get L (m+1) (by omega));have hb:=fol_bd HP.out.1 HF.out hs hn HV.out (show m+1 < l.length by omega);have AR:=ζ (fol_step2 hL (by omega) HV.out (m:=m) rfl rfl);clear HV e0;generalize bX L (m+1)=y at*;generalize bX L m=x at*;have AV:=ζ (fun V=>HP.out.2 V x (y+s));have AU:=ζ (L1_set L m (op x (y+s)));generalize op x (y+s)=v at*;have w1:IntKind.i64.wrap (y+s)=y+s:=IntWalk.i64_in _ (by omega);have A9:=ζ hm;obtain ⟨n1,hn1⟩:∃n1:Nat,n1=m+1:=⟨_,rfl⟩
     rw [<-hn1]at HY hm;have i2:IntKind.i64.wrap ((m:Int)+1)=(n1:Int):=(by rw [IntWalk.i64_in _ (by omega)];omega);have i5:IntKind.i64.wrap ((m:Int) - 1)=(m:Int) - 1:=IntWalk.i64_in _ (by omega);have i0:(0:Int)<=(m:Int):=(by omega);have i1:(m:Int) < (l.length:Int):=(by omega);have i3:(0:Int)<=(n1:Int):=(by omega);have i4:(n1:Int) < (l.length:Int):=(by omega);clear hn1 hm hm0;go_upto_region 8 with fail
     refine wp_region_held_drew (S:=(fun w'=>True)) (by kernel_rfl) trivial (fun hH=>?_);refine wpAnyH_geny (show Sy w _ [] [⟨.slice (some ⟨g,0,none⟩) l.length c,3,1,l.length,L1 L⟩] []from hS.out.drew) hH ?_;intro Ac hc AC;have AI:=ζ hc;clear hc hH hS;refine tkA 0 rfl AC ?_;(try simp only [zP]);refine tkA 1 rfl AC ?_;(try simp only [zP]);refine tkA 2 rfl AC ?_;(try simp only [zP]);refine tkA 3 rfl AC ?_;(try simp only [zP]);refine tkA 4 rfl AC ?_;(try simp only [zP]);refine tkA 5 rfl AC ?_;(try simp only [zP]);refine tkA 7 rfl AC ?_;(try simp only [zP]);refine tkA 8 rfl AC ?_;(try simp only [zP]);refine tkA 9 rfl AC ?_;(try simp only [zP]);refine tkA 10 rfl AC ?_;(try simp only [zP]);refine tkA 12 rfl AC ?_;(try simp only [zP]);refine rdyL [6,11] ?_;refine arc rfl (fun Kq AA=>?_) ?_
     ·have cQ0:=AI.out.rcell 0 rfl HX.out;go_simp;refine stepZ AA (show Sy w _ [] [⟨.slice (some ⟨g,0,none⟩) l.length c,3,1,l.length,L1 L⟩] []from AI.out) (fun _ hX=>trivial) ?_;intro A2 AG AP;clear AA Kq AI cQ0 AC;(try simp only [zP]);refine rdy1 11 rfl (fun Kq AA=>?_);have cQ0:=AG.out.rcell 0 rfl HY.out;go_simp;refine stepZ AA (show Sy w _ [] [⟨.slice (some ⟨g,0,none⟩) l.length c,3,1,l.length,L1 L⟩] []from AG.out) (fun _ hX=>trivial) ?_;intro A3 AL AQ;clear AA Kq AG cQ0 AP;(try simp only [zP]);refine tkA 13 rfl AQ ?_;exact mW13_1
     refine arc rfl (fun Kq AA=>?_) ?_
     ·have cQ0:=AI.out.rcell 0 rfl HY.out;go_simp;refine stepZ AA (show Sy w _ [] [⟨.slice (some ⟨g,0,none⟩) l.length c,3,1,l.length,L1 L⟩] []from AI.out) (fun _ hX=>trivial) ?_;intro A2 AG AP;clear AA Kq AI cQ0 AC;(try simp only [zP]);refine tkA 13 rfl AP ?_;(try simp only [zP]);refine rdy1 6 rfl (fun Kq AA=>?_);have cQ0:=AG.out.rcell 0 rfl HX.out;go_simp;refine stepZ AA (show Sy w _ [] [⟨.slice (some ⟨g,0,none⟩) l.length c,3,1,l.length,L1 L⟩] []from AG.out) (fun _ hX=>trivial) ?_;intro A3 AL AQ;clear AA Kq AG cQ0 AP;exact mW13_1
     exact AllReadyH.nil
end
theorem picks_min:Picks min:=fun x y=>by omega
theorem picks_max:Picks max:=fun x y=>by omega
theorem feet1_any:PickC min 62 #[]:=⟨picks_min,fun W x y=>by
 show Calls _ _ #[.int .i64 x,.int .i64 y] _ _;rcases Int.lt_or_le y x with h | h
 ·go_enter Tryz.func62,Tryz.ntmps62;go_wp2;go_ret;exact⟨ret_int (by omega),Below.refl _ _⟩
 ·have h2:¬ y < x:=by omega
  go_enter Tryz.func62,Tryz.ntmps62;go_wp2;go_ret;exact⟨ret_int (by omega),Below.refl _ _⟩⟩
theorem heads1_any:PickC max 64 #[]:=⟨picks_max,fun W x y=>by
 show Calls _ _ #[.int .i64 x,.int .i64 y] _ _;rcases Int.lt_or_le x y with h | h
 ·go_enter Tryz.func64,Tryz.ntmps64;go_wp2;go_ret;exact⟨ret_int (by omega),Below.refl _ _⟩
 ·have h2:¬ x < y:=by omega
  go_enter Tryz.func64,Tryz.ntmps64;go_wp2;go_ret;exact⟨ret_int (by omega),Below.refl _ _⟩⟩
theorem eg_feet1:EG 62:=enters_of Tryz.func62 (by kernel_rfl) rfl
theorem eg_heads1:EG 64:=enters_of Tryz.func64 (by kernel_rfl) rfl
theorem eg_foot:EG 61:=enters_of Tryz.func61 (by kernel_rfl) rfl
theorem eg_head:EG 63:=enters_of Tryz.func63 (by kernel_rfl) rfl
def lvErr (l:List Pt) (bs:List Int) (far rise:Int):Int:=if brkB l bs=true then(if inB far 0 3000 && inB rise 0 3000 then 0 else 3)else 2
def RetLv (w:World) (k:Int) (vs:List Int) (e:Ending) (w':World):Prop:=
 (k=0/\∃a c,e= .returned (.tuple #[.slice a vs.length c,.int .i64 0])/\w'.ownsRow w.heap.size 3 1 (.slice a vs.length c) vs.length (L1 vs)/\Below w.heap.size w w')\/
 (k≠0/\e= .returned (.tuple #[.slice none 0 0,.int .i64 k])/\Below w.heap.size w w')
theorem tdC_get {v:Value} {ts:List (Int×Int)} {k:Nat} (h:k < ts.length):(tdC v ts)[k*3]? =some v/\(tdC v ts)[k*3+1]? =some (.int .i64 ts[k].1)/\(tdC v ts)[k*3+2]? =some (.int .i64 ts[k].2):=
 ⟨flat_get (k:=3) (f:=fun t:Int×Int=>[v,.int .i64 t.1,.int .i64 t.2]) (fun _=>rfl) ts k 0 h (by omega),flat_get (k:=3) (f:=fun t:Int×Int=>[v,.int .i64 t.1,.int .i64 t.2]) (fun _=>rfl) ts k 1 h (by omega),flat_get (k:=3) (f:=fun t:Int×Int=>[v,.int .i64 t.1,.int .i64 t.2]) (fun _=>rfl) ts k 2 h (by omega)⟩
section
variable (w:World)
theorem levels_any (sa:OA) (sn sc:Nat) (l:List Pt) (hs:Sx 2 w sa sn sc (L2 l)) (ba:OA) (bn bc:Nat) (bs:List Int) (hb:Sx 1 w ba bn bc (L1 bs)) (far rise step:Int) (hst:(0<=rise/\rise<=3000)-> -3000<=step/\step<=3000)
  (lv pk:Nat) (f:Int×Int->Int) (op:Int->Int->Int) (hp:PickC op pk #[]) (ep:EG pk) (el:EG lv)
  (hl:brkB l bs=true->(0<=far/\far<=3000)->∀W,Below w.heap.size w W->∀t∈nbr bs,Calls Tryz.prog lv (#[.agg #[.slice sa sn sc,.int .i64 t.1,.int .i64 t.2],.int .i64 far]++ #[]) W (Gives (.int .i64 (f t)) W)/\ -200000<=f t/\f t<=200000):
  Calls Tryz.prog 60 #[.slice sa sn sc,.slice ba bn bc,.int .i64 far,.int .i64 rise,.int .i64 step,.func (.func lv) #[] #[],.func (.func pk) #[] #[]] w (RetLv w (lvErr l bs far rise) (folL op step ((nbr bs).map f))):=by
 have HT:=ζ (fun W (hW:Below w.heap.size w W)=>treads_any W sa sn sc l (hs.below hW) ba bn bc bs (hb.below hW));have HL:=ζ hl;have HE:=ζ (show lvErr l bs far rise=if brkB l bs=true then(if inB far 0 3000 && inB rise 0 3000 then 0 else 3)else 2 from rfl);have hln:brkB l bs=true->2<=bs.length/\bs.length<=61:=fun h=>by
  unfold brkB at h;rw [Bool.and_eq_true,Bool.and_eq_true]at h;have:=inB_iff.1 h.2.1;omega
 generalize lvErr l bs far rise=er at*;generalize brkB l bs=ok at*;have hC:=ζ (Sy.enter w);clear hs hb hl;go_enter Tryz.func60,Tryz.ntmps60;go_wp2_with fail
 refine(HT.out _ hC.out.be).mono ?_;rintro e w1 (⟨h1,a,c,rfl,hr,hbb⟩ | ⟨h1,rfl,hbb⟩);rotate_left
 ·have hD:=ζ (hC.out.call hbb);have he:=HE.out;rw [h1,if_neg (by decide)]at he;clear HE HL hC hbb HT;subst he;go_wp2;go_ret2;exact .inr ⟨by decide,rfl,hD.out.be⟩
 obtain ⟨hl1,hl2⟩:=hln h1;have hD:=ζ (hC.out.adopt hbb hr);have he:=HE.out;rw [if_pos h1]at he;have AA:=ζ he;have AB:=ζ (HL.out h1);clear HE HL hC hbb HT he h1 hr hln;cases q1:inB far 0 3000
 ·have he:=AA.out;rw [q1,Bool.false_and,if_neg (by decide)]at he;clear AA AB;subst he;go_wp2_with ((with_reducible refine(hwithin_any _ _ _ _).mono ?_);rintro e w2 ⟨rfl,rfl⟩)
  go_ret2;exact .inr ⟨by decide,rfl,hD.out.be⟩
 cases q2:inB rise 0 3000
 ·have he:=AA.out;rw [q1,q2,Bool.and_false,if_neg (by decide)]at he;clear AA AB;subst he;go_wp2_with ((with_reducible refine(hwithin_any _ _ _ _).mono ?_);rintro e w2 ⟨rfl,rfl⟩)
  go_ret2;exact .inr ⟨by decide,rfl,hD.out.be⟩
 have he:=AA.out;rw [q1,q2,Bool.and_true,if_pos rfl]at he;have AC:=ζ (AB.out (inB_iff.1 q1));have hs2:=hst (inB_iff.1 q2);clear AA AB;subst he;go_wp2_with ((with_reducible refine(hwithin_any _ _ _ _).mono ?_);rintro e w2 ⟨rfl,rfl⟩)
 have HN:=ζ (nbr_len bs);have HM:=ζ (show ∀k (h:k < (nbr bs).length),(nbr bs)[k]∈nbr bs from fun k h=>List.getElem_mem h);have AD:=ζ (fun k (h:k < (nbr bs).length)=>tdC_get (v:= .slice sa sn sc) h);obtain ⟨nn,hnn⟩:∃nn,bs.length - 1=nn:=⟨_,rfl⟩
 rw [hnn]at hD HN⊢;have hn1:0 < nn/\nn<=60:=by omega
 clear hl1 hl2 hnn q1 q2;obtain ⟨g,hga,hnc⟩:=hD.out.oaddr 0 rfl hn1.1;subst hga;go_loopw [42,18] (fun iv sv wr=>∃k:Nat,∃a2 c2,k<=nn/\iv= .int .i64 k/\sv= .slice a2 k c2/\Hid (Sy w wr [] [⟨.slice (some ⟨g,0,none⟩) nn c,120,3,nn,tdC (.slice sa sn sc) (nbr bs)⟩,⟨.slice a2 k c2,3,1,k,L1 (((nbr bs).map f).take k)⟩] [])) (fun iv _ _=>nn - (intOf iv).toNat)
 case atStart=>exact⟨0,none,0,Nat.zero_le _,rfl,rfl,ζ (hD.out.onil 3 1)⟩
 case round=>
  clear hD;obtain ⟨k,a2,c2,hk,rfl,rfl,hS⟩:=hrel;by_cases hkl:k < nn
  ·have hkn:k < (nbr bs).length:=(by rw [HN.out];exact hkl);obtain ⟨t0,t1,t2⟩:=AD.out k hkn;obtain ⟨hcall,hbd⟩:=(show(∀W,Below w.heap.size w W->Calls Tryz.prog lv #[.agg #[.slice sa sn sc,.int .i64 (nbr bs)[k].1,.int .i64 (nbr bs)[k].2],.int .i64 far] W (Gives (.int .i64 (f (nbr bs)[k])) W))/\True from⟨fun W hW=>(AC.out W hW _ (HM.out k hkn)).1,trivial⟩)
   have AE:=ζ hcall;have AL:=ζ (show L1 (((nbr bs).map f).take (k+1))=L1 (((nbr bs).map f).take k)++ [.int .i64 (f (nbr bs)[k])]by
    rw [List.take_succ_eq_append_getElem (by rw [List.length_map];exact hkn),List.getElem_map];unfold L1;rw [List.map_append];rfl)
   clear hcall hbd;generalize f (nbr bs)[k]=v at*;generalize (nbr bs)[k]=t at*;obtain ⟨u1,u2⟩:=t;dsimp only at t1 t2 AE;have c0:=hS.out.rcell 0 rfl t0;have c1:=hS.out.rcell 0 rfl t1;have c2':=hS.out.rcell 0 rfl t2;have i0:(0:Int)<=(k:Int):=(by omega);have i1:(k:Int) < (nn:Int):=(by omega);have hE:=ζ (hS.out.al wr.heap.size #[.slice sa sn sc,.int .i64 u1,.int .i64 u2] 120 rfl);clear t0 t1 t2;go_upto_region 10 with fail
   refine wp_geny hE.out ?_;intro V1 hc;have hG:=ζ hc;clear hc hE hS c0 c1 c2';generalize wr.heap.size=bb at*;have c0:=hG.out.c 0 0;have c1:=hG.out.c 0 1;have c2':=hG.out.c 0 2;go_wp2_with fail
   refine(AE.out _ hG.out.be).mono ?_;rintro e w3 ⟨rfl,hb3⟩;have hH:=ζ (hG.out.call hb3);clear hb3 hG c0 c1 c2';go_wp2_with (refine wpList_append_sy (o:=⟨some 52,_,_,_,_,_⟩) rfl (hH.out.onew w3.heap.size #[.int .i64 v] 3 1 1 rfl (by omega) rfl) 1 2 rfl rfl _ _ _ rfl und_hint info_hint rfl (by omega) rfl rfl (by intro u hu;simp at hu;rcases hu with rfl;rfl) (by omega) (by omega) ?_;intro a3 c3 V3 AF;have hJ:=ζ AF;clear AF hH)
   have hK:=ζ (hJ.out.thin (bs':=[]) (List.nil_sublist _) (List.Sublist.cons_cons _ (List.Sublist.cons_cons _ (List.nil_sublist _))));clear hJ;go_roundw
   case rel=>exact⟨k+1,a3,c3,by omega,by go_num,rfl,by rw [AL.out];exact hK⟩
   case measure=>simp [intOf];omega
  ·obtain rfl:k=nn:=by omega
   have hJ:=ζ (hS.out.thin (bs':=[]) (os':=[⟨.slice a2 k c2,3,1,k,L1 (((nbr bs).map f).take k)⟩]) (List.Sublist.refl _) (List.Sublist.cons _ (List.Sublist.refl _)));clear hS;have hb2:∀i,-200000<=bX ((nbr bs).map f) i/\bX ((nbr bs).map f) i<=200000:=fun i=>by
    rcases Nat.lt_or_ge i ((nbr bs).map f).length with h | h
    ·rw [bX_at h,List.getElem_map];exact(AC.out w (Below.refl _ _) _ (HM.out i (by rw [List.length_map]at h;exact h))).2
    ·unfold bX;rw [List.getD_eq_getElem?_getD,List.getElem?_eq_none h];exact⟨by decide,by decide⟩
   have AG:=ζ (show((nbr bs).map f).length=k by rw [List.length_map];exact HN.out);have AH:=ζ (show((nbr bs).map f).take k=(nbr bs).map f from List.take_of_length_le (by rw [AG.out];exact Nat.le_refl _));rw [AH.out]at hJ;generalize (nbr bs).map f=vs at*;clear AH AC HM AD HN;have hle:=AG.out;subst hle;obtain ⟨g2,hg2,hcc⟩:=hJ.out.oaddr 0 rfl hn1.1;subst hg2;have hmx:c2<=maxLen:=(hJ.out.osx 0 rfl).cap.2;have AI:=ζ (fun V (hV:Sy w V [] [⟨.slice (some ⟨g2,0,none⟩) vs.length c2,3,1,vs.length,L1 vs⟩] [])=>follow_any w V g2 c2 vs step op pk hp ep hn1.1 (by omega) ⟨hcc,hmx⟩ hb2 hs2 hV);have AJ:=ζ (folL_len op step vs);clear hb2;go_wp2_with fail
   refine(AI.out _ hJ.out).mono ?_;rintro e w3 ⟨rfl,hK⟩;have AK:=ζ hK;clear hK hJ AI;go_wp2;go_ret2;refine .inl ⟨rfl,_,c2,by rw [AJ.out];rfl,?_,AK.out.be⟩;rw [AJ.out];exact AK.out.orow 0 rfl
end
theorem brk_ok {l:List Pt} {bs:List Int} (h:brkB l bs=true):Prof l/\(2<=bs.length/\bs.length<=61)/\(∀i,i+1 < bs.length->bX bs i < bX bs (i+1))/\∀x∈bs,hasB l x=true:=by
 unfold brkB at h;rw [Bool.and_eq_true,Bool.and_eq_true,Bool.and_eq_true]at h;have:=inB_iff.1 h.2.1;exact⟨prof_iff.1 h.1,by omega,upI_iff.1 h.2.2.1,List.all_eq_true.1 h.2.2.2⟩
theorem nbr_mem {bs:List Int} {t:Int×Int} (h:t∈nbr bs):∃i,∃hi:i+1 < bs.length,t=(bs[i],bs[i+1]):=by
 obtain ⟨i,hi,rfl⟩:=List.getElem_of_mem h;have hi2:=hi;rw [nbr_len]at hi2;refine⟨i,by omega,?_⟩;have:=nbr_get (l:=bs) (i:=i) (by omega);rw [List.getElem?_eq_getElem hi]at this;exact Option.some.inj this
theorem brk_strt {l:List Pt} {bs:List Int} (h:brkB l bs=true) {t:Int×Int} (ht:t∈nbr bs):Strt l t.1 t.2:=by
 obtain ⟨hP,hn,hu,hh⟩:=brk_ok h;obtain ⟨i,hi,rfl⟩:=nbr_mem ht;have h1:=hu i hi;rw [bX_at hi,bX_at (show i < bs.length by omega)]at h1;have a1:=hh _ (List.getElem_mem (show i < bs.length by omega));have a2:=hh _ (List.getElem_mem hi);unfold hasB at a1 a2;exact⟨hP,(inB_iff.1 a1).1,h1,(inB_iff.1 a2).2⟩
theorem hFeet_any (w:World) (sa:OA) (sn sc:Nat) (l:List Pt) (hs:Sx 2 w sa sn sc (L2 l)) (ba:OA) (bn bc:Nat) (bs:List Int) (hb:Sx 1 w ba bn bc (L1 bs)) (far rise:Int) (hr: -9223372036854775807<=rise) (hr2:rise<=9223372036854775807):
  Calls Tryz.prog 18 #[.slice sa sn sc,.slice ba bn bc,.int .i64 far,.int .i64 rise] w (RetLv w (lvErr l bs far rise) (folL min (rise) ((nbr bs).map fun t=>footI l t.1 t.2 far))):=by
 have HK:=ζ (levels_any w sa sn sc l hs ba bn bc bs hb far rise (rise) (fun h=>by omega) 61 62 (fun t=>footI l t.1 t.2 far) min feet1_any eg_feet1 eg_foot
  (fun hk hf W hW t ht=>⟨foot_any W sa sn sc l t.1 t.2 far (brk_strt hk ht) (by omega) (hs.below hW),by have:=(brk_strt hk ht).lo_gd.floor;unfold footI;omega⟩))
 generalize lvErr l bs far rise=er at*;generalize folL min (rise) ((nbr bs).map fun t=>footI l t.1 t.2 far)=vs at*;have wn:IntKind.i64.wrap (-rise)= -rise:=IntWalk.i64_in _ (by omega);clear hs hb;go_enter Tryz.func18,Tryz.ntmps18;go_wp2_with fail
 refine HK.out.mono ?_;rintro e w1 (⟨h1,a,c,rfl,hr,hbb⟩ | ⟨h1,rfl,hbb⟩)
 ·have HR:=ζ hr;have HB:=ζ hbb;clear hr hbb HK;go_wp2;go_ret2;exact .inl ⟨h1,a,c,rfl,HR.out,HB.out⟩
 ·have HB:=ζ hbb;have H1:=ζ h1;clear hbb HK h1;go_wp2;go_ret2;exact .inr ⟨H1.out,rfl,HB.out⟩
theorem hHeads_any (w:World) (sa:OA) (sn sc:Nat) (l:List Pt) (hs:Sx 2 w sa sn sc (L2 l)) (ba:OA) (bn bc:Nat) (bs:List Int) (hb:Sx 1 w ba bn bc (L1 bs)) (far rise:Int) (hr: -9223372036854775807<=rise) (hr2:rise<=9223372036854775807):
  Calls Tryz.prog 19 #[.slice sa sn sc,.slice ba bn bc,.int .i64 far,.int .i64 rise] w (RetLv w (lvErr l bs far rise) (folL max (-rise) ((nbr bs).map fun t=>headI l t.1 t.2 far))):=by
 have HK:=ζ (levels_any w sa sn sc l hs ba bn bc bs hb far rise (-rise) (fun h=>by omega) 63 64 (fun t=>headI l t.1 t.2 far) max heads1_any eg_heads1 eg_head
  (fun hk hf W hW t ht=>⟨head_any W sa sn sc l t.1 t.2 far (brk_strt hk ht) (by omega) (hs.below hW),by have:=(brk_strt hk ht).hi_gd.ceil;unfold headI;omega⟩))
 generalize lvErr l bs far rise=er at*;generalize folL max (-rise) ((nbr bs).map fun t=>headI l t.1 t.2 far)=vs at*;have wn:IntKind.i64.wrap (-rise)= -rise:=IntWalk.i64_in _ (by omega);clear hs hb;go_enter Tryz.func19,Tryz.ntmps19;go_wp2_with fail
 refine HK.out.mono ?_;rintro e w1 (⟨h1,a,c,rfl,hr,hbb⟩ | ⟨h1,rfl,hbb⟩)
 ·have HR:=ζ hr;have HB:=ζ hbb;clear hr hbb HK;go_wp2;go_ret2;exact .inl ⟨h1,a,c,rfl,HR.out,HB.out⟩
 ·have HB:=ζ hbb;have H1:=ζ h1;clear hbb HK h1;go_wp2;go_ret2;exact .inr ⟨H1.out,rfl,HB.out⟩
def wrongB (n:Nat) (zs:List Int):Bool:=decide (zs.length≠n) || zs.any (fun z=> !inB z (-200000) 200000)
section
variable (w:World)
theorem wrong1_any (z:Int):Calls Tryz.prog 130 #[.int .i64 z] w (Gives (.bool (!inB z (-200000) 200000)) w):=by
 cases h:inB z (-200000) 200000;all_goals
  go_enter Tryz.func130,Tryz.ntmps130;go_wp2_with ((with_reducible refine(hwithin_any _ _ _ _).mono ?_);rintro e w1 ⟨rfl,rfl⟩)
  go_ret;exact⟨rfl,Below.refl _ _⟩
theorem eg_wrong1:EG 130:=enters_of Tryz.func130 (by kernel_rfl) rfl
theorem wrong_any (ta:OA) (tn tc:Nat) (za:OA) (zn zc:Nat) (zs:List Int) (hz:Sx 1 w za zn zc (L1 zs)):Calls Tryz.prog 69 #[.slice ta tn tc,.slice za zn zc] w (Gives (.bool (wrongB tn zs)) w):=by
 obtain rfl:=hz.n1;have HX:=ζ (containsFunc_int za zs.length zc zs 130 #[] (fun z=> !inB z (-200000) 200000) w hz eg_wrong1 (fun W _ x _=>wrong1_any W x));have HW:=ζ (show wrongB tn zs=(decide (zs.length≠tn) || zs.any (fun z=> !inB z (-200000) 200000))from rfl);generalize zs.any (fun z=> !inB z (-200000) 200000)=q at*;clear hz;by_cases h:zs.length=tn
 ·have HR:=ζ (show wrongB tn zs=q by rw [HW.out,decide_eq_false (by omega)];rfl);have h2:(zs.length:Int)=(tn:Int):=by omega
  clear HW h;go_enter Tryz.func69,Tryz.ntmps69;go_wp2_with fail
  refine HX.out.mono ?_;rintro e w1 ⟨rfl,hb⟩;have hB:=ζ hb;clear hb;go_wp2;go_ret;exact⟨ret_bool HR.out.symm,hB.out⟩
 ·have HR:=ζ (show wrongB tn zs=true by rw [HW.out,decide_eq_true (by omega)];rfl);have h2:¬ (zs.length:Int)=(tn:Int):=by omega
  clear HW h HX;go_enter Tryz.func69,Tryz.ntmps69;go_wp2;go_ret;exact⟨ret_bool HR.out.symm,Below.refl _ _⟩
end
def cntX (l:List Pt) (a:Int):Nat:=((l.map (·.x)).filter (fun x=>decide (a < x))).length
theorem filter_two:∀ (xs:List Int) {a b:Int},a < b->(xs.filter (fun x=>decide (a < x) && decide (x < b))).length+(xs.filter (fun x=>decide (b < x))).length<=(xs.filter (fun x=>decide (a < x))).length
 | [],_,_,_=>Nat.le_refl _
 | x::xs,a,b,h=>by
   have ih:=filter_two xs h;rw [List.filter_cons,List.filter_cons,List.filter_cons];by_cases h1:a < x<;>by_cases h2:x < b<;>by_cases h3:b < x
   all_goals
    simp [h1,h2,h3];omega
theorem ins_cnt (l:List Pt) {a b:Int} (h:a < b):(ins l a b).length+cntX l b<=cntX l a:=filter_two _ h
theorem cnt_le (l:List Pt) (a:Int):cntX l a<=l.length:=by unfold cntX;refine Nat.le_trans (List.length_filter_le ..) ?_;rw [List.length_map];exact Nat.le_refl _
theorem Strt.pcs_ins {l:List Pt} {a b:Int} (hT:Strt l a b):(Proofs.YthmdhlopeponcaaGreatDoor.pcs l a b).length=(ins l a b).length+1:=by
 rw [hT.pcs,nbr_len,cor,List.length_cons,List.length_append];simp
def allP (l:List Pt) (ts:List (Int×Int)):List (Int×Int):=ts.flatMap fun t=>pcs l t.1 t.2
theorem allP_len {l:List Pt} :∀ (bs:List Int) (x:Int),(∀t∈nbr (x::bs),Strt l t.1 t.2)->(allP l (nbr (x::bs))).length<=cntX l x+bs.length
 | [],x,_=>Nat.zero_le _
 | y::r,x,h=>by
   have e:nbr (x::y::r)=(x,y)::nbr (y::r):=rfl;rw [e]at h⊢;have h1:=h (x,y) (List.mem_cons_self ..);have ih:=allP_len r y (fun t ht=>h t (List.mem_cons_of_mem _ ht));have h2:=ins_cnt l h1.lt;have h3:=h1.pcs_ins;unfold allP at*;rw [List.flatMap_cons,List.length_append,List.length_cons];dsimp only at*;omega
def digP (bs zs:List Int):List ((Int×Int)×Int):=(nbr bs).zip zs
def digA (l:List Pt) (p:(Int×Int)×Int):Rat:=above l p.1.1 p.1.2 p.2
def digQ (l:List Pt) (bs zs:List Int):Rat:=smQ ((digP bs zs).map (digA l))
theorem digP_len {bs zs:List Int} (h:zs.length=bs.length - 1):(digP bs zs).length=bs.length - 1:=by unfold digP;rw [List.length_zip,nbr_len,h,Nat.min_self]
theorem digP_at {bs zs:List Int} {k:Nat} (h1:k < (nbr bs).length) (h2:k < zs.length) (h3:k < (digP bs zs).length):(digP bs zs)[k]=((nbr bs)[k],zs[k]):=List.getElem_zip
theorem dig_flat (l:List Pt):∀P:List ((Int×Int)×Int),smQ (P.map (digA l))=smQ (P.flatMap fun p=>(pcs l p.1.1 p.1.2).map (pieceA l p.2))
 | []=>rfl
 | p::P=>by
   rw [List.map_cons,List.flatMap_cons,smQ_cons,smQ_app,dig_flat l P];rfl
theorem dig_flat_len (l:List Pt):∀P:List ((Int×Int)×Int),(P.flatMap fun p=>(pcs l p.1.1 p.1.2).map (pieceA l p.2)).length=(allP l (P.map (·.1))).length
 | []=>rfl
 | p::P=>by
   have:=dig_flat_len l P;unfold allP at*;rw [List.flatMap_cons,List.map_cons,List.flatMap_cons,List.length_append,List.length_append,List.length_map,this]
theorem allP_take (l:List Pt) (ts:List (Int×Int)) (k:Nat):(allP l (ts.take k)).length<=(allP l ts).length:=by
 have e:allP l ts=allP l (ts.take k)++allP l (ts.drop k):=by unfold allP;rw [<-List.flatMap_append,List.take_append_drop]
 rw [e,List.length_append];omega
theorem zip_fst:∀ (ts:List (Int×Int)) (zs:List Int),ts.length<=zs.length->(ts.zip zs).map (·.1)=ts
 | [],_,_=>rfl
 | t::ts,[],h=>by simp at h
 | t::ts,z::zs,h=>by
   rw [List.zip_cons_cons,List.map_cons,zip_fst ts zs (by simp at h;exact h)]
theorem dig_bq {l:List Pt} {bs zs:List Int} (h:brkB l bs=true) (hz:∀z∈zs,InZ z) (hl:zs.length=bs.length - 1) (k:Nat):Bq 17800 (smQ (((digP bs zs).take k).map (digA l))):=by
 obtain ⟨hP,⟨h2,h61⟩,-,-⟩:=brk_ok h;rw [dig_flat];have hlen:(((digP bs zs).take k).flatMap fun p=>(pcs l p.1.1 p.1.2).map (pieceA l p.2)).length<=101:=by
  rw [dig_flat_len,List.map_take];refine Nat.le_trans (allP_take l _ k) ?_;unfold digP;rw [zip_fst _ _ (by rw [nbr_len,hl];exact Nat.le_refl _)]
  match bs,h2 with
  | x::r,_=>
    have e:=allP_len (l:=l) r x (fun t ht=>brk_strt h ht);have c:=cnt_le l x;have:=hP.forty;simp only [List.length_cons]at h61;omega
 refine(smQ_bq (N:=174) fun q hq=>?_).mono (by
  have:=Nat.mul_le_mul_right (174+1) hlen;omega)
 obtain ⟨p,hp,hq⟩:=List.mem_flatMap.1 hq;obtain ⟨t,ht,rfl⟩:=List.mem_map.1 hq;have hm:=List.mem_of_mem_take hp;unfold digP at hm;have hm2:=List.of_mem_zip (a:=p.1) (b:=p.2) (by simpa using hm);have hT:=brk_strt h hm2.1;have:=hT.in_pcs ht;exact pieceA_bq hT (hz _ hm2.2) t this.1 this.2.1 this.2.2
section
def putTo (l:List (Int×Int)) (b:Int):List (Int×Int):=match l.getLast? with
 | some t=>l.dropLast++ [(t.1,b)]
 | none=>l
def bayP (br:Nat->Int) (has:Nat->Bool):Nat->List (Int×Int)
 | 0=>[]
 | i+1=>if has i then(if (bayP br has i).getLast?.map (·.2)=some (br i)then putTo (bayP br has i) (br (i+1))else bayP br has i++ [(br i,br (i+1))])else bayP br has i
end
section
open Go.RowKit Go.Shelf Dig
def hasR (feet heads:List Int) (z h:Int) (k:Nat):Bool:=decide (bX feet k<=z) && decide (z+h<=bX heads k)
def baysP (bs feet heads:List Int) (z h:Int) (n:Nat):List (Int×Int):=bayP (bX bs) (hasR feet heads z h) n
def rowOf (z h:Int) (b:List (Int×Int)):List (Int×Int×List (Int×Int)):=if b.length=0 then []else [(z,z+h,b)]
def rowsUp (bs feet heads:List Int) (low h:Int) (n:Nat):Nat->List (Int×Int×List (Int×Int))
 | 0=>[]
 | i+1=>rowsUp bs feet heads low h n i++rowOf (low+i*h) h (baysP bs feet heads (low+i*h) h n)
def rowN (low top h:Int):Nat:=((top - low) / h).toNat
def rowsErr (l:List Pt) (bs feet heads:List Int) (h:Int):Int:=
 if brkB l bs=true then(if inB h 1 3000=true then(if (wrongB (bs.length - 1) feet || wrongB (bs.length - 1) heads)=true then 2 else if 200*h < maxL heads - minL feet then 5 else 0)else 3)else 2
def rowsL (bs feet heads:List Int) (h:Int):List (Int×Int×List (Int×Int)):=rowsUp bs feet heads (minL feet) h (bs.length - 1) (rowN (minL feet) (maxL heads) h)
theorem row_more {low top h:Int} (hh:1<=h) {i:Nat} :i < rowN low top h↔low+i*h+h<=top:=by
 unfold rowN;have e:(i:Int)*h+h=((i:Int)+1)*h:=by rw [Int.add_mul,Int.one_mul]
 rw [show low+i*h+h<=top↔((i:Int)+1)*h<=top - low by rw [<-e];omega,<-Int.le_ediv_iff_mul_le (by omega)];omega
theorem putTo_cells (b:List (Int×Int)) (y:Int) (h:0 < b.length):(L2 b).set ((b.length - 1)*2+1) (.int .i64 y)=L2 (putTo b y):=by
 rcases List.eq_nil_or_concat b with rfl | ⟨L,t,rfl⟩
 ·simp at h
 ·rw [List.concat_eq_append];have e:putTo (L++ [t]) y=L++ [(t.1,y)]:=by simp [putTo]
  rw [e];unfold L2;rw [List.flatMap_append,List.flatMap_append,List.length_append];have hl:(L.flatMap c2).length=L.length*2:=flat_len (f:=c2) (fun _=>rfl) L;rw [show L.length+ [t].length - 1=L.length by simp,List.set_append,if_neg (by omega),hl,show L.length*2+1 - L.length*2=1 by omega];rfl
theorem putTo_len (b:List (Int×Int)) (y:Int):(putTo b y).length=b.length:=by
 rcases List.eq_nil_or_concat b with rfl | ⟨L,t,rfl⟩
 ·rfl
 ·simp [putTo]
structure Rwx where
 low:Int
 high:Int
 ba:Option Addr
 bc:Nat
 bays:List (Int×Int)
def cR (r:Rwx):List Value:=[.int .i64 r.low,.int .i64 r.high,.slice r.ba r.bays.length r.bc]
def LRw (l:List Rwx):List Value:=l.flatMap cR
def nR (r:Rwx):Int×Int×List (Int×Int):=(r.low,r.high,r.bays)
theorem LRw_append (l r:List Rwx):LRw (l++r)=LRw l++LRw r:=List.flatMap_append
def digB (l:List Pt) (bs zs:List Int):Bool:=brkB l bs && !wrongB (bs.length - 1) zs
theorem wrongB_no {n:Nat} {zs:List Int} (h:wrongB n zs=false):zs.length=n/\∀z∈zs,-200000<=z/\z<=200000:=by
 unfold wrongB at h;rw [Bool.or_eq_false_iff]at h;refine⟨by have:=of_decide_eq_false h.1;omega,fun z hz=>?_⟩;have:=List.any_eq_false.1 h.2 z hz;have h2:inB z (-200000) 200000=true:=by cases e:inB z (-200000) 200000<;>simp_all
 exact inB_iff.1 h2
section
variable (w:World)
theorem mW18_0 {P_:Prop} (h:P_:=by
 try simp only [zP]
 refine rdy1 7 rfl (fun Kq AF=>?_);go_simp;go_at_call 40;refine(radd_b (AC.out.r 0 rfl) (AC.out.r 1 rfl) BS.out BA.out (by omega) (by omega)).mono ?_;rintro e wT ⟨a3,n3,c3,m3,d3,e3,f3,rfl,hz,hb⟩;(try go_wp2_with fail);refine stW AF ((AC.out.call hb).pR rfl rfl hz) ?_;intro AT AA AI;clear AF Kq AC hb hz AH;try simp only [zP]
 refine rdy1 8 rfl (fun Kq AF=>?_);have cQ0:=AA.out.c 1 0;have fQ0:=AA.out.f 1 0;have cQ1:=AA.out.c 1 1;have fQ1:=AA.out.f 1 1;have cQ2:=AA.out.c 1 2;have fQ2:=AA.out.f 1 2;go_simp;refine stepZ AF (AA.out|>.set (j:=0) (v:= .slice a3 n3 c3) 1 rfl|>.set (j:=1) (v:= .bool m3) 1 rfl|>.set (j:=2) (v:= .slice d3 e3 f3) 1 rfl) (fun _ hX=>⟨hX.c 2 0,hX.c 2 1,hX.c 2 2,(AO.out _ hX.be),trivial⟩) ?_;intro AU AJ AL;clear AF Kq AA cQ0 fQ0 cQ1 fQ1 cQ2 fQ2 AI;try simp only [Act.put]
 refine wpAnyH_done (by kernel_rfl) ?_ _;refine NoPanic.normal ?_;go_wp2;go_roundw
 case rel=>exact⟨k+1,_,_,_,_,_,_,_,by omega,by go_num,by rw [AK.out];exact ζ ((AJ.out.thin (bs':=[(w.heap.size,zR,42),(b10,#[.slice a3 n3 c3,.bool m3,.slice d3 e3 f3],42)]) (List.sublist_append_left [_,_] _) (List.Sublist.refl _)).pick [2] rfl)⟩
 case measure=>simp [intOf];omega):P_:=h
theorem hDig_ok (sa:OA) (sn sc:Nat) (l:List Pt) (hs:Sx 2 w sa sn sc (L2 l)) (ba:OA) (bn bc:Nat) (bs:List Int) (hb:Sx 1 w ba bn bc (L1 bs)) (za:OA) (zn zc:Nat) (zs:List Int) (hz:Sx 1 w za zn zc (L1 zs)) (hok:digB l bs zs=true):Calls Tryz.prog 26 #[.slice sa sn sc,.slice ba bn bc,.slice za zn zc] w (RetRE w (digQ l bs zs) 0):=by
 have HT:=ζ (fun W (hW:Below w.heap.size w W)=>treads_any W sa sn sc l (hs.below hW) ba bn bc bs (hb.below hW));have AP:=ζ (fun W (hW:Below w.heap.size w W) ta tc=>wrong_any W ta (bs.length - 1) tc za zn zc zs (hz.below hW));have hok2:=hok;unfold digB at hok2;rw [Bool.and_eq_true,Bool.not_eq_true']at hok2;obtain ⟨hk1,hk2⟩:=hok2;obtain ⟨hzl,hzb⟩:=wrongB_no hk2;obtain ⟨-,⟨hl1,hl2⟩,-,-⟩:=brk_ok hk1;rw [hk1]at HT;rw [hk2]at AP;have A3:=ζ (fun k=>dig_bq hk1 (fun z hz=>by have:=hzb z hz;unfold InZ;omega) hzl k);have A4:=ζ (fun W (hW:Below w.heap.size w W) t (ht:t∈nbr bs) z (hz:z∈zs)=>above_any W sa sn sc l t.1 t.2 z (brk_strt hk1 ht) (by have:=hzb z hz;unfold InZ;omega) (hs.below hW));have A5:=ζ (fun t (ht:t∈nbr bs) z (hz:z∈zs)=>(brk_strt hk1 ht).above_bq (z:=z) (by have:=hzb z hz;unfold InZ;omega));have HZ:=ζ (fun W (hW:Below w.heap.size w W)=>hz.below hW);obtain rfl:=hz.n1;have AW:=ζ hz;have AQ:=ζ (digP_len hzl);have AX:=ζ (nbr_len bs);have A6:=ζ (fun k (h:k < (nbr bs).length)=>tdC_get (v:= .slice sa sn sc) h);have AM:=ζ hzl;clear hs hb hz hok hk1 hk2 hzb hzl;have hC:=ζ ((Sy.enter w).al w.heap.size zR 42 rfl);go_enter Tryz.func26,Tryz.ntmps26;go_wp2_with fail
 refine(HT.out _ hC.out.be).mono ?_;rintro e w1 (⟨-,a,c,rfl,hr,hbb⟩ | ⟨h1,-⟩);rotate_left
 ·cases h1
 have hD:=ζ (hC.out.adopt hbb hr);clear hC hbb HT hr;go_wp2_with fail
 refine(AP.out _ hD.out.be _ _).mono ?_;rintro e w2 ⟨rfl,hbb⟩;have hE:=ζ (hD.out.call hbb);clear hD hbb AP;obtain ⟨nn,hnn⟩:∃nn,bs.length - 1=nn:=⟨_,rfl⟩
 rw [hnn]at hE AQ AX AM⊢;have hn1:0 < nn/\nn<=60:=by omega
 obtain ⟨g,hga,hnc⟩:=hE.out.oaddr 0 rfl hn1.1;subst hga;obtain ⟨gz,oz,hza⟩:=AW.out.addr (by rw [AM.out];exact hn1.1);subst hza;clear hnn hl1 hl2 AW;go_upto_region 5 with fail
 have hF:=ζ (hE.out.al w2.heap.size zR 42 rfl);obtain ⟨b10,hb10⟩:∃b,w2.heap.size=b:=⟨_,rfl⟩
 rw [hb10]at hF⊢;refine wp_geny hF.out ?_;intro V3 hc;have AY:=ζ hc;clear hc hF hE hb10;have AZ:=ζ (AY.out.pR rfl rfl (Rd.nil (w:=V3)));clear AY;go_wp2;go_loopw [29] (fun iv wr=>∃ (k:Nat) (a1:OA) (n1 c1:Nat) (m1:Bool) (d1:OA) (e1 f1:Nat),k<=nn/\iv= .int .i64 k/\Hid (Sy w wr [(w.heap.size,zR,42),(b10,#[.slice a1 n1 c1,.bool m1,.slice d1 e1 f1],42)] [⟨.slice (some ⟨g,0,none⟩) nn c,120,3,nn,tdC (.slice sa sn sc) (nbr bs)⟩] [(fun V=>Rd V (.slice a1 n1 c1) m1 (.slice d1 e1 f1) (smQ (((digP bs zs).take k).map (digA l))))])) (fun iv _=>nn - (intOf iv).toNat)
 case atStart=>exact⟨0,none,0,0,false,none,0,0,Nat.zero_le _,rfl,AZ⟩
 case round=>
  clear AZ;obtain ⟨k,a1,n1,c1,m1,d1,e1,f1,hk,rfl,hS⟩:=hrel;by_cases hkl:k < nn
  ·have hkn:k < (nbr bs).length:=(by rw [AX.out];exact hkl);have hkz:k < zs.length:=(by rw [AM.out];exact hkl);have hkd:k < (digP bs zs).length:=(by rw [AQ.out];exact hkl);obtain ⟨t0,t1,t2⟩:=A6.out k hkn;have AK:=ζ (show smQ (((digP bs zs).take (k+1)).map (digA l))=smQ (((digP bs zs).take k).map (digA l))+above l (nbr bs)[k].1 (nbr bs)[k].2 zs[k]by
    rw [List.take_succ_eq_append_getElem hkd,List.map_append,List.map_singleton,smQ_snoc,digP_at hkn hkz hkd];rfl)
   have AN:=ζ (fun W (hW:Below w.heap.size w W)=>A4.out W hW _ (List.getElem_mem hkn) _ (List.getElem_mem hkz));have BA:=ζ (A5.out _ (List.getElem_mem hkn) _ (List.getElem_mem hkz));have BS:=ζ (A3.out k);have AO:=ζ (fun W (hW:Below w.heap.size w W)=>(HZ.out W hW).at1 hkz);have Ac:=ζ (show ∀q,q=smQ (((digP bs zs).take (k+1)).map (digA l))->q=smQ (((digP bs zs).take (k+1)).map (digA l))from fun _ h=>h);obtain ⟨q0,hq0⟩:∃q,smQ (((digP bs zs).take k).map (digA l))=q:=⟨_,rfl⟩
   rw [hq0]at AK BS hS;clear hq0;generalize zs[k]=z at*;generalize (nbr bs)[k]=t at*;obtain ⟨u1,u2⟩:=t;dsimp only at t1 t2 AN BA AK;obtain ⟨q2,hq2⟩:∃q,above l u1 u2 z=q:=⟨_,rfl⟩
   rw [hq2]at AN BA AK;clear hq2;have c0:=hS.out.rcell 0 rfl t0;have c1':=hS.out.rcell 0 rfl t1;have c2':=hS.out.rcell 0 rfl t2;have i0:(0:Int)<=(k:Int):=(by omega);have i1:(k:Int) < (nn:Int):=(by omega);have hE:=ζ (hS.out.al wr.heap.size #[.slice sa sn sc,.int .i64 u1,.int .i64 u2] 120 rfl);clear t0 t1 t2;go_upto_region 8 with fail
   obtain ⟨bb,hbb⟩:∃bb,wr.heap.size=bb:=⟨_,rfl⟩
   rw [hbb]at hE⊢;refine wp_geny hE.out ?_;intro V1 hc;have hG:=ζ hc;clear hc hE hS c0 c1' c2' hbb;have i2:(k:Int) < (zs.length:Int):=(by rw [AM.out];omega);have HSL:∀V ex os rs,Sy w V ([(w.heap.size,zR,42),(b10,#[.slice a1 n1 c1,.bool m1,.slice d1 e1 f1],42),(bb,#[.slice sa sn sc,.int .i64 u1,.int .i64 u2],120)]++ex) os rs->(fun w'=>w'.cell? ⟨bb,0,none⟩=some (.slice sa sn sc)/\w'.cell? ⟨bb,1,none⟩=some (.int .i64 u1)/\w'.cell? ⟨bb,2,none⟩=some (.int .i64 u2)/\w'.cell? ⟨gz,oz+k,none⟩=some (.int .i64 z)/\True) V:=fun V ex os rs hX=>⟨hX.c 2 0,hX.c 2 1,hX.c 2 2,(AO.out _ hX.be),trivial⟩
   refine wp_region_noPanic ?_;refine wp_region_held_drew (S:=(fun w'=>w'.cell? ⟨bb,0,none⟩=some (.slice sa sn sc)/\w'.cell? ⟨bb,1,none⟩=some (.int .i64 u1)/\w'.cell? ⟨bb,2,none⟩=some (.int .i64 u2)/\w'.cell? ⟨gz,oz+k,none⟩=some (.int .i64 z)/\True)) (by kernel_rfl) ⟨hG.out.drew.c 2 0,hG.out.drew.c 2 1,hG.out.drew.c 2 2,(AO.out _ hG.out.drew.be),trivial⟩ (fun hH=>?_);refine wpAnyH_geny (show Sy w _ [(w.heap.size,zR,42),(b10,#[.slice a1 n1 c1,.bool m1,.slice d1 e1 f1],42),(bb,#[.slice sa sn sc,.int .i64 u1,.int .i64 u2],120)] [⟨.slice (some ⟨g,0,none⟩) nn c,120,3,nn,tdC (.slice sa sn sc) (nbr bs)⟩] [(fun V=>Rd V (.slice a1 n1 c1) m1 (.slice d1 e1 f1) (q0))]from hG.out.drew) hH ?_;intro A7 hc AE;have AD:=ζ hc;clear hc hH hG;refine tkA 1 rfl AE ?_;(try simp only [zP]);refine tkA 2 rfl AE ?_;(try simp only [zP]);refine tkA 3 rfl AE ?_;(try simp only [zP]);refine tkA 4 rfl AE ?_;(try simp only [zP]);refine tkA 5 rfl AE ?_;(try simp only [zP]);refine rdyL [0,6] ?_;refine arc rfl (fun Kq AF=>?_) ?_
   ·have cQ0:=AD.out.c 1 0;have cQ1:=AD.out.c 1 1;have cQ2:=AD.out.c 1 2;go_simp;refine stW AF AD.out ?_;intro AR AB AG;clear AF Kq AD cQ0 cQ1 cQ2 AE;(try simp only [zP]);refine rdy1 6 rfl (fun Kq AF=>?_);go_simp;go_at_call 70;refine(AN.out _ AB.out.be).mono ?_;rintro e wT ⟨a2,n2,c2,m2,d2,e2,f2,rfl,hz,hb⟩;(try go_wp2_with fail);refine stW AF ((AB.out.call hb).pR rfl rfl hz) ?_;intro AS AC AH;clear AF Kq AB hb hz AG;exact mW18_0
   refine arc rfl (fun Kq AF=>?_) ?_
   ·go_simp;go_at_call 70;refine(AN.out _ AD.out.be).mono ?_;rintro e wT ⟨a2,n2,c2,m2,d2,e2,f2,rfl,hz,hb⟩;(try go_wp2_with fail);refine stW AF ((AD.out.call hb).pR rfl rfl hz) ?_;intro AR AB AG;clear AF Kq AD hb hz AE;(try simp only [zP]);refine rdy1 0 rfl (fun Kq AF=>?_);have cQ0:=AB.out.c 1 0;have cQ1:=AB.out.c 1 1;have cQ2:=AB.out.c 1 2;go_simp;refine stW AF AB.out ?_;intro AS AC AH;clear AF Kq AB cQ0 cQ1 cQ2 AG;exact mW18_0
   exact AllReadyH.nil
  ·obtain rfl:k=nn:=by omega
   have AV:=ζ (show smQ (((digP bs zs).take k).map (digA l))=digQ l bs zs by unfold digQ;rw [List.take_of_length_le (by rw [AQ.out];exact Nat.le_refl _)]);rw [AV.out]at hS;have A8:=hS.out.c 0 0;have A0:=hS.out.f 0 0;have A9:=hS.out.c 0 1;have A1:=hS.out.f 0 1;have Ab:=hS.out.c 0 2;have A2:=hS.out.f 0 2;have y1_0:=hS.out.c 1 0;have y1_1:=hS.out.c 1 1;have y1_2:=hS.out.c 1 2;have l0:=hS.out.lt 0 rfl;go_wp2;have hZ:=ζ (hS.out|>.set (j:=0) (v:= .slice a1 n1 c1) 0 rfl|>.set (j:=1) (v:= .bool m1) 0 rfl|>.set (j:=2) (v:= .slice d1 e1 f1) 0 rfl);refine ret_sy hZ.out (v:= .tuple #[.agg #[.slice a1 n1 c1,.bool m1,.slice d1 e1 f1],.int .i64 0]) (fun hF=>?_) rfl (fun hF=>⟨_,_,_,_,_,_,_,rfl,hF.r 0 rfl,hF.be⟩);have g0_0:=hF.c 0 0;have g0_1:=hF.c 0 1;have g0_2:=hF.c 0 2;simp [results,Tryz.results26,go_sem,g0_0,g0_1,g0_2]
end
end
end Go.Proofs.YthmdhlopeponcaaGreatDoor
