/- the integral of what a linear function is above 0 -/
import Derived.Test.YthmdhlopeponcaaGreatDoorX1
import Derived.Test.YthmdhlopeponcaaGreatDoorX19
import Derived.Test.YthmdhlopeponcaaGreatDoorX21
import Derived.Test.YthmdhlopeponcaaGreatDoorX22
set_option maxRecDepth 100000
set_option maxHeartbeats 8000000
namespace Go.Proofs.YthmdhlopeponcaaGreatDoor
open Go.RowKit Go.Shelf Dig
theorem rowR_two {W:World} {g:Nat} {a1:Option Addr} {n1 c1:Nat} {m1:Bool} {d1:Option Addr} {e1 f1:Nat} {q1:Rat} {a2:Option Addr} {n2 c2:Nat} {m2:Bool} {d2:Option Addr} {e2 f2:Nat} {q2:Rat} (hg:g < W.heap.size) (h0:W.cell? ⟨g,0,none⟩=some (.slice a1 n1 c1)) (h1:W.cell? ⟨g,1,none⟩=some (.bool m1)) (h2:W.cell? ⟨g,2,none⟩=some (.slice d1 e1 f1))
  (h3:W.cell? ⟨g,3,none⟩=some (.slice a2 n2 c2)) (h4:W.cell? ⟨g,4,none⟩=some (.bool m2)) (h5:W.cell? ⟨g,5,none⟩=some (.slice d2 e2 f2)) (hy:Rd W (.slice a1 n1 c1) m1 (.slice d1 e1 f1) q1) (hz:Rd W (.slice a2 n2 c2) m2 (.slice d2 e2 f2) q2):
  RowR W (.slice (some ⟨g,0,none⟩) [q1,q2].length 2) [q1,q2]:=by
 refine⟨some ⟨g,0,none⟩,2,rfl,fun k hk=>?_⟩
 rcases Nat.lt_or_ge k 1 with h | h
 ·obtain rfl:k=0:=by omega
  exact⟨g,_,_,_,rfl,hg,h0,h1,h2,hy⟩
 ·obtain rfl:k=1:=by simp at hk;omega
  exact⟨g,_,_,_,rfl,hg,h3,h4,h5,hz⟩
theorem max_two {w:World} {g:Nat} {q1 q2:Rat} (h:RowR w (.slice (some ⟨g,0,none⟩) [q1,q2].length 2) [q1,q2]) (b1:Bq 400 q1) (b2:Bq 400 q2):
  Calls Tryz.prog 158 #[.slice (some ⟨g,0,none⟩) 2 2] w (RetR w (topQ q1 q2)):=by
 have:=max_any (some ⟨g,0,none⟩) 2 [q1,q2] w h 400 (fun q hq=>by simp at hq;rcases hq with rfl | rfl<;>assumption) (by omega) (by simp)
 have e:foldQ (better 1) [q1,q2]=topQ q1 q2:=by
  show better 1 q1 q2=_
  unfold better topQ cmpQ
  by_cases h1:q2=q1
  ·rw [if_pos h1,h1];simp
  ·rw [if_neg h1]
   by_cases h2:q2 < q1
   ·rw [if_pos h2,if_neg (by decide),if_neg (by grind)]
   ·rw [if_neg h2,if_pos rfl,if_pos (by grind)]
 rw [e]at this
 exact this
theorem min_two {w:World} {g:Nat} {q1 q2:Rat} (h:RowR w (.slice (some ⟨g,0,none⟩) [q1,q2].length 2) [q1,q2]) (b1:Bq 400 q1) (b2:Bq 400 q2):
  Calls Tryz.prog 157 #[.slice (some ⟨g,0,none⟩) 2 2] w (RetR w (minQ q1 q2)):=by
 have:=min_any (some ⟨g,0,none⟩) 2 [q1,q2] w h 400 (fun q hq=>by simp at hq;rcases hq with rfl | rfl<;>assumption) (by omega) (by simp)
 have e:foldQ (better (-1)) [q1,q2]=minQ q1 q2:=by
  show better (-1) q1 q2=_
  unfold better minQ cmpQ
  by_cases h1:q2=q1
  ·rw [if_pos h1,h1];simp
  ·rw [if_neg h1]
   by_cases h2:q2 < q1
   ·rw [if_pos h2,if_pos rfl,if_pos h2]
   ·rw [if_neg h2,if_neg (by decide),if_neg h2]
 rw [e]at this
 exact this
section
variable (w:World)
theorem mW3_1 {P_ : Prop} (h : P_ := by
 have g0:=hF.cell 2 0 rfl rfl
 have g1:=hF.cell 2 1 rfl rfl
 have g2:=hF.cell 2 2 rfl rfl
 simp [results,Tryz.results133,go_sem,g0,g1,g2]) : P_ := h
theorem mW3_0 {P_ : Prop} (h : P_ := by
 go_upto_region 6 with fail
 have x0_0:=hG.out.cell 0 0 rfl rfl
 have x0_1:=hG.out.cell 0 1 rfl rfl
 have x0_2:=hG.out.cell 0 2 rfl rfl
 have x1_0:=hG.out.cell 1 0 rfl rfl
 have x1_1:=hG.out.cell 1 1 rfl rfl
 have x1_2:=hG.out.cell 1 2 rfl rfl
 go_wp2_with fail
 have hM:=ζ (hG.out.onew V10.heap.size #[.slice a1 n1 c1,.bool m1,.slice d1 e1 f1,.slice a2 n2 c2,.bool m2,.slice d2 e2 f2] 42 3 2 rfl (by omega) rfl)
 refine(max_two (rowR_two ((World.ownsRow.lt (hM.out.orow 0 rfl) _ rfl).2) (hM.out.rcell 0 rfl (k:=0) rfl) (hM.out.rcell 0 rfl (k:=1) rfl) (hM.out.rcell 0 rfl (k:=2) rfl) (hM.out.rcell 0 rfl (k:=3) rfl) (hM.out.rcell 0 rfl (k:=4) rfl) (hM.out.rcell 0 rfl (k:=5) rfl) (hM.out.r 0 rfl) (hM.out.r 1 rfl)) (B1.out.mono (by omega)) (B2.out.mono (by omega))).mono ?_
 rintro e W1 ⟨a8,n8,c8,m8,d8,e8,f8,rfl,hz,hb⟩
 have hN:=ζ ((((hM.out.call hb).pR rfl rfl hz).thin (List.Sublist.refl _) (List.nil_sublist _)).al W1.heap.size #[.slice a8 n8 c8,.bool m8,.slice d8 e8 f8] 42 rfl)
 clear hb hz hM hG x0_0 x0_1 x0_2 x1_0 x1_1 x1_2
 go_upto_region 7 with fail
 obtain ⟨b4,hb4⟩:∃b4,W1.heap.size=b4:=⟨_,rfl⟩
 rw [hb4]at hN⊢
 refine wp_geny hN.out ?_
 intro W2 hc
 rw [HTP.out]at hc
 have hO:Hid (Sy w W2 [(b0,#[.slice a1 n1 c1,.bool m1,.slice d1 e1 f1],42),(b1,#[.slice a2 n2 c2,.bool m2,.slice d2 e2 f2],42),(b2,#[.slice none 0 0,.bool false,.slice none 0 0],42),(b3,#[.slice a7 n7 c7,.bool m7,.slice d7 e7 f7],42),(b4,#[.slice a8 n8 c8,.bool m8,.slice d8 e8 f8],42)] [] [(fun V=>Rd V (.slice a1 n1 c1) m1 (.slice d1 e1 f1) (q1)),(fun V=>Rd V (.slice a2 n2 c2) m2 (.slice d2 e2 f2) (q2)),(fun V=>Rd V (.slice a7 n7 c7) m7 (.slice d7 e7 f7) (half)),(fun V=>Rd V (.slice a8 n8 c8) m8 (.slice d8 e8 f8) (top))]):=ζ hc
 clear hc hN hb4
 have HSL:∀V ex os rs,Sy w V ([(b0,#[.slice a1 n1 c1,.bool m1,.slice d1 e1 f1],42),(b1,#[.slice a2 n2 c2,.bool m2,.slice d2 e2 f2],42),(b2,#[.slice none 0 0,.bool false,.slice none 0 0],42),(b3,#[.slice a7 n7 c7,.bool m7,.slice d7 e7 f7],42),(b4,#[.slice a8 n8 c8,.bool m8,.slice d8 e8 f8],42)]++ex) os rs→(fun w'=>w'.cell? ⟨b0,0,none⟩=some (.slice a1 n1 c1)∧w'.cell? ⟨b0,1,none⟩=some (.bool m1)∧w'.cell? ⟨b0,2,none⟩=some (.slice d1 e1 f1)∧w'.cell? ⟨b1,0,none⟩=some (.slice a2 n2 c2)∧w'.cell? ⟨b1,1,none⟩=some (.bool m2)∧w'.cell? ⟨b1,2,none⟩=some (.slice d2 e2 f2)∧w'.cell? ⟨b3,0,none⟩=some (.slice a7 n7 c7)∧w'.cell? ⟨b3,1,none⟩=some (.bool m7)∧w'.cell? ⟨b3,2,none⟩=some (.slice d7 e7 f7)∧w'.cell? ⟨b4,0,none⟩=some (.slice a8 n8 c8)∧w'.cell? ⟨b4,1,none⟩=some (.bool m8)∧w'.cell? ⟨b4,2,none⟩=some (.slice d8 e8 f8)∧True) V:=fun V ex os rs hX=>⟨hX.cell 0 0 rfl rfl,hX.cell 0 1 rfl rfl,hX.cell 0 2 rfl rfl,hX.cell 1 0 rfl rfl,hX.cell 1 1 rfl rfl,hX.cell 1 2 rfl rfl,hX.cell 3 0 rfl rfl,hX.cell 3 1 rfl rfl,hX.cell 3 2 rfl rfl,hX.cell 4 0 rfl rfl,hX.cell 4 1 rfl rfl,hX.cell 4 2 rfl rfl,trivial⟩
 refine wp_region_held_drew (S:=(fun w'=>w'.cell? ⟨b0,0,none⟩=some (.slice a1 n1 c1)∧w'.cell? ⟨b0,1,none⟩=some (.bool m1)∧w'.cell? ⟨b0,2,none⟩=some (.slice d1 e1 f1)∧w'.cell? ⟨b1,0,none⟩=some (.slice a2 n2 c2)∧w'.cell? ⟨b1,1,none⟩=some (.bool m2)∧w'.cell? ⟨b1,2,none⟩=some (.slice d2 e2 f2)∧w'.cell? ⟨b3,0,none⟩=some (.slice a7 n7 c7)∧w'.cell? ⟨b3,1,none⟩=some (.bool m7)∧w'.cell? ⟨b3,2,none⟩=some (.slice d7 e7 f7)∧w'.cell? ⟨b4,0,none⟩=some (.slice a8 n8 c8)∧w'.cell? ⟨b4,1,none⟩=some (.bool m8)∧w'.cell? ⟨b4,2,none⟩=some (.slice d8 e8 f8)∧True)) (by kernel_rfl) ⟨hO.out.drew.cell 0 0 rfl rfl,hO.out.drew.cell 0 1 rfl rfl,hO.out.drew.cell 0 2 rfl rfl,hO.out.drew.cell 1 0 rfl rfl,hO.out.drew.cell 1 1 rfl rfl,hO.out.drew.cell 1 2 rfl rfl,hO.out.drew.cell 3 0 rfl rfl,hO.out.drew.cell 3 1 rfl rfl,hO.out.drew.cell 3 2 rfl rfl,hO.out.drew.cell 4 0 rfl rfl,hO.out.drew.cell 4 1 rfl rfl,hO.out.drew.cell 4 2 rfl rfl,trivial⟩ (fun hH=>?_)
 refine wpAnyH_geny (show Sy w _ [(b0,#[.slice a1 n1 c1,.bool m1,.slice d1 e1 f1],42),(b1,#[.slice a2 n2 c2,.bool m2,.slice d2 e2 f2],42),(b2,#[.slice none 0 0,.bool false,.slice none 0 0],42),(b3,#[.slice a7 n7 c7,.bool m7,.slice d7 e7 f7],42),(b4,#[.slice a8 n8 c8,.bool m8,.slice d8 e8 f8],42)] [] [(fun V=>Rd V (.slice a1 n1 c1) m1 (.slice d1 e1 f1) (q1)),(fun V=>Rd V (.slice a2 n2 c2) m2 (.slice d2 e2 f2) (q2)),(fun V=>Rd V (.slice a7 n7 c7) m7 (.slice d7 e7 f7) (half)),(fun V=>Rd V (.slice a8 n8 c8) m8 (.slice d8 e8 f8) (top))]from hO.out.drew) hH ?_
 intro VT_0 hc hHT_0
 have hVT_0:=ζ hc
 clear hc hH hO
 refine tkA 0 rfl hHT_0 ?_
 try simp only [Act.put,zI,z0,zS]
 refine tkA 1 rfl hHT_0 ?_
 try simp only [Act.put,zI,z0,zS]
 refine tkA 3 rfl hHT_0 ?_
 try simp only [Act.put,zI,z0,zS]
 refine tkA 5 rfl hHT_0 ?_
 try simp only [Act.put,zI,z0,zS]
 refine tkA 6 rfl hHT_0 ?_
 try simp only [Act.put,zI,z0,zS]
 refine rdy1 2 rfl (fun Kq hKq=>?_)
 go_simp
 go_at_call 46
 refine(rmul_b (hVT_0.out.r 3 rfl) (hVT_0.out.r 3 rfl) BT.out BT.out (by omega) (by omega)).mono ?_
 rintro e wT ⟨a9,n9,c9,m9,d9,e9,f9,rfl,hz,hb⟩
 (try go_wp2_with fail)
 refine stepZ hKq ((hVT_0.out.call hb).pR rfl rfl hz) (fun _=>HSL _ _ _ _) ?_
 intro VT_1 hVT_1 hHT_1
 clear hKq Kq hVT_0 hb hz hHT_0
 try simp only [Act.put,zI,z0,zS]
 refine rdy1 4 rfl (fun Kq hKq=>?_)
 go_simp
 go_at_call 46
 refine(rmul_b (hVT_1.out.r 4 rfl) (hVT_1.out.r 2 rfl) (BT.out.mul BT.out) HB.out (by omega) (by omega)).mono ?_
 rintro e wT ⟨a10,n10,c10,m10,d10,e10,f10,rfl,hz,hb⟩
 (try go_wp2_with fail)
 refine stepZ hKq ((hVT_1.out.call hb).pR rfl rfl hz) (fun _=>HSL _ _ _ _) ?_
 intro VT_2 hVT_2 hHT_2
 clear hKq Kq hVT_1 hb hz hHT_1
 try simp only [Act.put,zI,z0,zS]
 refine rdy1 7 rfl (fun Kq hKq=>?_)
 go_simp
 go_at_call 44
 refine(rsub_b (hVT_2.out.r 0 rfl) (hVT_2.out.r 1 rfl) B1.out B2.out (by omega) (by omega)).mono ?_
 rintro e wT ⟨a11,n11,c11,m11,d11,e11,f11,rfl,hz,hb⟩
 (try go_wp2_with fail)
 refine stepZ hKq ((hVT_2.out.call hb).pR rfl rfl hz) (fun _=>HSL _ _ _ _) ?_
 intro VT_3 hVT_3 hHT_3
 clear hKq Kq hVT_2 hb hz hHT_2
 try simp only [Act.put,zI,z0,zS]
 refine rdy1 8 rfl (fun Kq hKq=>?_)
 go_simp
 go_at_call 166
 refine(rabs_any _ _ _ _ _ _ _ _ _ (hVT_3.out.r 6 rfl)).mono ?_
 rintro e wT ⟨a12,n12,c12,m12,d12,e12,f12,rfl,hz,hb⟩
 (try go_wp2_with fail)
 refine stepZ hKq ((hVT_3.out.call hb).pR rfl rfl hz) (fun _=>HSL _ _ _ _) ?_
 intro VT_4 hVT_4 hHT_4
 clear hKq Kq hVT_3 hb hz hHT_3
 try simp only [Act.put,zI,z0,zS]
 refine rdy1 9 rfl (fun Kq hKq=>?_)
 go_simp
 go_at_call 154
 refine(hover_any _ _ _ _ _ _ _ _ _ _ _ _ _ _ _ _ _ (hVT_4.out.r 5 rfl) (hVT_4.out.r 7 rfl) 136 77 ((BT.out.mul BT.out).mul HB.out) HAB.out (by omega) (by omega) HNE.out).mono ?_
 rintro e wT ⟨a13,n13,c13,m13,d13,e13,f13,rfl,hz,hb⟩
 (try go_wp2_with fail)
 refine stepZ hKq ((hVT_4.out.call hb).pR rfl rfl hz) (fun _=>HSL _ _ _ _) ?_
 intro VT_5 hVT_5 hHT_5
 clear hKq Kq hVT_4 hb hz hHT_4
 try simp only [Act.put,zI,z0,zS]
 refine rdy1 10 rfl (fun Kq hKq=>?_)
 have cQ0:=hVT_5.out.cell 2 0 rfl rfl
 have fQ0:=hVT_5.out.free 2 0 rfl
 have cQ1:=hVT_5.out.cell 2 1 rfl rfl
 have fQ1:=hVT_5.out.free 2 1 rfl
 have cQ2:=hVT_5.out.cell 2 2 rfl rfl
 have fQ2:=hVT_5.out.free 2 2 rfl
 go_simp
 refine stepZ hKq (hVT_5.out|>.set (j:=0) (v:= .slice a13 n13 c13) 2 rfl|>.set (j:=1) (v:= .bool m13) 2 rfl|>.set (j:=2) (v:= .slice d13 e13 f13) 2 rfl) (fun _ hX=>⟨hX.cell 0 0 rfl rfl,hX.cell 0 1 rfl rfl,hX.cell 0 2 rfl rfl,hX.cell 1 0 rfl rfl,hX.cell 1 1 rfl rfl,hX.cell 1 2 rfl rfl,hX.cell 3 0 rfl rfl,hX.cell 3 1 rfl rfl,hX.cell 3 2 rfl rfl,hX.cell 4 0 rfl rfl,hX.cell 4 1 rfl rfl,hX.cell 4 2 rfl rfl,trivial⟩) ?_
 intro VT_6 hVT_6 hHT_6
 clear hKq Kq hVT_5 cQ0 fQ0 cQ1 fQ1 cQ2 fQ2 hHT_5
 try simp only [Act.put]
 refine wpAnyH_done (by kernel_rfl) ?_ _
 go_wp2
 refine ret_sy hVT_6.out (v:= .agg #[.slice a13 n13 c13,.bool m13,.slice d13 e13 f13]) (fun hF=>?_) rfl (fun hF=>⟨_,_,_,_,_,_,_,rfl,hF.r 8 rfl,hF.be⟩)
 exact mW3_1) : P_ := h
theorem mW3_2 {P_ : Prop} (h : P_ := by
 refine ret_sy hZ.out (v:= .agg #[.slice none 0 0,.bool false,.slice none 0 0]) (fun hF=>?_) rfl (fun hF=>⟨_,_,_,_,_,_,_,rfl,hF.r 3 rfl,hF.be⟩)
 exact mW3_1) : P_ := h
theorem positive_pp (d:Int) (a1:Option Addr) (n1 c1:Nat) (m1:Bool) (d1:Option Addr) (e1 f1:Nat) (q1:Rat) (a2:Option Addr) (n2 c2:Nat) (m2:Bool) (d2:Option Addr) (e2 f2:Nat) (q2:Rat) (h1:Rd w (.slice a1 n1 c1) m1 (.slice d1 e1 f1) (q1)) (h2:Rd w (.slice a2 n2 c2) m2 (.slice d2 e2 f2) (q2)) (hd:InI d) (b1:Bq 38 q1) (b2:Bq 38 q2) (v1 v2:Int) (hv1:sgnQ q1=v1) (hv2:sgnQ q2=v2) (g1:0≤v1) (g2:0≤v2):
  Calls Tryz.prog 133 #[.int .i64 d,.agg #[.slice a1 n1 c1,.bool m1,.slice d1 e1 f1],.agg #[.slice a2 n2 c2,.bool m2,.slice d2 e2 f2]] w (RetR w ((q1+q2)*((d:Rat)*(((1:Int):Rat) / ((2:Int):Rat))))):=by
 have HV1:=ζ hv1
 have HV2:=ζ hv2
 clear hv1 hv2
 obtain ⟨half,hhalf⟩:∃half,(d:Rat)*(((1:Int):Rat) / ((2:Int):Rat))=half:=⟨_,rfl⟩
 try rw [hhalf]
 have HB:=ζ (show Bq 60 half from by rw [←hhalf];exact(int_bq hd).mul ((int_bq (k:=1) (by omega)).div (int_bq (k:=2) (by omega)) (by decide)))
 have HH:=ζ hhalf
 have B1:=ζ b1
 have B2:=ζ b2
 have HD:=ζ hd
 have hC:=ζ ((((((Sy.enter w).pR rfl rfl h1).pR rfl rfl h2).al w.heap.size #[.slice a1 n1 c1,.bool m1,.slice d1 e1 f1] 42 rfl).al (w.heap.size+1) #[.slice a2 n2 c2,.bool m2,.slice d2 e2 f2] 42 (by simp)).al (w.heap.size+2) #[.slice none 0 0,.bool false,.slice none 0 0] 42 (by simp))
 clear hhalf b1 b2 hd h1 h2
 go_enter Tryz.func133,Tryz.ntmps133
 go_upto_region 1 with fail
 refine wp_geny hC.out ?_
 intro V1 hc
 obtain ⟨b0,hb0⟩:∃b0,w.heap.size=b0:=⟨_,rfl⟩
 obtain ⟨b1,hb1⟩:∃b1,w.heap.size+1=b1:=⟨_,rfl⟩
 obtain ⟨b2,hb2⟩:∃b2,w.heap.size+2=b2:=⟨_,rfl⟩
 have hC1:Hid (Sy w V1 [(b0,#[.slice a1 n1 c1,.bool m1,.slice d1 e1 f1],42),(b1,#[.slice a2 n2 c2,.bool m2,.slice d2 e2 f2],42),(b2,#[.slice none 0 0,.bool false,.slice none 0 0],42)] [] [(fun V=>Rd V (.slice a1 n1 c1) m1 (.slice d1 e1 f1) (q1)),(fun V=>Rd V (.slice a2 n2 c2) m2 (.slice d2 e2 f2) (q2))]):=ζ (by rw [←hb2,←hb1,←hb0];exact hc)
 rw [hb2,hb1,hb0]
 clear hc hC hb0 hb1 hb2
 go_wp2_with fail
 refine(hof_any _ _ (InI.i64 HD.out)).mono ?_
 rintro e V2 ⟨a3,n3,c3,m3,d3,e3,f3,rfl,hz,hb⟩
 have hC2:=ζ ((hC1.out.call hb).pR rfl rfl hz)
 clear hb hz hC1
 go_wp2_with fail
 refine(hof_any _ _ (by omega)).mono ?_
 rintro e V3 ⟨a4,n4,c4,m4,d4,e4,f4,rfl,hz,hb⟩
 have hC3:=ζ ((hC2.out.call hb).pR rfl rfl hz)
 clear hb hz hC2
 go_wp2_with fail
 refine(hof_any _ _ (by omega)).mono ?_
 rintro e V4 ⟨a5,n5,c5,m5,d5,e5,f5,rfl,hz,hb⟩
 have hC4:=ζ ((hC3.out.call hb).pR rfl rfl hz)
 clear hb hz hC3
 go_wp2_with fail
 refine(hover_any _ _ _ _ _ _ _ _ _ _ _ _ _ _ _ _ _ (hC4.out.r 3 rfl) (hC4.out.r 4 rfl) 20 20 (int_bq (by omega)) (int_bq (by omega)) (by omega) (by omega) (by decide)).mono ?_
 rintro e V5 ⟨a6,n6,c6,m6,d6,e6,f6,rfl,hz,hb⟩
 have hC5:=ζ ((hC4.out.call hb).pR rfl rfl hz)
 clear hb hz hC4
 go_wp2_with fail
 refine(rmul_b (hC5.out.r 2 rfl) (hC5.out.r 5 rfl) (int_bq HD.out) ((int_bq (k:=1) (by omega)).div (int_bq (k:=2) (by omega)) (by decide)) (by omega) (by omega)).mono ?_
 rintro e V6 ⟨a7,n7,c7,m7,d7,e7,f7,rfl,hz,hb⟩
 have hC6:=ζ ((hC5.out.call hb).pR rfl rfl hz)
 clear hb hz hC5
 rw [HH.out]at hC6
 have hC7:=ζ ((hC6.out.pick [0,1,6] (rs':=[(fun V=>Rd V (.slice a1 n1 c1) m1 (.slice d1 e1 f1) (q1)),(fun V=>Rd V (.slice a2 n2 c2) m2 (.slice d2 e2 f2) (q2)),(fun V=>Rd V (.slice a7 n7 c7) m7 (.slice d7 e7 f7) (half))]) rfl).al V6.heap.size #[.slice a7 n7 c7,.bool m7,.slice d7 e7 f7] 42 rfl)
 go_upto_region 2 with fail
 obtain ⟨b3,hb3⟩:∃b3,V6.heap.size=b3:=⟨_,rfl⟩
 rw [hb3]at hC7⊢
 refine wp_geny hC7.out ?_
 intro V7 hc
 have hC:Hid (Sy w V7 [(b0,#[.slice a1 n1 c1,.bool m1,.slice d1 e1 f1],42),(b1,#[.slice a2 n2 c2,.bool m2,.slice d2 e2 f2],42),(b2,#[.slice none 0 0,.bool false,.slice none 0 0],42),(b3,#[.slice a7 n7 c7,.bool m7,.slice d7 e7 f7],42)] [] [(fun V=>Rd V (.slice a1 n1 c1) m1 (.slice d1 e1 f1) (q1)),(fun V=>Rd V (.slice a2 n2 c2) m2 (.slice d2 e2 f2) (q2)),(fun V=>Rd V (.slice a7 n7 c7) m7 (.slice d7 e7 f7) (half))]):=ζ hc
 clear hc hC6 hC7 hb3
 have x0_0:=hC.out.cell 0 0 rfl rfl
 have x0_1:=hC.out.cell 0 1 rfl rfl
 have x0_2:=hC.out.cell 0 2 rfl rfl
 go_wp2_with fail
 refine(hsign_is (hC.out.r 0 rfl) HV1.out).mono ?_
 rintro e V8 ⟨rfl,hb⟩
 have hD:=ζ (hC.out.call hb)
 clear hb hC x0_0 x0_1 x0_2
 have x1_0:=hD.out.cell 1 0 rfl rfl
 have x1_1:=hD.out.cell 1 1 rfl rfl
 have x1_2:=hD.out.cell 1 2 rfl rfl
 go_wp2_with fail
 refine(hsign_is (hD.out.r 1 rfl) HV2.out).mono ?_
 rintro e V9 ⟨rfl,hb⟩
 have hE:=ζ (hD.out.call hb)
 clear hb hD x1_0 x1_1 x1_2
 go_upto_region 3 with fail
 have HSL:∀V ex os rs,Sy w V ([(b0,#[.slice a1 n1 c1,.bool m1,.slice d1 e1 f1],42),(b1,#[.slice a2 n2 c2,.bool m2,.slice d2 e2 f2],42),(b2,#[.slice none 0 0,.bool false,.slice none 0 0],42),(b3,#[.slice a7 n7 c7,.bool m7,.slice d7 e7 f7],42)]++ex) os rs→(fun w'=>w'.cell? ⟨b0,0,none⟩=some (.slice a1 n1 c1)∧w'.cell? ⟨b0,1,none⟩=some (.bool m1)∧w'.cell? ⟨b0,2,none⟩=some (.slice d1 e1 f1)∧w'.cell? ⟨b1,0,none⟩=some (.slice a2 n2 c2)∧w'.cell? ⟨b1,1,none⟩=some (.bool m2)∧w'.cell? ⟨b1,2,none⟩=some (.slice d2 e2 f2)∧w'.cell? ⟨b3,0,none⟩=some (.slice a7 n7 c7)∧w'.cell? ⟨b3,1,none⟩=some (.bool m7)∧w'.cell? ⟨b3,2,none⟩=some (.slice d7 e7 f7)∧True) V:=fun V ex os rs hX=>⟨hX.cell 0 0 rfl rfl,hX.cell 0 1 rfl rfl,hX.cell 0 2 rfl rfl,hX.cell 1 0 rfl rfl,hX.cell 1 1 rfl rfl,hX.cell 1 2 rfl rfl,hX.cell 3 0 rfl rfl,hX.cell 3 1 rfl rfl,hX.cell 3 2 rfl rfl,trivial⟩
 refine wp_region_held_drew (S:=(fun w'=>w'.cell? ⟨b0,0,none⟩=some (.slice a1 n1 c1)∧w'.cell? ⟨b0,1,none⟩=some (.bool m1)∧w'.cell? ⟨b0,2,none⟩=some (.slice d1 e1 f1)∧w'.cell? ⟨b1,0,none⟩=some (.slice a2 n2 c2)∧w'.cell? ⟨b1,1,none⟩=some (.bool m2)∧w'.cell? ⟨b1,2,none⟩=some (.slice d2 e2 f2)∧w'.cell? ⟨b3,0,none⟩=some (.slice a7 n7 c7)∧w'.cell? ⟨b3,1,none⟩=some (.bool m7)∧w'.cell? ⟨b3,2,none⟩=some (.slice d7 e7 f7)∧True)) (by kernel_rfl) ⟨hE.out.drew.cell 0 0 rfl rfl,hE.out.drew.cell 0 1 rfl rfl,hE.out.drew.cell 0 2 rfl rfl,hE.out.drew.cell 1 0 rfl rfl,hE.out.drew.cell 1 1 rfl rfl,hE.out.drew.cell 1 2 rfl rfl,hE.out.drew.cell 3 0 rfl rfl,hE.out.drew.cell 3 1 rfl rfl,hE.out.drew.cell 3 2 rfl rfl,trivial⟩ (fun hH=>?_)
 refine wpAnyH_geny (show Sy w _ [(b0,#[.slice a1 n1 c1,.bool m1,.slice d1 e1 f1],42),(b1,#[.slice a2 n2 c2,.bool m2,.slice d2 e2 f2],42),(b2,#[.slice none 0 0,.bool false,.slice none 0 0],42),(b3,#[.slice a7 n7 c7,.bool m7,.slice d7 e7 f7],42)] [] [(fun V=>Rd V (.slice a1 n1 c1) m1 (.slice d1 e1 f1) (q1)),(fun V=>Rd V (.slice a2 n2 c2) m2 (.slice d2 e2 f2) (q2)),(fun V=>Rd V (.slice a7 n7 c7) m7 (.slice d7 e7 f7) (half))]from hE.out.drew) hH ?_
 intro VP_0 hc hHP_0
 have hVP_0:=ζ hc
 clear hc hH hE
 refine tkA 0 rfl hHP_0 ?_
 try simp only [Act.put,zI,z0,zS]
 refine tkA 1 rfl hHP_0 ?_
 try simp only [Act.put,zI,z0,zS]
 refine tkA 3 rfl hHP_0 ?_
 try simp only [Act.put,zI,z0,zS]
 refine rdy1 2 rfl (fun Kq hKq=>?_)
 go_simp
 go_at_call 40
 refine(radd_b (hVP_0.out.r 0 rfl) (hVP_0.out.r 1 rfl) B1.out B2.out (by omega) (by omega)).mono ?_
 rintro e wT ⟨a8,n8,c8,m8,d8,e8,f8,rfl,hz,hb⟩
 (try go_wp2_with fail)
 refine stepZ hKq ((hVP_0.out.call hb).pR rfl rfl hz) (fun _=>HSL _ _ _ _) ?_
 intro VP_1 hVP_1 hHP_1
 clear hKq Kq hVP_0 hb hz hHP_0
 try simp only [Act.put,zI,z0,zS]
 refine rdy1 4 rfl (fun Kq hKq=>?_)
 go_simp
 go_at_call 46
 refine(rmul_b (hVP_1.out.r 3 rfl) (hVP_1.out.r 2 rfl) (B1.out.plus B2.out) HB.out (by omega) (by omega)).mono ?_
 rintro e wT ⟨a9,n9,c9,m9,d9,e9,f9,rfl,hz,hb⟩
 (try go_wp2_with fail)
 refine stepZ hKq ((hVP_1.out.call hb).pR rfl rfl hz) (fun _=>HSL _ _ _ _) ?_
 intro VP_2 hVP_2 hHP_2
 clear hKq Kq hVP_1 hb hz hHP_1
 try simp only [Act.put,zI,z0,zS]
 refine rdy1 5 rfl (fun Kq hKq=>?_)
 have cQ0:=hVP_2.out.cell 2 0 rfl rfl
 have fQ0:=hVP_2.out.free 2 0 rfl
 have cQ1:=hVP_2.out.cell 2 1 rfl rfl
 have fQ1:=hVP_2.out.free 2 1 rfl
 have cQ2:=hVP_2.out.cell 2 2 rfl rfl
 have fQ2:=hVP_2.out.free 2 2 rfl
 go_simp
 refine stepZ hKq (hVP_2.out|>.set (j:=0) (v:= .slice a9 n9 c9) 2 rfl|>.set (j:=1) (v:= .bool m9) 2 rfl|>.set (j:=2) (v:= .slice d9 e9 f9) 2 rfl) (fun _ hX=>⟨hX.cell 0 0 rfl rfl,hX.cell 0 1 rfl rfl,hX.cell 0 2 rfl rfl,hX.cell 1 0 rfl rfl,hX.cell 1 1 rfl rfl,hX.cell 1 2 rfl rfl,hX.cell 3 0 rfl rfl,hX.cell 3 1 rfl rfl,hX.cell 3 2 rfl rfl,trivial⟩) ?_
 intro VP_3 hVP_3 hHP_3
 clear hKq Kq hVP_2 cQ0 fQ0 cQ1 fQ1 cQ2 fQ2 hHP_2
 try simp only [Act.put]
 refine wpAnyH_done (by kernel_rfl) ?_ _
 go_wp2
 refine ret_sy hVP_3.out (v:= .agg #[.slice a9 n9 c9,.bool m9,.slice d9 e9 f9]) (fun hF=>?_) rfl (fun hF=>⟨_,_,_,_,_,_,_,rfl,hF.r 4 rfl,hF.be⟩)
 exact mW3_1
theorem positive_n1 (d:Int) (a1:Option Addr) (n1 c1:Nat) (m1:Bool) (d1:Option Addr) (e1 f1:Nat) (q1:Rat) (a2:Option Addr) (n2 c2:Nat) (m2:Bool) (d2:Option Addr) (e2 f2:Nat) (q2:Rat) (h1:Rd w (.slice a1 n1 c1) m1 (.slice d1 e1 f1) (q1)) (h2:Rd w (.slice a2 n2 c2) m2 (.slice d2 e2 f2) (q2)) (hd:InI d) (b1:Bq 38 q1) (b2:Bq 38 q2) (v1 v2:Int) (hv1:sgnQ q1=v1) (hv2:sgnQ q2=v2) (g1:v1 < 0) (g2:v2≤0):
  Calls Tryz.prog 133 #[.int .i64 d,.agg #[.slice a1 n1 c1,.bool m1,.slice d1 e1 f1],.agg #[.slice a2 n2 c2,.bool m2,.slice d2 e2 f2]] w (RetR w (0)):=by
 have HV1:=ζ hv1
 have HV2:=ζ hv2
 clear hv1 hv2
 obtain ⟨half,hhalf⟩:∃half,(d:Rat)*(((1:Int):Rat) / ((2:Int):Rat))=half:=⟨_,rfl⟩
 try rw [hhalf]
 have HB:=ζ (show Bq 60 half from by rw [←hhalf];exact(int_bq hd).mul ((int_bq (k:=1) (by omega)).div (int_bq (k:=2) (by omega)) (by decide)))
 have HH:=ζ hhalf
 have B1:=ζ b1
 have B2:=ζ b2
 have HD:=ζ hd
 have hC:=ζ ((((((Sy.enter w).pR rfl rfl h1).pR rfl rfl h2).al w.heap.size #[.slice a1 n1 c1,.bool m1,.slice d1 e1 f1] 42 rfl).al (w.heap.size+1) #[.slice a2 n2 c2,.bool m2,.slice d2 e2 f2] 42 (by simp)).al (w.heap.size+2) #[.slice none 0 0,.bool false,.slice none 0 0] 42 (by simp))
 clear hhalf b1 b2 hd h1 h2
 go_enter Tryz.func133,Tryz.ntmps133
 go_upto_region 1 with fail
 refine wp_geny hC.out ?_
 intro V1 hc
 obtain ⟨b0,hb0⟩:∃b0,w.heap.size=b0:=⟨_,rfl⟩
 obtain ⟨b1,hb1⟩:∃b1,w.heap.size+1=b1:=⟨_,rfl⟩
 obtain ⟨b2,hb2⟩:∃b2,w.heap.size+2=b2:=⟨_,rfl⟩
 have hC1:Hid (Sy w V1 [(b0,#[.slice a1 n1 c1,.bool m1,.slice d1 e1 f1],42),(b1,#[.slice a2 n2 c2,.bool m2,.slice d2 e2 f2],42),(b2,#[.slice none 0 0,.bool false,.slice none 0 0],42)] [] [(fun V=>Rd V (.slice a1 n1 c1) m1 (.slice d1 e1 f1) (q1)),(fun V=>Rd V (.slice a2 n2 c2) m2 (.slice d2 e2 f2) (q2))]):=ζ (by rw [←hb2,←hb1,←hb0];exact hc)
 rw [hb2,hb1,hb0]
 clear hc hC hb0 hb1 hb2
 go_wp2_with fail
 refine(hof_any _ _ (InI.i64 HD.out)).mono ?_
 rintro e V2 ⟨a3,n3,c3,m3,d3,e3,f3,rfl,hz,hb⟩
 have hC2:=ζ ((hC1.out.call hb).pR rfl rfl hz)
 clear hb hz hC1
 go_wp2_with fail
 refine(hof_any _ _ (by omega)).mono ?_
 rintro e V3 ⟨a4,n4,c4,m4,d4,e4,f4,rfl,hz,hb⟩
 have hC3:=ζ ((hC2.out.call hb).pR rfl rfl hz)
 clear hb hz hC2
 go_wp2_with fail
 refine(hof_any _ _ (by omega)).mono ?_
 rintro e V4 ⟨a5,n5,c5,m5,d5,e5,f5,rfl,hz,hb⟩
 have hC4:=ζ ((hC3.out.call hb).pR rfl rfl hz)
 clear hb hz hC3
 go_wp2_with fail
 refine(hover_any _ _ _ _ _ _ _ _ _ _ _ _ _ _ _ _ _ (hC4.out.r 3 rfl) (hC4.out.r 4 rfl) 20 20 (int_bq (by omega)) (int_bq (by omega)) (by omega) (by omega) (by decide)).mono ?_
 rintro e V5 ⟨a6,n6,c6,m6,d6,e6,f6,rfl,hz,hb⟩
 have hC5:=ζ ((hC4.out.call hb).pR rfl rfl hz)
 clear hb hz hC4
 go_wp2_with fail
 refine(rmul_b (hC5.out.r 2 rfl) (hC5.out.r 5 rfl) (int_bq HD.out) ((int_bq (k:=1) (by omega)).div (int_bq (k:=2) (by omega)) (by decide)) (by omega) (by omega)).mono ?_
 rintro e V6 ⟨a7,n7,c7,m7,d7,e7,f7,rfl,hz,hb⟩
 have hC6:=ζ ((hC5.out.call hb).pR rfl rfl hz)
 clear hb hz hC5
 rw [HH.out]at hC6
 have hC7:=ζ ((hC6.out.pick [0,1,6] (rs':=[(fun V=>Rd V (.slice a1 n1 c1) m1 (.slice d1 e1 f1) (q1)),(fun V=>Rd V (.slice a2 n2 c2) m2 (.slice d2 e2 f2) (q2)),(fun V=>Rd V (.slice a7 n7 c7) m7 (.slice d7 e7 f7) (half))]) rfl).al V6.heap.size #[.slice a7 n7 c7,.bool m7,.slice d7 e7 f7] 42 rfl)
 go_upto_region 2 with fail
 obtain ⟨b3,hb3⟩:∃b3,V6.heap.size=b3:=⟨_,rfl⟩
 rw [hb3]at hC7⊢
 refine wp_geny hC7.out ?_
 intro V7 hc
 have hC:Hid (Sy w V7 [(b0,#[.slice a1 n1 c1,.bool m1,.slice d1 e1 f1],42),(b1,#[.slice a2 n2 c2,.bool m2,.slice d2 e2 f2],42),(b2,#[.slice none 0 0,.bool false,.slice none 0 0],42),(b3,#[.slice a7 n7 c7,.bool m7,.slice d7 e7 f7],42)] [] [(fun V=>Rd V (.slice a1 n1 c1) m1 (.slice d1 e1 f1) (q1)),(fun V=>Rd V (.slice a2 n2 c2) m2 (.slice d2 e2 f2) (q2)),(fun V=>Rd V (.slice a7 n7 c7) m7 (.slice d7 e7 f7) (half))]):=ζ hc
 clear hc hC6 hC7 hb3
 have x0_0:=hC.out.cell 0 0 rfl rfl
 have x0_1:=hC.out.cell 0 1 rfl rfl
 have x0_2:=hC.out.cell 0 2 rfl rfl
 go_wp2_with fail
 refine(hsign_is (hC.out.r 0 rfl) HV1.out).mono ?_
 rintro e V8 ⟨rfl,hb⟩
 have hD:=ζ (hC.out.call hb)
 clear hb hC x0_0 x0_1 x0_2
 have x0_0:=hD.out.cell 0 0 rfl rfl
 have x0_1:=hD.out.cell 0 1 rfl rfl
 have x0_2:=hD.out.cell 0 2 rfl rfl
 go_wp2_with fail
 refine(hsign_is (hD.out.r 0 rfl) HV1.out).mono ?_
 rintro e V9 ⟨rfl,hb⟩
 have hE:=ζ (hD.out.call hb)
 clear hb hD x0_0 x0_1 x0_2
 have x1_0:=hE.out.cell 1 0 rfl rfl
 have x1_1:=hE.out.cell 1 1 rfl rfl
 have x1_2:=hE.out.cell 1 2 rfl rfl
 go_wp2_with fail
 refine(hsign_is (hE.out.r 1 rfl) HV2.out).mono ?_
 rintro e V10 ⟨rfl,hb⟩
 have hG:=ζ (hE.out.call hb)
 clear hb hE x1_0 x1_1 x1_2
 have x2_0:=hG.out.cell 2 0 rfl rfl
 have xf2_0:=hG.out.free 2 0 rfl
 have x2_1:=hG.out.cell 2 1 rfl rfl
 have xf2_1:=hG.out.free 2 1 rfl
 have x2_2:=hG.out.cell 2 2 rfl rfl
 have xf2_2:=hG.out.free 2 2 rfl
 go_wp2
 have hZ:=ζ ((hG.out|>.set (j:=0) (v:= .slice none 0 0) 2 rfl|>.set (j:=1) (v:= .bool false) 2 rfl|>.set (j:=2) (v:= .slice none 0 0) 2 rfl).pR rfl rfl Rd.nil)
 exact mW3_2
theorem positive_n2 (d:Int) (a1:Option Addr) (n1 c1:Nat) (m1:Bool) (d1:Option Addr) (e1 f1:Nat) (q1:Rat) (a2:Option Addr) (n2 c2:Nat) (m2:Bool) (d2:Option Addr) (e2 f2:Nat) (q2:Rat) (h1:Rd w (.slice a1 n1 c1) m1 (.slice d1 e1 f1) (q1)) (h2:Rd w (.slice a2 n2 c2) m2 (.slice d2 e2 f2) (q2)) (hd:InI d) (b1:Bq 38 q1) (b2:Bq 38 q2) (v1 v2:Int) (hv1:sgnQ q1=v1) (hv2:sgnQ q2=v2) (g1:v1=0) (g2:v2 < 0):
  Calls Tryz.prog 133 #[.int .i64 d,.agg #[.slice a1 n1 c1,.bool m1,.slice d1 e1 f1],.agg #[.slice a2 n2 c2,.bool m2,.slice d2 e2 f2]] w (RetR w (0)):=by
 have HV1:=ζ hv1
 have HV2:=ζ hv2
 clear hv1 hv2
 obtain ⟨half,hhalf⟩:∃half,(d:Rat)*(((1:Int):Rat) / ((2:Int):Rat))=half:=⟨_,rfl⟩
 try rw [hhalf]
 have HB:=ζ (show Bq 60 half from by rw [←hhalf];exact(int_bq hd).mul ((int_bq (k:=1) (by omega)).div (int_bq (k:=2) (by omega)) (by decide)))
 have HH:=ζ hhalf
 have B1:=ζ b1
 have B2:=ζ b2
 have HD:=ζ hd
 have hC:=ζ ((((((Sy.enter w).pR rfl rfl h1).pR rfl rfl h2).al w.heap.size #[.slice a1 n1 c1,.bool m1,.slice d1 e1 f1] 42 rfl).al (w.heap.size+1) #[.slice a2 n2 c2,.bool m2,.slice d2 e2 f2] 42 (by simp)).al (w.heap.size+2) #[.slice none 0 0,.bool false,.slice none 0 0] 42 (by simp))
 clear hhalf b1 b2 hd h1 h2
 go_enter Tryz.func133,Tryz.ntmps133
 go_upto_region 1 with fail
 refine wp_geny hC.out ?_
 intro V1 hc
 obtain ⟨b0,hb0⟩:∃b0,w.heap.size=b0:=⟨_,rfl⟩
 obtain ⟨b1,hb1⟩:∃b1,w.heap.size+1=b1:=⟨_,rfl⟩
 obtain ⟨b2,hb2⟩:∃b2,w.heap.size+2=b2:=⟨_,rfl⟩
 have hC1:Hid (Sy w V1 [(b0,#[.slice a1 n1 c1,.bool m1,.slice d1 e1 f1],42),(b1,#[.slice a2 n2 c2,.bool m2,.slice d2 e2 f2],42),(b2,#[.slice none 0 0,.bool false,.slice none 0 0],42)] [] [(fun V=>Rd V (.slice a1 n1 c1) m1 (.slice d1 e1 f1) (q1)),(fun V=>Rd V (.slice a2 n2 c2) m2 (.slice d2 e2 f2) (q2))]):=ζ (by rw [←hb2,←hb1,←hb0];exact hc)
 rw [hb2,hb1,hb0]
 clear hc hC hb0 hb1 hb2
 go_wp2_with fail
 refine(hof_any _ _ (InI.i64 HD.out)).mono ?_
 rintro e V2 ⟨a3,n3,c3,m3,d3,e3,f3,rfl,hz,hb⟩
 have hC2:=ζ ((hC1.out.call hb).pR rfl rfl hz)
 clear hb hz hC1
 go_wp2_with fail
 refine(hof_any _ _ (by omega)).mono ?_
 rintro e V3 ⟨a4,n4,c4,m4,d4,e4,f4,rfl,hz,hb⟩
 have hC3:=ζ ((hC2.out.call hb).pR rfl rfl hz)
 clear hb hz hC2
 go_wp2_with fail
 refine(hof_any _ _ (by omega)).mono ?_
 rintro e V4 ⟨a5,n5,c5,m5,d5,e5,f5,rfl,hz,hb⟩
 have hC4:=ζ ((hC3.out.call hb).pR rfl rfl hz)
 clear hb hz hC3
 go_wp2_with fail
 refine(hover_any _ _ _ _ _ _ _ _ _ _ _ _ _ _ _ _ _ (hC4.out.r 3 rfl) (hC4.out.r 4 rfl) 20 20 (int_bq (by omega)) (int_bq (by omega)) (by omega) (by omega) (by decide)).mono ?_
 rintro e V5 ⟨a6,n6,c6,m6,d6,e6,f6,rfl,hz,hb⟩
 have hC5:=ζ ((hC4.out.call hb).pR rfl rfl hz)
 clear hb hz hC4
 go_wp2_with fail
 refine(rmul_b (hC5.out.r 2 rfl) (hC5.out.r 5 rfl) (int_bq HD.out) ((int_bq (k:=1) (by omega)).div (int_bq (k:=2) (by omega)) (by decide)) (by omega) (by omega)).mono ?_
 rintro e V6 ⟨a7,n7,c7,m7,d7,e7,f7,rfl,hz,hb⟩
 have hC6:=ζ ((hC5.out.call hb).pR rfl rfl hz)
 clear hb hz hC5
 rw [HH.out]at hC6
 have hC7:=ζ ((hC6.out.pick [0,1,6] (rs':=[(fun V=>Rd V (.slice a1 n1 c1) m1 (.slice d1 e1 f1) (q1)),(fun V=>Rd V (.slice a2 n2 c2) m2 (.slice d2 e2 f2) (q2)),(fun V=>Rd V (.slice a7 n7 c7) m7 (.slice d7 e7 f7) (half))]) rfl).al V6.heap.size #[.slice a7 n7 c7,.bool m7,.slice d7 e7 f7] 42 rfl)
 go_upto_region 2 with fail
 obtain ⟨b3,hb3⟩:∃b3,V6.heap.size=b3:=⟨_,rfl⟩
 rw [hb3]at hC7⊢
 refine wp_geny hC7.out ?_
 intro V7 hc
 have hC:Hid (Sy w V7 [(b0,#[.slice a1 n1 c1,.bool m1,.slice d1 e1 f1],42),(b1,#[.slice a2 n2 c2,.bool m2,.slice d2 e2 f2],42),(b2,#[.slice none 0 0,.bool false,.slice none 0 0],42),(b3,#[.slice a7 n7 c7,.bool m7,.slice d7 e7 f7],42)] [] [(fun V=>Rd V (.slice a1 n1 c1) m1 (.slice d1 e1 f1) (q1)),(fun V=>Rd V (.slice a2 n2 c2) m2 (.slice d2 e2 f2) (q2)),(fun V=>Rd V (.slice a7 n7 c7) m7 (.slice d7 e7 f7) (half))]):=ζ hc
 clear hc hC6 hC7 hb3
 subst g1
 have x0_0:=hC.out.cell 0 0 rfl rfl
 have x0_1:=hC.out.cell 0 1 rfl rfl
 have x0_2:=hC.out.cell 0 2 rfl rfl
 go_wp2_with fail
 refine(hsign_is (hC.out.r 0 rfl) HV1.out).mono ?_
 rintro e V8 ⟨rfl,hb⟩
 have hD:=ζ (hC.out.call hb)
 clear hb hC x0_0 x0_1 x0_2
 have x1_0:=hD.out.cell 1 0 rfl rfl
 have x1_1:=hD.out.cell 1 1 rfl rfl
 have x1_2:=hD.out.cell 1 2 rfl rfl
 go_wp2_with fail
 refine(hsign_is (hD.out.r 1 rfl) HV2.out).mono ?_
 rintro e V9 ⟨rfl,hb⟩
 have hE:=ζ (hD.out.call hb)
 clear hb hD x1_0 x1_1 x1_2
 have x0_0:=hE.out.cell 0 0 rfl rfl
 have x0_1:=hE.out.cell 0 1 rfl rfl
 have x0_2:=hE.out.cell 0 2 rfl rfl
 go_wp2_with fail
 refine(hsign_is (hE.out.r 0 rfl) HV1.out).mono ?_
 rintro e V10 ⟨rfl,hb⟩
 have hG:=ζ (hE.out.call hb)
 clear hb hE x0_0 x0_1 x0_2
 have x1_0:=hG.out.cell 1 0 rfl rfl
 have x1_1:=hG.out.cell 1 1 rfl rfl
 have x1_2:=hG.out.cell 1 2 rfl rfl
 go_wp2_with fail
 refine(hsign_is (hG.out.r 1 rfl) HV2.out).mono ?_
 rintro e V11 ⟨rfl,hb⟩
 have hI:=ζ (hG.out.call hb)
 clear hb hG x1_0 x1_1 x1_2
 have x2_0:=hI.out.cell 2 0 rfl rfl
 have xf2_0:=hI.out.free 2 0 rfl
 have x2_1:=hI.out.cell 2 1 rfl rfl
 have xf2_1:=hI.out.free 2 1 rfl
 have x2_2:=hI.out.cell 2 2 rfl rfl
 have xf2_2:=hI.out.free 2 2 rfl
 go_wp2
 have hZ:=ζ ((hI.out|>.set (j:=0) (v:= .slice none 0 0) 2 rfl|>.set (j:=1) (v:= .bool false) 2 rfl|>.set (j:=2) (v:= .slice none 0 0) 2 rfl).pR rfl rfl Rd.nil)
 exact mW3_2
theorem positive_pn (d:Int) (a1:Option Addr) (n1 c1:Nat) (m1:Bool) (d1:Option Addr) (e1 f1:Nat) (q1:Rat) (a2:Option Addr) (n2 c2:Nat) (m2:Bool) (d2:Option Addr) (e2 f2:Nat) (q2:Rat) (h1:Rd w (.slice a1 n1 c1) m1 (.slice d1 e1 f1) (q1)) (h2:Rd w (.slice a2 n2 c2) m2 (.slice d2 e2 f2) (q2)) (hd:InI d) (b1:Bq 38 q1) (b2:Bq 38 q2) (v1 v2:Int) (hv1:sgnQ q1=v1) (hv2:sgnQ q2=v2) (g1:0 < v1) (g2:v2 < 0):
  Calls Tryz.prog 133 #[.int .i64 d,.agg #[.slice a1 n1 c1,.bool m1,.slice d1 e1 f1],.agg #[.slice a2 n2 c2,.bool m2,.slice d2 e2 f2]] w (RetR w (topQ q1 q2*topQ q1 q2*((d:Rat)*(((1:Int):Rat) / ((2:Int):Rat))) / (q1 - q2).abs)):=by
 have HV1:=ζ hv1
 have HV2:=ζ hv2
 clear hv1 hv2
 obtain ⟨top,htop⟩:∃top,topQ q1 q2=top:=⟨_,rfl⟩
 have BT:=ζ (show Bq 38 top from by rw [←htop];unfold topQ;split;exact b2;exact b1)
 rw [htop]
 have HTP:=ζ htop
 clear htop
 have HNE:=ζ (show(q1 - q2).abs≠0 from by
  have:=HV1.out
  have:=HV2.out
  unfold sgnQ at*
  unfold Rat.abs
  split<;>grind)
 have HAB:=ζ (show Bq 77 (q1 - q2).abs from by
  unfold Rat.abs
  split
  ·exact b1.minus b2
  ·exact(b1.minus b2).neg)
 obtain ⟨half,hhalf⟩:∃half,(d:Rat)*(((1:Int):Rat) / ((2:Int):Rat))=half:=⟨_,rfl⟩
 try rw [hhalf]
 have HB:=ζ (show Bq 60 half from by rw [←hhalf];exact(int_bq hd).mul ((int_bq (k:=1) (by omega)).div (int_bq (k:=2) (by omega)) (by decide)))
 have HH:=ζ hhalf
 have B1:=ζ b1
 have B2:=ζ b2
 have HD:=ζ hd
 have hC:=ζ ((((((Sy.enter w).pR rfl rfl h1).pR rfl rfl h2).al w.heap.size #[.slice a1 n1 c1,.bool m1,.slice d1 e1 f1] 42 rfl).al (w.heap.size+1) #[.slice a2 n2 c2,.bool m2,.slice d2 e2 f2] 42 (by simp)).al (w.heap.size+2) #[.slice none 0 0,.bool false,.slice none 0 0] 42 (by simp))
 clear hhalf b1 b2 hd h1 h2
 go_enter Tryz.func133,Tryz.ntmps133
 go_upto_region 1 with fail
 refine wp_geny hC.out ?_
 intro V1 hc
 obtain ⟨b0,hb0⟩:∃b0,w.heap.size=b0:=⟨_,rfl⟩
 obtain ⟨b1,hb1⟩:∃b1,w.heap.size+1=b1:=⟨_,rfl⟩
 obtain ⟨b2,hb2⟩:∃b2,w.heap.size+2=b2:=⟨_,rfl⟩
 have hC1:Hid (Sy w V1 [(b0,#[.slice a1 n1 c1,.bool m1,.slice d1 e1 f1],42),(b1,#[.slice a2 n2 c2,.bool m2,.slice d2 e2 f2],42),(b2,#[.slice none 0 0,.bool false,.slice none 0 0],42)] [] [(fun V=>Rd V (.slice a1 n1 c1) m1 (.slice d1 e1 f1) (q1)),(fun V=>Rd V (.slice a2 n2 c2) m2 (.slice d2 e2 f2) (q2))]):=ζ (by rw [←hb2,←hb1,←hb0];exact hc)
 rw [hb2,hb1,hb0]
 clear hc hC hb0 hb1 hb2
 go_wp2_with fail
 refine(hof_any _ _ (InI.i64 HD.out)).mono ?_
 rintro e V2 ⟨a3,n3,c3,m3,d3,e3,f3,rfl,hz,hb⟩
 have hC2:=ζ ((hC1.out.call hb).pR rfl rfl hz)
 clear hb hz hC1
 go_wp2_with fail
 refine(hof_any _ _ (by omega)).mono ?_
 rintro e V3 ⟨a4,n4,c4,m4,d4,e4,f4,rfl,hz,hb⟩
 have hC3:=ζ ((hC2.out.call hb).pR rfl rfl hz)
 clear hb hz hC2
 go_wp2_with fail
 refine(hof_any _ _ (by omega)).mono ?_
 rintro e V4 ⟨a5,n5,c5,m5,d5,e5,f5,rfl,hz,hb⟩
 have hC4:=ζ ((hC3.out.call hb).pR rfl rfl hz)
 clear hb hz hC3
 go_wp2_with fail
 refine(hover_any _ _ _ _ _ _ _ _ _ _ _ _ _ _ _ _ _ (hC4.out.r 3 rfl) (hC4.out.r 4 rfl) 20 20 (int_bq (by omega)) (int_bq (by omega)) (by omega) (by omega) (by decide)).mono ?_
 rintro e V5 ⟨a6,n6,c6,m6,d6,e6,f6,rfl,hz,hb⟩
 have hC5:=ζ ((hC4.out.call hb).pR rfl rfl hz)
 clear hb hz hC4
 go_wp2_with fail
 refine(rmul_b (hC5.out.r 2 rfl) (hC5.out.r 5 rfl) (int_bq HD.out) ((int_bq (k:=1) (by omega)).div (int_bq (k:=2) (by omega)) (by decide)) (by omega) (by omega)).mono ?_
 rintro e V6 ⟨a7,n7,c7,m7,d7,e7,f7,rfl,hz,hb⟩
 have hC6:=ζ ((hC5.out.call hb).pR rfl rfl hz)
 clear hb hz hC5
 rw [HH.out]at hC6
 have hC7:=ζ ((hC6.out.pick [0,1,6] (rs':=[(fun V=>Rd V (.slice a1 n1 c1) m1 (.slice d1 e1 f1) (q1)),(fun V=>Rd V (.slice a2 n2 c2) m2 (.slice d2 e2 f2) (q2)),(fun V=>Rd V (.slice a7 n7 c7) m7 (.slice d7 e7 f7) (half))]) rfl).al V6.heap.size #[.slice a7 n7 c7,.bool m7,.slice d7 e7 f7] 42 rfl)
 go_upto_region 2 with fail
 obtain ⟨b3,hb3⟩:∃b3,V6.heap.size=b3:=⟨_,rfl⟩
 rw [hb3]at hC7⊢
 refine wp_geny hC7.out ?_
 intro V7 hc
 have hC:Hid (Sy w V7 [(b0,#[.slice a1 n1 c1,.bool m1,.slice d1 e1 f1],42),(b1,#[.slice a2 n2 c2,.bool m2,.slice d2 e2 f2],42),(b2,#[.slice none 0 0,.bool false,.slice none 0 0],42),(b3,#[.slice a7 n7 c7,.bool m7,.slice d7 e7 f7],42)] [] [(fun V=>Rd V (.slice a1 n1 c1) m1 (.slice d1 e1 f1) (q1)),(fun V=>Rd V (.slice a2 n2 c2) m2 (.slice d2 e2 f2) (q2)),(fun V=>Rd V (.slice a7 n7 c7) m7 (.slice d7 e7 f7) (half))]):=ζ hc
 clear hc hC6 hC7 hb3
 have x0_0:=hC.out.cell 0 0 rfl rfl
 have x0_1:=hC.out.cell 0 1 rfl rfl
 have x0_2:=hC.out.cell 0 2 rfl rfl
 go_wp2_with fail
 refine(hsign_is (hC.out.r 0 rfl) HV1.out).mono ?_
 rintro e V8 ⟨rfl,hb⟩
 have hD:=ζ (hC.out.call hb)
 clear hb hC x0_0 x0_1 x0_2
 have x1_0:=hD.out.cell 1 0 rfl rfl
 have x1_1:=hD.out.cell 1 1 rfl rfl
 have x1_2:=hD.out.cell 1 2 rfl rfl
 go_wp2_with fail
 refine(hsign_is (hD.out.r 1 rfl) HV2.out).mono ?_
 rintro e V9 ⟨rfl,hb⟩
 have hE:=ζ (hD.out.call hb)
 clear hb hD x1_0 x1_1 x1_2
 have x0_0:=hE.out.cell 0 0 rfl rfl
 have x0_1:=hE.out.cell 0 1 rfl rfl
 have x0_2:=hE.out.cell 0 2 rfl rfl
 go_wp2_with fail
 refine(hsign_is (hE.out.r 0 rfl) HV1.out).mono ?_
 rintro e V10 ⟨rfl,hb⟩
 have hG:=ζ (hE.out.call hb)
 clear hb hE x0_0 x0_1 x0_2
 exact mW3_0
theorem positive_np (d:Int) (a1:Option Addr) (n1 c1:Nat) (m1:Bool) (d1:Option Addr) (e1 f1:Nat) (q1:Rat) (a2:Option Addr) (n2 c2:Nat) (m2:Bool) (d2:Option Addr) (e2 f2:Nat) (q2:Rat) (h1:Rd w (.slice a1 n1 c1) m1 (.slice d1 e1 f1) (q1)) (h2:Rd w (.slice a2 n2 c2) m2 (.slice d2 e2 f2) (q2)) (hd:InI d) (b1:Bq 38 q1) (b2:Bq 38 q2) (v1 v2:Int) (hv1:sgnQ q1=v1) (hv2:sgnQ q2=v2) (g1:v1 < 0) (g2:0 < v2):
  Calls Tryz.prog 133 #[.int .i64 d,.agg #[.slice a1 n1 c1,.bool m1,.slice d1 e1 f1],.agg #[.slice a2 n2 c2,.bool m2,.slice d2 e2 f2]] w (RetR w (topQ q1 q2*topQ q1 q2*((d:Rat)*(((1:Int):Rat) / ((2:Int):Rat))) / (q1 - q2).abs)):=by
 have HV1:=ζ hv1
 have HV2:=ζ hv2
 clear hv1 hv2
 obtain ⟨top,htop⟩:∃top,topQ q1 q2=top:=⟨_,rfl⟩
 have BT:=ζ (show Bq 38 top from by rw [←htop];unfold topQ;split;exact b2;exact b1)
 rw [htop]
 have HTP:=ζ htop
 clear htop
 have HNE:=ζ (show(q1 - q2).abs≠0 from by
  have:=HV1.out
  have:=HV2.out
  unfold sgnQ at*
  unfold Rat.abs
  split<;>grind)
 have HAB:=ζ (show Bq 77 (q1 - q2).abs from by
  unfold Rat.abs
  split
  ·exact b1.minus b2
  ·exact(b1.minus b2).neg)
 obtain ⟨half,hhalf⟩:∃half,(d:Rat)*(((1:Int):Rat) / ((2:Int):Rat))=half:=⟨_,rfl⟩
 try rw [hhalf]
 have HB:=ζ (show Bq 60 half from by rw [←hhalf];exact(int_bq hd).mul ((int_bq (k:=1) (by omega)).div (int_bq (k:=2) (by omega)) (by decide)))
 have HH:=ζ hhalf
 have B1:=ζ b1
 have B2:=ζ b2
 have HD:=ζ hd
 have hC:=ζ ((((((Sy.enter w).pR rfl rfl h1).pR rfl rfl h2).al w.heap.size #[.slice a1 n1 c1,.bool m1,.slice d1 e1 f1] 42 rfl).al (w.heap.size+1) #[.slice a2 n2 c2,.bool m2,.slice d2 e2 f2] 42 (by simp)).al (w.heap.size+2) #[.slice none 0 0,.bool false,.slice none 0 0] 42 (by simp))
 clear hhalf b1 b2 hd h1 h2
 go_enter Tryz.func133,Tryz.ntmps133
 go_upto_region 1 with fail
 refine wp_geny hC.out ?_
 intro V1 hc
 obtain ⟨b0,hb0⟩:∃b0,w.heap.size=b0:=⟨_,rfl⟩
 obtain ⟨b1,hb1⟩:∃b1,w.heap.size+1=b1:=⟨_,rfl⟩
 obtain ⟨b2,hb2⟩:∃b2,w.heap.size+2=b2:=⟨_,rfl⟩
 have hC1:Hid (Sy w V1 [(b0,#[.slice a1 n1 c1,.bool m1,.slice d1 e1 f1],42),(b1,#[.slice a2 n2 c2,.bool m2,.slice d2 e2 f2],42),(b2,#[.slice none 0 0,.bool false,.slice none 0 0],42)] [] [(fun V=>Rd V (.slice a1 n1 c1) m1 (.slice d1 e1 f1) (q1)),(fun V=>Rd V (.slice a2 n2 c2) m2 (.slice d2 e2 f2) (q2))]):=ζ (by rw [←hb2,←hb1,←hb0];exact hc)
 rw [hb2,hb1,hb0]
 clear hc hC hb0 hb1 hb2
 go_wp2_with fail
 refine(hof_any _ _ (InI.i64 HD.out)).mono ?_
 rintro e V2 ⟨a3,n3,c3,m3,d3,e3,f3,rfl,hz,hb⟩
 have hC2:=ζ ((hC1.out.call hb).pR rfl rfl hz)
 clear hb hz hC1
 go_wp2_with fail
 refine(hof_any _ _ (by omega)).mono ?_
 rintro e V3 ⟨a4,n4,c4,m4,d4,e4,f4,rfl,hz,hb⟩
 have hC3:=ζ ((hC2.out.call hb).pR rfl rfl hz)
 clear hb hz hC2
 go_wp2_with fail
 refine(hof_any _ _ (by omega)).mono ?_
 rintro e V4 ⟨a5,n5,c5,m5,d5,e5,f5,rfl,hz,hb⟩
 have hC4:=ζ ((hC3.out.call hb).pR rfl rfl hz)
 clear hb hz hC3
 go_wp2_with fail
 refine(hover_any _ _ _ _ _ _ _ _ _ _ _ _ _ _ _ _ _ (hC4.out.r 3 rfl) (hC4.out.r 4 rfl) 20 20 (int_bq (by omega)) (int_bq (by omega)) (by omega) (by omega) (by decide)).mono ?_
 rintro e V5 ⟨a6,n6,c6,m6,d6,e6,f6,rfl,hz,hb⟩
 have hC5:=ζ ((hC4.out.call hb).pR rfl rfl hz)
 clear hb hz hC4
 go_wp2_with fail
 refine(rmul_b (hC5.out.r 2 rfl) (hC5.out.r 5 rfl) (int_bq HD.out) ((int_bq (k:=1) (by omega)).div (int_bq (k:=2) (by omega)) (by decide)) (by omega) (by omega)).mono ?_
 rintro e V6 ⟨a7,n7,c7,m7,d7,e7,f7,rfl,hz,hb⟩
 have hC6:=ζ ((hC5.out.call hb).pR rfl rfl hz)
 clear hb hz hC5
 rw [HH.out]at hC6
 have hC7:=ζ ((hC6.out.pick [0,1,6] (rs':=[(fun V=>Rd V (.slice a1 n1 c1) m1 (.slice d1 e1 f1) (q1)),(fun V=>Rd V (.slice a2 n2 c2) m2 (.slice d2 e2 f2) (q2)),(fun V=>Rd V (.slice a7 n7 c7) m7 (.slice d7 e7 f7) (half))]) rfl).al V6.heap.size #[.slice a7 n7 c7,.bool m7,.slice d7 e7 f7] 42 rfl)
 go_upto_region 2 with fail
 obtain ⟨b3,hb3⟩:∃b3,V6.heap.size=b3:=⟨_,rfl⟩
 rw [hb3]at hC7⊢
 refine wp_geny hC7.out ?_
 intro V7 hc
 have hC:Hid (Sy w V7 [(b0,#[.slice a1 n1 c1,.bool m1,.slice d1 e1 f1],42),(b1,#[.slice a2 n2 c2,.bool m2,.slice d2 e2 f2],42),(b2,#[.slice none 0 0,.bool false,.slice none 0 0],42),(b3,#[.slice a7 n7 c7,.bool m7,.slice d7 e7 f7],42)] [] [(fun V=>Rd V (.slice a1 n1 c1) m1 (.slice d1 e1 f1) (q1)),(fun V=>Rd V (.slice a2 n2 c2) m2 (.slice d2 e2 f2) (q2)),(fun V=>Rd V (.slice a7 n7 c7) m7 (.slice d7 e7 f7) (half))]):=ζ hc
 clear hc hC6 hC7 hb3
 have x0_0:=hC.out.cell 0 0 rfl rfl
 have x0_1:=hC.out.cell 0 1 rfl rfl
 have x0_2:=hC.out.cell 0 2 rfl rfl
 go_wp2_with fail
 refine(hsign_is (hC.out.r 0 rfl) HV1.out).mono ?_
 rintro e V8 ⟨rfl,hb⟩
 have hD:=ζ (hC.out.call hb)
 clear hb hC x0_0 x0_1 x0_2
 have x0_0:=hD.out.cell 0 0 rfl rfl
 have x0_1:=hD.out.cell 0 1 rfl rfl
 have x0_2:=hD.out.cell 0 2 rfl rfl
 go_wp2_with fail
 refine(hsign_is (hD.out.r 0 rfl) HV1.out).mono ?_
 rintro e V9 ⟨rfl,hb⟩
 have hE:=ζ (hD.out.call hb)
 clear hb hD x0_0 x0_1 x0_2
 have x1_0:=hE.out.cell 1 0 rfl rfl
 have x1_1:=hE.out.cell 1 1 rfl rfl
 have x1_2:=hE.out.cell 1 2 rfl rfl
 go_wp2_with fail
 refine(hsign_is (hE.out.r 1 rfl) HV2.out).mono ?_
 rintro e V10 ⟨rfl,hb⟩
 have hG:=ζ (hE.out.call hb)
 clear hb hE x1_0 x1_1 x1_2
 exact mW3_0
theorem positive_any (d:Int) (a1:Option Addr) (n1 c1:Nat) (m1:Bool) (d1:Option Addr) (e1 f1:Nat) (q1:Rat) (a2:Option Addr) (n2 c2:Nat) (m2:Bool) (d2:Option Addr) (e2 f2:Nat) (q2:Rat) (h1:Rd w (.slice a1 n1 c1) m1 (.slice d1 e1 f1) (q1)) (h2:Rd w (.slice a2 n2 c2) m2 (.slice d2 e2 f2) (q2)) (hd:InI d) (b1:Bq 38 q1) (b2:Bq 38 q2):
  Calls Tryz.prog 133 #[.int .i64 d,.agg #[.slice a1 n1 c1,.bool m1,.slice d1 e1 f1],.agg #[.slice a2 n2 c2,.bool m2,.slice d2 e2 f2]] w (RetR w (posQ (d:Rat) q1 q2)):=by
 have eh:(((1:Int):Rat) / ((2:Int):Rat))=1 / 2:=rfl
 have s1:=@sgnQ_pos q1
 have s2:=@sgnQ_neg q1
 have s3:=@sgnQ_pos q2
 have s4:=@sgnQ_neg q2
 have z1:=@sgnQ_zero q1
 unfold posQ
 split
 ·rename_i h
  exact positive_pp w d a1 n1 c1 m1 d1 e1 f1 q1 a2 n2 c2 m2 d2 e2 f2 q2 h1 h2 hd b1 b2 _ _ rfl rfl (Int.not_lt.1 fun e=>by have:=s2.1 e;grind) (Int.not_lt.1 fun e=>by have:=s4.1 e;grind)
 ·rename_i h
  split
  ·rename_i g
   rcases rat_tri q1 0 with e | e | e
   ·exact positive_n1 w d a1 n1 c1 m1 d1 e1 f1 q1 a2 n2 c2 m2 d2 e2 f2 q2 h1 h2 hd b1 b2 _ _ rfl rfl (s2.2 e) (Int.not_lt.1 fun e=>by have:=s3.1 e;grind)
   ·exact positive_n2 w d a1 n1 c1 m1 d1 e1 f1 q1 a2 n2 c2 m2 d2 e2 f2 q2 h1 h2 hd b1 b2 _ _ rfl rfl (z1.2 e) (s4.2 (by grind))
   ·grind
  ·rename_i g
   rcases rat_tri q1 0 with e | e | e
   ·exact positive_np w d a1 n1 c1 m1 d1 e1 f1 q1 a2 n2 c2 m2 d2 e2 f2 q2 h1 h2 hd b1 b2 _ _ rfl rfl (s2.2 e) (s3.2 (by grind))
   ·exfalso;grind
   ·exact positive_pn w d a1 n1 c1 m1 d1 e1 f1 q1 a2 n2 c2 m2 d2 e2 f2 q2 h1 h2 hd b1 b2 _ _ rfl rfl (s1.2 e) (s4.2 (by grind))
end
end Go.Proofs.YthmdhlopeponcaaGreatDoor
