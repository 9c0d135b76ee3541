/- a part of the proof -/
import Derived.Test.YthmdhlopeponcaaGreatDoorJ1
import Derived.Test.YthmdhlopeponcaaGreatDoorJ18
import Derived.Test.YthmdhlopeponcaaGreatDoorJ20
import Derived.Test.YthmdhlopeponcaaGreatDoorJ19
set_option maxRecDepth 100000
set_option maxHeartbeats 8000000
namespace Go.Proofs.YthmdhlopeponcaaGreatDoor
open Go.RowKit Go.Shelf Dig
theorem rowR_two {W:World} {g:Nat} {a1:OA} {n1 c1:Nat} {m1:Bool} {d1:OA} {e1 f1:Nat} {q1:Rat} {a2:OA} {n2 c2:Nat} {m2:Bool} {d2:OA} {e2 f2:Nat} {q2:Rat} (hg:g < W.heap.size) (h0:W.cell? ⟨g,0,none⟩=some (.slice a1 n1 c1)) (h1:W.cell? ⟨g,1,none⟩=some (.bool m1)) (h2:W.cell? ⟨g,2,none⟩=some (.slice d1 e1 f1))
  (h3:W.cell? ⟨g,3,none⟩=some (.slice a2 n2 c2)) (h4:W.cell? ⟨g,4,none⟩=some (.bool m2)) (h5:W.cell? ⟨g,5,none⟩=some (.slice d2 e2 f2)) (hy:Rd W (.slice a1 n1 c1) m1 (.slice d1 e1 f1) q1) (hz:Rd W (.slice a2 n2 c2) m2 (.slice d2 e2 f2) q2):
  RowR W (.slice (some ⟨g,0,none⟩) [q1,q2].length 2) [q1,q2]:=by
 refine⟨some ⟨g,0,none⟩,2,rfl,fun k hk=>?_⟩
 rcases Nat.lt_or_ge k 1 with h | h
 ·obtain rfl:k=0:=by omega
  exact⟨g,_,_,_,rfl,hg,h0,h1,h2,hy⟩
 ·obtain rfl:k=1:=by simp at hk;omega
  exact⟨g,_,_,_,rfl,hg,h3,h4,h5,hz⟩
theorem max_two {w:World} {g:Nat} {q1 q2:Rat} (h:RowR w (.slice (some ⟨g,0,none⟩) [q1,q2].length 2) [q1,q2]) (b1:Bq 400 q1) (b2:Bq 400 q2):
  Calls Tryz.prog 158 #[.slice (some ⟨g,0,none⟩) 2 2] w (RetR w (topQ q1 q2)):=by
 have:=max_any (some ⟨g,0,none⟩) 2 [q1,q2] w h 400 (fun q hq=>by simp at hq;rcases hq with rfl | rfl<;>assumption) (by omega) (by simp)
 have e:foldQ (better 1) [q1,q2]=topQ q1 q2:=by
  show better 1 q1 q2=_
  unfold better topQ cmpQ
  by_cases h1:q2=q1
  ·rw [if_pos h1,h1];simp
  ·rw [if_neg h1]
   by_cases h2:q2 < q1
   ·rw [if_pos h2,if_neg (by decide),if_neg (by grind)]
   ·rw [if_neg h2,if_pos rfl,if_pos (by grind)]
 rw [e]at this
 exact this
theorem min_two {w:World} {g:Nat} {q1 q2:Rat} (h:RowR w (.slice (some ⟨g,0,none⟩) [q1,q2].length 2) [q1,q2]) (b1:Bq 400 q1) (b2:Bq 400 q2):
  Calls Tryz.prog 157 #[.slice (some ⟨g,0,none⟩) 2 2] w (RetR w (minQ q1 q2)):=by
 have:=min_any (some ⟨g,0,none⟩) 2 [q1,q2] w h 400 (fun q hq=>by simp at hq;rcases hq with rfl | rfl<;>assumption) (by omega) (by simp)
 have e:foldQ (better (-1)) [q1,q2]=minQ q1 q2:=by
  show better (-1) q1 q2=_
  unfold better minQ cmpQ
  by_cases h1:q2=q1
  ·rw [if_pos h1,h1];simp
  ·rw [if_neg h1]
   by_cases h2:q2 < q1
   ·rw [if_pos h2,if_pos rfl,if_pos h2]
   ·rw [if_neg h2,if_neg (by decide),if_neg h2]
 rw [e]at this
 exact this
section
variable (w:World)
theorem mW3_1 {P_ : Prop} (h : P_ := by
 have g0:=hF.c 2 0
 have g1:=hF.c 2 1
 have g2:=hF.c 2 2
 simp [results,Tryz.results133,go_sem,g0,g1,g2]) : P_ := h
theorem mW3_0 {P_ : Prop} (h : P_ := by
 go_upto_region 6 with fail
 have AC:=hG.out.c 0 0
 have AD:=hG.out.c 0 1
 have AE:=hG.out.c 0 2
 have AG:=hG.out.c 1 0
 have AH:=hG.out.c 1 1
 have AI:=hG.out.c 1 2
 go_wp2_with fail
 have hM:=ζ (hG.out.onew V10.heap.size #[.slice a1 n1 c1,.bool m1,.slice d1 e1 f1,.slice a2 n2 c2,.bool m2,.slice d2 e2 f2] 42 3 2 rfl (by omega) rfl)
 refine(max_two (rowR_two ((World.ownsRow.lt (hM.out.orow 0 rfl) _ rfl).2) (hM.out.rcell 0 rfl (k:=0) rfl) (hM.out.rcell 0 rfl (k:=1) rfl) (hM.out.rcell 0 rfl (k:=2) rfl) (hM.out.rcell 0 rfl (k:=3) rfl) (hM.out.rcell 0 rfl (k:=4) rfl) (hM.out.rcell 0 rfl (k:=5) rfl) (hM.out.r 0 rfl) (hM.out.r 1 rfl)) (B1.out.mono (by omega)) (B2.out.mono (by omega))).mono ?_
 rintro e W1 ⟨a8,n8,c8,m8,d8,e8,f8,rfl,hz,hb⟩
 have hN:=ζ ((((hM.out.call hb).pR rfl rfl hz).thin (List.Sublist.refl _) (List.nil_sublist _)).al W1.heap.size #[.slice a8 n8 c8,.bool m8,.slice d8 e8 f8] 42 rfl)
 clear hb hz hM hG AC AD AE AG AH AI
 go_upto_region 7 with fail
 obtain ⟨b4,hb4⟩:∃b4,W1.heap.size=b4:=⟨_,rfl⟩
 rw [hb4]at hN⊢
 refine wp_geny hN.out ?_
 intro W2 hc
 rw [HTP.out]at hc
 have hO:Hid (Sy w W2 [(b0,#[.slice a1 n1 c1,.bool m1,.slice d1 e1 f1],42),(b1,#[.slice a2 n2 c2,.bool m2,.slice d2 e2 f2],42),(b2,#[.slice none 0 0,.bool false,.slice none 0 0],42),(b3,#[.slice a7 n7 c7,.bool m7,.slice d7 e7 f7],42),(b4,#[.slice a8 n8 c8,.bool m8,.slice d8 e8 f8],42)] [] [(fun V=>Rd V (.slice a1 n1 c1) m1 (.slice d1 e1 f1) (q1)),(fun V=>Rd V (.slice a2 n2 c2) m2 (.slice d2 e2 f2) (q2)),(fun V=>Rd V (.slice a7 n7 c7) m7 (.slice d7 e7 f7) (half)),(fun V=>Rd V (.slice a8 n8 c8) m8 (.slice d8 e8 f8) (top))]):=ζ hc
 clear hc hN hb4
 have HSL:∀V ex os rs,Sy w V ([(b0,#[.slice a1 n1 c1,.bool m1,.slice d1 e1 f1],42),(b1,#[.slice a2 n2 c2,.bool m2,.slice d2 e2 f2],42),(b2,#[.slice none 0 0,.bool false,.slice none 0 0],42),(b3,#[.slice a7 n7 c7,.bool m7,.slice d7 e7 f7],42),(b4,#[.slice a8 n8 c8,.bool m8,.slice d8 e8 f8],42)]++ex) os rs->(fun w'=>w'.cell? ⟨b0,0,none⟩=some (.slice a1 n1 c1)/\w'.cell? ⟨b0,1,none⟩=some (.bool m1)/\w'.cell? ⟨b0,2,none⟩=some (.slice d1 e1 f1)/\w'.cell? ⟨b1,0,none⟩=some (.slice a2 n2 c2)/\w'.cell? ⟨b1,1,none⟩=some (.bool m2)/\w'.cell? ⟨b1,2,none⟩=some (.slice d2 e2 f2)/\w'.cell? ⟨b3,0,none⟩=some (.slice a7 n7 c7)/\w'.cell? ⟨b3,1,none⟩=some (.bool m7)/\w'.cell? ⟨b3,2,none⟩=some (.slice d7 e7 f7)/\w'.cell? ⟨b4,0,none⟩=some (.slice a8 n8 c8)/\w'.cell? ⟨b4,1,none⟩=some (.bool m8)/\w'.cell? ⟨b4,2,none⟩=some (.slice d8 e8 f8)/\True) V:=fun V ex os rs hX=>⟨hX.c 0 0,hX.c 0 1,hX.c 0 2,hX.c 1 0,hX.c 1 1,hX.c 1 2,hX.c 3 0,hX.c 3 1,hX.c 3 2,hX.c 4 0,hX.c 4 1,hX.c 4 2,trivial⟩
 refine wp_region_held_drew (S:=(fun w'=>w'.cell? ⟨b0,0,none⟩=some (.slice a1 n1 c1)/\w'.cell? ⟨b0,1,none⟩=some (.bool m1)/\w'.cell? ⟨b0,2,none⟩=some (.slice d1 e1 f1)/\w'.cell? ⟨b1,0,none⟩=some (.slice a2 n2 c2)/\w'.cell? ⟨b1,1,none⟩=some (.bool m2)/\w'.cell? ⟨b1,2,none⟩=some (.slice d2 e2 f2)/\w'.cell? ⟨b3,0,none⟩=some (.slice a7 n7 c7)/\w'.cell? ⟨b3,1,none⟩=some (.bool m7)/\w'.cell? ⟨b3,2,none⟩=some (.slice d7 e7 f7)/\w'.cell? ⟨b4,0,none⟩=some (.slice a8 n8 c8)/\w'.cell? ⟨b4,1,none⟩=some (.bool m8)/\w'.cell? ⟨b4,2,none⟩=some (.slice d8 e8 f8)/\True)) (by kernel_rfl) ⟨hO.out.drew.c 0 0,hO.out.drew.c 0 1,hO.out.drew.c 0 2,hO.out.drew.c 1 0,hO.out.drew.c 1 1,hO.out.drew.c 1 2,hO.out.drew.c 3 0,hO.out.drew.c 3 1,hO.out.drew.c 3 2,hO.out.drew.c 4 0,hO.out.drew.c 4 1,hO.out.drew.c 4 2,trivial⟩ (fun hH=>?_)
 refine wpAnyH_geny (show Sy w _ [(b0,#[.slice a1 n1 c1,.bool m1,.slice d1 e1 f1],42),(b1,#[.slice a2 n2 c2,.bool m2,.slice d2 e2 f2],42),(b2,#[.slice none 0 0,.bool false,.slice none 0 0],42),(b3,#[.slice a7 n7 c7,.bool m7,.slice d7 e7 f7],42),(b4,#[.slice a8 n8 c8,.bool m8,.slice d8 e8 f8],42)] [] [(fun V=>Rd V (.slice a1 n1 c1) m1 (.slice d1 e1 f1) (q1)),(fun V=>Rd V (.slice a2 n2 c2) m2 (.slice d2 e2 f2) (q2)),(fun V=>Rd V (.slice a7 n7 c7) m7 (.slice d7 e7 f7) (half)),(fun V=>Rd V (.slice a8 n8 c8) m8 (.slice d8 e8 f8) (top))]from hO.out.drew) hH ?_
 intro A8 hc AF
 have AJ:=ζ hc
 clear hc hH hO
 refine tkA 0 rfl AF ?_
 try simp only [zP]
 refine tkA 1 rfl AF ?_
 try simp only [zP]
 refine tkA 3 rfl AF ?_
 try simp only [zP]
 refine tkA 5 rfl AF ?_
 try simp only [zP]
 refine tkA 6 rfl AF ?_
 try simp only [zP]
 refine rdy1 2 rfl (fun Kq AB=>?_)
 go_simp
 go_at_call 46
 refine(rmul_b (AJ.out.r 3 rfl) (AJ.out.r 3 rfl) BT.out BT.out (by omega) (by omega)).mono ?_
 rintro e wT ⟨a9,n9,c9,m9,d9,e9,f9,rfl,hz,hb⟩
 (try go_wp2_with fail)
 refine stW AB ((AJ.out.call hb).pR rfl rfl hz) ?_
 intro A9 AK AS
 clear AB Kq AJ hb hz AF
 try simp only [zP]
 refine rdy1 4 rfl (fun Kq AB=>?_)
 go_simp
 go_at_call 46
 refine(rmul_b (AK.out.r 4 rfl) (AK.out.r 2 rfl) (BT.out.mul BT.out) HB.out (by omega) (by omega)).mono ?_
 rintro e wT ⟨a10,n10,c10,m10,d10,e10,f10,rfl,hz,hb⟩
 (try go_wp2_with fail)
 refine stW AB ((AK.out.call hb).pR rfl rfl hz) ?_
 intro Ab AL AT
 clear AB Kq AK hb hz AS
 try simp only [zP]
 refine rdy1 7 rfl (fun Kq AB=>?_)
 go_simp
 go_at_call 44
 refine(rsub_b (AL.out.r 0 rfl) (AL.out.r 1 rfl) B1.out B2.out (by omega) (by omega)).mono ?_
 rintro e wT ⟨a11,n11,c11,m11,d11,e11,f11,rfl,hz,hb⟩
 (try go_wp2_with fail)
 refine stW AB ((AL.out.call hb).pR rfl rfl hz) ?_
 intro Ac AO AU
 clear AB Kq AL hb hz AT
 try simp only [zP]
 refine rdy1 8 rfl (fun Kq AB=>?_)
 go_simp
 go_at_call 166
 refine(rabs_any _ _ _ _ _ _ _ _ _ (AO.out.r 6 rfl)).mono ?_
 rintro e wT ⟨a12,n12,c12,m12,d12,e12,f12,rfl,hz,hb⟩
 (try go_wp2_with fail)
 refine stW AB ((AO.out.call hb).pR rfl rfl hz) ?_
 intro Ad AM AV
 clear AB Kq AO hb hz AU
 try simp only [zP]
 refine rdy1 9 rfl (fun Kq AB=>?_)
 go_simp
 go_at_call 154
 refine(hover_any _ _ _ _ _ _ _ _ _ _ _ _ _ _ _ _ _ (AM.out.r 5 rfl) (AM.out.r 7 rfl) 136 77 ((BT.out.mul BT.out).mul HB.out) HAB.out (by omega) (by omega) HNE.out).mono ?_
 rintro e wT ⟨a13,n13,c13,m13,d13,e13,f13,rfl,hz,hb⟩
 (try go_wp2_with fail)
 refine stW AB ((AM.out.call hb).pR rfl rfl hz) ?_
 intro Af AA AW
 clear AB Kq AM hb hz AV
 try simp only [zP]
 refine rdy1 10 rfl (fun Kq AB=>?_)
 have cQ0:=AA.out.c 2 0
 have fQ0:=AA.out.f 2 0
 have cQ1:=AA.out.c 2 1
 have fQ1:=AA.out.f 2 1
 have cQ2:=AA.out.c 2 2
 have fQ2:=AA.out.f 2 2
 go_simp
 refine stepZ AB (AA.out|>.set (j:=0) (v:= .slice a13 n13 c13) 2 rfl|>.set (j:=1) (v:= .bool m13) 2 rfl|>.set (j:=2) (v:= .slice d13 e13 f13) 2 rfl) (fun _ hX=>⟨hX.c 0 0,hX.c 0 1,hX.c 0 2,hX.c 1 0,hX.c 1 1,hX.c 1 2,hX.c 3 0,hX.c 3 1,hX.c 3 2,hX.c 4 0,hX.c 4 1,hX.c 4 2,trivial⟩) ?_
 intro Ag AX A4
 clear AB Kq AA cQ0 fQ0 cQ1 fQ1 cQ2 fQ2 AW
 try simp only [Act.put]
 refine wpAnyH_done (by kernel_rfl) ?_ _
 go_wp2
 refine ret_sy AX.out (v:= .agg #[.slice a13 n13 c13,.bool m13,.slice d13 e13 f13]) (fun hF=>?_) rfl (fun hF=>⟨_,_,_,_,_,_,_,rfl,hF.r 8 rfl,hF.be⟩)
 exact mW3_1) : P_ := h
theorem mW3_2 {P_ : Prop} (h : P_ := by
 refine ret_sy hZ.out (v:= .agg #[.slice none 0 0,.bool false,.slice none 0 0]) (fun hF=>?_) rfl (fun hF=>⟨_,_,_,_,_,_,_,rfl,hF.r 3 rfl,hF.be⟩)
 exact mW3_1) : P_ := h
theorem positive_pp (d:Int) (a1:OA) (n1 c1:Nat) (m1:Bool) (d1:OA) (e1 f1:Nat) (q1:Rat) (a2:OA) (n2 c2:Nat) (m2:Bool) (d2:OA) (e2 f2:Nat) (q2:Rat) (h1:Rd w (.slice a1 n1 c1) m1 (.slice d1 e1 f1) (q1)) (h2:Rd w (.slice a2 n2 c2) m2 (.slice d2 e2 f2) (q2)) (hd:InI d) (b1:Bq 38 q1) (b2:Bq 38 q2) (v1 v2:Int) (hv1:sgnQ q1=v1) (hv2:sgnQ q2=v2) (g1:0<=v1) (g2:0<=v2):
  Calls Tryz.prog 133 #[.int .i64 d,.agg #[.slice a1 n1 c1,.bool m1,.slice d1 e1 f1],.agg #[.slice a2 n2 c2,.bool m2,.slice d2 e2 f2]] w (RetR w ((q1+q2)*((d:Rat)*(((1:Int):Rat) / ((2:Int):Rat))))):=by
 have HV1:=ζ hv1
 have HV2:=ζ hv2
 clear hv1 hv2
 obtain ⟨half,hhalf⟩:∃half,(d:Rat)*(((1:Int):Rat) / ((2:Int):Rat))=half:=⟨_,rfl⟩
 try rw [hhalf]
 have HB:=ζ (show Bq 60 half by rw [<-hhalf];exact(int_bq hd).mul ((int_bq (k:=1) (by omega)).div (int_bq (k:=2) (by omega)) (by decide)))
 have HH:=ζ hhalf
 have B1:=ζ b1
 have B2:=ζ b2
 have HD:=ζ hd
 have hC:=ζ ((((((Sy.enter w).pR rfl rfl h1).pR rfl rfl h2).al w.heap.size #[.slice a1 n1 c1,.bool m1,.slice d1 e1 f1] 42 rfl).al (w.heap.size+1) #[.slice a2 n2 c2,.bool m2,.slice d2 e2 f2] 42 (by simp)).al (w.heap.size+2) #[.slice none 0 0,.bool false,.slice none 0 0] 42 (by simp))
 clear hhalf b1 b2 hd h1 h2
 go_enter Tryz.func133,Tryz.ntmps133
 go_upto_region 1 with fail
 refine wp_geny hC.out ?_
 intro V1 hc
 obtain ⟨b0,hb0⟩:∃b0,w.heap.size=b0:=⟨_,rfl⟩
 obtain ⟨b1,hb1⟩:∃b1,w.heap.size+1=b1:=⟨_,rfl⟩
 obtain ⟨b2,hb2⟩:∃b2,w.heap.size+2=b2:=⟨_,rfl⟩
 have hC1:Hid (Sy w V1 [(b0,#[.slice a1 n1 c1,.bool m1,.slice d1 e1 f1],42),(b1,#[.slice a2 n2 c2,.bool m2,.slice d2 e2 f2],42),(b2,#[.slice none 0 0,.bool false,.slice none 0 0],42)] [] [(fun V=>Rd V (.slice a1 n1 c1) m1 (.slice d1 e1 f1) (q1)),(fun V=>Rd V (.slice a2 n2 c2) m2 (.slice d2 e2 f2) (q2))]):=ζ (by rw [<-hb2,<-hb1,<-hb0];exact hc)
 rw [hb2,hb1,hb0]
 clear hc hC hb0 hb1 hb2
 go_wp2_with fail
 refine(hof_any _ _ (InI.i64 HD.out)).mono ?_
 rintro e V2 ⟨a3,n3,c3,m3,d3,e3,f3,rfl,hz,hb⟩
 have hC2:=ζ ((hC1.out.call hb).pR rfl rfl hz)
 clear hb hz hC1
 go_wp2_with fail
 refine(hof_any _ _ (by omega)).mono ?_
 rintro e V3 ⟨a4,n4,c4,m4,d4,e4,f4,rfl,hz,hb⟩
 have hC3:=ζ ((hC2.out.call hb).pR rfl rfl hz)
 clear hb hz hC2
 go_wp2_with fail
 refine(hof_any _ _ (by omega)).mono ?_
 rintro e V4 ⟨a5,n5,c5,m5,d5,e5,f5,rfl,hz,hb⟩
 have hC4:=ζ ((hC3.out.call hb).pR rfl rfl hz)
 clear hb hz hC3
 go_wp2_with fail
 refine(hover_any _ _ _ _ _ _ _ _ _ _ _ _ _ _ _ _ _ (hC4.out.r 3 rfl) (hC4.out.r 4 rfl) 20 20 (int_bq (by omega)) (int_bq (by omega)) (by omega) (by omega) (by decide)).mono ?_
 rintro e V5 ⟨a6,n6,c6,m6,d6,e6,f6,rfl,hz,hb⟩
 have hC5:=ζ ((hC4.out.call hb).pR rfl rfl hz)
 clear hb hz hC4
 go_wp2_with fail
 refine(rmul_b (hC5.out.r 2 rfl) (hC5.out.r 5 rfl) (int_bq HD.out) ((int_bq (k:=1) (by omega)).div (int_bq (k:=2) (by omega)) (by decide)) (by omega) (by omega)).mono ?_
 rintro e V6 ⟨a7,n7,c7,m7,d7,e7,f7,rfl,hz,hb⟩
 have hC6:=ζ ((hC5.out.call hb).pR rfl rfl hz)
 clear hb hz hC5
 rw [HH.out]at hC6
 have hC7:=ζ ((hC6.out.pick [0,1,6] (rs':=[(fun V=>Rd V (.slice a1 n1 c1) m1 (.slice d1 e1 f1) (q1)),(fun V=>Rd V (.slice a2 n2 c2) m2 (.slice d2 e2 f2) (q2)),(fun V=>Rd V (.slice a7 n7 c7) m7 (.slice d7 e7 f7) (half))]) rfl).al V6.heap.size #[.slice a7 n7 c7,.bool m7,.slice d7 e7 f7] 42 rfl)
 go_upto_region 2 with fail
 obtain ⟨b3,hb3⟩:∃b3,V6.heap.size=b3:=⟨_,rfl⟩
 rw [hb3]at hC7⊢
 refine wp_geny hC7.out ?_
 intro V7 hc
 have hC:Hid (Sy w V7 [(b0,#[.slice a1 n1 c1,.bool m1,.slice d1 e1 f1],42),(b1,#[.slice a2 n2 c2,.bool m2,.slice d2 e2 f2],42),(b2,#[.slice none 0 0,.bool false,.slice none 0 0],42),(b3,#[.slice a7 n7 c7,.bool m7,.slice d7 e7 f7],42)] [] [(fun V=>Rd V (.slice a1 n1 c1) m1 (.slice d1 e1 f1) (q1)),(fun V=>Rd V (.slice a2 n2 c2) m2 (.slice d2 e2 f2) (q2)),(fun V=>Rd V (.slice a7 n7 c7) m7 (.slice d7 e7 f7) (half))]):=ζ hc
 clear hc hC6 hC7 hb3
 have AC:=hC.out.c 0 0
 have AD:=hC.out.c 0 1
 have AE:=hC.out.c 0 2
 go_wp2_with fail
 refine(hsign_is (hC.out.r 0 rfl) HV1.out).mono ?_
 rintro e V8 ⟨rfl,hb⟩
 have hD:=ζ (hC.out.call hb)
 clear hb hC AC AD AE
 have AG:=hD.out.c 1 0
 have AH:=hD.out.c 1 1
 have AI:=hD.out.c 1 2
 go_wp2_with fail
 refine(hsign_is (hD.out.r 1 rfl) HV2.out).mono ?_
 rintro e V9 ⟨rfl,hb⟩
 have hE:=ζ (hD.out.call hb)
 clear hb hD AG AH AI
 go_upto_region 3 with fail
 have HSL:∀V ex os rs,Sy w V ([(b0,#[.slice a1 n1 c1,.bool m1,.slice d1 e1 f1],42),(b1,#[.slice a2 n2 c2,.bool m2,.slice d2 e2 f2],42),(b2,#[.slice none 0 0,.bool false,.slice none 0 0],42),(b3,#[.slice a7 n7 c7,.bool m7,.slice d7 e7 f7],42)]++ex) os rs->(fun w'=>w'.cell? ⟨b0,0,none⟩=some (.slice a1 n1 c1)/\w'.cell? ⟨b0,1,none⟩=some (.bool m1)/\w'.cell? ⟨b0,2,none⟩=some (.slice d1 e1 f1)/\w'.cell? ⟨b1,0,none⟩=some (.slice a2 n2 c2)/\w'.cell? ⟨b1,1,none⟩=some (.bool m2)/\w'.cell? ⟨b1,2,none⟩=some (.slice d2 e2 f2)/\w'.cell? ⟨b3,0,none⟩=some (.slice a7 n7 c7)/\w'.cell? ⟨b3,1,none⟩=some (.bool m7)/\w'.cell? ⟨b3,2,none⟩=some (.slice d7 e7 f7)/\True) V:=fun V ex os rs hX=>⟨hX.c 0 0,hX.c 0 1,hX.c 0 2,hX.c 1 0,hX.c 1 1,hX.c 1 2,hX.c 3 0,hX.c 3 1,hX.c 3 2,trivial⟩
 refine wp_region_held_drew (S:=(fun w'=>w'.cell? ⟨b0,0,none⟩=some (.slice a1 n1 c1)/\w'.cell? ⟨b0,1,none⟩=some (.bool m1)/\w'.cell? ⟨b0,2,none⟩=some (.slice d1 e1 f1)/\w'.cell? ⟨b1,0,none⟩=some (.slice a2 n2 c2)/\w'.cell? ⟨b1,1,none⟩=some (.bool m2)/\w'.cell? ⟨b1,2,none⟩=some (.slice d2 e2 f2)/\w'.cell? ⟨b3,0,none⟩=some (.slice a7 n7 c7)/\w'.cell? ⟨b3,1,none⟩=some (.bool m7)/\w'.cell? ⟨b3,2,none⟩=some (.slice d7 e7 f7)/\True)) (by kernel_rfl) ⟨hE.out.drew.c 0 0,hE.out.drew.c 0 1,hE.out.drew.c 0 2,hE.out.drew.c 1 0,hE.out.drew.c 1 1,hE.out.drew.c 1 2,hE.out.drew.c 3 0,hE.out.drew.c 3 1,hE.out.drew.c 3 2,trivial⟩ (fun hH=>?_)
 refine wpAnyH_geny (show Sy w _ [(b0,#[.slice a1 n1 c1,.bool m1,.slice d1 e1 f1],42),(b1,#[.slice a2 n2 c2,.bool m2,.slice d2 e2 f2],42),(b2,#[.slice none 0 0,.bool false,.slice none 0 0],42),(b3,#[.slice a7 n7 c7,.bool m7,.slice d7 e7 f7],42)] [] [(fun V=>Rd V (.slice a1 n1 c1) m1 (.slice d1 e1 f1) (q1)),(fun V=>Rd V (.slice a2 n2 c2) m2 (.slice d2 e2 f2) (q2)),(fun V=>Rd V (.slice a7 n7 c7) m7 (.slice d7 e7 f7) (half))]from hE.out.drew) hH ?_
 intro Ak hc AP
 have AQ:=ζ hc
 clear hc hH hE
 refine tkA 0 rfl AP ?_
 try simp only [zP]
 refine tkA 1 rfl AP ?_
 try simp only [zP]
 refine tkA 3 rfl AP ?_
 try simp only [zP]
 refine rdy1 2 rfl (fun Kq AB=>?_)
 go_simp
 go_at_call 40
 refine(radd_b (AQ.out.r 0 rfl) (AQ.out.r 1 rfl) B1.out B2.out (by omega) (by omega)).mono ?_
 rintro e wT ⟨a8,n8,c8,m8,d8,e8,f8,rfl,hz,hb⟩
 (try go_wp2_with fail)
 refine stW AB ((AQ.out.call hb).pR rfl rfl hz) ?_
 intro Al AR AY
 clear AB Kq AQ hb hz AP
 try simp only [zP]
 refine rdy1 4 rfl (fun Kq AB=>?_)
 go_simp
 go_at_call 46
 refine(rmul_b (AR.out.r 3 rfl) (AR.out.r 2 rfl) (B1.out.plus B2.out) HB.out (by omega) (by omega)).mono ?_
 rintro e wT ⟨a9,n9,c9,m9,d9,e9,f9,rfl,hz,hb⟩
 (try go_wp2_with fail)
 refine stW AB ((AR.out.call hb).pR rfl rfl hz) ?_
 intro Am AN AZ
 clear AB Kq AR hb hz AY
 try simp only [zP]
 refine rdy1 5 rfl (fun Kq AB=>?_)
 have cQ0:=AN.out.c 2 0
 have fQ0:=AN.out.f 2 0
 have cQ1:=AN.out.c 2 1
 have fQ1:=AN.out.f 2 1
 have cQ2:=AN.out.c 2 2
 have fQ2:=AN.out.f 2 2
 go_simp
 refine stepZ AB (AN.out|>.set (j:=0) (v:= .slice a9 n9 c9) 2 rfl|>.set (j:=1) (v:= .bool m9) 2 rfl|>.set (j:=2) (v:= .slice d9 e9 f9) 2 rfl) (fun _ hX=>⟨hX.c 0 0,hX.c 0 1,hX.c 0 2,hX.c 1 0,hX.c 1 1,hX.c 1 2,hX.c 3 0,hX.c 3 1,hX.c 3 2,trivial⟩) ?_
 intro An A0 Aj
 clear AB Kq AN cQ0 fQ0 cQ1 fQ1 cQ2 fQ2 AZ
 try simp only [Act.put]
 refine wpAnyH_done (by kernel_rfl) ?_ _
 go_wp2
 refine ret_sy A0.out (v:= .agg #[.slice a9 n9 c9,.bool m9,.slice d9 e9 f9]) (fun hF=>?_) rfl (fun hF=>⟨_,_,_,_,_,_,_,rfl,hF.r 4 rfl,hF.be⟩)
 exact mW3_1
theorem positive_n1 (d:Int) (a1:OA) (n1 c1:Nat) (m1:Bool) (d1:OA) (e1 f1:Nat) (q1:Rat) (a2:OA) (n2 c2:Nat) (m2:Bool) (d2:OA) (e2 f2:Nat) (q2:Rat) (h1:Rd w (.slice a1 n1 c1) m1 (.slice d1 e1 f1) (q1)) (h2:Rd w (.slice a2 n2 c2) m2 (.slice d2 e2 f2) (q2)) (hd:InI d) (b1:Bq 38 q1) (b2:Bq 38 q2) (v1 v2:Int) (hv1:sgnQ q1=v1) (hv2:sgnQ q2=v2) (g1:v1 < 0) (g2:v2<=0):
  Calls Tryz.prog 133 #[.int .i64 d,.agg #[.slice a1 n1 c1,.bool m1,.slice d1 e1 f1],.agg #[.slice a2 n2 c2,.bool m2,.slice d2 e2 f2]] w (RetR w (0)):=by
 have HV1:=ζ hv1
 have HV2:=ζ hv2
 clear hv1 hv2
 obtain ⟨half,hhalf⟩:∃half,(d:Rat)*(((1:Int):Rat) / ((2:Int):Rat))=half:=⟨_,rfl⟩
 try rw [hhalf]
 have HB:=ζ (show Bq 60 half by rw [<-hhalf];exact(int_bq hd).mul ((int_bq (k:=1) (by omega)).div (int_bq (k:=2) (by omega)) (by decide)))
 have HH:=ζ hhalf
 have B1:=ζ b1
 have B2:=ζ b2
 have HD:=ζ hd
 have hC:=ζ ((((((Sy.enter w).pR rfl rfl h1).pR rfl rfl h2).al w.heap.size #[.slice a1 n1 c1,.bool m1,.slice d1 e1 f1] 42 rfl).al (w.heap.size+1) #[.slice a2 n2 c2,.bool m2,.slice d2 e2 f2] 42 (by simp)).al (w.heap.size+2) #[.slice none 0 0,.bool false,.slice none 0 0] 42 (by simp))
 clear hhalf b1 b2 hd h1 h2
 go_enter Tryz.func133,Tryz.ntmps133
 go_upto_region 1 with fail
 refine wp_geny hC.out ?_
 intro V1 hc
 obtain ⟨b0,hb0⟩:∃b0,w.heap.size=b0:=⟨_,rfl⟩
 obtain ⟨b1,hb1⟩:∃b1,w.heap.size+1=b1:=⟨_,rfl⟩
 obtain ⟨b2,hb2⟩:∃b2,w.heap.size+2=b2:=⟨_,rfl⟩
 have hC1:Hid (Sy w V1 [(b0,#[.slice a1 n1 c1,.bool m1,.slice d1 e1 f1],42),(b1,#[.slice a2 n2 c2,.bool m2,.slice d2 e2 f2],42),(b2,#[.slice none 0 0,.bool false,.slice none 0 0],42)] [] [(fun V=>Rd V (.slice a1 n1 c1) m1 (.slice d1 e1 f1) (q1)),(fun V=>Rd V (.slice a2 n2 c2) m2 (.slice d2 e2 f2) (q2))]):=ζ (by rw [<-hb2,<-hb1,<-hb0];exact hc)
 rw [hb2,hb1,hb0]
 clear hc hC hb0 hb1 hb2
 go_wp2_with fail
 refine(hof_any _ _ (InI.i64 HD.out)).mono ?_
 rintro e V2 ⟨a3,n3,c3,m3,d3,e3,f3,rfl,hz,hb⟩
 have hC2:=ζ ((hC1.out.call hb).pR rfl rfl hz)
 clear hb hz hC1
 go_wp2_with fail
 refine(hof_any _ _ (by omega)).mono ?_
 rintro e V3 ⟨a4,n4,c4,m4,d4,e4,f4,rfl,hz,hb⟩
 have hC3:=ζ ((hC2.out.call hb).pR rfl rfl hz)
 clear hb hz hC2
 go_wp2_with fail
 refine(hof_any _ _ (by omega)).mono ?_
 rintro e V4 ⟨a5,n5,c5,m5,d5,e5,f5,rfl,hz,hb⟩
 have hC4:=ζ ((hC3.out.call hb).pR rfl rfl hz)
 clear hb hz hC3
 go_wp2_with fail
 refine(hover_any _ _ _ _ _ _ _ _ _ _ _ _ _ _ _ _ _ (hC4.out.r 3 rfl) (hC4.out.r 4 rfl) 20 20 (int_bq (by omega)) (int_bq (by omega)) (by omega) (by omega) (by decide)).mono ?_
 rintro e V5 ⟨a6,n6,c6,m6,d6,e6,f6,rfl,hz,hb⟩
 have hC5:=ζ ((hC4.out.call hb).pR rfl rfl hz)
 clear hb hz hC4
 go_wp2_with fail
 refine(rmul_b (hC5.out.r 2 rfl) (hC5.out.r 5 rfl) (int_bq HD.out) ((int_bq (k:=1) (by omega)).div (int_bq (k:=2) (by omega)) (by decide)) (by omega) (by omega)).mono ?_
 rintro e V6 ⟨a7,n7,c7,m7,d7,e7,f7,rfl,hz,hb⟩
 have hC6:=ζ ((hC5.out.call hb).pR rfl rfl hz)
 clear hb hz hC5
 rw [HH.out]at hC6
 have hC7:=ζ ((hC6.out.pick [0,1,6] (rs':=[(fun V=>Rd V (.slice a1 n1 c1) m1 (.slice d1 e1 f1) (q1)),(fun V=>Rd V (.slice a2 n2 c2) m2 (.slice d2 e2 f2) (q2)),(fun V=>Rd V (.slice a7 n7 c7) m7 (.slice d7 e7 f7) (half))]) rfl).al V6.heap.size #[.slice a7 n7 c7,.bool m7,.slice d7 e7 f7] 42 rfl)
 go_upto_region 2 with fail
 obtain ⟨b3,hb3⟩:∃b3,V6.heap.size=b3:=⟨_,rfl⟩
 rw [hb3]at hC7⊢
 refine wp_geny hC7.out ?_
 intro V7 hc
 have hC:Hid (Sy w V7 [(b0,#[.slice a1 n1 c1,.bool m1,.slice d1 e1 f1],42),(b1,#[.slice a2 n2 c2,.bool m2,.slice d2 e2 f2],42),(b2,#[.slice none 0 0,.bool false,.slice none 0 0],42),(b3,#[.slice a7 n7 c7,.bool m7,.slice d7 e7 f7],42)] [] [(fun V=>Rd V (.slice a1 n1 c1) m1 (.slice d1 e1 f1) (q1)),(fun V=>Rd V (.slice a2 n2 c2) m2 (.slice d2 e2 f2) (q2)),(fun V=>Rd V (.slice a7 n7 c7) m7 (.slice d7 e7 f7) (half))]):=ζ hc
 clear hc hC6 hC7 hb3
 have AC:=hC.out.c 0 0
 have AD:=hC.out.c 0 1
 have AE:=hC.out.c 0 2
 go_wp2_with fail
 refine(hsign_is (hC.out.r 0 rfl) HV1.out).mono ?_
 rintro e V8 ⟨rfl,hb⟩
 have hD:=ζ (hC.out.call hb)
 clear hb hC AC AD AE
 have AC:=hD.out.c 0 0
 have AD:=hD.out.c 0 1
 have AE:=hD.out.c 0 2
 go_wp2_with fail
 refine(hsign_is (hD.out.r 0 rfl) HV1.out).mono ?_
 rintro e V9 ⟨rfl,hb⟩
 have hE:=ζ (hD.out.call hb)
 clear hb hD AC AD AE
 have AG:=hE.out.c 1 0
 have AH:=hE.out.c 1 1
 have AI:=hE.out.c 1 2
 go_wp2_with fail
 refine(hsign_is (hE.out.r 1 rfl) HV2.out).mono ?_
 rintro e V10 ⟨rfl,hb⟩
 have hG:=ζ (hE.out.call hb)
 clear hb hE AG AH AI
 have A5:=hG.out.c 2 0
 have A1:=hG.out.f 2 0
 have A6:=hG.out.c 2 1
 have A2:=hG.out.f 2 1
 have A7:=hG.out.c 2 2
 have A3:=hG.out.f 2 2
 go_wp2
 have hZ:=ζ ((hG.out|>.set (j:=0) (v:= .slice none 0 0) 2 rfl|>.set (j:=1) (v:= .bool false) 2 rfl|>.set (j:=2) (v:= .slice none 0 0) 2 rfl).pR rfl rfl Rd.nil)
 exact mW3_2
theorem positive_n2 (d:Int) (a1:OA) (n1 c1:Nat) (m1:Bool) (d1:OA) (e1 f1:Nat) (q1:Rat) (a2:OA) (n2 c2:Nat) (m2:Bool) (d2:OA) (e2 f2:Nat) (q2:Rat) (h1:Rd w (.slice a1 n1 c1) m1 (.slice d1 e1 f1) (q1)) (h2:Rd w (.slice a2 n2 c2) m2 (.slice d2 e2 f2) (q2)) (hd:InI d) (b1:Bq 38 q1) (b2:Bq 38 q2) (v1 v2:Int) (hv1:sgnQ q1=v1) (hv2:sgnQ q2=v2) (g1:v1=0) (g2:v2 < 0):
  Calls Tryz.prog 133 #[.int .i64 d,.agg #[.slice a1 n1 c1,.bool m1,.slice d1 e1 f1],.agg #[.slice a2 n2 c2,.bool m2,.slice d2 e2 f2]] w (RetR w (0)):=by
 have HV1:=ζ hv1
 have HV2:=ζ hv2
 clear hv1 hv2
 obtain ⟨half,hhalf⟩:∃half,(d:Rat)*(((1:Int):Rat) / ((2:Int):Rat))=half:=⟨_,rfl⟩
 try rw [hhalf]
 have HB:=ζ (show Bq 60 half by rw [<-hhalf];exact(int_bq hd).mul ((int_bq (k:=1) (by omega)).div (int_bq (k:=2) (by omega)) (by decide)))
 have HH:=ζ hhalf
 have B1:=ζ b1
 have B2:=ζ b2
 have HD:=ζ hd
 have hC:=ζ ((((((Sy.enter w).pR rfl rfl h1).pR rfl rfl h2).al w.heap.size #[.slice a1 n1 c1,.bool m1,.slice d1 e1 f1] 42 rfl).al (w.heap.size+1) #[.slice a2 n2 c2,.bool m2,.slice d2 e2 f2] 42 (by simp)).al (w.heap.size+2) #[.slice none 0 0,.bool false,.slice none 0 0] 42 (by simp))
 clear hhalf b1 b2 hd h1 h2
 go_enter Tryz.func133,Tryz.ntmps133
 go_upto_region 1 with fail
 refine wp_geny hC.out ?_
 intro V1 hc
 obtain ⟨b0,hb0⟩:∃b0,w.heap.size=b0:=⟨_,rfl⟩
 obtain ⟨b1,hb1⟩:∃b1,w.heap.size+1=b1:=⟨_,rfl⟩
 obtain ⟨b2,hb2⟩:∃b2,w.heap.size+2=b2:=⟨_,rfl⟩
 have hC1:Hid (Sy w V1 [(b0,#[.slice a1 n1 c1,.bool m1,.slice d1 e1 f1],42),(b1,#[.slice a2 n2 c2,.bool m2,.slice d2 e2 f2],42),(b2,#[.slice none 0 0,.bool false,.slice none 0 0],42)] [] [(fun V=>Rd V (.slice a1 n1 c1) m1 (.slice d1 e1 f1) (q1)),(fun V=>Rd V (.slice a2 n2 c2) m2 (.slice d2 e2 f2) (q2))]):=ζ (by rw [<-hb2,<-hb1,<-hb0];exact hc)
 rw [hb2,hb1,hb0]
 clear hc hC hb0 hb1 hb2
 go_wp2_with fail
 refine(hof_any _ _ (InI.i64 HD.out)).mono ?_
 rintro e V2 ⟨a3,n3,c3,m3,d3,e3,f3,rfl,hz,hb⟩
 have hC2:=ζ ((hC1.out.call hb).pR rfl rfl hz)
 clear hb hz hC1
 go_wp2_with fail
 refine(hof_any _ _ (by omega)).mono ?_
 rintro e V3 ⟨a4,n4,c4,m4,d4,e4,f4,rfl,hz,hb⟩
 have hC3:=ζ ((hC2.out.call hb).pR rfl rfl hz)
 clear hb hz hC2
 go_wp2_with fail
 refine(hof_any _ _ (by omega)).mono ?_
 rintro e V4 ⟨a5,n5,c5,m5,d5,e5,f5,rfl,hz,hb⟩
 have hC4:=ζ ((hC3.out.call hb).pR rfl rfl hz)
 clear hb hz hC3
 go_wp2_with fail
 refine(hover_any _ _ _ _ _ _ _ _ _ _ _ _ _ _ _ _ _ (hC4.out.r 3 rfl) (hC4.out.r 4 rfl) 20 20 (int_bq (by omega)) (int_bq (by omega)) (by omega) (by omega) (by decide)).mono ?_
 rintro e V5 ⟨a6,n6,c6,m6,d6,e6,f6,rfl,hz,hb⟩
 have hC5:=ζ ((hC4.out.call hb).pR rfl rfl hz)
 clear hb hz hC4
 go_wp2_with fail
 refine(rmul_b (hC5.out.r 2 rfl) (hC5.out.r 5 rfl) (int_bq HD.out) ((int_bq (k:=1) (by omega)).div (int_bq (k:=2) (by omega)) (by decide)) (by omega) (by omega)).mono ?_
 rintro e V6 ⟨a7,n7,c7,m7,d7,e7,f7,rfl,hz,hb⟩
 have hC6:=ζ ((hC5.out.call hb).pR rfl rfl hz)
 clear hb hz hC5
 rw [HH.out]at hC6
 have hC7:=ζ ((hC6.out.pick [0,1,6] (rs':=[(fun V=>Rd V (.slice a1 n1 c1) m1 (.slice d1 e1 f1) (q1)),(fun V=>Rd V (.slice a2 n2 c2) m2 (.slice d2 e2 f2) (q2)),(fun V=>Rd V (.slice a7 n7 c7) m7 (.slice d7 e7 f7) (half))]) rfl).al V6.heap.size #[.slice a7 n7 c7,.bool m7,.slice d7 e7 f7] 42 rfl)
 go_upto_region 2 with fail
 obtain ⟨b3,hb3⟩:∃b3,V6.heap.size=b3:=⟨_,rfl⟩
 rw [hb3]at hC7⊢
 refine wp_geny hC7.out ?_
 intro V7 hc
 have hC:Hid (Sy w V7 [(b0,#[.slice a1 n1 c1,.bool m1,.slice d1 e1 f1],42),(b1,#[.slice a2 n2 c2,.bool m2,.slice d2 e2 f2],42),(b2,#[.slice none 0 0,.bool false,.slice none 0 0],42),(b3,#[.slice a7 n7 c7,.bool m7,.slice d7 e7 f7],42)] [] [(fun V=>Rd V (.slice a1 n1 c1) m1 (.slice d1 e1 f1) (q1)),(fun V=>Rd V (.slice a2 n2 c2) m2 (.slice d2 e2 f2) (q2)),(fun V=>Rd V (.slice a7 n7 c7) m7 (.slice d7 e7 f7) (half))]):=ζ hc
 clear hc hC6 hC7 hb3
 subst g1
 have AC:=hC.out.c 0 0
 have AD:=hC.out.c 0 1
 have AE:=hC.out.c 0 2
 go_wp2_with fail
 refine(hsign_is (hC.out.r 0 rfl) HV1.out).mono ?_
 rintro e V8 ⟨rfl,hb⟩
 have hD:=ζ (hC.out.call hb)
 clear hb hC AC AD AE
 have AG:=hD.out.c 1 0
 have AH:=hD.out.c 1 1
 have AI:=hD.out.c 1 2
 go_wp2_with fail
 refine(hsign_is (hD.out.r 1 rfl) HV2.out).mono ?_
 rintro e V9 ⟨rfl,hb⟩
 have hE:=ζ (hD.out.call hb)
 clear hb hD AG AH AI
 have AC:=hE.out.c 0 0
 have AD:=hE.out.c 0 1
 have AE:=hE.out.c 0 2
 go_wp2_with fail
 refine(hsign_is (hE.out.r 0 rfl) HV1.out).mono ?_
 rintro e V10 ⟨rfl,hb⟩
 have hG:=ζ (hE.out.call hb)
 clear hb hE AC AD AE
 have AG:=hG.out.c 1 0
 have AH:=hG.out.c 1 1
 have AI:=hG.out.c 1 2
 go_wp2_with fail
 refine(hsign_is (hG.out.r 1 rfl) HV2.out).mono ?_
 rintro e V11 ⟨rfl,hb⟩
 have hI:=ζ (hG.out.call hb)
 clear hb hG AG AH AI
 have A5:=hI.out.c 2 0
 have A1:=hI.out.f 2 0
 have A6:=hI.out.c 2 1
 have A2:=hI.out.f 2 1
 have A7:=hI.out.c 2 2
 have A3:=hI.out.f 2 2
 go_wp2
 have hZ:=ζ ((hI.out|>.set (j:=0) (v:= .slice none 0 0) 2 rfl|>.set (j:=1) (v:= .bool false) 2 rfl|>.set (j:=2) (v:= .slice none 0 0) 2 rfl).pR rfl rfl Rd.nil)
 exact mW3_2
theorem positive_pn (d:Int) (a1:OA) (n1 c1:Nat) (m1:Bool) (d1:OA) (e1 f1:Nat) (q1:Rat) (a2:OA) (n2 c2:Nat) (m2:Bool) (d2:OA) (e2 f2:Nat) (q2:Rat) (h1:Rd w (.slice a1 n1 c1) m1 (.slice d1 e1 f1) (q1)) (h2:Rd w (.slice a2 n2 c2) m2 (.slice d2 e2 f2) (q2)) (hd:InI d) (b1:Bq 38 q1) (b2:Bq 38 q2) (v1 v2:Int) (hv1:sgnQ q1=v1) (hv2:sgnQ q2=v2) (g1:0 < v1) (g2:v2 < 0):
  Calls Tryz.prog 133 #[.int .i64 d,.agg #[.slice a1 n1 c1,.bool m1,.slice d1 e1 f1],.agg #[.slice a2 n2 c2,.bool m2,.slice d2 e2 f2]] w (RetR w (topQ q1 q2*topQ q1 q2*((d:Rat)*(((1:Int):Rat) / ((2:Int):Rat))) / (q1 - q2).abs)):=by
 have HV1:=ζ hv1
 have HV2:=ζ hv2
 clear hv1 hv2
 obtain ⟨top,htop⟩:∃top,topQ q1 q2=top:=⟨_,rfl⟩
 have BT:=ζ (show Bq 38 top by rw [<-htop];unfold topQ;split;exact b2;exact b1)
 rw [htop]
 have HTP:=ζ htop
 clear htop
 have HNE:=ζ (show(q1 - q2).abs≠0 by
  have:=HV1.out
  have:=HV2.out
  unfold sgnQ at*
  unfold Rat.abs
  split<;>grind)
 have HAB:=ζ (show Bq 77 (q1 - q2).abs by
  unfold Rat.abs
  split
  ·exact b1.minus b2
  ·exact(b1.minus b2).neg)
 obtain ⟨half,hhalf⟩:∃half,(d:Rat)*(((1:Int):Rat) / ((2:Int):Rat))=half:=⟨_,rfl⟩
 try rw [hhalf]
 have HB:=ζ (show Bq 60 half by rw [<-hhalf];exact(int_bq hd).mul ((int_bq (k:=1) (by omega)).div (int_bq (k:=2) (by omega)) (by decide)))
 have HH:=ζ hhalf
 have B1:=ζ b1
 have B2:=ζ b2
 have HD:=ζ hd
 have hC:=ζ ((((((Sy.enter w).pR rfl rfl h1).pR rfl rfl h2).al w.heap.size #[.slice a1 n1 c1,.bool m1,.slice d1 e1 f1] 42 rfl).al (w.heap.size+1) #[.slice a2 n2 c2,.bool m2,.slice d2 e2 f2] 42 (by simp)).al (w.heap.size+2) #[.slice none 0 0,.bool false,.slice none 0 0] 42 (by simp))
 clear hhalf b1 b2 hd h1 h2
 go_enter Tryz.func133,Tryz.ntmps133
 go_upto_region 1 with fail
 refine wp_geny hC.out ?_
 intro V1 hc
 obtain ⟨b0,hb0⟩:∃b0,w.heap.size=b0:=⟨_,rfl⟩
 obtain ⟨b1,hb1⟩:∃b1,w.heap.size+1=b1:=⟨_,rfl⟩
 obtain ⟨b2,hb2⟩:∃b2,w.heap.size+2=b2:=⟨_,rfl⟩
 have hC1:Hid (Sy w V1 [(b0,#[.slice a1 n1 c1,.bool m1,.slice d1 e1 f1],42),(b1,#[.slice a2 n2 c2,.bool m2,.slice d2 e2 f2],42),(b2,#[.slice none 0 0,.bool false,.slice none 0 0],42)] [] [(fun V=>Rd V (.slice a1 n1 c1) m1 (.slice d1 e1 f1) (q1)),(fun V=>Rd V (.slice a2 n2 c2) m2 (.slice d2 e2 f2) (q2))]):=ζ (by rw [<-hb2,<-hb1,<-hb0];exact hc)
 rw [hb2,hb1,hb0]
 clear hc hC hb0 hb1 hb2
 go_wp2_with fail
 refine(hof_any _ _ (InI.i64 HD.out)).mono ?_
 rintro e V2 ⟨a3,n3,c3,m3,d3,e3,f3,rfl,hz,hb⟩
 have hC2:=ζ ((hC1.out.call hb).pR rfl rfl hz)
 clear hb hz hC1
 go_wp2_with fail
 refine(hof_any _ _ (by omega)).mono ?_
 rintro e V3 ⟨a4,n4,c4,m4,d4,e4,f4,rfl,hz,hb⟩
 have hC3:=ζ ((hC2.out.call hb).pR rfl rfl hz)
 clear hb hz hC2
 go_wp2_with fail
 refine(hof_any _ _ (by omega)).mono ?_
 rintro e V4 ⟨a5,n5,c5,m5,d5,e5,f5,rfl,hz,hb⟩
 have hC4:=ζ ((hC3.out.call hb).pR rfl rfl hz)
 clear hb hz hC3
 go_wp2_with fail
 refine(hover_any _ _ _ _ _ _ _ _ _ _ _ _ _ _ _ _ _ (hC4.out.r 3 rfl) (hC4.out.r 4 rfl) 20 20 (int_bq (by omega)) (int_bq (by omega)) (by omega) (by omega) (by decide)).mono ?_
 rintro e V5 ⟨a6,n6,c6,m6,d6,e6,f6,rfl,hz,hb⟩
 have hC5:=ζ ((hC4.out.call hb).pR rfl rfl hz)
 clear hb hz hC4
 go_wp2_with fail
 refine(rmul_b (hC5.out.r 2 rfl) (hC5.out.r 5 rfl) (int_bq HD.out) ((int_bq (k:=1) (by omega)).div (int_bq (k:=2) (by omega)) (by decide)) (by omega) (by omega)).mono ?_
 rintro e V6 ⟨a7,n7,c7,m7,d7,e7,f7,rfl,hz,hb⟩
 have hC6:=ζ ((hC5.out.call hb).pR rfl rfl hz)
 clear hb hz hC5
 rw [HH.out]at hC6
 have hC7:=ζ ((hC6.out.pick [0,1,6] (rs':=[(fun V=>Rd V (.slice a1 n1 c1) m1 (.slice d1 e1 f1) (q1)),(fun V=>Rd V (.slice a2 n2 c2) m2 (.slice d2 e2 f2) (q2)),(fun V=>Rd V (.slice a7 n7 c7) m7 (.slice d7 e7 f7) (half))]) rfl).al V6.heap.size #[.slice a7 n7 c7,.bool m7,.slice d7 e7 f7] 42 rfl)
 go_upto_region 2 with fail
 obtain ⟨b3,hb3⟩:∃b3,V6.heap.size=b3:=⟨_,rfl⟩
 rw [hb3]at hC7⊢
 refine wp_geny hC7.out ?_
 intro V7 hc
 have hC:Hid (Sy w V7 [(b0,#[.slice a1 n1 c1,.bool m1,.slice d1 e1 f1],42),(b1,#[.slice a2 n2 c2,.bool m2,.slice d2 e2 f2],42),(b2,#[.slice none 0 0,.bool false,.slice none 0 0],42),(b3,#[.slice a7 n7 c7,.bool m7,.slice d7 e7 f7],42)] [] [(fun V=>Rd V (.slice a1 n1 c1) m1 (.slice d1 e1 f1) (q1)),(fun V=>Rd V (.slice a2 n2 c2) m2 (.slice d2 e2 f2) (q2)),(fun V=>Rd V (.slice a7 n7 c7) m7 (.slice d7 e7 f7) (half))]):=ζ hc
 clear hc hC6 hC7 hb3
 have AC:=hC.out.c 0 0
 have AD:=hC.out.c 0 1
 have AE:=hC.out.c 0 2
 go_wp2_with fail
 refine(hsign_is (hC.out.r 0 rfl) HV1.out).mono ?_
 rintro e V8 ⟨rfl,hb⟩
 have hD:=ζ (hC.out.call hb)
 clear hb hC AC AD AE
 have AG:=hD.out.c 1 0
 have AH:=hD.out.c 1 1
 have AI:=hD.out.c 1 2
 go_wp2_with fail
 refine(hsign_is (hD.out.r 1 rfl) HV2.out).mono ?_
 rintro e V9 ⟨rfl,hb⟩
 have hE:=ζ (hD.out.call hb)
 clear hb hD AG AH AI
 have AC:=hE.out.c 0 0
 have AD:=hE.out.c 0 1
 have AE:=hE.out.c 0 2
 go_wp2_with fail
 refine(hsign_is (hE.out.r 0 rfl) HV1.out).mono ?_
 rintro e V10 ⟨rfl,hb⟩
 have hG:=ζ (hE.out.call hb)
 clear hb hE AC AD AE
 exact mW3_0
theorem positive_np (d:Int) (a1:OA) (n1 c1:Nat) (m1:Bool) (d1:OA) (e1 f1:Nat) (q1:Rat) (a2:OA) (n2 c2:Nat) (m2:Bool) (d2:OA) (e2 f2:Nat) (q2:Rat) (h1:Rd w (.slice a1 n1 c1) m1 (.slice d1 e1 f1) (q1)) (h2:Rd w (.slice a2 n2 c2) m2 (.slice d2 e2 f2) (q2)) (hd:InI d) (b1:Bq 38 q1) (b2:Bq 38 q2) (v1 v2:Int) (hv1:sgnQ q1=v1) (hv2:sgnQ q2=v2) (g1:v1 < 0) (g2:0 < v2):
  Calls Tryz.prog 133 #[.int .i64 d,.agg #[.slice a1 n1 c1,.bool m1,.slice d1 e1 f1],.agg #[.slice a2 n2 c2,.bool m2,.slice d2 e2 f2]] w (RetR w (topQ q1 q2*topQ q1 q2*((d:Rat)*(((1:Int):Rat) / ((2:Int):Rat))) / (q1 - q2).abs)):=by
 have HV1:=ζ hv1
 have HV2:=ζ hv2
 clear hv1 hv2
 obtain ⟨top,htop⟩:∃top,topQ q1 q2=top:=⟨_,rfl⟩
 have BT:=ζ (show Bq 38 top by rw [<-htop];unfold topQ;split;exact b2;exact b1)
 rw [htop]
 have HTP:=ζ htop
 clear htop
 have HNE:=ζ (show(q1 - q2).abs≠0 by
  have:=HV1.out
  have:=HV2.out
  unfold sgnQ at*
  unfold Rat.abs
  split<;>grind)
 have HAB:=ζ (show Bq 77 (q1 - q2).abs by
  unfold Rat.abs
  split
  ·exact b1.minus b2
  ·exact(b1.minus b2).neg)
 obtain ⟨half,hhalf⟩:∃half,(d:Rat)*(((1:Int):Rat) / ((2:Int):Rat))=half:=⟨_,rfl⟩
 try rw [hhalf]
 have HB:=ζ (show Bq 60 half by rw [<-hhalf];exact(int_bq hd).mul ((int_bq (k:=1) (by omega)).div (int_bq (k:=2) (by omega)) (by decide)))
 have HH:=ζ hhalf
 have B1:=ζ b1
 have B2:=ζ b2
 have HD:=ζ hd
 have hC:=ζ ((((((Sy.enter w).pR rfl rfl h1).pR rfl rfl h2).al w.heap.size #[.slice a1 n1 c1,.bool m1,.slice d1 e1 f1] 42 rfl).al (w.heap.size+1) #[.slice a2 n2 c2,.bool m2,.slice d2 e2 f2] 42 (by simp)).al (w.heap.size+2) #[.slice none 0 0,.bool false,.slice none 0 0] 42 (by simp))
 clear hhalf b1 b2 hd h1 h2
 go_enter Tryz.func133,Tryz.ntmps133
 go_upto_region 1 with fail
 refine wp_geny hC.out ?_
 intro V1 hc
 obtain ⟨b0,hb0⟩:∃b0,w.heap.size=b0:=⟨_,rfl⟩
 obtain ⟨b1,hb1⟩:∃b1,w.heap.size+1=b1:=⟨_,rfl⟩
 obtain ⟨b2,hb2⟩:∃b2,w.heap.size+2=b2:=⟨_,rfl⟩
 have hC1:Hid (Sy w V1 [(b0,#[.slice a1 n1 c1,.bool m1,.slice d1 e1 f1],42),(b1,#[.slice a2 n2 c2,.bool m2,.slice d2 e2 f2],42),(b2,#[.slice none 0 0,.bool false,.slice none 0 0],42)] [] [(fun V=>Rd V (.slice a1 n1 c1) m1 (.slice d1 e1 f1) (q1)),(fun V=>Rd V (.slice a2 n2 c2) m2 (.slice d2 e2 f2) (q2))]):=ζ (by rw [<-hb2,<-hb1,<-hb0];exact hc)
 rw [hb2,hb1,hb0]
 clear hc hC hb0 hb1 hb2
 go_wp2_with fail
 refine(hof_any _ _ (InI.i64 HD.out)).mono ?_
 rintro e V2 ⟨a3,n3,c3,m3,d3,e3,f3,rfl,hz,hb⟩
 have hC2:=ζ ((hC1.out.call hb).pR rfl rfl hz)
 clear hb hz hC1
 go_wp2_with fail
 refine(hof_any _ _ (by omega)).mono ?_
 rintro e V3 ⟨a4,n4,c4,m4,d4,e4,f4,rfl,hz,hb⟩
 have hC3:=ζ ((hC2.out.call hb).pR rfl rfl hz)
 clear hb hz hC2
 go_wp2_with fail
 refine(hof_any _ _ (by omega)).mono ?_
 rintro e V4 ⟨a5,n5,c5,m5,d5,e5,f5,rfl,hz,hb⟩
 have hC4:=ζ ((hC3.out.call hb).pR rfl rfl hz)
 clear hb hz hC3
 go_wp2_with fail
 refine(hover_any _ _ _ _ _ _ _ _ _ _ _ _ _ _ _ _ _ (hC4.out.r 3 rfl) (hC4.out.r 4 rfl) 20 20 (int_bq (by omega)) (int_bq (by omega)) (by omega) (by omega) (by decide)).mono ?_
 rintro e V5 ⟨a6,n6,c6,m6,d6,e6,f6,rfl,hz,hb⟩
 have hC5:=ζ ((hC4.out.call hb).pR rfl rfl hz)
 clear hb hz hC4
 go_wp2_with fail
 refine(rmul_b (hC5.out.r 2 rfl) (hC5.out.r 5 rfl) (int_bq HD.out) ((int_bq (k:=1) (by omega)).div (int_bq (k:=2) (by omega)) (by decide)) (by omega) (by omega)).mono ?_
 rintro e V6 ⟨a7,n7,c7,m7,d7,e7,f7,rfl,hz,hb⟩
 have hC6:=ζ ((hC5.out.call hb).pR rfl rfl hz)
 clear hb hz hC5
 rw [HH.out]at hC6
 have hC7:=ζ ((hC6.out.pick [0,1,6] (rs':=[(fun V=>Rd V (.slice a1 n1 c1) m1 (.slice d1 e1 f1) (q1)),(fun V=>Rd V (.slice a2 n2 c2) m2 (.slice d2 e2 f2) (q2)),(fun V=>Rd V (.slice a7 n7 c7) m7 (.slice d7 e7 f7) (half))]) rfl).al V6.heap.size #[.slice a7 n7 c7,.bool m7,.slice d7 e7 f7] 42 rfl)
 go_upto_region 2 with fail
 obtain ⟨b3,hb3⟩:∃b3,V6.heap.size=b3:=⟨_,rfl⟩
 rw [hb3]at hC7⊢
 refine wp_geny hC7.out ?_
 intro V7 hc
 have hC:Hid (Sy w V7 [(b0,#[.slice a1 n1 c1,.bool m1,.slice d1 e1 f1],42),(b1,#[.slice a2 n2 c2,.bool m2,.slice d2 e2 f2],42),(b2,#[.slice none 0 0,.bool false,.slice none 0 0],42),(b3,#[.slice a7 n7 c7,.bool m7,.slice d7 e7 f7],42)] [] [(fun V=>Rd V (.slice a1 n1 c1) m1 (.slice d1 e1 f1) (q1)),(fun V=>Rd V (.slice a2 n2 c2) m2 (.slice d2 e2 f2) (q2)),(fun V=>Rd V (.slice a7 n7 c7) m7 (.slice d7 e7 f7) (half))]):=ζ hc
 clear hc hC6 hC7 hb3
 have AC:=hC.out.c 0 0
 have AD:=hC.out.c 0 1
 have AE:=hC.out.c 0 2
 go_wp2_with fail
 refine(hsign_is (hC.out.r 0 rfl) HV1.out).mono ?_
 rintro e V8 ⟨rfl,hb⟩
 have hD:=ζ (hC.out.call hb)
 clear hb hC AC AD AE
 have AC:=hD.out.c 0 0
 have AD:=hD.out.c 0 1
 have AE:=hD.out.c 0 2
 go_wp2_with fail
 refine(hsign_is (hD.out.r 0 rfl) HV1.out).mono ?_
 rintro e V9 ⟨rfl,hb⟩
 have hE:=ζ (hD.out.call hb)
 clear hb hD AC AD AE
 have AG:=hE.out.c 1 0
 have AH:=hE.out.c 1 1
 have AI:=hE.out.c 1 2
 go_wp2_with fail
 refine(hsign_is (hE.out.r 1 rfl) HV2.out).mono ?_
 rintro e V10 ⟨rfl,hb⟩
 have hG:=ζ (hE.out.call hb)
 clear hb hE AG AH AI
 exact mW3_0
theorem positive_any (d:Int) (a1:OA) (n1 c1:Nat) (m1:Bool) (d1:OA) (e1 f1:Nat) (q1:Rat) (a2:OA) (n2 c2:Nat) (m2:Bool) (d2:OA) (e2 f2:Nat) (q2:Rat) (h1:Rd w (.slice a1 n1 c1) m1 (.slice d1 e1 f1) (q1)) (h2:Rd w (.slice a2 n2 c2) m2 (.slice d2 e2 f2) (q2)) (hd:InI d) (b1:Bq 38 q1) (b2:Bq 38 q2):
  Calls Tryz.prog 133 #[.int .i64 d,.agg #[.slice a1 n1 c1,.bool m1,.slice d1 e1 f1],.agg #[.slice a2 n2 c2,.bool m2,.slice d2 e2 f2]] w (RetR w (posQ (d:Rat) q1 q2)):=by
 have eh:(((1:Int):Rat) / ((2:Int):Rat))=1 / 2:=rfl
 have s1:=@sgnQ_pos q1
 have s2:=@sgnQ_neg q1
 have s3:=@sgnQ_pos q2
 have s4:=@sgnQ_neg q2
 have z1:=@sgnQ_zero q1
 unfold posQ
 split
 ·rename_i h
  exact positive_pp w d a1 n1 c1 m1 d1 e1 f1 q1 a2 n2 c2 m2 d2 e2 f2 q2 h1 h2 hd b1 b2 _ _ rfl rfl (Int.not_lt.1 fun e=>by have:=s2.1 e;grind) (Int.not_lt.1 fun e=>by have:=s4.1 e;grind)
 ·rename_i h
  split
  ·rename_i g
   rcases rat_tri q1 0 with e | e | e
   ·exact positive_n1 w d a1 n1 c1 m1 d1 e1 f1 q1 a2 n2 c2 m2 d2 e2 f2 q2 h1 h2 hd b1 b2 _ _ rfl rfl (s2.2 e) (Int.not_lt.1 fun e=>by have:=s3.1 e;grind)
   ·exact positive_n2 w d a1 n1 c1 m1 d1 e1 f1 q1 a2 n2 c2 m2 d2 e2 f2 q2 h1 h2 hd b1 b2 _ _ rfl rfl (z1.2 e) (s4.2 (by grind))
   ·grind
  ·rename_i g
   rcases rat_tri q1 0 with e | e | e
   ·exact positive_np w d a1 n1 c1 m1 d1 e1 f1 q1 a2 n2 c2 m2 d2 e2 f2 q2 h1 h2 hd b1 b2 _ _ rfl rfl (s2.2 e) (s3.2 (by grind))
   ·exfalso;grind
   ·exact positive_pn w d a1 n1 c1 m1 d1 e1 f1 q1 a2 n2 c2 m2 d2 e2 f2 q2 h1 h2 hd b1 b2 _ _ rfl rfl (s1.2 e) (s4.2 (by grind))
end
theorem Strt.piece_gd {l:List Pt} {a b:Int} (hT:Strt l a b) {t:Int×Int} (h1:a<=t.1) (h2:t.1 < t.2) (h3:t.2<=b):Gd (grd l t.1)/\Gd (grd l t.2)/\InI (t.2 - t.1):=by
 refine⟨hT.gd h1 (by omega),hT.gd (by omega) h3,?_⟩
 have:=hT.lo
 have:=hT.hi
 have:=hT.ok.two
 have:=hT.ok.bx (i:=0) (by omega)
 have:=hT.ok.bx (i:=l.length - 1) (by omega)
 unfold InI;omega
theorem int_bq19 {k:Int} (h: -200001<=k/\k<=200001):Bq 19 (k:Rat):=Bq.int (n:=18) (by unfold Bd;omega)
theorem Strt.piece_len {l:List Pt} {a b:Int} (hT:Strt l a b) {t:Int×Int} (h1:a<=t.1) (h2:t.1 < t.2) (h3:t.2<=b): -200001<=t.2 - t.1/\t.2 - t.1<=200001:=by
 have:=hT.lo
 have:=hT.hi
 have:=hT.ok.two
 have:=hT.ok.bx (i:=0) (by omega)
 have:=hT.ok.bx (i:=l.length - 1) (by omega)
 omega
def InZ (z:Int):Prop:= -300000<=z/\z<=300000
theorem InZ.i {z:Int} (h:InZ z):InI z:=by unfold InZ at h;unfold InI;omega
theorem pieceA_bq {l:List Pt} {a b z:Int} (hT:Strt l a b) (hz:InZ z) (t:Int×Int) (h1:a<=t.1) (h2:t.1 < t.2) (h3:t.2<=b):Bq 174 (pieceA l z t):=by
 obtain ⟨g1,g2,_⟩:=hT.piece_gd h1 h2 h3
 unfold InZ at hz
 exact posQ_bq (int_bq19 (hT.piece_len h1 h2 h3)) (g1.sub (by omega) (by omega)) (g2.sub (by omega) (by omega))
theorem pieceB_bq {l:List Pt} {a b z:Int} (hT:Strt l a b) (hz:InZ z) (t:Int×Int) (h1:a<=t.1) (h2:t.1 < t.2) (h3:t.2<=b):Bq 174 (pieceB l z t):=by
 obtain ⟨g1,g2,_⟩:=hT.piece_gd h1 h2 h3
 unfold InZ at hz
 exact posQ_bq (int_bq19 (hT.piece_len h1 h2 h3)) (g1.sub' (by omega) (by omega)) (g2.sub' (by omega) (by omega))
section
variable (w:World)
theorem above1_any (x:Pcv) (bz:Nat) (z:Int) (l:List Pt) (a b:Int) (hT:Strt l a b) (hz:InZ z) (hE:EP l a b x w) (hb:w.cell? ⟨bz,0,none⟩=some (.int .i64 z)) (hl:bz < w.heap.size):
  Calls Tryz.prog 132 #[encP x,.pointer (some ⟨bz,0,none⟩)] w (RetR w (pieceA l z x.t)):=by
 obtain ⟨⟨u1,u2⟩,a1,n1,c1,m1,d1,e1,f1,a2,n2,c2,m2,d2,e2,f2⟩:=x
 obtain ⟨e1',e2',h1,h2,h3⟩:=hE
 dsimp only at e1' e2' h1 h2 h3
 obtain ⟨G1,G2,hI⟩:=hT.piece_gd (t:=(u1,u2)) h1 h2 h3
 dsimp only at G1 G2 hI
 have HI:=ζ hI
 have HZI:=ζ hz.i
 have B1:=ζ (show Bq 36 (grd l u1)from G1.bq)
 have B2:=ζ (show Bq 36 (grd l u2)from G2.bq)
 have C1:=ζ (show Bq 38 (grd l u1 - (z:Rat))by have h:=hz;unfold InZ at h;exact G1.sub (by omega) (by omega))
 have C2:=ζ (show Bq 38 (grd l u2 - (z:Rat))by have h:=hz;unfold InZ at h;exact G2.sub (by omega) (by omega))
 have HP:=ζ (show pieceA l z (u1,u2)=posQ ((u2 - u1:Int):Rat) (grd l u1 - (z:Rat)) (grd l u2 - (z:Rat))from rfl)
 show Calls _ _ _ _ (RetR w (pieceA l z (u1,u2)))
 rw [HP.out]
 generalize grd l u1=q1 at*
 generalize grd l u2=q2 at*
 have HBZ:=ζ (fun W (h:Below w.heap.size w W)=>(h.cell (p:=⟨bz,0,none⟩) hl).trans hb)
 have hC:=ζ (((Sy.enter w).pR rfl rfl e1').pR rfl rfl e2'|>.al w.heap.size #[.int .i64 (u2 - u1),.slice a1 n1 c1,.bool m1,.slice d1 e1 f1,.slice a2 n2 c2,.bool m2,.slice d2 e2 f2] 179 rfl|>.al (w.heap.size+1) #[.slice none 0 0,.bool false,.slice none 0 0] 42 (by simp))
 clear e1' e2' G1 G2 hI hT hz hb hl HP h1 h2 h3
 go_enter Tryz.func132,Tryz.ntmps132
 go_upto_region 1 with fail
 refine wp_geny hC.out ?_
 intro V1 hc
 obtain ⟨b0,hb0⟩:∃b0,w.heap.size=b0:=⟨_,rfl⟩
 obtain ⟨b1,hb1⟩:∃b1,w.heap.size+1=b1:=⟨_,rfl⟩
 have hC1:Hid (Sy w V1 [(b0,#[.int .i64 (u2 - u1),.slice a1 n1 c1,.bool m1,.slice d1 e1 f1,.slice a2 n2 c2,.bool m2,.slice d2 e2 f2],179),(b1,#[.slice none 0 0,.bool false,.slice none 0 0],42)] [] [(fun V=>Rd V (.slice a1 n1 c1) m1 (.slice d1 e1 f1) (q1)),(fun V=>Rd V (.slice a2 n2 c2) m2 (.slice d2 e2 f2) (q2))]):=ζ (by rw [<-hb1,<-hb0];exact hc)
 rw [hb1,hb0]
 clear hc hC hb0 hb1
 refine wp_region_held_drew (S:=(fun w'=>w'.cell? ⟨b0,0,none⟩=some (.int .i64 (u2 - u1))/\w'.cell? ⟨b0,1,none⟩=some (.slice a1 n1 c1)/\w'.cell? ⟨b0,2,none⟩=some (.bool m1)/\w'.cell? ⟨b0,3,none⟩=some (.slice d1 e1 f1)/\w'.cell? ⟨b0,4,none⟩=some (.slice a2 n2 c2)/\w'.cell? ⟨b0,5,none⟩=some (.bool m2)/\w'.cell? ⟨b0,6,none⟩=some (.slice d2 e2 f2)/\w'.cell? ⟨bz,0,none⟩=some (.int .i64 z)/\True)) (by kernel_rfl) ⟨hC1.out.drew.c 0 0,hC1.out.drew.c 0 1,hC1.out.drew.c 0 2,hC1.out.drew.c 0 3,hC1.out.drew.c 0 4,hC1.out.drew.c 0 5,hC1.out.drew.c 0 6,(HBZ.out _ hC1.out.drew.be),trivial⟩ (fun hH=>?_)
 refine wpAnyH_geny (show Sy w _ [(b0,#[.int .i64 (u2 - u1),.slice a1 n1 c1,.bool m1,.slice d1 e1 f1,.slice a2 n2 c2,.bool m2,.slice d2 e2 f2],179),(b1,#[.slice none 0 0,.bool false,.slice none 0 0],42)] [] [(fun V=>Rd V (.slice a1 n1 c1) m1 (.slice d1 e1 f1) (q1)),(fun V=>Rd V (.slice a2 n2 c2) m2 (.slice d2 e2 f2) (q2))]from hC1.out.drew) hH ?_
 intro AS hc AA
 have AG:=ζ hc
 clear hc hH hC1
 refine tkA 0 rfl AA ?_
 try simp only [zP]
 refine tkA 1 rfl AA ?_
 try simp only [zP]
 refine tkA 2 rfl AA ?_
 try simp only [zP]
 refine tkA 3 rfl AA ?_
 try simp only [zP]
 refine tkA 4 rfl AA ?_
 try simp only [zP]
 refine tkA 7 rfl AA ?_
 try simp only [zP]
 refine tkA 8 rfl AA ?_
 try simp only [zP]
 refine tkA 9 rfl AA ?_
 try simp only [zP]
 refine rdy1 5 rfl (fun Kq AC=>?_)
 go_simp
 go_at_call 134
 refine(hof_any _ _ HZI.out.i64).mono ?_
 rintro e wT ⟨a3,n3,c3,m3,d3,e3,f3,rfl,hz,hb⟩
 (try go_wp2_with fail)
 refine stepZ AC (show Sy w _ [(b0,#[.int .i64 (u2 - u1),.slice a1 n1 c1,.bool m1,.slice d1 e1 f1,.slice a2 n2 c2,.bool m2,.slice d2 e2 f2],179),(b1,#[.slice none 0 0,.bool false,.slice none 0 0],42)] [] [(fun V=>Rd V (.slice a1 n1 c1) m1 (.slice d1 e1 f1) (q1)),(fun V=>Rd V (.slice a2 n2 c2) m2 (.slice d2 e2 f2) (q2)),(fun V=>Rd V (.slice a3 n3 c3) m3 (.slice d3 e3 f3) (z))]from((AG.out.call hb).pR rfl rfl hz)) (fun _ hX=>⟨hX.c 0 0,hX.c 0 1,hX.c 0 2,hX.c 0 3,hX.c 0 4,hX.c 0 5,hX.c 0 6,(HBZ.out _ hX.be),trivial⟩) ?_
 intro AT AD AI
 clear AC Kq AG hb hz AA
 try simp only [zP]
 refine rdy1 6 rfl (fun Kq AC=>?_)
 go_simp
 go_at_call 44
 refine(rsub_b (AD.out.r 0 rfl) (AD.out.r 2 rfl) B1.out (int_bq HZI.out) (by omega) (by omega)).mono ?_
 rintro e wT ⟨a4,n4,c4,m4,d4,e4,f4,rfl,hz,hb⟩
 (try go_wp2_with fail)
 refine stepZ AC (show Sy w _ [(b0,#[.int .i64 (u2 - u1),.slice a1 n1 c1,.bool m1,.slice d1 e1 f1,.slice a2 n2 c2,.bool m2,.slice d2 e2 f2],179),(b1,#[.slice none 0 0,.bool false,.slice none 0 0],42)] [] [(fun V=>Rd V (.slice a1 n1 c1) m1 (.slice d1 e1 f1) (q1)),(fun V=>Rd V (.slice a2 n2 c2) m2 (.slice d2 e2 f2) (q2)),(fun V=>Rd V (.slice a3 n3 c3) m3 (.slice d3 e3 f3) (z)),(fun V=>Rd V (.slice a4 n4 c4) m4 (.slice d4 e4 f4) (q1 - (z:Rat)))]from((AD.out.call hb).pR rfl rfl hz)) (fun _ hX=>⟨hX.c 0 0,hX.c 0 1,hX.c 0 2,hX.c 0 3,hX.c 0 4,hX.c 0 5,hX.c 0 6,(HBZ.out _ hX.be),trivial⟩) ?_
 intro AU AH AJ
 clear AC Kq AD hb hz AI
 try simp only [zP]
 refine rdy1 10 rfl (fun Kq AC=>?_)
 go_simp
 go_at_call 134
 refine(hof_any _ _ HZI.out.i64).mono ?_
 rintro e wT ⟨a5,n5,c5,m5,d5,e5,f5,rfl,hz,hb⟩
 (try go_wp2_with fail)
 refine stepZ AC (show Sy w _ [(b0,#[.int .i64 (u2 - u1),.slice a1 n1 c1,.bool m1,.slice d1 e1 f1,.slice a2 n2 c2,.bool m2,.slice d2 e2 f2],179),(b1,#[.slice none 0 0,.bool false,.slice none 0 0],42)] [] [(fun V=>Rd V (.slice a1 n1 c1) m1 (.slice d1 e1 f1) (q1)),(fun V=>Rd V (.slice a2 n2 c2) m2 (.slice d2 e2 f2) (q2)),(fun V=>Rd V (.slice a3 n3 c3) m3 (.slice d3 e3 f3) (z)),(fun V=>Rd V (.slice a4 n4 c4) m4 (.slice d4 e4 f4) (q1 - (z:Rat))),(fun V=>Rd V (.slice a5 n5 c5) m5 (.slice d5 e5 f5) (z))]from((AH.out.call hb).pR rfl rfl hz)) (fun _ hX=>⟨hX.c 0 0,hX.c 0 1,hX.c 0 2,hX.c 0 3,hX.c 0 4,hX.c 0 5,hX.c 0 6,(HBZ.out _ hX.be),trivial⟩) ?_
 intro AV AE AK
 clear AC Kq AH hb hz AJ
 try simp only [zP]
 refine rdy1 11 rfl (fun Kq AC=>?_)
 go_simp
 go_at_call 44
 refine(rsub_b (AE.out.r 1 rfl) (AE.out.r 4 rfl) B2.out (int_bq HZI.out) (by omega) (by omega)).mono ?_
 rintro e wT ⟨a6,n6,c6,m6,d6,e6,f6,rfl,hz,hb⟩
 (try go_wp2_with fail)
 refine stepZ AC (show Sy w _ [(b0,#[.int .i64 (u2 - u1),.slice a1 n1 c1,.bool m1,.slice d1 e1 f1,.slice a2 n2 c2,.bool m2,.slice d2 e2 f2],179),(b1,#[.slice none 0 0,.bool false,.slice none 0 0],42)] [] [(fun V=>Rd V (.slice a1 n1 c1) m1 (.slice d1 e1 f1) (q1)),(fun V=>Rd V (.slice a2 n2 c2) m2 (.slice d2 e2 f2) (q2)),(fun V=>Rd V (.slice a3 n3 c3) m3 (.slice d3 e3 f3) (z)),(fun V=>Rd V (.slice a4 n4 c4) m4 (.slice d4 e4 f4) (q1 - (z:Rat))),(fun V=>Rd V (.slice a5 n5 c5) m5 (.slice d5 e5 f5) (z)),(fun V=>Rd V (.slice a6 n6 c6) m6 (.slice d6 e6 f6) (q2 - (z:Rat)))]from((AE.out.call hb).pR rfl rfl hz)) (fun _ hX=>⟨hX.c 0 0,hX.c 0 1,hX.c 0 2,hX.c 0 3,hX.c 0 4,hX.c 0 5,hX.c 0 6,(HBZ.out _ hX.be),trivial⟩) ?_
 intro AW AF AL
 clear AC Kq AE hb hz AK
 try simp only [zP]
 refine rdy1 12 rfl (fun Kq AC=>?_)
 go_simp
 go_at_call 133
 refine(positive_any _ (u2 - u1) _ _ _ _ _ _ _ _ _ _ _ _ _ _ _ _ (AF.out.r 3 rfl) (AF.out.r 5 rfl) HI.out C1.out C2.out).mono ?_
 rintro e wT ⟨a7,n7,c7,m7,d7,e7,f7,rfl,hz,hb⟩
 (try go_wp2_with fail)
 refine stepZ AC (show Sy w _ [(b0,#[.int .i64 (u2 - u1),.slice a1 n1 c1,.bool m1,.slice d1 e1 f1,.slice a2 n2 c2,.bool m2,.slice d2 e2 f2],179),(b1,#[.slice none 0 0,.bool false,.slice none 0 0],42)] [] [(fun V=>Rd V (.slice a1 n1 c1) m1 (.slice d1 e1 f1) (q1)),(fun V=>Rd V (.slice a2 n2 c2) m2 (.slice d2 e2 f2) (q2)),(fun V=>Rd V (.slice a3 n3 c3) m3 (.slice d3 e3 f3) (z)),(fun V=>Rd V (.slice a4 n4 c4) m4 (.slice d4 e4 f4) (q1 - (z:Rat))),(fun V=>Rd V (.slice a5 n5 c5) m5 (.slice d5 e5 f5) (z)),(fun V=>Rd V (.slice a6 n6 c6) m6 (.slice d6 e6 f6) (q2 - (z:Rat))),(fun V=>Rd V (.slice a7 n7 c7) m7 (.slice d7 e7 f7) (posQ ((u2 - u1:Int):Rat) (q1 - (z:Rat)) (q2 - (z:Rat))))]from((AF.out.call hb).pR rfl rfl hz)) (fun _ hX=>⟨hX.c 0 0,hX.c 0 1,hX.c 0 2,hX.c 0 3,hX.c 0 4,hX.c 0 5,hX.c 0 6,(HBZ.out _ hX.be),trivial⟩) ?_
 intro AX AB AM
 clear AC Kq AF hb hz AL
 try simp only [zP]
 refine rdy1 13 rfl (fun Kq AC=>?_)
 have cQ0:=AB.out.c 1 0
 have fQ0:=AB.out.f 1 0
 have cQ1:=AB.out.c 1 1
 have fQ1:=AB.out.f 1 1
 have cQ2:=AB.out.c 1 2
 have fQ2:=AB.out.f 1 2
 go_simp
 refine stepZ AC (show Sy w _ [(b0,#[.int .i64 (u2 - u1),.slice a1 n1 c1,.bool m1,.slice d1 e1 f1,.slice a2 n2 c2,.bool m2,.slice d2 e2 f2],179),(b1,#[.slice a7 n7 c7,.bool m7,.slice d7 e7 f7],42)] [] [(fun V=>Rd V (.slice a1 n1 c1) m1 (.slice d1 e1 f1) (q1)),(fun V=>Rd V (.slice a2 n2 c2) m2 (.slice d2 e2 f2) (q2)),(fun V=>Rd V (.slice a3 n3 c3) m3 (.slice d3 e3 f3) (z)),(fun V=>Rd V (.slice a4 n4 c4) m4 (.slice d4 e4 f4) (q1 - (z:Rat))),(fun V=>Rd V (.slice a5 n5 c5) m5 (.slice d5 e5 f5) (z)),(fun V=>Rd V (.slice a6 n6 c6) m6 (.slice d6 e6 f6) (q2 - (z:Rat))),(fun V=>Rd V (.slice a7 n7 c7) m7 (.slice d7 e7 f7) (posQ ((u2 - u1:Int):Rat) (q1 - (z:Rat)) (q2 - (z:Rat))))]from(AB.out|>.set (j:=0) (v:= .slice a7 n7 c7) 1 rfl|>.set (j:=1) (v:= .bool m7) 1 rfl|>.set (j:=2) (v:= .slice d7 e7 f7) 1 rfl)) (fun _ hX=>⟨hX.c 0 0,hX.c 0 1,hX.c 0 2,hX.c 0 3,hX.c 0 4,hX.c 0 5,hX.c 0 6,(HBZ.out _ hX.be),trivial⟩) ?_
 intro AY AN AO
 clear AC Kq AB cQ0 fQ0 cQ1 fQ1 cQ2 fQ2 AM
 try simp only [Act.put]
 refine wpAnyH_done (by kernel_rfl) ?_ _
 go_wp2
 refine ret_sy AN.out (v:= .agg #[.slice a7 n7 c7,.bool m7,.slice d7 e7 f7]) (fun hF=>?_) rfl (fun hF=>⟨_,_,_,_,_,_,_,rfl,hF.r 6 rfl,hF.be⟩)
 have g0:=hF.c 1 0
 have g1:=hF.c 1 1
 have g2:=hF.c 1 2
 simp [results,Tryz.results132,go_sem,g0,g1,g2]
theorem eg_above1:EG 132:=enters_of Tryz.func132 (by kernel_rfl) rfl
theorem above_any (sa:OA) (sn sc:Nat) (l:List Pt) (a b z:Int) (hT:Strt l a b) (hz:InZ z) (hs:Sx 2 w sa sn sc (L2 l)):
  Calls Tryz.prog 70 #[.agg #[.slice sa sn sc,.int .i64 a,.int .i64 b],.int .i64 z] w (RetR w (above l a b z)):=by
 have hC:=ζ ((((Sy.enter w).al w.heap.size #[.slice sa sn sc,.int .i64 a,.int .i64 b] 120 rfl).al (w.heap.size+1) #[.int .i64 z] 3 (by simp)).al (w.heap.size+1+1) #[.slice none 0 0,.bool false,.slice none 0 0] 42 (by simp))
 have HS:=ζ hs
 have HT:=ζ hT
 have HZ:=ζ hz
 show Calls _ _ _ _ (RetR w (smQ ((pcs l a b).map (pieceA l z))))
 clear hs hT hz
 go_enter Tryz.func70,Tryz.ntmps70
 have k0:=hC.out.c 0 0
 have k1:=hC.out.c 0 1
 have k2:=hC.out.c 0 2
 go_wp2_with fail
 refine(callsIn_wide.1 (hsum_in _ 4 (Nat.le_refl _) sa sn sc l a b HT.out (HS.out.below hC.out.be) 132 #[.pointer (some ⟨w.heap.size+1,0,none⟩)] eg_above1 (pieceA l z) 174 (fun t h1 h2 h3=>pieceA_bq HT.out HZ.out t h1 h2 h3) (by omega)
  (fun W x hW hx=>above1_any W x (w.heap.size+1) z l a b HT.out HZ.out hx ((hW.cell (p:=⟨w.heap.size+1,0,none⟩) (hC.out.lt 1 rfl)).trans (hC.out.c 1 0)) (Nat.lt_of_lt_of_le (hC.out.lt 1 rfl) hW.size)))).mono ?_
 rintro e w3 ⟨a3,n3,c3,m3,d3,e3,f3,rfl,hr,hb⟩
 have hD:=ζ ((hC.out.call hb).pR rfl rfl hr)
 clear hb hr hC k0 k1 k2
 have AZ:=hD.out.c 2 0
 have AP:=hD.out.f 2 0
 have A0:=hD.out.c 2 1
 have AQ:=hD.out.f 2 1
 have A1:=hD.out.c 2 2
 have AR:=hD.out.f 2 2
 go_wp2
 have hE:=ζ (hD.out|>.set (j:=0) (v:= .slice a3 n3 c3) 2 rfl|>.set (j:=1) (v:= .bool m3) 2 rfl|>.set (j:=2) (v:= .slice d3 e3 f3) 2 rfl)
 clear hD
 refine ret_sy hE.out (v:= .agg #[.slice a3 n3 c3,.bool m3,.slice d3 e3 f3]) (fun hF=>?_) rfl (fun hF=>⟨_,_,_,_,_,_,_,rfl,hF.r 0 rfl,hF.be⟩)
 have g0:=hF.c 2 0
 have g1:=hF.c 2 1
 have g2:=hF.c 2 2
 simp [results,Tryz.results70,go_sem,g0,g1,g2]
theorem below1_any (x:Pcv) (bz:Nat) (z:Int) (l:List Pt) (a b:Int) (hT:Strt l a b) (hz:InZ z) (hE:EP l a b x w) (hb:w.cell? ⟨bz,0,none⟩=some (.int .i64 z)) (hl:bz < w.heap.size):
  Calls Tryz.prog 142 #[encP x,.pointer (some ⟨bz,0,none⟩)] w (RetR w (pieceB l z x.t)):=by
 obtain ⟨⟨u1,u2⟩,a1,n1,c1,m1,d1,e1,f1,a2,n2,c2,m2,d2,e2,f2⟩:=x
 obtain ⟨e1',e2',h1,h2,h3⟩:=hE
 dsimp only at e1' e2' h1 h2 h3
 obtain ⟨G1,G2,hI⟩:=hT.piece_gd (t:=(u1,u2)) h1 h2 h3
 dsimp only at G1 G2 hI
 have HI:=ζ hI
 have HZI:=ζ hz.i
 have B1:=ζ (show Bq 36 (grd l u1)from G1.bq)
 have B2:=ζ (show Bq 36 (grd l u2)from G2.bq)
 have C1:=ζ (show Bq 38 ((z:Rat) - grd l u1)by have h:=hz;unfold InZ at h;exact G1.sub' (by omega) (by omega))
 have C2:=ζ (show Bq 38 ((z:Rat) - grd l u2)by have h:=hz;unfold InZ at h;exact G2.sub' (by omega) (by omega))
 have HP:=ζ (show pieceB l z (u1,u2)=posQ ((u2 - u1:Int):Rat) ((z:Rat) - grd l u1) ((z:Rat) - grd l u2)from rfl)
 show Calls _ _ _ _ (RetR w (pieceB l z (u1,u2)))
 rw [HP.out]
 generalize grd l u1=q1 at*
 generalize grd l u2=q2 at*
 have HBZ:=ζ (fun W (h:Below w.heap.size w W)=>(h.cell (p:=⟨bz,0,none⟩) hl).trans hb)
 have hC:=ζ (((Sy.enter w).pR rfl rfl e1').pR rfl rfl e2'|>.al w.heap.size #[.int .i64 (u2 - u1),.slice a1 n1 c1,.bool m1,.slice d1 e1 f1,.slice a2 n2 c2,.bool m2,.slice d2 e2 f2] 179 rfl|>.al (w.heap.size+1) #[.slice none 0 0,.bool false,.slice none 0 0] 42 (by simp))
 clear e1' e2' G1 G2 hI hT hz hb hl HP h1 h2 h3
 go_enter Tryz.func142,Tryz.ntmps142
 go_upto_region 1 with fail
 refine wp_geny hC.out ?_
 intro V1 hc
 obtain ⟨b0,hb0⟩:∃b0,w.heap.size=b0:=⟨_,rfl⟩
 obtain ⟨b1,hb1⟩:∃b1,w.heap.size+1=b1:=⟨_,rfl⟩
 have hC1:Hid (Sy w V1 [(b0,#[.int .i64 (u2 - u1),.slice a1 n1 c1,.bool m1,.slice d1 e1 f1,.slice a2 n2 c2,.bool m2,.slice d2 e2 f2],179),(b1,#[.slice none 0 0,.bool false,.slice none 0 0],42)] [] [(fun V=>Rd V (.slice a1 n1 c1) m1 (.slice d1 e1 f1) (q1)),(fun V=>Rd V (.slice a2 n2 c2) m2 (.slice d2 e2 f2) (q2))]):=ζ (by rw [<-hb1,<-hb0];exact hc)
 rw [hb1,hb0]
 clear hc hC hb0 hb1
 refine wp_region_held_drew (S:=(fun w'=>w'.cell? ⟨b0,0,none⟩=some (.int .i64 (u2 - u1))/\w'.cell? ⟨b0,1,none⟩=some (.slice a1 n1 c1)/\w'.cell? ⟨b0,2,none⟩=some (.bool m1)/\w'.cell? ⟨b0,3,none⟩=some (.slice d1 e1 f1)/\w'.cell? ⟨b0,4,none⟩=some (.slice a2 n2 c2)/\w'.cell? ⟨b0,5,none⟩=some (.bool m2)/\w'.cell? ⟨b0,6,none⟩=some (.slice d2 e2 f2)/\w'.cell? ⟨bz,0,none⟩=some (.int .i64 z)/\True)) (by kernel_rfl) ⟨hC1.out.drew.c 0 0,hC1.out.drew.c 0 1,hC1.out.drew.c 0 2,hC1.out.drew.c 0 3,hC1.out.drew.c 0 4,hC1.out.drew.c 0 5,hC1.out.drew.c 0 6,(HBZ.out _ hC1.out.drew.be),trivial⟩ (fun hH=>?_)
 refine wpAnyH_geny (show Sy w _ [(b0,#[.int .i64 (u2 - u1),.slice a1 n1 c1,.bool m1,.slice d1 e1 f1,.slice a2 n2 c2,.bool m2,.slice d2 e2 f2],179),(b1,#[.slice none 0 0,.bool false,.slice none 0 0],42)] [] [(fun V=>Rd V (.slice a1 n1 c1) m1 (.slice d1 e1 f1) (q1)),(fun V=>Rd V (.slice a2 n2 c2) m2 (.slice d2 e2 f2) (q2))]from hC1.out.drew) hH ?_
 intro AS hc AA
 have AG:=ζ hc
 clear hc hH hC1
 refine tkA 0 rfl AA ?_
 try simp only [zP]
 refine tkA 1 rfl AA ?_
 try simp only [zP]
 refine tkA 2 rfl AA ?_
 try simp only [zP]
 refine tkA 4 rfl AA ?_
 try simp only [zP]
 refine tkA 5 rfl AA ?_
 try simp only [zP]
 refine tkA 7 rfl AA ?_
 try simp only [zP]
 refine tkA 9 rfl AA ?_
 try simp only [zP]
 refine tkA 10 rfl AA ?_
 try simp only [zP]
 refine rdy1 3 rfl (fun Kq AC=>?_)
 go_simp
 go_at_call 134
 refine(hof_any _ _ HZI.out.i64).mono ?_
 rintro e wT ⟨a3,n3,c3,m3,d3,e3,f3,rfl,hz,hb⟩
 (try go_wp2_with fail)
 refine stepZ AC (show Sy w _ [(b0,#[.int .i64 (u2 - u1),.slice a1 n1 c1,.bool m1,.slice d1 e1 f1,.slice a2 n2 c2,.bool m2,.slice d2 e2 f2],179),(b1,#[.slice none 0 0,.bool false,.slice none 0 0],42)] [] [(fun V=>Rd V (.slice a1 n1 c1) m1 (.slice d1 e1 f1) (q1)),(fun V=>Rd V (.slice a2 n2 c2) m2 (.slice d2 e2 f2) (q2)),(fun V=>Rd V (.slice a3 n3 c3) m3 (.slice d3 e3 f3) (z))]from((AG.out.call hb).pR rfl rfl hz)) (fun _ hX=>⟨hX.c 0 0,hX.c 0 1,hX.c 0 2,hX.c 0 3,hX.c 0 4,hX.c 0 5,hX.c 0 6,(HBZ.out _ hX.be),trivial⟩) ?_
 intro AT AD AI
 clear AC Kq AG hb hz AA
 try simp only [zP]
 refine rdy1 6 rfl (fun Kq AC=>?_)
 go_simp
 go_at_call 44
 refine(rsub_b (AD.out.r 2 rfl) (AD.out.r 0 rfl) (int_bq HZI.out) B1.out (by omega) (by omega)).mono ?_
 rintro e wT ⟨a4,n4,c4,m4,d4,e4,f4,rfl,hz,hb⟩
 (try go_wp2_with fail)
 refine stepZ AC (show Sy w _ [(b0,#[.int .i64 (u2 - u1),.slice a1 n1 c1,.bool m1,.slice d1 e1 f1,.slice a2 n2 c2,.bool m2,.slice d2 e2 f2],179),(b1,#[.slice none 0 0,.bool false,.slice none 0 0],42)] [] [(fun V=>Rd V (.slice a1 n1 c1) m1 (.slice d1 e1 f1) (q1)),(fun V=>Rd V (.slice a2 n2 c2) m2 (.slice d2 e2 f2) (q2)),(fun V=>Rd V (.slice a3 n3 c3) m3 (.slice d3 e3 f3) (z)),(fun V=>Rd V (.slice a4 n4 c4) m4 (.slice d4 e4 f4) ((z:Rat) - q1))]from((AD.out.call hb).pR rfl rfl hz)) (fun _ hX=>⟨hX.c 0 0,hX.c 0 1,hX.c 0 2,hX.c 0 3,hX.c 0 4,hX.c 0 5,hX.c 0 6,(HBZ.out _ hX.be),trivial⟩) ?_
 intro AU AH AJ
 clear AC Kq AD hb hz AI
 try simp only [zP]
 refine rdy1 8 rfl (fun Kq AC=>?_)
 go_simp
 go_at_call 134
 refine(hof_any _ _ HZI.out.i64).mono ?_
 rintro e wT ⟨a5,n5,c5,m5,d5,e5,f5,rfl,hz,hb⟩
 (try go_wp2_with fail)
 refine stepZ AC (show Sy w _ [(b0,#[.int .i64 (u2 - u1),.slice a1 n1 c1,.bool m1,.slice d1 e1 f1,.slice a2 n2 c2,.bool m2,.slice d2 e2 f2],179),(b1,#[.slice none 0 0,.bool false,.slice none 0 0],42)] [] [(fun V=>Rd V (.slice a1 n1 c1) m1 (.slice d1 e1 f1) (q1)),(fun V=>Rd V (.slice a2 n2 c2) m2 (.slice d2 e2 f2) (q2)),(fun V=>Rd V (.slice a3 n3 c3) m3 (.slice d3 e3 f3) (z)),(fun V=>Rd V (.slice a4 n4 c4) m4 (.slice d4 e4 f4) ((z:Rat) - q1)),(fun V=>Rd V (.slice a5 n5 c5) m5 (.slice d5 e5 f5) (z))]from((AH.out.call hb).pR rfl rfl hz)) (fun _ hX=>⟨hX.c 0 0,hX.c 0 1,hX.c 0 2,hX.c 0 3,hX.c 0 4,hX.c 0 5,hX.c 0 6,(HBZ.out _ hX.be),trivial⟩) ?_
 intro AV AE AK
 clear AC Kq AH hb hz AJ
 try simp only [zP]
 refine rdy1 11 rfl (fun Kq AC=>?_)
 go_simp
 go_at_call 44
 refine(rsub_b (AE.out.r 4 rfl) (AE.out.r 1 rfl) (int_bq HZI.out) B2.out (by omega) (by omega)).mono ?_
 rintro e wT ⟨a6,n6,c6,m6,d6,e6,f6,rfl,hz,hb⟩
 (try go_wp2_with fail)
 refine stepZ AC (show Sy w _ [(b0,#[.int .i64 (u2 - u1),.slice a1 n1 c1,.bool m1,.slice d1 e1 f1,.slice a2 n2 c2,.bool m2,.slice d2 e2 f2],179),(b1,#[.slice none 0 0,.bool false,.slice none 0 0],42)] [] [(fun V=>Rd V (.slice a1 n1 c1) m1 (.slice d1 e1 f1) (q1)),(fun V=>Rd V (.slice a2 n2 c2) m2 (.slice d2 e2 f2) (q2)),(fun V=>Rd V (.slice a3 n3 c3) m3 (.slice d3 e3 f3) (z)),(fun V=>Rd V (.slice a4 n4 c4) m4 (.slice d4 e4 f4) ((z:Rat) - q1)),(fun V=>Rd V (.slice a5 n5 c5) m5 (.slice d5 e5 f5) (z)),(fun V=>Rd V (.slice a6 n6 c6) m6 (.slice d6 e6 f6) ((z:Rat) - q2))]from((AE.out.call hb).pR rfl rfl hz)) (fun _ hX=>⟨hX.c 0 0,hX.c 0 1,hX.c 0 2,hX.c 0 3,hX.c 0 4,hX.c 0 5,hX.c 0 6,(HBZ.out _ hX.be),trivial⟩) ?_
 intro AW AF AL
 clear AC Kq AE hb hz AK
 try simp only [zP]
 refine rdy1 12 rfl (fun Kq AC=>?_)
 go_simp
 go_at_call 133
 refine(positive_any _ (u2 - u1) _ _ _ _ _ _ _ _ _ _ _ _ _ _ _ _ (AF.out.r 3 rfl) (AF.out.r 5 rfl) HI.out C1.out C2.out).mono ?_
 rintro e wT ⟨a7,n7,c7,m7,d7,e7,f7,rfl,hz,hb⟩
 (try go_wp2_with fail)
 refine stepZ AC (show Sy w _ [(b0,#[.int .i64 (u2 - u1),.slice a1 n1 c1,.bool m1,.slice d1 e1 f1,.slice a2 n2 c2,.bool m2,.slice d2 e2 f2],179),(b1,#[.slice none 0 0,.bool false,.slice none 0 0],42)] [] [(fun V=>Rd V (.slice a1 n1 c1) m1 (.slice d1 e1 f1) (q1)),(fun V=>Rd V (.slice a2 n2 c2) m2 (.slice d2 e2 f2) (q2)),(fun V=>Rd V (.slice a3 n3 c3) m3 (.slice d3 e3 f3) (z)),(fun V=>Rd V (.slice a4 n4 c4) m4 (.slice d4 e4 f4) ((z:Rat) - q1)),(fun V=>Rd V (.slice a5 n5 c5) m5 (.slice d5 e5 f5) (z)),(fun V=>Rd V (.slice a6 n6 c6) m6 (.slice d6 e6 f6) ((z:Rat) - q2)),(fun V=>Rd V (.slice a7 n7 c7) m7 (.slice d7 e7 f7) (posQ ((u2 - u1:Int):Rat) ((z:Rat) - q1) ((z:Rat) - q2)))]from((AF.out.call hb).pR rfl rfl hz)) (fun _ hX=>⟨hX.c 0 0,hX.c 0 1,hX.c 0 2,hX.c 0 3,hX.c 0 4,hX.c 0 5,hX.c 0 6,(HBZ.out _ hX.be),trivial⟩) ?_
 intro AX AB AM
 clear AC Kq AF hb hz AL
 try simp only [zP]
 refine rdy1 13 rfl (fun Kq AC=>?_)
 have cQ0:=AB.out.c 1 0
 have fQ0:=AB.out.f 1 0
 have cQ1:=AB.out.c 1 1
 have fQ1:=AB.out.f 1 1
 have cQ2:=AB.out.c 1 2
 have fQ2:=AB.out.f 1 2
 go_simp
 refine stepZ AC (show Sy w _ [(b0,#[.int .i64 (u2 - u1),.slice a1 n1 c1,.bool m1,.slice d1 e1 f1,.slice a2 n2 c2,.bool m2,.slice d2 e2 f2],179),(b1,#[.slice a7 n7 c7,.bool m7,.slice d7 e7 f7],42)] [] [(fun V=>Rd V (.slice a1 n1 c1) m1 (.slice d1 e1 f1) (q1)),(fun V=>Rd V (.slice a2 n2 c2) m2 (.slice d2 e2 f2) (q2)),(fun V=>Rd V (.slice a3 n3 c3) m3 (.slice d3 e3 f3) (z)),(fun V=>Rd V (.slice a4 n4 c4) m4 (.slice d4 e4 f4) ((z:Rat) - q1)),(fun V=>Rd V (.slice a5 n5 c5) m5 (.slice d5 e5 f5) (z)),(fun V=>Rd V (.slice a6 n6 c6) m6 (.slice d6 e6 f6) ((z:Rat) - q2)),(fun V=>Rd V (.slice a7 n7 c7) m7 (.slice d7 e7 f7) (posQ ((u2 - u1:Int):Rat) ((z:Rat) - q1) ((z:Rat) - q2)))]from(AB.out|>.set (j:=0) (v:= .slice a7 n7 c7) 1 rfl|>.set (j:=1) (v:= .bool m7) 1 rfl|>.set (j:=2) (v:= .slice d7 e7 f7) 1 rfl)) (fun _ hX=>⟨hX.c 0 0,hX.c 0 1,hX.c 0 2,hX.c 0 3,hX.c 0 4,hX.c 0 5,hX.c 0 6,(HBZ.out _ hX.be),trivial⟩) ?_
 intro AY AN AO
 clear AC Kq AB cQ0 fQ0 cQ1 fQ1 cQ2 fQ2 AM
 try simp only [Act.put]
 refine wpAnyH_done (by kernel_rfl) ?_ _
 go_wp2
 refine ret_sy AN.out (v:= .agg #[.slice a7 n7 c7,.bool m7,.slice d7 e7 f7]) (fun hF=>?_) rfl (fun hF=>⟨_,_,_,_,_,_,_,rfl,hF.r 6 rfl,hF.be⟩)
 have g0:=hF.c 1 0
 have g1:=hF.c 1 1
 have g2:=hF.c 1 2
 simp [results,Tryz.results142,go_sem,g0,g1,g2]
theorem eg_below1:EG 142:=enters_of Tryz.func142 (by kernel_rfl) rfl
theorem below_any (sa:OA) (sn sc:Nat) (l:List Pt) (a b z:Int) (hT:Strt l a b) (hz:InZ z) (hs:Sx 2 w sa sn sc (L2 l)):
  Calls Tryz.prog 89 #[.agg #[.slice sa sn sc,.int .i64 a,.int .i64 b],.int .i64 z] w (RetR w (below l a b z)):=by
 have hC:=ζ ((((Sy.enter w).al w.heap.size #[.slice sa sn sc,.int .i64 a,.int .i64 b] 120 rfl).al (w.heap.size+1) #[.int .i64 z] 3 (by simp)).al (w.heap.size+1+1) #[.slice none 0 0,.bool false,.slice none 0 0] 42 (by simp))
 have HS:=ζ hs
 have HT:=ζ hT
 have HZ:=ζ hz
 show Calls _ _ _ _ (RetR w (smQ ((pcs l a b).map (pieceB l z))))
 clear hs hT hz
 go_enter Tryz.func89,Tryz.ntmps89
 have k0:=hC.out.c 0 0
 have k1:=hC.out.c 0 1
 have k2:=hC.out.c 0 2
 go_wp2_with fail
 refine(callsIn_wide.1 (hsum_in _ 4 (Nat.le_refl _) sa sn sc l a b HT.out (HS.out.below hC.out.be) 142 #[.pointer (some ⟨w.heap.size+1,0,none⟩)] eg_below1 (pieceB l z) 174 (fun t h1 h2 h3=>pieceB_bq HT.out HZ.out t h1 h2 h3) (by omega)
  (fun W x hW hx=>below1_any W x (w.heap.size+1) z l a b HT.out HZ.out hx ((hW.cell (p:=⟨w.heap.size+1,0,none⟩) (hC.out.lt 1 rfl)).trans (hC.out.c 1 0)) (Nat.lt_of_lt_of_le (hC.out.lt 1 rfl) hW.size)))).mono ?_
 rintro e w3 ⟨a3,n3,c3,m3,d3,e3,f3,rfl,hr,hb⟩
 have hD:=ζ ((hC.out.call hb).pR rfl rfl hr)
 clear hb hr hC k0 k1 k2
 have AZ:=hD.out.c 2 0
 have AP:=hD.out.f 2 0
 have A0:=hD.out.c 2 1
 have AQ:=hD.out.f 2 1
 have A1:=hD.out.c 2 2
 have AR:=hD.out.f 2 2
 go_wp2
 have hE:=ζ (hD.out|>.set (j:=0) (v:= .slice a3 n3 c3) 2 rfl|>.set (j:=1) (v:= .bool m3) 2 rfl|>.set (j:=2) (v:= .slice d3 e3 f3) 2 rfl)
 clear hD
 refine ret_sy hE.out (v:= .agg #[.slice a3 n3 c3,.bool m3,.slice d3 e3 f3]) (fun hF=>?_) rfl (fun hF=>⟨_,_,_,_,_,_,_,rfl,hF.r 0 rfl,hF.be⟩)
 have g0:=hF.c 2 0
 have g1:=hF.c 2 1
 have g2:=hF.c 2 2
 simp [results,Tryz.results89,go_sem,g0,g1,g2]
end
section
section
variable {n:Nat} {P:Program} {ops:Array Oper} {md:Region.Mode}
theorem wpIn_of_wpW {o:Oper} {a:Act} {K:Act->World->Prop} {Q:Exit->Act->World->Prop} {w:World} (_hnd:noDefer o=true) (h:o.wp P a w K Q):o.wpIn Fence.wide n P a w K Q:=by
 refine⟨fun f _=>trivial,?_⟩
 rw [show Oper.semAt Fence.wide.round a.eval o=execOp a.eval o from rfl]
 unfold Oper.wp at h
 generalize (execOp a.eval o).run P w=r at*
 cases r with
 | ok x w'=>
   cases x with
   | value v=>exact h
   | skip=>exact h
   | defer d=>exact h
   | enter f args=>exact⟨fun h0=>(by cases h0),callsIn_wide.2 h⟩
   | row row args=>exact⟨fun h0=>(by cases h0),fun c cs _=>let ⟨v,w',r,s⟩:=h c cs;⟨v,w',r,stepsIn_wide.2 s⟩⟩
   | _=>exact h.elim
 | halt x w'=>
   cases x<;>exact h
theorem wpAnyIn_of_anyW {Q:Exit->Act->World->Prop} (hnd:ops.all noDefer=true) (hlo:¬ LetsOut Q):∀ (fuel:Nat) (listed:Array Bool) (a:Act) (w:World),wpAny P md ops Q fuel listed a w->wpAnyIn Fence.wide n P md ops Q fuel listed a w
 | 0,_,_,_,h=>h
 | fuel+1,listed,a,w,h=>⟨h.1,fun i hi=>by
   have h2:=h.2 i hi
   unfold wpOp at h2
   unfold wpOpIn
   split
   ·rename_i ho
    simp only [ho]at h2
    exact wpAnyIn_of_anyW hnd hlo fuel _ _ _ h2
   ·rename_i o ho
    simp only [ho]at h2
    have hno:noDefer o=true:=(Array.all_eq_true_iff_forall_mem.1 hnd) o (Array.mem_of_getElem? ho)
    split
    ·rename_i hw
     rw [if_pos hw]at h2
     rcases h2 with h2 | ⟨_,h2⟩
     ·exact Oper.wpIn_mono (fun a' w' h3=>wpAnyIn_of_anyW hnd hlo fuel _ a' w' h3) (wpIn_of_wpW hno h2)
     ·exact absurd h2 hlo
    ·rename_i hw
     rw [if_neg hw]at h2
     exact⟨fun _ _=>trivial,wpAnyIn_of_anyW hnd hlo fuel _ _ _ h2⟩⟩
theorem wpIn_region_wide {id:Nat} {R:Act->World->Prop} {S:World->Prop} {a:Act} {w:World} (hnd:ops.all noDefer=true) (hm:P.follows .mixedOrders=true) (hS:S w.drew)
  (h:S w.drew->wpAnyH P .any ops (fun e a' w'=>e= .normal/\R a' w') S ops.size (Array.replicate ops.size false) a w.drew):(Code.region id ops true).wpIn Fence.wide n P (fun e a' w'=>e= .normal/\R a' w') a w:=
 wpIn_region_any hm (wpAnyIn_of_anyW hnd (fun hq=>by obtain ⟨_,_,h1,_⟩:=hq;cases h1) _ _ _ _ (wpAny_of_held _ _ _ _ (h hS)))
end
end
end Go.Proofs.YthmdhlopeponcaaGreatDoor
