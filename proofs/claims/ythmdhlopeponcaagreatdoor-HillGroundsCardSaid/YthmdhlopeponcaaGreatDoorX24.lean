/- areas above and below a level -/
import Derived.Test.YthmdhlopeponcaaGreatDoorX1
import Derived.Test.YthmdhlopeponcaaGreatDoorX21
import Derived.Test.YthmdhlopeponcaaGreatDoorX23
import Derived.Test.YthmdhlopeponcaaGreatDoorX20
set_option maxRecDepth 100000
set_option maxHeartbeats 8000000
namespace Go.Proofs.YthmdhlopeponcaaGreatDoor
open Go.RowKit Go.Shelf Dig
theorem Strt.piece_gd {l:List Pt} {a b:Int} (hT:Strt l a b) {t:Int×Int} (h1:a≤t.1) (h2:t.1 < t.2) (h3:t.2≤b):Gd (grd l t.1)∧Gd (grd l t.2)∧InI (t.2 - t.1):=by
 refine⟨hT.gd h1 (by omega),hT.gd (by omega) h3,?_⟩
 have:=hT.lo
 have:=hT.hi
 have:=hT.ok.two
 have:=hT.ok.bx (i:=0) (by omega)
 have:=hT.ok.bx (i:=l.length - 1) (by omega)
 unfold InI;omega
theorem int_bq19 {k:Int} (h: -200001≤k∧k≤200001):Bq 19 (k:Rat):=Bq.int (n:=18) (by unfold Bd;omega)
theorem Strt.piece_len {l:List Pt} {a b:Int} (hT:Strt l a b) {t:Int×Int} (h1:a≤t.1) (h2:t.1 < t.2) (h3:t.2≤b): -200001≤t.2 - t.1∧t.2 - t.1≤200001:=by
 have:=hT.lo
 have:=hT.hi
 have:=hT.ok.two
 have:=hT.ok.bx (i:=0) (by omega)
 have:=hT.ok.bx (i:=l.length - 1) (by omega)
 omega
def InZ (z:Int):Prop:= -300000≤z∧z≤300000
theorem InZ.i {z:Int} (h:InZ z):InI z:=by unfold InZ at h;unfold InI;omega
theorem pieceA_bq {l:List Pt} {a b z:Int} (hT:Strt l a b) (hz:InZ z) (t:Int×Int) (h1:a≤t.1) (h2:t.1 < t.2) (h3:t.2≤b):Bq 174 (pieceA l z t):=by
 obtain ⟨g1,g2,_⟩:=hT.piece_gd h1 h2 h3
 unfold InZ at hz
 exact posQ_bq (int_bq19 (hT.piece_len h1 h2 h3)) (g1.sub (by omega) (by omega)) (g2.sub (by omega) (by omega))
theorem pieceB_bq {l:List Pt} {a b z:Int} (hT:Strt l a b) (hz:InZ z) (t:Int×Int) (h1:a≤t.1) (h2:t.1 < t.2) (h3:t.2≤b):Bq 174 (pieceB l z t):=by
 obtain ⟨g1,g2,_⟩:=hT.piece_gd h1 h2 h3
 unfold InZ at hz
 exact posQ_bq (int_bq19 (hT.piece_len h1 h2 h3)) (g1.sub' (by omega) (by omega)) (g2.sub' (by omega) (by omega))
section
variable (w:World)
theorem above1_any (x:Pcv) (bz:Nat) (z:Int) (l:List Pt) (a b:Int) (hT:Strt l a b) (hz:InZ z) (hE:EP l a b x w) (hb:w.cell? ⟨bz,0,none⟩=some (.int .i64 z)) (hl:bz < w.heap.size):
  Calls Tryz.prog 132 #[encP x,.pointer (some ⟨bz,0,none⟩)] w (RetR w (pieceA l z x.t)):=by
 obtain ⟨⟨u1,u2⟩,a1,n1,c1,m1,d1,e1,f1,a2,n2,c2,m2,d2,e2,f2⟩:=x
 obtain ⟨e1',e2',h1,h2,h3⟩:=hE
 dsimp only at e1' e2' h1 h2 h3
 obtain ⟨G1,G2,hI⟩:=hT.piece_gd (t:=(u1,u2)) h1 h2 h3
 dsimp only at G1 G2 hI
 have HI:=ζ hI
 have HZI:=ζ hz.i
 have B1:=ζ (show Bq 36 (grd l u1)from G1.bq)
 have B2:=ζ (show Bq 36 (grd l u2)from G2.bq)
 have C1:=ζ (show Bq 38 (grd l u1 - (z:Rat))from by have h:=hz;unfold InZ at h;exact G1.sub (by omega) (by omega))
 have C2:=ζ (show Bq 38 (grd l u2 - (z:Rat))from by have h:=hz;unfold InZ at h;exact G2.sub (by omega) (by omega))
 have HP:=ζ (show pieceA l z (u1,u2)=posQ ((u2 - u1:Int):Rat) (grd l u1 - (z:Rat)) (grd l u2 - (z:Rat))from rfl)
 show Calls _ _ _ _ (RetR w (pieceA l z (u1,u2)))
 rw [HP.out]
 generalize grd l u1=q1 at*
 generalize grd l u2=q2 at*
 have HBZ:=ζ (fun W (h:Below w.heap.size w W)=>(h.cell (p:=⟨bz,0,none⟩) hl).trans hb)
 have hC:=ζ (((Sy.enter w).pR rfl rfl e1').pR rfl rfl e2'|>.al w.heap.size #[.int .i64 (u2 - u1),.slice a1 n1 c1,.bool m1,.slice d1 e1 f1,.slice a2 n2 c2,.bool m2,.slice d2 e2 f2] 179 rfl|>.al (w.heap.size+1) #[.slice none 0 0,.bool false,.slice none 0 0] 42 (by simp))
 clear e1' e2' G1 G2 hI hT hz hb hl HP h1 h2 h3
 go_enter Tryz.func132,Tryz.ntmps132
 go_upto_region 1 with fail
 refine wp_geny hC.out ?_
 intro V1 hc
 obtain ⟨b0,hb0⟩:∃b0,w.heap.size=b0:=⟨_,rfl⟩
 obtain ⟨b1,hb1⟩:∃b1,w.heap.size+1=b1:=⟨_,rfl⟩
 have hC1:Hid (Sy w V1 [(b0,#[.int .i64 (u2 - u1),.slice a1 n1 c1,.bool m1,.slice d1 e1 f1,.slice a2 n2 c2,.bool m2,.slice d2 e2 f2],179),(b1,#[.slice none 0 0,.bool false,.slice none 0 0],42)] [] [(fun V=>Rd V (.slice a1 n1 c1) m1 (.slice d1 e1 f1) (q1)),(fun V=>Rd V (.slice a2 n2 c2) m2 (.slice d2 e2 f2) (q2))]):=ζ (by rw [←hb1,←hb0];exact hc)
 rw [hb1,hb0]
 clear hc hC hb0 hb1
 refine wp_region_held_drew (S:=(fun w'=>w'.cell? ⟨b0,0,none⟩=some (.int .i64 (u2 - u1))∧w'.cell? ⟨b0,1,none⟩=some (.slice a1 n1 c1)∧w'.cell? ⟨b0,2,none⟩=some (.bool m1)∧w'.cell? ⟨b0,3,none⟩=some (.slice d1 e1 f1)∧w'.cell? ⟨b0,4,none⟩=some (.slice a2 n2 c2)∧w'.cell? ⟨b0,5,none⟩=some (.bool m2)∧w'.cell? ⟨b0,6,none⟩=some (.slice d2 e2 f2)∧w'.cell? ⟨bz,0,none⟩=some (.int .i64 z)∧True)) (by kernel_rfl) ⟨hC1.out.drew.cell 0 0 rfl rfl,hC1.out.drew.cell 0 1 rfl rfl,hC1.out.drew.cell 0 2 rfl rfl,hC1.out.drew.cell 0 3 rfl rfl,hC1.out.drew.cell 0 4 rfl rfl,hC1.out.drew.cell 0 5 rfl rfl,hC1.out.drew.cell 0 6 rfl rfl,(HBZ.out _ hC1.out.drew.be),trivial⟩ (fun hH=>?_)
 refine wpAnyH_geny (show Sy w _ [(b0,#[.int .i64 (u2 - u1),.slice a1 n1 c1,.bool m1,.slice d1 e1 f1,.slice a2 n2 c2,.bool m2,.slice d2 e2 f2],179),(b1,#[.slice none 0 0,.bool false,.slice none 0 0],42)] [] [(fun V=>Rd V (.slice a1 n1 c1) m1 (.slice d1 e1 f1) (q1)),(fun V=>Rd V (.slice a2 n2 c2) m2 (.slice d2 e2 f2) (q2))]from hC1.out.drew) hH ?_
 intro VA_0 hc hHA_0
 have hVA_0:=ζ hc
 clear hc hH hC1
 refine tkA 0 rfl hHA_0 ?_
 try simp only [Act.put,zI,z0,zS]
 refine tkA 1 rfl hHA_0 ?_
 try simp only [Act.put,zI,z0,zS]
 refine tkA 2 rfl hHA_0 ?_
 try simp only [Act.put,zI,z0,zS]
 refine tkA 3 rfl hHA_0 ?_
 try simp only [Act.put,zI,z0,zS]
 refine tkA 4 rfl hHA_0 ?_
 try simp only [Act.put,zI,z0,zS]
 refine tkA 7 rfl hHA_0 ?_
 try simp only [Act.put,zI,z0,zS]
 refine tkA 8 rfl hHA_0 ?_
 try simp only [Act.put,zI,z0,zS]
 refine tkA 9 rfl hHA_0 ?_
 try simp only [Act.put,zI,z0,zS]
 refine rdy1 5 rfl (fun Kq hKq=>?_)
 go_simp
 go_at_call 134
 refine(hof_any _ _ HZI.out.i64).mono ?_
 rintro e wT ⟨a3,n3,c3,m3,d3,e3,f3,rfl,hz,hb⟩
 (try go_wp2_with fail)
 refine stepZ hKq (show Sy w _ [(b0,#[.int .i64 (u2 - u1),.slice a1 n1 c1,.bool m1,.slice d1 e1 f1,.slice a2 n2 c2,.bool m2,.slice d2 e2 f2],179),(b1,#[.slice none 0 0,.bool false,.slice none 0 0],42)] [] [(fun V=>Rd V (.slice a1 n1 c1) m1 (.slice d1 e1 f1) (q1)),(fun V=>Rd V (.slice a2 n2 c2) m2 (.slice d2 e2 f2) (q2)),(fun V=>Rd V (.slice a3 n3 c3) m3 (.slice d3 e3 f3) (z))]from((hVA_0.out.call hb).pR rfl rfl hz)) (fun _ hX=>⟨hX.cell 0 0 rfl rfl,hX.cell 0 1 rfl rfl,hX.cell 0 2 rfl rfl,hX.cell 0 3 rfl rfl,hX.cell 0 4 rfl rfl,hX.cell 0 5 rfl rfl,hX.cell 0 6 rfl rfl,(HBZ.out _ hX.be),trivial⟩) ?_
 intro VA_1 hVA_1 hHA_1
 clear hKq Kq hVA_0 hb hz hHA_0
 try simp only [Act.put,zI,z0,zS]
 refine rdy1 6 rfl (fun Kq hKq=>?_)
 go_simp
 go_at_call 44
 refine(rsub_b (hVA_1.out.r 0 rfl) (hVA_1.out.r 2 rfl) B1.out (int_bq HZI.out) (by omega) (by omega)).mono ?_
 rintro e wT ⟨a4,n4,c4,m4,d4,e4,f4,rfl,hz,hb⟩
 (try go_wp2_with fail)
 refine stepZ hKq (show Sy w _ [(b0,#[.int .i64 (u2 - u1),.slice a1 n1 c1,.bool m1,.slice d1 e1 f1,.slice a2 n2 c2,.bool m2,.slice d2 e2 f2],179),(b1,#[.slice none 0 0,.bool false,.slice none 0 0],42)] [] [(fun V=>Rd V (.slice a1 n1 c1) m1 (.slice d1 e1 f1) (q1)),(fun V=>Rd V (.slice a2 n2 c2) m2 (.slice d2 e2 f2) (q2)),(fun V=>Rd V (.slice a3 n3 c3) m3 (.slice d3 e3 f3) (z)),(fun V=>Rd V (.slice a4 n4 c4) m4 (.slice d4 e4 f4) (q1 - (z:Rat)))]from((hVA_1.out.call hb).pR rfl rfl hz)) (fun _ hX=>⟨hX.cell 0 0 rfl rfl,hX.cell 0 1 rfl rfl,hX.cell 0 2 rfl rfl,hX.cell 0 3 rfl rfl,hX.cell 0 4 rfl rfl,hX.cell 0 5 rfl rfl,hX.cell 0 6 rfl rfl,(HBZ.out _ hX.be),trivial⟩) ?_
 intro VA_2 hVA_2 hHA_2
 clear hKq Kq hVA_1 hb hz hHA_1
 try simp only [Act.put,zI,z0,zS]
 refine rdy1 10 rfl (fun Kq hKq=>?_)
 go_simp
 go_at_call 134
 refine(hof_any _ _ HZI.out.i64).mono ?_
 rintro e wT ⟨a5,n5,c5,m5,d5,e5,f5,rfl,hz,hb⟩
 (try go_wp2_with fail)
 refine stepZ hKq (show Sy w _ [(b0,#[.int .i64 (u2 - u1),.slice a1 n1 c1,.bool m1,.slice d1 e1 f1,.slice a2 n2 c2,.bool m2,.slice d2 e2 f2],179),(b1,#[.slice none 0 0,.bool false,.slice none 0 0],42)] [] [(fun V=>Rd V (.slice a1 n1 c1) m1 (.slice d1 e1 f1) (q1)),(fun V=>Rd V (.slice a2 n2 c2) m2 (.slice d2 e2 f2) (q2)),(fun V=>Rd V (.slice a3 n3 c3) m3 (.slice d3 e3 f3) (z)),(fun V=>Rd V (.slice a4 n4 c4) m4 (.slice d4 e4 f4) (q1 - (z:Rat))),(fun V=>Rd V (.slice a5 n5 c5) m5 (.slice d5 e5 f5) (z))]from((hVA_2.out.call hb).pR rfl rfl hz)) (fun _ hX=>⟨hX.cell 0 0 rfl rfl,hX.cell 0 1 rfl rfl,hX.cell 0 2 rfl rfl,hX.cell 0 3 rfl rfl,hX.cell 0 4 rfl rfl,hX.cell 0 5 rfl rfl,hX.cell 0 6 rfl rfl,(HBZ.out _ hX.be),trivial⟩) ?_
 intro VA_3 hVA_3 hHA_3
 clear hKq Kq hVA_2 hb hz hHA_2
 try simp only [Act.put,zI,z0,zS]
 refine rdy1 11 rfl (fun Kq hKq=>?_)
 go_simp
 go_at_call 44
 refine(rsub_b (hVA_3.out.r 1 rfl) (hVA_3.out.r 4 rfl) B2.out (int_bq HZI.out) (by omega) (by omega)).mono ?_
 rintro e wT ⟨a6,n6,c6,m6,d6,e6,f6,rfl,hz,hb⟩
 (try go_wp2_with fail)
 refine stepZ hKq (show Sy w _ [(b0,#[.int .i64 (u2 - u1),.slice a1 n1 c1,.bool m1,.slice d1 e1 f1,.slice a2 n2 c2,.bool m2,.slice d2 e2 f2],179),(b1,#[.slice none 0 0,.bool false,.slice none 0 0],42)] [] [(fun V=>Rd V (.slice a1 n1 c1) m1 (.slice d1 e1 f1) (q1)),(fun V=>Rd V (.slice a2 n2 c2) m2 (.slice d2 e2 f2) (q2)),(fun V=>Rd V (.slice a3 n3 c3) m3 (.slice d3 e3 f3) (z)),(fun V=>Rd V (.slice a4 n4 c4) m4 (.slice d4 e4 f4) (q1 - (z:Rat))),(fun V=>Rd V (.slice a5 n5 c5) m5 (.slice d5 e5 f5) (z)),(fun V=>Rd V (.slice a6 n6 c6) m6 (.slice d6 e6 f6) (q2 - (z:Rat)))]from((hVA_3.out.call hb).pR rfl rfl hz)) (fun _ hX=>⟨hX.cell 0 0 rfl rfl,hX.cell 0 1 rfl rfl,hX.cell 0 2 rfl rfl,hX.cell 0 3 rfl rfl,hX.cell 0 4 rfl rfl,hX.cell 0 5 rfl rfl,hX.cell 0 6 rfl rfl,(HBZ.out _ hX.be),trivial⟩) ?_
 intro VA_4 hVA_4 hHA_4
 clear hKq Kq hVA_3 hb hz hHA_3
 try simp only [Act.put,zI,z0,zS]
 refine rdy1 12 rfl (fun Kq hKq=>?_)
 go_simp
 go_at_call 133
 refine(positive_any _ (u2 - u1) _ _ _ _ _ _ _ _ _ _ _ _ _ _ _ _ (hVA_4.out.r 3 rfl) (hVA_4.out.r 5 rfl) HI.out C1.out C2.out).mono ?_
 rintro e wT ⟨a7,n7,c7,m7,d7,e7,f7,rfl,hz,hb⟩
 (try go_wp2_with fail)
 refine stepZ hKq (show Sy w _ [(b0,#[.int .i64 (u2 - u1),.slice a1 n1 c1,.bool m1,.slice d1 e1 f1,.slice a2 n2 c2,.bool m2,.slice d2 e2 f2],179),(b1,#[.slice none 0 0,.bool false,.slice none 0 0],42)] [] [(fun V=>Rd V (.slice a1 n1 c1) m1 (.slice d1 e1 f1) (q1)),(fun V=>Rd V (.slice a2 n2 c2) m2 (.slice d2 e2 f2) (q2)),(fun V=>Rd V (.slice a3 n3 c3) m3 (.slice d3 e3 f3) (z)),(fun V=>Rd V (.slice a4 n4 c4) m4 (.slice d4 e4 f4) (q1 - (z:Rat))),(fun V=>Rd V (.slice a5 n5 c5) m5 (.slice d5 e5 f5) (z)),(fun V=>Rd V (.slice a6 n6 c6) m6 (.slice d6 e6 f6) (q2 - (z:Rat))),(fun V=>Rd V (.slice a7 n7 c7) m7 (.slice d7 e7 f7) (posQ ((u2 - u1:Int):Rat) (q1 - (z:Rat)) (q2 - (z:Rat))))]from((hVA_4.out.call hb).pR rfl rfl hz)) (fun _ hX=>⟨hX.cell 0 0 rfl rfl,hX.cell 0 1 rfl rfl,hX.cell 0 2 rfl rfl,hX.cell 0 3 rfl rfl,hX.cell 0 4 rfl rfl,hX.cell 0 5 rfl rfl,hX.cell 0 6 rfl rfl,(HBZ.out _ hX.be),trivial⟩) ?_
 intro VA_5 hVA_5 hHA_5
 clear hKq Kq hVA_4 hb hz hHA_4
 try simp only [Act.put,zI,z0,zS]
 refine rdy1 13 rfl (fun Kq hKq=>?_)
 have cQ0:=hVA_5.out.cell 1 0 rfl rfl
 have fQ0:=hVA_5.out.free 1 0 rfl
 have cQ1:=hVA_5.out.cell 1 1 rfl rfl
 have fQ1:=hVA_5.out.free 1 1 rfl
 have cQ2:=hVA_5.out.cell 1 2 rfl rfl
 have fQ2:=hVA_5.out.free 1 2 rfl
 go_simp
 refine stepZ hKq (show Sy w _ [(b0,#[.int .i64 (u2 - u1),.slice a1 n1 c1,.bool m1,.slice d1 e1 f1,.slice a2 n2 c2,.bool m2,.slice d2 e2 f2],179),(b1,#[.slice a7 n7 c7,.bool m7,.slice d7 e7 f7],42)] [] [(fun V=>Rd V (.slice a1 n1 c1) m1 (.slice d1 e1 f1) (q1)),(fun V=>Rd V (.slice a2 n2 c2) m2 (.slice d2 e2 f2) (q2)),(fun V=>Rd V (.slice a3 n3 c3) m3 (.slice d3 e3 f3) (z)),(fun V=>Rd V (.slice a4 n4 c4) m4 (.slice d4 e4 f4) (q1 - (z:Rat))),(fun V=>Rd V (.slice a5 n5 c5) m5 (.slice d5 e5 f5) (z)),(fun V=>Rd V (.slice a6 n6 c6) m6 (.slice d6 e6 f6) (q2 - (z:Rat))),(fun V=>Rd V (.slice a7 n7 c7) m7 (.slice d7 e7 f7) (posQ ((u2 - u1:Int):Rat) (q1 - (z:Rat)) (q2 - (z:Rat))))]from(hVA_5.out|>.set (j:=0) (v:= .slice a7 n7 c7) 1 rfl|>.set (j:=1) (v:= .bool m7) 1 rfl|>.set (j:=2) (v:= .slice d7 e7 f7) 1 rfl)) (fun _ hX=>⟨hX.cell 0 0 rfl rfl,hX.cell 0 1 rfl rfl,hX.cell 0 2 rfl rfl,hX.cell 0 3 rfl rfl,hX.cell 0 4 rfl rfl,hX.cell 0 5 rfl rfl,hX.cell 0 6 rfl rfl,(HBZ.out _ hX.be),trivial⟩) ?_
 intro VA_6 hVA_6 hHA_6
 clear hKq Kq hVA_5 cQ0 fQ0 cQ1 fQ1 cQ2 fQ2 hHA_5
 try simp only [Act.put]
 refine wpAnyH_done (by kernel_rfl) ?_ _
 go_wp2
 refine ret_sy hVA_6.out (v:= .agg #[.slice a7 n7 c7,.bool m7,.slice d7 e7 f7]) (fun hF=>?_) rfl (fun hF=>⟨_,_,_,_,_,_,_,rfl,hF.r 6 rfl,hF.be⟩)
 have g0:=hF.cell 1 0 rfl rfl
 have g1:=hF.cell 1 1 rfl rfl
 have g2:=hF.cell 1 2 rfl rfl
 simp [results,Tryz.results132,go_sem,g0,g1,g2]
theorem eg_above1:EG 132:=enters_of Tryz.func132 (by kernel_rfl) rfl
theorem above_any (sa:Option Addr) (sn sc:Nat) (l:List Pt) (a b z:Int) (hT:Strt l a b) (hz:InZ z) (hs:Sx 2 w sa sn sc (L2 l)):
  Calls Tryz.prog 70 #[.agg #[.slice sa sn sc,.int .i64 a,.int .i64 b],.int .i64 z] w (RetR w (above l a b z)):=by
 have hC:=ζ ((((Sy.enter w).al w.heap.size #[.slice sa sn sc,.int .i64 a,.int .i64 b] 120 rfl).al (w.heap.size+1) #[.int .i64 z] 3 (by simp)).al (w.heap.size+1+1) #[.slice none 0 0,.bool false,.slice none 0 0] 42 (by simp))
 have HS:=ζ hs
 have HT:=ζ hT
 have HZ:=ζ hz
 show Calls _ _ _ _ (RetR w (smQ ((pcs l a b).map (pieceA l z))))
 clear hs hT hz
 go_enter Tryz.func70,Tryz.ntmps70
 have k0:=hC.out.cell 0 0 rfl rfl
 have k1:=hC.out.cell 0 1 rfl rfl
 have k2:=hC.out.cell 0 2 rfl rfl
 go_wp2_with fail
 refine(callsIn_wide.1 (hsum_in _ 4 (Nat.le_refl _) sa sn sc l a b HT.out (HS.out.below hC.out.be) 132 #[.pointer (some ⟨w.heap.size+1,0,none⟩)] eg_above1 (pieceA l z) 174 (fun t h1 h2 h3=>pieceA_bq HT.out HZ.out t h1 h2 h3) (by omega)
  (fun W x hW hx=>above1_any W x (w.heap.size+1) z l a b HT.out HZ.out hx ((hW.cell (p:=⟨w.heap.size+1,0,none⟩) (hC.out.lt 1 rfl)).trans (hC.out.cell 1 0 rfl rfl)) (Nat.lt_of_lt_of_le (hC.out.lt 1 rfl) hW.size)))).mono ?_
 rintro e w3 ⟨a3,n3,c3,m3,d3,e3,f3,rfl,hr,hb⟩
 have hD:=ζ ((hC.out.call hb).pR rfl rfl hr)
 clear hb hr hC k0 k1 k2
 have x2_0:=hD.out.cell 2 0 rfl rfl
 have xf2_0:=hD.out.free 2 0 rfl
 have x2_1:=hD.out.cell 2 1 rfl rfl
 have xf2_1:=hD.out.free 2 1 rfl
 have x2_2:=hD.out.cell 2 2 rfl rfl
 have xf2_2:=hD.out.free 2 2 rfl
 go_wp2
 have hE:=ζ (hD.out|>.set (j:=0) (v:= .slice a3 n3 c3) 2 rfl|>.set (j:=1) (v:= .bool m3) 2 rfl|>.set (j:=2) (v:= .slice d3 e3 f3) 2 rfl)
 clear hD
 refine ret_sy hE.out (v:= .agg #[.slice a3 n3 c3,.bool m3,.slice d3 e3 f3]) (fun hF=>?_) rfl (fun hF=>⟨_,_,_,_,_,_,_,rfl,hF.r 0 rfl,hF.be⟩)
 have g0:=hF.cell 2 0 rfl rfl
 have g1:=hF.cell 2 1 rfl rfl
 have g2:=hF.cell 2 2 rfl rfl
 simp [results,Tryz.results70,go_sem,g0,g1,g2]
theorem below1_any (x:Pcv) (bz:Nat) (z:Int) (l:List Pt) (a b:Int) (hT:Strt l a b) (hz:InZ z) (hE:EP l a b x w) (hb:w.cell? ⟨bz,0,none⟩=some (.int .i64 z)) (hl:bz < w.heap.size):
  Calls Tryz.prog 142 #[encP x,.pointer (some ⟨bz,0,none⟩)] w (RetR w (pieceB l z x.t)):=by
 obtain ⟨⟨u1,u2⟩,a1,n1,c1,m1,d1,e1,f1,a2,n2,c2,m2,d2,e2,f2⟩:=x
 obtain ⟨e1',e2',h1,h2,h3⟩:=hE
 dsimp only at e1' e2' h1 h2 h3
 obtain ⟨G1,G2,hI⟩:=hT.piece_gd (t:=(u1,u2)) h1 h2 h3
 dsimp only at G1 G2 hI
 have HI:=ζ hI
 have HZI:=ζ hz.i
 have B1:=ζ (show Bq 36 (grd l u1)from G1.bq)
 have B2:=ζ (show Bq 36 (grd l u2)from G2.bq)
 have C1:=ζ (show Bq 38 ((z:Rat) - grd l u1)from by have h:=hz;unfold InZ at h;exact G1.sub' (by omega) (by omega))
 have C2:=ζ (show Bq 38 ((z:Rat) - grd l u2)from by have h:=hz;unfold InZ at h;exact G2.sub' (by omega) (by omega))
 have HP:=ζ (show pieceB l z (u1,u2)=posQ ((u2 - u1:Int):Rat) ((z:Rat) - grd l u1) ((z:Rat) - grd l u2)from rfl)
 show Calls _ _ _ _ (RetR w (pieceB l z (u1,u2)))
 rw [HP.out]
 generalize grd l u1=q1 at*
 generalize grd l u2=q2 at*
 have HBZ:=ζ (fun W (h:Below w.heap.size w W)=>(h.cell (p:=⟨bz,0,none⟩) hl).trans hb)
 have hC:=ζ (((Sy.enter w).pR rfl rfl e1').pR rfl rfl e2'|>.al w.heap.size #[.int .i64 (u2 - u1),.slice a1 n1 c1,.bool m1,.slice d1 e1 f1,.slice a2 n2 c2,.bool m2,.slice d2 e2 f2] 179 rfl|>.al (w.heap.size+1) #[.slice none 0 0,.bool false,.slice none 0 0] 42 (by simp))
 clear e1' e2' G1 G2 hI hT hz hb hl HP h1 h2 h3
 go_enter Tryz.func142,Tryz.ntmps142
 go_upto_region 1 with fail
 refine wp_geny hC.out ?_
 intro V1 hc
 obtain ⟨b0,hb0⟩:∃b0,w.heap.size=b0:=⟨_,rfl⟩
 obtain ⟨b1,hb1⟩:∃b1,w.heap.size+1=b1:=⟨_,rfl⟩
 have hC1:Hid (Sy w V1 [(b0,#[.int .i64 (u2 - u1),.slice a1 n1 c1,.bool m1,.slice d1 e1 f1,.slice a2 n2 c2,.bool m2,.slice d2 e2 f2],179),(b1,#[.slice none 0 0,.bool false,.slice none 0 0],42)] [] [(fun V=>Rd V (.slice a1 n1 c1) m1 (.slice d1 e1 f1) (q1)),(fun V=>Rd V (.slice a2 n2 c2) m2 (.slice d2 e2 f2) (q2))]):=ζ (by rw [←hb1,←hb0];exact hc)
 rw [hb1,hb0]
 clear hc hC hb0 hb1
 refine wp_region_held_drew (S:=(fun w'=>w'.cell? ⟨b0,0,none⟩=some (.int .i64 (u2 - u1))∧w'.cell? ⟨b0,1,none⟩=some (.slice a1 n1 c1)∧w'.cell? ⟨b0,2,none⟩=some (.bool m1)∧w'.cell? ⟨b0,3,none⟩=some (.slice d1 e1 f1)∧w'.cell? ⟨b0,4,none⟩=some (.slice a2 n2 c2)∧w'.cell? ⟨b0,5,none⟩=some (.bool m2)∧w'.cell? ⟨b0,6,none⟩=some (.slice d2 e2 f2)∧w'.cell? ⟨bz,0,none⟩=some (.int .i64 z)∧True)) (by kernel_rfl) ⟨hC1.out.drew.cell 0 0 rfl rfl,hC1.out.drew.cell 0 1 rfl rfl,hC1.out.drew.cell 0 2 rfl rfl,hC1.out.drew.cell 0 3 rfl rfl,hC1.out.drew.cell 0 4 rfl rfl,hC1.out.drew.cell 0 5 rfl rfl,hC1.out.drew.cell 0 6 rfl rfl,(HBZ.out _ hC1.out.drew.be),trivial⟩ (fun hH=>?_)
 refine wpAnyH_geny (show Sy w _ [(b0,#[.int .i64 (u2 - u1),.slice a1 n1 c1,.bool m1,.slice d1 e1 f1,.slice a2 n2 c2,.bool m2,.slice d2 e2 f2],179),(b1,#[.slice none 0 0,.bool false,.slice none 0 0],42)] [] [(fun V=>Rd V (.slice a1 n1 c1) m1 (.slice d1 e1 f1) (q1)),(fun V=>Rd V (.slice a2 n2 c2) m2 (.slice d2 e2 f2) (q2))]from hC1.out.drew) hH ?_
 intro VA_0 hc hHA_0
 have hVA_0:=ζ hc
 clear hc hH hC1
 refine tkA 0 rfl hHA_0 ?_
 try simp only [Act.put,zI,z0,zS]
 refine tkA 1 rfl hHA_0 ?_
 try simp only [Act.put,zI,z0,zS]
 refine tkA 2 rfl hHA_0 ?_
 try simp only [Act.put,zI,z0,zS]
 refine tkA 4 rfl hHA_0 ?_
 try simp only [Act.put,zI,z0,zS]
 refine tkA 5 rfl hHA_0 ?_
 try simp only [Act.put,zI,z0,zS]
 refine tkA 7 rfl hHA_0 ?_
 try simp only [Act.put,zI,z0,zS]
 refine tkA 9 rfl hHA_0 ?_
 try simp only [Act.put,zI,z0,zS]
 refine tkA 10 rfl hHA_0 ?_
 try simp only [Act.put,zI,z0,zS]
 refine rdy1 3 rfl (fun Kq hKq=>?_)
 go_simp
 go_at_call 134
 refine(hof_any _ _ HZI.out.i64).mono ?_
 rintro e wT ⟨a3,n3,c3,m3,d3,e3,f3,rfl,hz,hb⟩
 (try go_wp2_with fail)
 refine stepZ hKq (show Sy w _ [(b0,#[.int .i64 (u2 - u1),.slice a1 n1 c1,.bool m1,.slice d1 e1 f1,.slice a2 n2 c2,.bool m2,.slice d2 e2 f2],179),(b1,#[.slice none 0 0,.bool false,.slice none 0 0],42)] [] [(fun V=>Rd V (.slice a1 n1 c1) m1 (.slice d1 e1 f1) (q1)),(fun V=>Rd V (.slice a2 n2 c2) m2 (.slice d2 e2 f2) (q2)),(fun V=>Rd V (.slice a3 n3 c3) m3 (.slice d3 e3 f3) (z))]from((hVA_0.out.call hb).pR rfl rfl hz)) (fun _ hX=>⟨hX.cell 0 0 rfl rfl,hX.cell 0 1 rfl rfl,hX.cell 0 2 rfl rfl,hX.cell 0 3 rfl rfl,hX.cell 0 4 rfl rfl,hX.cell 0 5 rfl rfl,hX.cell 0 6 rfl rfl,(HBZ.out _ hX.be),trivial⟩) ?_
 intro VA_1 hVA_1 hHA_1
 clear hKq Kq hVA_0 hb hz hHA_0
 try simp only [Act.put,zI,z0,zS]
 refine rdy1 6 rfl (fun Kq hKq=>?_)
 go_simp
 go_at_call 44
 refine(rsub_b (hVA_1.out.r 2 rfl) (hVA_1.out.r 0 rfl) (int_bq HZI.out) B1.out (by omega) (by omega)).mono ?_
 rintro e wT ⟨a4,n4,c4,m4,d4,e4,f4,rfl,hz,hb⟩
 (try go_wp2_with fail)
 refine stepZ hKq (show Sy w _ [(b0,#[.int .i64 (u2 - u1),.slice a1 n1 c1,.bool m1,.slice d1 e1 f1,.slice a2 n2 c2,.bool m2,.slice d2 e2 f2],179),(b1,#[.slice none 0 0,.bool false,.slice none 0 0],42)] [] [(fun V=>Rd V (.slice a1 n1 c1) m1 (.slice d1 e1 f1) (q1)),(fun V=>Rd V (.slice a2 n2 c2) m2 (.slice d2 e2 f2) (q2)),(fun V=>Rd V (.slice a3 n3 c3) m3 (.slice d3 e3 f3) (z)),(fun V=>Rd V (.slice a4 n4 c4) m4 (.slice d4 e4 f4) ((z:Rat) - q1))]from((hVA_1.out.call hb).pR rfl rfl hz)) (fun _ hX=>⟨hX.cell 0 0 rfl rfl,hX.cell 0 1 rfl rfl,hX.cell 0 2 rfl rfl,hX.cell 0 3 rfl rfl,hX.cell 0 4 rfl rfl,hX.cell 0 5 rfl rfl,hX.cell 0 6 rfl rfl,(HBZ.out _ hX.be),trivial⟩) ?_
 intro VA_2 hVA_2 hHA_2
 clear hKq Kq hVA_1 hb hz hHA_1
 try simp only [Act.put,zI,z0,zS]
 refine rdy1 8 rfl (fun Kq hKq=>?_)
 go_simp
 go_at_call 134
 refine(hof_any _ _ HZI.out.i64).mono ?_
 rintro e wT ⟨a5,n5,c5,m5,d5,e5,f5,rfl,hz,hb⟩
 (try go_wp2_with fail)
 refine stepZ hKq (show Sy w _ [(b0,#[.int .i64 (u2 - u1),.slice a1 n1 c1,.bool m1,.slice d1 e1 f1,.slice a2 n2 c2,.bool m2,.slice d2 e2 f2],179),(b1,#[.slice none 0 0,.bool false,.slice none 0 0],42)] [] [(fun V=>Rd V (.slice a1 n1 c1) m1 (.slice d1 e1 f1) (q1)),(fun V=>Rd V (.slice a2 n2 c2) m2 (.slice d2 e2 f2) (q2)),(fun V=>Rd V (.slice a3 n3 c3) m3 (.slice d3 e3 f3) (z)),(fun V=>Rd V (.slice a4 n4 c4) m4 (.slice d4 e4 f4) ((z:Rat) - q1)),(fun V=>Rd V (.slice a5 n5 c5) m5 (.slice d5 e5 f5) (z))]from((hVA_2.out.call hb).pR rfl rfl hz)) (fun _ hX=>⟨hX.cell 0 0 rfl rfl,hX.cell 0 1 rfl rfl,hX.cell 0 2 rfl rfl,hX.cell 0 3 rfl rfl,hX.cell 0 4 rfl rfl,hX.cell 0 5 rfl rfl,hX.cell 0 6 rfl rfl,(HBZ.out _ hX.be),trivial⟩) ?_
 intro VA_3 hVA_3 hHA_3
 clear hKq Kq hVA_2 hb hz hHA_2
 try simp only [Act.put,zI,z0,zS]
 refine rdy1 11 rfl (fun Kq hKq=>?_)
 go_simp
 go_at_call 44
 refine(rsub_b (hVA_3.out.r 4 rfl) (hVA_3.out.r 1 rfl) (int_bq HZI.out) B2.out (by omega) (by omega)).mono ?_
 rintro e wT ⟨a6,n6,c6,m6,d6,e6,f6,rfl,hz,hb⟩
 (try go_wp2_with fail)
 refine stepZ hKq (show Sy w _ [(b0,#[.int .i64 (u2 - u1),.slice a1 n1 c1,.bool m1,.slice d1 e1 f1,.slice a2 n2 c2,.bool m2,.slice d2 e2 f2],179),(b1,#[.slice none 0 0,.bool false,.slice none 0 0],42)] [] [(fun V=>Rd V (.slice a1 n1 c1) m1 (.slice d1 e1 f1) (q1)),(fun V=>Rd V (.slice a2 n2 c2) m2 (.slice d2 e2 f2) (q2)),(fun V=>Rd V (.slice a3 n3 c3) m3 (.slice d3 e3 f3) (z)),(fun V=>Rd V (.slice a4 n4 c4) m4 (.slice d4 e4 f4) ((z:Rat) - q1)),(fun V=>Rd V (.slice a5 n5 c5) m5 (.slice d5 e5 f5) (z)),(fun V=>Rd V (.slice a6 n6 c6) m6 (.slice d6 e6 f6) ((z:Rat) - q2))]from((hVA_3.out.call hb).pR rfl rfl hz)) (fun _ hX=>⟨hX.cell 0 0 rfl rfl,hX.cell 0 1 rfl rfl,hX.cell 0 2 rfl rfl,hX.cell 0 3 rfl rfl,hX.cell 0 4 rfl rfl,hX.cell 0 5 rfl rfl,hX.cell 0 6 rfl rfl,(HBZ.out _ hX.be),trivial⟩) ?_
 intro VA_4 hVA_4 hHA_4
 clear hKq Kq hVA_3 hb hz hHA_3
 try simp only [Act.put,zI,z0,zS]
 refine rdy1 12 rfl (fun Kq hKq=>?_)
 go_simp
 go_at_call 133
 refine(positive_any _ (u2 - u1) _ _ _ _ _ _ _ _ _ _ _ _ _ _ _ _ (hVA_4.out.r 3 rfl) (hVA_4.out.r 5 rfl) HI.out C1.out C2.out).mono ?_
 rintro e wT ⟨a7,n7,c7,m7,d7,e7,f7,rfl,hz,hb⟩
 (try go_wp2_with fail)
 refine stepZ hKq (show Sy w _ [(b0,#[.int .i64 (u2 - u1),.slice a1 n1 c1,.bool m1,.slice d1 e1 f1,.slice a2 n2 c2,.bool m2,.slice d2 e2 f2],179),(b1,#[.slice none 0 0,.bool false,.slice none 0 0],42)] [] [(fun V=>Rd V (.slice a1 n1 c1) m1 (.slice d1 e1 f1) (q1)),(fun V=>Rd V (.slice a2 n2 c2) m2 (.slice d2 e2 f2) (q2)),(fun V=>Rd V (.slice a3 n3 c3) m3 (.slice d3 e3 f3) (z)),(fun V=>Rd V (.slice a4 n4 c4) m4 (.slice d4 e4 f4) ((z:Rat) - q1)),(fun V=>Rd V (.slice a5 n5 c5) m5 (.slice d5 e5 f5) (z)),(fun V=>Rd V (.slice a6 n6 c6) m6 (.slice d6 e6 f6) ((z:Rat) - q2)),(fun V=>Rd V (.slice a7 n7 c7) m7 (.slice d7 e7 f7) (posQ ((u2 - u1:Int):Rat) ((z:Rat) - q1) ((z:Rat) - q2)))]from((hVA_4.out.call hb).pR rfl rfl hz)) (fun _ hX=>⟨hX.cell 0 0 rfl rfl,hX.cell 0 1 rfl rfl,hX.cell 0 2 rfl rfl,hX.cell 0 3 rfl rfl,hX.cell 0 4 rfl rfl,hX.cell 0 5 rfl rfl,hX.cell 0 6 rfl rfl,(HBZ.out _ hX.be),trivial⟩) ?_
 intro VA_5 hVA_5 hHA_5
 clear hKq Kq hVA_4 hb hz hHA_4
 try simp only [Act.put,zI,z0,zS]
 refine rdy1 13 rfl (fun Kq hKq=>?_)
 have cQ0:=hVA_5.out.cell 1 0 rfl rfl
 have fQ0:=hVA_5.out.free 1 0 rfl
 have cQ1:=hVA_5.out.cell 1 1 rfl rfl
 have fQ1:=hVA_5.out.free 1 1 rfl
 have cQ2:=hVA_5.out.cell 1 2 rfl rfl
 have fQ2:=hVA_5.out.free 1 2 rfl
 go_simp
 refine stepZ hKq (show Sy w _ [(b0,#[.int .i64 (u2 - u1),.slice a1 n1 c1,.bool m1,.slice d1 e1 f1,.slice a2 n2 c2,.bool m2,.slice d2 e2 f2],179),(b1,#[.slice a7 n7 c7,.bool m7,.slice d7 e7 f7],42)] [] [(fun V=>Rd V (.slice a1 n1 c1) m1 (.slice d1 e1 f1) (q1)),(fun V=>Rd V (.slice a2 n2 c2) m2 (.slice d2 e2 f2) (q2)),(fun V=>Rd V (.slice a3 n3 c3) m3 (.slice d3 e3 f3) (z)),(fun V=>Rd V (.slice a4 n4 c4) m4 (.slice d4 e4 f4) ((z:Rat) - q1)),(fun V=>Rd V (.slice a5 n5 c5) m5 (.slice d5 e5 f5) (z)),(fun V=>Rd V (.slice a6 n6 c6) m6 (.slice d6 e6 f6) ((z:Rat) - q2)),(fun V=>Rd V (.slice a7 n7 c7) m7 (.slice d7 e7 f7) (posQ ((u2 - u1:Int):Rat) ((z:Rat) - q1) ((z:Rat) - q2)))]from(hVA_5.out|>.set (j:=0) (v:= .slice a7 n7 c7) 1 rfl|>.set (j:=1) (v:= .bool m7) 1 rfl|>.set (j:=2) (v:= .slice d7 e7 f7) 1 rfl)) (fun _ hX=>⟨hX.cell 0 0 rfl rfl,hX.cell 0 1 rfl rfl,hX.cell 0 2 rfl rfl,hX.cell 0 3 rfl rfl,hX.cell 0 4 rfl rfl,hX.cell 0 5 rfl rfl,hX.cell 0 6 rfl rfl,(HBZ.out _ hX.be),trivial⟩) ?_
 intro VA_6 hVA_6 hHA_6
 clear hKq Kq hVA_5 cQ0 fQ0 cQ1 fQ1 cQ2 fQ2 hHA_5
 try simp only [Act.put]
 refine wpAnyH_done (by kernel_rfl) ?_ _
 go_wp2
 refine ret_sy hVA_6.out (v:= .agg #[.slice a7 n7 c7,.bool m7,.slice d7 e7 f7]) (fun hF=>?_) rfl (fun hF=>⟨_,_,_,_,_,_,_,rfl,hF.r 6 rfl,hF.be⟩)
 have g0:=hF.cell 1 0 rfl rfl
 have g1:=hF.cell 1 1 rfl rfl
 have g2:=hF.cell 1 2 rfl rfl
 simp [results,Tryz.results142,go_sem,g0,g1,g2]
theorem eg_below1:EG 142:=enters_of Tryz.func142 (by kernel_rfl) rfl
theorem below_any (sa:Option Addr) (sn sc:Nat) (l:List Pt) (a b z:Int) (hT:Strt l a b) (hz:InZ z) (hs:Sx 2 w sa sn sc (L2 l)):
  Calls Tryz.prog 89 #[.agg #[.slice sa sn sc,.int .i64 a,.int .i64 b],.int .i64 z] w (RetR w (below l a b z)):=by
 have hC:=ζ ((((Sy.enter w).al w.heap.size #[.slice sa sn sc,.int .i64 a,.int .i64 b] 120 rfl).al (w.heap.size+1) #[.int .i64 z] 3 (by simp)).al (w.heap.size+1+1) #[.slice none 0 0,.bool false,.slice none 0 0] 42 (by simp))
 have HS:=ζ hs
 have HT:=ζ hT
 have HZ:=ζ hz
 show Calls _ _ _ _ (RetR w (smQ ((pcs l a b).map (pieceB l z))))
 clear hs hT hz
 go_enter Tryz.func89,Tryz.ntmps89
 have k0:=hC.out.cell 0 0 rfl rfl
 have k1:=hC.out.cell 0 1 rfl rfl
 have k2:=hC.out.cell 0 2 rfl rfl
 go_wp2_with fail
 refine(callsIn_wide.1 (hsum_in _ 4 (Nat.le_refl _) sa sn sc l a b HT.out (HS.out.below hC.out.be) 142 #[.pointer (some ⟨w.heap.size+1,0,none⟩)] eg_below1 (pieceB l z) 174 (fun t h1 h2 h3=>pieceB_bq HT.out HZ.out t h1 h2 h3) (by omega)
  (fun W x hW hx=>below1_any W x (w.heap.size+1) z l a b HT.out HZ.out hx ((hW.cell (p:=⟨w.heap.size+1,0,none⟩) (hC.out.lt 1 rfl)).trans (hC.out.cell 1 0 rfl rfl)) (Nat.lt_of_lt_of_le (hC.out.lt 1 rfl) hW.size)))).mono ?_
 rintro e w3 ⟨a3,n3,c3,m3,d3,e3,f3,rfl,hr,hb⟩
 have hD:=ζ ((hC.out.call hb).pR rfl rfl hr)
 clear hb hr hC k0 k1 k2
 have x2_0:=hD.out.cell 2 0 rfl rfl
 have xf2_0:=hD.out.free 2 0 rfl
 have x2_1:=hD.out.cell 2 1 rfl rfl
 have xf2_1:=hD.out.free 2 1 rfl
 have x2_2:=hD.out.cell 2 2 rfl rfl
 have xf2_2:=hD.out.free 2 2 rfl
 go_wp2
 have hE:=ζ (hD.out|>.set (j:=0) (v:= .slice a3 n3 c3) 2 rfl|>.set (j:=1) (v:= .bool m3) 2 rfl|>.set (j:=2) (v:= .slice d3 e3 f3) 2 rfl)
 clear hD
 refine ret_sy hE.out (v:= .agg #[.slice a3 n3 c3,.bool m3,.slice d3 e3 f3]) (fun hF=>?_) rfl (fun hF=>⟨_,_,_,_,_,_,_,rfl,hF.r 0 rfl,hF.be⟩)
 have g0:=hF.cell 2 0 rfl rfl
 have g1:=hF.cell 2 1 rfl rfl
 have g2:=hF.cell 2 2 rfl rfl
 simp [results,Tryz.results89,go_sem,g0,g1,g2]
end
section
section
variable {n:Nat} {P:Program} {ops:Array Oper} {md:Region.Mode}
theorem wpIn_of_wpW {o:Oper} {a:Act} {K:Act→World→Prop} {Q:Exit→Act→World→Prop} {w:World} (_hnd:noDefer o=true) (h:o.wp P a w K Q):o.wpIn Fence.wide n P a w K Q:=by
 refine⟨fun f _=>trivial,?_⟩
 rw [show Oper.semAt Fence.wide.round a.eval o=execOp a.eval o from rfl]
 unfold Oper.wp at h
 generalize (execOp a.eval o).run P w=r at*
 cases r with
 | ok x w'=>
   cases x with
   | value v=>exact h
   | skip=>exact h
   | defer d=>exact h
   | enter f args=>exact⟨fun h0=>(by cases h0),callsIn_wide.2 h⟩
   | row row args=>exact⟨fun h0=>(by cases h0),fun c cs _=>let ⟨v,w',r,s⟩:=h c cs;⟨v,w',r,stepsIn_wide.2 s⟩⟩
   | _=>exact h.elim
 | halt x w'=>
   cases x<;>exact h
theorem wpAnyIn_of_anyW {Q:Exit→Act→World→Prop} (hnd:ops.all noDefer=true) (hlo:¬ LetsOut Q):∀ (fuel:Nat) (listed:Array Bool) (a:Act) (w:World),wpAny P md ops Q fuel listed a w→wpAnyIn Fence.wide n P md ops Q fuel listed a w
 | 0,_,_,_,h=>h
 | fuel+1,listed,a,w,h=>⟨h.1,fun i hi=>by
   have h2:=h.2 i hi
   unfold wpOp at h2
   unfold wpOpIn
   split
   ·rename_i ho
    simp only [ho]at h2
    exact wpAnyIn_of_anyW hnd hlo fuel _ _ _ h2
   ·rename_i o ho
    simp only [ho]at h2
    have hno:noDefer o=true:=(Array.all_eq_true_iff_forall_mem.1 hnd) o (Array.mem_of_getElem? ho)
    split
    ·rename_i hw
     rw [if_pos hw]at h2
     rcases h2 with h2 | ⟨_,h2⟩
     ·exact Oper.wpIn_mono (fun a' w' h3=>wpAnyIn_of_anyW hnd hlo fuel _ a' w' h3) (wpIn_of_wpW hno h2)
     ·exact absurd h2 hlo
    ·rename_i hw
     rw [if_neg hw]at h2
     exact⟨fun _ _=>trivial,wpAnyIn_of_anyW hnd hlo fuel _ _ _ h2⟩⟩
theorem wpIn_region_wide {id:Nat} {R:Act→World→Prop} {S:World→Prop} {a:Act} {w:World} (hnd:ops.all noDefer=true) (hm:P.follows .mixedOrders=true) (hS:S w.drew)
  (h:S w.drew→wpAnyH P .any ops (fun e a' w'=>e= .normal∧R a' w') S ops.size (Array.replicate ops.size false) a w.drew):(Code.region id ops true).wpIn Fence.wide n P (fun e a' w'=>e= .normal∧R a' w') a w:=
 wpIn_region_any hm (wpAnyIn_of_anyW hnd (fun hq=>by obtain ⟨_,_,h1,_⟩:=hq;cases h1) _ _ _ _ (wpAny_of_held _ _ _ _ (h hS)))
end
end
end Go.Proofs.YthmdhlopeponcaaGreatDoor
