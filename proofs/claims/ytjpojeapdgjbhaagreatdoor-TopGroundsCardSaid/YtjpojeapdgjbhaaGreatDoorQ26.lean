/- part -/
import Derived.Test.YtjpojeapdgjbhaaGreatDoorQ22
import Derived.Test.YtjpojeapdgjbhaaGreatDoorQ25
set_option maxRecDepth 100000
set_option maxHeartbeats 8000000
namespace Go.Proofs.YtjpojeapdgjbhaaGreatDoor
open Go.RowKit Go.Shelf Dig
section
variable (w:World)
theorem pbetween_any (a1:OA) (n1 c1:Nat) (l1:List Pt) (a2:OA) (n2 c2:Nat) (l2:List Pt) (h1:Sx 2 w a1 n1 c1 (L2 l1)) (h2:Sx 2 w a2 n2 c2 (L2 l2)) (hn1:0 < n1) (hn2:0 < n2) (F T:Int) (hF:max (hX l1 0) (hX l2 0)=F) (hT:min (hX l1 (l1.length - 1)) (hX l2 (l2.length - 1))=T):
  Calls Tryz.prog 72 #[.slice a1 n1 c1,.slice a2 n2 c2] w (Gives (.tuple #[.agg #[.slice a1 n1 c1,.slice a2 n2 c2,.int .i64 F,.int .i64 T],.bool (decide (F < T))]) w):=by
 have HA:=ζ (fun W (hW:Below w.heap.size w W)=>pleft_any W a1 n1 c1 l1 (h1.below hW) hn1);have HB:=ζ (fun W (hW:Below w.heap.size w W)=>pleft_any W a2 n2 c2 l2 (h2.below hW) hn2);have HC:=ζ (fun W (hW:Below w.heap.size w W)=>pright_any W a1 n1 c1 l1 (h1.below hW) hn1);have HD:=ζ (fun W (hW:Below w.heap.size w W)=>pright_any W a2 n2 c2 l2 (h2.below hW) hn2);have HF:=ζ hF;have HT:=ζ hT;have hC:=ζ ((Sy.enter w).al w.heap.size #[.slice none 0 0,.slice none 0 0,.int .i64 0,.int .i64 0] 156 rfl);clear h1 h2 hn1 hn2 hF hT;generalize hX l1 0=x1 at*;generalize hX l2 0=x2 at*;generalize hX l1 (l1.length - 1)=y1 at*;generalize hX l2 (l2.length - 1)=y2 at*;go_enter Tryz.func72,Tryz.ntmps72;go_upto_region 1 with fail
 obtain ⟨b1,hb1⟩:∃b,w.heap.size=b:=⟨_,rfl⟩
 rw [hb1]at hC⊢;refine wp_geny (show Sy w _ [(b1,#[.slice none 0 0,.slice none 0 0,.int .i64 0,.int .i64 0],156)] [] []from hC.out) ?_;intro V0 hc;have hD:=ζ hc;clear hc hC hb1;go_wp2_with fail
 refine(HA.out _ hD.out.be).mono ?_;rintro e w1 ⟨rfl,hb⟩;have hE:=ζ (hD.out.call hb);clear hb hD;go_wp2_with fail
 refine(HB.out _ hE.out.be).mono ?_;rintro e w2 ⟨rfl,hb⟩;have hF:=ζ (hE.out.call hb);clear hb hE;go_wp2_with fail
 refine(HC.out _ hF.out.be).mono ?_;rintro e w3 ⟨rfl,hb⟩;have hG:=ζ (hF.out.call hb);clear hb hF;go_wp2_with fail
 refine(HD.out _ hG.out.be).mono ?_;rintro e w4 ⟨rfl,hb⟩;have hH:=ζ ((hG.out.call hb).al w4.heap.size #[.slice a1 n1 c1,.slice a2 n2 c2,.int .i64 (max x1 x2),.int .i64 (min y1 y2)] 156 rfl);clear hb hG;go_upto_region 2 with fail
 obtain ⟨b2,hb2⟩:∃b,w4.heap.size=b:=⟨_,rfl⟩
 rw [hb2]at hH⊢;rw [HF.out,HT.out]at hH⊢;refine wp_geny (show Sy w _ [(b1,#[.slice none 0 0,.slice none 0 0,.int .i64 0,.int .i64 0],156),(b2,#[.slice a1 n1 c1,.slice a2 n2 c2,.int .i64 F,.int .i64 T],156)] [] []from hH.out) ?_;intro V1 hc;have hI:=ζ hc;clear hc hH hb2 HF HT;refine wp_region_held_drew (S:=(fun w'=>w'.cell? ⟨b2,0,none⟩=some (.slice a1 n1 c1)/\w'.cell? ⟨b2,1,none⟩=some (.slice a2 n2 c2)/\w'.cell? ⟨b2,2,none⟩=some (.int .i64 F)/\w'.cell? ⟨b2,3,none⟩=some (.int .i64 T)/\True)) (by kernel_rfl) ⟨hI.out.drew.c 1 0,hI.out.drew.c 1 1,hI.out.drew.c 1 2,hI.out.drew.c 1 3,trivial⟩ (fun hH=>?_);refine wpAnyH_geny (show Sy w _ [(b1,#[.slice none 0 0,.slice none 0 0,.int .i64 0,.int .i64 0],156),(b2,#[.slice a1 n1 c1,.slice a2 n2 c2,.int .i64 F,.int .i64 T],156)] [] []from hI.out.drew) hH ?_;intro AT hc AC;have AA:=ζ hc;clear hc hH hI;refine tkA 0 rfl AC ?_;try simp only [zP]
 refine tkA 1 rfl AC ?_;try simp only [zP]
 refine tkA 2 rfl AC ?_;try simp only [zP]
 refine tkA 3 rfl AC ?_;try simp only [zP]
 refine tkA 4 rfl AC ?_;try simp only [zP]
 refine wpAnyH_take (i:=5) (oi:=⟨_,_,_,_,_,_⟩) (v:= .bool (decide (F < T))) rfl (by kernel_rfl) (by kernel_rfl) (by kernel_rfl) (fun _ _ _ h=>h) (Or.inl ⟨by rfl,?_⟩) AC ?_
 ·intro wS AU;(try dsimp only at AU);go_simp;try with_reducible rfl
 try simp only [zP]
 refine rdy1 6 rfl (fun Kq AE=>?_);have cQ0:=AA.out.c 0 0;have fQ0:=AA.out.f 0 0;have cQ1:=AA.out.c 0 1;have fQ1:=AA.out.f 0 1;have cQ2:=AA.out.c 0 2;have fQ2:=AA.out.f 0 2;have cQ3:=AA.out.c 0 3;have fQ3:=AA.out.f 0 3;go_simp;refine stepZ AE (show Sy w _ [(b1,#[.slice a1 n1 c1,.slice a2 n2 c2,.int .i64 F,.int .i64 T],156),(b2,#[.slice a1 n1 c1,.slice a2 n2 c2,.int .i64 F,.int .i64 T],156)] [] []from(AA.out|>.set (j:=0) (v:= .slice a1 n1 c1) 0 rfl|>.set (j:=1) (v:= .slice a2 n2 c2) 0 rfl|>.set (j:=2) (v:= .int .i64 F) 0 rfl|>.set (j:=3) (v:= .int .i64 T) 0 rfl)) (fun _ hX=>⟨hX.c 1 0,hX.c 1 1,hX.c 1 2,hX.c 1 3,trivial⟩) ?_;intro AV AI AJ;clear AE Kq AA cQ0 fQ0 cQ1 fQ1 cQ2 fQ2 cQ3 fQ3 AC;try simp only [Act.put]
 refine rdy1 7 rfl (fun Kq AE=>?_);go_simp;refine stepZ AE (show Sy w _ [(b1,#[.slice a1 n1 c1,.slice a2 n2 c2,.int .i64 F,.int .i64 T],156),(b2,#[.slice a1 n1 c1,.slice a2 n2 c2,.int .i64 F,.int .i64 T],156)] [] []from AI.out) (fun _ hX=>⟨hX.c 1 0,hX.c 1 1,hX.c 1 2,hX.c 1 3,trivial⟩) ?_;intro AW AK AR;clear AE Kq AI AJ;try simp only [zP]
 refine wpAnyH_done (by kernel_rfl) ?_ _;go_wp2;refine ret_sy AK.out (v:= .tuple #[.agg #[.slice a1 n1 c1,.slice a2 n2 c2,.int .i64 F,.int .i64 T],.bool (decide (F < T))]) (fun hF=>?_) rfl (fun hF=>⟨rfl,hF.be⟩);have g0:=hF.c 0 0;have g1:=hF.c 0 1;have g2:=hF.c 0 2;have g3:=hF.c 0 3;simp [results,Tryz.results72,go_sem,g0,g1,g2,g3]
theorem pgap_any (a1:OA) (n1 c1:Nat) (l1:List Pt) (a2:OA) (n2 c2:Nat) (l2:List Pt) (F T x:Int) (a7:OA) (n7 c7:Nat) (m7:Bool) (d7:OA) (e7 f7:Nat) (h1:Sx 2 w a1 n1 c1 (L2 l1)) (h2:Sx 2 w a2 n2 c2 (L2 l2)) (AP:Prof l1) (AQ:Prof l2) (hx:Rd w (.slice a7 n7 c7) m7 (.slice d7 e7 f7) ((x:Rat))) (q1:hX l1 0<=x) (q2:x<=hX l1 (l1.length - 1)) (q3:hX l2 0<=x) (q4:x<=hX l2 (l2.length - 1)):
  Calls Tryz.prog 130 #[.agg #[.slice a1 n1 c1,.slice a2 n2 c2,.int .i64 F,.int .i64 T],.agg #[.slice a7 n7 c7,.bool m7,.slice d7 e7 f7]] w (RetR w (grd l1 x - grd l2 x)):=by
 have HA:=ζ (fun W (hW:Below w.heap.size w W) (a4:OA) (n4 c4:Nat) (m4:Bool) (d4:OA) (e4 f4:Nat) (hr:Rd W (.slice a4 n4 c4) m4 (.slice d4 e4 f4) ((x:Rat)))=>callsIn_wide.1 (pat_in W 4 (Nat.le_refl _) a1 n1 c1 l1 x a4 n4 c4 m4 d4 e4 f4 AP (h1.below hW) hr q1 q2));have HB:=ζ (fun W (hW:Below w.heap.size w W) (a4:OA) (n4 c4:Nat) (m4:Bool) (d4:OA) (e4 f4:Nat) (hr:Rd W (.slice a4 n4 c4) m4 (.slice d4 e4 f4) ((x:Rat)))=>callsIn_wide.1 (pat_in W 4 (Nat.le_refl _) a2 n2 c2 l2 x a4 n4 c4 m4 d4 e4 f4 AQ (h2.below hW) hr q3 q4));have B1:=ζ (AP.grd_gd q1 q2).bq;have B2:=ζ (AQ.grd_gd q3 q4).bq;have HX:=ζ hx;have hC:=ζ (((((Sy.enter w).pR rfl rfl hx).al w.heap.size #[.slice a1 n1 c1,.slice a2 n2 c2,.int .i64 F,.int .i64 T] 156 rfl).al (w.heap.size+1) #[.slice a7 n7 c7,.bool m7,.slice d7 e7 f7] 72 (by simp)).al (w.heap.size+1+1) zR 72 (by simp));generalize grd l1 x=g1 at*;generalize grd l2 x=g2 at*;clear h1 h2 AP AQ hx q1 q2 q3 q4;go_enter Tryz.func130,Tryz.ntmps130;go_upto_region 1 with fail
 obtain ⟨b3,hb3⟩:∃b,w.heap.size+1+1=b:=⟨_,rfl⟩
 obtain ⟨b2,hb2⟩:∃b,w.heap.size+1=b:=⟨_,rfl⟩
 obtain ⟨b1,hb1⟩:∃b,w.heap.size=b:=⟨_,rfl⟩
 rw [hb3,hb2,hb1]at hC⊢;refine wp_geny (show Sy w _ [(b1,#[.slice a1 n1 c1,.slice a2 n2 c2,.int .i64 F,.int .i64 T],156),(b2,#[.slice a7 n7 c7,.bool m7,.slice d7 e7 f7],72),(b3,zR,72)] [] [(fun V=>Rd V (.slice a7 n7 c7) m7 (.slice d7 e7 f7) ((x:Rat)))]from hC.out) ?_;intro V0 hc;have hD:=ζ hc;clear hc hC hb1 hb2 hb3;refine wp_region_held_drew (S:=(fun w'=>w'.cell? ⟨b1,0,none⟩=some (.slice a1 n1 c1)/\w'.cell? ⟨b1,1,none⟩=some (.slice a2 n2 c2)/\w'.cell? ⟨b1,2,none⟩=some (.int .i64 F)/\w'.cell? ⟨b1,3,none⟩=some (.int .i64 T)/\w'.cell? ⟨b2,0,none⟩=some (.slice a7 n7 c7)/\w'.cell? ⟨b2,1,none⟩=some (.bool m7)/\w'.cell? ⟨b2,2,none⟩=some (.slice d7 e7 f7)/\True)) (by kernel_rfl) ⟨hD.out.drew.c 0 0,hD.out.drew.c 0 1,hD.out.drew.c 0 2,hD.out.drew.c 0 3,hD.out.drew.c 1 0,hD.out.drew.c 1 1,hD.out.drew.c 1 2,trivial⟩ (fun hH=>?_);refine wpAnyH_geny (show Sy w _ [(b1,#[.slice a1 n1 c1,.slice a2 n2 c2,.int .i64 F,.int .i64 T],156),(b2,#[.slice a7 n7 c7,.bool m7,.slice d7 e7 f7],72),(b3,zR,72)] [] [(fun V=>Rd V (.slice a7 n7 c7) m7 (.slice d7 e7 f7) ((x:Rat)))]from hD.out.drew) hH ?_;intro AX hc AD;have AF:=ζ hc;clear hc hH hD;refine tkA 0 rfl AD ?_;try simp only [zP]
 refine tkA 1 rfl AD ?_;try simp only [zP]
 refine tkA 2 rfl AD ?_;try simp only [zP]
 refine tkA 4 rfl AD ?_;try simp only [zP]
 refine tkA 5 rfl AD ?_;try simp only [zP]
 refine tkA 6 rfl AD ?_;try simp only [zP]
 refine rdy1 3 rfl (fun Kq AE=>?_);go_simp;go_at_call 49;refine(HA.out _ AF.out.be a7 n7 c7 m7 d7 e7 f7 (AF.out.r 0 rfl)).mono ?_;rintro e wT ⟨a8,n8,c8,m8,d8,e8,f8,rfl,hz,hb⟩;(try go_wp2_with fail);refine stepZ AE (show Sy w _ [(b1,#[.slice a1 n1 c1,.slice a2 n2 c2,.int .i64 F,.int .i64 T],156),(b2,#[.slice a7 n7 c7,.bool m7,.slice d7 e7 f7],72),(b3,zR,72)] [] [(fun V=>Rd V (.slice a7 n7 c7) m7 (.slice d7 e7 f7) ((x:Rat))),(fun V=>Rd V (.slice a8 n8 c8) m8 (.slice d8 e8 f8) (g1))]from((AF.out.call hb).pR rfl rfl hz)) (fun _ hX=>⟨hX.c 0 0,hX.c 0 1,hX.c 0 2,hX.c 0 3,hX.c 1 0,hX.c 1 1,hX.c 1 2,trivial⟩) ?_;intro AY AG AL;clear AE Kq AF hb hz AD;try simp only [zP]
 refine rdy1 7 rfl (fun Kq AE=>?_);go_simp;go_at_call 49;refine(HB.out _ AG.out.be a7 n7 c7 m7 d7 e7 f7 (AG.out.r 0 rfl)).mono ?_;rintro e wT ⟨a9,n9,c9,m9,d9,e9,f9,rfl,hz,hb⟩;(try go_wp2_with fail);refine stepZ AE (show Sy w _ [(b1,#[.slice a1 n1 c1,.slice a2 n2 c2,.int .i64 F,.int .i64 T],156),(b2,#[.slice a7 n7 c7,.bool m7,.slice d7 e7 f7],72),(b3,zR,72)] [] [(fun V=>Rd V (.slice a7 n7 c7) m7 (.slice d7 e7 f7) ((x:Rat))),(fun V=>Rd V (.slice a8 n8 c8) m8 (.slice d8 e8 f8) (g1)),(fun V=>Rd V (.slice a9 n9 c9) m9 (.slice d9 e9 f9) (g2))]from((AG.out.call hb).pR rfl rfl hz)) (fun _ hX=>⟨hX.c 0 0,hX.c 0 1,hX.c 0 2,hX.c 0 3,hX.c 1 0,hX.c 1 1,hX.c 1 2,trivial⟩) ?_;intro AZ AH AM;clear AE Kq AG hb hz AL;try simp only [zP]
 refine rdy1 8 rfl (fun Kq AE=>?_);go_simp;go_at_call 105;refine(rsubT_b (AH.out.r 1 rfl) (AH.out.r 2 rfl) B1.out B2.out (by omega) (by omega)).mono ?_;rintro e wT ⟨a5,n5,c5,m5,d5,e5,f5,rfl,hz,hb⟩;(try go_wp2_with fail);refine stepZ AE (show Sy w _ [(b1,#[.slice a1 n1 c1,.slice a2 n2 c2,.int .i64 F,.int .i64 T],156),(b2,#[.slice a7 n7 c7,.bool m7,.slice d7 e7 f7],72),(b3,zR,72)] [] [(fun V=>Rd V (.slice a7 n7 c7) m7 (.slice d7 e7 f7) ((x:Rat))),(fun V=>Rd V (.slice a8 n8 c8) m8 (.slice d8 e8 f8) (g1)),(fun V=>Rd V (.slice a9 n9 c9) m9 (.slice d9 e9 f9) (g2)),(fun V=>Rd V (.slice a5 n5 c5) m5 (.slice d5 e5 f5) (g1 - g2))]from((AH.out.call hb).pR rfl rfl hz)) (fun _ hX=>⟨hX.c 0 0,hX.c 0 1,hX.c 0 2,hX.c 0 3,hX.c 1 0,hX.c 1 1,hX.c 1 2,trivial⟩) ?_;intro A0 AB AN;clear AE Kq AH hb hz AM;try simp only [zP]
 refine rdy1 9 rfl (fun Kq AE=>?_);have cQ0:=AB.out.c 2 0;have fQ0:=AB.out.f 2 0;have cQ1:=AB.out.c 2 1;have fQ1:=AB.out.f 2 1;have cQ2:=AB.out.c 2 2;have fQ2:=AB.out.f 2 2;go_simp;refine stepZ AE (show Sy w _ [(b1,#[.slice a1 n1 c1,.slice a2 n2 c2,.int .i64 F,.int .i64 T],156),(b2,#[.slice a7 n7 c7,.bool m7,.slice d7 e7 f7],72),(b3,#[.slice a5 n5 c5,.bool m5,.slice d5 e5 f5],72)] [] [(fun V=>Rd V (.slice a7 n7 c7) m7 (.slice d7 e7 f7) ((x:Rat))),(fun V=>Rd V (.slice a8 n8 c8) m8 (.slice d8 e8 f8) (g1)),(fun V=>Rd V (.slice a9 n9 c9) m9 (.slice d9 e9 f9) (g2)),(fun V=>Rd V (.slice a5 n5 c5) m5 (.slice d5 e5 f5) (g1 - g2))]from(AB.out|>.set (j:=0) (v:= .slice a5 n5 c5) 2 rfl|>.set (j:=1) (v:= .bool m5) 2 rfl|>.set (j:=2) (v:= .slice d5 e5 f5) 2 rfl)) (fun _ hX=>⟨hX.c 0 0,hX.c 0 1,hX.c 0 2,hX.c 0 3,hX.c 1 0,hX.c 1 1,hX.c 1 2,trivial⟩) ?_;intro A1 AO AS;clear AE Kq AB cQ0 fQ0 cQ1 fQ1 cQ2 fQ2 AN;try simp only [Act.put]
 refine wpAnyH_done (by kernel_rfl) ?_ _;go_wp2;refine ret_sy AO.out (v:= .agg #[.slice a5 n5 c5,.bool m5,.slice d5 e5 f5]) (fun hF=>?_) rfl (fun hF=>⟨_,_,_,_,_,_,_,rfl,hF.r 3 rfl,hF.be⟩);have g0:=hF.c 2 0;have g1:=hF.c 2 1;have g2:=hF.c 2 2;simp [results,Tryz.results130,go_sem,g0,g1,g2]
end
section
open Go.RowKit
end
section
abbrev Us:=Int×Int
def meetsB (u o:Us):Bool:=decide (u.1 < o.2) && decide (o.1 < u.2)
def hasDay (d:Int) (u:Us):Bool:=decide (u.1<=d) && decide (d < u.2)
def onB (l:List Us) (d:Int):Nat:=l.countP (hasDay d)
abbrev at0 (l:List Us) (k:Nat):Us:=l.getD k (0,0)
def before (l:List Us) (i k:Nat):Prop:=(at0 l i).1 < (at0 l k).1\/(at0 l i).1=(at0 l k).1/\i < k
section
variable {l:List Us}
structure AllotI (l:List Us) (P:List Nat) (s:List Int×Int×Int):Prop where
 un:∀k,k∉P->s.1.getD k (-1)= -1
 az:∀k,k∈P->∃m:Nat,s.1.getD k (-1)=(m:Int)/\(m:Int) < s.2.1
 ok:∀i k,i∈P->k∈P->i≠k->meetsB (at0 l i) (at0 l k)=true->s.1.getD i (-1)≠s.1.getD k (-1)
 n0:0<=s.2.1
 z:P= []->s.2=(0,0)
 d:P≠ []->∃j,∃h:j < P.length,0 < s.2.1/\s.1.getD P[j] (-1)=s.2.1 - 1/\s.2.2=(at0 l P[j]).1/\(∀t (ht:t < j),s.1.getD (P[t]'(by omega)) (-1) < s.2.1 - 1)/\s.2.1<=onB l (at0 l P[j]).1
end
end
end Go.Proofs.YtjpojeapdgjbhaaGreatDoor
