/- part -/
import Derived.Test.YtjpojeapdgjbhaaGreatDoorQ15
set_option maxRecDepth 100000
set_option maxHeartbeats 4000000
namespace Go.Proofs.YtjpojeapdgjbhaaGreatDoor
open Go.RowKit Dig
theorem qR4_0 {P_:Prop} (h:P_:=by exact⟨Yx.c 0 0,Yx.c 0 1,Yx.c 0 2,Yx.c 1 0,Yx.c 1 1,Yx.c 1 2,trivial⟩):P_:=h
theorem qR4_1 {P_:Prop} (h:P_:=by exact⟨Yx.c 0 0,Yx.c 0 1,Yx.c 1 0,Yx.c 1 1,Yx.c 3 0,Yx.c 3 1,Yx.c 4 0,Yx.c 4 1,trivial⟩):P_:=h
theorem radd_any (a1:OA) (n1 c1:Nat) (m1:Bool) (d1:OA) (e1 f1:Nat) (q1:Rat) (a2:OA) (n2 c2:Nat) (m2:Bool) (d2:OA) (e2 f2:Nat) (q2:Rat) (w:World) (h1:Rd w (.slice a1 n1 c1) m1 (.slice d1 e1 f1) q1) (h2:Rd w (.slice a2 n2 c2) m2 (.slice d2 e2 f2) q2) (k1 k2:Nat) (b1:Bq k1 q1) (b2:Bq k2 q2) (hk1:k1<=40000) (hk2:k2<=40000):
  Calls Tryz.prog 99 #[.agg #[.slice a1 n1 c1,.bool m1,.slice d1 e1 f1],.agg #[.slice a2 n2 c2,.bool m2,.slice d2 e2 f2]] w (RetR w (q1+q2)):=by
 rw [add_eq];have B1:=ζ b1;have B2:=ζ b2;clear b1 b2;have hC:=ζ ((((((St.enter w).pr h1).pr h2).al (w.heap.size) #[.slice a1 n1 c1,.bool m1,.slice d1 e1 f1] 72 rfl rfl).al (w.heap.size+1) #[.slice a2 n2 c2,.bool m2,.slice d2 e2 f2] 72 (by simp) rfl).al (w.heap.size+2) zR 72 (by simp) rfl);clear h1 h2;go_enter Tryz.func99,Tryz.ntmps99;go_upto_region 1 with fail
 go_cut [5,6] (fun s5 s6 wx=>∃bx by_ a3 n3 c3 m3 a4 n4 c4 m4,s5= .pointer (some ⟨bx,0,none⟩)/\s6= .pointer (some ⟨by_,0,none⟩)/\Hid (St w wx [(w.heap.size,#[.slice a1 n1 c1,.bool m1,.slice d1 e1 f1],72),(w.heap.size+1,#[.slice a2 n2 c2,.bool m2,.slice d2 e2 f2],72),(w.heap.size+2,zR,72),(bx,#[.slice a3 n3 c3,.bool m3],70),(by_,#[.slice a4 n4 c4,.bool m4],70)] [fun V=>Rd V (.slice a1 n1 c1) m1 (.slice d1 e1 f1) q1,fun V=>Rd V (.slice a2 n2 c2) m2 (.slice d2 e2 f2) q2,fun V=>Zd V (.slice a3 n3 c3) m3 q1.den,fun V=>Zd V (.slice a4 n4 c4) m4 q2.den]))
 case first=>
  refine wp_gen hC.out ?_;intro W1 hc;clear hC;have hC:=ζ hc;have AV:=ζ (show k1<=1000000 by omega);have AW:=ζ (show k2<=1000000 by omega);clear hc;go_region_held3 (fun w'=>w'.cell? ⟨w.heap.size,0,none⟩=some (.slice a1 n1 c1)/\w'.cell? ⟨w.heap.size,1,none⟩=some (.bool m1)/\w'.cell? ⟨w.heap.size,2,none⟩=some (.slice d1 e1 f1)/\w'.cell? ⟨w.heap.size+1,0,none⟩=some (.slice a2 n2 c2)/\w'.cell? ⟨w.heap.size+1,1,none⟩=some (.bool m2)/\w'.cell? ⟨w.heap.size+1,2,none⟩=some (.slice d2 e2 f2)/\True)
   (first
    | (with_reducible refine aG (World.setCell (World.setCell (World.setCell (World.setCell (World.alloc (World.alloc wb _) _) _ _) _ _) _ _) _ _) ?_;refine aH ((((AA.out.al (wb.heap.size) #[.slice none 0 0,.bool false] 70 rfl rfl).al (wb.heap.size+1) #[.slice none 0 0,.bool false] 70 (by simp) rfl)|>.t2 3 rfl)|>.t2 4 rfl) (fun Yx=>?_);exact qR4_0)
    | (with_reducible refine aG (World.setCell (World.setCell (World.setCell (World.setCell (World.alloc (World.alloc wb _) _) _ _) _ _) _ _) _ _) ?_;refine aH ((((AA.out.al (wb.heap.size) #[.slice none 0 0,.bool false] 70 rfl rfl).al (wb.heap.size+1) #[.slice none 0 0,.bool false] 70 (by simp) rfl)|>.t2 4 rfl)|>.t2 3 rfl) (fun Yx=>?_);exact qR4_0)
    | (with_reducible refine aG (World.setCell (World.setCell (World.setCell (World.setCell (World.alloc wb _) _ _) _ _) _ _) _ _) ?_;refine aH (((AA.out.al (wb.heap.size) #[.slice none 0 0,.bool false] 70 rfl rfl)|>.t2 3 rfl)|>.t2 4 rfl) (fun Yx=>?_);exact qR4_0)
    | (with_reducible refine aG (World.setCell (World.setCell (World.setCell (World.setCell (World.alloc wb _) _ _) _ _) _ _) _ _) ?_;refine aH (((AA.out.al (wb.heap.size) #[.slice none 0 0,.bool false] 70 rfl rfl)|>.t2 4 rfl)|>.t2 3 rfl) (fun Yx=>?_);exact qR4_0)
    | (with_reducible refine aG (World.alloc (World.setCell (World.setCell (World.alloc (World.alloc wb _) _) _ _) _ _) _) ?_;refine aH ((((AA.out.al (wb.heap.size) #[.slice none 0 0,.bool false] 70 rfl rfl).al (wb.heap.size+1) #[.slice none 0 0,.bool false] 70 (by simp) rfl)|>.t2 3 rfl).row) (fun Yx=>?_);exact qR4_0)
    | (with_reducible refine aG (World.alloc (World.setCell (World.setCell (World.alloc (World.alloc wb _) _) _ _) _ _) _) ?_;refine aH ((((AA.out.al (wb.heap.size) #[.slice none 0 0,.bool false] 70 rfl rfl).al (wb.heap.size+1) #[.slice none 0 0,.bool false] 70 (by simp) rfl)|>.t2 4 rfl).row) (fun Yx=>?_);exact qR4_0)
    | (with_reducible refine aG (World.setCell (World.setCell (World.setCell (World.setCell wb _ _) _ _) _ _) _ _) ?_;refine aH ((AA.out|>.t2 3 rfl)|>.t2 4 rfl) (fun Yx=>?_);exact qR4_0)
    | (with_reducible refine aG (World.setCell (World.setCell (World.setCell (World.setCell wb _ _) _ _) _ _) _ _) ?_;refine aH ((AA.out|>.t2 4 rfl)|>.t2 3 rfl) (fun Yx=>?_);exact qR4_0)
    | (with_reducible refine aG (World.alloc (World.setCell (World.setCell (World.alloc wb _) _ _) _ _) _) ?_;refine aH (((AA.out.al (wb.heap.size) #[.slice none 0 0,.bool false] 70 rfl rfl)|>.t2 3 rfl).row) (fun Yx=>?_);exact qR4_0)
    | (with_reducible refine aG (World.alloc (World.setCell (World.setCell (World.alloc wb _) _ _) _ _) _) ?_;refine aH (((AA.out.al (wb.heap.size) #[.slice none 0 0,.bool false] 70 rfl rfl)|>.t2 4 rfl).row) (fun Yx=>?_);exact qR4_0)
    | (with_reducible refine aG (World.setCell (World.setCell (World.alloc (World.alloc wb _) _) _ _) _ _) ?_;refine aH (((AA.out.al (wb.heap.size) #[.slice none 0 0,.bool false] 70 rfl rfl).al (wb.heap.size+1) #[.slice none 0 0,.bool false] 70 (by simp) rfl)|>.t2 3 rfl) (fun Yx=>?_);exact qR4_0)
    | (with_reducible refine aG (World.setCell (World.setCell (World.alloc (World.alloc wb _) _) _ _) _ _) ?_;refine aH (((AA.out.al (wb.heap.size) #[.slice none 0 0,.bool false] 70 rfl rfl).al (wb.heap.size+1) #[.slice none 0 0,.bool false] 70 (by simp) rfl)|>.t2 4 rfl) (fun Yx=>?_);exact qR4_0)
    | (with_reducible refine aG (World.alloc (World.setCell (World.setCell wb _ _) _ _) _) ?_;refine aH ((AA.out|>.t2 3 rfl).row) (fun Yx=>?_);exact qR4_0)
    | (with_reducible refine aG (World.alloc (World.setCell (World.setCell wb _ _) _ _) _) ?_;refine aH ((AA.out|>.t2 4 rfl).row) (fun Yx=>?_);exact qR4_0)
    | (with_reducible refine aG (World.setCell (World.setCell (World.alloc wb _) _ _) _ _) ?_;refine aH ((AA.out.al (wb.heap.size) #[.slice none 0 0,.bool false] 70 rfl rfl)|>.t2 3 rfl) (fun Yx=>?_);exact qR4_0)
    | (with_reducible refine aG (World.setCell (World.setCell (World.alloc wb _) _ _) _ _) ?_;refine aH ((AA.out.al (wb.heap.size) #[.slice none 0 0,.bool false] 70 rfl rfl)|>.t2 4 rfl) (fun Yx=>?_);exact qR4_0)
    | (with_reducible refine aG (World.setCell (World.setCell wb _ _) _ _) ?_;refine aH (AA.out|>.t2 3 rfl) (fun Yx=>?_);exact qR4_0)
    | (with_reducible refine aG (World.setCell (World.setCell wb _ _) _ _) ?_;refine aH (AA.out|>.t2 4 rfl) (fun Yx=>?_);exact qR4_0)
    | (with_reducible refine aG (World.alloc (World.alloc wb _) _) ?_;have Yx:=(AA.out.al (wb.heap.size) #[.slice none 0 0,.bool false] 70 rfl rfl).al (wb.heap.size+1) #[.slice none 0 0,.bool false] 70 (by simp) rfl;exact qR4_0)
    | (with_reducible refine aG (World.alloc wb _) ?_;have Yx:=AA.out.al (wb.heap.size) #[.slice none 0 0,.bool false] 70 rfl rfl;exact qR4_0)
    | (with_reducible refine aG wb ?_;have Yx:=AA.out;exact qR4_0)
    | (with_reducible refine aG (World.alloc (World.alloc wa _) _) ?_;have Yx:=(AB.out.al (wa.heap.size) #[.slice none 0 0,.bool false] 70 rfl rfl).al (wa.heap.size+1) #[.slice none 0 0,.bool false] 70 (by simp) rfl;exact qR4_0)
    | (with_reducible refine aG (World.alloc wa _) ?_;have Yx:=AB.out.al (wa.heap.size) #[.slice none 0 0,.bool false] 70 rfl rfl;exact qR4_0)
    | (with_reducible refine aG wa ?_;have Yx:=AB.out;exact qR4_0)
    | (with_reducible refine aG (World.drew (World.alloc (World.alloc W1 _) _)) ?_;have Yx:=((hC.out.al (W1.heap.size) #[.slice none 0 0,.bool false] 70 rfl rfl).al (W1.heap.size+1) #[.slice none 0 0,.bool false] 70 (by simp) rfl).drew;exact qR4_0)
    | (with_reducible refine aG (World.drew (World.alloc W1 _)) ?_;have Yx:=(hC.out.al (W1.heap.size) #[.slice none 0 0,.bool false] 70 rfl rfl).drew;exact qR4_0)
    | (with_reducible refine aG (World.drew W1) ?_;have Yx:=hC.out.drew;exact qR4_0)
    | (with_reducible refine aG (World.alloc (World.alloc wb _) _) ?_;refine aH (AA.out.row.row) (fun Yx=>?_);exact qR4_0)
    | (with_reducible refine aG (World.alloc wb _) ?_;refine aH (AA.out.row) (fun Yx=>?_);exact qR4_0)|fail)
   (first
    | (have _t:=AB;go_at_call 55;(first | (have P:=AB.out.r 1 rfl;(with_reducible refine(bottom_b P B2.out AW.out).mono ?_);rintro e wb ⟨a4,n4,c4,m4,rfl,hz,hb⟩;have AA:=ζ ((AB.out.call hb).pz hz);clear hz hb P) | (have P:=(AB.out.al (wa.heap.size) #[.slice none 0 0,.bool false] 70 rfl rfl).r 1 rfl;(with_reducible refine(bottom_b P B2.out AW.out).mono ?_);rintro e wb ⟨a4,n4,c4,m4,rfl,hz,hb⟩;have AA:=ζ (((AB.out.al (wa.heap.size) #[.slice none 0 0,.bool false] 70 rfl rfl).call hb).pz hz);clear hz hb P) | (have P:=((AB.out.al (wa.heap.size) #[.slice none 0 0,.bool false] 70 rfl rfl).al (wa.heap.size+1) #[.slice none 0 0,.bool false] 70 (by simp) rfl).r 1 rfl;(with_reducible refine(bottom_b P B2.out AW.out).mono ?_);rintro e wb ⟨a4,n4,c4,m4,rfl,hz,hb⟩;have AA:=ζ ((((AB.out.al (wa.heap.size) #[.slice none 0 0,.bool false] 70 rfl rfl).al (wa.heap.size+1) #[.slice none 0 0,.bool false] 70 (by simp) rfl).call hb).pz hz);clear hz hb P));(try have c30:=AA.out.c 3 0);(try have c31:=AA.out.c 3 1);(try have c40:=AA.out.c 4 0);(try have c41:=AA.out.c 4 1);(try have f30:=AA.out.f 3 0);(try have f31:=AA.out.f 3 1);(try have f40:=AA.out.f 4 0);(try have f41:=AA.out.f 4 1);(try have l3:=AA.out.lt 3 rfl);(try have l4:=AA.out.lt 4 rfl);(try have l34:=AA.out.apart 3 4 rfl rfl (by omega));(try have l43:=(AA.out.apart 3 4 rfl rfl (by omega)).symm);clear _t AB)
    | (have _t:=hC;go_at_call 55;(first | (have P:=(hC.out.drew).r 0 rfl;(with_reducible refine(bottom_b P B1.out AV.out).mono ?_);rintro e wa ⟨a3,n3,c3,m3,rfl,hz,hb⟩;have AB:=ζ ((hC.out.drew.call hb).pz hz);clear hz hb P) | (have P:=((hC.out.al (W1.heap.size) #[.slice none 0 0,.bool false] 70 rfl rfl).drew).r 0 rfl;(with_reducible refine(bottom_b P B1.out AV.out).mono ?_);rintro e wa ⟨a3,n3,c3,m3,rfl,hz,hb⟩;have AB:=ζ (((hC.out.al (W1.heap.size) #[.slice none 0 0,.bool false] 70 rfl rfl).drew.call hb).pz hz);clear hz hb P) | (have P:=(((hC.out.al (W1.heap.size) #[.slice none 0 0,.bool false] 70 rfl rfl).al (W1.heap.size+1) #[.slice none 0 0,.bool false] 70 (by simp) rfl).drew).r 0 rfl;(with_reducible refine(bottom_b P B1.out AV.out).mono ?_);rintro e wa ⟨a3,n3,c3,m3,rfl,hz,hb⟩;have AB:=ζ ((((hC.out.al (W1.heap.size) #[.slice none 0 0,.bool false] 70 rfl rfl).al (W1.heap.size+1) #[.slice none 0 0,.bool false] 70 (by simp) rfl).drew.call hb).pz hz);clear hz hb P));clear _t hC)
    | fail)
  all_goals (go_wp2_with fail;go_meet)
  all_goals (first
   | (refine⟨_,_,a3,n3,c3,m3,a4,n4,c4,m4,rfl,rfl,?_⟩;(with_reducible refine(?_:Hid (St w (World.alloc (World.alloc wb _) _) _ _)));exact ζ (St.pick (St.bpick ((AA.out.al (wb.heap.size) #[.slice a3 n3 c3,.bool m3] 70 rfl rfl).al (wb.heap.size+1) #[.slice a4 n4 c4,.bool m4] 70 (by simp) rfl) [0,1,2,3,4] (by decide) rfl) [0,1,2,3] rfl))
   | (refine⟨_,_,a3,n3,c3,m3,a4,n4,c4,m4,rfl,rfl,?_⟩;(with_reducible refine(?_:Hid (St w (World.alloc (World.setCell (World.setCell wb _ _) _ _) _) _ _)));exact ζ (St.pick (St.bpick ((AA.out|>.t2 3 rfl).al (wb.heap.size) #[.slice a4 n4 c4,.bool m4] 70 (by simp [World.setCell]) rfl) [0,1,2,3,4] (by decide) rfl) [0,1,2,3] rfl))
   | (refine⟨_,_,a3,n3,c3,m3,a4,n4,c4,m4,rfl,rfl,?_⟩;(with_reducible refine(?_:Hid (St w (World.alloc (World.alloc wb _) _) _ _)));exact ζ (St.pick (St.bpick ((AA.out.al (wb.heap.size) #[.slice a4 n4 c4,.bool m4] 70 rfl rfl).al (wb.heap.size+1) #[.slice a3 n3 c3,.bool m3] 70 (by simp) rfl) [0,1,2,4,3] (by decide) rfl) [0,1,2,3] rfl))
   | (refine⟨_,_,a3,n3,c3,m3,a4,n4,c4,m4,rfl,rfl,?_⟩;(with_reducible refine(?_:Hid (St w (World.alloc (World.setCell (World.setCell wb _ _) _ _) _) _ _)));exact ζ (St.pick (St.bpick ((AA.out|>.t2 3 rfl).al (wb.heap.size) #[.slice a3 n3 c3,.bool m3] 70 (by simp [World.setCell]) rfl) [0,1,2,4,3] (by decide) rfl) [0,1,2,3] rfl))
   | (refine⟨_,_,a3,n3,c3,m3,a4,n4,c4,m4,rfl,rfl,?_⟩;(with_reducible refine(?_:Hid (St w (World.setCell (World.setCell (World.setCell (World.setCell wb _ _) _ _) _ _) _ _) _ _)));exact ζ (St.pick (St.bpick ((AA.out|>.t2 3 rfl)|>.t2 4 rfl) [0,1,2,3,4] (by decide) rfl) [0,1,2,3] rfl))
   | (refine⟨_,_,a3,n3,c3,m3,a4,n4,c4,m4,rfl,rfl,?_⟩;(with_reducible refine(?_:Hid (St w (World.setCell (World.setCell (World.setCell (World.setCell wb _ _) _ _) _ _) _ _) _ _)));exact ζ (St.pick (St.bpick ((AA.out|>.t2 4 rfl)|>.t2 3 rfl) [0,1,2,4,3] (by decide) rfl) [0,1,2,3] rfl)))
 case rest=>
  obtain ⟨bx,by_,a3,n3,c3,m3,a4,n4,c4,m4,rfl,rfl,hD⟩:=hcut;clear hC;go_wp2_with fail
  go_wp2;go_region_held3 (fun w'=>w'.cell? ⟨w.heap.size,0,none⟩=some (.slice a1 n1 c1)/\w'.cell? ⟨w.heap.size,1,none⟩=some (.bool m1)/\w'.cell? ⟨w.heap.size+1,0,none⟩=some (.slice a2 n2 c2)/\w'.cell? ⟨w.heap.size+1,1,none⟩=some (.bool m2)/\w'.cell? ⟨bx,0,none⟩=some (.slice a3 n3 c3)/\w'.cell? ⟨bx,1,none⟩=some (.bool m3)/\w'.cell? ⟨by_,0,none⟩=some (.slice a4 n4 c4)/\w'.cell? ⟨by_,1,none⟩=some (.bool m4)/\True)
   (first
    | (with_reducible refine aG (World.setCell (World.setCell (World.setCell w9 _ _) _ _) _ _) ?_;refine aH (AC.out|>.t3 2 rfl) (fun Yx=>?_);exact qR4_1)
    | (with_reducible refine aG w9 ?_;have Yx:=AC.out;exact qR4_1)
    | (with_reducible refine aG w8 ?_;have Yx:=AE.out;exact qR4_1)
    | (with_reducible refine aG w7 ?_;have Yx:=AF.out;exact qR4_1)
    | (with_reducible refine aG w6 ?_;have Yx:=AG.out;exact qR4_1)
    | (with_reducible refine aG w5 ?_;have Yx:=AH.out;exact qR4_1)
    | (with_reducible refine aG _ ?_;have Yx:=hD.out.drew;exact qR4_1)|fail)
   (first
    | (have _t:=AE;go_at_call 143;refine(ratio_b (AE.out.z 6 rfl) (AE.out.z 7 rfl) ((B1.out.num.mul B2.out.den).add (B2.out.num.mul B1.out.den)) (B1.out.den.mul B2.out.den) (by omega) (by omega) (Int.mul_ne_zero (den_ne q1) (den_ne q2))).mono ?_;rintro e w9 ⟨a9,n9,c9,m9,d9,e9,f9,rfl,hz,hb⟩;have AC:=ζ ((AE.out.call hb).pr hz);clear hb hz;have AJ:=AC.out.c 2 0;have AK:=AC.out.f 2 0;have AL:=AC.out.c 2 1;have AM:=AC.out.f 2 1;have AN:=AC.out.c 2 2;have AO:=AC.out.f 2 2;clear _t AE)
    | (have _t:=AF;go_at_call 54;refine(mul_b (AF.out.z 2 rfl) (AF.out.z 3 rfl) B1.out.den B2.out.den (by omega) (by omega)).mono ?_;rintro e w8 ⟨a8,n8,c8,m8,rfl,hz,hb⟩;have AE:=ζ ((AF.out.call hb).pz hz);clear hb hz;clear _t AF)
    | (have _t:=AG;go_at_call 144;refine(add_b (AG.out.z 4 rfl) (AG.out.z 5 rfl) (B1.out.num.mul B2.out.den) (B2.out.num.mul B1.out.den) (by omega) (by omega)).mono ?_;rintro e w7 ⟨a7,n7,c7,m7,rfl,hz,hb⟩;have AF:=ζ ((AG.out.call hb).pz hz);clear hb hz;clear _t AG)
    | (have _t:=AH;go_at_call 54;refine(mul_b (AH.out.r 1 rfl).z (AH.out.z 2 rfl) B2.out.num B1.out.den (by omega) (by omega)).mono ?_;rintro e w6 ⟨a6,n6,c6,m6,rfl,hz,hb⟩;have AG:=ζ ((AH.out.call hb).pz hz);clear hb hz;clear _t AH)
    | (have _t:=hD;go_at_call 54;refine(mul_b (hD.out.drew.r 0 rfl).z (hD.out.drew.z 3 rfl) B1.out.num B2.out.den (by omega) (by omega)).mono ?_;rintro e w5 ⟨a5,n5,c5,m5,rfl,hz,hb⟩;have AH:=ζ ((hD.out.drew.call hb).pz hz);clear hb hz;clear _t hD)
    | fail)
  go_wp2;refine ret_st (AC.out|>.t3 2 rfl) (v:= .agg #[.slice a9 n9 c9,.bool m9,.slice d9 e9 f9]) (fun hF=>?_) rfl (fun hF=>⟨_,_,_,_,_,_,_,rfl,hF.r 8 rfl,hF.be⟩)
  ·have e0:=hF.c 2 0;have e1:=hF.c 2 1;have e2:=hF.c 2 2;simp [results,Tryz.results99,go_sem,e0,e1,e2]
section
variable {w:World} {a1:OA} {n1 c1:Nat} {m1:Bool} {d1:OA} {e1 f1:Nat} {q1:Rat} {a2:OA} {n2 c2:Nat} {m2:Bool} {d2:OA} {e2 f2:Nat} {q2:Rat} {k1 k2:Nat}
theorem radd_b (h1:Rd w (.slice a1 n1 c1) m1 (.slice d1 e1 f1) q1) (h2:Rd w (.slice a2 n2 c2) m2 (.slice d2 e2 f2) q2) (b1:Bq k1 q1) (b2:Bq k2 q2) (hk1:k1<=40000) (hk2:k2<=40000):
  Calls Tryz.prog 99 #[.agg #[.slice a1 n1 c1,.bool m1,.slice d1 e1 f1],.agg #[.slice a2 n2 c2,.bool m2,.slice d2 e2 f2]] w (RetR w (q1+q2)):=radd_any _ _ _ _ _ _ _ _ _ _ _ _ _ _ _ _ _ h1 h2 k1 k2 b1 b2 hk1 hk2
theorem rmul_b (h1:Rd w (.slice a1 n1 c1) m1 (.slice d1 e1 f1) q1) (h2:Rd w (.slice a2 n2 c2) m2 (.slice d2 e2 f2) q2) (b1:Bq k1 q1) (b2:Bq k2 q2) (hk1:k1<=40000) (hk2:k2<=40000):
  Calls Tryz.prog 101 #[.agg #[.slice a1 n1 c1,.bool m1,.slice d1 e1 f1],.agg #[.slice a2 n2 c2,.bool m2,.slice d2 e2 f2]] w (RetR w (q1*q2)):=by
 rw [mul_eq];exact rmul_any _ _ _ _ _ _ _ _ _ _ _ _ _ _ _ _ _ h1 h2 k1 k2 b1 b2 hk1 hk2
theorem rcmp_b (h1:Rd w (.slice a1 n1 c1) m1 (.slice d1 e1 f1) q1) (h2:Rd w (.slice a2 n2 c2) m2 (.slice d2 e2 f2) q2) (b1:Bq k1 q1) (b2:Bq k2 q2) (hk1:k1<=40000) (hk2:k2<=40000):
  Calls Tryz.prog 19 #[.agg #[.slice a1 n1 c1,.bool m1,.slice d1 e1 f1],.agg #[.slice a2 n2 c2,.bool m2,.slice d2 e2 f2]] w fun e w'=>e= .returned (.int .i64 (cmpQ q1 q2))/\Below w.heap.size w w':=rcmp_any _ _ _ _ _ _ _ _ _ _ _ _ _ _ _ _ _ h1 h2 k1 k2 b1 b2 hk1 hk2
theorem rneg_b (h1:Rd w (.slice a1 n1 c1) m1 (.slice d1 e1 f1) q1):Calls Tryz.prog 59 #[.agg #[.slice a1 n1 c1,.bool m1,.slice d1 e1 f1]] w (RetR w (-q1)):=rneg_any _ _ _ _ _ _ _ _ _ h1
end
theorem rsub_any (a1:OA) (n1 c1:Nat) (m1:Bool) (d1:OA) (e1 f1:Nat) (q1:Rat) (a2:OA) (n2 c2:Nat) (m2:Bool) (d2:OA) (e2 f2:Nat) (q2:Rat) (w:World) (h1:Rd w (.slice a1 n1 c1) m1 (.slice d1 e1 f1) q1) (h2:Rd w (.slice a2 n2 c2) m2 (.slice d2 e2 f2) q2) (k1 k2:Nat) (b1:Bq k1 q1) (b2:Bq k2 q2) (hk1:k1<=40000) (hk2:k2<=40000):
  Calls Tryz.prog 105 #[.agg #[.slice a1 n1 c1,.bool m1,.slice d1 e1 f1],.agg #[.slice a2 n2 c2,.bool m2,.slice d2 e2 f2]] w (RetR w (q1+ -q2)):=by
 have B1:=ζ b1;have B2:=ζ b2;clear b1 b2;have hC:=ζ ((((((St.enter w).pr h1).pr h2).al (w.heap.size) #[.slice a1 n1 c1,.bool m1,.slice d1 e1 f1] 72 rfl rfl).al (w.heap.size+1) #[.slice a2 n2 c2,.bool m2,.slice d2 e2 f2] 72 (by simp) rfl).al (w.heap.size+2) zR 72 (by simp) rfl);clear h1 h2;go_enter Tryz.func105,Tryz.ntmps105;go_wp2;go_region_held3 (fun w'=>w'.cell? ⟨w.heap.size,0,none⟩=some (.slice a1 n1 c1)/\w'.cell? ⟨w.heap.size,1,none⟩=some (.bool m1)/\w'.cell? ⟨w.heap.size,2,none⟩=some (.slice d1 e1 f1)/\w'.cell? ⟨w.heap.size+1,0,none⟩=some (.slice a2 n2 c2)/\w'.cell? ⟨w.heap.size+1,1,none⟩=some (.bool m2)/\w'.cell? ⟨w.heap.size+1,2,none⟩=some (.slice d2 e2 f2)/\True)
  (first
   | (with_reducible refine aG (World.setCell (World.setCell (World.setCell w4 _ _) _ _) _ _) ?_;refine aH (AD.out|>.t3 2 rfl) (fun Yx=>?_);exact qR4_0)
   | (with_reducible refine aG w4 ?_;have Yx:=AD.out;exact qR4_0)
   | (with_reducible refine aG w3 ?_;have Yx:=AI.out;exact qR4_0)
   | (with_reducible refine aG _ ?_;have Yx:=hC.out.drew;exact qR4_0)|fail)
  (first
   | (have _t:=AI;go_at_call 99;refine(radd_b (AI.out.r 0 rfl) (AI.out.r 2 rfl) B1.out B2.out.neg (by omega) (by omega)).mono ?_;rintro e w4 ⟨a4,n4,c4,m4,d4,e4,f4,rfl,hz,hb⟩;have AD:=ζ ((AI.out.call hb).pr hz);clear hb hz;have AP:=AD.out.c 2 0;have AQ:=AD.out.f 2 0;have AR:=AD.out.c 2 1;have AS:=AD.out.f 2 1;have AT:=AD.out.c 2 2;have AU:=AD.out.f 2 2;clear _t AI)
   | (have _t:=hC;go_at_call 59;refine(rneg_b (hC.out.drew.r 1 rfl)).mono ?_;rintro e w3 ⟨a3,n3,c3,m3,d3,e3,f3,rfl,hz,hb⟩;have AI:=ζ ((hC.out.drew.call hb).pr hz);clear hb hz;clear _t hC)
   | fail)
 go_wp2;refine ret_st (AD.out|>.t3 2 rfl) (v:= .agg #[.slice a4 n4 c4,.bool m4,.slice d4 e4 f4]) (fun hF=>?_) rfl (fun hF=>⟨_,_,_,_,_,_,_,rfl,hF.r 3 rfl,hF.be⟩)
 ·have e0:=hF.c 2 0;have e1:=hF.c 2 1;have e2:=hF.c 2 2;simp [results,Tryz.results105,go_sem,e0,e1,e2]
end Go.Proofs.YtjpojeapdgjbhaaGreatDoor
