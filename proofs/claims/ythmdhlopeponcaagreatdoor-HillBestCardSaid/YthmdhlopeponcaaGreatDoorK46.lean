/- part -/
import Derived.Test.YthmdhlopeponcaaGreatDoorK45
import Derived.Test.YthmdhlopeponcaaGreatDoorK44
import Derived.Test.YthmdhlopeponcaaGreatDoorK27
set_option maxRecDepth 100000
set_option maxHeartbeats 8000000
namespace Go.Proofs.YthmdhlopeponcaaGreatDoor
open Go.RowKit Dig
theorem ztext_pos {l:List UInt8} {n:Nat} (h:Dec.isDec l=true) (hv:Dec.val l=n):Dec.ztext (n:Int)=l:=by
 unfold Dec.ztext;rw [if_neg (by omega),Int.natAbs_natCast,<-hv,Dec.dec_val h]
theorem ba_of {B:ByteArray} {l:List UInt8} (h:l=B.data.toList):(⟨l.toArray⟩:ByteArray)=B:=by subst h;rfl
section
variable {w:World} {a:Option Addr} {n c:Nat} {m:Bool} {z:Int} {k:Nat} {d:Option Addr} {e f:Nat} {q:Rat}
theorem rtext_is (h:Rd w (.slice a n c) m (.slice d e f) q) (hb:Bq k q) (hk:k<=40000) {B:ByteArray} (hB:rtext q=B.data.toList):
  Calls Tryz.prog 59 #[.agg #[.slice a n c,.bool m,.slice d e f]] w fun e w'=>e= .returned (.string B)/\Below w.heap.size w w':=by
 have:=rtext_b h hb hk;rw [ba_of hB]at this;exact this
end
theorem s1:foldQ (· + ·) [(⟨1,2,by decide,by decide⟩:Rat),(⟨1,3,by decide,by decide⟩:Rat),(⟨1,6,by decide,by decide⟩:Rat)]=(⟨1,1,by decide,by decide⟩:Rat):=by kernel_rfl
theorem t1:rtext (⟨1,1,by decide,by decide⟩:Rat)= [49]:=by
 unfold rtext;rw [if_pos (by decide)];exact ztext_pos (n:=1) (by decide) (by decide)
theorem bq {n k:Nat} {q:Rat} (h1:q.num.natAbs < 2 ^ n) (h2:q.den < 2 ^ n) (hn:n<=k):Bq k q:=Bq.mono ⟨h1,by unfold Bd;rw [Int.natAbs_natCast];exact h2⟩ hn
theorem qB8_0 {P_:Prop} (h:P_:=by exact⟨Yx.c 0 0,Yx.c 0 1,Yx.c 0 2,Yx.c 1 0,Yx.c 1 1,Yx.c 1 2,Yx.c 1 3,trivial⟩):P_:=h
theorem str_same (T:ByteArray):(T.toList==T.toList)=true:=beq_self_eq_true _
theorem same_any (a1:OA) (n1 c1:Nat) (m1:Bool) (d1:OA) (e1 f1:Nat) (q1:Rat) (s2:Int) (a2:OA) (n2 c2:Nat) (t2:Int) (d2:OA) (e2 f2:Nat) (w:World) (h1:Rd w (.slice a1 n1 c1) m1 (.slice d1 e1 f1) q1) (h2:Nq w s2 (.slice a2 n2 c2) t2 (.slice d2 e2 f2) q1) (k1:Nat) (b1:Bq k1 q1) (hk1:k1<=40000):
  Calls Tryz.prog 29 #[.agg #[.slice a1 n1 c1,.bool m1,.slice d1 e1 f1],.agg #[.int .i64 s2,.slice a2 n2 c2,.int .i64 t2,.slice d2 e2 f2]] w (fun e w'=>e= .returned (.bool true)/\Below w.heap.size w w'):=by
 obtain ⟨T,hT⟩:∃T:ByteArray,T=⟨(rtext q1).toArray⟩:=⟨_,rfl⟩
 have hTT:=str_same T;have HT:=ζ (show rtext q1=T.data.toList by rw [hT]);have AC:=ζ hT;have B1:=ζ b1;clear hT b1;have hC:=ζ (((((St.enter w).pr h1).pq h2).al (w.heap.size) #[.slice a1 n1 c1,.bool m1,.slice d1 e1 f1] 42 rfl rfl).al (w.heap.size+1) #[.int .i64 s2,.slice a2 n2 c2,.int .i64 t2,.slice d2 e2 f2] 50 (by simp) rfl);clear h1 h2;go_enter Tryz.func29,Tryz.ntmps29;go_wp2;go_region_held3 (fun w'=>w'.cell? ⟨w.heap.size,0,none⟩=some (.slice a1 n1 c1)/\w'.cell? ⟨w.heap.size,1,none⟩=some (.bool m1)/\w'.cell? ⟨w.heap.size,2,none⟩=some (.slice d1 e1 f1)/\w'.cell? ⟨w.heap.size+1,0,none⟩=some (.int .i64 s2)/\w'.cell? ⟨w.heap.size+1,1,none⟩=some (.slice a2 n2 c2)/\w'.cell? ⟨w.heap.size+1,2,none⟩=some (.int .i64 t2)/\w'.cell? ⟨w.heap.size+1,3,none⟩=some (.slice d2 e2 f2)/\True)
  (first
   | (with_reducible refine aG w5 ?_;have Yx:=AB.out;exact qB8_0)
   | (with_reducible refine aG w4 ?_;have Yx:=AA.out;exact qB8_0)
   | (with_reducible refine aG _ ?_;have Yx:=hC.out.drew;exact qB8_0)|fail)
  (first
   | (have _t:=AA;go_at_call 71;refine(rtextN_is (AA.out.rq 1 rfl) B1.out (by omega) HT.out).mono ?_;rintro e w5 ⟨rfl,hb⟩;have AB:=ζ ((AA.out.call hb));clear hb;clear _t AA)
   | (have _t:=hC;go_at_call 59;refine(rtext_is (hC.out.drew.r 0 rfl) B1.out (by omega) HT.out).mono ?_;rintro e w4 ⟨rfl,hb⟩;have AA:=ζ ((hC.out.drew.call hb));clear hb;clear _t hC)
   | fail)
 go_wp2;go_ret;exact⟨rfl,AB.out.be⟩
section
variable {w:World} {a1:OA} {n1 c1:Nat} {m1:Bool} {z1:Int} {s1:Int} {s2:Int} {a2:OA} {n2 c2:Nat} {z2:Int} {d1:OA} {e1 f1:Nat} {q1:Rat} {t2:Int} {d2:OA} {e2 f2:Nat} {k1 k2:Nat}
theorem same_b (h1:Rd w (.slice a1 n1 c1) m1 (.slice d1 e1 f1) q1) (h2:Nq w s2 (.slice a2 n2 c2) t2 (.slice d2 e2 f2) q1) (b1:Bq k1 q1) (hk1:k1<=40000):
  Calls Tryz.prog 29 #[.agg #[.slice a1 n1 c1,.bool m1,.slice d1 e1 f1],.agg #[.int .i64 s2,.slice a2 n2 c2,.int .i64 t2,.slice d2 e2 f2]] w (fun e w'=>e= .returned (.bool true)/\Below w.heap.size w w'):=same_any _ _ _ _ _ _ _ _ _ _ _ _ _ _ _ _ _ h1 h2 _ b1 hk1
end
section
open Go.RowKit Go.Shelf Dig
section
variable {l:List Pt} {a b unit least most depth:Int}
theorem be_str {k:Int} (h:strErr l a b=k) (h0:k≠0):bestErr l a b unit least most depth=k:=by unfold bestErr;rw [h,if_neg h0]
theorem be_far (h:strErr l a b=0) (hb:bestB unit least most depth=false):bestErr l a b unit least most depth=3:=by unfold bestErr;rw [if_pos h,hb];rfl
theorem be_arg (h:strErr l a b=0) (hb:bestB unit least most depth=true) (hn:¬ ((b - a) % unit=0/\(b - a) / unit<=60)):bestErr l a b unit least most depth=2:=by unfold bestErr;rw [if_pos h,if_pos hb,if_neg hn]
theorem be_ok (h:strErr l a b=0) (hb:bestB unit least most depth=true) (hn:(b - a) % unit=0/\(b - a) / unit<=60):bestErr l a b unit least most depth=0:=by unfold bestErr;rw [if_pos h,if_pos hb,if_pos hn]
theorem be_zero (h:bestErr l a b unit least most depth=0):strErr l a b=0/\bestB unit least most depth=true/\(b - a) % unit=0/\(b - a) / unit<=60:=by
 unfold bestErr at h
 split at h
 ·rename_i h0
  split at h
  ·rename_i h1
   split at h
   ·rename_i h2;exact⟨h0,h1,h2⟩
   ·cases h
  ·cases h
 ·rename_i h0;exact absurd h h0
theorem bestB_iff:bestB unit least most depth=true↔1<=unit/\(0<=depth/\depth<=3000)/\(1<=most/\most<=60)/\1<=least/\least<=200000:=by
 unfold bestB;rw [Bool.and_eq_true,Bool.and_eq_true,Bool.and_eq_true,inB_iff,inB_iff,inB_iff,decide_eq_true_iff]
end
section
variable (w:World)
theorem mQ18_0 {P_:Prop} (h:P_:=by
 go_wp2_with (first | ((with_reducible refine(HD.out _).mono ?_);rintro e w1 ⟨rfl,rfl⟩) | ((with_reducible refine(HM.out _).mono ?_);rintro e w1 ⟨rfl,rfl⟩) | ((with_reducible refine(HL.out _).mono ?_);rintro e w1 ⟨rfl,rfl⟩))
 go_meet;exact⟨by rw [HR.out],hE⟩):P_:=h
theorem hillBest_walk (la:OA) (ln lc:Nat) (l:List Pt) (a b unit least most depth:Int) (hs:Sx 2 w la ln lc (L2 l)):
  Calls Tryz.prog 5 #[.slice la ln lc,.int .i64 a,.int .i64 b,.int .i64 unit,.int .i64 least,.int .i64 most,.int .i64 depth] w (Gives (.bool true) w):=by
 have HW:=ζ wakes08;obtain rfl:=hs.n2;have hC:=ζ (Sy.enter w);by_cases g0:50 < l.length
 ·have pl1:=decide_eq_true (show(50:Int) < (l.length:Int)by omega);have pl2:=decide_eq_true (show 50 < l.length by omega);clear g0;go_enter Tryz.func5,Tryz.ntmps5;go_wp2_with fail
  refine(HW.out _).mono ?_;rintro e WZ ⟨rfl,hb⟩;have hZ:=ζ (hC.out.call hb);clear hb;go_wp2;go_ret;exact⟨rfl,hZ.out.be⟩
 have pl1:=decide_eq_false (show ¬ (50:Int) < (l.length:Int)by omega);have pl2:=decide_eq_false (show ¬ 50 < l.length by omega);have HS:=ζ (fun W (hW:Below w.heap.size w W)=>hs.below hW);have AG:=ζ (fun W (hW:Below w.heap.size w W)=>conv_Pts la l.length lc l W (HS.out W hW) (by omega));have HV:=ζ (fun W (hW:Below w.heap.size w W)=>rValid_any W la l.length lc l (HS.out W hW));have AI:=ζ (fun W (hW:Below w.heap.size w W) h0=>rStretch_any W la l.length lc l a b (HS.out W hW) h0);have HD:=ζ (fun W=>rIn_any W depth 0 3000);have HM:=ζ (fun W=>rIn_any W most 1 60);have HL:=ζ (fun W=>rIn_any W least 1 200000);have AJ:=ζ (fun er he h0 W c1 c (hh:Sx 2 W c1 l.length c (L2 l))=>hBest_bad W c1 l.length c l a b unit least most depth hh er he h0);obtain ⟨er,her⟩:∃er,bestErr l a b unit least most depth=er:=⟨_,rfl⟩
 have AB:=ζ her;clear hs g0 her;obtain ⟨pb,hpb⟩:∃pb,profB l=pb:=⟨_,rfl⟩
 have AK:=ζ hpb;rw [hpb]at HV;clear hpb;go_enter Tryz.func5,Tryz.ntmps5;go_wp2_with fail
 refine(HV.out _ hC.out.be).mono ?_;rintro e W1 ⟨rfl,hb⟩;have hD:=ζ (hC.out.call hb);clear hb hC HV;go_upto_if 28 with fail
 go_cut [15] (fun wv wx=>wv= .int .i64 er/\Hid (Sy w wx [] [] []))
 case first=>
  clear AJ AG;cases pb
  ·have HR:=ζ (show er=2 from AB.out.symm.trans (be_str (strErr_bad AK.out) (by decide)));go_wp2;go_meet;exact⟨by rw [HR.out],hD⟩
  have qp:=AK.out;have AD:=ζ (fun W hW=>AI.out W hW (by have:=(prof_iff.1 qp).two;omega));clear AI;cases qs:strB l a b
  ·have HR:=ζ (show er=11 from AB.out.symm.trans (be_str (strErr_no qp qs) (by decide)));rw [qs]at AD;clear qp qs;go_wp2_with fail
   refine(AD.out _ hD.out.be).mono ?_;rintro e W2 ⟨rfl,hb⟩;have hE:=ζ (hD.out.call hb);clear hb hD;go_wp2;go_meet;exact⟨by rw [HR.out],hE⟩
  rw [qs]at AD;have he0:=strErr_ok qp qs;have hT:=(strErr_zero he0).in100;have AE:=ζ he0;clear qp qs he0;have w0:IntKind.i64.wrap (b - a)=b - a:=IntWalk.i64_in _ (by omega);have hba0:0<=b - a:=by omega
  have hba1:b - a<=200000:=by omega
  clear hT;go_wp2_with fail
  refine(AD.out _ hD.out.be).mono ?_;rintro e W2 ⟨rfl,hb⟩;have hE:=ζ (hD.out.call hb);clear hb hD;by_cases q0:unit < 1
  ·have HR:=ζ (show er=3 from AB.out.symm.trans (be_far AE.out (by unfold bestB;rw [decide_eq_false (show ¬ 1<=unit by omega)];rfl)));have d1:=decide_eq_true q0;go_wp2;go_meet;exact⟨by rw [HR.out],hE⟩
  have d1:=decide_eq_false q0;have w4:IntKind.i64.wrap ((b - a).tdiv unit)=(b - a) / unit:=by rw [Int.tdiv_eq_ediv_of_nonneg hba0];exact IntWalk.i64_in _ (by have h1:=Int.ediv_le_self unit hba0;have h2:=Int.ediv_nonneg hba0 (show 0<=unit by omega);omega)
  cases q1:inB depth 0 3000
  ·have HR:=ζ (show er=3 from AB.out.symm.trans (be_far AE.out (by unfold bestB;rw [q1,Bool.false_and,Bool.and_false])));rw [q1]at HD;clear q1;exact mQ18_0
  rw [q1]at HD;cases q2:inB most 1 60
  ·have HR:=ζ (show er=3 from AB.out.symm.trans (be_far AE.out (by unfold bestB;rw [q2,Bool.false_and,Bool.and_false,Bool.and_false])));rw [q2]at HM;clear q1 q2;exact mQ18_0
  rw [q2]at HM;cases q3:inB least 1 200000
  ·have HR:=ζ (show er=3 from AB.out.symm.trans (be_far AE.out (by unfold bestB;rw [q3,Bool.and_false,Bool.and_false,Bool.and_false])));rw [q3]at HL;clear q1 q2 q3;exact mQ18_0
  rw [q3]at HL;have AL:=ζ (show bestB unit least most depth=true by unfold bestB;rw [q1,q2,q3,decide_eq_true (show 1<=unit by omega)];rfl);clear q1 q2 q3;have u0:unit≠0:=by omega
  by_cases q4:(b - a) % unit=0;rotate_left
  ·have HR:=ζ (show er=2 from AB.out.symm.trans (be_arg AE.out AL.out (fun h=>q4 h.1)));have d4:decide ((b - a) % unit=0)=false:=decide_eq_false q4;exact mQ18_0
  by_cases q5:(b - a) / unit<=60;rotate_left
  ·have HR:=ζ (show er=2 from AB.out.symm.trans (be_arg AE.out AL.out (fun h=>q5 h.2)));have q6:60 < (b - a) / unit:=(by omega);clear q5;exact mQ18_0
  have HR:=ζ (show er=0 from AB.out.symm.trans (be_ok AE.out AL.out ⟨q4,q5⟩));have q6:¬ 60 < (b - a) / unit:=by omega
  clear q5;exact mQ18_0
 case rest=>
  clear hD AI HD HM HL AK;obtain ⟨rfl,hC⟩:=hcut;by_cases h0:er=0;rotate_left
  ·have d0:decide (er=0)=false:=decide_eq_false h0;have d1:(er !=0)=true:=(by simp [h0]);go_wp2_with fail
   refine(AG.out _ hC.out.be).mono ?_;rintro e W1 ⟨a1,c1,rfl,hr,hb⟩;have hD:=ζ (show Sy w _ [] [⟨.slice a1 l.length c1,83,2,l.length,L2 l⟩] []from hC.out.adopt hb hr);clear hb hr hC AG;go_wp2_with fail
   refine(AJ.out er AB.out h0 _ _ _ (hD.out.osx 0 rfl)).mono ?_;rintro e W2 h;obtain ⟨rfl,hb⟩:=(show _/\_ from h)
   have hY:=ζ (hD.out.call hb);clear hb hD h;go_upto_region 17 with fail
   have hX:=ζ (show Sy w _ [(W2.heap.size,zR,42),(W2.heap.size+1,zQ,50)] [⟨.slice a1 l.length c1,83,2,l.length,L2 l⟩] []from(hY.out.al W2.heap.size zR 42 rfl|>.al (W2.heap.size+1) zQ 50 (by simp)));obtain ⟨b20,eb20⟩:∃b,W2.heap.size+1=b:=⟨_,rfl⟩
   rw [eb20]at hX⊢;obtain ⟨b17,eb17⟩:∃b,W2.heap.size=b:=⟨_,rfl⟩
   rw [eb17]at hX⊢;refine wp_geny hX.out ?_;intro WN1 hc;have AC:=ζ hc;clear hc hX eb20 eb17 hY;have AA:=ζ (AC.out.pR rfl rfl (Rd.nil (w:=WN1)));clear AC;have y0_0:=AA.out.c 0 0;have y0_1:=AA.out.c 0 1;have y0_2:=AA.out.c 0 2;go_wp2_with fail
   have hR:=ζ (AA.out.onew WN1.heap.size zR 42 3 1 rfl (by omega) rfl);refine(nil0_any _ _ 1 1 (RowZ.of1 hR.out 1 rfl (hR.out.r 0 rfl)) (by omega)).mono ?_;rintro e WN3 ⟨rfl,hb⟩;have AF:=ζ (show Sy w _ [(b17,zR,42),(b20,zQ,50)] [⟨.slice a1 l.length c1,83,2,l.length,L2 l⟩] [(fun V=>Rd V (.slice none 0 0) false (.slice none 0 0) (0))]from(hR.out.call hb).thin (List.Sublist.refl _) (List.sublist_append_left [_] _));clear hb hR AA y0_0 y0_1 y0_2;go_wp2_with fail
   refine(HW.out _).mono ?_;rintro e WZ ⟨rfl,hb⟩;have hZ:=ζ (AF.out.call hb);clear hb;go_wp2;go_ret;exact⟨rfl,hZ.out.be⟩
  subst h0;obtain ⟨hse,hbb,hmod,hdiv⟩:=be_zero AB.out;have hbi:=bestB_iff.1 hbb;have hT:=strErr_zero hse;have h100:=hT.in100;obtain ⟨n,hn⟩:=Int.eq_ofNat_of_zero_le (Int.ediv_nonneg (show 0<=b - a by omega) (show 0<=unit by omega));have hq:(b - a) / unit*unit=b - a:=Int.ediv_mul_cancel (Int.dvd_of_emod_eq_zero hmod);have hbn:b=atC a unit n:=by rw [hn]at hq;unfold atC;omega
  have w0:IntKind.i64.wrap (b - a)=b - a:=IntWalk.i64_in _ (by omega);have hba0:0<=b - a:=by omega
  have u0:unit≠0:=by omega
  have hba1:b - a<=200000:=by omega
  have hu1:1<=unit:=hbi.1;have w4:IntKind.i64.wrap ((b - a).tdiv unit)=(b - a) / unit:=by rw [Int.tdiv_eq_ediv_of_nonneg hba0];exact IntWalk.i64_in _ (by have h1:=Int.ediv_le_self unit hba0;have h2:=Int.ediv_nonneg hba0 (show 0<=unit by omega);omega)
  by_cases h8:8 < (b - a) / unit
  ·clear hn hq hbn;go_wp2_with fail
   refine(HW.out _).mono ?_;rintro e WZ ⟨rfl,hb⟩;have hZ:=ζ (hC.out.call hb);clear hb;go_wp2;go_ret;exact⟨rfl,hZ.out.be⟩
  have hn0:0 < n:=by
   rcases Nat.eq_zero_or_pos n with e | e
   ·subst e;rw [hn]at hq;omega
   ·exact e
  have hu2:unit<=200000:=by
   have h1:=Int.mul_le_mul_of_nonneg_right (show(1:Int)<=(n:Int)by omega) (show 0<=unit by omega);rw [hn]at hq;omega
  have hn8:n<=8:=by omega
  obtain ⟨mo,hmo⟩:=Int.eq_ofNat_of_zero_le (show 0<=most by omega);subst hmo;have hp:profB l=true:=by
   cases h:profB l
   ·rw [strErr_bad h]at hse;cases hse
   ·rfl
  have AM:=ζ (fun W c1 c (hh:Sx 2 W c1 l.length c (L2 l))=>hBest_ok W c1 l.length c l a b unit least depth hh n mo hse hbn (by omega) hbi.1 hbi.2.1 (by omega) hbi.2.2.2);have AH:=ζ (fun W (hW:Below w.heap.size w W)=>rBest_any W la l.length lc l a unit least depth n mo (HS.out W hW) hp (hbn ▸ hT) ⟨hbi.1,hu2⟩ hbi.2.2.2 hbi.2.1 ⟨hn0,hn8⟩ (by omega));rw [<-hbn]at AH;have AN:=ζ (fun c (h:bestC l a unit least depth n mo=some c)=>show Bq 17800 c.1 by
   obtain ⟨t,h1,h2,h3⟩:=best_chn h;exact h3.bq hbi.1 (hbn ▸ hT) (Nat.le_refl n) (by omega) hp hbi.2.1)
  clear hse hbb hmod hdiv hbi hT h100 hn hq hbn hn0 hu2 hn8 hp AJ AB HS;obtain ⟨bst,hbst⟩:∃o,bestC l a unit least depth n mo=o:=⟨_,rfl⟩
  rw [hbst]at AM AH AN;clear hbst;have d8:decide (8 < (b - a) / unit)=false:=decide_eq_false h8;go_wp2_with fail
  refine(AG.out _ hC.out.be).mono ?_;rintro e W1 ⟨a1,c1,rfl,hr,hb⟩;have hD:=ζ (show Sy w _ [] [⟨.slice a1 l.length c1,83,2,l.length,L2 l⟩] []from hC.out.adopt hb hr);clear hb hr hC AG;cases bst with
  | none=>
    go_wp2_with fail
    refine(AM.out _ _ _ (hD.out.osx 0 rfl)).mono ?_;rintro e W2 h;obtain ⟨rfl,hb⟩:=(show _/\_ from h)
    have hY:=ζ (hD.out.call hb);clear hb hD h;go_upto_region 17 with fail
    have hX:=ζ (show Sy w _ [(W2.heap.size,zR,42),(W2.heap.size+1,zQ,50)] [⟨.slice a1 l.length c1,83,2,l.length,L2 l⟩] []from(hY.out.al W2.heap.size zR 42 rfl|>.al (W2.heap.size+1) zQ 50 (by simp)));obtain ⟨b20,eb20⟩:∃b,W2.heap.size+1=b:=⟨_,rfl⟩
    rw [eb20]at hX⊢;obtain ⟨b17,eb17⟩:∃b,W2.heap.size=b:=⟨_,rfl⟩
    rw [eb17]at hX⊢;refine wp_geny hX.out ?_;intro WN1 hc;have AC:=ζ hc;clear hc hX eb20 eb17 hY;have AA:=ζ (AC.out.pR rfl rfl (Rd.nil (w:=WN1)));clear AC;go_wp2_with fail
    refine(AH.out _ AA.out.be).mono ?_;rintro e W5 ⟨ba,bn,bc,su,au,nu,cu,tu,du,eu,fu,rfl,HQ,hb⟩;have hP:=ζ (AA.out.call hb);clear hb HQ AA;have z0:=hP.out.c 1 0;have z1:=hP.out.c 1 1;have z2:=hP.out.c 1 2;have z3:=hP.out.c 1 3;have f0:=hP.out.f 1 0;have f1:=hP.out.f 1 1;have f2:=hP.out.f 1 2;have f3:=hP.out.f 1 3;go_upto_region 20 with fail
    refine wp_geny (show Sy w _ [(b17,zR,42),(b20,#[.int .i64 su,.slice au nu cu,.int .i64 tu,.slice du eu fu],50)] [⟨.slice a1 l.length c1,83,2,l.length,L2 l⟩] [(fun V=>Rd V (.slice none 0 0) false (.slice none 0 0) (0))]from(hP.out|>.set (j:=0) (v:= .int .i64 su) 1 rfl|>.set (j:=1) (v:= .slice au nu cu) 1 rfl|>.set (j:=2) (v:= .int .i64 tu) 1 rfl|>.set (j:=3) (v:= .slice du eu fu) 1 rfl)) ?_;intro WN3 hc;have AF:=ζ hc;clear hc hP z0 f0 z1 f1 z2 f2 z3 f3;have y0_0:=AF.out.c 0 0;have y0_1:=AF.out.c 0 1;have y0_2:=AF.out.c 0 2;go_wp2_with fail
    have hR:=ζ (AF.out.onew WN3.heap.size zR 42 3 1 rfl (by omega) rfl);refine(nil0_any _ _ 1 1 (RowZ.of1 hR.out 1 rfl (hR.out.r 0 rfl)) (by omega)).mono ?_;rintro e WN4 ⟨rfl,hb⟩;have AO:=ζ (show Sy w _ [(b17,zR,42),(b20,#[.int .i64 su,.slice au nu cu,.int .i64 tu,.slice du eu fu],50)] [⟨.slice a1 l.length c1,83,2,l.length,L2 l⟩] [(fun V=>Rd V (.slice none 0 0) false (.slice none 0 0) (0))]from(hR.out.call hb).thin (List.Sublist.refl _) (List.sublist_append_left [_] _));clear hb hR AF y0_0 y0_1 y0_2;go_wp2_with fail
    refine(HW.out _).mono ?_;rintro e WZ ⟨rfl,hb⟩;have hZ:=ζ (AO.out.call hb);clear hb;go_wp2;go_ret;exact⟨rfl,hZ.out.be⟩
  | some cst=>
    go_wp2_with fail
    refine(AM.out _ _ _ (hD.out.osx 0 rfl)).mono ?_;rintro e W2 ⟨ap,np,cp,mp,dp,ep,fp,ca,cn,cc,rfl,hz,hr,hb⟩;have hY:=ζ (((show Sy w _ [] ([⟨.slice a1 l.length c1,83,2,l.length,L2 l⟩]++ [⟨.slice ca cn cc,3,1,cn,L1 cst.2⟩]) []from hD.out.adopt hb hr).retire).pR rfl rfl hz);clear hb hz hr hD;go_upto_region 17 with fail
    have hX:=ζ (show Sy w _ [(W2.heap.size,#[.slice ap np cp,.bool mp,.slice dp ep fp],42),(W2.heap.size+1,zQ,50)] [⟨.slice a1 l.length c1,83,2,l.length,L2 l⟩] [(fun V=>V.ownsRow w.heap.size 3 1 (.slice ca cn cc) cn (L1 cst.2)),(fun V=>Rd V (.slice ap np cp) mp (.slice dp ep fp) (cst.1))]from(hY.out.al W2.heap.size #[.slice ap np cp,.bool mp,.slice dp ep fp] 42 rfl|>.al (W2.heap.size+1) zQ 50 (by simp)));obtain ⟨b20,eb20⟩:∃b,W2.heap.size+1=b:=⟨_,rfl⟩
    rw [eb20]at hX⊢;obtain ⟨b17,eb17⟩:∃b,W2.heap.size=b:=⟨_,rfl⟩
    rw [eb17]at hX⊢;refine wp_geny hX.out ?_;intro WN1 hc;have AC:=ζ hc;clear hc hX eb20 eb17 hY;go_wp2_with fail
    refine(AH.out _ AC.out.be).mono ?_;rintro e W5 ⟨ba,bn,bc,su,au,nu,cu,tu,du,eu,fu,rfl,HQ,hb⟩;obtain ⟨hq,hx⟩:=HQ.out cst rfl;have hP:=ζ (((AC.out.call hb).push (r:=(fun V=>Sx 1 V ba bn bc (L1 cst.2))) (fun V hV=>hx V (AC.out.newer hV))).pq rfl rfl hq);clear hb HQ hq hx AC;have z0:=hP.out.c 1 0;have z1:=hP.out.c 1 1;have z2:=hP.out.c 1 2;have z3:=hP.out.c 1 3;have f0:=hP.out.f 1 0;have f1:=hP.out.f 1 1;have f2:=hP.out.f 1 2;have f3:=hP.out.f 1 3;go_upto_region 20 with fail
    refine wp_geny (show Sy w _ [(b17,#[.slice ap np cp,.bool mp,.slice dp ep fp],42),(b20,#[.int .i64 su,.slice au nu cu,.int .i64 tu,.slice du eu fu],50)] [⟨.slice a1 l.length c1,83,2,l.length,L2 l⟩] [(fun V=>V.ownsRow w.heap.size 3 1 (.slice ca cn cc) cn (L1 cst.2)),(fun V=>Rd V (.slice ap np cp) mp (.slice dp ep fp) (cst.1)),(fun V=>Sx 1 V ba bn bc (L1 cst.2)),(fun V=>Nq V su (.slice au nu cu) tu (.slice du eu fu) (cst.1))]from(hP.out|>.set (j:=0) (v:= .int .i64 su) 1 rfl|>.set (j:=1) (v:= .slice au nu cu) 1 rfl|>.set (j:=2) (v:= .int .i64 tu) 1 rfl|>.set (j:=3) (v:= .slice du eu fu) 1 rfl)) ?_;intro WN2 hc;have AA:=ζ hc;clear hc hP z0 f0 z1 f1 z2 f2 z3 f3;have hi:=ints_any _ _ _ _ _ _ _ _ _ (Sx.owns (AA.out.r 0 rfl)) (AA.out.r 2 rfl);rw [decide_eq_true rfl]at hi;have HI:=ζ hi;clear hi;go_wp2_with fail
    refine HI.out.mono ?_;rintro e WI ⟨rfl,hb⟩;have hJ:=ζ (AA.out.call hb);clear hb AA HI;have y0:=hJ.out.c 0 0;have y1:=hJ.out.c 0 1;have y2:=hJ.out.c 0 2;have z0:=hJ.out.c 1 0;have z1:=hJ.out.c 1 1;have z2:=hJ.out.c 1 2;have z3:=hJ.out.c 1 3;go_wp2_with fail
    refine(same_b (hJ.out.r 1 rfl) (hJ.out.r 3 rfl) (AN.out cst rfl) (by omega)).mono ?_;rintro e WJ ⟨rfl,hb⟩;have hK:=ζ (hJ.out.call hb);clear hb hJ y0 y1 y2 z0 z1 z2 z3;go_wp2_with fail
    refine(HW.out _).mono ?_;rintro e WZ ⟨rfl,hb⟩;have hZ:=ζ (hK.out.call hb);clear hb;go_wp2;go_ret;exact⟨rfl,hZ.out.be⟩
end
end
end Go.Proofs.YthmdhlopeponcaaGreatDoor
