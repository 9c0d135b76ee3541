/- ratios: Parse -/
import Derived.Test.YthmdhlopeponcaaGreatDoorX18
import Derived.Test.YthmdhlopeponcaaGreatDoorX52
import Derived.Test.YthmdhlopeponcaaGreatDoorX22
import Derived.Test.YthmdhlopeponcaaGreatDoorX21
import Derived.Test.YthmdhlopeponcaaGreatDoorX0
import Derived.Test.YthmdhlopeponcaaGreatDoorX51
import Derived.Test.YthmdhlopeponcaaGreatDoorX42
import Derived.Test.YthmdhlopeponcaaGreatDoorX44
import Derived.Test.YthmdhlopeponcaaGreatDoorX1
import Derived.Test.YthmdhlopeponcaaGreatDoorX48
import Derived.Test.YthmdhlopeponcaaGreatDoorX29
import Derived.Test.YthmdhlopeponcaaGreatDoorX34
import Derived.Test.YthmdhlopeponcaaGreatDoorX26
set_option maxRecDepth 100000
set_option maxHeartbeats 8000000
namespace Go.Proofs.YthmdhlopeponcaaGreatDoor
open Go.RowKit Dig
theorem ztext_pos {l:List UInt8} {n:Nat} (h:Dec.isDec l=true) (hv:Dec.val l=n):Dec.ztext (n:Int)=l:=by
 unfold Dec.ztext
 rw [if_neg (by omega),Int.natAbs_natCast,←hv,Dec.dec_val h]
theorem ba_of {B:ByteArray} {l:List UInt8} (h:l=B.data.toList):(⟨l.toArray⟩:ByteArray)=B:=by subst h;rfl
section
variable {w:World} {a:Option Addr} {n c:Nat} {m:Bool} {z:Int} {k:Nat} {d:Option Addr} {e f:Nat} {q:Rat}
theorem rtext_is (h:Rd w (.slice a n c) m (.slice d e f) q) (hb:Bq k q) (hk:k≤40000) {B:ByteArray} (hB:rtext q=B.data.toList):
  Calls Tryz.prog 59 #[.agg #[.slice a n c,.bool m,.slice d e f]] w fun e w'=>e= .returned (.string B)∧Below w.heap.size w w':=by
 have:=rtext_b h hb hk
 rw [ba_of hB]at this
 exact this
end
theorem s1:foldQ (· + ·) [(⟨1,2,by decide,by decide⟩:Rat),(⟨1,3,by decide,by decide⟩:Rat),(⟨1,6,by decide,by decide⟩:Rat)]=(⟨1,1,by decide,by decide⟩:Rat):=by kernel_rfl
theorem t1:rtext (⟨1,1,by decide,by decide⟩:Rat)= [49]:=by
 unfold rtext
 rw [if_pos (by decide)]
 exact ztext_pos (n:=1) (by decide) (by decide)
theorem bq {n k:Nat} {q:Rat} (h1:q.num.natAbs < 2 ^ n) (h2:q.den < 2 ^ n) (hn:n≤k):Bq k q:=Bq.mono ⟨h1,by unfold Bd;rw [Int.natAbs_natCast];exact h2⟩ hn
theorem str_same (T:ByteArray):(T.toList==T.toList)=true:=beq_self_eq_true _
theorem same_any (a1:Option Addr) (n1 c1:Nat) (m1:Bool) (d1:Option Addr) (e1 f1:Nat) (q1:Rat) (s2:Int) (a2:Option Addr) (n2 c2:Nat) (t2:Int) (d2:Option Addr) (e2 f2:Nat) (w:World) (h1:Rd w (.slice a1 n1 c1) m1 (.slice d1 e1 f1) q1) (h2:Nq w s2 (.slice a2 n2 c2) t2 (.slice d2 e2 f2) q1) (k1:Nat) (b1:Bq k1 q1) (hk1:k1≤40000):
  Calls Tryz.prog 29 #[.agg #[.slice a1 n1 c1,.bool m1,.slice d1 e1 f1],.agg #[.int .i64 s2,.slice a2 n2 c2,.int .i64 t2,.slice d2 e2 f2]] w (fun e w'=>e= .returned (.bool true)∧Below w.heap.size w w'):=by
 obtain ⟨T,hT⟩:∃T:ByteArray,T=⟨(rtext q1).toArray⟩:=⟨_,rfl⟩
 have hTT:=str_same T
 have HT:=ζ (show rtext q1=T.data.toList from by rw [hT])
 have HT2:=ζ hT
 have B1:=ζ b1
 clear hT b1
 have hC:=ζ (((((St.enter w).pr h1).pq h2).al (w.heap.size) #[.slice a1 n1 c1,.bool m1,.slice d1 e1 f1] 42 rfl rfl).al (w.heap.size+1) #[.int .i64 s2,.slice a2 n2 c2,.int .i64 t2,.slice d2 e2 f2] 50 (by simp) rfl)
 clear h1 h2
 go_enter Tryz.func29,Tryz.ntmps29
 go_wp2
 go_region_held3 (fun w'=>w'.cell? ⟨w.heap.size,0,none⟩=some (.slice a1 n1 c1)∧w'.cell? ⟨w.heap.size,1,none⟩=some (.bool m1)∧w'.cell? ⟨w.heap.size,2,none⟩=some (.slice d1 e1 f1)∧w'.cell? ⟨w.heap.size+1,0,none⟩=some (.int .i64 s2)∧w'.cell? ⟨w.heap.size+1,1,none⟩=some (.slice a2 n2 c2)∧w'.cell? ⟨w.heap.size+1,2,none⟩=some (.int .i64 t2)∧w'.cell? ⟨w.heap.size+1,3,none⟩=some (.slice d2 e2 f2)∧True)
  (first
   | (with_reducible refine And.intro (?_:World.cell? w5 _=_) ?_;exact hC5.out.cell 0 0 rfl rfl;exact⟨hC5.out.cell 0 1 rfl rfl,hC5.out.cell 0 2 rfl rfl,hC5.out.cell 1 0 rfl rfl,hC5.out.cell 1 1 rfl rfl,hC5.out.cell 1 2 rfl rfl,hC5.out.cell 1 3 rfl rfl,trivial⟩)
   | (with_reducible refine And.intro (?_:World.cell? w4 _=_) ?_;exact hC4.out.cell 0 0 rfl rfl;exact⟨hC4.out.cell 0 1 rfl rfl,hC4.out.cell 0 2 rfl rfl,hC4.out.cell 1 0 rfl rfl,hC4.out.cell 1 1 rfl rfl,hC4.out.cell 1 2 rfl rfl,hC4.out.cell 1 3 rfl rfl,trivial⟩)
   | (with_reducible refine And.intro (?_:World.cell? _ _=_) ?_;exact hC.out.drew.cell 0 0 rfl rfl;exact⟨hC.out.drew.cell 0 1 rfl rfl,hC.out.drew.cell 0 2 rfl rfl,hC.out.drew.cell 1 0 rfl rfl,hC.out.drew.cell 1 1 rfl rfl,hC.out.drew.cell 1 2 rfl rfl,hC.out.drew.cell 1 3 rfl rfl,trivial⟩))
  (first
   | (have _t:=hC4;go_at_call 71;refine(rtextN_is (hC4.out.rq 1 rfl) B1.out (by omega) HT.out).mono ?_;rintro e w5 ⟨rfl,hb⟩;have hC5:=ζ ((hC4.out.call hb));clear hb;clear _t hC4)
   | (have _t:=hC;go_at_call 59;refine(rtext_is (hC.out.drew.r 0 rfl) B1.out (by omega) HT.out).mono ?_;rintro e w4 ⟨rfl,hb⟩;have hC4:=ζ ((hC.out.drew.call hb));clear hb;clear _t hC)
   | fail)
 go_wp2
 go_ret
 exact⟨rfl,hC5.out.be⟩
section
variable {w:World} {a1:Option Addr} {n1 c1:Nat} {m1:Bool} {z1:Int} {s1:Int} {s2:Int} {a2:Option Addr} {n2 c2:Nat} {z2:Int} {d1:Option Addr} {e1 f1:Nat} {q1:Rat} {t2:Int} {d2:Option Addr} {e2 f2:Nat} {k1 k2:Nat}
theorem same_b (h1:Rd w (.slice a1 n1 c1) m1 (.slice d1 e1 f1) q1) (h2:Nq w s2 (.slice a2 n2 c2) t2 (.slice d2 e2 f2) q1) (b1:Bq k1 q1) (hk1:k1≤40000):
  Calls Tryz.prog 29 #[.agg #[.slice a1 n1 c1,.bool m1,.slice d1 e1 f1],.agg #[.int .i64 s2,.slice a2 n2 c2,.int .i64 t2,.slice d2 e2 f2]] w (fun e w'=>e= .returned (.bool true)∧Below w.heap.size w w'):=same_any _ _ _ _ _ _ _ _ _ _ _ _ _ _ _ _ _ h1 h2 _ b1 hk1
end
section
open Go.RowKit Go.Shelf Dig
section
variable (w:World)
theorem hillGrounds_walk (la:Option Addr) (ln lc:Nat) (l:List Pt) (x a b:Int) (hs:Sx 2 w la ln lc (L2 l)):
  Calls Tryz.prog 13 #[.slice la ln lc,.int .i64 x,.int .i64 a,.int .i64 b] w (Gives (.bool true) w):=by
 have HW:=ζ wakes08
 obtain rfl:=hs.n2
 have hC:=ζ (Sy.enter w)
 by_cases g0:50 < l.length
 ·have pl1:=decide_eq_true (show(50:Int) < (l.length:Int)by omega)
  have pl2:=decide_eq_true (show 50 < l.length by omega)
  clear g0
  go_enter Tryz.func13,Tryz.ntmps13
  go_wp2_with fail
  refine(HW.out _).mono ?_
  rintro e WZ ⟨rfl,hb⟩
  have hZ:=ζ (hC.out.call hb)
  clear hb
  go_wp2
  go_ret
  exact⟨rfl,hZ.out.be⟩
 have pl1:=decide_eq_false (show ¬ (50:Int) < (l.length:Int)by omega)
 have pl2:=decide_eq_false (show ¬ 50 < l.length by omega)
 have HS:=ζ (fun W (hW:Below w.heap.size w W)=>hs.below hW)
 have HPT:=ζ (fun W (hW:Below w.heap.size w W)=>conv_Pts la l.length lc l W (HS.out W hW) (by omega))
 have HV:=ζ (fun W (hW:Below w.heap.size w W)=>rValid_any W la l.length lc l (HS.out W hW))
 have HHA:=ζ (fun W (hW:Below w.heap.size w W) h0=>rHas_any W la l.length lc l x (HS.out W hW) h0)
 have HSR:=ζ (fun W (hW:Below w.heap.size w W) h0=>rStretch_any W la l.length lc l a b (HS.out W hW) h0)
 have HRG:=ζ (fun W (hW:Below w.heap.size w W)=>rGround_any W la l.length lc l x (HS.out W hW))
 have HRB:=ζ (fun W (hW:Below w.heap.size w W)=>rBounds_any W la l.length lc l a b (HS.out W hW))
 clear hs g0
 go_enter Tryz.func13,Tryz.ntmps13
 go_wp2_with fail
 refine(HPT.out _ hC.out.be).mono ?_
 rintro e W1 ⟨a1,c1,rfl,hr,hb⟩
 have hD:=ζ (show Sy w _ [] [⟨.slice a1 l.length c1,83,2,l.length,L2 l⟩] []from hC.out.adopt hb hr)
 clear hb hr hC HPT
 have HCK:=ζ (fun W c (hh:Sx 2 W a1 l.length c (L2 l))=>hcheck_any W a1 l.length c l hh)
 cases qp:profB l
 ·have HE:=ζ (strErr_bad (a:=a) (b:=b) qp)
  have HGB:=ζ (fun W c (hh:Sx 2 W a1 l.length c (L2 l))=>hground_bad W a1 l.length c l x hh qp)
  have HBB:=ζ (fun W c (hh:Sx 2 W a1 l.length c (L2 l))=>hBounds_bad W a1 l.length c l a b hh 2 HE.out (by decide))
  rw [qp]at HV
  have HPE:=ζ (profErr_no qp)
  rw [HPE.out]at HCK
  clear qp HE HPE
  go_wp2_with fail
  refine(HGB.out _ c1 (hD.out.osx 0 rfl)).mono ?_
  rintro e W ⟨ap,np,cp,mp,dp,ep,fp,rfl,hz,hb⟩
  have hY:=ζ ((hD.out.call hb).pR rfl rfl hz)
  clear hb hz hD
  go_upto_region 5 with fail
  have hX:=ζ (hY.out.al W.heap.size #[.slice ap np cp,.bool mp,.slice dp ep fp] 42 rfl)
  obtain ⟨b10,eb10⟩:∃b,W.heap.size=b:=⟨_,rfl⟩
  rw [eb10]at hX⊢
  refine wp_geny hX.out ?_
  intro WN1 hc
  have hN1:=ζ hc
  clear hc hX eb10 hY
  go_wp2_with fail
  refine(HBB.out _ c1 (hN1.out.osx 0 rfl)).mono ?_
  rintro e W ⟨aq,nq,cq,mq,dq,eq,fq,ar,nr,cr,mr,dr,er,fr,rfl,hz1,hz2,hb⟩
  have hY:=ζ (((hN1.out.call hb).pR rfl rfl hz1).pR rfl rfl hz2)
  clear hb hz1 hz2 hN1
  go_upto_region 6 with fail
  have hX:=ζ (show Sy w _ [(b10,#[.slice ap np cp,.bool mp,.slice dp ep fp],42),(W.heap.size,#[.slice aq nq cq,.bool mq,.slice dq eq fq],42),(W.heap.size+1,#[.slice ar nr cr,.bool mr,.slice dr er fr],42)] [⟨.slice a1 l.length c1,83,2,l.length,L2 l⟩] [(fun V=>Rd V (.slice ap np cp) mp (.slice dp ep fp) (0)),(fun V=>Rd V (.slice aq nq cq) mq (.slice dq eq fq) (0)),(fun V=>Rd V (.slice ar nr cr) mr (.slice dr er fr) (0))]from(hY.out.al W.heap.size #[.slice aq nq cq,.bool mq,.slice dq eq fq] 42 rfl|>.al (W.heap.size+1) #[.slice ar nr cr,.bool mr,.slice dr er fr] 42 (by simp)))
  obtain ⟨b13,eb13⟩:∃b,W.heap.size+1=b:=⟨_,rfl⟩
  rw [eb13]at hX⊢
  obtain ⟨b12,eb12⟩:∃b,W.heap.size=b:=⟨_,rfl⟩
  rw [eb12]at hX⊢
  refine wp_geny hX.out ?_
  intro WN2 hc
  have hN2:=ζ hc
  clear hc hX eb13 eb12 hY
  go_wp2_with fail
  refine(HV.out _ hN2.out.be).mono ?_
  rintro e WN3 ⟨rfl,hb⟩
  have hN3:=ζ (hN2.out.call hb)
  clear hb hN2
  go_wp2_with fail
  refine(HCK.out _ c1 (hN3.out.osx 0 rfl)).mono ?_
  rintro e WN4 ⟨rfl,hb⟩
  have hN4:=ζ (hN3.out.call hb)
  clear hb hN3
  have y0_0:=hN4.out.cell 0 0 rfl rfl
  have y0_1:=hN4.out.cell 0 1 rfl rfl
  have y0_2:=hN4.out.cell 0 2 rfl rfl
  have y1_0:=hN4.out.cell 1 0 rfl rfl
  have y1_1:=hN4.out.cell 1 1 rfl rfl
  have y1_2:=hN4.out.cell 1 2 rfl rfl
  have y2_0:=hN4.out.cell 2 0 rfl rfl
  have y2_1:=hN4.out.cell 2 1 rfl rfl
  have y2_2:=hN4.out.cell 2 2 rfl rfl
  go_wp2_with fail
  have hR:=ζ (hN4.out.onew WN4.heap.size #[.slice ap np cp,.bool mp,.slice dp ep fp,.slice aq nq cq,.bool mq,.slice dq eq fq,.slice ar nr cr,.bool mr,.slice dr er fr] 42 3 3 rfl (by omega) rfl)
  refine(nil0_any _ _ 3 3 (RowZ.of3 hR.out 1 rfl (hR.out.r 0 rfl) (hR.out.r 1 rfl) (hR.out.r 2 rfl)) (by omega)).mono ?_
  rintro e WN5 ⟨rfl,hb⟩
  have hN5:=ζ (show Sy w _ [(b10,#[.slice ap np cp,.bool mp,.slice dp ep fp],42),(b12,#[.slice aq nq cq,.bool mq,.slice dq eq fq],42),(b13,#[.slice ar nr cr,.bool mr,.slice dr er fr],42)] [⟨.slice a1 l.length c1,83,2,l.length,L2 l⟩] [(fun V=>Rd V (.slice ap np cp) mp (.slice dp ep fp) (0)),(fun V=>Rd V (.slice aq nq cq) mq (.slice dq eq fq) (0)),(fun V=>Rd V (.slice ar nr cr) mr (.slice dr er fr) (0))]from(hR.out.call hb).thin (List.Sublist.refl _) (List.sublist_append_left [_] _))
  clear hb hR hN4 y0_0 y0_1 y0_2 y1_0 y1_1 y1_2 y2_0 y2_1 y2_2
  go_wp2_with fail
  refine(HW.out _).mono ?_
  rintro e WZ ⟨rfl,hb⟩
  have hZ:=ζ (hN5.out.call hb)
  clear hb
  go_wp2
  go_ret
  exact⟨rfl,hZ.out.be⟩
 rw [qp]at HV
 have HPE:=ζ (profErr_yes qp)
 rw [HPE.out]at HCK
 have hP:=prof_iff.1 qp
 have HL0:=ζ (show 0 < l.length from by have:=hP.two;omega)
 have HHA2:=ζ (fun W hW=>HHA.out W hW HL0.out)
 have HSR2:=ζ (fun W hW=>HSR.out W hW HL0.out)
 have HRG2:=ζ (fun(h:hasB l x=true) W hW=>HRG.out W hW hP (inB_iff.1 h).1 (inB_iff.1 h).2)
 have HGD:=ζ (fun(h:hasB l x=true)=>hP.grd_gd (inB_iff.1 h).1 (inB_iff.1 h).2)
 have HQP:=ζ qp
 clear HHA HSR HRG HPE hP qp
 cases qx:hasB l x
 ·cases qs:strB l a b
  ·have HQX:=ζ qx
   have HQS:=ζ qs
   rw [qx]at HHA2
   rw [qs]at HSR2
   have HG:=ζ (fun W c (hh:Sx 2 W a1 l.length c (L2 l))=>hground_out W a1 l.length c l x hh HQP.out qx)
   have HB:=ζ (fun W c (hh:Sx 2 W a1 l.length c (L2 l))=>hBounds_bad W a1 l.length c l a b hh 11 (strErr_no HQP.out qs) (by decide))
   clear qx qs HRG2 HGD HRB
   go_wp2_with fail
   refine(HG.out _ c1 (hD.out.osx 0 rfl)).mono ?_
   rintro e W ⟨ap,np,cp,mp,dp,ep,fp,rfl,hz,hb⟩
   have hY:=ζ ((hD.out.call hb).pR rfl rfl hz)
   clear hb hz hD
   go_upto_region 5 with fail
   have hX:=ζ (hY.out.al W.heap.size #[.slice ap np cp,.bool mp,.slice dp ep fp] 42 rfl)
   obtain ⟨b10,eb10⟩:∃b,W.heap.size=b:=⟨_,rfl⟩
   rw [eb10]at hX⊢
   refine wp_geny hX.out ?_
   intro WN1 hc
   have hN1:=ζ hc
   clear hc hX eb10 hY
   go_wp2_with fail
   refine(HB.out _ c1 (hN1.out.osx 0 rfl)).mono ?_
   rintro e W ⟨aq,nq,cq,mq,dq,eq,fq,ar,nr,cr,mr,dr,er,fr,rfl,hz1,hz2,hb⟩
   have hY:=ζ (((hN1.out.call hb).pR rfl rfl hz1).pR rfl rfl hz2)
   clear hb hz1 hz2 hN1
   go_upto_region 6 with fail
   have hX:=ζ (show Sy w _ [(b10,#[.slice ap np cp,.bool mp,.slice dp ep fp],42),(W.heap.size,#[.slice aq nq cq,.bool mq,.slice dq eq fq],42),(W.heap.size+1,#[.slice ar nr cr,.bool mr,.slice dr er fr],42)] [⟨.slice a1 l.length c1,83,2,l.length,L2 l⟩] [(fun V=>Rd V (.slice ap np cp) mp (.slice dp ep fp) (0)),(fun V=>Rd V (.slice aq nq cq) mq (.slice dq eq fq) (0)),(fun V=>Rd V (.slice ar nr cr) mr (.slice dr er fr) (0))]from(hY.out.al W.heap.size #[.slice aq nq cq,.bool mq,.slice dq eq fq] 42 rfl|>.al (W.heap.size+1) #[.slice ar nr cr,.bool mr,.slice dr er fr] 42 (by simp)))
   obtain ⟨b13,eb13⟩:∃b,W.heap.size+1=b:=⟨_,rfl⟩
   rw [eb13]at hX⊢
   obtain ⟨b12,eb12⟩:∃b,W.heap.size=b:=⟨_,rfl⟩
   rw [eb12]at hX⊢
   refine wp_geny hX.out ?_
   intro WN2 hc
   have hN2:=ζ hc
   clear hc hX eb13 eb12 hY
   go_wp2_with fail
   refine(HV.out _ hN2.out.be).mono ?_
   rintro e WN3 ⟨rfl,hb⟩
   have hN3:=ζ (hN2.out.call hb)
   clear hb hN2
   go_wp2_with fail
   refine(HCK.out _ c1 (hN3.out.osx 0 rfl)).mono ?_
   rintro e WN4 ⟨rfl,hb⟩
   have hN4:=ζ (hN3.out.call hb)
   clear hb hN3
   go_wp2_with fail
   refine(HHA2.out _ hN4.out.be).mono ?_
   rintro e WN5 ⟨rfl,hb⟩
   have hN5:=ζ (hN4.out.call hb)
   clear hb hN4
   have y0_0:=hN5.out.cell 0 0 rfl rfl
   have y0_1:=hN5.out.cell 0 1 rfl rfl
   have y0_2:=hN5.out.cell 0 2 rfl rfl
   go_wp2_with fail
   have hR:=ζ (hN5.out.onew WN5.heap.size #[.slice ap np cp,.bool mp,.slice dp ep fp] 42 3 1 rfl (by omega) rfl)
   refine(nil0_any _ _ 1 1 (RowZ.of1 hR.out 1 rfl (hR.out.r 0 rfl)) (by omega)).mono ?_
   rintro e WN6 ⟨rfl,hb⟩
   have hN6:=ζ (show Sy w _ [(b10,#[.slice ap np cp,.bool mp,.slice dp ep fp],42),(b12,#[.slice aq nq cq,.bool mq,.slice dq eq fq],42),(b13,#[.slice ar nr cr,.bool mr,.slice dr er fr],42)] [⟨.slice a1 l.length c1,83,2,l.length,L2 l⟩] [(fun V=>Rd V (.slice ap np cp) mp (.slice dp ep fp) (0)),(fun V=>Rd V (.slice aq nq cq) mq (.slice dq eq fq) (0)),(fun V=>Rd V (.slice ar nr cr) mr (.slice dr er fr) (0))]from(hR.out.call hb).thin (List.Sublist.refl _) (List.sublist_append_left [_] _))
   clear hb hR hN5 y0_0 y0_1 y0_2
   go_wp2_with fail
   refine(HSR2.out _ hN6.out.be).mono ?_
   rintro e WN7 ⟨rfl,hb⟩
   have hN7:=ζ (hN6.out.call hb)
   clear hb hN6
   have y1_0:=hN7.out.cell 1 0 rfl rfl
   have y1_1:=hN7.out.cell 1 1 rfl rfl
   have y1_2:=hN7.out.cell 1 2 rfl rfl
   have y2_0:=hN7.out.cell 2 0 rfl rfl
   have y2_1:=hN7.out.cell 2 1 rfl rfl
   have y2_2:=hN7.out.cell 2 2 rfl rfl
   go_wp2_with fail
   have hR:=ζ (hN7.out.onew WN7.heap.size #[.slice aq nq cq,.bool mq,.slice dq eq fq,.slice ar nr cr,.bool mr,.slice dr er fr] 42 3 2 rfl (by omega) rfl)
   refine(nil0_any _ _ 2 2 (RowZ.of2 hR.out 1 rfl (hR.out.r 1 rfl) (hR.out.r 2 rfl)) (by omega)).mono ?_
   rintro e WN8 ⟨rfl,hb⟩
   have hN8:=ζ (show Sy w _ [(b10,#[.slice ap np cp,.bool mp,.slice dp ep fp],42),(b12,#[.slice aq nq cq,.bool mq,.slice dq eq fq],42),(b13,#[.slice ar nr cr,.bool mr,.slice dr er fr],42)] [⟨.slice a1 l.length c1,83,2,l.length,L2 l⟩] [(fun V=>Rd V (.slice ap np cp) mp (.slice dp ep fp) (0)),(fun V=>Rd V (.slice aq nq cq) mq (.slice dq eq fq) (0)),(fun V=>Rd V (.slice ar nr cr) mr (.slice dr er fr) (0))]from(hR.out.call hb).thin (List.Sublist.refl _) (List.sublist_append_left [_] _))
   clear hb hR hN7 y1_0 y1_1 y1_2 y2_0 y2_1 y2_2
   go_wp2_with fail
   refine(HW.out _).mono ?_
   rintro e WZ ⟨rfl,hb⟩
   have hZ:=ζ (hN8.out.call hb)
   clear hb
   go_wp2
   go_ret
   exact⟨rfl,hZ.out.be⟩
  ·have HQX:=ζ qx
   have HQS:=ζ qs
   rw [qx]at HHA2
   rw [qs]at HSR2
   have HG:=ζ (fun W c (hh:Sx 2 W a1 l.length c (L2 l))=>hground_out W a1 l.length c l x hh HQP.out qx)
   have HT:=ζ (strErr_zero (strErr_ok HQP.out qs))
   have HRB2:=ζ (fun W hW=>HRB.out W hW HT.out)
   have HLQ:=ζ HT.out.lo_gd
   have HHQ:=ζ HT.out.hi_gd
   have HB:=ζ (fun W c (hh:Sx 2 W a1 l.length c (L2 l))=>hBounds_ok W a1 l.length c l a b hh (strErr_ok HQP.out qs))
   generalize loQ l a b=lo at*
   generalize hiQ l a b=hi at*
   clear qx qs HRG2 HGD HRB
   go_wp2_with fail
   refine(HG.out _ c1 (hD.out.osx 0 rfl)).mono ?_
   rintro e W ⟨ap,np,cp,mp,dp,ep,fp,rfl,hz,hb⟩
   have hY:=ζ ((hD.out.call hb).pR rfl rfl hz)
   clear hb hz hD
   go_upto_region 5 with fail
   have hX:=ζ (hY.out.al W.heap.size #[.slice ap np cp,.bool mp,.slice dp ep fp] 42 rfl)
   obtain ⟨b10,eb10⟩:∃b,W.heap.size=b:=⟨_,rfl⟩
   rw [eb10]at hX⊢
   refine wp_geny hX.out ?_
   intro WN1 hc
   have hN1:=ζ hc
   clear hc hX eb10 hY
   go_wp2_with fail
   refine(HB.out _ c1 (hN1.out.osx 0 rfl)).mono ?_
   rintro e W ⟨aq,nq,cq,mq,dq,eq,fq,ar,nr,cr,mr,dr,er,fr,rfl,hz1,hz2,hb⟩
   have hY:=ζ (((hN1.out.call hb).pR rfl rfl hz1).pR rfl rfl hz2)
   clear hb hz1 hz2 hN1
   go_upto_region 6 with fail
   have hX:=ζ (show Sy w _ [(b10,#[.slice ap np cp,.bool mp,.slice dp ep fp],42),(W.heap.size,#[.slice aq nq cq,.bool mq,.slice dq eq fq],42),(W.heap.size+1,#[.slice ar nr cr,.bool mr,.slice dr er fr],42)] [⟨.slice a1 l.length c1,83,2,l.length,L2 l⟩] [(fun V=>Rd V (.slice ap np cp) mp (.slice dp ep fp) (0)),(fun V=>Rd V (.slice aq nq cq) mq (.slice dq eq fq) (lo)),(fun V=>Rd V (.slice ar nr cr) mr (.slice dr er fr) (hi))]from(hY.out.al W.heap.size #[.slice aq nq cq,.bool mq,.slice dq eq fq] 42 rfl|>.al (W.heap.size+1) #[.slice ar nr cr,.bool mr,.slice dr er fr] 42 (by simp)))
   obtain ⟨b13,eb13⟩:∃b,W.heap.size+1=b:=⟨_,rfl⟩
   rw [eb13]at hX⊢
   obtain ⟨b12,eb12⟩:∃b,W.heap.size=b:=⟨_,rfl⟩
   rw [eb12]at hX⊢
   refine wp_geny hX.out ?_
   intro WN2 hc
   have hN2:=ζ hc
   clear hc hX eb13 eb12 hY
   go_wp2_with fail
   refine(HV.out _ hN2.out.be).mono ?_
   rintro e WN3 ⟨rfl,hb⟩
   have hN3:=ζ (hN2.out.call hb)
   clear hb hN2
   go_wp2_with fail
   refine(HCK.out _ c1 (hN3.out.osx 0 rfl)).mono ?_
   rintro e WN4 ⟨rfl,hb⟩
   have hN4:=ζ (hN3.out.call hb)
   clear hb hN3
   go_wp2_with fail
   refine(HHA2.out _ hN4.out.be).mono ?_
   rintro e WN5 ⟨rfl,hb⟩
   have hN5:=ζ (hN4.out.call hb)
   clear hb hN4
   have y0_0:=hN5.out.cell 0 0 rfl rfl
   have y0_1:=hN5.out.cell 0 1 rfl rfl
   have y0_2:=hN5.out.cell 0 2 rfl rfl
   go_wp2_with fail
   have hR:=ζ (hN5.out.onew WN5.heap.size #[.slice ap np cp,.bool mp,.slice dp ep fp] 42 3 1 rfl (by omega) rfl)
   refine(nil0_any _ _ 1 1 (RowZ.of1 hR.out 1 rfl (hR.out.r 0 rfl)) (by omega)).mono ?_
   rintro e WN6 ⟨rfl,hb⟩
   have hN6:=ζ (show Sy w _ [(b10,#[.slice ap np cp,.bool mp,.slice dp ep fp],42),(b12,#[.slice aq nq cq,.bool mq,.slice dq eq fq],42),(b13,#[.slice ar nr cr,.bool mr,.slice dr er fr],42)] [⟨.slice a1 l.length c1,83,2,l.length,L2 l⟩] [(fun V=>Rd V (.slice ap np cp) mp (.slice dp ep fp) (0)),(fun V=>Rd V (.slice aq nq cq) mq (.slice dq eq fq) (lo)),(fun V=>Rd V (.slice ar nr cr) mr (.slice dr er fr) (hi))]from(hR.out.call hb).thin (List.Sublist.refl _) (List.sublist_append_left [_] _))
   clear hb hR hN5 y0_0 y0_1 y0_2
   go_wp2_with fail
   refine(HSR2.out _ hN6.out.be).mono ?_
   rintro e WN7 ⟨rfl,hb⟩
   have hN7:=ζ (hN6.out.call hb)
   clear hb hN6
   go_wp2_with fail
   refine(HRB2.out _ hN7.out.be).mono ?_
   rintro e W ⟨su,au,nu,cu,tu,du,eu,fu,sv,av,nv,cv,tv,dv,ev,fv,rfl,hz1,hz2,hb⟩
   have hY:=ζ (((hN7.out.call hb).pq rfl rfl hz1).pq rfl rfl hz2)
   clear hb hz1 hz2 hN7
   go_upto_region 18 with fail
   have hX:=ζ (hY.out.al W.heap.size #[.int .i64 su,.slice au nu cu,.int .i64 tu,.slice du eu fu] 50 rfl|>.al (W.heap.size+1) #[.int .i64 sv,.slice av nv cv,.int .i64 tv,.slice dv ev fv] 50 (by simp))
   obtain ⟨b16,eb16⟩:∃b,W.heap.size+1=b:=⟨_,rfl⟩
   rw [eb16]at hX⊢
   obtain ⟨b15,eb15⟩:∃b,W.heap.size=b:=⟨_,rfl⟩
   rw [eb15]at hX⊢
   refine wp_geny hX.out ?_
   intro WN8 hc
   have hN8:=ζ hc
   clear hc hX eb16 eb15 hY
   have x1_0:=hN8.out.cell 1 0 rfl rfl
   have x1_1:=hN8.out.cell 1 1 rfl rfl
   have x1_2:=hN8.out.cell 1 2 rfl rfl
   have x3_0:=hN8.out.cell 3 0 rfl rfl
   have x3_1:=hN8.out.cell 3 1 rfl rfl
   have x3_2:=hN8.out.cell 3 2 rfl rfl
   have x3_3:=hN8.out.cell 3 3 rfl rfl
   go_wp2_with fail
   refine(same_b (hN8.out.r 1 rfl) (hN8.out.r 3 rfl) HLQ.out.bq (by omega)).mono ?_
   rintro e WN9 ⟨rfl,hb⟩
   have hN9:=ζ (hN8.out.call hb)
   clear hb hN8
   clear x1_0 x1_1 x1_2 x3_0 x3_1 x3_2 x3_3
   have x2_0:=hN9.out.cell 2 0 rfl rfl
   have x2_1:=hN9.out.cell 2 1 rfl rfl
   have x2_2:=hN9.out.cell 2 2 rfl rfl
   have x4_0:=hN9.out.cell 4 0 rfl rfl
   have x4_1:=hN9.out.cell 4 1 rfl rfl
   have x4_2:=hN9.out.cell 4 2 rfl rfl
   have x4_3:=hN9.out.cell 4 3 rfl rfl
   go_wp2_with fail
   refine(same_b (hN9.out.r 2 rfl) (hN9.out.r 4 rfl) HHQ.out.bq (by omega)).mono ?_
   rintro e WN10 ⟨rfl,hb⟩
   have hN10:=ζ (hN9.out.call hb)
   clear hb hN9
   clear x2_0 x2_1 x2_2 x4_0 x4_1 x4_2 x4_3
   go_wp2_with fail
   refine(HW.out _).mono ?_
   rintro e WZ ⟨rfl,hb⟩
   have hZ:=ζ (hN10.out.call hb)
   clear hb
   go_wp2
   go_ret
   exact⟨rfl,hZ.out.be⟩
 ·cases qs:strB l a b
  ·have HQX:=ζ qx
   have HQS:=ζ qs
   rw [qx]at HHA2
   rw [qs]at HSR2
   have HRG3:=ζ (HRG2.out qx)
   have HGQ:=ζ (HGD.out qx)
   have HG:=ζ (fun W c (hh:Sx 2 W a1 l.length c (L2 l))=>hground_ok W a1 l.length c l x hh HQP.out qx)
   obtain ⟨gq,hgq⟩:∃q,grd l x=q:=⟨_,rfl⟩
   rw [hgq]at HRG3 HGQ HG
   clear hgq
   have HB:=ζ (fun W c (hh:Sx 2 W a1 l.length c (L2 l))=>hBounds_bad W a1 l.length c l a b hh 11 (strErr_no HQP.out qs) (by decide))
   clear qx qs HRG2 HGD HRB
   go_wp2_with fail
   refine(HG.out _ c1 (hD.out.osx 0 rfl)).mono ?_
   rintro e W ⟨ap,np,cp,mp,dp,ep,fp,rfl,hz,hb⟩
   have hY:=ζ ((hD.out.call hb).pR rfl rfl hz)
   clear hb hz hD
   go_upto_region 5 with fail
   have hX:=ζ (hY.out.al W.heap.size #[.slice ap np cp,.bool mp,.slice dp ep fp] 42 rfl)
   obtain ⟨b10,eb10⟩:∃b,W.heap.size=b:=⟨_,rfl⟩
   rw [eb10]at hX⊢
   refine wp_geny hX.out ?_
   intro WN1 hc
   have hN1:=ζ hc
   clear hc hX eb10 hY
   go_wp2_with fail
   refine(HB.out _ c1 (hN1.out.osx 0 rfl)).mono ?_
   rintro e W ⟨aq,nq,cq,mq,dq,eq,fq,ar,nr,cr,mr,dr,er,fr,rfl,hz1,hz2,hb⟩
   have hY:=ζ (((hN1.out.call hb).pR rfl rfl hz1).pR rfl rfl hz2)
   clear hb hz1 hz2 hN1
   go_upto_region 6 with fail
   have hX:=ζ (show Sy w _ [(b10,#[.slice ap np cp,.bool mp,.slice dp ep fp],42),(W.heap.size,#[.slice aq nq cq,.bool mq,.slice dq eq fq],42),(W.heap.size+1,#[.slice ar nr cr,.bool mr,.slice dr er fr],42)] [⟨.slice a1 l.length c1,83,2,l.length,L2 l⟩] [(fun V=>Rd V (.slice ap np cp) mp (.slice dp ep fp) (gq)),(fun V=>Rd V (.slice aq nq cq) mq (.slice dq eq fq) (0)),(fun V=>Rd V (.slice ar nr cr) mr (.slice dr er fr) (0))]from(hY.out.al W.heap.size #[.slice aq nq cq,.bool mq,.slice dq eq fq] 42 rfl|>.al (W.heap.size+1) #[.slice ar nr cr,.bool mr,.slice dr er fr] 42 (by simp)))
   obtain ⟨b13,eb13⟩:∃b,W.heap.size+1=b:=⟨_,rfl⟩
   rw [eb13]at hX⊢
   obtain ⟨b12,eb12⟩:∃b,W.heap.size=b:=⟨_,rfl⟩
   rw [eb12]at hX⊢
   refine wp_geny hX.out ?_
   intro WN2 hc
   have hN2:=ζ hc
   clear hc hX eb13 eb12 hY
   go_wp2_with fail
   refine(HV.out _ hN2.out.be).mono ?_
   rintro e WN3 ⟨rfl,hb⟩
   have hN3:=ζ (hN2.out.call hb)
   clear hb hN2
   go_wp2_with fail
   refine(HCK.out _ c1 (hN3.out.osx 0 rfl)).mono ?_
   rintro e WN4 ⟨rfl,hb⟩
   have hN4:=ζ (hN3.out.call hb)
   clear hb hN3
   go_wp2_with fail
   refine(HHA2.out _ hN4.out.be).mono ?_
   rintro e WN5 ⟨rfl,hb⟩
   have hN5:=ζ (hN4.out.call hb)
   clear hb hN4
   go_upto_region 13 with fail
   have HSL:∀V ex os rs,Sy w V ([(b10,#[.slice ap np cp,.bool mp,.slice dp ep fp],42),(b12,#[.slice aq nq cq,.bool mq,.slice dq eq fq],42),(b13,#[.slice ar nr cr,.bool mr,.slice dr er fr],42)]++ex) os rs→(fun w'=>w'.cell? ⟨b10,0,none⟩=some (.slice ap np cp)∧w'.cell? ⟨b10,1,none⟩=some (.bool mp)∧w'.cell? ⟨b10,2,none⟩=some (.slice dp ep fp)∧True) V:=fun V ex os rs hX=>⟨hX.cell 0 0 rfl rfl,hX.cell 0 1 rfl rfl,hX.cell 0 2 rfl rfl,trivial⟩
   refine wp_region_held_drew (S:=(fun w'=>w'.cell? ⟨b10,0,none⟩=some (.slice ap np cp)∧w'.cell? ⟨b10,1,none⟩=some (.bool mp)∧w'.cell? ⟨b10,2,none⟩=some (.slice dp ep fp)∧True)) (by kernel_rfl) ⟨hN5.out.drew.cell 0 0 rfl rfl,hN5.out.drew.cell 0 1 rfl rfl,hN5.out.drew.cell 0 2 rfl rfl,trivial⟩ (fun hH=>?_)
   refine wpAnyH_geny (show Sy w _ [(b10,#[.slice ap np cp,.bool mp,.slice dp ep fp],42),(b12,#[.slice aq nq cq,.bool mq,.slice dq eq fq],42),(b13,#[.slice ar nr cr,.bool mr,.slice dr er fr],42)] [⟨.slice a1 l.length c1,83,2,l.length,L2 l⟩] [(fun V=>Rd V (.slice ap np cp) mp (.slice dp ep fp) (gq)),(fun V=>Rd V (.slice aq nq cq) mq (.slice dq eq fq) (0)),(fun V=>Rd V (.slice ar nr cr) mr (.slice dr er fr) (0))]from hN5.out.drew) hH ?_
   intro VG_0 hc hHG_0
   have hVG_0:=ζ hc
   clear hc hH hN5
   refine tkA 0 rfl hHG_0 ?_
   try simp only [Act.put,zI,z0,zS]
   refine tkA 1 rfl hHG_0 ?_
   try simp only [Act.put,zI,z0,zS]
   refine tkA 2 rfl hHG_0 ?_
   try simp only [Act.put,zI,z0,zS]
   refine tkA 3 rfl hHG_0 ?_
   try simp only [Act.put,zI,z0,zS]
   refine tkA 4 rfl hHG_0 ?_
   try simp only [Act.put,zI,z0,zS]
   refine tkA 5 rfl hHG_0 ?_
   try simp only [Act.put,zI,z0,zS]
   refine rdy1 6 rfl (fun Kq hKq=>?_)
   go_simp
   go_at_call 54
   refine(HRG3.out _ hVG_0.out.be).mono ?_
   rintro e wT ⟨sg,ag,ng,cg,tg,dg,eg,fg,rfl,hz,hb⟩
   (try go_wp2_with fail)
   refine stepZ hKq ((hVG_0.out.call hb).pq rfl rfl hz) (fun _=>HSL _ _ _ _) ?_
   intro VG_1 hVG_1 hHG_1
   clear hKq Kq hVG_0 hb hz hHG_0
   try simp only [Act.put,zI,z0,zS]
   refine rdy1 7 rfl (fun Kq hKq=>?_)
   go_simp
   go_at_call 29
   refine(same_b (hVG_1.out.r 0 rfl) (hVG_1.out.r 3 rfl) HGQ.out.bq (by omega)).mono ?_
   rintro e wT ⟨rfl,hb⟩
   (try go_wp2_with fail)
   refine stepZ hKq (hVG_1.out.call hb) (fun _=>HSL _ _ _ _) ?_
   intro VG_2 hVG_2 hHG_2
   clear hKq Kq hVG_1 hb hHG_1
   try simp only [Act.put,zI,z0,zS]
   refine tkA 8 rfl hHG_2 ?_
   try simp only [Act.put,zI,z0,zS]
   refine tkA 9 rfl hHG_2 ?_
   try simp only [Act.put,zI,z0,zS]
   refine wpAnyH_done (by kernel_rfl) ?_ _
   have hN50:=ζ (hVG_2.out.pick [0,1,2] (rs':=[(fun V=>Rd V (.slice ap np cp) mp (.slice dp ep fp) (gq)),(fun V=>Rd V (.slice aq nq cq) mq (.slice dq eq fq) (0)),(fun V=>Rd V (.slice ar nr cr) mr (.slice dr er fr) (0))]) rfl)
   clear hVG_2
   go_wp2_with fail
   refine(HSR2.out _ hN50.out.be).mono ?_
   rintro e WN51 ⟨rfl,hb⟩
   have hN51:=ζ (hN50.out.call hb)
   clear hb hN50
   have y1_0:=hN51.out.cell 1 0 rfl rfl
   have y1_1:=hN51.out.cell 1 1 rfl rfl
   have y1_2:=hN51.out.cell 1 2 rfl rfl
   have y2_0:=hN51.out.cell 2 0 rfl rfl
   have y2_1:=hN51.out.cell 2 1 rfl rfl
   have y2_2:=hN51.out.cell 2 2 rfl rfl
   go_wp2_with fail
   have hR:=ζ (hN51.out.onew WN51.heap.size #[.slice aq nq cq,.bool mq,.slice dq eq fq,.slice ar nr cr,.bool mr,.slice dr er fr] 42 3 2 rfl (by omega) rfl)
   refine(nil0_any _ _ 2 2 (RowZ.of2 hR.out 1 rfl (hR.out.r 1 rfl) (hR.out.r 2 rfl)) (by omega)).mono ?_
   rintro e WN52 ⟨rfl,hb⟩
   have hN52:=ζ (show Sy w _ [(b10,#[.slice ap np cp,.bool mp,.slice dp ep fp],42),(b12,#[.slice aq nq cq,.bool mq,.slice dq eq fq],42),(b13,#[.slice ar nr cr,.bool mr,.slice dr er fr],42)] [⟨.slice a1 l.length c1,83,2,l.length,L2 l⟩] [(fun V=>Rd V (.slice ap np cp) mp (.slice dp ep fp) (gq)),(fun V=>Rd V (.slice aq nq cq) mq (.slice dq eq fq) (0)),(fun V=>Rd V (.slice ar nr cr) mr (.slice dr er fr) (0))]from(hR.out.call hb).thin (List.Sublist.refl _) (List.sublist_append_left [_] _))
   clear hb hR hN51 y1_0 y1_1 y1_2 y2_0 y2_1 y2_2
   go_wp2_with fail
   refine(HW.out _).mono ?_
   rintro e WZ ⟨rfl,hb⟩
   have hZ:=ζ (hN52.out.call hb)
   clear hb
   go_wp2
   go_ret
   exact⟨rfl,hZ.out.be⟩
  ·have HQX:=ζ qx
   have HQS:=ζ qs
   rw [qx]at HHA2
   rw [qs]at HSR2
   have HRG3:=ζ (HRG2.out qx)
   have HGQ:=ζ (HGD.out qx)
   have HG:=ζ (fun W c (hh:Sx 2 W a1 l.length c (L2 l))=>hground_ok W a1 l.length c l x hh HQP.out qx)
   obtain ⟨gq,hgq⟩:∃q,grd l x=q:=⟨_,rfl⟩
   rw [hgq]at HRG3 HGQ HG
   clear hgq
   have HT:=ζ (strErr_zero (strErr_ok HQP.out qs))
   have HRB2:=ζ (fun W hW=>HRB.out W hW HT.out)
   have HLQ:=ζ HT.out.lo_gd
   have HHQ:=ζ HT.out.hi_gd
   have HB:=ζ (fun W c (hh:Sx 2 W a1 l.length c (L2 l))=>hBounds_ok W a1 l.length c l a b hh (strErr_ok HQP.out qs))
   generalize loQ l a b=lo at*
   generalize hiQ l a b=hi at*
   clear qx qs HRG2 HGD HRB
   go_wp2_with fail
   refine(HG.out _ c1 (hD.out.osx 0 rfl)).mono ?_
   rintro e W ⟨ap,np,cp,mp,dp,ep,fp,rfl,hz,hb⟩
   have hY:=ζ ((hD.out.call hb).pR rfl rfl hz)
   clear hb hz hD
   go_upto_region 5 with fail
   have hX:=ζ (hY.out.al W.heap.size #[.slice ap np cp,.bool mp,.slice dp ep fp] 42 rfl)
   obtain ⟨b10,eb10⟩:∃b,W.heap.size=b:=⟨_,rfl⟩
   rw [eb10]at hX⊢
   refine wp_geny hX.out ?_
   intro WN1 hc
   have hN1:=ζ hc
   clear hc hX eb10 hY
   go_wp2_with fail
   refine(HB.out _ c1 (hN1.out.osx 0 rfl)).mono ?_
   rintro e W ⟨aq,nq,cq,mq,dq,eq,fq,ar,nr,cr,mr,dr,er,fr,rfl,hz1,hz2,hb⟩
   have hY:=ζ (((hN1.out.call hb).pR rfl rfl hz1).pR rfl rfl hz2)
   clear hb hz1 hz2 hN1
   go_upto_region 6 with fail
   have hX:=ζ (show Sy w _ [(b10,#[.slice ap np cp,.bool mp,.slice dp ep fp],42),(W.heap.size,#[.slice aq nq cq,.bool mq,.slice dq eq fq],42),(W.heap.size+1,#[.slice ar nr cr,.bool mr,.slice dr er fr],42)] [⟨.slice a1 l.length c1,83,2,l.length,L2 l⟩] [(fun V=>Rd V (.slice ap np cp) mp (.slice dp ep fp) (gq)),(fun V=>Rd V (.slice aq nq cq) mq (.slice dq eq fq) (lo)),(fun V=>Rd V (.slice ar nr cr) mr (.slice dr er fr) (hi))]from(hY.out.al W.heap.size #[.slice aq nq cq,.bool mq,.slice dq eq fq] 42 rfl|>.al (W.heap.size+1) #[.slice ar nr cr,.bool mr,.slice dr er fr] 42 (by simp)))
   obtain ⟨b13,eb13⟩:∃b,W.heap.size+1=b:=⟨_,rfl⟩
   rw [eb13]at hX⊢
   obtain ⟨b12,eb12⟩:∃b,W.heap.size=b:=⟨_,rfl⟩
   rw [eb12]at hX⊢
   refine wp_geny hX.out ?_
   intro WN2 hc
   have hN2:=ζ hc
   clear hc hX eb13 eb12 hY
   go_wp2_with fail
   refine(HV.out _ hN2.out.be).mono ?_
   rintro e WN3 ⟨rfl,hb⟩
   have hN3:=ζ (hN2.out.call hb)
   clear hb hN2
   go_wp2_with fail
   refine(HCK.out _ c1 (hN3.out.osx 0 rfl)).mono ?_
   rintro e WN4 ⟨rfl,hb⟩
   have hN4:=ζ (hN3.out.call hb)
   clear hb hN3
   go_wp2_with fail
   refine(HHA2.out _ hN4.out.be).mono ?_
   rintro e WN5 ⟨rfl,hb⟩
   have hN5:=ζ (hN4.out.call hb)
   clear hb hN4
   go_upto_region 13 with fail
   have HSL:∀V ex os rs,Sy w V ([(b10,#[.slice ap np cp,.bool mp,.slice dp ep fp],42),(b12,#[.slice aq nq cq,.bool mq,.slice dq eq fq],42),(b13,#[.slice ar nr cr,.bool mr,.slice dr er fr],42)]++ex) os rs→(fun w'=>w'.cell? ⟨b10,0,none⟩=some (.slice ap np cp)∧w'.cell? ⟨b10,1,none⟩=some (.bool mp)∧w'.cell? ⟨b10,2,none⟩=some (.slice dp ep fp)∧True) V:=fun V ex os rs hX=>⟨hX.cell 0 0 rfl rfl,hX.cell 0 1 rfl rfl,hX.cell 0 2 rfl rfl,trivial⟩
   refine wp_region_held_drew (S:=(fun w'=>w'.cell? ⟨b10,0,none⟩=some (.slice ap np cp)∧w'.cell? ⟨b10,1,none⟩=some (.bool mp)∧w'.cell? ⟨b10,2,none⟩=some (.slice dp ep fp)∧True)) (by kernel_rfl) ⟨hN5.out.drew.cell 0 0 rfl rfl,hN5.out.drew.cell 0 1 rfl rfl,hN5.out.drew.cell 0 2 rfl rfl,trivial⟩ (fun hH=>?_)
   refine wpAnyH_geny (show Sy w _ [(b10,#[.slice ap np cp,.bool mp,.slice dp ep fp],42),(b12,#[.slice aq nq cq,.bool mq,.slice dq eq fq],42),(b13,#[.slice ar nr cr,.bool mr,.slice dr er fr],42)] [⟨.slice a1 l.length c1,83,2,l.length,L2 l⟩] [(fun V=>Rd V (.slice ap np cp) mp (.slice dp ep fp) (gq)),(fun V=>Rd V (.slice aq nq cq) mq (.slice dq eq fq) (lo)),(fun V=>Rd V (.slice ar nr cr) mr (.slice dr er fr) (hi))]from hN5.out.drew) hH ?_
   intro VG_0 hc hHG_0
   have hVG_0:=ζ hc
   clear hc hH hN5
   refine tkA 0 rfl hHG_0 ?_
   try simp only [Act.put,zI,z0,zS]
   refine tkA 1 rfl hHG_0 ?_
   try simp only [Act.put,zI,z0,zS]
   refine tkA 2 rfl hHG_0 ?_
   try simp only [Act.put,zI,z0,zS]
   refine tkA 3 rfl hHG_0 ?_
   try simp only [Act.put,zI,z0,zS]
   refine tkA 4 rfl hHG_0 ?_
   try simp only [Act.put,zI,z0,zS]
   refine tkA 5 rfl hHG_0 ?_
   try simp only [Act.put,zI,z0,zS]
   refine rdy1 6 rfl (fun Kq hKq=>?_)
   go_simp
   go_at_call 54
   refine(HRG3.out _ hVG_0.out.be).mono ?_
   rintro e wT ⟨sg,ag,ng,cg,tg,dg,eg,fg,rfl,hz,hb⟩
   (try go_wp2_with fail)
   refine stepZ hKq ((hVG_0.out.call hb).pq rfl rfl hz) (fun _=>HSL _ _ _ _) ?_
   intro VG_1 hVG_1 hHG_1
   clear hKq Kq hVG_0 hb hz hHG_0
   try simp only [Act.put,zI,z0,zS]
   refine rdy1 7 rfl (fun Kq hKq=>?_)
   go_simp
   go_at_call 29
   refine(same_b (hVG_1.out.r 0 rfl) (hVG_1.out.r 3 rfl) HGQ.out.bq (by omega)).mono ?_
   rintro e wT ⟨rfl,hb⟩
   (try go_wp2_with fail)
   refine stepZ hKq (hVG_1.out.call hb) (fun _=>HSL _ _ _ _) ?_
   intro VG_2 hVG_2 hHG_2
   clear hKq Kq hVG_1 hb hHG_1
   try simp only [Act.put,zI,z0,zS]
   refine tkA 8 rfl hHG_2 ?_
   try simp only [Act.put,zI,z0,zS]
   refine tkA 9 rfl hHG_2 ?_
   try simp only [Act.put,zI,z0,zS]
   refine wpAnyH_done (by kernel_rfl) ?_ _
   have hN50:=ζ (hVG_2.out.pick [0,1,2] (rs':=[(fun V=>Rd V (.slice ap np cp) mp (.slice dp ep fp) (gq)),(fun V=>Rd V (.slice aq nq cq) mq (.slice dq eq fq) (lo)),(fun V=>Rd V (.slice ar nr cr) mr (.slice dr er fr) (hi))]) rfl)
   clear hVG_2
   go_wp2_with fail
   refine(HSR2.out _ hN50.out.be).mono ?_
   rintro e WN51 ⟨rfl,hb⟩
   have hN51:=ζ (hN50.out.call hb)
   clear hb hN50
   go_wp2_with fail
   refine(HRB2.out _ hN51.out.be).mono ?_
   rintro e W ⟨su,au,nu,cu,tu,du,eu,fu,sv,av,nv,cv,tv,dv,ev,fv,rfl,hz1,hz2,hb⟩
   have hY:=ζ (((hN51.out.call hb).pq rfl rfl hz1).pq rfl rfl hz2)
   clear hb hz1 hz2 hN51
   go_upto_region 18 with fail
   have hX:=ζ (hY.out.al W.heap.size #[.int .i64 su,.slice au nu cu,.int .i64 tu,.slice du eu fu] 50 rfl|>.al (W.heap.size+1) #[.int .i64 sv,.slice av nv cv,.int .i64 tv,.slice dv ev fv] 50 (by simp))
   obtain ⟨b16,eb16⟩:∃b,W.heap.size+1=b:=⟨_,rfl⟩
   rw [eb16]at hX⊢
   obtain ⟨b15,eb15⟩:∃b,W.heap.size=b:=⟨_,rfl⟩
   rw [eb15]at hX⊢
   refine wp_geny hX.out ?_
   intro WN52 hc
   have hN52:=ζ hc
   clear hc hX eb16 eb15 hY
   have x1_0:=hN52.out.cell 1 0 rfl rfl
   have x1_1:=hN52.out.cell 1 1 rfl rfl
   have x1_2:=hN52.out.cell 1 2 rfl rfl
   have x3_0:=hN52.out.cell 3 0 rfl rfl
   have x3_1:=hN52.out.cell 3 1 rfl rfl
   have x3_2:=hN52.out.cell 3 2 rfl rfl
   have x3_3:=hN52.out.cell 3 3 rfl rfl
   go_wp2_with fail
   refine(same_b (hN52.out.r 1 rfl) (hN52.out.r 3 rfl) HLQ.out.bq (by omega)).mono ?_
   rintro e WN53 ⟨rfl,hb⟩
   have hN53:=ζ (hN52.out.call hb)
   clear hb hN52
   clear x1_0 x1_1 x1_2 x3_0 x3_1 x3_2 x3_3
   have x2_0:=hN53.out.cell 2 0 rfl rfl
   have x2_1:=hN53.out.cell 2 1 rfl rfl
   have x2_2:=hN53.out.cell 2 2 rfl rfl
   have x4_0:=hN53.out.cell 4 0 rfl rfl
   have x4_1:=hN53.out.cell 4 1 rfl rfl
   have x4_2:=hN53.out.cell 4 2 rfl rfl
   have x4_3:=hN53.out.cell 4 3 rfl rfl
   go_wp2_with fail
   refine(same_b (hN53.out.r 2 rfl) (hN53.out.r 4 rfl) HHQ.out.bq (by omega)).mono ?_
   rintro e WN54 ⟨rfl,hb⟩
   have hN54:=ζ (hN53.out.call hb)
   clear hb hN53
   clear x2_0 x2_1 x2_2 x4_0 x4_1 x4_2 x4_3
   go_wp2_with fail
   refine(HW.out _).mono ?_
   rintro e WZ ⟨rfl,hb⟩
   have hZ:=ζ (hN54.out.call hb)
   clear hb
   go_wp2
   go_ret
   exact⟨rfl,hZ.out.be⟩
end
end
end Go.Proofs.YthmdhlopeponcaaGreatDoor
