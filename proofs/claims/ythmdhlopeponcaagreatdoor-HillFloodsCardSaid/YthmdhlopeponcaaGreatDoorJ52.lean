/- the law HillFloods, walked -/
import Derived.Test.YthmdhlopeponcaaGreatDoorJ0
import Derived.Test.YthmdhlopeponcaaGreatDoorJ51
import Derived.Test.YthmdhlopeponcaaGreatDoorJ25
import Derived.Test.YthmdhlopeponcaaGreatDoorJ30
set_option maxRecDepth 100000
set_option maxHeartbeats 8000000
namespace Go.Proofs.YthmdhlopeponcaaGreatDoor
open Go.RowKit Go.Shelf Dig
theorem flood_bad {l:List Pt} {a b area k:Int} (h:strErr l a b=k) (h0:k≠0):floodErr l a b area=k/\floodLev l a b area=0:=by
 have e:floodErr l a b area=k:=by unfold floodErr;rw [h,if_neg h0]
 exact⟨e,by unfold floodLev;rw [e,if_neg h0]⟩
theorem flood_far {l:List Pt} {a b area:Int} (h:strErr l a b=0) (h0:inB area 1 1000000000000=false):floodErr l a b area=3/\floodLev l a b area=0:=by
 have e:floodErr l a b area=3:=by unfold floodErr;rw [if_pos h,h0];rfl
 exact⟨e,by unfold floodLev;rw [e];rfl⟩
theorem flood_none {l:List Pt} {a b area:Int} (h:strErr l a b=0) (h0:inB area 1 1000000000000=true) (h1:poolN l a b area=200001):floodErr l a b area=12/\floodLev l a b area=0:=by
 have e:floodErr l a b area=12:=by unfold floodErr;rw [if_pos h,if_pos h0,if_pos h1]
 exact⟨e,by unfold floodLev;rw [e];rfl⟩
theorem flood_some {l:List Pt} {a b area:Int} (h:strErr l a b=0) (h0:inB area 1 1000000000000=true) (h1:poolN l a b area≠200001):floodErr l a b area=0/\floodLev l a b area=(poolN l a b area:Int) - 100000:=by
 have e:floodErr l a b area=0:=by unfold floodErr;rw [if_pos h,if_pos h0,if_neg h1]
 exact⟨e,by unfold floodLev;rw [e];rfl⟩
section
variable (w:World)
theorem mQ15_0 {P_ : Prop} (h : P_ := by
 go_wp2_with fail
 refine(HW.out _).mono ?_
 rintro e WZ ⟨rfl,hb⟩
 have hZ:=ζ (hV.out.call hb)
 clear hb
 go_wp2
 go_ret
 exact⟨rfl,hZ.out.be⟩) : P_ := h
theorem hillFloods_walk (la:OA) (ln lc:Nat) (l:List Pt) (a b area:Int) (hs:Sx 2 w la ln lc (L2 l)) (hr: -9223372036854775808<=area/\area < 9223372036854775808):
  Calls Tryz.prog 7 #[.slice la ln lc,.int .i64 a,.int .i64 b,.int .i64 area] w (Gives (.bool true) w):=by
 have HW:=ζ wakes08
 obtain rfl:=hs.n2
 have hC:=ζ (Sy.enter w)
 by_cases g0:50 < l.length
 ·have pl1:=decide_eq_true (show(50:Int) < (l.length:Int)by omega)
  have pl2:=decide_eq_true (show 50 < l.length by omega)
  clear g0
  go_enter Tryz.func7,Tryz.ntmps7
  go_wp2_with fail
  refine(HW.out _).mono ?_
  rintro e WZ ⟨rfl,hb⟩
  have hZ:=ζ (hC.out.call hb)
  clear hb
  go_wp2
  go_ret
  exact⟨rfl,hZ.out.be⟩
 have pl1:=decide_eq_false (show ¬ (50:Int) < (l.length:Int)by omega)
 have pl2:=decide_eq_false (show ¬ 50 < l.length by omega)
 have HS:=ζ (fun W (hW:Below w.heap.size w W)=>hs.below hW)
 have HPT:=ζ (fun W (hW:Below w.heap.size w W)=>conv_Pts la l.length lc l W (HS.out W hW) (by omega))
 have HV:=ζ (fun W (hW:Below w.heap.size w W)=>rValid_any W la l.length lc l (HS.out W hW))
 have HSR:=ζ (fun W (hW:Below w.heap.size w W) h0=>rStretch_any W la l.length lc l a b (HS.out W hW) h0)
 have HRF:=ζ (fun W (hW:Below w.heap.size w W)=>rFlood_any W la l.length lc l a b area (HS.out W hW))
 have HF:=ζ (fun W c1 c (hh:Sx 2 W c1 l.length c (L2 l))=>flood_any W c1 l.length c l a b hh area hr)
 have HEB:=ζ (fun k h h0=>flood_bad (l:=l) (a:=a) (b:=b) (area:=area) (k:=k) h h0)
 have HEF:=ζ (fun h h0=>flood_far (l:=l) (a:=a) (b:=b) (area:=area) h h0)
 have HEN:=ζ (fun h h0 h1=>flood_none (l:=l) (a:=a) (b:=b) (area:=area) h h0 h1)
 have HES:=ζ (fun h h0 h1=>flood_some (l:=l) (a:=a) (b:=b) (area:=area) h h0 h1)
 clear hs g0 hr
 generalize floodLev l a b area=lev at*
 generalize floodErr l a b area=er at*
 generalize poolN l a b area=N at*
 go_enter Tryz.func7,Tryz.ntmps7
 go_wp2_with fail
 refine(HPT.out _ hC.out.be).mono ?_
 rintro e W1 ⟨a1,c1,rfl,hr,hb⟩
 have hD:=ζ (show Sy w _ [] [⟨.slice a1 l.length c1,83,2,l.length,L2 l⟩] []from hC.out.adopt hb hr)
 clear hb hr hC HPT
 go_wp2_with fail
 refine(HF.out _ _ _ (hD.out.osx 0 rfl)).mono ?_
 rintro e W2 ⟨rfl,hb⟩
 have hE:=ζ (hD.out.call hb)
 clear hb hD HF
 cases qp:profB l
 ·obtain ⟨rfl,rfl⟩:=HEB.out 2 (strErr_bad qp) (by decide)
  rw [qp]at HV
  clear qp
  go_wp2_with fail
  refine(HV.out _ hE.out.be).mono ?_
  rintro e W3 ⟨rfl,hb⟩
  have hV:=ζ (hE.out.call hb)
  clear hb hE
  exact mQ15_0
 rw [qp]at HV
 have HSR2:=ζ (fun W hW=>HSR.out W hW (by have:=(prof_iff.1 qp).two;omega))
 clear HSR
 cases qs:strB l a b
 ·obtain ⟨rfl,rfl⟩:=HEB.out 11 (strErr_no qp qs) (by decide)
  rw [qs]at HSR2
  clear qp qs
  go_wp2_with fail
  refine(HV.out _ hE.out.be).mono ?_
  rintro e W3 ⟨rfl,hb⟩
  have hG:=ζ (hE.out.call hb)
  clear hb hE
  go_wp2_with fail
  refine(HSR2.out _ hG.out.be).mono ?_
  rintro e W4 ⟨rfl,hb⟩
  have hV:=ζ (hG.out.call hb)
  clear hb hG
  exact mQ15_0
 rw [qs]at HSR2
 have he0:=strErr_ok qp qs
 have HT:=ζ (strErr_zero he0)
 have HE0:=ζ he0
 clear qp qs he0
 go_wp2_with fail
 refine(HV.out _ hE.out.be).mono ?_
 rintro e W3 ⟨rfl,hb⟩
 have hG:=ζ (hE.out.call hb)
 clear hb hE HV
 go_wp2_with fail
 refine(HSR2.out _ hG.out.be).mono ?_
 rintro e W4 ⟨rfl,hb⟩
 have hV:=ζ (hG.out.call hb)
 clear hb hG HSR2
 by_cases q1:area < 1
 ·obtain ⟨rfl,rfl⟩:=HEF.out HE0.out (by unfold inB;rw [decide_eq_false (show ¬ 1<=area by omega)];rfl)
  have d1:=decide_eq_true q1
  exact mQ15_0
 have d1:=decide_eq_false q1
 by_cases q2:1000000000000 < area
 ·obtain ⟨rfl,rfl⟩:=HEF.out HE0.out (by unfold inB;rw [decide_eq_false (show ¬ area<=1000000000000 by omega),Bool.and_false])
  have d2:=decide_eq_true q2
  exact mQ15_0
 have d2:=decide_eq_false q2
 have HIN:=ζ (inB_iff.2 (show 1<=area/\area<=1000000000000 by omega))
 have HRF2:=ζ (fun W hW=>HRF.out W hW HT.out (by omega))
 clear HRF
 go_wp2_with fail
 refine(HRF2.out _ hV.out.be).mono ?_
 rintro e W5 ⟨lv,sm,rfl,HL,hb⟩
 have hN:=ζ (hV.out.call hb)
 clear hb hV HRF2
 cases sm
 ·obtain ⟨rfl,rfl⟩:=HEN.out HE0.out HIN.out (HL.out.1 rfl)
  clear HL
  go_wp2_with fail
  refine(HW.out _).mono ?_
  rintro e WZ ⟨rfl,hb⟩
  have hZ:=ζ (hN.out.call hb)
  clear hb
  go_wp2
  go_ret
  exact⟨rfl,hZ.out.be⟩
 obtain ⟨hn0,rfl⟩:=HL.out.2 rfl
 obtain ⟨rfl,hlev⟩:=HES.out HE0.out HIN.out hn0
 subst hlev
 clear HL hn0
 go_wp2_with fail
 refine(HW.out _).mono ?_
 rintro e WZ ⟨rfl,hb⟩
 have hZ:=ζ (hN.out.call hb)
 clear hb
 go_wp2
 go_ret
 exact⟨rfl,hZ.out.be⟩
end
end Go.Proofs.YthmdhlopeponcaaGreatDoor
