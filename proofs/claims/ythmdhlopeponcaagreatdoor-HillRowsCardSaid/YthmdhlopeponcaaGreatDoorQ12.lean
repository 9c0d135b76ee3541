/- the law HillRows, walked -/
import Derived.Test.YthmdhlopeponcaaGreatDoorV0
import Derived.Test.YthmdhlopeponcaaGreatDoorY12
import Derived.Test.YthmdhlopeponcaaGreatDoorV29
import Derived.Test.YthmdhlopeponcaaGreatDoorV35
namespace Go.Proofs.YthmdhlopeponcaaGreatDoor
open Go.RowKit Go.Shelf Dig
structure RwR (a:Option Addr) (T:List Rwx) (c:Nat) (V:World):Prop where
 r:Sx 3 V a T.length c (LRw T)
 b:∀t∈T,Sx 2 V t.ba t.bays.length t.bc (L2 t.bays)
theorem RwR.cells {V:World} {g o c:Nat} {T:List Rwx} (h:RwR (some ⟨g,o,none⟩) T c V) {i:Nat} (hi:i < T.length):
  V.cell? ⟨g,o+i*3,none⟩=some (.int .i64 T[i].low)∧V.cell? ⟨g,o+i*3+1,none⟩=some (.int .i64 T[i].high)∧V.cell? ⟨g,o+i*3+2,none⟩=some (.slice T[i].ba T[i].bays.length T[i].bc):=
 ⟨h.r.cell (flat_get (k:=3) (fun _=>rfl) T i 0 hi (by omega)),h.r.cell (flat_get (k:=3) (fun _=>rfl) T i 1 hi (by omega)),h.r.cell (flat_get (k:=3) (fun _=>rfl) T i 2 hi (by omega))⟩
theorem nR_eq {T U:List Rwx} (h:T.map nR=U.map nR) {i:Nat} (hi:i < T.length) (hj:i < U.length):T[i].low=U[i].low∧T[i].high=U[i].high∧T[i].bays=U[i].bays:=by
 have e:(T.map nR)[i]'(by rw [List.length_map];exact hi)=(U.map nR)[i]'(by rw [List.length_map];exact hj):=by simp only [h]
 rw [List.getElem_map,List.getElem_map]at e
 unfold nR at e
 simp only [Prod.mk.injEq]at e
 exact e
section
variable (w:World)
theorem mQ12_0 {P_ : Prop} (h : P_ := by
 go_enter Tryz.func6,Tryz.ntmps6
 go_wp2_with fail
 refine(HW.out _).mono ?_
 rintro e WZ ⟨rfl,hb⟩
 have hZ:=ζ (hC.out.call hb)
 clear hb
 go_wp2
 go_ret
 exact⟨rfl,hZ.out.be⟩) : P_ := h
set_option maxHeartbeats 8000000 in
set_option maxRecDepth 100000 in
theorem hillRows_walk (la:Option Addr) (ln lc:Nat) (l:List Pt) (ba:Option Addr) (bn bc:Nat) (bs:List Int) (fa:Option Addr) (fn fc:Nat) (F:List Int) (da:Option Addr) (dn dc:Nat) (D:List Int) (h:Int) (hs:Sx 2 w la ln lc (L2 l)) (hb:Sx 1 w ba bn bc (L1 bs)) (hf:Sx 1 w fa fn fc (L1 F)) (hd:Sx 1 w da dn dc (L1 D)):
  Calls Tryz.prog 6 #[.slice la ln lc,.slice ba bn bc,.slice fa fn fc,.slice da dn dc,.int .i64 h] w (Gives (.bool true) w):=by
 have HW:=ζ wakes08
 obtain rfl:=hs.n2
 obtain rfl:=hb.n1
 obtain rfl:=hf.n1
 obtain rfl:=hd.n1
 have hC:=ζ (Sy.enter w)
 by_cases g0:50 < l.length
 ·have pl1:=decide_eq_true (show(50:Int) < (l.length:Int)by omega)
  have pl2:=decide_eq_true (show 50 < l.length by omega)
  clear g0
  exact mQ12_0
 by_cases g1:70 < bs.length
 ·have pl1:=decide_eq_false (show ¬ (50:Int) < (l.length:Int)by omega)
  have pl2:=decide_eq_false (show ¬ 50 < l.length by omega)
  have pbs1:=decide_eq_true (show(70:Int) < (bs.length:Int)by omega)
  have pbs2:=decide_eq_true (show 70 < bs.length by omega)
  clear g0 g1
  exact mQ12_0
 by_cases g2:70 < F.length
 ·have pl1:=decide_eq_false (show ¬ (50:Int) < (l.length:Int)by omega)
  have pl2:=decide_eq_false (show ¬ 50 < l.length by omega)
  have pbs1:=decide_eq_false (show ¬ (70:Int) < (bs.length:Int)by omega)
  have pbs2:=decide_eq_false (show ¬ 70 < bs.length by omega)
  have pF1:=decide_eq_true (show(70:Int) < (F.length:Int)by omega)
  have pF2:=decide_eq_true (show 70 < F.length by omega)
  clear g0 g1 g2
  exact mQ12_0
 by_cases g3:70 < D.length
 ·have pl1:=decide_eq_false (show ¬ (50:Int) < (l.length:Int)by omega)
  have pl2:=decide_eq_false (show ¬ 50 < l.length by omega)
  have pbs1:=decide_eq_false (show ¬ (70:Int) < (bs.length:Int)by omega)
  have pbs2:=decide_eq_false (show ¬ 70 < bs.length by omega)
  have pF1:=decide_eq_false (show ¬ (70:Int) < (F.length:Int)by omega)
  have pF2:=decide_eq_false (show ¬ 70 < F.length by omega)
  have pD1:=decide_eq_true (show(70:Int) < (D.length:Int)by omega)
  have pD2:=decide_eq_true (show 70 < D.length by omega)
  clear g0 g1 g2 g3
  exact mQ12_0
 have pl1:=decide_eq_false (show ¬ (50:Int) < (l.length:Int)by omega)
 have pl2:=decide_eq_false (show ¬ 50 < l.length by omega)
 have pbs1:=decide_eq_false (show ¬ (70:Int) < (bs.length:Int)by omega)
 have pbs2:=decide_eq_false (show ¬ 70 < bs.length by omega)
 have pF1:=decide_eq_false (show ¬ (70:Int) < (F.length:Int)by omega)
 have pF2:=decide_eq_false (show ¬ 70 < F.length by omega)
 have pD1:=decide_eq_false (show ¬ (70:Int) < (D.length:Int)by omega)
 have pD2:=decide_eq_false (show ¬ 70 < D.length by omega)
 have HLB:=ζ (show l.length≤50∧bs.length≤70∧F.length≤70∧D.length≤70 from by omega)
 have HS:=ζ (fun W (hW:Below w.heap.size w W)=>hs.below hW)
 have HBS:=ζ (fun W (hW:Below w.heap.size w W)=>hb.below hW)
 have HFS:=ζ (fun W (hW:Below w.heap.size w W)=>hf.below hW)
 have HDS:=ζ (fun W (hW:Below w.heap.size w W)=>hd.below hW)
 have HPT:=ζ (fun W (hW:Below w.heap.size w W)=>conv_Pts la l.length lc l W (HS.out W hW) (by omega))
 have HV:=ζ (fun W (hW:Below w.heap.size w W)=>rValid_any W la l.length lc l (HS.out W hW))
 have HBR:=ζ (fun W (hW:Below w.heap.size w W) hp=>rBreaks_any W la l.length lc l (HS.out W hW) ba bs.length bc bs (HBS.out W hW) hp)
 have HIN:=ζ (fun W=>rIn_any W h 1 3000)
 have HLF:=ζ (fun W (hW:Below w.heap.size w W) h1=>rLevels_any W ba bs.length bc bs (HBS.out W hW) fa F.length fc F (HFS.out W hW) h1)
 have HLD:=ζ (fun W (hW:Below w.heap.size w W) h1=>rLevels_any W ba bs.length bc bs (HBS.out W hW) da D.length dc D (HDS.out W hW) h1)
 have HMY:=ζ (fun W (hW:Below w.heap.size w W)=>rMany_any W fa F.length fc F (HFS.out W hW) da D.length dc D (HDS.out W hW) h)
 have HRF:=ζ (fun W (hW:Below w.heap.size w W)=>rRows_any W ba bs.length bc bs (HBS.out W hW) fa F.length fc F (HFS.out W hW) da D.length dc D (HDS.out W hW) h)
 have HRB:=ζ (fun W (hW:Below w.heap.size w W) a c (hh:Sx 2 W a l.length c (L2 l)) k hk hk0=>hRows_bad W a l.length c l hh ba bs.length bc bs (HBS.out W hW) fa F.length fc F (HFS.out W hW) da D.length dc D (HDS.out W hW) h k hk hk0)
 have HRO:=ζ (fun W (hW:Below w.heap.size w W) a c (hh:Sx 2 W a l.length c (L2 l)) hk=>hRows_ok W a l.length c l hh ba bs.length bc bs (HBS.out W hW) fa F.length fc F (HFS.out W hW) da D.length dc D (HDS.out W hW) h hk)
 have HER:=ζ (show rowsErr l bs F D h=if brkB l bs=true then(if inB h 1 3000=true then(if (wrongB (bs.length - 1) F || wrongB (bs.length - 1) D)=true then 2 else if 200*h < maxL D - minL F then 5 else 0)else 3)else 2 from rfl)
 have HPB:=ζ (show profB l=false→brkB l bs=false from fun q=>by unfold brkB;rw [q];rfl)
 clear hs hb hf hd g0 g1 g2 g3
 go_enter Tryz.func6,Tryz.ntmps6
 go_wp2_with fail
 refine(HPT.out _ hC.out.be).mono ?_
 rintro e W1 ⟨a1,c1,rfl,hr,hb⟩
 have hD:=ζ (show Sy w _ [] [⟨.slice a1 l.length c1,83,2,l.length,L2 l⟩] []from hC.out.adopt hb hr)
 clear hb hr hC HPT
 cases qp:profB l
 ·have HE:=ζ (show(if brkB l bs=true then(if inB h 1 3000=true then(if (wrongB (bs.length - 1) F || wrongB (bs.length - 1) D)=true then 2 else if 200*h < maxL D - minL F then 5 else 0)else 3)else 2)=(2:Int)from by rw [HPB.out qp];rfl)
  rw [qp]at HV
  clear qp
  go_wp2_with fail
  refine(HRB.out _ hD.out.be _ _ (hD.out.osx 0 rfl) 2 (by rw [HER.out];exact HE.out) (by decide)).mono ?_
  rintro e W2 (⟨-,rfl,hb⟩ | ⟨hX,-⟩)
  rotate_left
  ·cases hX
  have hE:=ζ (hD.out.call hb)
  clear hb hD HRB HRO HER HE
  go_wp2_with fail
  refine(HV.out _ hE.out.be).mono ?_
  rintro e W3 ⟨rfl,hb⟩
  have hV:=ζ (hE.out.call hb)
  clear hb hE
  go_wp2_with fail
  refine(HW.out _).mono ?_
  rintro e WZ ⟨rfl,hb⟩
  have hZ:=ζ (hV.out.call hb)
  clear hb
  go_wp2
  go_ret
  exact⟨rfl,hZ.out.be⟩
 rw [qp]at HV
 have HBR2:=ζ (fun W hW=>HBR.out W hW qp)
 clear HBR HPB
 cases qk:brkB l bs
 ·have HE:=ζ (show(if brkB l bs=true then(if inB h 1 3000=true then(if (wrongB (bs.length - 1) F || wrongB (bs.length - 1) D)=true then 2 else if 200*h < maxL D - minL F then 5 else 0)else 3)else 2)=(2:Int)from by rw [qk];rfl)
  rw [qk]at HBR2
  clear qk
  go_wp2_with fail
  refine(HRB.out _ hD.out.be _ _ (hD.out.osx 0 rfl) 2 (by rw [HER.out];exact HE.out) (by decide)).mono ?_
  rintro e W2 (⟨-,rfl,hb⟩ | ⟨hX,-⟩)
  rotate_left
  ·cases hX
  have hE:=ζ (hD.out.call hb)
  clear hb hD HRB HRO HER HE
  go_wp2_with fail
  refine(HV.out _ hE.out.be).mono ?_
  rintro e W3 ⟨rfl,hb⟩
  have hV:=ζ (hE.out.call hb)
  clear hb hE
  go_wp2_with fail
  refine(HBR2.out _ hV.out.be).mono ?_
  rintro e W4 ⟨rfl,hb⟩
  have hG:=ζ (hV.out.call hb)
  clear hb hV
  go_wp2_with fail
  refine(HW.out _).mono ?_
  rintro e WZ ⟨rfl,hb⟩
  have hZ:=ζ (hG.out.call hb)
  clear hb
  go_wp2
  go_ret
  exact⟨rfl,hZ.out.be⟩
 rw [qk]at HBR2
 obtain ⟨-,⟨hl1,hl2⟩,hup,-⟩:=brk_ok qk
 have HB1:=ζ hl1
 have HB2:=ζ hl2
 have HUP:=ζ hup
 clear hup hl1 hl2
 rw [qk,if_pos rfl]at HER
 clear qk qp
 cases qh:inB h 1 3000
 ·have HE:=ζ (show(if inB h 1 3000=true then(if (wrongB (bs.length - 1) F || wrongB (bs.length - 1) D)=true then 2 else if 200*h < maxL D - minL F then 5 else 0)else 3)=(3:Int)from by rw [qh];rfl)
  rw [qh]at HIN
  clear qh
  go_wp2_with fail
  refine(HRB.out _ hD.out.be _ _ (hD.out.osx 0 rfl) 3 (by rw [HER.out];exact HE.out) (by decide)).mono ?_
  rintro e W2 (⟨-,rfl,hb⟩ | ⟨hX,-⟩)
  rotate_left
  ·cases hX
  have hE:=ζ (hD.out.call hb)
  clear hb hD HRB HRO HER HE
  go_wp2_with fail
  refine(HV.out _ hE.out.be).mono ?_
  rintro e W3 ⟨rfl,hb⟩
  have hV:=ζ (hE.out.call hb)
  clear hb hE
  go_wp2_with fail
  refine(HBR2.out _ hV.out.be).mono ?_
  rintro e W4 ⟨rfl,hb⟩
  have hG:=ζ (hV.out.call hb)
  clear hb hV
  go_wp2_with ((with_reducible refine(HIN.out _).mono ?_);rintro e WI ⟨rfl,rfl⟩)
  refine(HW.out _).mono ?_
  rintro e WZ ⟨rfl,hb⟩
  have hZ:=ζ (hG.out.call hb)
  clear hb
  go_wp2
  go_ret
  exact⟨rfl,hZ.out.be⟩
 have hhb:=inB_iff.1 qh
 rw [qh,if_pos rfl]at HER
 rw [qh]at HIN
 clear qh
 have HLF2:=ζ (fun W hW=>HLF.out W hW (by have:=HB1.out;omega))
 have HLD2:=ζ (fun W hW=>HLD.out W hW (by have:=HB1.out;omega))
 clear HLF HLD
 cases q2:wrongB (bs.length - 1) F
 rotate_left
 ·have HE:=ζ (show(if (wrongB (bs.length - 1) F || wrongB (bs.length - 1) D)=true then 2 else if 200*h < maxL D - minL F then 5 else 0)=(2:Int)from by rw [q2];rfl)
  rw [q2]at HLF2
  clear q2
  go_wp2_with fail
  refine(HRB.out _ hD.out.be _ _ (hD.out.osx 0 rfl) 2 (by rw [HER.out];exact HE.out) (by decide)).mono ?_
  rintro e W2 (⟨-,rfl,hb⟩ | ⟨hX,-⟩)
  rotate_left
  ·cases hX
  have hE:=ζ (hD.out.call hb)
  clear hb hD HRB HRO HER HE
  go_wp2_with fail
  refine(HV.out _ hE.out.be).mono ?_
  rintro e W3 ⟨rfl,hb⟩
  have hV:=ζ (hE.out.call hb)
  clear hb hE
  go_wp2_with fail
  refine(HBR2.out _ hV.out.be).mono ?_
  rintro e W4 ⟨rfl,hb⟩
  have hG:=ζ (hV.out.call hb)
  clear hb hV
  go_wp2_with ((with_reducible refine(HIN.out _).mono ?_);rintro e WI ⟨rfl,rfl⟩)
  refine(HLF2.out _ hG.out.be).mono ?_
  rintro e W5 ⟨rfl,hb⟩
  have hH:=ζ (hG.out.call hb)
  clear hb hG
  go_wp2_with fail
  refine(HW.out _).mono ?_
  rintro e WZ ⟨rfl,hb⟩
  have hZ:=ζ (hH.out.call hb)
  clear hb
  go_wp2
  go_ret
  exact⟨rfl,hZ.out.be⟩
 cases q3:wrongB (bs.length - 1) D
 rotate_left
 ·have HE:=ζ (show(if (wrongB (bs.length - 1) F || wrongB (bs.length - 1) D)=true then 2 else if 200*h < maxL D - minL F then 5 else 0)=(2:Int)from by rw [q3,Bool.or_true];rfl)
  rw [q2]at HLF2
  rw [q3]at HLD2
  clear q2 q3
  go_wp2_with fail
  refine(HRB.out _ hD.out.be _ _ (hD.out.osx 0 rfl) 2 (by rw [HER.out];exact HE.out) (by decide)).mono ?_
  rintro e W2 (⟨-,rfl,hb⟩ | ⟨hX,-⟩)
  rotate_left
  ·cases hX
  have hE:=ζ (hD.out.call hb)
  clear hb hD HRB HRO HER HE
  go_wp2_with fail
  refine(HV.out _ hE.out.be).mono ?_
  rintro e W3 ⟨rfl,hb⟩
  have hV:=ζ (hE.out.call hb)
  clear hb hE
  go_wp2_with fail
  refine(HBR2.out _ hV.out.be).mono ?_
  rintro e W4 ⟨rfl,hb⟩
  have hG:=ζ (hV.out.call hb)
  clear hb hV
  go_wp2_with ((with_reducible refine(HIN.out _).mono ?_);rintro e WI ⟨rfl,rfl⟩)
  refine(HLF2.out _ hG.out.be).mono ?_
  rintro e W5 ⟨rfl,hb⟩
  have hH:=ζ (hG.out.call hb)
  clear hb hG
  go_wp2_with fail
  refine(HLD2.out _ hH.out.be).mono ?_
  rintro e W6 ⟨rfl,hb⟩
  have hI:=ζ (hH.out.call hb)
  clear hb hH
  go_wp2_with fail
  refine(HW.out _).mono ?_
  rintro e WZ ⟨rfl,hb⟩
  have hZ:=ζ (hI.out.call hb)
  clear hb
  go_wp2
  go_ret
  exact⟨rfl,hZ.out.be⟩
 obtain ⟨fl,fb⟩:=wrongB_no q2
 obtain ⟨gl,gb⟩:=wrongB_no q3
 have hb1:=HB1.out
 have hb2:=HB2.out
 have m1:=minL_in (l:=F) (lo:= -200000) (hi:=200000) (by omega) fb
 have m2:=maxL_in (l:=D) (lo:= -200000) (hi:=200000) (by omega) gb
 rw [q2,q3,Bool.or_false,if_neg Bool.false_ne_true]at HER
 rw [q2]at HLF2
 rw [q3]at HLD2
 have HMY2:=ζ (fun W hW=>HMY.out W hW (by omega) (by omega) (by omega) (by omega) m1 m2 hhb)
 have HRF2:=ζ (fun W hW=>HRF.out W hW (bs.length - 1) (by omega) fl gl (by omega) fb hhb (fun i hi=>HUP.out i (by omega)))
 have HRE:=ζ (show 200*h < maxL D - minL F∨rowsUp bs F D (minL F) h (bs.length - 1) 200=rowsL bs F D h from by
  rcases Int.lt_or_le (200*h) (maxL D - minL F)with q | q
  ·exact .inl q
  ·exact .inr (rows_200 hhb.1 (by omega) gl q))
 clear HMY HRF HUP fb gb m1 m2 q2 q3 hb1 hb2 fl gl
 by_cases qm:200*h < maxL D - minL F
 ·have HE:=ζ (show(if 200*h < maxL D - minL F then 5 else 0)=(5:Int)from if_pos qm)
  rw [decide_eq_true qm]at HMY2
  clear qm HRE
  go_wp2_with fail
  refine(HRB.out _ hD.out.be _ _ (hD.out.osx 0 rfl) 5 (by rw [HER.out];exact HE.out) (by decide)).mono ?_
  rintro e W2 (⟨-,rfl,hb⟩ | ⟨hX,-⟩)
  rotate_left
  ·cases hX
  have hE:=ζ (hD.out.call hb)
  clear hb hD HRB HRO HER HE
  go_wp2_with fail
  refine(HV.out _ hE.out.be).mono ?_
  rintro e W3 ⟨rfl,hb⟩
  have hV:=ζ (hE.out.call hb)
  clear hb hE
  go_wp2_with fail
  refine(HBR2.out _ hV.out.be).mono ?_
  rintro e W4 ⟨rfl,hb⟩
  have hG:=ζ (hV.out.call hb)
  clear hb hV
  go_wp2_with ((with_reducible refine(HIN.out _).mono ?_);rintro e WI ⟨rfl,rfl⟩)
  refine(HLF2.out _ hG.out.be).mono ?_
  rintro e W5 ⟨rfl,hb⟩
  have hH:=ζ (hG.out.call hb)
  clear hb hG
  go_wp2_with fail
  refine(HLD2.out _ hH.out.be).mono ?_
  rintro e W6 ⟨rfl,hb⟩
  have hI:=ζ (hH.out.call hb)
  clear hb hH
  go_wp2_with fail
  refine(HMY2.out _ hI.out.be).mono ?_
  rintro e W7 ⟨rfl,hb⟩
  have hJ:=ζ (hI.out.call hb)
  clear hb hI
  go_wp2_with fail
  refine(HW.out _).mono ?_
  rintro e WZ ⟨rfl,hb⟩
  have hZ:=ζ (hJ.out.call hb)
  clear hb
  go_wp2
  go_ret
  exact⟨rfl,hZ.out.be⟩
 have HE:=ζ (show rowsErr l bs F D h=0 from by rw [HER.out,if_neg qm])
 have HR2:=ζ (HRE.out.resolve_left qm)
 rw [decide_eq_false qm]at HMY2
 rw [HR2.out]at HRF2
 clear qm HRE HER HRB HR2 hhb
 generalize rowsL bs F D h=RR at*
 go_wp2_with fail
 refine(HRO.out _ hD.out.be _ _ (hD.out.osx 0 rfl) HE.out).mono ?_
 rintro e W2 (⟨hX,-⟩ | ⟨-,a7,c7,T,HT,rfl,HTX,hb⟩)
 ·exact absurd rfl hX
 have hE:=ζ (show Sy w W2 [] [] [RwR a7 T c7]from by
  have h2:=(hD.out.call hb).thin (bs':=[]) (os':=[]) (List.nil_sublist _) (List.nil_sublist _)
  exact h2.push fun V hV=>⟨HTX.out.1.away hV (by simp [ownOf]),fun t ht=>(HTX.out.2 t ht).away hV (by simp [ownOf])⟩)
 clear hb hD HTX HRO HE
 go_wp2_with fail
 refine(HV.out _ hE.out.be).mono ?_
 rintro e W3 ⟨rfl,hb⟩
 have hV:=ζ (hE.out.call hb)
 clear hb hE
 go_wp2_with fail
 refine(HBR2.out _ hV.out.be).mono ?_
 rintro e W4 ⟨rfl,hb⟩
 have hG:=ζ (hV.out.call hb)
 clear hb hV
 go_wp2_with ((with_reducible refine(HIN.out _).mono ?_);rintro e WI ⟨rfl,rfl⟩)
 refine(HLF2.out _ hG.out.be).mono ?_
 rintro e W5 ⟨rfl,hb⟩
 have hH:=ζ (hG.out.call hb)
 clear hb hG
 go_wp2_with fail
 refine(HLD2.out _ hH.out.be).mono ?_
 rintro e W6 ⟨rfl,hb⟩
 have hI:=ζ (hH.out.call hb)
 clear hb hH
 go_wp2_with fail
 refine(HMY2.out _ hI.out.be).mono ?_
 rintro e W7 ⟨rfl,hb⟩
 have hJ:=ζ (hI.out.call hb)
 clear hb hI
 go_wp2_with fail
 refine(HRF2.out _ hJ.out.be).mono ?_
 rintro e W8 ⟨a8,c8,U,HU,rfl,HUX,hb⟩
 have hK:=ζ (show Sy w W8 [] [] [RwR a7 T c7,RwR a8 U c8]from(hJ.out.call hb).push fun V hV=>⟨HUX.out.1.away hV (by simp [ownOf]),fun t ht=>(HUX.out.2 t ht).away hV (by simp [ownOf])⟩)
 clear hb hJ HUX
 have HTU:=ζ (HT.out.trans HU.out.symm)
 have HLN:=ζ (show T.length=U.length from by have:=congrArg List.length HTU.out;simpa using this)
 have HNE:=ζ (fun i (h1:i < T.length) (h2:i < U.length)=>nR_eq HTU.out h1 h2)
 clear HT HU HTU HV HBR2 HIN HLF2 HLD2 HMY2 HRF2 HS HBS HFS HDS
 have n1:((T.length:Int) !=(U.length:Int))=false:=by rw [HLN.out];simp
 go_upto_region 18 with fail
 clear n1
 go_wp2
 go_loopw [15] (fun iv wr=>∃i:Nat,i≤U.length∧iv= .int .i64 i∧Hid (Sy w wr [] [] [RwR a7 T c7,RwR a8 U c8])) (fun iv _=>U.length - (intOf iv).toNat)
 case atStart=>exact⟨0,Nat.zero_le _,rfl,hK⟩
 case round=>
  clear hK
  obtain ⟨i,hi,rfl,hS⟩:=hrel
  by_cases hlt:i < U.length
  rotate_left
  ·obtain rfl:i=U.length:=by omega
   go_wp2_with fail
   refine(HW.out _).mono ?_
   rintro e WZ ⟨rfl,hb⟩
   have hZ:=ζ (hS.out.call hb)
   clear hb
   go_wp2
   go_ret
   exact⟨rfl,hZ.out.be⟩
  have hcu:=(hS.out.r 1 rfl).r.cap
  unfold maxLen at hcu
  have hiT:i < T.length:=by rw [HLN.out];exact hlt
  obtain ⟨g7,o7,rfl⟩:=(hS.out.r 0 rfl).r.addr (by omega)
  obtain ⟨g8,o8,rfl⟩:=(hS.out.r 1 rfl).r.addr (by omega)
  have HCT:=ζ (fun V (h:RwR (some ⟨g7,o7,none⟩) T c7 V)=>h.cells hiT)
  have HCU:=ζ (fun V (h:RwR (some ⟨g8,o8,none⟩) U c8 V)=>h.cells hlt)
  have HYT:=ζ (fun V (h:RwR (some ⟨g7,o7,none⟩) T c7 V)=>h.b _ (List.getElem_mem hiT))
  have HYU:=ζ (fun V (h:RwR (some ⟨g8,o8,none⟩) U c8 V)=>h.b _ (List.getElem_mem hlt))
  have HEQ:=ζ (HNE.out i hiT hlt)
  have j0:(0:Int)≤(i:Int):=by omega
  have j1:(i:Int) < (T.length:Int):=by omega
  have j2:(i:Int) < (U.length:Int):=by omega
  generalize T[i]=x at*
  generalize U[i]=y at*
  obtain ⟨xl,xh,xa,xc,xb⟩:=x
  obtain ⟨yl,yh,ya,yc,yb⟩:=y
  have HEQ2:=HEQ.out
  clear HEQ
  dsimp only at HEQ2 HCT HCU HYT HYU
  obtain ⟨rfl,rfl,rfl⟩:=HEQ2
  obtain ⟨t0,t1,t2⟩:=HCT.out _ (hS.out.r 0 rfl)
  obtain ⟨s0,s1,s2⟩:=HCU.out _ (hS.out.r 1 rfl)
  have n1:(xl !=xl)=false:=bne_self_eq_false _
  have n2:(xh !=xh)=false:=bne_self_eq_false _
  have n3:((xb.length:Int) !=(xb.length:Int))=false:=bne_self_eq_false _
  go_upto_region 21 with fail
  go_quiet (fail)
  have hU:=ζ (hS.out.call (below_dN (Below.refl _ _) nq))
  clear hS t0 t1 t2 s0 s1 s2 n1 n2 n3
  go_upto_region 24 with fail
  refine wp_geny hU.out ?_
  intro W9 hc
  have hS:=ζ hc
  clear hc hU
  go_wp2
  go_loopw [16] (fun kv wr=>∃k:Nat,k≤xb.length∧kv= .int .i64 k∧Hid (Sy w wr [] [] [RwR (some ⟨g7,o7,none⟩) T c7,RwR (some ⟨g8,o8,none⟩) U c8])) (fun kv _=>xb.length - (intOf kv).toNat)
  case atStart=>exact⟨0,Nat.zero_le _,rfl,hS⟩
  case round=>
   clear hS
   obtain ⟨k,hk,rfl,hS⟩:=hrel
   obtain ⟨t0,t1,t2⟩:=HCT.out _ (hS.out.r 0 rfl)
   obtain ⟨s0,s1,s2⟩:=HCU.out _ (hS.out.r 1 rfl)
   by_cases hkl:k < xb.length
   ·have hcb:=(HYU.out _ (hS.out.r 1 rfl)).cap
    unfold maxLen at hcb
    obtain ⟨g5,o5,rfl⟩:=(HYT.out _ (hS.out.r 0 rfl)).addr (by omega)
    obtain ⟨g6,o6,rfl⟩:=(HYU.out _ (hS.out.r 1 rfl)).addr (by omega)
    obtain ⟨u0,u1⟩:=(HYT.out _ (hS.out.r 0 rfl)).at2 hkl
    obtain ⟨v0,v1⟩:=(HYU.out _ (hS.out.r 1 rfl)).at2 hkl
    have l0:(0:Int)≤(k:Int):=by omega
    have l1:(k:Int) < (xb.length:Int):=by omega
    generalize xb[k]=bb at*
    obtain ⟨p0,p1⟩:=bb
    dsimp only at u0 u1 v0 v1
    have n1:(p0 !=p0)=false:=bne_self_eq_false _
    have n2:(p1 !=p1)=false:=bne_self_eq_false _
    go_upto_region 26 with fail
    go_quiet (fail)
    have hU:=ζ (hS.out.call (below_dN (Below.refl _ _) nq))
    clear hS t0 t1 t2 s0 s1 s2 n1 n2 u0 u1 v0 v1
    go_wp2
    go_roundw
    case rel=>exact⟨k+1,by omega,by go_num,hU⟩
    case measure=>simp [intOf];omega
   ·obtain rfl:k=xb.length:=by omega
    go_wp2
    go_roundw
    case rel=>exact⟨i+1,by omega,by go_num,hS⟩
    case measure=>simp [intOf];omega
end
end Go.Proofs.YthmdhlopeponcaaGreatDoor
