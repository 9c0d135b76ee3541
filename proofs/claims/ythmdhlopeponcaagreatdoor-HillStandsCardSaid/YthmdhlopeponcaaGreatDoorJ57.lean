/- the law HillStands, walked -/
import Derived.Test.YthmdhlopeponcaaGreatDoorJ56
import Derived.Test.YthmdhlopeponcaaGreatDoorJ43
import Derived.Test.YthmdhlopeponcaaGreatDoorJ35
import Derived.Test.YthmdhlopeponcaaGreatDoorJ45
namespace Go.Proofs.YthmdhlopeponcaaGreatDoor
open Go.RowKit Go.Shelf Dig
structure StR (a5:Option Addr) (F:List Int) (c5:Nat) (a6:Option Addr) (D:List Int) (c6:Nat) (a7:Option Addr) (T:List Rwx) (c7:Nat) (V:World):Prop where
 f:Sx 1 V a5 F.length c5 (L1 F)
 d:Sx 1 V a6 D.length c6 (L1 D)
 r:Sx 3 V a7 T.length c7 (LRw T)
 b:∀t∈T,Sx 2 V t.ba t.bays.length t.bc (L2 t.bays)
theorem LRw_at {V:World} {g o c:Nat} {T:List Rwx} (h:Sx 3 V (some ⟨g,o,none⟩) T.length c (LRw T)) {i:Nat} (hi:i < T.length):
  V.cell? ⟨g,o+i*3,none⟩=some (.int .i64 T[i].low)∧V.cell? ⟨g,o+i*3+1,none⟩=some (.int .i64 T[i].high)∧V.cell? ⟨g,o+i*3+2,none⟩=some (.slice T[i].ba T[i].bays.length T[i].bc):=
 ⟨h.cell (flat_get (k:=3) (fun _=>rfl) T i 0 hi (by omega)),h.cell (flat_get (k:=3) (fun _=>rfl) T i 1 hi (by omega)),h.cell (flat_get (k:=3) (fun _=>rfl) T i 2 hi (by omega))⟩
def cn (bs:List Int) (t:Nat) (x:Rwx):Nat:=cntT bs t (nR x)
theorem sum_step {bs:List Int} {t:Nat} {T:List Rwx} {i:Nat} (h:i < T.length):((T.take (i+1)).map (cn bs t)).sum=((T.take i).map (cn bs t)).sum+T[i].bays.countP (covB (bX bs) t):=by
 rw [List.take_succ_eq_append_getElem h,List.map_append,List.sum_append,List.map_singleton,List.sum_singleton];rfl
section
variable (w:World)
set_option maxHeartbeats 8000000 in
set_option maxRecDepth 100000 in
theorem hillStands_walk (la:Option Addr) (ln lc:Nat) (l:List Pt) (ba:Option Addr) (bn bc:Nat) (bs:List Int) (dep hei rise rw_:Int) (hs:Sx 2 w la ln lc (L2 l)) (hb:Sx 1 w ba bn bc (L1 bs)) (hfa:0≤dep∧dep < 65536) (hhe:0≤hei∧hei < 65536) (hri:0≤rise∧rise < 65536) (hro:0≤rw_∧rw_ < 256):
  Calls Tryz.prog 9 #[.slice la ln lc,.slice ba bn bc,.int .u16 dep,.int .u16 hei,.int .u16 rise,.int .u8 rw_] w (Gives (.bool true) w):=by
 have HW:=Lib.hid wakes08
 have HV:=Lib.hid (fun W (hW:Below w.heap.size w W)=>rValid_any W la ln lc l (hs.below hW))
 have hC:=Lib.hid (Sy.enter w)
 obtain rfl:=hs.n2
 obtain rfl:=hb.n1
 have HS:=Lib.hid hs
 have HBS:=Lib.hid (fun W (hW:Below w.heap.size w W)=>hb.below hW)
 have HPT:=Lib.hid (fun W (hW:Below w.heap.size w W) hn=>conv_Pts la l.length lc l W (HS.out.below hW) hn)
 have HBR:=Lib.hid (fun W (hW:Below w.heap.size w W) hp=>rBreaks_any W la l.length lc l (HS.out.below hW) ba bs.length bc bs (HBS.out W hW) hp)
 have hcap:=hb.cap
 unfold maxLen at hcap
 clear hs hb
 cases hp:profB l
 ·rw [hp]at HV
  clear hp
  go_enter Tryz.func9,Tryz.ntmps9
  go_wp2_with fail
  refine(HV.out _ hC.out.be).mono ?_
  rintro e W1 ⟨rfl,hb⟩
  have hD:=Lib.hid (hC.out.call hb)
  clear hb hC
  go_wp2_with fail
  refine(HW.out _).mono ?_
  rintro e WZ ⟨rfl,hb⟩
  have hZ:=Lib.hid (hD.out.call hb)
  clear hb
  go_wp2
  go_ret
  exact⟨rfl,hZ.out.be⟩
 rw [hp]at HV
 have hP:=prof_iff.1 hp
 have hlen:2≤l.length∧l.length≤40:=⟨hP.two,hP.forty⟩
 clear hP
 go_enter Tryz.func9,Tryz.ntmps9
 go_wp2_with fail
 refine(HV.out _ hC.out.be).mono ?_
 rintro e W1 ⟨rfl,hb⟩
 have hD:=Lib.hid (hC.out.call hb)
 clear hb hC HV
 have HBR2:=Lib.hid (fun W hW=>HBR.out W hW hp)
 clear HBR
 cases hk:brkB l bs
 ·rw [hk]at HBR2
  clear hk hp
  go_wp2_with fail
  refine(HBR2.out _ hD.out.be).mono ?_
  rintro e W2 ⟨rfl,hb⟩
  have hE:=Lib.hid (hD.out.call hb)
  clear hb hD
  go_wp2_with fail
  refine(HW.out _).mono ?_
  rintro e WZ ⟨rfl,hb⟩
  have hZ:=Lib.hid (hE.out.call hb)
  clear hb
  go_wp2
  go_ret
  exact⟨rfl,hZ.out.be⟩
 rw [hk]at HBR2
 go_wp2_with fail
 refine(HBR2.out _ hD.out.be).mono ?_
 rintro e W2 ⟨rfl,hb⟩
 have hE:=Lib.hid (hD.out.call hb)
 clear hb hD HBR2 hp
 go_wp2_with fail
 refine(HPT.out _ hE.out.be (by omega)).mono ?_
 rintro e W3 ⟨a3,c3,rfl,hr,hb⟩
 have hF:=Lib.hid (show Sy w _ [] [⟨.slice a3 l.length c3,83,2,l.length,L2 l⟩] []from hE.out.adopt hb hr)
 clear hb hr hE HPT
 have d1:0≤dep % 3001∧dep % 3001≤3000:=by omega
 have d2:0≤hei % 3001∧hei % 3001≤3000:=by omega
 have d3:0≤rise % 3001∧rise % 3001≤3000:=by omega
 have w1:IntKind.u16.wrap (dep % 3001)=dep % 3001:=IntWalk.u16_in _ (by omega)
 have w2:IntKind.u16.wrap (hei % 3001)=hei % 3001:=IntWalk.u16_in _ (by omega)
 have w3:IntKind.u16.wrap (rise % 3001)=rise % 3001:=IntWalk.u16_in _ (by omega)
 have w4:IntKind.i64.wrap (dep % 3001)=dep % 3001:=IntWalk.i64_in _ (by omega)
 have w5:IntKind.i64.wrap (hei % 3001)=hei % 3001:=IntWalk.i64_in _ (by omega)
 have w6:IntKind.i64.wrap (rise % 3001)=rise % 3001:=IntWalk.i64_in _ (by omega)
 have w7:IntKind.i64.wrap rw_=rw_:=IntWalk.i64_in _ (by omega)
 have w8:IntKind.i64.wrap (20+rw_)=20+rw_:=IntWalk.i64_in _ (by omega)
 have HH:=Lib.hid (show ∃h,20+rw_=h from⟨_,rfl⟩)
 obtain ⟨d,hd⟩:∃d,dep % 3001=d:=⟨_,rfl⟩
 obtain ⟨e,he⟩:∃e,hei % 3001=e:=⟨_,rfl⟩
 obtain ⟨r,hr⟩:∃r,rise % 3001=r:=⟨_,rfl⟩
 rw [hd]at d1 w1 w4
 rw [he]at d2 w2 w5
 rw [hr]at d3 w3 w6
 have hr2:=inB_iff.2 d1
 have hr3:=inB_iff.2 d2
 have hr4:=inB_iff.2 d3
 have L1':lvErr l bs d r=0:=by unfold lvErr;rw [if_pos hk,hr2,hr4];rfl
 have L2':lvErr l bs e r=0:=by unfold lvErr;rw [if_pos hk,hr3,hr4];rfl
 have HCF:=Lib.hid (fun W sa sc (hs:Sx 2 W sa l.length sc (L2 l)) (hW:Below w.heap.size w W)=>show Calls Tryz.prog 18 #[.slice sa l.length sc,.slice ba bs.length bc,.int .i64 d,.int .i64 r] W (RetLv W (lvErr l bs d r) (folL min r (baseL l bs d)))from hFeet_any W sa l.length sc l hs ba bs.length bc bs (HBS.out W hW) d r (by omega) (by omega))
 have HCH:=Lib.hid (fun W sa sc (hs:Sx 2 W sa l.length sc (L2 l)) (hW:Below w.heap.size w W)=>show Calls Tryz.prog 19 #[.slice sa l.length sc,.slice ba bs.length bc,.int .i64 e,.int .i64 r] W (RetLv W (lvErr l bs e r) (headsL l bs e r))from hHeads_any W sa l.length sc l hs ba bs.length bc bs (HBS.out W hW) e r (by omega) (by omega))
 rw [L1']at HCF
 rw [L2']at HCH
 have n1:=folL_len min r (baseL l bs d)
 rw [baseL_len]at n1
 have n2:=headsL_len (l:=l) (bs:=bs) (e:=e) (r:=r)
 have HFI:=Lib.hid (feet_in (l:=l) (bs:=bs) (d:=d) (r:=r) hk d1 d3.1)
 have HDI:=Lib.hid (heads_in (l:=l) (bs:=bs) (e:=e) (r:=r) hk d2 d3.1)
 have HFD:=Lib.hid (fun i hi=>foot_head (l:=l) (bs:=bs) (d:=d) (e:=e) (r:=r) hk d1.1 d2.1 d3.1 (i:=i) hi)
 obtain ⟨-,hbl,hup,-⟩:=brk_ok hk
 have HUP:=Lib.hid (show ∀i,i < bs.length - 1→bX bs i < bX bs (i+1)from fun i hi=>hup i (by omega))
 have HK:=Lib.hid hk
 clear L1' L2' hr2 hr3 hr4 hk HS hup
 generalize folL min r (baseL l bs d)=F at*
 generalize headsL l bs e r=D at*
 have HN1:=Lib.hid n1
 have HN2:=Lib.hid n2
 clear n1 n2
 go_wp2_with fail
 refine(HCF.out _ _ _ (hF.out.osx 0 rfl) hF.out.be).mono ?_
 rintro _ W4 (⟨-,a5,c5,rfl,hrr,hb⟩ | ⟨h,-⟩)
 rotate_left
 ·exact absurd rfl h
 have hG:=Lib.hid (show Sy w _ [] [⟨.slice a3 l.length c3,83,2,l.length,L2 l⟩,⟨.slice a5 F.length c5,3,1,F.length,L1 F⟩] []from hF.out.adopt hb hrr)
 clear hb hrr hF HCF
 go_wp2_with fail
 refine(HCH.out _ _ _ (hG.out.osx 0 rfl) hG.out.be).mono ?_
 rintro _ W5 (⟨-,a6,c6,rfl,hrr,hb⟩ | ⟨h,-⟩)
 rotate_left
 ·exact absurd rfl h
 have hH:=Lib.hid (show Sy w _ [] [⟨.slice a3 l.length c3,83,2,l.length,L2 l⟩,⟨.slice a5 F.length c5,3,1,F.length,L1 F⟩,⟨.slice a6 D.length c6,3,1,D.length,L1 D⟩] []from hG.out.adopt hb hrr)
 clear hb hrr hG HCH
 go_upto_region 7 with fail
 obtain ⟨h,hh⟩:=HH.out
 rw [hh]
 have hh1:20≤h∧h≤275:=by omega
 clear w1 w2 w3 w4 w5 w6 w7 w8 hh HH d1 d2 d3 hd he hr
 have n1:=HN1.out
 have n2:=HN2.out
 have i9:IntKind.i64.wrap ((bs.length:Int) - 1)=(F.length:Int):=by rw [IntWalk.i64_in _ (by omega)];omega
 have hnn:0 < F.length∧F.length≤60:=by omega
 have HDF:=Lib.hid (show D.length=F.length from by omega)
 have hWR:(wrongB (bs.length - 1) F || wrongB (bs.length - 1) D)=false:=by
  unfold wrongB
  rw [Bool.or_eq_false_iff,Bool.or_eq_false_iff,Bool.or_eq_false_iff]
  exact⟨⟨decide_eq_false (by omega),List.any_eq_false.2 fun z hz=>by have:=HFI.out z hz;rw [inB_iff.2 (by omega)];simp⟩,decide_eq_false (by omega),List.any_eq_false.2 fun z hz=>by have:=HDI.out z hz;rw [inB_iff.2 (by omega)];simp⟩
 have hRE:rowsErr l bs F D h=0∨rowsErr l bs F D h=5:=by
  unfold rowsErr
  rw [if_pos HK.out,if_pos (inB_iff.2 (by omega)),hWR,if_neg Bool.false_ne_true]
  split
  ·exact .inr rfl
  ·exact .inl rfl
 have HBS2:=Lib.hid (HBS.out _ hH.out.be)
 have i8:((D.length:Int) !=(F.length:Int))=false:=by rw [HDF.out];simp
 have i10:D.length - 0=D.length:=rfl
 clear n1 n2 hWR i10
 rcases hRE with hRE | hRE
 rotate_left
 ·go_wp2_with fail
  refine(hRows_bad _ _ _ _ l (hH.out.osx 0 rfl) ba bs.length bc bs HBS2.out _ _ _ F (hH.out.osx 1 rfl) _ _ _ D (hH.out.osx 2 rfl) h 5 hRE (by omega)).mono ?_
  rintro e W7 (⟨-,rfl,hb⟩ | ⟨h,-⟩)
  rotate_left
  ·cases h
  have hT:=Lib.hid (hH.out.call hb)
  clear hb hH hRE
  go_wp2_with fail
  go_wp2_with fail
  refine(HW.out _).mono ?_
  rintro e WZ ⟨rfl,hb⟩
  have hZ:=Lib.hid (hT.out.call hb)
  clear hb
  go_wp2
  go_ret
  exact⟨rfl,hZ.out.be⟩
 go_wp2_with fail
 refine(hRows_ok _ _ _ _ l (hH.out.osx 0 rfl) ba bs.length bc bs HBS2.out _ _ _ F (hH.out.osx 1 rfl) _ _ _ D (hH.out.osx 2 rfl) h hRE).mono ?_
 rintro e W7 (⟨h,-⟩ | ⟨-,a7,c7,T,HTR,rfl,HTX,hb⟩)
 ·exact absurd rfl h
 have hT0:=Lib.hid (show Sy w W7 [] [] [(StR a5 F c5 a6 D c6 a7 T c7)]from by
  have h1:=hH.out.call hb
  have h2:=h1.thin (bs':=[]) (os':=[]) (List.nil_sublist _) (List.nil_sublist _)
  exact h2.push fun V hV=>⟨(h1.osx 1 rfl).away hV (by simp [ownOf]),(h1.osx 2 rfl).away hV (by simp [ownOf]),HTX.out.1.away hV (by simp [ownOf]),fun t ht=>(HTX.out.2 t ht).away hV (by simp [ownOf])⟩)
 clear hb hH HTX hRE HBS2
 have HRW:=Lib.hid (fun i (hi:i < T.length) t (ht:t < F.length)=>stand_row (bs:=bs) (F:=F) (D:=D) (h:=h) HUP.out (x:=nR T[i]) (by rw [←HTR.out];exact List.mem_map.2 ⟨_,List.getElem_mem hi,rfl⟩) (t:=t) (by rw [←HN1.out];exact ht))
 have HRU:=Lib.hid (fun k (hk:k+1 < T.length)=>show T[k].high≤T[k+1].low from by
  have hl:T.length=(rowsL bs F D h).length:=by rw [←HTR.out,List.length_map]
  have:=stand_up (bs:=bs) (F:=F) (D:=D) (h:=h) (by omega) (k:=k) (by omega)
  have e1:(rowsL bs F D h)[k]'(by omega)=nR T[k]:=by simp only [←HTR.out,List.getElem_map]
  have e2:(rowsL bs F D h)[k+1]'(by omega)=nR T[k+1]:=by simp only [←HTR.out,List.getElem_map]
  rw [e1,e2]at this
  exact this)
 have HMA:=Lib.hid (fun t (ht:t < F.length)=>show(((T.map (cn bs t)).sum:Nat):Int)=max 0 ((bX D t - minL F) / h - (bX F t - minL F+h - 1) / h)from by
  have:=stand_many (bs:=bs) (F:=F) (D:=D) (h:=h) HUP.out (by omega) HN1.out HN2.out (t:=t) (by rw [←HN1.out];exact ht) (HFD.out t (by rw [←HN1.out];exact ht))
  rw [←HTR.out,List.map_map]at this
  exact this)
 have HSB:=Lib.hid (fun i (hi:i≤T.length) t (ht:t < F.length)=>show((T.take i).map (cn bs t)).sum≤60*i from by
  have:=sum_le (cn bs t) 60 (T.take i) (fun x hx=>by
   obtain ⟨j,hj,rfl⟩:=List.getElem_of_mem hx
   rw [List.length_take]at hj
   rw [List.getElem_take]
   have h1:=(HRW.out j (by omega) t ht).2.1
   have h2:=cntT_le (bs:=bs) t (nR T[j])
   have h3:=HN1.out
   unfold cn
   omega)
  rw [List.length_take,Nat.min_eq_left hi]at this
  exact this)
 have hTL:T.length≤1000000:=by
  have:=(hT0.out.r 0 rfl).r.cap
  have hl:T.length=(rowsL bs F D h).length:=by rw [←HTR.out,List.length_map]
  have h2:=rowsUp_len bs F D (minL F) h (bs.length - 1) (rowN (minL F) (maxL D) h)
  unfold rowsL at hl
  have h3:=minL_in (l:=F) hnn.1 (lo:= -103000) (hi:=100000) HFI.out
  have h4:=maxL_in (l:=D) (by have:=HDF.out;omega) (lo:= -100000) (hi:=103000) HDI.out
  unfold rowN at h2 hl
  have h5:(maxL D - minL F) / h≤maxL D - minL F∨maxL D - minL F < 0:=by
   rcases Int.lt_or_le (maxL D - minL F) 0 with h | h
   ·exact .inr h
   ·exact .inl (Int.ediv_le_self _ h)
  have h6:(maxL D - minL F) / h≤206000:=by
   rcases h5 with h5 | h5
   ·omega
   ·have:=Int.ediv_neg_of_neg_of_pos h5 (show 0 < h by omega)
    omega
  omega
 have HXB:=Lib.hid (fun i (hi:i < T.length)=>show minL F≤T[i].low∧T[i].low+h≤maxL D from stand_low (bs:=bs) (F:=F) (D:=D) (h:=h) (by omega) (x:=nR T[i]) (by rw [←HTR.out];exact List.mem_map.2 ⟨_,List.getElem_mem hi,rfl⟩))
 have HLW:=Lib.hid (fun t (h:t < F.length)=>show minL F≤bX F t from minL_le hnn.1 _ (by rw [bX_at h];exact List.getElem_mem _))
 clear HTR
 have hml:=minL_in (l:=F) hnn.1 (lo:= -103000) (hi:=100000) HFI.out
 have hmx:=maxL_in (l:=D) (by have:=HDF.out;omega) (lo:= -100000) (hi:=103000) HDI.out
 go_upto_region 12 with fail
 obtain ⟨g5,o5,rfl⟩:=(hT0.out.r 0 rfl).f.addr hnn.1
 obtain ⟨g6,o6,rfl⟩:=(hT0.out.r 0 rfl).d.addr (by have:=HDF.out;omega)
 obtain ⟨gb,ob,rfl⟩:=(HBS.out w (Below.refl _ _)).addr (by omega)
 have HFS:=Lib.hid (fun k (hk:k < F.length)=>show min (minL (F.take (max k 1))) (bX F k)=minL (F.take (max (k+1) 1))from by
  rcases Nat.eq_zero_or_pos k with e | e
  ·subst e
   rw [bX_at hk]
   cases F with
   | nil=>simp at hk
   | cons a t=>simp [minL]
  ·rw [show max k 1=k by omega,show max (k+1) 1=k+1 by omega,minL_take e hk,bX_at hk])
 have HF0:=Lib.hid (show bX F 0=minL (F.take (max 0 1))from by
  cases F with
  | nil=>simp at hnn
  | cons a t=>rfl)
 have z0:=(hT0.out.r 0 rfl).f.atX hnn.1
 rw [HF0.out,Nat.add_zero]at z0
 have i3:(0:Int) < (F.length:Int):=by omega
 go_wp2
 go_loopw [21,22] (fun mv iv wr=>∃k:Nat,k≤F.length∧mv= .int .i64 (minL (F.take (max k 1)))∧iv= .int .i64 k∧Hid (Sy w wr [] [] [(StR (some ⟨g5,o5,none⟩) F c5 (some ⟨g6,o6,none⟩) D c6 a7 T c7)])) (fun _ iv _=>F.length - (intOf iv).toNat)
 case atStart=>exact⟨0,Nat.zero_le _,rfl,rfl,hT0⟩
 case round=>
  clear hT0 z0
  obtain ⟨k,hkk,rfl,rfl,hS⟩:=hrel
  by_cases hlt:k < F.length
  ·have y0:=(hS.out.r 0 rfl).f.atX hlt
   have HM:=Lib.hid (HFS.out k hlt)
   have i0:(0:Int)≤(k:Int):=by omega
   have i1:(k:Int) < (F.length:Int):=by omega
   generalize bX F k=u at*
   generalize minL (F.take (max k 1))=m at*
   go_wp2
   go_roundw
   case rel=>exact⟨k+1,by omega,(by rw [←HM.out];try go_num),by go_num,hS⟩
   case measure=>simp [intOf];omega
  ·obtain rfl:k=F.length:=by omega
   have HL:=Lib.hid (show minL (F.take (max F.length 1))=minL F from by rw [show max F.length 1=F.length by omega,List.take_length])
   rw [HL.out]
   clear HL HFS HF0
   generalize minL F=low at*
   go_upto_region 17 with fail
   go_wp2
   go_loopw [23] (fun tv wr=>∃t:Nat,t≤F.length∧tv= .int .i64 t∧Hid (Sy w wr [] [] [(StR (some ⟨g5,o5,none⟩) F c5 (some ⟨g6,o6,none⟩) D c6 a7 T c7)])) (fun tv _=>F.length - (intOf tv).toNat)
   case atStart=>exact⟨0,Nat.zero_le _,rfl,hS⟩
   case round=>
    clear hS
    obtain ⟨t,htt,rfl,hS⟩:=hrel
    by_cases htl:t < F.length
    rotate_left
    ·obtain rfl:t=F.length:=by omega
     go_wp2_with fail
     refine(HW.out _).mono ?_
     rintro e WZ ⟨rfl,hb⟩
     have hZ:=Lib.hid (hS.out.call hb)
     clear hb
     go_wp2
     go_ret
     exact⟨rfl,hZ.out.be⟩
    have HMT:=Lib.hid (HMA.out t htl)
    have HRT:=Lib.hid (fun i hi=>HRW.out i hi t htl)
    have HST:=Lib.hid (fun i hi=>HSB.out i hi t htl)
    have hF2:=bX_in HFI.out htl
    have hD2:=bX_in HDI.out (show t < D.length by have:=HDF.out;omega)
    have HFL:=Lib.hid (fun V (h:(StR (some ⟨g5,o5,none⟩) F c5 (some ⟨g6,o6,none⟩) D c6 a7 T c7) V)=>h.f.atX htl)
    have HDL:=Lib.hid (fun V (h:(StR (some ⟨g5,o5,none⟩) F c5 (some ⟨g6,o6,none⟩) D c6 a7 T c7) V)=>h.d.atX (show t < D.length by have:=HDF.out;omega))
    have hfd:=HFD.out t (by rw [←HN1.out];exact htl)
    have hlo:low≤bX F t:=HLW.out t htl
    have hbn:=HN1.out
    have HB0:=Lib.hid (fun V (hV:Below w.heap.size w V)=>(HBS.out V hV).atX (show t < bs.length by omega))
    have HB1:=Lib.hid (fun V (hV:Below w.heap.size w V)=>(HBS.out V hV).atX (show t+1 < bs.length by omega))
    clear hbn
    generalize bX F t=ft at*
    generalize bX D t=dt at*
    obtain ⟨b0,hb0⟩:∃b,bX bs t=b:=⟨_,rfl⟩
    obtain ⟨b1,hb1⟩:∃b,bX bs (t+1)=b:=⟨_,rfl⟩
    obtain ⟨t1,ht1⟩:∃t1:Nat,t1=t+1:=⟨_,rfl⟩
    rw [hb0]at HB0
    rw [hb1,←ht1]at HB1
    have HCV:=Lib.hid (fun b=>show covB (bX bs) t b=(decide (b.1≤b0) && decide (b1≤b.2))from by unfold covB;rw [hb0,hb1])
    have HSP:=Lib.hid (show bX bs t=b0∧bX bs (t+1)=b1 from⟨hb0,hb1⟩)
    have j2:IntKind.i64.wrap ((t:Int)+1)=(t1:Int):=by rw [IntWalk.i64_in _ (by omega)];omega
    have j0:(0:Int)≤(t:Int):=by omega
    have j1:(t:Int) < (F.length:Int):=by omega
    have j3:(t:Int) < (D.length:Int):=by have:=HDF.out;omega
    have j4:(t:Int) < (bs.length:Int):=by have:=HN1.out;omega
    have j5:(0:Int)≤(t1:Int):=by omega
    have j6:(t1:Int) < (bs.length:Int):=by have:=HN1.out;omega
    have HT1:=Lib.hid ht1
    clear hb0 hb1 ht1
    go_upto_region 20 with fail
    go_wp2
    go_loopw [24,25] (fun mv iv wr=>∃i:Nat,i≤T.length∧mv= .int .i64 (((T.take i).map (cn bs t)).sum:Nat)∧iv= .int .i64 i∧Hid (Sy w wr [] [] [(StR (some ⟨g5,o5,none⟩) F c5 (some ⟨g6,o6,none⟩) D c6 a7 T c7)])) (fun _ iv _=>T.length - (intOf iv).toNat)
    case atStart=>exact⟨0,Nat.zero_le _,rfl,rfl,hS⟩
    case round=>
     clear hS
     obtain ⟨i,hil,rfl,rfl,hS⟩:=hrel
     by_cases hit:i < T.length
     ·obtain ⟨g7,o7,rfl⟩:=(hS.out.r 0 rfl).r.addr (by omega)
      obtain ⟨R1,R2,R3⟩:=HRT.out i hit
      have hsb:=HST.out i hil
      have HSS:=Lib.hid (sum_step (bs:=bs) (t:=t) hit)
      have HLR:=Lib.hid (fun V (h:StR (some ⟨g5,o5,none⟩) F c5 (some ⟨g6,o6,none⟩) D c6 (some ⟨g7,o7,none⟩) T c7 V)=>LRw_at h.r hit)
      have HBY:=Lib.hid (fun V (h:StR (some ⟨g5,o5,none⟩) F c5 (some ⟨g6,o6,none⟩) D c6 (some ⟨g7,o7,none⟩) T c7 V)=>h.b _ (List.getElem_mem hit))
      have HPV:=Lib.hid (fun(h0:0 < i)=>show T[i - 1].high≤T[i].low from by
       obtain ⟨j,rfl⟩:∃j,i=j+1:=⟨i - 1,by omega⟩
       exact HRU.out j hit)
      have HPC:=Lib.hid (fun(h0:0 < i) V (h:StR (some ⟨g5,o5,none⟩) F c5 (some ⟨g6,o6,none⟩) D c6 (some ⟨g7,o7,none⟩) T c7 V)=>(LRw_at h.r (show i - 1 < T.length by omega)).2.1)
      have HR3:=Lib.hid R3
      have hxb:=HXB.out i hit
      unfold nR at R1 R2 HR3
      dsimp only at R1 R2 HR3
      clear R3
      generalize T[i]=x at*
      obtain ⟨xl,xh,xa,xc,xb⟩:=x
      dsimp only at R1 R2 HR3 HSS HLR HBY HPV hxb
      generalize ((T.take i).map (cn bs t)).sum=sm at*
      obtain ⟨y0,y1,y2⟩:=HLR.out _ (hS.out.r 0 rfl)
      have k0:(0:Int)≤(i:Int):=by omega
      have k1:(i:Int) < (T.length:Int):=by omega
      have hxl: -1000000≤xl∧xl≤1000000:=by omega
      have v1:IntKind.i64.wrap (xl+h)=xl+h:=IntWalk.i64_in _ (by omega)
      go_upto_region 24 with fail
      go_cut [167] (fun sq wx=>sq= .bool false∧Hid (Sy w wx [] [] [(StR (some ⟨g5,o5,none⟩) F c5 (some ⟨g6,o6,none⟩) D c6 (some ⟨g7,o7,none⟩) T c7)]))
      case first=>
       rcases Nat.eq_zero_or_pos i with hi0 | hi0
       ·have q1:decide (0 < i)=false:=decide_eq_false (by omega)
        have q2:decide ((0:Int) < (i:Int))=false:=decide_eq_false (by omega)
        clear hi0
        go_quiet (fail)
        have hU:=Lib.hid (hS.out.call (below_dN (Below.refl _ _) nq))
        go_wp2
        go_meet
        case rel=>exact⟨rfl,hU⟩
       ·have hpv:=HPV.out hi0
        have p0:=HPC.out hi0 _ (hS.out.r 0 rfl)
        generalize T[i - 1].high=ph at*
        obtain ⟨j,hj⟩:∃j,j=i - 1:=⟨_,rfl⟩
        rw [←hj]at p0
        have q1:decide (0 < i)=true:=decide_eq_true hi0
        have q3:(0:Int) < (i:Int):=by omega
        have q4:IntKind.i64.wrap ((i:Int) - 1)=(j:Int):=by rw [IntWalk.i64_in _ (by omega)];omega
        have q5:(0:Int)≤(j:Int):=by omega
        have q6:(j:Int) < (T.length:Int):=by omega
        have q7:=decide_eq_false (show ¬ xl < ph by omega)
        clear hj
        go_quiet (fail)
        have hU:=Lib.hid (hS.out.call (below_dN (Below.refl _ _) nq))
        go_wp2
        go_meet
        case rel=>exact⟨rfl,hU⟩
      case rest=>
       clear hS y0 y1 y2 HPV HPC
       obtain ⟨rfl,hS⟩:=hcut
       go_upto_region 26 with fail
       go_wp2
       go_loopw [24,26] (fun mv kv wr=>∃k:Nat,k≤xb.length∧mv= .int .i64 ((sm+(xb.take k).countP (covB (bX bs) t):Nat):Int)∧kv= .int .i64 k∧Hid (Sy w wr [] [] [(StR (some ⟨g5,o5,none⟩) F c5 (some ⟨g6,o6,none⟩) D c6 (some ⟨g7,o7,none⟩) T c7)])) (fun _ kv _=>xb.length - (intOf kv).toNat)
       case atStart=>exact⟨0,Nat.zero_le _,rfl,rfl,hS⟩
       case round=>
        clear hS
        obtain ⟨k,hkb,rfl,rfl,hS⟩:=hrel
        obtain ⟨y0,y1,y2⟩:=HLR.out _ (hS.out.r 0 rfl)
        by_cases hkl:k < xb.length
        ·obtain ⟨g8,o8,rfl⟩:=(HBY.out _ (hS.out.r 0 rfl)).addr (by omega)
         obtain ⟨u0,u1⟩:=(HBY.out _ (hS.out.r 0 rfl)).at2 hkl
         have HC3:=Lib.hid (HR3.out _ (List.getElem_mem hkl))
         have HTK:=Lib.hid (show(xb.take (k+1)).countP (covB (bX bs) t)=(xb.take k).countP (covB (bX bs) t)+if covB (bX bs) t xb[k]then 1 else 0 from by
          rw [List.take_succ_eq_append_getElem hkl,List.countP_append,List.countP_singleton])
         have hcl:(xb.take k).countP (covB (bX bs) t)≤k:=Nat.le_trans List.countP_le_length (by rw [List.length_take];omega)
         have HCX:=Lib.hid (HCV.out xb[k])
         generalize (xb.take k).countP (covB (bX bs) t)=ck at*
         obtain ⟨ck1,hck1⟩:∃c,(xb.take (k+1)).countP (covB (bX bs) t)=c:=⟨_,rfl⟩
         rw [hck1]at HTK
         have HCK1:=Lib.hid hck1
         clear hck1
         generalize xb[k]=bb at*
         obtain ⟨p0,p1⟩:=bb
         dsimp only at u0 u1 HC3 HCX HTK
         have l0:(0:Int)≤(k:Int):=by omega
         have l1:(k:Int) < (xb.length:Int):=by omega
         have v2:IntKind.i64.wrap (((sm+ck:Nat):Int)+1)=((sm+ck+1:Nat):Int):=by rw [IntWalk.i64_in _ (by omega)];omega
         have hE:=Lib.hid (hS.out.al wr.heap.size #[.int .i64 p0,.int .i64 p1] 72 rfl)
         go_upto_region 30 with fail
         obtain ⟨b27,e27⟩:∃b,wr.heap.size=b:=⟨_,rfl⟩
         rw [e27]at hE⊢
         refine wp_geny hE.out ?_
         intro V1 hc
         have hG:=Lib.hid hc
         clear hc hE hS e27 u0 u1 y0 y1 y2
         have z0:=hG.out.cell 0 0 rfl rfl
         have z1:=hG.out.cell 0 1 rfl rfl
         have z2:=HB0.out _ hG.out.be
         have z3:=HB1.out _ hG.out.be
         have z4:=HFL.out _ (hG.out.r 0 rfl)
         have z5:=HDL.out _ (hG.out.r 0 rfl)
         obtain ⟨y0,y1,y2⟩:=HLR.out _ (hG.out.r 0 rfl)
         rcases HC3.out with ⟨hc1,hc2,hc3⟩ | ⟨hc1,hc2⟩
         ·rw [hc1]at HTK HCX
          have hcx:=HCX.out.symm
          rw [Bool.and_eq_true,decide_eq_true_iff,decide_eq_true_iff]at hcx
          obtain ⟨e1,e2⟩:=hcx
          have q1:=decide_eq_true e1
          have q2:=decide_eq_true e2
          have HTK2:=Lib.hid (show ck1=ck+1 from HTK.out)
          have q3:=decide_eq_false (show ¬ xl < ft by omega)
          have q4:=decide_eq_false (show ¬ dt < xh by omega)
          clear hc1 HC3 HTK HCX
          go_quiet (fail)
          have hU:=Lib.hid (hG.out.call (below_dN (Below.refl _ _) nq))
          clear hG z0 z1 z2 z3 z4 z5 y0 y1 y2
          go_upto_region 32 with fail
          refine wp_geny hU.out ?_
          intro V2 hc
          have hU2:=Lib.hid hc
          clear hc hU
          have z4:=HFL.out _ (hU2.out.r 0 rfl)
          have z5:=HDL.out _ (hU2.out.r 0 rfl)
          obtain ⟨y0,y1,y2⟩:=HLR.out _ (hU2.out.r 0 rfl)
          go_quiet (fail)
          have hX:=Lib.hid ((hU2.out.call (below_dN (Below.refl _ _) nq)).thin (bs':=[]) (List.nil_sublist _) (List.Sublist.refl _))
          go_wp2
          go_roundw
          case rel=>exact⟨k+1,by omega,(by rw [HCK1.out,HTK2.out];try go_num),by go_num,hX⟩
          case measure=>simp [intOf];omega
         ·rw [hc1]at HTK HCX
          have HTK2:=Lib.hid (show ck1=ck from HTK.out)
          have HSPP:=Lib.hid (show p1≤b0∨b1≤p0 from by have h1:=HSP.out;rw [h1.1,h1.2]at hc2;exact hc2)
          have hcx:=HCX.out.symm
          rw [Bool.and_eq_false_iff,decide_eq_false_iff_not,decide_eq_false_iff_not]at hcx
          clear hc1 hc2 HC3 HTK HCX
          by_cases e1:p0≤b0
          ·have e2:¬ b1≤p1:=by rcases hcx with h | h;exact absurd e1 h;exact h
           have q1:=decide_eq_true e1
           have q2:=decide_eq_false e2
           clear hcx
           go_quiet (fail)
           have hU:=Lib.hid (hG.out.call (below_dN (Below.refl _ _) nq))
           clear hG z0 z1 z2 z3 z4 z5 y0 y1 y2
           go_upto_region 34 with fail
           refine wp_geny hU.out ?_
           intro V2 hc
           have hU2:=Lib.hid hc
           clear hc hU
           have z0:=hU2.out.cell 0 0 rfl rfl
           have z1:=hU2.out.cell 0 1 rfl rfl
           have z2:=HB0.out _ hU2.out.be
           have z3:=HB1.out _ hU2.out.be
           by_cases f1:p0 < b1
           ·have q3:=decide_eq_true f1
            have q4:=decide_eq_false (show ¬ b0 < p1 by have:=HSPP.out;omega)
            go_quiet (fail)
            have hX:=Lib.hid ((hU2.out.call (below_dN (Below.refl _ _) nq)).thin (bs':=[]) (List.nil_sublist _) (List.Sublist.refl _))
            go_wp2
            go_roundw
            case rel=>exact⟨k+1,by omega,(by rw [HCK1.out,HTK2.out];try go_num),by go_num,hX⟩
            case measure=>simp [intOf];omega
           ·have q3:=decide_eq_false f1
            go_quiet (fail)
            have hX:=Lib.hid ((hU2.out.call (below_dN (Below.refl _ _) nq)).thin (bs':=[]) (List.nil_sublist _) (List.Sublist.refl _))
            go_wp2
            go_roundw
            case rel=>exact⟨k+1,by omega,(by rw [HCK1.out,HTK2.out];try go_num),by go_num,hX⟩
            case measure=>simp [intOf];omega
          ·have q1:=decide_eq_false e1
           clear hcx
           go_quiet (fail)
           have hU:=Lib.hid (hG.out.call (below_dN (Below.refl _ _) nq))
           clear hG z0 z1 z2 z3 z4 z5 y0 y1 y2
           go_upto_region 34 with fail
           refine wp_geny hU.out ?_
           intro V2 hc
           have hU2:=Lib.hid hc
           clear hc hU
           have z0:=hU2.out.cell 0 0 rfl rfl
           have z1:=hU2.out.cell 0 1 rfl rfl
           have z2:=HB0.out _ hU2.out.be
           have z3:=HB1.out _ hU2.out.be
           by_cases f1:p0 < b1
           ·have q3:=decide_eq_true f1
            have q4:=decide_eq_false (show ¬ b0 < p1 by have:=HSPP.out;omega)
            go_quiet (fail)
            have hX:=Lib.hid ((hU2.out.call (below_dN (Below.refl _ _) nq)).thin (bs':=[]) (List.nil_sublist _) (List.Sublist.refl _))
            go_wp2
            go_roundw
            case rel=>exact⟨k+1,by omega,(by rw [HCK1.out,HTK2.out];try go_num),by go_num,hX⟩
            case measure=>simp [intOf];omega
           ·have q3:=decide_eq_false f1
            go_quiet (fail)
            have hX:=Lib.hid ((hU2.out.call (below_dN (Below.refl _ _) nq)).thin (bs':=[]) (List.nil_sublist _) (List.Sublist.refl _))
            go_wp2
            go_roundw
            case rel=>exact⟨k+1,by omega,(by rw [HCK1.out,HTK2.out];try go_num),by go_num,hX⟩
            case measure=>simp [intOf];omega
        ·obtain rfl:k=xb.length:=by omega
         have HSS2:=Lib.hid (show((T.take (i+1)).map (cn bs t)).sum=sm+(xb.take xb.length).countP (covB (bX bs) t)from by rw [List.take_length];exact HSS.out)
         go_wp2
         go_roundw
         case rel=>exact⟨i+1,by omega,by rw [HSS2.out],by go_num,hS⟩
         case measure=>simp [intOf];omega
     ·obtain rfl:i=T.length:=by omega
      have HTL:=Lib.hid (show((((T.take T.length).map (cn bs t)).sum:Nat):Int)=max 0 ((dt - low) / h - (ft - low+h - 1) / h)from by rw [List.take_length];exact HMT.out)
      rw [HTL.out]
      have z4:=HFL.out _ (hS.out.r 0 rfl)
      have z5:=HDL.out _ (hS.out.r 0 rfl)
      have n1:0≤ft - low+h - 1:=by omega
      have n2:0≤dt - low:=by omega
      have n3:h≠0:=by omega
      have n4:(ft - low+h - 1) / h≤ft - low+h - 1:=Int.ediv_le_self _ n1
      have n5:(dt - low) / h≤dt - low:=Int.ediv_le_self _ n2
      have n6:0≤(ft - low+h - 1) / h:=Int.ediv_nonneg n1 (by omega)
      have n7:0≤(dt - low) / h:=Int.ediv_nonneg n2 (by omega)
      have v1:IntKind.i64.wrap (ft - low)=ft - low:=IntWalk.i64_in _ (by omega)
      have v2:IntKind.i64.wrap (ft - low+h)=ft - low+h:=IntWalk.i64_in _ (by omega)
      have v3:IntKind.i64.wrap (ft - low+h - 1)=ft - low+h - 1:=IntWalk.i64_in _ (by omega)
      have v4:IntKind.i64.wrap ((ft - low+h - 1) / h)=(ft - low+h - 1) / h:=IntWalk.i64_in _ (by omega)
      have v5:IntKind.i64.wrap (dt - low)=dt - low:=IntWalk.i64_in _ (by omega)
      have v6:IntKind.i64.wrap ((dt - low) / h)=(dt - low) / h:=IntWalk.i64_in _ (by omega)
      have v7:IntKind.i64.wrap ((dt - low) / h - (ft - low+h - 1) / h)=(dt - low) / h - (ft - low+h - 1) / h:=IntWalk.i64_in _ (by omega)
      go_wp2
      go_roundw
      case rel=>exact⟨t1,by have:=HT1.out;omega,rfl,hS⟩
      case measure=>have:=HT1.out;simp [intOf];omega
end
end Go.Proofs.YthmdhlopeponcaaGreatDoor
