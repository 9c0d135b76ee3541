/- the law HillGreatest, walked -/
import Derived.Test.YthmdhlopeponcaaGreatDoorJ44
import Derived.Test.YthmdhlopeponcaaGreatDoorJ35
import Derived.Test.YthmdhlopeponcaaGreatDoorJ45
namespace Go.Proofs.YthmdhlopeponcaaGreatDoor
open Go.RowKit Go.Shelf Dig
structure Hgh (F H:List Int) (k:Nat) (b:Bool):Prop where
 len:H.length=F.length
 rest:∀i,k≤i→bX H i=bX F i
 lo:∀i,bX F i≤bX H i∧bX H i≤bX F i+1
 some:b=true→∃i,i < F.length∧bX F i < bX H i
theorem Hgh.skip {F H:List Int} {k:Nat} {b:Bool} (h:Hgh F H k b):Hgh F H (k+1) b:=⟨h.len,fun i hi=>h.rest i (by omega),h.lo,h.some⟩
theorem Hgh.set {F H:List Int} {k:Nat} {b:Bool} (h:Hgh F H k b) (hk:k < F.length):Hgh F (H.set k (bX H k+1)) (k+1) true:=by
 have hl:=h.len
 have he:=h.rest k (Nat.le_refl _)
 refine⟨by rw [List.length_set];exact hl,fun i hi=>?_,fun i=>?_,fun _=>⟨k,hk,?_⟩⟩
 ·rw [bX_set (by omega),if_neg (by omega)];exact h.rest i (by omega)
 ·rw [bX_set (by omega)]
  split
  ·rename_i e;subst e;omega
  ·exact h.lo i
 ·rw [bX_set (by omega),if_pos rfl];omega
theorem Hgh.mem {F H:List Int} {k:Nat} {b:Bool} (h:Hgh F H k b) (hF:∀z∈F,-103000≤z∧z≤100000):∀z∈H,-1000000≤z∧z≤900000:=by
 intro z hz
 obtain ⟨i,hi,rfl⟩:=List.getElem_of_mem hz
 rw [←bX_at hi]
 have:=h.lo i
 have:=bX_in hF (show i < F.length by have:=h.len;omega)
 omega
section
variable (w:World)
set_option maxHeartbeats 8000000 in
set_option maxRecDepth 100000 in
theorem hillGreatest_walk (la:Option Addr) (ln lc:Nat) (l:List Pt) (ba:Option Addr) (bn bc:Nat) (bs:List Int) (far rise st:Int) (hs:Sx 2 w la ln lc (L2 l)) (hb:Sx 1 w ba bn bc (L1 bs)) (hfa:0≤far∧far < 65536) (hri:0≤rise∧rise < 65536) (_hst:0≤st∧st < 18446744073709551616):
  Calls Tryz.prog 14 #[.slice la ln lc,.slice ba bn bc,.int .u16 far,.int .u16 rise,.int .u64 st] w (Gives (.bool true) w):=by
 have HW:=Lib.hid wakes08
 have HV:=Lib.hid (fun W (hW:Below w.heap.size w W)=>rValid_any W la ln lc l (hs.below hW))
 have hC:=Lib.hid (Sy.enter w)
 obtain rfl:=hs.n2
 obtain rfl:=hb.n1
 have HS:=Lib.hid hs
 have HBS:=Lib.hid (fun W (hW:Below w.heap.size w W)=>hb.below hW)
 have HPT:=Lib.hid (fun W (hW:Below w.heap.size w W) hn=>conv_Pts la l.length lc l W (HS.out.below hW) hn)
 have HBR:=Lib.hid (fun W (hW:Below w.heap.size w W) hp=>rBreaks_any W la l.length lc l (HS.out.below hW) ba bs.length bc bs (HBS.out W hW) hp)
 have hcap:=hb.cap
 unfold maxLen at hcap
 clear hs hb
 cases hp:profB l
 ·rw [hp]at HV
  clear hp
  go_enter Tryz.func14,Tryz.ntmps14
  go_wp2_with fail
  refine(HV.out _ hC.out.be).mono ?_
  rintro e W1 ⟨rfl,hb⟩
  have hD:=Lib.hid (hC.out.call hb)
  clear hb hC
  go_wp2_with fail
  refine(HW.out _).mono ?_
  rintro e WZ ⟨rfl,hb⟩
  have hZ:=Lib.hid (hD.out.call hb)
  clear hb
  go_wp2
  go_ret
  exact⟨rfl,hZ.out.be⟩
 rw [hp]at HV
 have hP:=prof_iff.1 hp
 have hlen:2≤l.length∧l.length≤40:=⟨hP.two,hP.forty⟩
 clear hP
 go_enter Tryz.func14,Tryz.ntmps14
 go_wp2_with fail
 refine(HV.out _ hC.out.be).mono ?_
 rintro e W1 ⟨rfl,hb⟩
 have hD:=Lib.hid (hC.out.call hb)
 clear hb hC HV
 have HBR2:=Lib.hid (fun W hW=>HBR.out W hW hp)
 clear HBR
 cases hk:brkB l bs
 ·rw [hk]at HBR2
  clear hk hp
  go_wp2_with fail
  refine(HBR2.out _ hD.out.be).mono ?_
  rintro e W2 ⟨rfl,hb⟩
  have hE:=Lib.hid (hD.out.call hb)
  clear hb hD
  go_wp2_with fail
  refine(HW.out _).mono ?_
  rintro e WZ ⟨rfl,hb⟩
  have hZ:=Lib.hid (hE.out.call hb)
  clear hb
  go_wp2
  go_ret
  exact⟨rfl,hZ.out.be⟩
 rw [hk]at HBR2
 go_wp2_with fail
 refine(HBR2.out _ hD.out.be).mono ?_
 rintro e W2 ⟨rfl,hb⟩
 have hE:=Lib.hid (hD.out.call hb)
 clear hb hD HBR2 hp
 go_wp2_with fail
 refine(HPT.out _ hE.out.be (by omega)).mono ?_
 rintro e W3 ⟨a3,c3,rfl,hr,hb⟩
 have hF:=Lib.hid (show Sy w _ [] [⟨.slice a3 l.length c3,83,2,l.length,L2 l⟩] []from hE.out.adopt hb hr)
 clear hb hr hE HPT
 have d1:0≤far % 3001∧far % 3001≤3000:=by omega
 have d2:0≤rise % 3001∧rise % 3001≤3000:=by omega
 have w1:IntKind.u16.wrap (far % 3001)=far % 3001:=IntWalk.u16_in _ (by omega)
 have w2:IntKind.u16.wrap (rise % 3001)=rise % 3001:=IntWalk.u16_in _ (by omega)
 have w3:IntKind.i64.wrap (far % 3001)=far % 3001:=IntWalk.i64_in _ (by omega)
 have w4:IntKind.i64.wrap (rise % 3001)=rise % 3001:=IntWalk.i64_in _ (by omega)
 go_upto_region 5 with fail
 generalize far % 3001=d at*
 generalize rise % 3001=r at*
 clear w1 w2 w3 w4
 have HKP:=Lib.hid (feet_keep (l:=l) (bs:=bs) (d:=d) (r:=r) d2.1)
 have HMO:=Lib.hid (fun zs h1 i h2 h3=>feet_most (l:=l) (bs:=bs) (d:=d) (r:=r) (zs:=zs) d2.1 h1 (i:=i) h2 h3)
 have HIN:=Lib.hid (feet_in (l:=l) (bs:=bs) (d:=d) (r:=r) hk d1 d2.1)
 have HFL:=Lib.hid (show(folL min r (baseL l bs d)).length=bs.length - 1 from by rw [folL_len,baseL_len])
 have HLE:=Lib.hid (show lvErr l bs d r=0 from by unfold lvErr;rw [if_pos hk,inB_iff.2 (by omega),inB_iff.2 (by omega)];rfl)
 have HCF:=Lib.hid (fun W sa sc (hs:Sx 2 W sa l.length sc (L2 l)) (hW:Below w.heap.size w W)=>show Calls Tryz.prog 18 #[.slice sa l.length sc,.slice ba bs.length bc,.int .i64 d,.int .i64 r] W (RetLv W (lvErr l bs d r) (folL min r (baseL l bs d)))from hFeet_any W sa l.length sc l hs ba bs.length bc bs (HBS.out W hW) d r (by omega) (by omega))
 have HCK:=Lib.hid (fun W sa sc (hs:Sx 2 W sa l.length sc (L2 l)) (hW:Below w.heap.size w W) za zn zc zs (hz:Sx 1 W za zn zc (L1 zs)) (h1:zs.length=bs.length - 1) (h2:∀z∈zs,-1000000≤z∧z≤900000)=>keeps_any W sa l.length sc l hs ba bs.length bc bs (HBS.out W hW) za zn zc zs hz d r hk h1 h2 d1 d2)
 have hbl:=(brk_ok hk).2.1
 clear hk HS HBS
 generalize folL min r (baseL l bs d)=F at*
 rw [HLE.out]at HCF
 go_wp2_with fail
 refine(HCF.out _ _ _ (hF.out.osx 0 rfl) hF.out.be).mono ?_
 rintro e W4 (⟨-,a5,c5,rfl,hr,hb⟩ | ⟨h,-⟩)
 rotate_left
 ·exact absurd rfl h
 have hG:=Lib.hid (show Sy w _ [] [⟨.slice a3 l.length c3,83,2,l.length,L2 l⟩,⟨.slice a5 F.length c5,3,1,F.length,L1 F⟩] []from hF.out.adopt hb hr)
 clear hb hr hF HCF HLE
 have hfl:=HFL.out
 have hnn:0 < F.length∧F.length≤60:=by omega
 obtain ⟨g5,rfl,-⟩:=hG.out.oaddr 1 rfl hnn.1
 have i9:IntKind.i64.wrap ((bs.length:Int) - 1)=(F.length:Int):=by rw [IntWalk.i64_in _ (by omega)];omega
 clear hfl
 go_upto_region 8 with fail
 go_wp2_with (refine wpList_append_sy (o:=⟨some 56,_,_,_,_,_⟩) rfl (hG.out.onil 3 1) 2 1 rfl rfl _ _ _ rfl und_hint info_hint rfl (by omega) rfl rfl (L1_one F) (by omega) (by omega) (fun a6 c6 V hV=>?_))
 have hH0:=Lib.hid (show Sy w _ [] [⟨.slice a3 l.length c3,83,2,l.length,L2 l⟩,⟨.slice (some ⟨g5,0,none⟩) F.length c5,3,1,F.length,L1 F⟩,⟨.slice a6 F.length c6,3,1,F.length,L1 F⟩] []from by have:=hV;simpa using this)
 clear hV hG
 obtain ⟨g6,rfl,-⟩:=hH0.out.oaddr 2 rfl hnn.1
 go_wp2
 go_loopw [17,18] (fun bv iv wr=>∃ (k:Nat) (H:List Int) (b:Bool),k≤F.length∧bv= .bool b∧iv= .int .i64 k∧Hid (Hgh F H k b)∧Hid (Sy w wr [] [⟨.slice a3 l.length c3,83,2,l.length,L2 l⟩,⟨.slice (some ⟨g5,0,none⟩) F.length c5,3,1,F.length,L1 F⟩,⟨.slice (some ⟨g6,0,none⟩) F.length c6,3,1,F.length,L1 H⟩] [])) (fun _ iv _=>F.length - (intOf iv).toNat)
 case atStart=>exact⟨0,F,false,Nat.zero_le _,rfl,rfl,Lib.hid ⟨rfl,fun _ _=>rfl,fun i=>by omega,fun h=>by cases h⟩,hH0⟩
 case round=>
  clear hH0
  obtain ⟨k,H,b,hk,rfl,rfl,HH,hS⟩:=hrel
  by_cases hlt:k < F.length
  ·have HSK:=Lib.hid HH.out.skip
   have HST:=Lib.hid (HH.out.set hlt)
   have hhl:=HH.out.len
   have HLO:=Lib.hid (HH.out.lo k)
   have hfk:=bX_in HIN.out hlt
   have hlo:=HLO.out
   have HX:=Lib.hid (show(L1 H)[k]? =some (.int .i64 (bX H k))from by rw [bX_at (by omega)];exact L1_get H k (by omega))
   have HSE:=Lib.hid (L1_set H k (bX H k+1))
   clear hhl HH HLO
   have i6:IntKind.i64.wrap (bX H k+1)=bX H k+1:=IntWalk.i64_in _ (by omega)
   clear hlo hfk
   generalize bX H k=y at*
   have i0:(0:Int)≤(k:Int):=by omega
   have i1:(k:Int) < (F.length:Int):=by omega
   have i7:IntKind.u64.wrap (k:Int)=(k:Int):=IntWalk.u64_in _ (by omega)
   have c0:=hS.out.rcell 2 rfl HX.out
   have f0:=hS.out.rfree 2 rfl k
   go_wp2
   ·go_roundw
    case rel=>exact⟨k+1,H.set k (y+1),true,by omega,rfl,by go_num,HST,Lib.hid (by have h:=hS.out.ostore 2 rfl k (.int .i64 (y+1));rw [HSE.out]at h;exact h)⟩
    case measure=>simp [intOf];omega
   ·go_roundw
    case rel=>exact⟨k+1,H,b,by omega,rfl,by go_num,HSK,hS⟩
    case measure=>simp [intOf];omega
  ·obtain rfl:k=F.length:=by omega
   have HB2:=Lib.hid (HH.out.mem HIN.out)
   have HLH:=Lib.hid (show H.length=bs.length - 1 from by rw [HH.out.len];exact HFL.out)
   have HSM:=Lib.hid HH.out.some
   have HNO:=Lib.hid (fun i (h1:i < F.length) h2=>HMO.out H HLH.out i (by rw [HH.out.len];exact h1) h2)
   have HB1:=Lib.hid (show ∀z∈F,-1000000≤z∧z≤900000 from fun z hz=>by have:=HIN.out z hz;omega)
   clear HH HMO
   go_wp2_with fail
   refine(HCK.out _ _ _ (hS.out.osx 0 rfl) hS.out.be _ _ _ _ (hS.out.osx 1 rfl) HFL.out HB1.out).mono ?_
   rintro e W7 ⟨rfl,hb⟩
   have hT:=Lib.hid (hS.out.call hb)
   clear hb hS
   rw [HKP.out]
   cases b
   ·go_wp2_with fail
    go_wp2_with fail
    refine(HW.out _).mono ?_
    rintro e WZ ⟨rfl,hb⟩
    have hZ:=Lib.hid (hT.out.call hb)
    clear hb
    go_wp2
    go_ret
    exact⟨rfl,hZ.out.be⟩
   ·obtain ⟨i,hi,hlt2⟩:=HSM.out rfl
    have HKN:=Lib.hid (HNO.out i hi hlt2)
    clear hlt2 hi
    go_wp2_with fail
    refine(HCK.out _ _ _ (hT.out.osx 0 rfl) hT.out.be _ _ _ _ (hT.out.osx 2 rfl) HLH.out HB2.out).mono ?_
    rintro e W8 ⟨rfl,hb⟩
    have hU:=Lib.hid (hT.out.call hb)
    clear hb hT
    rw [HKN.out]
    go_wp2_with fail
    refine(HW.out _).mono ?_
    rintro e WZ ⟨rfl,hb⟩
    have hZ:=Lib.hid (hU.out.call hb)
    clear hb
    go_wp2
    go_ret
    exact⟨rfl,hZ.out.be⟩
end
end Go.Proofs.YthmdhlopeponcaaGreatDoor
