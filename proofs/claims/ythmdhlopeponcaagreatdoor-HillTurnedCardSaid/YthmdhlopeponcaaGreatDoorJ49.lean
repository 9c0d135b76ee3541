/- the law HillTurned, walked -/
import Derived.Test.YthmdhlopeponcaaGreatDoorJ0
import Derived.Test.YthmdhlopeponcaaGreatDoorJ48
import Derived.Test.YthmdhlopeponcaaGreatDoorJ44
import Derived.Test.YthmdhlopeponcaaGreatDoorJ35
import Derived.Test.YthmdhlopeponcaaGreatDoorJ45
namespace Go.Proofs.YthmdhlopeponcaaGreatDoor
open Go.RowKit Go.Shelf Dig
theorem down_snoc {l:List Pt} {k:Nat} (h:k < l.length):L2 (downL (l.take (k+1)))=L2 (downL (l.take k))++ [.int .i64 l[k].1,.int .i64 (-l[k].2)]:=by
 unfold downL
 rw [List.take_succ_eq_append_getElem h,List.map_append,L2_append];rfl
theorem move_snoc {l:List Pt} {x z:Int} {k:Nat} (h:k < l.length):L2 (moveL x z (l.take (k+1)))=L2 (moveL x z (l.take k))++ [.int .i64 (l[k].1+x),.int .i64 (l[k].2+z)]:=by
 unfold moveL
 rw [List.take_succ_eq_append_getElem h,List.map_append,L2_append];rfl
theorem inside_snoc {l:List Pt} {x z:Int} {k:Nat} (h:k < l.length):insideB x z (l.take (k+1))=(insideB x z (l.take k) && (inB (l[k].1+x) (-100000) 100000 && inB (l[k].2+z) (-100000) 100000)):=by
 unfold insideB
 rw [List.take_succ_eq_append_getElem h,List.all_append];simp
theorem shift_snoc {bs:List Int} {x:Int} {k:Nat} (h:k < bs.length):L1 ((bs.take (k+1)).map (· +x))=L1 ((bs.take k).map (· +x))++ [.int .i64 (bX bs k+x)]:=by
 rw [List.take_succ_eq_append_getElem h,List.map_append,L1_append,bX_at h];rfl
section
variable (w:World)
set_option maxHeartbeats 8000000 in
set_option maxRecDepth 100000 in
theorem hillTurned_walk (la:Option Addr) (ln lc:Nat) (l:List Pt) (ba:Option Addr) (bn bc:Nat) (bs:List Int) (far rise x z:Int) (hs:Sx 2 w la ln lc (L2 l)) (hb:Sx 1 w ba bn bc (L1 bs)) (hfa:0≤far∧far < 65536) (hri:0≤rise∧rise < 65536) (hx: -32768≤x∧x < 32768) (hz: -32768≤z∧z < 32768):
  Calls Tryz.prog 8 #[.slice la ln lc,.slice ba bn bc,.int .u16 far,.int .u16 rise,.int .i16 x,.int .i16 z] w (Gives (.bool true) w):=by
 have HW:=Lib.hid wakes08
 have HV:=Lib.hid (fun W (hW:Below w.heap.size w W)=>rValid_any W la ln lc l (hs.below hW))
 have hC:=Lib.hid (Sy.enter w)
 obtain rfl:=hs.n2
 obtain rfl:=hb.n1
 have HS:=Lib.hid hs
 have HBS:=Lib.hid (fun W (hW:Below w.heap.size w W)=>hb.below hW)
 have HPT:=Lib.hid (fun W (hW:Below w.heap.size w W) hn=>conv_Pts la l.length lc l W (HS.out.below hW) hn)
 have HBR:=Lib.hid (fun W (hW:Below w.heap.size w W) hp=>rBreaks_any W la l.length lc l (HS.out.below hW) ba bs.length bc bs (HBS.out W hW) hp)
 have hcap:=hb.cap
 unfold maxLen at hcap
 clear hs hb
 cases hp:profB l
 ·rw [hp]at HV
  clear hp
  go_enter Tryz.func8,Tryz.ntmps8
  go_wp2_with fail
  refine(HV.out _ hC.out.be).mono ?_
  rintro e W1 ⟨rfl,hb⟩
  have hD:=Lib.hid (hC.out.call hb)
  clear hb hC
  go_wp2_with fail
  refine(HW.out _).mono ?_
  rintro e WZ ⟨rfl,hb⟩
  have hZ:=Lib.hid (hD.out.call hb)
  clear hb
  go_wp2
  go_ret
  exact⟨rfl,hZ.out.be⟩
 rw [hp]at HV
 have hP:=prof_iff.1 hp
 have hlen:2≤l.length∧l.length≤40:=⟨hP.two,hP.forty⟩
 go_enter Tryz.func8,Tryz.ntmps8
 go_wp2_with fail
 refine(HV.out _ hC.out.be).mono ?_
 rintro e W1 ⟨rfl,hb⟩
 have hD:=Lib.hid (hC.out.call hb)
 clear hb hC HV
 have HBR2:=Lib.hid (fun W hW=>HBR.out W hW hp)
 clear HBR
 cases hk:brkB l bs
 ·rw [hk]at HBR2
  clear hk hp
  go_wp2_with fail
  refine(HBR2.out _ hD.out.be).mono ?_
  rintro e W2 ⟨rfl,hb⟩
  have hE:=Lib.hid (hD.out.call hb)
  clear hb hD
  go_wp2_with fail
  refine(HW.out _).mono ?_
  rintro e WZ ⟨rfl,hb⟩
  have hZ:=Lib.hid (hE.out.call hb)
  clear hb
  go_wp2
  go_ret
  exact⟨rfl,hZ.out.be⟩
 rw [hk]at HBR2
 go_wp2_with fail
 refine(HBR2.out _ hD.out.be).mono ?_
 rintro e W2 ⟨rfl,hb⟩
 have hE:=Lib.hid (hD.out.call hb)
 clear hb hD HBR2 hp
 go_wp2_with fail
 refine(HPT.out _ hE.out.be (by omega)).mono ?_
 rintro e W3 ⟨a3,c3,rfl,hr,hb⟩
 have hF:=Lib.hid (show Sy w _ [] [⟨.slice a3 l.length c3,83,2,l.length,L2 l⟩] []from hE.out.adopt hb hr)
 clear hb hr hE HPT
 obtain ⟨g3,rfl,-⟩:=hF.out.oaddr 0 rfl (by omega)
 have d1:0≤far % 3001∧far % 3001≤3000:=by omega
 have d2:0≤rise % 3001∧rise % 3001≤3000:=by omega
 have w1:IntKind.u16.wrap (far % 3001)=far % 3001:=IntWalk.u16_in _ (by omega)
 have w2:IntKind.u16.wrap (rise % 3001)=rise % 3001:=IntWalk.u16_in _ (by omega)
 have w3:IntKind.i64.wrap (far % 3001)=far % 3001:=IntWalk.i64_in _ (by omega)
 have w4:IntKind.i64.wrap (rise % 3001)=rise % 3001:=IntWalk.i64_in _ (by omega)
 go_upto_region 5 with fail
 generalize far % 3001=d at*
 generalize rise % 3001=r at*
 clear w1 w2 w3 w4
 have vx:IntKind.i64.wrap x=x:=IntWalk.i64_in _ (by omega)
 have vz:IntKind.i64.wrap z=z:=IntWalk.i64_in _ (by omega)
 have HPF:=Lib.hid (fun k (h:k < l.length)=>show(-100000≤l[k].1∧l[k].1≤100000)∧ -100000≤l[k].2∧l[k].2≤100000 from hP.far _ (List.getElem_mem h))
 have HBF:=Lib.hid (fun k (h:k < bs.length)=>brk_in hk h)
 have hbl:=(brk_ok hk).2.1
 have HK:=Lib.hid hk
 have HP:=Lib.hid hP
 clear hk hP
 have hG0:=Lib.hid (show Sy w _ [] [⟨.slice (some ⟨g3,0,none⟩) l.length c3,83,2,l.length,L2 l⟩,⟨.slice none 0 0,83,2,0,L2 (downL (l.take 0))⟩,⟨.slice none 0 0,83,2,0,L2 (moveL x z (l.take 0))⟩] []from hF.out.onil 83 2|>.onil 83 2)
 clear hF
 go_wp2
 go_loopw [16,17,18,19] (fun av bv iv kv wr=>∃ (k:Nat) (a16 a17:Option Addr) (c16 c17:Nat),k≤l.length∧av= .slice a16 k c16∧bv= .slice a17 k c17∧iv= .bool (insideB x z (l.take k))∧kv= .int .i64 k∧Hid (Sy w wr [] [⟨.slice (some ⟨g3,0,none⟩) l.length c3,83,2,l.length,L2 l⟩,⟨.slice a16 k c16,83,2,k,L2 (downL (l.take k))⟩,⟨.slice a17 k c17,83,2,k,L2 (moveL x z (l.take k))⟩] [])) (fun _ _ _ kv _=>l.length - (intOf kv).toNat)
 case atStart=>exact⟨0,none,none,0,0,Nat.zero_le _,rfl,rfl,rfl,rfl,hG0⟩
 case round=>
  clear hG0
  obtain ⟨k,a16,a17,c16,c17,hkk,rfl,rfl,rfl,rfl,hS⟩:=hrel
  by_cases hlt:k < l.length
  ·have HC0:=Lib.hid (show(L2 l)[k*2]? =some (.int .i64 l[k].1)from flat_get (k:=2) (fun _=>rfl) l k 0 hlt (by omega))
   have HC1:=Lib.hid (show(L2 l)[k*2+1]? =some (.int .i64 l[k].2)from flat_get (k:=2) (fun _=>rfl) l k 1 hlt (by omega))
   have HDS:=Lib.hid (down_snoc hlt)
   have HMS:=Lib.hid (move_snoc (x:=x) (z:=z) hlt)
   have HIS:=Lib.hid (inside_snoc (x:=x) (z:=z) hlt)
   have hpf:=HPF.out k hlt
   generalize l[k]=p at*
   obtain ⟨u0,u1⟩:=p
   dsimp only at HC0 HC1 HDS HMS HIS hpf
   have i0:(0:Int)≤(k:Int):=by omega
   have i1:(k:Int) < (l.length:Int):=by omega
   have v1:IntKind.i64.wrap (-u1)= -u1:=IntWalk.i64_in _ (by omega)
   have v2:IntKind.i64.wrap (u0+x)=u0+x:=IntWalk.i64_in _ (by omega)
   have v3:IntKind.i64.wrap (u1+z)=u1+z:=IntWalk.i64_in _ (by omega)
   generalize insideB x z (l.take k)=ins0 at*
   go_upto_region 10 with fail
   have HSL:∀V ex os rs,Sy w V ([]++ex) ([⟨.slice (some ⟨g3,0,none⟩) l.length c3,83,2,l.length,L2 l⟩]++os) rs→(fun w'=>w'.cell? ⟨g3,k*2,none⟩=some (.int .i64 u0)∧w'.cell? ⟨g3,k*2+1,none⟩=some (.int .i64 u1)∧True) V:=fun V ex os rs hX=>⟨(hX.rcell 0 rfl HC0.out),(hX.rcell 0 rfl HC1.out),trivial⟩
   refine wp_region_noPanic ?_
   refine wp_region_held_drew (S:=(fun w'=>w'.cell? ⟨g3,k*2,none⟩=some (.int .i64 u0)∧w'.cell? ⟨g3,k*2+1,none⟩=some (.int .i64 u1)∧True)) (by kernel_rfl) ⟨(hS.out.drew.rcell 0 rfl HC0.out),(hS.out.drew.rcell 0 rfl HC1.out),trivial⟩ (fun hH=>?_)
   refine wpAnyH_geny (show Sy w _ [] [⟨.slice (some ⟨g3,0,none⟩) l.length c3,83,2,l.length,L2 l⟩,⟨.slice a16 k c16,83,2,k,L2 (downL (l.take k))⟩,⟨.slice a17 k c17,83,2,k,L2 (moveL x z (l.take k))⟩] []from hS.out.drew) hH ?_
   intro VA_0 hc hHA_0
   have hVA_0:=Lib.hid hc
   clear hc hH hS
   refine tkL 0 ?_ rfl hHA_0 ?_ ?_;rotate_left
   ·intro wS hSw;(try dsimp only at hSw);go_simp;try with_reducible rfl
   try simp only [Act.put,zI,z0,zS]
   refine tkL 1 ?_ rfl hHA_0 ?_ ?_;rotate_left
   ·intro wS hSw;(try dsimp only at hSw);go_simp;try with_reducible rfl
   try simp only [Act.put,zI,z0,zS]
   refine tkL 2 ?_ rfl hHA_0 ?_ ?_;rotate_left
   ·intro wS hSw;(try dsimp only at hSw);go_simp;try with_reducible rfl
   try simp only [Act.put,zI,z0,zS]
   refine tkL 3 ?_ rfl hHA_0 ?_ ?_;rotate_left
   ·intro wS hSw;(try dsimp only at hSw);go_simp;try with_reducible rfl
   try simp only [Act.put,zI,z0,zS]
   refine tkL 4 ?_ rfl hHA_0 ?_ ?_;rotate_left
   ·intro wS hSw;(try dsimp only at hSw);go_simp;try with_reducible rfl
   try simp only [Act.put,zI,z0,zS]
   refine tkL 5 ?_ rfl hHA_0 ?_ ?_;rotate_left
   ·intro wS hSw;(try dsimp only at hSw);go_simp;try with_reducible rfl
   try simp only [Act.put,zI,z0,zS]
   refine tkL 6 ?_ rfl hHA_0 ?_ ?_;rotate_left
   ·intro wS hSw;(try dsimp only at hSw);go_simp;try with_reducible rfl
   try simp only [Act.put,zI,z0,zS]
   refine tkL 7 ?_ rfl hHA_0 ?_ ?_;rotate_left
   ·intro wS hSw;(try dsimp only at hSw);go_simp;try with_reducible rfl
   try simp only [Act.put,zI,z0,zS]
   refine tkL 8 ?_ rfl hHA_0 ?_ ?_;rotate_left
   ·intro wS hSw;(try dsimp only at hSw);go_simp;try with_reducible rfl
   try simp only [Act.put,zI,z0,zS]
   refine tkL 9 ?_ rfl hHA_0 ?_ ?_;rotate_left
   ·intro wS hSw;(try dsimp only at hSw);go_simp;try with_reducible rfl
   try simp only [Act.put,zI,z0,zS]
   refine tkL 10 ?_ rfl hHA_0 ?_ ?_;rotate_left
   ·intro wS hSw;(try dsimp only at hSw);go_simp;try with_reducible rfl
   try simp only [Act.put,zI,z0,zS]
   refine tkL 11 ?_ rfl hHA_0 ?_ ?_;rotate_left
   ·intro wS hSw;(try dsimp only at hSw);go_simp;try with_reducible rfl
   try simp only [Act.put,zI,z0,zS]
   refine tkL 12 ?_ rfl hHA_0 ?_ ?_;rotate_left
   ·intro wS hSw;(try dsimp only at hSw);go_simp;try with_reducible rfl
   try simp only [Act.put,zI,z0,zS]
   refine rdy1 13 rfl (fun Kq hKq=>?_)
   go_simp
   refine stepY hKq (hVA_0.out.onew VA_0.heap.size #[.int .i64 u0,.int .i64 (-u1)] 83 2 1 rfl (by omega) rfl) (fun _ hX=>HSL _ _ _ _ hX) ?_
   intro VA_1 hc hHA_1
   have hVA_1:=Lib.hid hc
   clear hc hKq Kq hVA_0 hHA_0
   try simp only [Act.put,zI,z0,zS]
   refine rdy1 14 rfl (fun Kq hKq=>?_)
   rw [if_pos (by rfl)]
   refine op_append_sy hVA_1.out 1 3 rfl rfl _ _ _ rfl und_Pts info_Pts rfl (by omega) rfl rfl (by intro u hu;simp at hu;rcases hu with rfl | rfl<;>rfl) (by omega) (by omega) (fun aAA_2 cAA_2 _ hc=>?_)
   refine stepY hKq hc (fun _ hX=>HSL _ _ _ _ hX) ?_
   intro VA_2 hc2 hHA_2
   have hVA_2:=Lib.hid hc2
   clear hc2 hKq Kq hVA_1 hc hHA_1
   try simp only [Act.put,zI,z0,zS]
   refine rdy1 15 rfl (fun Kq hKq=>?_)
   go_simp
   refine stepY hKq hVA_2.out (fun _ hX=>HSL _ _ _ _ hX) ?_
   intro VA_3 hc hHA_3
   have hVA_3:=Lib.hid hc
   clear hc hKq Kq hVA_2 hHA_2
   try simp only [Act.put,zI,z0,zS]
   refine wpAnyH_done (by kernel_rfl) ?_ _
   refine NoPanic.normal ?_
   have hT:=Lib.hid (show Sy w _ [] [⟨.slice (some ⟨g3,0,none⟩) l.length c3,83,2,l.length,L2 l⟩,⟨.slice aAA_2 (k+1) cAA_2,83,2,(k+1),L2 (downL (l.take (k+1)))⟩,⟨.slice a17 k c17,83,2,k,L2 (moveL x z (l.take k))⟩] []from by have h:=hVA_3.out.thin (bs':=[]) (List.nil_sublist _) (tkSub 3 _ rfl);rw [HDS.out];exact h)
   clear hVA_3
   generalize aAA_2=a18 at*
   generalize cAA_2=c18 at*
   go_upto_region 11 with fail
   have HSL:∀V ex os rs,Sy w V ([]++ex) ([⟨.slice (some ⟨g3,0,none⟩) l.length c3,83,2,l.length,L2 l⟩]++os) rs→(fun w'=>w'.cell? ⟨g3,k*2,none⟩=some (.int .i64 u0)∧w'.cell? ⟨g3,k*2+1,none⟩=some (.int .i64 u1)∧True) V:=fun V ex os rs hX=>⟨(hX.rcell 0 rfl HC0.out),(hX.rcell 0 rfl HC1.out),trivial⟩
   refine wp_region_noPanic ?_
   refine wp_region_held_drew (S:=(fun w'=>w'.cell? ⟨g3,k*2,none⟩=some (.int .i64 u0)∧w'.cell? ⟨g3,k*2+1,none⟩=some (.int .i64 u1)∧True)) (by kernel_rfl) ⟨(hT.out.drew.rcell 0 rfl HC0.out),(hT.out.drew.rcell 0 rfl HC1.out),trivial⟩ (fun hH=>?_)
   refine wpAnyH_geny (show Sy w _ [] [⟨.slice (some ⟨g3,0,none⟩) l.length c3,83,2,l.length,L2 l⟩,⟨.slice a18 (k+1) c18,83,2,(k+1),L2 (downL (l.take (k+1)))⟩,⟨.slice a17 k c17,83,2,k,L2 (moveL x z (l.take k))⟩] []from hT.out.drew) hH ?_
   intro VB_0 hc hHB_0
   have hVB_0:=Lib.hid hc
   clear hc hH hT
   refine tkL 0 ?_ rfl hHB_0 ?_ ?_;rotate_left
   ·intro wS hSw;(try dsimp only at hSw);go_simp;try with_reducible rfl
   try simp only [Act.put,zI,z0,zS]
   refine tkL 1 ?_ rfl hHB_0 ?_ ?_;rotate_left
   ·intro wS hSw;(try dsimp only at hSw);go_simp;try with_reducible rfl
   try simp only [Act.put,zI,z0,zS]
   refine tkL 2 ?_ rfl hHB_0 ?_ ?_;rotate_left
   ·intro wS hSw;(try dsimp only at hSw);go_simp;try with_reducible rfl
   try simp only [Act.put,zI,z0,zS]
   refine tkL 3 ?_ rfl hHB_0 ?_ ?_;rotate_left
   ·intro wS hSw;(try dsimp only at hSw);go_simp;try with_reducible rfl
   try simp only [Act.put,zI,z0,zS]
   refine tkL 4 ?_ rfl hHB_0 ?_ ?_;rotate_left
   ·intro wS hSw;(try dsimp only at hSw);go_simp;try with_reducible rfl
   try simp only [Act.put,zI,z0,zS]
   refine tkL 5 ?_ rfl hHB_0 ?_ ?_;rotate_left
   ·intro wS hSw;(try dsimp only at hSw);go_simp;try with_reducible rfl
   try simp only [Act.put,zI,z0,zS]
   refine tkL 6 ?_ rfl hHB_0 ?_ ?_;rotate_left
   ·intro wS hSw;(try dsimp only at hSw);go_simp;try with_reducible rfl
   try simp only [Act.put,zI,z0,zS]
   refine tkL 7 ?_ rfl hHB_0 ?_ ?_;rotate_left
   ·intro wS hSw;(try dsimp only at hSw);go_simp;try with_reducible rfl
   try simp only [Act.put,zI,z0,zS]
   refine tkL 8 ?_ rfl hHB_0 ?_ ?_;rotate_left
   ·intro wS hSw;(try dsimp only at hSw);go_simp;try with_reducible rfl
   try simp only [Act.put,zI,z0,zS]
   refine tkL 9 ?_ rfl hHB_0 ?_ ?_;rotate_left
   ·intro wS hSw;(try dsimp only at hSw);go_simp;try with_reducible rfl
   try simp only [Act.put,zI,z0,zS]
   refine tkL 10 ?_ rfl hHB_0 ?_ ?_;rotate_left
   ·intro wS hSw;(try dsimp only at hSw);go_simp;try with_reducible rfl
   try simp only [Act.put,zI,z0,zS]
   refine tkL 11 ?_ rfl hHB_0 ?_ ?_;rotate_left
   ·intro wS hSw;(try dsimp only at hSw);go_simp;try with_reducible rfl
   try simp only [Act.put,zI,z0,zS]
   refine tkL 12 ?_ rfl hHB_0 ?_ ?_;rotate_left
   ·intro wS hSw;(try dsimp only at hSw);go_simp;try with_reducible rfl
   try simp only [Act.put,zI,z0,zS]
   refine tkL 13 ?_ rfl hHB_0 ?_ ?_;rotate_left
   ·intro wS hSw;(try dsimp only at hSw);go_simp;try with_reducible rfl
   try simp only [Act.put,zI,z0,zS]
   refine tkL 14 ?_ rfl hHB_0 ?_ ?_;rotate_left
   ·intro wS hSw;(try dsimp only at hSw);go_simp;try with_reducible rfl
   try simp only [Act.put,zI,z0,zS]
   refine tkL 15 ?_ rfl hHB_0 ?_ ?_;rotate_left
   ·intro wS hSw;(try dsimp only at hSw);go_simp;try with_reducible rfl
   try simp only [Act.put,zI,z0,zS]
   refine tkL 16 ?_ rfl hHB_0 ?_ ?_;rotate_left
   ·intro wS hSw;(try dsimp only at hSw);go_simp;try with_reducible rfl
   try simp only [Act.put,zI,z0,zS]
   refine rdy1 17 rfl (fun Kq hKq=>?_)
   go_simp
   refine stepY hKq (hVB_0.out.al VB_0.heap.size #[.int .i64 0,.int .i64 0] 83 rfl) (fun _ hX=>HSL _ _ _ _ hX) ?_
   intro VB_1 hc hHB_1
   have hVB_1:=Lib.hid hc
   clear hc hKq Kq hVB_0 hHB_0
   try simp only [Act.put,zI,z0,zS]
   refine rdy1 18 rfl (fun Kq hKq=>?_)
   have cQ0:=hVB_1.out.cell 0 0 rfl rfl
   have fQ0:=hVB_1.out.free 0 0 rfl
   have cQ1:=hVB_1.out.cell 0 1 rfl rfl
   have fQ1:=hVB_1.out.free 0 1 rfl
   go_simp
   refine stepY hKq (hVB_1.out|>.set (j:=0) (v:= .int .i64 (u0+x)) 0 rfl|>.set (j:=1) (v:= .int .i64 (u1+z)) 0 rfl) (fun _ hX=>HSL _ _ _ _ hX) ?_
   intro VB_2 hc hHB_2
   have hVB_2:=Lib.hid hc
   clear hc hKq Kq hVB_1 cQ0 fQ0 cQ1 fQ1 hHB_1
   try simp only [Act.put]
   refine wpAnyH_done (by kernel_rfl) ?_ _
   refine NoPanic.normal ?_
   have hB:=hVB_2
   clear hVB_2
   obtain ⟨b20,eb20⟩:∃b,VB_0.heap.size=b:=⟨_,rfl⟩
   rw [eb20]at hB⊢
   clear eb20
   have z0:VB_2.cell? ⟨b20,0,none⟩=some (.int .i64 (u0+x)):=hB.out.cell 0 0 rfl rfl
   have z1:VB_2.cell? ⟨b20,1,none⟩=some (.int .i64 (u1+z)):=hB.out.cell 0 1 rfl rfl
   go_upto_region 12 with fail
   go_upto_region 13 with (refine wpList_append_sy (o:=⟨some 92,_,_,_,_,_⟩) rfl (hB.out.onew _ #[.int .i64 (u0+x),.int .i64 (u1+z)] 83 2 1 rfl (by omega) rfl) 2 3 rfl rfl _ _ _ rfl und_Pts info_Pts rfl (by omega) rfl rfl (by intro u hu;simp at hu;rcases hu with rfl | rfl<;>rfl) (by omega) (by omega) (fun a19 c19 V hV=>?_))
   have hU:=Lib.hid (show Sy w _ [(b20,#[.int .i64 (u0+x),.int .i64 (u1+z)],83)] [⟨.slice (some ⟨g3,0,none⟩) l.length c3,83,2,l.length,L2 l⟩,⟨.slice a18 (k+1) c18,83,2,(k+1),L2 (downL (l.take (k+1)))⟩,⟨.slice a19 (k+1) c19,83,2,(k+1),L2 (moveL x z (l.take (k+1)))⟩] []from by have h:=hV.thin (bs':=[(b20,#[.int .i64 (u0+x),.int .i64 (u1+z)],83)]) (List.Sublist.refl _) (tkSub 3 _ rfl);rw [HMS.out];exact h)
   clear hV hB z0 z1
   have y0:V.cell? ⟨b20,0,none⟩=some (.int .i64 (u0+x)):=hU.out.cell 0 0 rfl rfl
   have y1:V.cell? ⟨b20,1,none⟩=some (.int .i64 (u1+z)):=hU.out.cell 0 1 rfl rfl
   have HI0:=Lib.hid (fun W=>rIn_any W (u0+x) (-100000) 100000)
   have HI1:=Lib.hid (fun W=>rIn_any W (u1+z) (-100000) 100000)
   have hX:=Lib.hid (hU.out.thin (bs':=[]) (List.nil_sublist _) (List.Sublist.refl _))
   cases ins0
   ·go_wp2
    go_roundw
    case rel=>exact⟨k+1,a18,a19,c18,c19,by omega,rfl,rfl,by rw [HIS.out];(first | done | rfl),by go_num,hX⟩
    case measure=>simp [intOf];omega
   cases hq0:inB (u0+x) (-100000) 100000
   ·rw [hq0]at HI0
    have HIS2:=Lib.hid (HIS.out.trans (by rw [hq0]))
    clear hq0
    go_wp2_with ((with_reducible refine(HI0.out _).mono ?_);rintro e w1 ⟨rfl,rfl⟩)
    go_roundw
    case rel=>exact⟨k+1,a18,a19,c18,c19,by omega,rfl,rfl,by rw [HIS2.out];(first | done | rfl),by go_num,hX⟩
    case measure=>simp [intOf];omega
   rw [hq0]at HI0
   cases hq1:inB (u1+z) (-100000) 100000
   all_goals
    rw [hq1]at HI1
    have HIS2:=Lib.hid (HIS.out.trans (by rw [hq0,hq1]))
    clear hq0 hq1
    go_wp2_with (first | ((with_reducible refine(HI0.out _).mono ?_);rintro e w1 ⟨rfl,rfl⟩) | ((with_reducible refine(HI1.out _).mono ?_);rintro e w1 ⟨rfl,rfl⟩))
    go_roundw
    case rel=>exact⟨k+1,a18,a19,c18,c19,by omega,rfl,rfl,by rw [HIS2.out];(first | done | rfl),by go_num,hX⟩
    case measure=>simp [intOf];omega
  ·obtain rfl:k=l.length:=by omega
   rw [List.take_length]at hS
   rw [List.take_length]
   go_upto_region 15 with fail
   have hH0:=Lib.hid (show Sy w _ [] [⟨.slice (some ⟨g3,0,none⟩) l.length c3,83,2,l.length,L2 l⟩,⟨.slice a16 l.length c16,83,2,l.length,L2 (downL l)⟩,⟨.slice a17 l.length c17,83,2,l.length,L2 (moveL x z l)⟩,⟨.slice none 0 0,3,1,0,L1 ((bs.take 0).map (· +x))⟩] []from hS.out.onil 3 1)
   clear hS
   go_wp2
   go_loopw [21,22] (fun av iv wr=>∃ (k:Nat) (a21:Option Addr) (c21:Nat),k≤bs.length∧av= .slice a21 k c21∧iv= .int .i64 k∧Hid (Sy w wr [] [⟨.slice (some ⟨g3,0,none⟩) l.length c3,83,2,l.length,L2 l⟩,⟨.slice a16 l.length c16,83,2,l.length,L2 (downL l)⟩,⟨.slice a17 l.length c17,83,2,l.length,L2 (moveL x z l)⟩,⟨.slice a21 k c21,3,1,k,L1 ((bs.take k).map (· +x))⟩] [])) (fun _ iv _=>bs.length - (intOf iv).toNat)
   case atStart=>exact⟨0,none,0,Nat.zero_le _,rfl,rfl,hH0⟩
   case round=>
    clear hH0
    obtain ⟨k,a21,c21,hkk,rfl,rfl,hS⟩:=hrel
    by_cases hlt:k < bs.length
    ·obtain ⟨gb,ob,rfl⟩:=(HBS.out w (Below.refl _ _)).addr (by omega)
     have x0:=(HBS.out _ hS.out.be).atX hlt
     have HSS:=Lib.hid (shift_snoc (x:=x) hlt)
     have hbf:=HBF.out k hlt
     generalize bX bs k=u at*
     have i0:(0:Int)≤(k:Int):=by omega
     have i1:(k:Int) < (bs.length:Int):=by omega
     have v1:IntKind.i64.wrap (u+x)=u+x:=IntWalk.i64_in _ (by omega)
     go_wp2_with (refine wpList_append_sy (o:=⟨some 119,_,_,_,_,_⟩) rfl (hS.out.onew _ #[.int .i64 (u+x)] 3 1 1 rfl (by omega) rfl) 3 4 rfl rfl _ _ _ rfl und_hint info_hint rfl (by omega) rfl rfl (by intro u hu;simp at hu;rcases hu with rfl;rfl) (by omega) (by omega) (fun a23 c23 V hV=>?_))
     have hT:=Lib.hid (show Sy w _ [] [⟨.slice (some ⟨g3,0,none⟩) l.length c3,83,2,l.length,L2 l⟩,⟨.slice a16 l.length c16,83,2,l.length,L2 (downL l)⟩,⟨.slice a17 l.length c17,83,2,l.length,L2 (moveL x z l)⟩,⟨.slice a23 (k+1) c23,3,1,(k+1),L1 ((bs.take (k+1)).map (· +x))⟩] []from by have h:=hV.thin (bs':=[]) (List.nil_sublist _) (tkSub 4 _ rfl);rw [HSS.out];exact h)
     clear hV hS
     go_wp2
     go_roundw
     case rel=>exact⟨k+1,a23,c23,by omega,rfl,by go_num,hT⟩
     case measure=>simp [intOf];omega
    ·obtain rfl:k=bs.length:=by omega
     rw [List.take_length]at hS
     have HCH:=Lib.hid (fun W sa sc (hs:Sx 2 W sa l.length sc (L2 l)) (hW:Below w.heap.size w W)=>hHeads_any W sa l.length sc l hs ba bs.length bc bs (HBS.out W hW) d r (by omega) (by omega))
     have HCU:=Lib.hid (fun W sa sc (hs:Sx 2 W sa l.length sc (L2 (downL l))) (hW:Below w.heap.size w W)=>hFeet_any W sa l.length sc (downL l) hs ba bs.length bc bs (HBS.out W hW) d r (by omega) (by omega))
     have HCF:=Lib.hid (fun W sa sc (hs:Sx 2 W sa l.length sc (L2 l)) (hW:Below w.heap.size w W)=>hFeet_any W sa l.length sc l hs ba bs.length bc bs (HBS.out W hW) d r (by omega) (by omega))
     have HCO:=Lib.hid (fun W sa sc (hs:Sx 2 W sa l.length sc (L2 (moveL x z l))) ba bc (hb:Sx 1 W ba bs.length bc (L1 (bs.map (· +x))))=>hFeet_any W sa l.length sc (moveL x z l) hs ba bs.length bc (bs.map (· +x)) hb d r (by omega) (by omega))
     have hr2:=inB_iff.2 d1
     have hr3:=inB_iff.2 d2
     have L0:lvErr l bs d r=0:=by unfold lvErr;rw [if_pos HK.out,hr2,hr3];rfl
     have L1':lvErr (downL l) bs d r=0:=by unfold lvErr;rw [if_pos (down_brk HK.out),hr2,hr3];rfl
     have L2':=Lib.hid (show insideB x z l=true→lvErr (moveL x z l) (bs.map (· +x)) d r=0 from fun h=>by unfold lvErr;rw [if_pos (move_brk HK.out h),hr2,hr3];rfl)
     have L3':=Lib.hid (show insideB x z l=false→lvErr (moveL x z l) (bs.map (· +x)) d r=2 from fun h=>by unfold lvErr;rw [move_brk_no _ h];rfl)
     rw [L0]at HCH HCF
     rw [L1']at HCU
     clear L0 L1' hr2 hr3
     have HEH:=Lib.hid (fun i (hi:i < bs.length - 1)=>down_heads (l:=l) d r hi)
     have HEO:=Lib.hid (fun i (hi:i < bs.length - 1)=>move_feet (x:=x) (z:=z) HK.out d r hi)
     have HUB:=Lib.hid (show ∀u∈folL min r (baseL (downL l) bs d),-103000≤u∧u≤100000 from feet_in (down_brk HK.out) d1 d2.1)
     have HFB:=Lib.hid (show ∀u∈folL min r (baseL l bs d),-103000≤u∧u≤100000 from feet_in HK.out d1 d2.1)
     unfold baseL at HUB HFB
     have n1:=folL_len max (-r) ((nbr bs).map fun t=>headI l t.1 t.2 d)
     have n2:=folL_len min r ((nbr bs).map fun t=>footI (downL l) t.1 t.2 d)
     have n3:=folL_len min r ((nbr bs).map fun t=>footI l t.1 t.2 d)
     have n4:=folL_len min r ((nbr (bs.map (· +x))).map fun t=>footI (moveL x z l) t.1 t.2 d)
     rw [List.length_map,nbr_len]at n1 n2 n3 n4
     rw [List.length_map]at n4
     generalize folL max (-r) ((nbr bs).map fun t=>headI l t.1 t.2 d)=HD at*
     generalize folL min r ((nbr bs).map fun t=>footI (downL l) t.1 t.2 d)=UN at*
     generalize folL min r ((nbr bs).map fun t=>footI l t.1 t.2 d)=FE at*
     generalize folL min r ((nbr (bs.map (· +x))).map fun t=>footI (moveL x z l) t.1 t.2 d)=OT at*
     generalize lvErr (moveL x z l) (bs.map (· +x)) d r=le at*
     obtain ⟨nn,hnn⟩:∃nn,bs.length - 1=nn:=⟨_,rfl⟩
     rw [hnn]at HEH HEO n1 n2 n3 n4
     have hnb:0 < nn∧nn≤60:=by omega
     have i9:IntKind.i64.wrap ((bs.length:Int) - 1)=(nn:Int):=by rw [IntWalk.i64_in _ (by omega)];omega
     have HN1:=Lib.hid n1
     have HN2:=Lib.hid n2
     have HN3:=Lib.hid n3
     have HN4:=Lib.hid n4
     unfold RetLv at HCH HCU HCF HCO
     rw [n1]at HCH
     rw [n2]at HCU
     rw [n3]at HCF
     rw [n4]at HCO
     clear n1 n2 n3 n4 hnn HK HP HPF HBF HBS
     generalize insideB x z l=ins at*
     go_wp2_with fail
     refine(HCH.out _ _ _ (hS.out.osx 0 rfl) hS.out.be).mono ?_
     rintro e WL1 (⟨-,a23,c23,rfl,hr,hb⟩ | ⟨h,-⟩)
     rotate_left
     ·exact absurd rfl h
     have hT1:=Lib.hid (show Sy w _ [] [⟨.slice (some ⟨g3,0,none⟩) l.length c3,83,2,l.length,L2 l⟩,⟨.slice a16 l.length c16,83,2,l.length,L2 (downL l)⟩,⟨.slice a17 l.length c17,83,2,l.length,L2 (moveL x z l)⟩,⟨.slice a21 bs.length c21,3,1,bs.length,L1 (bs.map (· +x))⟩,⟨.slice a23 nn c23,3,1,nn,L1 HD⟩] []from hS.out.adopt hb hr)
     clear hb hr hS
     go_wp2_with fail
     refine(HCU.out _ _ _ (hT1.out.osx 1 rfl) hT1.out.be).mono ?_
     rintro e WL2 (⟨-,a25,c25,rfl,hr,hb⟩ | ⟨h,-⟩)
     rotate_left
     ·exact absurd rfl h
     have hT2:=Lib.hid (show Sy w _ [] [⟨.slice (some ⟨g3,0,none⟩) l.length c3,83,2,l.length,L2 l⟩,⟨.slice a16 l.length c16,83,2,l.length,L2 (downL l)⟩,⟨.slice a17 l.length c17,83,2,l.length,L2 (moveL x z l)⟩,⟨.slice a21 bs.length c21,3,1,bs.length,L1 (bs.map (· +x))⟩,⟨.slice a23 nn c23,3,1,nn,L1 HD⟩,⟨.slice a25 nn c25,3,1,nn,L1 UN⟩] []from hT1.out.adopt hb hr)
     clear hb hr hT1
     go_wp2_with fail
     refine(HCF.out _ _ _ (hT2.out.osx 0 rfl) hT2.out.be).mono ?_
     rintro e WL3 (⟨-,a27,c27,rfl,hr,hb⟩ | ⟨h,-⟩)
     rotate_left
     ·exact absurd rfl h
     have hT3:=Lib.hid (show Sy w _ [] [⟨.slice (some ⟨g3,0,none⟩) l.length c3,83,2,l.length,L2 l⟩,⟨.slice a16 l.length c16,83,2,l.length,L2 (downL l)⟩,⟨.slice a17 l.length c17,83,2,l.length,L2 (moveL x z l)⟩,⟨.slice a21 bs.length c21,3,1,bs.length,L1 (bs.map (· +x))⟩,⟨.slice a23 nn c23,3,1,nn,L1 HD⟩,⟨.slice a25 nn c25,3,1,nn,L1 UN⟩,⟨.slice a27 nn c27,3,1,nn,L1 FE⟩] []from hT2.out.adopt hb hr)
     clear hb hr hT2
     obtain ⟨g23,rfl,-⟩:=hT3.out.oaddr 4 rfl hnb.1
     obtain ⟨g25,rfl,-⟩:=hT3.out.oaddr 5 rfl hnb.1
     obtain ⟨g27,rfl,-⟩:=hT3.out.oaddr 6 rfl hnb.1
     cases ins
     ·rw [L3'.out rfl]at HCO
      go_wp2_with fail
      refine(HCO.out _ _ _ (hT3.out.osx 2 rfl) _ _ (hT3.out.osx 3 rfl)).mono ?_
      rintro e WL4 (⟨h,-⟩ | ⟨-,rfl,hb⟩)
      ·cases h
      have hT4:=Lib.hid (hT3.out.call hb)
      clear hb hT3
      go_upto_region 25 with fail
      go_wp2
      go_loopw [31] (fun iv wr=>∃k:Nat,k≤nn∧iv= .int .i64 k∧Hid (Sy w wr [] [⟨.slice (some ⟨g3,0,none⟩) l.length c3,83,2,l.length,L2 l⟩,⟨.slice a16 l.length c16,83,2,l.length,L2 (downL l)⟩,⟨.slice a17 l.length c17,83,2,l.length,L2 (moveL x z l)⟩,⟨.slice a21 bs.length c21,3,1,bs.length,L1 (bs.map (· +x))⟩,⟨.slice (some ⟨g23,0,none⟩) nn c23,3,1,nn,L1 HD⟩,⟨.slice (some ⟨g25,0,none⟩) nn c25,3,1,nn,L1 UN⟩,⟨.slice (some ⟨g27,0,none⟩) nn c27,3,1,nn,L1 FE⟩] [])) (fun iv _=>nn - (intOf iv).toNat)
      case atStart=>exact⟨0,Nat.zero_le _,rfl,hT4⟩
      case round=>
       clear hT4
       obtain ⟨k,hkk,rfl,hS⟩:=hrel
       by_cases hlt:k < nn
       ·have hq:=HEH.out k hlt
        have h1:k < HD.length:=by rw [HN1.out];exact hlt
        have h2:k < UN.length:=by rw [HN2.out];exact hlt
        have c0:=hS.out.rcell 4 rfl (show(L1 HD)[k]? =some (.int .i64 (bX HD k))from by rw [bX_at h1];exact L1_get HD k h1)
        have c1:=hS.out.rcell 5 rfl (show(L1 UN)[k]? =some (.int .i64 (bX UN k))from by rw [bX_at h2];exact L1_get UN k h2)
        have hub:=bX_in HUB.out h2
        rw [hq]at c0
        clear h1 h2 hq
        generalize bX UN k=u at*
        have i0:(0:Int)≤(k:Int):=by omega
        have i1:(k:Int) < (nn:Int):=by omega
        have v1:IntKind.i64.wrap (-u)= -u:=IntWalk.i64_in _ (by omega)
        go_upto_region 28 with fail
        go_quiet (fail)
        have hU:=Lib.hid (hS.out.call (below_dN (Below.refl _ _) nq))
        go_wp2
        go_roundw
        case rel=>exact⟨k+1,by omega,by go_num,hU⟩
        case measure=>simp [intOf];omega
       ·obtain rfl:nn=k:=by omega
        go_wp2_with fail
        refine(HW.out _).mono ?_
        rintro e WZ ⟨rfl,hb⟩
        have hZ:=Lib.hid (hS.out.call hb)
        clear hb
        go_wp2
        go_ret
        exact⟨rfl,hZ.out.be⟩
     ·rw [L2'.out rfl]at HCO
      go_wp2_with fail
      refine(HCO.out _ _ _ (hT3.out.osx 2 rfl) _ _ (hT3.out.osx 3 rfl)).mono ?_
      rintro e WL4 (⟨-,a29,c29,rfl,hr,hb⟩ | ⟨h,-⟩)
      rotate_left
      ·exact absurd rfl h
      have hT4:=Lib.hid (show Sy w _ [] [⟨.slice (some ⟨g3,0,none⟩) l.length c3,83,2,l.length,L2 l⟩,⟨.slice a16 l.length c16,83,2,l.length,L2 (downL l)⟩,⟨.slice a17 l.length c17,83,2,l.length,L2 (moveL x z l)⟩,⟨.slice a21 bs.length c21,3,1,bs.length,L1 (bs.map (· +x))⟩,⟨.slice (some ⟨g23,0,none⟩) nn c23,3,1,nn,L1 HD⟩,⟨.slice (some ⟨g25,0,none⟩) nn c25,3,1,nn,L1 UN⟩,⟨.slice (some ⟨g27,0,none⟩) nn c27,3,1,nn,L1 FE⟩,⟨.slice a29 nn c29,3,1,nn,L1 OT⟩] []from hT3.out.adopt hb hr)
      clear hb hr hT3
      obtain ⟨g29,rfl,-⟩:=hT4.out.oaddr 7 rfl hnb.1
      go_upto_region 25 with fail
      go_wp2
      go_loopw [31] (fun iv wr=>∃k:Nat,k≤nn∧iv= .int .i64 k∧Hid (Sy w wr [] [⟨.slice (some ⟨g3,0,none⟩) l.length c3,83,2,l.length,L2 l⟩,⟨.slice a16 l.length c16,83,2,l.length,L2 (downL l)⟩,⟨.slice a17 l.length c17,83,2,l.length,L2 (moveL x z l)⟩,⟨.slice a21 bs.length c21,3,1,bs.length,L1 (bs.map (· +x))⟩,⟨.slice (some ⟨g23,0,none⟩) nn c23,3,1,nn,L1 HD⟩,⟨.slice (some ⟨g25,0,none⟩) nn c25,3,1,nn,L1 UN⟩,⟨.slice (some ⟨g27,0,none⟩) nn c27,3,1,nn,L1 FE⟩,⟨.slice (some ⟨g29,0,none⟩) nn c29,3,1,nn,L1 OT⟩] [])) (fun iv _=>nn - (intOf iv).toNat)
      case atStart=>exact⟨0,Nat.zero_le _,rfl,hT4⟩
      case round=>
       clear hT4
       obtain ⟨k,hkk,rfl,hS⟩:=hrel
       by_cases hlt:k < nn
       ·have hq:=HEH.out k hlt
        have h1:k < HD.length:=by rw [HN1.out];exact hlt
        have h2:k < UN.length:=by rw [HN2.out];exact hlt
        have c0:=hS.out.rcell 4 rfl (show(L1 HD)[k]? =some (.int .i64 (bX HD k))from by rw [bX_at h1];exact L1_get HD k h1)
        have c1:=hS.out.rcell 5 rfl (show(L1 UN)[k]? =some (.int .i64 (bX UN k))from by rw [bX_at h2];exact L1_get UN k h2)
        have hub:=bX_in HUB.out h2
        rw [hq]at c0
        clear h1 h2 hq
        generalize bX UN k=u at*
        have i0:(0:Int)≤(k:Int):=by omega
        have i1:(k:Int) < (nn:Int):=by omega
        have v1:IntKind.i64.wrap (-u)= -u:=IntWalk.i64_in _ (by omega)
        go_upto_region 28 with fail
        go_quiet (fail)
        have hU:=Lib.hid (hS.out.call (below_dN (Below.refl _ _) nq))
        go_wp2
        go_roundw
        case rel=>exact⟨k+1,by omega,by go_num,hU⟩
        case measure=>simp [intOf];omega
       ·obtain rfl:nn=k:=by omega
        go_upto_region 34 with fail
        go_wp2
        go_loopw [32] (fun iv wr=>∃k:Nat,k≤nn∧iv= .int .i64 k∧Hid (Sy w wr [] [⟨.slice (some ⟨g3,0,none⟩) l.length c3,83,2,l.length,L2 l⟩,⟨.slice a16 l.length c16,83,2,l.length,L2 (downL l)⟩,⟨.slice a17 l.length c17,83,2,l.length,L2 (moveL x z l)⟩,⟨.slice a21 bs.length c21,3,1,bs.length,L1 (bs.map (· +x))⟩,⟨.slice (some ⟨g23,0,none⟩) nn c23,3,1,nn,L1 HD⟩,⟨.slice (some ⟨g25,0,none⟩) nn c25,3,1,nn,L1 UN⟩,⟨.slice (some ⟨g27,0,none⟩) nn c27,3,1,nn,L1 FE⟩,⟨.slice (some ⟨g29,0,none⟩) nn c29,3,1,nn,L1 OT⟩] [])) (fun iv _=>nn - (intOf iv).toNat)
        case atStart=>exact⟨0,Nat.zero_le _,rfl,hS⟩
        case round=>
         clear hS
         obtain ⟨k,hkk,rfl,hS⟩:=hrel
         by_cases hlt:k < nn
         ·have hq:=HEO.out k hlt
          have h1:k < OT.length:=by rw [HN4.out];exact hlt
          have h2:k < FE.length:=by rw [HN3.out];exact hlt
          have c0:=hS.out.rcell 7 rfl (show(L1 OT)[k]? =some (.int .i64 (bX OT k))from by rw [bX_at h1];exact L1_get OT k h1)
          have c1:=hS.out.rcell 6 rfl (show(L1 FE)[k]? =some (.int .i64 (bX FE k))from by rw [bX_at h2];exact L1_get FE k h2)
          have hub:=bX_in HFB.out h2
          rw [hq]at c0
          clear h1 h2 hq
          generalize bX FE k=u at*
          have i0:(0:Int)≤(k:Int):=by omega
          have i1:(k:Int) < (nn:Int):=by omega
          have v1:IntKind.i64.wrap (u+z)=u+z:=IntWalk.i64_in _ (by omega)
          go_upto_region 37 with fail
          go_quiet (fail)
          have hU:=Lib.hid (hS.out.call (below_dN (Below.refl _ _) nq))
          go_wp2
          go_roundw
          case rel=>exact⟨k+1,by omega,by go_num,hU⟩
          case measure=>simp [intOf];omega
         ·obtain rfl:nn=k:=by omega
          go_wp2_with fail
          refine(HW.out _).mono ?_
          rintro e WZ ⟨rfl,hb⟩
          have hZ:=Lib.hid (hS.out.call hb)
          clear hb
          go_wp2
          go_ret
          exact⟨rfl,hZ.out.be⟩
end
end Go.Proofs.YthmdhlopeponcaaGreatDoor
