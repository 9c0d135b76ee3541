/- the law HillCheapest, walked -/
import Derived.Test.YthmdhlopeponcaaGreatDoorJ51
import Derived.Test.YthmdhlopeponcaaGreatDoorJ52
import Derived.Test.YthmdhlopeponcaaGreatDoorJ35
import Derived.Test.YthmdhlopeponcaaGreatDoorJ45
namespace Go.Proofs.YthmdhlopeponcaaGreatDoor
open Go.RowKit Go.Shelf Dig
theorem cmp_le {x y:Rat} (h:x≤y):cmpQ x y≤0:=by
 unfold cmpQ
 split
 ·exact Int.le_refl _
 ·split
  ·omega
  ·rename_i h1 h2
   exact absurd (Rat.le_antisymm h (by grind)) h1
theorem chn_B0 {l:List Pt} {a unit least depth:Int} {t j:Nat} {bs:List Int} {c:Rat} (h:Chn l a unit least depth t j bs c):bX bs 0=a∧bX bs (bs.length - 1)=atC a unit j:=by
 obtain ⟨r,hr⟩:=h.head
 obtain ⟨pre,hp⟩:=h.last
 refine⟨by rw [hr];rfl,?_⟩
 rw [hp]
 unfold bX
 rw [List.getD_eq_getElem?_getD,List.length_append,List.length_singleton,Nat.add_sub_cancel,List.getElem?_append_right (Nat.le_refl _),Nat.sub_self];rfl
theorem br_le0 {bs:List Int} (h:∀i,i+1 < bs.length→bX bs i < bX bs (i+1)):∀ {j:Nat},j < bs.length→bX bs 0≤bX bs j
 | 0,_=>Int.le_refl _
 | j+1,hj=>by have:=br_le0 h (j:=j) (by omega);have:=h j hj;omega
section
variable (w:World)
set_option maxHeartbeats 8000000 in
set_option maxRecDepth 100000 in
theorem hillCheapest_walk (la:Option Addr) (ln lc:Nat) (l:List Pt) (a b un least most depth:Int) (ba:Option Addr) (bn bc:Nat) (bs:List Int) (hs:Sx 2 w la ln lc (L2 l)) (hb:Sx 1 w ba bn bc (L1 bs)) (hun:0≤un∧un < 65536):
  Calls Tryz.prog 15 #[.slice la ln lc,.int .i64 a,.int .i64 b,.int .u16 un,.int .i64 least,.int .i64 most,.int .i64 depth,.slice ba bn bc] w (Gives (.bool true) w):=by
 have HW:=Lib.hid wakes08
 have HV:=Lib.hid (fun W (hW:Below w.heap.size w W)=>rValid_any W la ln lc l (hs.below hW))
 have HL:=Lib.hid (fun W=>rIn_any W least 1 200000)
 have HM:=Lib.hid (fun W=>rIn_any W most 1 59)
 have HD:=Lib.hid (fun W=>rIn_any W depth 0 3000)
 have hC:=Lib.hid (Sy.enter w)
 obtain rfl:=hs.n2
 obtain rfl:=hb.n1
 have HS:=Lib.hid hs
 have HBS:=Lib.hid (fun W (hW:Below w.heap.size w W)=>hb.below hW)
 have HPT:=Lib.hid (fun W (hW:Below w.heap.size w W) hn=>conv_Pts la l.length lc l W (HS.out.below hW) hn)
 have HST:=Lib.hid (fun W (hW:Below w.heap.size w W) hn=>rStretch_any W la l.length lc l a b (HS.out.below hW) hn)
 have HBR:=Lib.hid (fun W (hW:Below w.heap.size w W) hp=>rBreaks_any W la l.length lc l (HS.out.below hW) ba bs.length bc bs (HBS.out W hW) hp)
 have hcap:=hb.cap
 unfold maxLen at hcap
 clear hs hb
 obtain ⟨u,hu⟩:∃u,un+1=u:=⟨_,rfl⟩
 have z1:IntKind.i64.wrap un=un:=IntWalk.i64_in _ (by omega)
 have z2:IntKind.i64.wrap (un+1)=u:=by rw [IntWalk.i64_in _ (by omega),hu]
 have hu1:1≤u∧u≤65536:=by omega
 have u0:u≠0:=by omega
 clear hu
 cases hp:profB l
 ·rw [hp]at HV
  clear hp
  go_enter Tryz.func15,Tryz.ntmps15
  go_wp2_with fail
  refine(HV.out _ hC.out.be).mono ?_
  rintro e W1 ⟨rfl,hb⟩
  have hE:=Lib.hid (hC.out.call hb)
  clear hb hC
  go_wp2_with fail
  refine(HW.out _).mono ?_
  rintro e WZ ⟨rfl,hb⟩
  have hZ:=Lib.hid (hE.out.call hb)
  clear hb
  go_wp2
  go_ret
  exact⟨rfl,hZ.out.be⟩
 rw [hp]at HV
 have hP:=prof_iff.1 hp
 have hlen:2≤l.length∧l.length≤40:=⟨hP.two,hP.forty⟩
 clear hP
 go_enter Tryz.func15,Tryz.ntmps15
 go_wp2_with fail
 refine(HV.out _ hC.out.be).mono ?_
 rintro e W1 ⟨rfl,hb⟩
 have hD:=Lib.hid (hC.out.call hb)
 clear hb hC HV
 cases hb2:strB l a b
 ·rw [hb2]at HST
  clear hb2 hp
  go_wp2_with fail
  refine(HST.out _ hD.out.be (by omega)).mono ?_
  rintro e W2 ⟨rfl,hb⟩
  have hE:=Lib.hid (hD.out.call hb)
  clear hb hD
  go_wp2_with fail
  refine(HW.out _).mono ?_
  rintro e WZ ⟨rfl,hb⟩
  have hZ:=Lib.hid (hE.out.call hb)
  clear hb
  go_wp2
  go_ret
  exact⟨rfl,hZ.out.be⟩
 rw [hb2]at HST
 have HPB:=Lib.hid hp
 have hse:=strErr_ok hp hb2
 have hT:=strErr_zero hse
 have hab:=hT.in100
 have HSE:=Lib.hid hse
 have HT:=Lib.hid hT
 have w0:IntKind.i64.wrap (b - a)=b - a:=IntWalk.i64_in _ (by omega)
 have hba0:0≤b - a:=by omega
 clear hse hT hp hb2
 go_wp2_with fail
 refine(HST.out _ hD.out.be (by omega)).mono ?_
 rintro e W2 ⟨rfl,hb⟩
 have hE:=Lib.hid (hD.out.call hb)
 clear hb hD HST
 by_cases ht:(b - a) % u=0
 rotate_left
 ·go_wp2_with fail
  refine(HW.out _).mono ?_
  rintro e WZ ⟨rfl,hb⟩
  have hZ:=Lib.hid (hE.out.call hb)
  clear hb
  go_wp2
  go_ret
  exact⟨rfl,hZ.out.be⟩
 by_cases hq:(b - a) / u≤20
 rotate_left
 ·have hq2:20 < (b - a) / u:=by omega
  clear hq
  go_wp2_with fail
  refine(HW.out _).mono ?_
  rintro e WZ ⟨rfl,hb⟩
  have hZ:=Lib.hid (hE.out.call hb)
  clear hb
  go_wp2
  go_ret
  exact⟨rfl,hZ.out.be⟩
 have hq2:¬ 20 < (b - a) / u:=by omega
 cases h1:inB least 1 200000
 ·rw [h1]at HL
  clear h1
  go_wp2_with (first | ((with_reducible refine(HL.out _).mono ?_);rintro e w1 ⟨rfl,rfl⟩) | ((with_reducible refine(HM.out _).mono ?_);rintro e w1 ⟨rfl,rfl⟩) | ((with_reducible refine(HD.out _).mono ?_);rintro e w1 ⟨rfl,rfl⟩))
  go_wp2_with fail
  refine(HW.out _).mono ?_
  rintro e WZ ⟨rfl,hb⟩
  have hZ:=Lib.hid (hE.out.call hb)
  clear hb
  go_wp2
  go_ret
  exact⟨rfl,hZ.out.be⟩
 rw [h1]at HL
 cases h2:inB most 1 59
 ·rw [h2]at HM
  clear h2
  go_wp2_with (first | ((with_reducible refine(HL.out _).mono ?_);rintro e w1 ⟨rfl,rfl⟩) | ((with_reducible refine(HM.out _).mono ?_);rintro e w1 ⟨rfl,rfl⟩) | ((with_reducible refine(HD.out _).mono ?_);rintro e w1 ⟨rfl,rfl⟩))
  go_wp2_with fail
  refine(HW.out _).mono ?_
  rintro e WZ ⟨rfl,hb⟩
  have hZ:=Lib.hid (hE.out.call hb)
  clear hb
  go_wp2
  go_ret
  exact⟨rfl,hZ.out.be⟩
 rw [h2]at HM
 cases h3:inB depth 0 3000
 ·rw [h3]at HD
  clear h3
  go_wp2_with (first | ((with_reducible refine(HL.out _).mono ?_);rintro e w1 ⟨rfl,rfl⟩) | ((with_reducible refine(HM.out _).mono ?_);rintro e w1 ⟨rfl,rfl⟩) | ((with_reducible refine(HD.out _).mono ?_);rintro e w1 ⟨rfl,rfl⟩))
  go_wp2_with fail
  refine(HW.out _).mono ?_
  rintro e WZ ⟨rfl,hb⟩
  have hZ:=Lib.hid (hE.out.call hb)
  clear hb
  go_wp2
  go_ret
  exact⟨rfl,hZ.out.be⟩
 rw [h3]at HD
 have h1':=inB_iff.1 h1
 have h2':=inB_iff.1 h2
 have h3':=inB_iff.1 h3
 clear h1 h2 h3
 go_upto_region 4 with (first | ((with_reducible refine(HL.out _).mono ?_);rintro e w1 ⟨rfl,rfl⟩) | ((with_reducible refine(HM.out _).mono ?_);rintro e w1 ⟨rfl,rfl⟩) | ((with_reducible refine(HD.out _).mono ?_);rintro e w1 ⟨rfl,rfl⟩))
 obtain ⟨n,hn⟩:=Int.eq_ofNat_of_zero_le (Int.ediv_nonneg hba0 (show 0≤u by omega))
 have hbn:b=atC a u n:=by
  have:=Int.ediv_mul_cancel (Int.dvd_of_emod_eq_zero ht)
  rw [hn]at this
  unfold atC
  omega
 have hn20:n≤20:=by omega
 have hn1:1≤n:=by
  rcases Nat.eq_zero_or_pos n with e | e
  ·subst e;rw [atC_zero]at hbn;omega
  ·exact e
 have HBN:=Lib.hid hbn
 have HTN:=Lib.hid (show Strt l a (atC a u n)from by rw [←hbn];exact HT.out)
 obtain ⟨mo,hmo⟩:∃mo:Nat,most=(mo:Int):=⟨most.toNat,by omega⟩
 subst hmo
 have hm1:1≤mo∧mo≤59:=by omega
 have HCB:=Lib.hid (fun W sa sc (hs:Sx 2 W sa l.length sc (L2 l)) le m (h1:1≤le∧le≤200000) (h2:1≤m∧m≤60)=>hBest_ok W sa l.length sc l a b u le depth hs n m HSE.out hbn (by omega) hu1.1 h3' h2 h1)
 have HCP:=Lib.hid (fun W sa sc (hs:Sx 2 W sa l.length sc (L2 l)) za zc zs (hz:Sx 1 W za zs.length zc (L1 zs)) (h:brkB l zs=true)=>price_any W sa l.length sc l hs za zs.length zc zs hz depth h h3')
 have HQB:=Lib.hid (fun le t bs q (h:Chn l a u le depth t n bs q) (h60:t≤60)=>h.bq hu1.1 HTN.out (Nat.le_refl n) h60 HPB.out h3')
 clear ht hq hq2 hn hbn HL HM HD
 go_wp2_with fail
 refine(HPT.out _ hE.out.be (by omega)).mono ?_
 rintro e W4 ⟨a3,c3,rfl,hr,hb⟩
 have hF:=Lib.hid (show Sy w _ [] [⟨.slice a3 l.length c3,83,2,l.length,L2 l⟩] []from hE.out.adopt hb hr)
 clear hb hr hE HPT
 have HB1:=Lib.hid (HCB.out _ _ _ (hF.out.osx 0 rfl) least mo h1' (by omega))
 cases hB:bestC l a u least depth n mo with
 | none=>
   rw [hB]at HB1
   have hlt:b - a < least:=by
    rcases Int.lt_or_le (b - a) least with h | h
    ·exact h
    ·have hnu:(n:Int)*u=b - a:=by have:=HBN.out;unfold atC at this;omega
     obtain ⟨bs',q',hc⟩:=chn_one (l:=l) (a:=a) (unit:=u) (least:=least) (depth:=depth) (n:=n) (by omega) (by omega)
     obtain ⟨c,hc2,-⟩:=best_least hc (Nat.le_refl 1) mo (by omega)
     rw [hB]at hc2;cases hc2
   clear hB
   go_wp2_with fail
   refine(HB1.out).mono ?_
   rintro e W5 ⟨rfl,hb⟩
   have hG:=Lib.hid ((hF.out.call hb).al W5.heap.size #[.slice none 0 0,.bool false,.slice none 0 0] 42 rfl)
   clear hb hF HB1
   go_upto_region 6 with fail
   refine wp_geny hG.out ?_
   intro V6 hc
   have hH:=Lib.hid hc
   clear hc hG
   go_wp2_with fail
   refine(HW.out _).mono ?_
   rintro e WZ ⟨rfl,hb⟩
   have hZ:=Lib.hid (hH.out.call hb)
   clear hb
   go_wp2
   go_ret
   exact⟨rfl,hZ.out.be⟩
 | some c=>
   obtain ⟨q,B⟩:=c
   rw [hB]at HB1
   obtain ⟨t,ht1,ht2,hch⟩:=best_chn hB
   dsimp only at hch
   have HCH:=Lib.hid hch
   have HLE:=Lib.hid (fun bs' q' t' (h:Chn l a u least depth t' n bs' q') (h0:1≤t') (h1:t'≤mo)=>show q≤q' from by
    obtain ⟨d,hd,hle⟩:=best_least h h0 mo h1
    rw [hB]at hd;cases hd;exact hle)
   obtain ⟨cm,hcm,hqm⟩:=best_least hch ht1 (mo+1) (by omega)
   obtain ⟨cs,hcs,hqs⟩:=best_least (hch.weak (least':=max 1 (least / 2)) (by omega)) ht1 mo ht2
   have hchm:∃t',1≤t'∧t'≤mo+1∧Chn l a u least depth t' n cm.2 cm.1:=best_chn hcm
   have hchs:∃t',1≤t'∧t'≤mo∧Chn l a u (max 1 (least / 2)) depth t' n cs.2 cs.1:=best_chn hcs
   have BQ1:=Lib.hid (HQB.out _ _ _ _ hch (by omega))
   have BQ2:=Lib.hid (show Bq 17800 cm.1 from by obtain ⟨t',_,h2,h3⟩:=hchm;exact HQB.out _ _ _ _ h3 (by omega))
   have BQ3:=Lib.hid (show Bq 17800 cs.1 from by obtain ⟨t',_,h2,h3⟩:=hchs;exact HQB.out _ _ _ _ h3 (by omega))
   have hbl:=hch.len
   have hb0:=(chn_B0 hch).1
   have hbe:=(chn_B0 hch).2
   rw [←HBN.out]at hbe
   have HSTP:=Lib.hid hch.steps
   have HBK:=Lib.hid (hch.brk hu1.1 HTN.out (Nat.le_refl n) (by omega) (by omega) HPB.out)
   have HCO:=Lib.hid hch.cost
   have HMEM:=Lib.hid (hch.mem hu1.1).1
   have HQM:=Lib.hid (cmp_le hqm)
   have HQS:=Lib.hid (cmp_le hqs)
   clear hB hch hchm hchs hqm hqs
   go_wp2_with fail
   refine(HB1.out).mono ?_
   rintro e W ⟨a20,n20,c20,m20,d20,e20,f20,a19,n19,c19,rfl,hz,hr,hb⟩
   have hY:=Lib.hid ((hF.out.adopt hb hr).pR rfl rfl hz)
   clear hb hz hr hF HB1
   go_upto_region 6 with fail
   have hX:=Lib.hid (show Sy w _ [(W.heap.size,#[.slice a20 n20 c20,.bool m20,.slice d20 e20 f20],42)] [⟨.slice a3 l.length c3,83,2,l.length,L2 l⟩,⟨.slice a19 n19 c19,3,1,n19,L1 B⟩] [(fun V=>Rd V (.slice a20 n20 c20) m20 (.slice d20 e20 f20) (q))]from hY.out.al W.heap.size #[.slice a20 n20 c20,.bool m20,.slice d20 e20 f20] 42 rfl)
   obtain ⟨b20,eb20⟩:∃b,W.heap.size=b:=⟨_,rfl⟩
   rw [eb20]at hX⊢
   refine wp_geny hX.out ?_
   intro WN1 hc
   have hN1:=Lib.hid hc
   clear hc hX eb20 hY
   have hbn':n19=B.length:=by have:=(hN1.out.orow 1 rfl).1;rw [L1_len]at this;omega
   subst hbn'
   have hB2:2≤B.length∧B.length≤mo+1:=by omega
   obtain ⟨g19,rfl,-⟩:=hN1.out.oaddr 1 rfl (by omega)
   have k0:WN1.cell? ⟨g19,0,none⟩=some (.int .i64 a):=hN1.out.rcell 1 rfl (by rw [←hb0,bX_at (by omega)];exact L1_get B 0 (by omega))
   have k1:WN1.cell? ⟨g19,B.length - 1,none⟩=some (.int .i64 b):=hN1.out.rcell 1 rfl (by rw [←hbe,bX_at (by omega)];exact L1_get B _ (by omega))
   obtain ⟨m1,hm1'⟩:∃m1:Nat,m1=B.length - 1:=⟨_,rfl⟩
   rw [←hm1']at k1
   have i1:IntKind.i64.wrap ((B.length:Int) - 1)=(m1:Int):=by rw [IntWalk.i64_in _ (by omega)];omega
   have i2:(0:Int)≤(m1:Int):=by omega
   have i3:(m1:Int) < (B.length:Int):=by omega
   have i4:(0:Int) < (B.length:Int):=by omega
   have i5:IntKind.i64.wrap ((mo:Int)+1)=((mo+1:Nat):Int):=by rw [IntWalk.i64_in _ (by omega)];omega
   have i6:¬ (B.length:Int) < 2:=by omega
   have i7:¬ ((mo+1:Nat):Int) < (B.length:Int):=by omega
   clear hbl hm1' hb0 hbe
   go_upto_region 10 with fail
   clear k0 k1 i1 i2 i3 i4 i6 i7
   go_wp2
   go_loopw [22] (fun iv wr=>∃k:Nat,1≤k∧k≤B.length∧iv= .int .i64 k∧Hid (Sy w wr [(b20,#[.slice a20 n20 c20,.bool m20,.slice d20 e20 f20],42)] [⟨.slice a3 l.length c3,83,2,l.length,L2 l⟩,⟨.slice (some ⟨g19,0,none⟩) B.length c19,3,1,B.length,L1 B⟩] [(fun V=>Rd V (.slice a20 n20 c20) m20 (.slice d20 e20 f20) (q))])) (fun iv _=>B.length - (intOf iv).toNat)
   case atStart=>exact⟨1,Nat.le_refl _,by omega,rfl,hN1⟩
   case round=>
    clear hN1
    obtain ⟨k,hk1,hkl,rfl,hS⟩:=hrel
    by_cases hlt:k < B.length
    ·obtain ⟨j,rfl⟩:∃j,k=j+1:=⟨k - 1,by omega⟩
     have hst:=HSTP.out.1 j hlt
     obtain ⟨i,hi⟩:=HSTP.out.2 (j+1) hlt
     have hm:=HMEM.out _ (List.getElem_mem hlt)
     have hm':=HMEM.out _ (List.getElem_mem (show j < B.length by omega))
     rw [←bX_at]at hm hm'
     rw [←HBN.out]at hm hm'
     have c0:=hS.out.rcell 1 rfl (show(L1 B)[j+1]? =some (.int .i64 (bX B (j+1)))from by rw [bX_at hlt];exact L1_get B _ hlt)
     have c1:=hS.out.rcell 1 rfl (show(L1 B)[j]? =some (.int .i64 (bX B j))from by rw [bX_at (show j < B.length by omega)];exact L1_get B _ (by omega))
     have hmod:(bX B (j+1) - a) % u=0:=by rw [hi];unfold atC;rw [show a+(i:Int)*u - a=(i:Int)*u by omega,Int.mul_emod_left]
     clear hi
     generalize bX B (j+1)=x at*
     generalize bX B j=y at*
     obtain ⟨k,hk⟩:∃k,k=j+1:=⟨_,rfl⟩
     rw [←hk]at c0 hlt⊢
     have HK:=Lib.hid hk
     have j0:(0:Int)≤(k:Int):=by omega
     have j1:(k:Int) < (B.length:Int):=by omega
     have j2:IntKind.i64.wrap ((k:Int) - 1)=(j:Int):=by rw [IntWalk.i64_in _ (by omega)];omega
     have j3:(0:Int)≤(j:Int):=by omega
     have j4:(j:Int) < (B.length:Int):=by omega
     have j5:IntKind.i64.wrap (x - y)=x - y:=IntWalk.i64_in _ (by omega)
     have j6:IntKind.i64.wrap (x - a)=x - a:=IntWalk.i64_in _ (by omega)
     have j7:=decide_eq_false (show ¬ x - y < least by omega)
     have j8:0≤x - a:=by omega
     clear hk hk1 hkl
     go_upto_region 13 with fail
     go_quiet (fail)
     have hU:=Lib.hid (hS.out.call (below_dN (Below.refl _ _) nq))
     go_wp2
     go_roundw
     case rel=>exact⟨k+1,by omega,by omega,by go_num,hU⟩
     case measure=>simp [intOf];omega
    ·obtain rfl:B.length=k:=by omega
     go_upto_region 15 with fail
     go_wp2_with fail
     refine(HCP.out _ _ _ (hS.out.osx 0 rfl) _ _ _ (hS.out.osx 1 rfl) HBK.out).mono ?_
     rintro e W ⟨a23,n23,c23,m23,d23,e23,f23,rfl,hz,hb⟩
     rw [←HCO.out]at hz
     have hY:=Lib.hid ((hS.out.call hb).pR rfl rfl hz)
     clear hb hz hS
     go_upto_region 16 with fail
     have hX:=Lib.hid (show Sy w _ [(b20,#[.slice a20 n20 c20,.bool m20,.slice d20 e20 f20],42),(W.heap.size,#[.slice a23 n23 c23,.bool m23,.slice d23 e23 f23],42)] [⟨.slice a3 l.length c3,83,2,l.length,L2 l⟩,⟨.slice (some ⟨g19,0,none⟩) B.length c19,3,1,B.length,L1 B⟩] [(fun V=>Rd V (.slice a20 n20 c20) m20 (.slice d20 e20 f20) (q)),(fun V=>Rd V (.slice a23 n23 c23) m23 (.slice d23 e23 f23) (q))]from hY.out.al W.heap.size #[.slice a23 n23 c23,.bool m23,.slice d23 e23 f23] 42 rfl)
     obtain ⟨b23,eb23⟩:∃b,W.heap.size=b:=⟨_,rfl⟩
     rw [eb23]at hX⊢
     refine wp_geny hX.out ?_
     intro WN101 hc
     have hN101:=Lib.hid hc
     clear hc hX eb23 hY
     have HB2:=Lib.hid (HCB.out _ _ _ (hN101.out.osx 0 rfl) least (mo+1) h1' (by omega))
     rw [hcm]at HB2
     go_wp2_with fail
     refine(HB2.out).mono ?_
     rintro e W ⟨a26,n26,c26,m26,d26,e26,f26,a25,n25,c25,rfl,hz,hr,hb⟩
     have hY:=Lib.hid ((hN101.out.adopt hb hr).pR rfl rfl hz)
     clear hb hz hr HB2 hN101
     go_upto_region 17 with fail
     have hX:=Lib.hid (show Sy w _ [(b20,#[.slice a20 n20 c20,.bool m20,.slice d20 e20 f20],42),(b23,#[.slice a23 n23 c23,.bool m23,.slice d23 e23 f23],42),(W.heap.size,#[.slice a26 n26 c26,.bool m26,.slice d26 e26 f26],42)] [⟨.slice a3 l.length c3,83,2,l.length,L2 l⟩,⟨.slice (some ⟨g19,0,none⟩) B.length c19,3,1,B.length,L1 B⟩,⟨.slice a25 n25 c25,3,1,n25,L1 cm.2⟩] [(fun V=>Rd V (.slice a20 n20 c20) m20 (.slice d20 e20 f20) (q)),(fun V=>Rd V (.slice a23 n23 c23) m23 (.slice d23 e23 f23) (q)),(fun V=>Rd V (.slice a26 n26 c26) m26 (.slice d26 e26 f26) (cm.1))]from hY.out.al W.heap.size #[.slice a26 n26 c26,.bool m26,.slice d26 e26 f26] 42 rfl)
     obtain ⟨b26,eb26⟩:∃b,W.heap.size=b:=⟨_,rfl⟩
     rw [eb26]at hX⊢
     refine wp_geny hX.out ?_
     intro WN102 hc
     have hN102:=Lib.hid hc
     clear hc hX eb26 hY
     have HB3:=Lib.hid (HCB.out _ _ _ (hN102.out.osx 0 rfl) (max 1 (least / 2)) mo (by omega) (by omega))
     rw [hcs]at HB3
     have y1:IntKind.i64.wrap (least / 2)=least / 2:=IntWalk.i64_in _ (by omega)
     go_wp2_with fail
     refine(HB3.out).mono ?_
     rintro e W ⟨a29,n29,c29,m29,d29,e29,f29,a28,n28,c28,rfl,hz,hr,hb⟩
     have hY:=Lib.hid ((hN102.out.adopt hb hr).pR rfl rfl hz)
     clear hb hz hr HB3 hN102
     go_upto_region 18 with fail
     have hX:=Lib.hid (show Sy w _ [(b20,#[.slice a20 n20 c20,.bool m20,.slice d20 e20 f20],42),(b23,#[.slice a23 n23 c23,.bool m23,.slice d23 e23 f23],42),(b26,#[.slice a26 n26 c26,.bool m26,.slice d26 e26 f26],42),(W.heap.size,#[.slice a29 n29 c29,.bool m29,.slice d29 e29 f29],42)] [⟨.slice a3 l.length c3,83,2,l.length,L2 l⟩,⟨.slice (some ⟨g19,0,none⟩) B.length c19,3,1,B.length,L1 B⟩,⟨.slice a25 n25 c25,3,1,n25,L1 cm.2⟩,⟨.slice a28 n28 c28,3,1,n28,L1 cs.2⟩] [(fun V=>Rd V (.slice a20 n20 c20) m20 (.slice d20 e20 f20) (q)),(fun V=>Rd V (.slice a23 n23 c23) m23 (.slice d23 e23 f23) (q)),(fun V=>Rd V (.slice a26 n26 c26) m26 (.slice d26 e26 f26) (cm.1)),(fun V=>Rd V (.slice a29 n29 c29) m29 (.slice d29 e29 f29) (cs.1))]from hY.out.al W.heap.size #[.slice a29 n29 c29,.bool m29,.slice d29 e29 f29] 42 rfl)
     obtain ⟨b29,eb29⟩:∃b,W.heap.size=b:=⟨_,rfl⟩
     rw [eb29]at hX⊢
     refine wp_geny hX.out ?_
     intro WN103 hc
     have hN103:=Lib.hid hc
     clear hc hX eb29 hY
     have EV0:=Lib.hid (show cmpQ q q=0 from cmpQ_of_eq rfl)
     obtain ⟨v1,ev1⟩:∃v,cmpQ cm.1 q=v:=⟨_,rfl⟩
     have hv1:¬ 0 < v1:=by have:=HQM.out;omega
     have EV1:=Lib.hid ev1
     obtain ⟨v2,ev2⟩:∃v,cmpQ cs.1 q=v:=⟨_,rfl⟩
     have hv2:¬ 0 < v2:=by have:=HQS.out;omega
     have EV2:=Lib.hid ev2
     clear ev1 ev2
     have k1_0:WN103.cell? ⟨b23,0,none⟩=some (.slice a23 n23 c23):=hN103.out.cell 1 0 rfl rfl
     have k1_1:WN103.cell? ⟨b23,1,none⟩=some (.bool m23):=hN103.out.cell 1 1 rfl rfl
     have k1_2:WN103.cell? ⟨b23,2,none⟩=some (.slice d23 e23 f23):=hN103.out.cell 1 2 rfl rfl
     have k0_0:WN103.cell? ⟨b20,0,none⟩=some (.slice a20 n20 c20):=hN103.out.cell 0 0 rfl rfl
     have k0_1:WN103.cell? ⟨b20,1,none⟩=some (.bool m20):=hN103.out.cell 0 1 rfl rfl
     have k0_2:WN103.cell? ⟨b20,2,none⟩=some (.slice d20 e20 f20):=hN103.out.cell 0 2 rfl rfl
     go_wp2_with fail
     refine(hcmp_is (hN103.out.r 1 rfl) (hN103.out.r 0 rfl) BQ1.out BQ1.out (by omega) (by omega) EV0.out).mono ?_
     rintro e WN104 ⟨rfl,hb⟩
     have hN104:=Lib.hid (hN103.out.call hb)
     clear hb hN103 k0_0 k0_1 k0_2 k1_0 k1_1 k1_2
     have k2_0:WN104.cell? ⟨b26,0,none⟩=some (.slice a26 n26 c26):=hN104.out.cell 2 0 rfl rfl
     have k2_1:WN104.cell? ⟨b26,1,none⟩=some (.bool m26):=hN104.out.cell 2 1 rfl rfl
     have k2_2:WN104.cell? ⟨b26,2,none⟩=some (.slice d26 e26 f26):=hN104.out.cell 2 2 rfl rfl
     have k0_0:WN104.cell? ⟨b20,0,none⟩=some (.slice a20 n20 c20):=hN104.out.cell 0 0 rfl rfl
     have k0_1:WN104.cell? ⟨b20,1,none⟩=some (.bool m20):=hN104.out.cell 0 1 rfl rfl
     have k0_2:WN104.cell? ⟨b20,2,none⟩=some (.slice d20 e20 f20):=hN104.out.cell 0 2 rfl rfl
     go_wp2_with fail
     refine(hcmp_is (hN104.out.r 2 rfl) (hN104.out.r 0 rfl) BQ2.out BQ1.out (by omega) (by omega) EV1.out).mono ?_
     rintro e WN105 ⟨rfl,hb⟩
     have hN105:=Lib.hid (hN104.out.call hb)
     clear hb hN104 k0_0 k0_1 k0_2 k2_0 k2_1 k2_2
     have k3_0:WN105.cell? ⟨b29,0,none⟩=some (.slice a29 n29 c29):=hN105.out.cell 3 0 rfl rfl
     have k3_1:WN105.cell? ⟨b29,1,none⟩=some (.bool m29):=hN105.out.cell 3 1 rfl rfl
     have k3_2:WN105.cell? ⟨b29,2,none⟩=some (.slice d29 e29 f29):=hN105.out.cell 3 2 rfl rfl
     have k0_0:WN105.cell? ⟨b20,0,none⟩=some (.slice a20 n20 c20):=hN105.out.cell 0 0 rfl rfl
     have k0_1:WN105.cell? ⟨b20,1,none⟩=some (.bool m20):=hN105.out.cell 0 1 rfl rfl
     have k0_2:WN105.cell? ⟨b20,2,none⟩=some (.slice d20 e20 f20):=hN105.out.cell 0 2 rfl rfl
     go_wp2_with fail
     refine(hcmp_is (hN105.out.r 3 rfl) (hN105.out.r 0 rfl) BQ3.out BQ1.out (by omega) (by omega) EV2.out).mono ?_
     rintro e WN106 ⟨rfl,hb⟩
     have hN106:=Lib.hid (hN105.out.call hb)
     clear hb hN105 k0_0 k0_1 k0_2 k3_0 k3_1 k3_2
     go_upto_region 20 with fail
     have hX:=Lib.hid ((hN106.out.thin (bs':=[(b20,#[.slice a20 n20 c20,.bool m20,.slice d20 e20 f20],42)]) (os':=[⟨.slice a3 l.length c3,83,2,l.length,L2 l⟩]) (List.sublist_append_left [_] _) (List.sublist_append_left [_] _)).pick [0] (rs':=[(fun V=>Rd V (.slice a20 n20 c20) m20 (.slice d20 e20 f20) (q))]) rfl)
     clear hN106
     have HBR2:=Lib.hid (HBR.out _ hX.out.be HPB.out)
     clear HBR EV0 EV1 EV2 hv1 hv2 HSTP HMEM HBK HCO
     cases hk:brkB l bs
     ·rw [hk]at HBR2
      go_wp2_with fail
      refine HBR2.out.mono ?_
      rintro e W8 ⟨rfl,hb⟩
      have hE:=Lib.hid (hX.out.call hb)
      clear hb hX
      go_wp2_with fail
      refine(HW.out _).mono ?_
      rintro e WZ ⟨rfl,hb⟩
      have hZ:=Lib.hid (hE.out.call hb)
      clear hb
      go_wp2
      go_ret
      exact⟨rfl,hZ.out.be⟩
     rw [hk]at HBR2
     have hbr:=(brk_ok hk).2.1
     have hup:=(brk_ok hk).2.2.1
     have HIN:=Lib.hid (fun i (h:i < bs.length)=>brk_in hk h)
     have HKB:=Lib.hid hk
     clear hk
     obtain ⟨gb,ob,hga⟩:=(HBS.out w (Below.refl _ _)).addr (by omega)
     subst hga
     go_wp2_with fail
     refine HBR2.out.mono ?_
     rintro e W8 ⟨rfl,hb⟩
     have hE:=Lib.hid (hX.out.call hb)
     clear hb hX HBR2
     by_cases hl2:((mo+1:Nat):Int) < (bs.length:Int)
     ·go_wp2_with fail
      go_wp2_with fail
      refine(HW.out _).mono ?_
      rintro e WZ ⟨rfl,hb⟩
      have hZ:=Lib.hid (hE.out.call hb)
      clear hb
      go_wp2
      go_ret
      exact⟨rfl,hZ.out.be⟩
     have x0:=(HBS.out _ hE.out.be).atX (show 0 < bs.length by omega)
     rw [Nat.add_zero]at x0
     have e4:(0:Int) < (bs.length:Int):=by omega
     obtain ⟨m2,hm2⟩:∃m2:Nat,m2=bs.length - 1:=⟨_,rfl⟩
     have x1:=(HBS.out _ hE.out.be).atX (show m2 < bs.length by omega)
     have e1:IntKind.i64.wrap ((bs.length:Int) - 1)=(m2:Int):=by rw [IntWalk.i64_in _ (by omega)];omega
     have e2:(0:Int)≤(m2:Int):=by omega
     have e3:(m2:Int) < (bs.length:Int):=by omega
     have HM2:=Lib.hid hm2
     have HUP:=Lib.hid hup
     clear hm2 hup
     obtain ⟨x,hx⟩:∃x,bX bs 0=x:=⟨_,rfl⟩
     rw [hx]at x0
     have HX0:=Lib.hid hx
     obtain ⟨y,hy⟩:∃x,bX bs m2=x:=⟨_,rfl⟩
     rw [hy]at x1
     have HY0:=Lib.hid hy
     clear hx hy
     by_cases hxa:x=a
     rotate_left
     ·go_wp2_with fail
      go_wp2_with fail
      refine(HW.out _).mono ?_
      rintro e WZ ⟨rfl,hb⟩
      have hZ:=Lib.hid (hE.out.call hb)
      clear hb
      go_wp2
      go_ret
      exact⟨rfl,hZ.out.be⟩
     subst hxa
     by_cases hyb:y=b
     rotate_left
     ·have hne:(y !=b)=true:=bne_iff_ne.2 hyb
      go_wp2_with fail
      go_wp2_with fail
      refine(HW.out _).mono ?_
      rintro e WZ ⟨rfl,hb⟩
      have hZ:=Lib.hid (hE.out.call hb)
      clear hb
      go_wp2
      go_ret
      exact⟨rfl,hZ.out.be⟩
     subst hyb
     go_upto_region 22 with fail
     clear x0 x1 e1 e2 e3 e4
     go_wp2
     go_loopw [31] (fun iv wr=>∃k:Nat,1≤k∧k≤bs.length∧iv= .int .i64 k∧Hid (∀i,i+1 < k→least≤bX bs (i+1) - bX bs i∧(bX bs (i+1) - x) % u=0)∧Hid (Sy w wr [(b20,#[.slice a20 n20 c20,.bool m20,.slice d20 e20 f20],42)] [⟨.slice a3 l.length c3,83,2,l.length,L2 l⟩] [(fun V=>Rd V (.slice a20 n20 c20) m20 (.slice d20 e20 f20) (q))])) (fun iv _=>bs.length - (intOf iv).toNat)
     case atStart=>exact⟨1,Nat.le_refl _,by omega,rfl,Lib.hid (fun i hi=>absurd hi (by omega)),hE⟩
     case round=>
      clear hE
      obtain ⟨k,hk1,hkl,rfl,HI,hS⟩:=hrel
      by_cases hlt:k < bs.length
      ·obtain ⟨j,rfl⟩:∃j,k=j+1:=⟨k - 1,by omega⟩
       have hge:=br_le0 HUP.out (show j+1 < bs.length from hlt)
       rw [HX0.out]at hge
       have hi1:=HIN.out _ hlt
       have hi2:=HIN.out j (by omega)
       have x0:=(HBS.out _ hS.out.be).atX hlt
       have x1:=(HBS.out _ hS.out.be).atX (show j < bs.length by omega)
       have HNX:=Lib.hid (show least≤bX bs (j+1) - bX bs j→(bX bs (j+1) - x) % u=0→∀i,i+1 < j+1+1→least≤bX bs (i+1) - bX bs i∧(bX bs (i+1) - x) % u=0 from fun h1 h2 i hi=>by
        rcases Nat.lt_or_ge (i+1) (j+1)with h | h
        ·exact HI.out i h
        ·obtain rfl:i=j:=by omega
         exact⟨h1,h2⟩)
       clear HI
       generalize bX bs (j+1)=p at*
       generalize bX bs j=r at*
       obtain ⟨k,hk⟩:∃k,k=j+1:=⟨_,rfl⟩
       rw [←hk]at x0 hlt HNX⊢
       have HK:=Lib.hid hk
       have j0:(0:Int)≤(k:Int):=by omega
       have j1:(k:Int) < (bs.length:Int):=by omega
       have j2:IntKind.i64.wrap ((k:Int) - 1)=(j:Int):=by rw [IntWalk.i64_in _ (by omega)];omega
       have j3:(0:Int)≤(j:Int):=by omega
       have j4:(j:Int) < (bs.length:Int):=by omega
       have j5:IntKind.i64.wrap (p - r)=p - r:=IntWalk.i64_in _ (by omega)
       have j6:IntKind.i64.wrap (p - x)=p - x:=IntWalk.i64_in _ (by omega)
       have j8:0≤p - x:=by omega
       clear hk hk1 hkl
       go_upto_region 25 with fail
       by_cases c1:p - r < least
       ·have j7:=decide_eq_true c1
        go_quiet (fail)
        have hU:=Lib.hid (hS.out.call (below_dN (Below.refl _ _) nq))
        go_wp2_with fail
        go_wp2_with fail
        refine(HW.out _).mono ?_
        rintro e WZ ⟨rfl,hb⟩
        have hZ:=Lib.hid (hU.out.call hb)
        clear hb
        go_wp2
        go_ret
        exact⟨rfl,hZ.out.be⟩
       have j7:=decide_eq_false c1
       by_cases c2:(p - x) % u=0
       rotate_left
       ·have j9:=decide_eq_false c2
        go_quiet (fail)
        have hU:=Lib.hid (hS.out.call (below_dN (Below.refl _ _) nq))
        go_wp2_with fail
        go_wp2_with fail
        refine(HW.out _).mono ?_
        rintro e WZ ⟨rfl,hb⟩
        have hZ:=Lib.hid (hU.out.call hb)
        clear hb
        go_wp2
        go_ret
        exact⟨rfl,hZ.out.be⟩
       have HNX2:=Lib.hid (HNX.out (by omega) c2)
       go_quiet (fail)
       have hU:=Lib.hid (hS.out.call (below_dN (Below.refl _ _) nq))
       go_wp2
       go_roundw
       case rel=>exact⟨k+1,by omega,by omega,by go_num,HNX2,hU⟩
       case measure=>simp [intOf];omega
      ·obtain rfl:bs.length=k:=by omega
       have HF:=Lib.hid (show ∃q',Chn l x u least depth (bs.length - 1) n bs q' from by
        obtain ⟨j,hj,q',hc⟩:=chn_of (l:=l) (a:=x) (unit:=u) (least:=least) (depth:=depth) hu1.1 h1'.1 bs (by omega) HX0.out (fun i hi=>(HI.out i hi).1) (fun i hi=>by
         rcases Nat.eq_zero_or_pos i with e | e
         ·subst e;rw [HX0.out,Int.sub_self,Int.zero_emod]
         ·obtain ⟨i,rfl⟩:∃i',i=i'+1:=⟨i - 1,by omega⟩
          exact(HI.out i hi).2)
        rw [←HM2.out,HY0.out,HBN.out]at hj
        have:=atC_inj hu1.1 hj
        subst this
        exact⟨q',hc⟩)
       obtain ⟨q2,hc2⟩:=HF.out
       have HQ2:=Lib.hid (HLE.out _ _ _ hc2 (by omega) (by omega))
       have HC2:=Lib.hid hc2.cost
       have BQ4:=Lib.hid (HQB.out _ _ _ _ hc2 (by omega))
       clear hc2 HF HI
       go_wp2_with fail
       refine(HCP.out _ _ _ (hS.out.osx 0 rfl) _ _ _ (HBS.out _ hS.out.be) HKB.out).mono ?_
       rintro e W ⟨a32,n32,c32,m32,d32,e32,f32,rfl,hz,hb⟩
       rw [←HC2.out]at hz
       have hY:=Lib.hid ((hS.out.call hb).pR rfl rfl hz)
       clear hb hz hS
       go_upto_region 28 with fail
       have hX:=Lib.hid (show Sy w _ [(b20,#[.slice a20 n20 c20,.bool m20,.slice d20 e20 f20],42),(W.heap.size,#[.slice a32 n32 c32,.bool m32,.slice d32 e32 f32],42)] [⟨.slice a3 l.length c3,83,2,l.length,L2 l⟩] [(fun V=>Rd V (.slice a20 n20 c20) m20 (.slice d20 e20 f20) (q)),(fun V=>Rd V (.slice a32 n32 c32) m32 (.slice d32 e32 f32) (q2))]from hY.out.al W.heap.size #[.slice a32 n32 c32,.bool m32,.slice d32 e32 f32] 42 rfl)
       obtain ⟨b32,eb32⟩:∃b,W.heap.size=b:=⟨_,rfl⟩
       rw [eb32]at hX⊢
       refine wp_geny hX.out ?_
       intro WN107 hc
       have hN107:=Lib.hid hc
       clear hc hX eb32 hY
       obtain ⟨v3,ev3⟩:∃v,cmpQ q2 q=v:=⟨_,rfl⟩
       have hv3:0≤v3:=by rw [←ev3];exact cmpQ_ge.2 HQ2.out
       have EV3:=Lib.hid ev3
       clear ev3
       have k1_0:WN107.cell? ⟨b32,0,none⟩=some (.slice a32 n32 c32):=hN107.out.cell 1 0 rfl rfl
       have k1_1:WN107.cell? ⟨b32,1,none⟩=some (.bool m32):=hN107.out.cell 1 1 rfl rfl
       have k1_2:WN107.cell? ⟨b32,2,none⟩=some (.slice d32 e32 f32):=hN107.out.cell 1 2 rfl rfl
       have k0_0:WN107.cell? ⟨b20,0,none⟩=some (.slice a20 n20 c20):=hN107.out.cell 0 0 rfl rfl
       have k0_1:WN107.cell? ⟨b20,1,none⟩=some (.bool m20):=hN107.out.cell 0 1 rfl rfl
       have k0_2:WN107.cell? ⟨b20,2,none⟩=some (.slice d20 e20 f20):=hN107.out.cell 0 2 rfl rfl
       go_wp2_with fail
       refine(hcmp_is (hN107.out.r 1 rfl) (hN107.out.r 0 rfl) BQ4.out BQ1.out (by omega) (by omega) EV3.out).mono ?_
       rintro e WN108 ⟨rfl,hb⟩
       have hN108:=Lib.hid (hN107.out.call hb)
       clear hb hN107 k0_0 k0_1 k0_2 k1_0 k1_1 k1_2
       go_wp2_with fail
       refine(HW.out _).mono ?_
       rintro e WZ ⟨rfl,hb⟩
       have hZ:=Lib.hid (hN108.out.call hb)
       clear hb
       go_wp2
       go_ret
       exact⟨rfl,hZ.out.be⟩
end
end Go.Proofs.YthmdhlopeponcaaGreatDoor
