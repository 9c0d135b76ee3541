/- the reference's Ground -/
import Derived.Test.YthmdhlopeponcaaGreatDoorX1
import Derived.Test.YthmdhlopeponcaaGreatDoorX45
import Derived.Test.YthmdhlopeponcaaGreatDoorX0
import Derived.Test.YthmdhlopeponcaaGreatDoorX22
set_option maxRecDepth 100000
set_option maxHeartbeats 8000000
namespace Go.Proofs.YthmdhlopeponcaaGreatDoor
open Go.RowKit Go.Shelf Dig
section
variable (w:World)
theorem rGround_any (a:Option Addr) (n c:Nat) (l:List Pt) (x:Int) (hs:Sx 2 w a n c (L2 l)) (hP:Prof l) (h1:hX l 0≤x) (h2:x≤hX l (l.length - 1)):
  Calls Tryz.prog 54 #[.slice a n c,.int .i64 x] w (RetNQ w (grd l x)):=by
 obtain rfl:=hs.n2
 have htwo:=hP.two
 have hforty:=hP.forty
 obtain ⟨g0,o0,rfl⟩:=hs.addr (by omega)
 have HS:=ζ (fun W (hW:Below w.heap.size w W)=>hs.below hW)
 obtain ⟨hin1,hin2,hin3⟩:=hP.sg_in h1 h2
 have HSG:=ζ (show ∀k,k < sg l x→hX l (k+1) < x from fun k hk=>(hP.sg x).2.1 k hk)
 have HG:=ζ (show grd l x=grdI l (sg l x) x from rfl)
 have HP:=ζ hP
 rw [HG.out]
 generalize sg l x=s at*
 have HIN:=ζ (show hX l s≤x∧x≤hX l (s+1)from⟨hin2,hin3⟩)
 have hs1:s+1 < l.length:=hin1
 have HX2:=ζ (show -100000≤x∧x≤100000 from by
  have q1:=hP.bx (i:=0) (by omega)
  have q2:=hP.bx (i:=l.length - 1) (by omega)
  omega)
 clear hs hP h1 h2 hin1 hin2 hin3 HG
 have hC:=ζ ((Sy.enter w).al w.heap.size #[.int .i64 0,.slice none 0 0,.int .i64 0,.slice none 0 0] 50 rfl)
 go_enter Tryz.func54,Tryz.ntmps54
 go_upto_region 1 with fail
 obtain ⟨b4,hb4⟩:∃b,w.heap.size=b:=⟨_,rfl⟩
 have HB4:=ζ hb4
 rw [hb4]at hC⊢
 clear hb4
 refine wp_geny hC.out ?_
 intro V1 hc
 have hC1:=ζ hc
 clear hc hC
 go_wp2
 go_loopw [5] (fun iv wr=>∃k:Nat,k≤s∧iv= .int .i64 k∧Hid (Sy w wr [(b4,#[.int .i64 0,.slice none 0 0,.int .i64 0,.slice none 0 0],50)] [] [])) (fun iv _=>l.length - (intOf iv).toNat)
 case atStart=>exact⟨0,Nat.zero_le _,rfl,hC1⟩
 case round=>
  clear hC1
  obtain ⟨k,hk,rfl,hS⟩:=hrel
  have hk1:k+1 < l.length:=by omega
  have e1:=hX_at (l:=l) (i:=k) (by omega)
  have e2:=hX_at (l:=l) (i:=k+1) hk1
  have e3:=hZ_at (l:=l) (i:=k) (by omega)
  have e4:=hZ_at (l:=l) (i:=k+1) hk1
  have HA:=ζ (fun W (hW:Below w.heap.size w W)=>(HS.out W hW).at2 (show k < l.length by omega))
  have HB:=ζ (fun W (hW:Below w.heap.size w W)=>(HS.out W hW).at2 hk1)
  have q1:=HP.out.bx (i:=k) (by omega)
  have q2:=HP.out.bx (i:=k+1) hk1
  have q3:=HP.out.bz (i:=k) (by omega)
  have q4:=HP.out.bz (i:=k+1) hk1
  have hu:=HP.out.up k hk1
  have HLT:=ζ (show k < s→hX l (k+1) < x from HSG.out k)
  have HGI:=ζ (show grdI l k x=((hZ l k:Int):Rat)+((hZ l (k+1) - hZ l k:Int):Rat)*((x - hX l k:Int):Rat) / ((hX l (k+1) - hX l k:Int):Rat)from rfl)
  have HKI:=ζ (show k=s→hX l k≤x∧x≤hX l (k+1)from fun h=>by rw [h];exact HIN.out)
  rw [e1]at q1 hu HGI HKI
  rw [e2]at q2 hu HLT HGI HKI
  rw [e3]at q3 HGI
  rw [e4]at q4 HGI
  clear e1 e2 e3 e4
  generalize l[k]=p at*
  generalize l[k+1]=q at*
  obtain ⟨p0,p1⟩:=p
  obtain ⟨r0,r1⟩:=q
  dsimp only [Pt.x,Pt.z]at*
  obtain ⟨t,ht⟩:∃t:Nat,t=k+1:=⟨_,rfl⟩
  rw [←ht]at HB
  have hx:=HX2.out
  have i1:IntKind.i64.wrap ((k:Int)+1)=(t:Int):=by rw [IntWalk.i64_in _ (by omega)];omega
  have j0:(0:Int)≤(k:Int):=by omega
  have j1:(k:Int) < (l.length:Int):=by omega
  have j2:(0:Int)≤(t:Int):=by omega
  have j3:(t:Int) < (l.length:Int):=by omega
  have HT:=ζ ht
  clear ht
  go_upto_region 4 with fail
  go_cut [6,7] (fun s6 s7 wx=>∃b6 b7:Nat,s6= .pointer (some ⟨b6,0,none⟩)∧s7= .pointer (some ⟨b7,0,none⟩)∧Hid (Sy w wx [(b4,#[.int .i64 0,.slice none 0 0,.int .i64 0,.slice none 0 0],50),(b6,#[.int .i64 p0,.int .i64 p1],90),(b7,#[.int .i64 r0,.int .i64 r1],90)] [] []))
  case first=>
   refine wp_region_noPanic ?_
   refine wp_region_held_drew (S:=(fun w'=>w'.cell? ⟨g0,o0+k*2,none⟩=some (.int .i64 p0)∧w'.cell? ⟨g0,o0+k*2+1,none⟩=some (.int .i64 p1)∧w'.cell? ⟨g0,o0+t*2,none⟩=some (.int .i64 r0)∧w'.cell? ⟨g0,o0+t*2+1,none⟩=some (.int .i64 r1)∧True)) (by kernel_rfl) ⟨(HA.out _ hS.out.drew.be).1,(HA.out _ hS.out.drew.be).2,(HB.out _ hS.out.drew.be).1,(HB.out _ hS.out.drew.be).2,trivial⟩ (fun hH=>?_)
   refine wpAnyH_geny (show Sy w _ [(b4,#[.int .i64 0,.slice none 0 0,.int .i64 0,.slice none 0 0],50)] [] []from hS.out.drew) hH ?_
   intro VA_0 hc hHA_0
   have hVA_0:=ζ hc
   clear hc hH hS
   refine tkA 0 rfl hHA_0 ?_
   try simp only [Act.put,zI,z0,zS]
   refine tkA 1 rfl hHA_0 ?_
   try simp only [Act.put,zI,z0,zS]
   refine tkA 2 rfl hHA_0 ?_
   try simp only [Act.put,zI,z0,zS]
   refine tkA 3 rfl hHA_0 ?_
   try simp only [Act.put,zI,z0,zS]
   refine tkA 4 rfl hHA_0 ?_
   try simp only [Act.put,zI,z0,zS]
   refine tkA 5 rfl hHA_0 ?_
   try simp only [Act.put,zI,z0,zS]
   refine tkA 6 rfl hHA_0 ?_
   try simp only [Act.put,zI,z0,zS]
   refine tkA 7 rfl hHA_0 ?_
   try simp only [Act.put,zI,z0,zS]
   refine tkA 8 rfl hHA_0 ?_
   try simp only [Act.put,zI,z0,zS]
   refine rdyL [9,10] ?_
   refine arc rfl (fun Kq hKq=>?_) ?_
   ·go_simp
    refine stepZ hKq (show Sy w _ [(b4,#[.int .i64 0,.slice none 0 0,.int .i64 0,.slice none 0 0],50),(VA_0.heap.size,#[.int .i64 0,.int .i64 0],90)] [] []from(hVA_0.out.al VA_0.heap.size #[.int .i64 0,.int .i64 0] 90 rfl)) (fun _ hX=>⟨(HA.out _ hX.be).1,(HA.out _ hX.be).2,(HB.out _ hX.be).1,(HB.out _ hX.be).2,trivial⟩) ?_
    intro VA_1 hVA_1 hHA_1
    clear hKq Kq hVA_0 hHA_0
    try simp only [Act.put,zI,z0,zS]
    refine rdy1 10 rfl (fun Kq hKq=>?_)
    go_simp
    refine stepZ hKq (show Sy w _ [(b4,#[.int .i64 0,.slice none 0 0,.int .i64 0,.slice none 0 0],50),(VA_0.heap.size,#[.int .i64 0,.int .i64 0],90),(VA_1.heap.size,#[.int .i64 0,.int .i64 0],90)] [] []from(hVA_1.out.al VA_1.heap.size #[.int .i64 0,.int .i64 0] 90 rfl)) (fun _ hX=>⟨(HA.out _ hX.be).1,(HA.out _ hX.be).2,(HB.out _ hX.be).1,(HB.out _ hX.be).2,trivial⟩) ?_
    intro VA_2 hVA_2 hHA_2
    clear hKq Kq hVA_1 hHA_1
    try simp only [Act.put,zI,z0,zS]
    refine rdy1 11 rfl (fun Kq hKq=>?_)
    have cQ0:=hVA_2.out.cell 1 0 rfl rfl
    have fQ0:=hVA_2.out.free 1 0 rfl
    have cQ1:=hVA_2.out.cell 1 1 rfl rfl
    have fQ1:=hVA_2.out.free 1 1 rfl
    go_simp
    refine stepZ hKq (show Sy w _ [(b4,#[.int .i64 0,.slice none 0 0,.int .i64 0,.slice none 0 0],50),(VA_0.heap.size,#[.int .i64 p0,.int .i64 p1],90),(VA_1.heap.size,#[.int .i64 0,.int .i64 0],90)] [] []from(hVA_2.out|>.set (j:=0) (v:= .int .i64 p0) 1 rfl|>.set (j:=1) (v:= .int .i64 p1) 1 rfl)) (fun _ hX=>⟨(HA.out _ hX.be).1,(HA.out _ hX.be).2,(HB.out _ hX.be).1,(HB.out _ hX.be).2,trivial⟩) ?_
    intro VA_3 hVA_3 hHA_3
    clear hKq Kq hVA_2 cQ0 fQ0 cQ1 fQ1 hHA_2
    try simp only [Act.put]
    refine rdy1 12 rfl (fun Kq hKq=>?_)
    have cQ0:=hVA_3.out.cell 2 0 rfl rfl
    have fQ0:=hVA_3.out.free 2 0 rfl
    have cQ1:=hVA_3.out.cell 2 1 rfl rfl
    have fQ1:=hVA_3.out.free 2 1 rfl
    go_simp
    refine stepZ hKq (show Sy w _ [(b4,#[.int .i64 0,.slice none 0 0,.int .i64 0,.slice none 0 0],50),(VA_0.heap.size,#[.int .i64 p0,.int .i64 p1],90),(VA_1.heap.size,#[.int .i64 r0,.int .i64 r1],90)] [] []from(hVA_3.out|>.set (j:=0) (v:= .int .i64 r0) 2 rfl|>.set (j:=1) (v:= .int .i64 r1) 2 rfl)) (fun _ hX=>⟨(HA.out _ hX.be).1,(HA.out _ hX.be).2,(HB.out _ hX.be).1,(HB.out _ hX.be).2,trivial⟩) ?_
    intro VA_4 hVA_4 hHA_4
    clear hKq Kq hVA_3 cQ0 fQ0 cQ1 fQ1 hHA_3
    try simp only [Act.put]
    refine wpAnyH_done (by kernel_rfl) ?_ _
    refine NoPanic.normal ?_
    go_wp2_with fail
    go_meet
    exact⟨_,_,rfl,rfl,ζ hVA_4.out⟩
   refine arc rfl (fun Kq hKq=>?_) ?_
   ·go_simp
    refine stepZ hKq (show Sy w _ [(b4,#[.int .i64 0,.slice none 0 0,.int .i64 0,.slice none 0 0],50),(VA_0.heap.size,#[.int .i64 0,.int .i64 0],90)] [] []from(hVA_0.out.al VA_0.heap.size #[.int .i64 0,.int .i64 0] 90 rfl)) (fun _ hX=>⟨(HA.out _ hX.be).1,(HA.out _ hX.be).2,(HB.out _ hX.be).1,(HB.out _ hX.be).2,trivial⟩) ?_
    intro VA_1 hVA_1 hHA_1
    clear hKq Kq hVA_0 hHA_0
    try simp only [Act.put,zI,z0,zS]
    refine rdy1 9 rfl (fun Kq hKq=>?_)
    go_simp
    refine stepZ hKq (show Sy w _ [(b4,#[.int .i64 0,.slice none 0 0,.int .i64 0,.slice none 0 0],50),(VA_0.heap.size,#[.int .i64 0,.int .i64 0],90),(VA_1.heap.size,#[.int .i64 0,.int .i64 0],90)] [] []from(hVA_1.out.al VA_1.heap.size #[.int .i64 0,.int .i64 0] 90 rfl)) (fun _ hX=>⟨(HA.out _ hX.be).1,(HA.out _ hX.be).2,(HB.out _ hX.be).1,(HB.out _ hX.be).2,trivial⟩) ?_
    intro VA_2 hVA_2 hHA_2
    clear hKq Kq hVA_1 hHA_1
    try simp only [Act.put,zI,z0,zS]
    refine rdy1 11 rfl (fun Kq hKq=>?_)
    have cQ0:=hVA_2.out.cell 2 0 rfl rfl
    have fQ0:=hVA_2.out.free 2 0 rfl
    have cQ1:=hVA_2.out.cell 2 1 rfl rfl
    have fQ1:=hVA_2.out.free 2 1 rfl
    go_simp
    refine stepZ hKq (show Sy w _ [(b4,#[.int .i64 0,.slice none 0 0,.int .i64 0,.slice none 0 0],50),(VA_0.heap.size,#[.int .i64 0,.int .i64 0],90),(VA_1.heap.size,#[.int .i64 p0,.int .i64 p1],90)] [] []from(hVA_2.out|>.set (j:=0) (v:= .int .i64 p0) 2 rfl|>.set (j:=1) (v:= .int .i64 p1) 2 rfl)) (fun _ hX=>⟨(HA.out _ hX.be).1,(HA.out _ hX.be).2,(HB.out _ hX.be).1,(HB.out _ hX.be).2,trivial⟩) ?_
    intro VA_3 hVA_3 hHA_3
    clear hKq Kq hVA_2 cQ0 fQ0 cQ1 fQ1 hHA_2
    try simp only [Act.put]
    refine rdy1 12 rfl (fun Kq hKq=>?_)
    have cQ0:=hVA_3.out.cell 1 0 rfl rfl
    have fQ0:=hVA_3.out.free 1 0 rfl
    have cQ1:=hVA_3.out.cell 1 1 rfl rfl
    have fQ1:=hVA_3.out.free 1 1 rfl
    go_simp
    refine stepZ hKq (show Sy w _ [(b4,#[.int .i64 0,.slice none 0 0,.int .i64 0,.slice none 0 0],50),(VA_0.heap.size,#[.int .i64 r0,.int .i64 r1],90),(VA_1.heap.size,#[.int .i64 p0,.int .i64 p1],90)] [] []from(hVA_3.out|>.set (j:=0) (v:= .int .i64 r0) 1 rfl|>.set (j:=1) (v:= .int .i64 r1) 1 rfl)) (fun _ hX=>⟨(HA.out _ hX.be).1,(HA.out _ hX.be).2,(HB.out _ hX.be).1,(HB.out _ hX.be).2,trivial⟩) ?_
    intro VA_4 hVA_4 hHA_4
    clear hKq Kq hVA_3 cQ0 fQ0 cQ1 fQ1 hHA_3
    try simp only [Act.put]
    refine wpAnyH_done (by kernel_rfl) ?_ _
    refine NoPanic.normal ?_
    go_wp2_with fail
    go_meet
    exact⟨_,_,rfl,rfl,ζ (hVA_4.out.bperm (perm_132 _ _ _))⟩
   exact AllReadyH.nil
  case rest=>
   clear hS
   obtain ⟨b6,b7,rfl,rfl,hS⟩:=hcut
   have z60:wc.cell? ⟨b6,0,none⟩=some (.int .i64 p0):=hS.out.cell 1 0 rfl rfl
   have z70:wc.cell? ⟨b7,0,none⟩=some (.int .i64 r0):=hS.out.cell 2 0 rfl rfl
   have HIA:=ζ (fun W=>rIn_any W x p0 r0)
   by_cases hlt:k < s
   ·have hne:inB x p0 r0=false:=by
     cases e:inB x p0 r0
     ·rfl
     ·have h3:=inB_iff.1 e
      have h4:=HLT.out hlt
      omega
    rw [hne]at HIA
    clear hne
    go_wp2_with ((with_reducible refine(HIA.out _).mono ?_);rintro e w1 ⟨rfl,rfl⟩)
    go_roundw
    case rel=>exact⟨k+1,by omega,by rw [HT.out],ζ (hS.out.thin (bs':=[(b4,#[.int .i64 0,.slice none 0 0,.int .i64 0,.slice none 0 0],50)]) (List.sublist_append_left [_] _) (List.Sublist.refl _))⟩
    case measure=>have:=HT.out;simp [intOf];omega
   ·have hks:k=s:=by omega
    have hki:=HKI.out hks
    have hye:inB x p0 r0=true:=inB_iff.2 hki
    rw [hye]at HIA
    have HGG:=ζ (show grdI l s x=(p1:Rat)+Rat.divInt (r1 - p1) (r0 - p0)*((x - p0:Int):Rat)from by
     rw [←hks,HGI.out,Rat.divInt_eq_div]
     grind)
    clear hye HGI HKI
    have v1:IntKind.i64.wrap (r1 - p1)=r1 - p1:=IntWalk.i64_in _ (by omega)
    have v2:IntKind.i64.wrap (x - p0)=x - p0:=IntWalk.i64_in _ (by omega)
    have v3:IntKind.i64.wrap (r0 - p0)=r0 - p0:=IntWalk.i64_in _ (by omega)
    have B1:=ζ (show InI p1 by unfold InI;omega)
    have B2:=ζ (show InI (r1 - p1)by unfold InI;omega)
    have B3:=ζ (show InI (x - p0)by unfold InI;omega)
    have B4:=ζ (show InI (r0 - p0)by unfold InI;omega)
    have HNE:=ζ (show((r0 - p0:Int):Rat)≠0 from cast_ne (by omega))
    have HN0:=ζ (show r0 - p0≠0 by omega)
    have BS:=ζ (show Bq 40 (Rat.divInt (r1 - p1) (r0 - p0))from by rw [Rat.divInt_eq_div];exact((int_bq B2.out).div (int_bq B4.out) HNE.out).mono (by omega))
    have z61:wc.cell? ⟨b6,1,none⟩=some (.int .i64 p1):=hS.out.cell 1 1 rfl rfl
    have z71:wc.cell? ⟨b7,1,none⟩=some (.int .i64 r1):=hS.out.cell 2 1 rfl rfl
    clear hks hki hlt
    go_wp2_with ((with_reducible refine(HIA.out _).mono ?_);rintro e w1 ⟨rfl,rfl⟩)
    refine(ratioN_any _ _ B2.out.i64 B4.out.i64 HN0.out _).mono ?_
    rintro e w3 ⟨s3,a3,n3,c3,t3,d3,e3,f3,rfl,hz,hb⟩
    have hD:=ζ (((hS.out.call hb).pq rfl rfl hz).al w3.heap.size #[.int .i64 s3,.slice a3 n3 c3,.int .i64 t3,.slice d3 e3 f3] 50 rfl)
    clear hb hz hS z60 z61 z70 z71
    go_upto_region 7 with fail
    obtain ⟨b8,hb8⟩:∃b,w3.heap.size=b:=⟨_,rfl⟩
    rw [hb8]at hD⊢
    refine wp_geny hD.out ?_
    intro V5 hc
    have hE:=ζ hc
    clear hc hD hb8
    refine wp_region_held_drew (S:=(fun w'=>w'.cell? ⟨b6,0,none⟩=some (.int .i64 p0)∧w'.cell? ⟨b6,1,none⟩=some (.int .i64 p1)∧w'.cell? ⟨b8,0,none⟩=some (.int .i64 s3)∧w'.cell? ⟨b8,1,none⟩=some (.slice a3 n3 c3)∧w'.cell? ⟨b8,2,none⟩=some (.int .i64 t3)∧w'.cell? ⟨b8,3,none⟩=some (.slice d3 e3 f3)∧True)) (by kernel_rfl) ⟨hE.out.drew.cell 1 0 rfl rfl,hE.out.drew.cell 1 1 rfl rfl,hE.out.drew.cell 3 0 rfl rfl,hE.out.drew.cell 3 1 rfl rfl,hE.out.drew.cell 3 2 rfl rfl,hE.out.drew.cell 3 3 rfl rfl,trivial⟩ (fun hH=>?_)
    refine wpAnyH_geny (show Sy w _ [(b4,#[.int .i64 0,.slice none 0 0,.int .i64 0,.slice none 0 0],50),(b6,#[.int .i64 p0,.int .i64 p1],90),(b7,#[.int .i64 r0,.int .i64 r1],90),(b8,#[.int .i64 s3,.slice a3 n3 c3,.int .i64 t3,.slice d3 e3 f3],50)] [] [(fun V=>Nq V s3 (.slice a3 n3 c3) t3 (.slice d3 e3 f3) (Rat.divInt (r1 - p1) (r0 - p0)))]from hE.out.drew) hH ?_
    intro VB_0 hc hHB_0
    have hVB_0:=ζ hc
    clear hc hH hE
    refine tkA 0 rfl hHB_0 ?_
    try simp only [Act.put,zI,z0,zS]
    refine tkA 1 rfl hHB_0 ?_
    try simp only [Act.put,zI,z0,zS]
    refine tkA 3 rfl hHB_0 ?_
    try simp only [Act.put,zI,z0,zS]
    refine tkA 4 rfl hHB_0 ?_
    try simp only [Act.put,zI,z0,zS]
    refine tkA 5 rfl hHB_0 ?_
    try simp only [Act.put,zI,z0,zS]
    refine tkA 6 rfl hHB_0 ?_
    try simp only [Act.put,zI,z0,zS]
    refine tkA 7 rfl hHB_0 ?_
    try simp only [Act.put,zI,z0,zS]
    refine rdy1 2 rfl (fun Kq hKq=>?_)
    go_simp
    go_at_call 72
    refine(rOf_any _ _ B1.out.i64).mono ?_
    rintro e wT ⟨s4,a4,n4,c4,t4,d4,e4,f4,rfl,hz,hb⟩
    (try go_wp2_with fail)
    refine stepZ hKq (show Sy w _ [(b4,#[.int .i64 0,.slice none 0 0,.int .i64 0,.slice none 0 0],50),(b6,#[.int .i64 p0,.int .i64 p1],90),(b7,#[.int .i64 r0,.int .i64 r1],90),(b8,#[.int .i64 s3,.slice a3 n3 c3,.int .i64 t3,.slice d3 e3 f3],50)] [] [(fun V=>Nq V s3 (.slice a3 n3 c3) t3 (.slice d3 e3 f3) (Rat.divInt (r1 - p1) (r0 - p0))),(fun V=>Nq V s4 (.slice a4 n4 c4) t4 (.slice d4 e4 f4) ((p1:Rat)))]from((hVB_0.out.call hb).pq rfl rfl hz)) (fun _ hX=>⟨hX.cell 1 0 rfl rfl,hX.cell 1 1 rfl rfl,hX.cell 3 0 rfl rfl,hX.cell 3 1 rfl rfl,hX.cell 3 2 rfl rfl,hX.cell 3 3 rfl rfl,trivial⟩) ?_
    intro VB_1 hVB_1 hHB_1
    clear hKq Kq hVB_0 hb hz hHB_0
    try simp only [Act.put,zI,z0,zS]
    refine rdy1 8 rfl (fun Kq hKq=>?_)
    go_simp
    go_at_call 72
    refine(rOf_any _ _ B3.out.i64).mono ?_
    rintro e wT ⟨s5,a5,n5,c5,t5,d5,e5,f5,rfl,hz,hb⟩
    (try go_wp2_with fail)
    refine stepZ hKq (show Sy w _ [(b4,#[.int .i64 0,.slice none 0 0,.int .i64 0,.slice none 0 0],50),(b6,#[.int .i64 p0,.int .i64 p1],90),(b7,#[.int .i64 r0,.int .i64 r1],90),(b8,#[.int .i64 s3,.slice a3 n3 c3,.int .i64 t3,.slice d3 e3 f3],50)] [] [(fun V=>Nq V s3 (.slice a3 n3 c3) t3 (.slice d3 e3 f3) (Rat.divInt (r1 - p1) (r0 - p0))),(fun V=>Nq V s4 (.slice a4 n4 c4) t4 (.slice d4 e4 f4) ((p1:Rat))),(fun V=>Nq V s5 (.slice a5 n5 c5) t5 (.slice d5 e5 f5) (((x - p0:Int):Rat)))]from((hVB_1.out.call hb).pq rfl rfl hz)) (fun _ hX=>⟨hX.cell 1 0 rfl rfl,hX.cell 1 1 rfl rfl,hX.cell 3 0 rfl rfl,hX.cell 3 1 rfl rfl,hX.cell 3 2 rfl rfl,hX.cell 3 3 rfl rfl,trivial⟩) ?_
    intro VB_2 hVB_2 hHB_2
    clear hKq Kq hVB_1 hb hz hHB_1
    try simp only [Act.put,zI,z0,zS]
    refine rdy1 9 rfl (fun Kq hKq=>?_)
    go_simp
    go_at_call 108
    refine(rmulN_b (hVB_2.out.r 0 rfl) (hVB_2.out.r 2 rfl) BS.out (int_bq B3.out) (by omega) (by omega)).mono ?_
    rintro e wT ⟨s6,a6,n6,c6,t6,d6,e6,f6,rfl,hz,hb⟩
    (try go_wp2_with fail)
    refine stepZ hKq (show Sy w _ [(b4,#[.int .i64 0,.slice none 0 0,.int .i64 0,.slice none 0 0],50),(b6,#[.int .i64 p0,.int .i64 p1],90),(b7,#[.int .i64 r0,.int .i64 r1],90),(b8,#[.int .i64 s3,.slice a3 n3 c3,.int .i64 t3,.slice d3 e3 f3],50)] [] [(fun V=>Nq V s3 (.slice a3 n3 c3) t3 (.slice d3 e3 f3) (Rat.divInt (r1 - p1) (r0 - p0))),(fun V=>Nq V s4 (.slice a4 n4 c4) t4 (.slice d4 e4 f4) ((p1:Rat))),(fun V=>Nq V s5 (.slice a5 n5 c5) t5 (.slice d5 e5 f5) (((x - p0:Int):Rat))),(fun V=>Nq V s6 (.slice a6 n6 c6) t6 (.slice d6 e6 f6) (Rat.divInt (r1 - p1) (r0 - p0)*((x - p0:Int):Rat)))]from((hVB_2.out.call hb).pq rfl rfl hz)) (fun _ hX=>⟨hX.cell 1 0 rfl rfl,hX.cell 1 1 rfl rfl,hX.cell 3 0 rfl rfl,hX.cell 3 1 rfl rfl,hX.cell 3 2 rfl rfl,hX.cell 3 3 rfl rfl,trivial⟩) ?_
    intro VB_3 hVB_3 hHB_3
    clear hKq Kq hVB_2 hb hz hHB_2
    try simp only [Act.put,zI,z0,zS]
    refine rdy1 10 rfl (fun Kq hKq=>?_)
    go_simp
    go_at_call 73
    refine(raddN_b (hVB_3.out.r 1 rfl) (hVB_3.out.r 3 rfl) (int_bq B1.out) (BS.out.mul (int_bq B3.out)) (by omega) (by omega)).mono ?_
    rintro e wT ⟨s7,a7,n7,c7,t7,d7,e7,f7,rfl,hz,hb⟩
    (try go_wp2_with fail)
    refine stepZ hKq (show Sy w _ [(b4,#[.int .i64 0,.slice none 0 0,.int .i64 0,.slice none 0 0],50),(b6,#[.int .i64 p0,.int .i64 p1],90),(b7,#[.int .i64 r0,.int .i64 r1],90),(b8,#[.int .i64 s3,.slice a3 n3 c3,.int .i64 t3,.slice d3 e3 f3],50)] [] [(fun V=>Nq V s3 (.slice a3 n3 c3) t3 (.slice d3 e3 f3) (Rat.divInt (r1 - p1) (r0 - p0))),(fun V=>Nq V s4 (.slice a4 n4 c4) t4 (.slice d4 e4 f4) ((p1:Rat))),(fun V=>Nq V s5 (.slice a5 n5 c5) t5 (.slice d5 e5 f5) (((x - p0:Int):Rat))),(fun V=>Nq V s6 (.slice a6 n6 c6) t6 (.slice d6 e6 f6) (Rat.divInt (r1 - p1) (r0 - p0)*((x - p0:Int):Rat))),(fun V=>Nq V s7 (.slice a7 n7 c7) t7 (.slice d7 e7 f7) ((p1:Rat)+Rat.divInt (r1 - p1) (r0 - p0)*((x - p0:Int):Rat)))]from((hVB_3.out.call hb).pq rfl rfl hz)) (fun _ hX=>⟨hX.cell 1 0 rfl rfl,hX.cell 1 1 rfl rfl,hX.cell 3 0 rfl rfl,hX.cell 3 1 rfl rfl,hX.cell 3 2 rfl rfl,hX.cell 3 3 rfl rfl,trivial⟩) ?_
    intro VB_4 hVB_4 hHB_4
    clear hKq Kq hVB_3 hb hz hHB_3
    try simp only [Act.put,zI,z0,zS]
    refine rdy1 11 rfl (fun Kq hKq=>?_)
    have cQ0:=hVB_4.out.cell 0 0 rfl rfl
    have fQ0:=hVB_4.out.free 0 0 rfl
    have cQ1:=hVB_4.out.cell 0 1 rfl rfl
    have fQ1:=hVB_4.out.free 0 1 rfl
    have cQ2:=hVB_4.out.cell 0 2 rfl rfl
    have fQ2:=hVB_4.out.free 0 2 rfl
    have cQ3:=hVB_4.out.cell 0 3 rfl rfl
    have fQ3:=hVB_4.out.free 0 3 rfl
    go_simp
    refine stepZ hKq (show Sy w _ [(b4,#[.int .i64 s7,.slice a7 n7 c7,.int .i64 t7,.slice d7 e7 f7],50),(b6,#[.int .i64 p0,.int .i64 p1],90),(b7,#[.int .i64 r0,.int .i64 r1],90),(b8,#[.int .i64 s3,.slice a3 n3 c3,.int .i64 t3,.slice d3 e3 f3],50)] [] [(fun V=>Nq V s3 (.slice a3 n3 c3) t3 (.slice d3 e3 f3) (Rat.divInt (r1 - p1) (r0 - p0))),(fun V=>Nq V s4 (.slice a4 n4 c4) t4 (.slice d4 e4 f4) ((p1:Rat))),(fun V=>Nq V s5 (.slice a5 n5 c5) t5 (.slice d5 e5 f5) (((x - p0:Int):Rat))),(fun V=>Nq V s6 (.slice a6 n6 c6) t6 (.slice d6 e6 f6) (Rat.divInt (r1 - p1) (r0 - p0)*((x - p0:Int):Rat))),(fun V=>Nq V s7 (.slice a7 n7 c7) t7 (.slice d7 e7 f7) ((p1:Rat)+Rat.divInt (r1 - p1) (r0 - p0)*((x - p0:Int):Rat)))]from(hVB_4.out|>.set (j:=0) (v:= .int .i64 s7) 0 rfl|>.set (j:=1) (v:= .slice a7 n7 c7) 0 rfl|>.set (j:=2) (v:= .int .i64 t7) 0 rfl|>.set (j:=3) (v:= .slice d7 e7 f7) 0 rfl)) (fun _ hX=>⟨hX.cell 1 0 rfl rfl,hX.cell 1 1 rfl rfl,hX.cell 3 0 rfl rfl,hX.cell 3 1 rfl rfl,hX.cell 3 2 rfl rfl,hX.cell 3 3 rfl rfl,trivial⟩) ?_
    intro VB_5 hVB_5 hHB_5
    clear hKq Kq hVB_4 cQ0 fQ0 cQ1 fQ1 cQ2 fQ2 cQ3 fQ3 hHB_4
    try simp only [Act.put]
    refine wpAnyH_done (by kernel_rfl) ?_ _
    rw [←HGG.out]at hVB_5
    go_wp2
    refine ret_sy hVB_5.out (v:= .agg #[.int .i64 s7,.slice a7 n7 c7,.int .i64 t7,.slice d7 e7 f7]) (fun hF=>?_) rfl (fun hF=>⟨_,_,_,_,_,_,_,_,rfl,hF.r 4 rfl,hF.be⟩)
    have g0:=hF.cell 0 0 rfl rfl
    have g1:=hF.cell 0 1 rfl rfl
    have g2:=hF.cell 0 2 rfl rfl
    have g3:=hF.cell 0 3 rfl rfl
    simp [results,Tryz.results54,go_sem,g0,g1,g2,g3]
end
section
open Go.RowKit Dig
theorem Bq.abs {n:Nat} {a:Rat} (h:Bq n a):Bq n a.abs:=by
 unfold Rat.abs
 split
 ·exact h
 ·exact h.neg
theorem Bd.floor {n:Nat} {q:Rat} (h:Bq n q):Bd n q.floor:=by rw [Rat.floor_def];exact h.num.div _
theorem sgnQ_0 {q:Rat} (h:q=0):sgnQ q=0:=by rw [h];rfl
theorem cmpQ_lt {a b:Rat} (h:a < b):cmpQ a b= -1:=by
 unfold cmpQ
 rw [if_neg (by grind),if_pos h]
theorem cmpQ_gt {a b:Rat} (h:b < a):cmpQ a b=1:=by
 unfold cmpQ
 rw [if_neg (by grind),if_neg (by grind)]
theorem rfloorN_any (s1:Int) (a1:Option Addr) (n1 c1:Nat) (t1:Int) (d1:Option Addr) (e1 f1:Nat) (q1:Rat) (w:World) (h1:Nq w s1 (.slice a1 n1 c1) t1 (.slice d1 e1 f1) q1) (k1:Nat) (b1:Bq k1 q1) (hk1:k1≤40000):
  Calls Tryz.prog 125 #[.agg #[.int .i64 s1,.slice a1 n1 c1,.int .i64 t1,.slice d1 e1 f1]] w (RetN w (q1.num / (q1.den:Int))):=by
 have B1:=ζ b1
 clear b1
 have hC:=ζ ((((St.enter w).pq h1).al (w.heap.size) #[.int .i64 s1,.slice a1 n1 c1,.int .i64 t1,.slice d1 e1 f1] 50 rfl rfl).al (w.heap.size+1) #[.int .i64 0,.slice none 0 0] 48 (by simp) rfl)
 clear h1
 go_enter Tryz.func125,Tryz.ntmps125
 go_upto_region 1 with fail
 go_cut [3] (fun s3 wx=>∃bx s4 a4 n4 c4,s3= .pointer (some ⟨bx,0,none⟩)∧Hid (St w wx [(w.heap.size,#[.int .i64 s1,.slice a1 n1 c1,.int .i64 t1,.slice d1 e1 f1],50),(w.heap.size+1,#[.int .i64 0,.slice none 0 0],48),(bx,#[.int .i64 s4,.slice a4 n4 c4],48)] [fun V=>Nz V s4 (.slice a4 n4 c4) (q1.num / (q1.den:Int))]))
 case first=>
  refine wp_gen hC.out ?_
  intro W1 hc
  clear hC
  have hC:=ζ hc
  have HK1:=ζ (show k1≤300000 by omega)
  have HD:=ζ (den_ne q1)
  clear hc
  go_region_held3 (fun w'=>w'.cell? ⟨w.heap.size,0,none⟩=some (.int .i64 s1)∧w'.cell? ⟨w.heap.size,1,none⟩=some (.slice a1 n1 c1)∧w'.cell? ⟨w.heap.size,2,none⟩=some (.int .i64 t1)∧w'.cell? ⟨w.heap.size,3,none⟩=some (.slice d1 e1 f1)∧True)
   (first
    | (with_reducible refine And.intro (?_:World.cell? (World.setCell (World.setCell (World.setCell (World.setCell (World.alloc (World.alloc wb _) _) _ _) _ _) _ _) _ _) _=_) ?_;exact((((hCb.out.al (wb.heap.size) #[.int .i64 0,.slice none 0 0] 48 rfl rfl).al (wb.heap.size+1) #[.int .i64 0,.slice none 0 0] 48 (by simp) rfl)|>.set 2 rfl|>.set 2 rfl)|>.set 3 rfl|>.set 3 rfl).cell 0 0 rfl rfl;exact⟨((((hCb.out.al (wb.heap.size) #[.int .i64 0,.slice none 0 0] 48 rfl rfl).al (wb.heap.size+1) #[.int .i64 0,.slice none 0 0] 48 (by simp) rfl)|>.set 2 rfl|>.set 2 rfl)|>.set 3 rfl|>.set 3 rfl).cell 0 1 rfl rfl,((((hCb.out.al (wb.heap.size) #[.int .i64 0,.slice none 0 0] 48 rfl rfl).al (wb.heap.size+1) #[.int .i64 0,.slice none 0 0] 48 (by simp) rfl)|>.set 2 rfl|>.set 2 rfl)|>.set 3 rfl|>.set 3 rfl).cell 0 2 rfl rfl,((((hCb.out.al (wb.heap.size) #[.int .i64 0,.slice none 0 0] 48 rfl rfl).al (wb.heap.size+1) #[.int .i64 0,.slice none 0 0] 48 (by simp) rfl)|>.set 2 rfl|>.set 2 rfl)|>.set 3 rfl|>.set 3 rfl).cell 0 3 rfl rfl,trivial⟩)
    | (with_reducible refine And.intro (?_:World.cell? (World.setCell (World.setCell (World.setCell (World.setCell (World.alloc (World.alloc wb _) _) _ _) _ _) _ _) _ _) _=_) ?_;exact((((hCb.out.al (wb.heap.size) #[.int .i64 0,.slice none 0 0] 48 rfl rfl).al (wb.heap.size+1) #[.int .i64 0,.slice none 0 0] 48 (by simp) rfl)|>.set 3 rfl|>.set 3 rfl)|>.set 2 rfl|>.set 2 rfl).cell 0 0 rfl rfl;exact⟨((((hCb.out.al (wb.heap.size) #[.int .i64 0,.slice none 0 0] 48 rfl rfl).al (wb.heap.size+1) #[.int .i64 0,.slice none 0 0] 48 (by simp) rfl)|>.set 3 rfl|>.set 3 rfl)|>.set 2 rfl|>.set 2 rfl).cell 0 1 rfl rfl,((((hCb.out.al (wb.heap.size) #[.int .i64 0,.slice none 0 0] 48 rfl rfl).al (wb.heap.size+1) #[.int .i64 0,.slice none 0 0] 48 (by simp) rfl)|>.set 3 rfl|>.set 3 rfl)|>.set 2 rfl|>.set 2 rfl).cell 0 2 rfl rfl,((((hCb.out.al (wb.heap.size) #[.int .i64 0,.slice none 0 0] 48 rfl rfl).al (wb.heap.size+1) #[.int .i64 0,.slice none 0 0] 48 (by simp) rfl)|>.set 3 rfl|>.set 3 rfl)|>.set 2 rfl|>.set 2 rfl).cell 0 3 rfl rfl,trivial⟩)
    | (with_reducible refine And.intro (?_:World.cell? (World.setCell (World.setCell (World.setCell (World.setCell (World.alloc wb _) _ _) _ _) _ _) _ _) _=_) ?_;exact(((hCb.out.al (wb.heap.size) #[.int .i64 0,.slice none 0 0] 48 rfl rfl)|>.set 2 rfl|>.set 2 rfl)|>.set 3 rfl|>.set 3 rfl).cell 0 0 rfl rfl;exact⟨(((hCb.out.al (wb.heap.size) #[.int .i64 0,.slice none 0 0] 48 rfl rfl)|>.set 2 rfl|>.set 2 rfl)|>.set 3 rfl|>.set 3 rfl).cell 0 1 rfl rfl,(((hCb.out.al (wb.heap.size) #[.int .i64 0,.slice none 0 0] 48 rfl rfl)|>.set 2 rfl|>.set 2 rfl)|>.set 3 rfl|>.set 3 rfl).cell 0 2 rfl rfl,(((hCb.out.al (wb.heap.size) #[.int .i64 0,.slice none 0 0] 48 rfl rfl)|>.set 2 rfl|>.set 2 rfl)|>.set 3 rfl|>.set 3 rfl).cell 0 3 rfl rfl,trivial⟩)
    | (with_reducible refine And.intro (?_:World.cell? (World.setCell (World.setCell (World.setCell (World.setCell (World.alloc wb _) _ _) _ _) _ _) _ _) _=_) ?_;exact(((hCb.out.al (wb.heap.size) #[.int .i64 0,.slice none 0 0] 48 rfl rfl)|>.set 3 rfl|>.set 3 rfl)|>.set 2 rfl|>.set 2 rfl).cell 0 0 rfl rfl;exact⟨(((hCb.out.al (wb.heap.size) #[.int .i64 0,.slice none 0 0] 48 rfl rfl)|>.set 3 rfl|>.set 3 rfl)|>.set 2 rfl|>.set 2 rfl).cell 0 1 rfl rfl,(((hCb.out.al (wb.heap.size) #[.int .i64 0,.slice none 0 0] 48 rfl rfl)|>.set 3 rfl|>.set 3 rfl)|>.set 2 rfl|>.set 2 rfl).cell 0 2 rfl rfl,(((hCb.out.al (wb.heap.size) #[.int .i64 0,.slice none 0 0] 48 rfl rfl)|>.set 3 rfl|>.set 3 rfl)|>.set 2 rfl|>.set 2 rfl).cell 0 3 rfl rfl,trivial⟩)
    | (with_reducible refine And.intro (?_:World.cell? (World.alloc (World.setCell (World.setCell (World.alloc (World.alloc wb _) _) _ _) _ _) _) _=_) ?_;exact(((hCb.out.al (wb.heap.size) #[.int .i64 0,.slice none 0 0] 48 rfl rfl).al (wb.heap.size+1) #[.int .i64 0,.slice none 0 0] 48 (by simp) rfl)|>.set 2 rfl|>.set 2 rfl).row.cell 0 0 rfl rfl;exact⟨(((hCb.out.al (wb.heap.size) #[.int .i64 0,.slice none 0 0] 48 rfl rfl).al (wb.heap.size+1) #[.int .i64 0,.slice none 0 0] 48 (by simp) rfl)|>.set 2 rfl|>.set 2 rfl).row.cell 0 1 rfl rfl,(((hCb.out.al (wb.heap.size) #[.int .i64 0,.slice none 0 0] 48 rfl rfl).al (wb.heap.size+1) #[.int .i64 0,.slice none 0 0] 48 (by simp) rfl)|>.set 2 rfl|>.set 2 rfl).row.cell 0 2 rfl rfl,(((hCb.out.al (wb.heap.size) #[.int .i64 0,.slice none 0 0] 48 rfl rfl).al (wb.heap.size+1) #[.int .i64 0,.slice none 0 0] 48 (by simp) rfl)|>.set 2 rfl|>.set 2 rfl).row.cell 0 3 rfl rfl,trivial⟩)
    | (with_reducible refine And.intro (?_:World.cell? (World.alloc (World.setCell (World.setCell (World.alloc (World.alloc wb _) _) _ _) _ _) _) _=_) ?_;exact(((hCb.out.al (wb.heap.size) #[.int .i64 0,.slice none 0 0] 48 rfl rfl).al (wb.heap.size+1) #[.int .i64 0,.slice none 0 0] 48 (by simp) rfl)|>.set 3 rfl|>.set 3 rfl).row.cell 0 0 rfl rfl;exact⟨(((hCb.out.al (wb.heap.size) #[.int .i64 0,.slice none 0 0] 48 rfl rfl).al (wb.heap.size+1) #[.int .i64 0,.slice none 0 0] 48 (by simp) rfl)|>.set 3 rfl|>.set 3 rfl).row.cell 0 1 rfl rfl,(((hCb.out.al (wb.heap.size) #[.int .i64 0,.slice none 0 0] 48 rfl rfl).al (wb.heap.size+1) #[.int .i64 0,.slice none 0 0] 48 (by simp) rfl)|>.set 3 rfl|>.set 3 rfl).row.cell 0 2 rfl rfl,(((hCb.out.al (wb.heap.size) #[.int .i64 0,.slice none 0 0] 48 rfl rfl).al (wb.heap.size+1) #[.int .i64 0,.slice none 0 0] 48 (by simp) rfl)|>.set 3 rfl|>.set 3 rfl).row.cell 0 3 rfl rfl,trivial⟩)
    | (with_reducible refine And.intro (?_:World.cell? (World.setCell (World.setCell (World.setCell (World.setCell wb _ _) _ _) _ _) _ _) _=_) ?_;exact((hCb.out|>.set 2 rfl|>.set 2 rfl)|>.set 3 rfl|>.set 3 rfl).cell 0 0 rfl rfl;exact⟨((hCb.out|>.set 2 rfl|>.set 2 rfl)|>.set 3 rfl|>.set 3 rfl).cell 0 1 rfl rfl,((hCb.out|>.set 2 rfl|>.set 2 rfl)|>.set 3 rfl|>.set 3 rfl).cell 0 2 rfl rfl,((hCb.out|>.set 2 rfl|>.set 2 rfl)|>.set 3 rfl|>.set 3 rfl).cell 0 3 rfl rfl,trivial⟩)
    | (with_reducible refine And.intro (?_:World.cell? (World.setCell (World.setCell (World.setCell (World.setCell wb _ _) _ _) _ _) _ _) _=_) ?_;exact((hCb.out|>.set 3 rfl|>.set 3 rfl)|>.set 2 rfl|>.set 2 rfl).cell 0 0 rfl rfl;exact⟨((hCb.out|>.set 3 rfl|>.set 3 rfl)|>.set 2 rfl|>.set 2 rfl).cell 0 1 rfl rfl,((hCb.out|>.set 3 rfl|>.set 3 rfl)|>.set 2 rfl|>.set 2 rfl).cell 0 2 rfl rfl,((hCb.out|>.set 3 rfl|>.set 3 rfl)|>.set 2 rfl|>.set 2 rfl).cell 0 3 rfl rfl,trivial⟩)
    | (with_reducible refine And.intro (?_:World.cell? (World.alloc (World.setCell (World.setCell (World.alloc wb _) _ _) _ _) _) _=_) ?_;exact((hCb.out.al (wb.heap.size) #[.int .i64 0,.slice none 0 0] 48 rfl rfl)|>.set 2 rfl|>.set 2 rfl).row.cell 0 0 rfl rfl;exact⟨((hCb.out.al (wb.heap.size) #[.int .i64 0,.slice none 0 0] 48 rfl rfl)|>.set 2 rfl|>.set 2 rfl).row.cell 0 1 rfl rfl,((hCb.out.al (wb.heap.size) #[.int .i64 0,.slice none 0 0] 48 rfl rfl)|>.set 2 rfl|>.set 2 rfl).row.cell 0 2 rfl rfl,((hCb.out.al (wb.heap.size) #[.int .i64 0,.slice none 0 0] 48 rfl rfl)|>.set 2 rfl|>.set 2 rfl).row.cell 0 3 rfl rfl,trivial⟩)
    | (with_reducible refine And.intro (?_:World.cell? (World.alloc (World.setCell (World.setCell (World.alloc wb _) _ _) _ _) _) _=_) ?_;exact((hCb.out.al (wb.heap.size) #[.int .i64 0,.slice none 0 0] 48 rfl rfl)|>.set 3 rfl|>.set 3 rfl).row.cell 0 0 rfl rfl;exact⟨((hCb.out.al (wb.heap.size) #[.int .i64 0,.slice none 0 0] 48 rfl rfl)|>.set 3 rfl|>.set 3 rfl).row.cell 0 1 rfl rfl,((hCb.out.al (wb.heap.size) #[.int .i64 0,.slice none 0 0] 48 rfl rfl)|>.set 3 rfl|>.set 3 rfl).row.cell 0 2 rfl rfl,((hCb.out.al (wb.heap.size) #[.int .i64 0,.slice none 0 0] 48 rfl rfl)|>.set 3 rfl|>.set 3 rfl).row.cell 0 3 rfl rfl,trivial⟩)
    | (with_reducible refine And.intro (?_:World.cell? (World.setCell (World.setCell (World.alloc (World.alloc wb _) _) _ _) _ _) _=_) ?_;exact(((hCb.out.al (wb.heap.size) #[.int .i64 0,.slice none 0 0] 48 rfl rfl).al (wb.heap.size+1) #[.int .i64 0,.slice none 0 0] 48 (by simp) rfl)|>.set 2 rfl|>.set 2 rfl).cell 0 0 rfl rfl;exact⟨(((hCb.out.al (wb.heap.size) #[.int .i64 0,.slice none 0 0] 48 rfl rfl).al (wb.heap.size+1) #[.int .i64 0,.slice none 0 0] 48 (by simp) rfl)|>.set 2 rfl|>.set 2 rfl).cell 0 1 rfl rfl,(((hCb.out.al (wb.heap.size) #[.int .i64 0,.slice none 0 0] 48 rfl rfl).al (wb.heap.size+1) #[.int .i64 0,.slice none 0 0] 48 (by simp) rfl)|>.set 2 rfl|>.set 2 rfl).cell 0 2 rfl rfl,(((hCb.out.al (wb.heap.size) #[.int .i64 0,.slice none 0 0] 48 rfl rfl).al (wb.heap.size+1) #[.int .i64 0,.slice none 0 0] 48 (by simp) rfl)|>.set 2 rfl|>.set 2 rfl).cell 0 3 rfl rfl,trivial⟩)
    | (with_reducible refine And.intro (?_:World.cell? (World.setCell (World.setCell (World.alloc (World.alloc wb _) _) _ _) _ _) _=_) ?_;exact(((hCb.out.al (wb.heap.size) #[.int .i64 0,.slice none 0 0] 48 rfl rfl).al (wb.heap.size+1) #[.int .i64 0,.slice none 0 0] 48 (by simp) rfl)|>.set 3 rfl|>.set 3 rfl).cell 0 0 rfl rfl;exact⟨(((hCb.out.al (wb.heap.size) #[.int .i64 0,.slice none 0 0] 48 rfl rfl).al (wb.heap.size+1) #[.int .i64 0,.slice none 0 0] 48 (by simp) rfl)|>.set 3 rfl|>.set 3 rfl).cell 0 1 rfl rfl,(((hCb.out.al (wb.heap.size) #[.int .i64 0,.slice none 0 0] 48 rfl rfl).al (wb.heap.size+1) #[.int .i64 0,.slice none 0 0] 48 (by simp) rfl)|>.set 3 rfl|>.set 3 rfl).cell 0 2 rfl rfl,(((hCb.out.al (wb.heap.size) #[.int .i64 0,.slice none 0 0] 48 rfl rfl).al (wb.heap.size+1) #[.int .i64 0,.slice none 0 0] 48 (by simp) rfl)|>.set 3 rfl|>.set 3 rfl).cell 0 3 rfl rfl,trivial⟩)
    | (with_reducible refine And.intro (?_:World.cell? (World.alloc (World.setCell (World.setCell wb _ _) _ _) _) _=_) ?_;exact(hCb.out|>.set 2 rfl|>.set 2 rfl).row.cell 0 0 rfl rfl;exact⟨(hCb.out|>.set 2 rfl|>.set 2 rfl).row.cell 0 1 rfl rfl,(hCb.out|>.set 2 rfl|>.set 2 rfl).row.cell 0 2 rfl rfl,(hCb.out|>.set 2 rfl|>.set 2 rfl).row.cell 0 3 rfl rfl,trivial⟩)
    | (with_reducible refine And.intro (?_:World.cell? (World.alloc (World.setCell (World.setCell wb _ _) _ _) _) _=_) ?_;exact(hCb.out|>.set 3 rfl|>.set 3 rfl).row.cell 0 0 rfl rfl;exact⟨(hCb.out|>.set 3 rfl|>.set 3 rfl).row.cell 0 1 rfl rfl,(hCb.out|>.set 3 rfl|>.set 3 rfl).row.cell 0 2 rfl rfl,(hCb.out|>.set 3 rfl|>.set 3 rfl).row.cell 0 3 rfl rfl,trivial⟩)
    | (with_reducible refine And.intro (?_:World.cell? (World.setCell (World.setCell (World.alloc wb _) _ _) _ _) _=_) ?_;exact((hCb.out.al (wb.heap.size) #[.int .i64 0,.slice none 0 0] 48 rfl rfl)|>.set 2 rfl|>.set 2 rfl).cell 0 0 rfl rfl;exact⟨((hCb.out.al (wb.heap.size) #[.int .i64 0,.slice none 0 0] 48 rfl rfl)|>.set 2 rfl|>.set 2 rfl).cell 0 1 rfl rfl,((hCb.out.al (wb.heap.size) #[.int .i64 0,.slice none 0 0] 48 rfl rfl)|>.set 2 rfl|>.set 2 rfl).cell 0 2 rfl rfl,((hCb.out.al (wb.heap.size) #[.int .i64 0,.slice none 0 0] 48 rfl rfl)|>.set 2 rfl|>.set 2 rfl).cell 0 3 rfl rfl,trivial⟩)
    | (with_reducible refine And.intro (?_:World.cell? (World.setCell (World.setCell (World.alloc wb _) _ _) _ _) _=_) ?_;exact((hCb.out.al (wb.heap.size) #[.int .i64 0,.slice none 0 0] 48 rfl rfl)|>.set 3 rfl|>.set 3 rfl).cell 0 0 rfl rfl;exact⟨((hCb.out.al (wb.heap.size) #[.int .i64 0,.slice none 0 0] 48 rfl rfl)|>.set 3 rfl|>.set 3 rfl).cell 0 1 rfl rfl,((hCb.out.al (wb.heap.size) #[.int .i64 0,.slice none 0 0] 48 rfl rfl)|>.set 3 rfl|>.set 3 rfl).cell 0 2 rfl rfl,((hCb.out.al (wb.heap.size) #[.int .i64 0,.slice none 0 0] 48 rfl rfl)|>.set 3 rfl|>.set 3 rfl).cell 0 3 rfl rfl,trivial⟩)
    | (with_reducible refine And.intro (?_:World.cell? (World.setCell (World.setCell wb _ _) _ _) _=_) ?_;exact(hCb.out|>.set 2 rfl|>.set 2 rfl).cell 0 0 rfl rfl;exact⟨(hCb.out|>.set 2 rfl|>.set 2 rfl).cell 0 1 rfl rfl,(hCb.out|>.set 2 rfl|>.set 2 rfl).cell 0 2 rfl rfl,(hCb.out|>.set 2 rfl|>.set 2 rfl).cell 0 3 rfl rfl,trivial⟩)
    | (with_reducible refine And.intro (?_:World.cell? (World.setCell (World.setCell wb _ _) _ _) _=_) ?_;exact(hCb.out|>.set 3 rfl|>.set 3 rfl).cell 0 0 rfl rfl;exact⟨(hCb.out|>.set 3 rfl|>.set 3 rfl).cell 0 1 rfl rfl,(hCb.out|>.set 3 rfl|>.set 3 rfl).cell 0 2 rfl rfl,(hCb.out|>.set 3 rfl|>.set 3 rfl).cell 0 3 rfl rfl,trivial⟩)
    | (with_reducible refine And.intro (?_:World.cell? (World.alloc (World.alloc wb _) _) _=_) ?_;exact((hCb.out.al (wb.heap.size) #[.int .i64 0,.slice none 0 0] 48 rfl rfl).al (wb.heap.size+1) #[.int .i64 0,.slice none 0 0] 48 (by simp) rfl).cell 0 0 rfl rfl;have Yx:=(hCb.out.al (wb.heap.size) #[.int .i64 0,.slice none 0 0] 48 rfl rfl).al (wb.heap.size+1) #[.int .i64 0,.slice none 0 0] 48 (by simp) rfl;exact⟨Yx.cell 0 1 rfl rfl,Yx.cell 0 2 rfl rfl,Yx.cell 0 3 rfl rfl,trivial⟩)
    | (with_reducible refine And.intro (?_:World.cell? (World.alloc wb _) _=_) ?_;exact(hCb.out.al (wb.heap.size) #[.int .i64 0,.slice none 0 0] 48 rfl rfl).cell 0 0 rfl rfl;have Yx:=hCb.out.al (wb.heap.size) #[.int .i64 0,.slice none 0 0] 48 rfl rfl;exact⟨Yx.cell 0 1 rfl rfl,Yx.cell 0 2 rfl rfl,Yx.cell 0 3 rfl rfl,trivial⟩)
    | (with_reducible refine And.intro (?_:World.cell? wb _=_) ?_;exact hCb.out.cell 0 0 rfl rfl;exact⟨hCb.out.cell 0 1 rfl rfl,hCb.out.cell 0 2 rfl rfl,hCb.out.cell 0 3 rfl rfl,trivial⟩)
    | (with_reducible refine And.intro (?_:World.cell? (World.alloc (World.alloc wa _) _) _=_) ?_;exact((hCa.out.al (wa.heap.size) #[.int .i64 0,.slice none 0 0] 48 rfl rfl).al (wa.heap.size+1) #[.int .i64 0,.slice none 0 0] 48 (by simp) rfl).cell 0 0 rfl rfl;have Yx:=(hCa.out.al (wa.heap.size) #[.int .i64 0,.slice none 0 0] 48 rfl rfl).al (wa.heap.size+1) #[.int .i64 0,.slice none 0 0] 48 (by simp) rfl;exact⟨Yx.cell 0 1 rfl rfl,Yx.cell 0 2 rfl rfl,Yx.cell 0 3 rfl rfl,trivial⟩)
    | (with_reducible refine And.intro (?_:World.cell? (World.alloc wa _) _=_) ?_;exact(hCa.out.al (wa.heap.size) #[.int .i64 0,.slice none 0 0] 48 rfl rfl).cell 0 0 rfl rfl;have Yx:=hCa.out.al (wa.heap.size) #[.int .i64 0,.slice none 0 0] 48 rfl rfl;exact⟨Yx.cell 0 1 rfl rfl,Yx.cell 0 2 rfl rfl,Yx.cell 0 3 rfl rfl,trivial⟩)
    | (with_reducible refine And.intro (?_:World.cell? wa _=_) ?_;exact hCa.out.cell 0 0 rfl rfl;exact⟨hCa.out.cell 0 1 rfl rfl,hCa.out.cell 0 2 rfl rfl,hCa.out.cell 0 3 rfl rfl,trivial⟩)
    | (with_reducible refine And.intro (?_:World.cell? (World.drew (World.alloc (World.alloc W1 _) _)) _=_) ?_;exact((hC.out.al (W1.heap.size) #[.int .i64 0,.slice none 0 0] 48 rfl rfl).al (W1.heap.size+1) #[.int .i64 0,.slice none 0 0] 48 (by simp) rfl).drew.cell 0 0 rfl rfl;have Yx:=((hC.out.al (W1.heap.size) #[.int .i64 0,.slice none 0 0] 48 rfl rfl).al (W1.heap.size+1) #[.int .i64 0,.slice none 0 0] 48 (by simp) rfl).drew;exact⟨Yx.cell 0 1 rfl rfl,Yx.cell 0 2 rfl rfl,Yx.cell 0 3 rfl rfl,trivial⟩)
    | (with_reducible refine And.intro (?_:World.cell? (World.drew (World.alloc W1 _)) _=_) ?_;exact(hC.out.al (W1.heap.size) #[.int .i64 0,.slice none 0 0] 48 rfl rfl).drew.cell 0 0 rfl rfl;have Yx:=(hC.out.al (W1.heap.size) #[.int .i64 0,.slice none 0 0] 48 rfl rfl).drew;exact⟨Yx.cell 0 1 rfl rfl,Yx.cell 0 2 rfl rfl,Yx.cell 0 3 rfl rfl,trivial⟩)
    | (with_reducible refine And.intro (?_:World.cell? (World.drew W1) _=_) ?_;exact hC.out.drew.cell 0 0 rfl rfl;exact⟨hC.out.drew.cell 0 1 rfl rfl,hC.out.drew.cell 0 2 rfl rfl,hC.out.drew.cell 0 3 rfl rfl,trivial⟩)
    | (with_reducible refine And.intro (?_:World.cell? (World.alloc (World.alloc wb _) _) _=_) ?_;exact hCb.out.row.row.cell 0 0 rfl rfl;exact⟨hCb.out.row.row.cell 0 1 rfl rfl,hCb.out.row.row.cell 0 2 rfl rfl,hCb.out.row.row.cell 0 3 rfl rfl,trivial⟩)
    | (with_reducible refine And.intro (?_:World.cell? (World.alloc wb _) _=_) ?_;exact hCb.out.row.cell 0 0 rfl rfl;exact⟨hCb.out.row.cell 0 1 rfl rfl,hCb.out.row.cell 0 2 rfl rfl,hCb.out.row.cell 0 3 rfl rfl,trivial⟩))
   (first
    | (have _t:=hCa;go_at_call 163;(first | (have P:=(hCa.out.rq 0 rfl).n;have P2:=hCa.out.n 1 rfl;(with_reducible refine(zquotN_b P P2 HD.out B1.out.num B1.out.den HK1.out HK1.out).mono ?_);rintro e wb ⟨s4,a4,n4,c4,s5,a5,n5,c5,rfl,hz,hr,hb⟩;have hCb:=ζ ((hCa.out.call hb).pn hz);clear hz hb P P2 hr) | (have P:=((hCa.out.al (wa.heap.size) #[.int .i64 0,.slice none 0 0] 48 rfl rfl).rq 0 rfl).n;have P2:=(hCa.out.al (wa.heap.size) #[.int .i64 0,.slice none 0 0] 48 rfl rfl).n 1 rfl;(with_reducible refine(zquotN_b P P2 HD.out B1.out.num B1.out.den HK1.out HK1.out).mono ?_);rintro e wb ⟨s4,a4,n4,c4,s5,a5,n5,c5,rfl,hz,hr,hb⟩;have hCb:=ζ (((hCa.out.al (wa.heap.size) #[.int .i64 0,.slice none 0 0] 48 rfl rfl).call hb).pn hz);clear hz hb P P2 hr) | (have P:=(((hCa.out.al (wa.heap.size) #[.int .i64 0,.slice none 0 0] 48 rfl rfl).al (wa.heap.size+1) #[.int .i64 0,.slice none 0 0] 48 (by simp) rfl).rq 0 rfl).n;have P2:=((hCa.out.al (wa.heap.size) #[.int .i64 0,.slice none 0 0] 48 rfl rfl).al (wa.heap.size+1) #[.int .i64 0,.slice none 0 0] 48 (by simp) rfl).n 1 rfl;(with_reducible refine(zquotN_b P P2 HD.out B1.out.num B1.out.den HK1.out HK1.out).mono ?_);rintro e wb ⟨s4,a4,n4,c4,s5,a5,n5,c5,rfl,hz,hr,hb⟩;have hCb:=ζ ((((hCa.out.al (wa.heap.size) #[.int .i64 0,.slice none 0 0] 48 rfl rfl).al (wa.heap.size+1) #[.int .i64 0,.slice none 0 0] 48 (by simp) rfl).call hb).pn hz);clear hz hb P P2 hr));(try have c20:=hCb.out.cell 2 0 rfl rfl);(try have c21:=hCb.out.cell 2 1 rfl rfl);(try have c30:=hCb.out.cell 3 0 rfl rfl);(try have c31:=hCb.out.cell 3 1 rfl rfl);(try have f20:=hCb.out.free 2 0 rfl);(try have f21:=hCb.out.free 2 1 rfl);(try have f30:=hCb.out.free 3 0 rfl);(try have f31:=hCb.out.free 3 1 rfl);(try have l2:=hCb.out.lt 2 rfl);(try have l3:=hCb.out.lt 3 rfl);(try have l23:=hCb.out.apart 2 3 rfl rfl (by omega));(try have l32:=(hCb.out.apart 2 3 rfl rfl (by omega)).symm);clear _t hCa)
    | (have _t:=hC;go_at_call 136;(first | (have P:=(hC.out.drew).rq 0 rfl;(with_reducible refine(denN_b P).mono ?_);rintro e wa ⟨s3,a3,n3,c3,rfl,hz,hb⟩;have hCa:=ζ ((hC.out.drew.call hb).pn hz);clear hz hb P) | (have P:=((hC.out.al (W1.heap.size) #[.int .i64 0,.slice none 0 0] 48 rfl rfl).drew).rq 0 rfl;(with_reducible refine(denN_b P).mono ?_);rintro e wa ⟨s3,a3,n3,c3,rfl,hz,hb⟩;have hCa:=ζ (((hC.out.al (W1.heap.size) #[.int .i64 0,.slice none 0 0] 48 rfl rfl).drew.call hb).pn hz);clear hz hb P) | (have P:=(((hC.out.al (W1.heap.size) #[.int .i64 0,.slice none 0 0] 48 rfl rfl).al (W1.heap.size+1) #[.int .i64 0,.slice none 0 0] 48 (by simp) rfl).drew).rq 0 rfl;(with_reducible refine(denN_b P).mono ?_);rintro e wa ⟨s3,a3,n3,c3,rfl,hz,hb⟩;have hCa:=ζ ((((hC.out.al (W1.heap.size) #[.int .i64 0,.slice none 0 0] 48 rfl rfl).al (W1.heap.size+1) #[.int .i64 0,.slice none 0 0] 48 (by simp) rfl).drew.call hb).pn hz);clear hz hb P));clear _t hC)
    | fail)
  all_goals (go_wp2_with fail;go_meet)
  all_goals (first
   | (refine⟨_,s4,a4,n4,c4,rfl,?_⟩;(with_reducible refine(?_:Hid (St w (World.alloc (World.alloc wb _) _) _ _)));exact ζ (St.pick (St.bpick ((hCb.out.al (wb.heap.size) #[.int .i64 s4,.slice a4 n4 c4] 48 rfl rfl).al (wb.heap.size+1) #[.int .i64 s5,.slice a5 n5 c5] 48 (by simp) rfl) [0,1,2] (by decide) rfl) [2] rfl))
   | (refine⟨_,s4,a4,n4,c4,rfl,?_⟩;(with_reducible refine(?_:Hid (St w (World.alloc (World.setCell (World.setCell wb _ _) _ _) _) _ _)));exact ζ (St.pick (St.bpick ((hCb.out|>.set 2 rfl|>.set 2 rfl).al (wb.heap.size) #[.int .i64 s5,.slice a5 n5 c5] 48 (by simp [World.setCell]) rfl) [0,1,2] (by decide) rfl) [2] rfl))
   | (refine⟨_,s4,a4,n4,c4,rfl,?_⟩;(with_reducible refine(?_:Hid (St w (World.alloc (World.alloc wb _) _) _ _)));exact ζ (St.pick (St.bpick ((hCb.out.al (wb.heap.size) #[.int .i64 s5,.slice a5 n5 c5] 48 rfl rfl).al (wb.heap.size+1) #[.int .i64 s4,.slice a4 n4 c4] 48 (by simp) rfl) [0,1,3] (by decide) rfl) [2] rfl))
   | (refine⟨_,s4,a4,n4,c4,rfl,?_⟩;(with_reducible refine(?_:Hid (St w (World.alloc (World.setCell (World.setCell wb _ _) _ _) _) _ _)));exact ζ (St.pick (St.bpick ((hCb.out|>.set 2 rfl|>.set 2 rfl).al (wb.heap.size) #[.int .i64 s4,.slice a4 n4 c4] 48 (by simp [World.setCell]) rfl) [0,1,3] (by decide) rfl) [2] rfl))
   | (refine⟨_,s4,a4,n4,c4,rfl,?_⟩;(with_reducible refine(?_:Hid (St w (World.setCell (World.setCell (World.setCell (World.setCell wb _ _) _ _) _ _) _ _) _ _)));exact ζ (St.pick (St.bpick ((hCb.out|>.set 2 rfl|>.set 2 rfl)|>.set 3 rfl|>.set 3 rfl) [0,1,2] (by decide) rfl) [2] rfl))
   | (refine⟨_,s4,a4,n4,c4,rfl,?_⟩;(with_reducible refine(?_:Hid (St w (World.setCell (World.setCell (World.setCell (World.setCell wb _ _) _ _) _ _) _ _) _ _)));exact ζ (St.pick (St.bpick ((hCb.out|>.set 3 rfl|>.set 3 rfl)|>.set 2 rfl|>.set 2 rfl) [0,1,3] (by decide) rfl) [2] rfl)))
 case rest=>
  obtain ⟨bx,s4,a4,n4,c4,rfl,hD⟩:=hcut
  clear hC
  have hD_c10:=hD.out.cell 1 0 rfl rfl
  have hD_f10:=hD.out.free 1 0 rfl
  have hD_c11:=hD.out.cell 1 1 rfl rfl
  have hD_f11:=hD.out.free 1 1 rfl
  have hD_c20:=hD.out.cell 2 0 rfl rfl
  have hD_f20:=hD.out.free 2 0 rfl
  have hD_c21:=hD.out.cell 2 1 rfl rfl
  have hD_f21:=hD.out.free 2 1 rfl
  go_wp2
  refine ret_st (hD.out|>.set 1 rfl|>.set 1 rfl) (v:= .agg #[.int .i64 s4,.slice a4 n4 c4]) (fun hF=>?_) rfl (fun hF=>⟨_,_,_,_,rfl,hF.n 0 rfl,hF.be⟩)
  ·have e0:=hF.cell 1 0 rfl rfl
   have e1:=hF.cell 1 1 rfl rfl
   simp [results,Tryz.results125,go_sem,e0,e1]
section
variable {w:World} {s1:Int} {a1:Option Addr} {n1 c1:Nat} {t1:Int} {d1:Option Addr} {e1 f1:Nat} {q1:Rat} {s2:Int} {a2:Option Addr} {n2 c2:Nat} {t2:Int} {d2:Option Addr} {e2 f2:Nat} {q2:Rat} {k1 k2:Nat}
theorem rfloorN_b (h1:Nq w s1 (.slice a1 n1 c1) t1 (.slice d1 e1 f1) q1) (b1:Bq k1 q1) (hk1:k1≤40000):
  Calls Tryz.prog 125 #[.agg #[.int .i64 s1,.slice a1 n1 c1,.int .i64 t1,.slice d1 e1 f1]] w (RetN w q1.floor):=by
 rw [←floor_eq];exact rfloorN_any _ _ _ _ _ _ _ _ _ _ h1 k1 b1 hk1
theorem rcmpN_is {v:Int} (h1:Nq w s1 (.slice a1 n1 c1) t1 (.slice d1 e1 f1) q1) (h2:Nq w s2 (.slice a2 n2 c2) t2 (.slice d2 e2 f2) q2) (b1:Bq k1 q1) (b2:Bq k2 q2) (hk1:k1≤40000) (hk2:k2≤40000) (hv:cmpQ q1 q2=v):
  Calls Tryz.prog 81 #[.agg #[.int .i64 s1,.slice a1 n1 c1,.int .i64 t1,.slice d1 e1 f1],.agg #[.int .i64 s2,.slice a2 n2 c2,.int .i64 t2,.slice d2 e2 f2]] w fun e w'=>e= .returned (.int .i64 v)∧Below w.heap.size w w':=by
 subst hv;rw [←sgn_cross];exact rcmpN_any _ _ _ _ _ _ _ _ _ _ _ _ _ _ _ _ _ _ _ h1 h2 k1 k2 b1 b2 hk1 hk2
end
theorem rceilN_any (s1:Int) (a1:Option Addr) (n1 c1:Nat) (t1:Int) (d1:Option Addr) (e1 f1:Nat) (q1:Rat) (w:World) (h1:Nq w s1 (.slice a1 n1 c1) t1 (.slice d1 e1 f1) q1) (k1:Nat) (b1:Bq k1 q1) (hk1:k1≤40000):
  Calls Tryz.prog 126 #[.agg #[.int .i64 s1,.slice a1 n1 c1,.int .i64 t1,.slice d1 e1 f1]] w (RetN w (-((-q1).floor))):=by
 have B1:=ζ b1
 clear b1
 have hC:=ζ ((((St.enter w).pq h1).al (w.heap.size) #[.int .i64 s1,.slice a1 n1 c1,.int .i64 t1,.slice d1 e1 f1] 50 rfl rfl).al (w.heap.size+1) #[.int .i64 0,.slice none 0 0] 48 (by simp) rfl)
 clear h1
 go_enter Tryz.func126,Tryz.ntmps126
 have hC_c00:=hC.out.cell 0 0 rfl rfl
 have hC_f00:=hC.out.free 0 0 rfl
 have hC_c01:=hC.out.cell 0 1 rfl rfl
 have hC_f01:=hC.out.free 0 1 rfl
 have hC_c02:=hC.out.cell 0 2 rfl rfl
 have hC_f02:=hC.out.free 0 2 rfl
 have hC_c03:=hC.out.cell 0 3 rfl rfl
 have hC_f03:=hC.out.free 0 3 rfl
 go_wp2_with fail
 refine(rnegN_b (hC.out.rq 0 rfl)).mono ?_
 rintro e w3 ⟨s3,a3,n3,c3,t3,d3,e3,f3,rfl,hz,hb⟩
 have hC3:=ζ ((hC.out.call hb).pq hz)
 clear hb hz
 clear hC
 go_wp2_with fail
 refine(rfloorN_b (hC3.out.rq 1 rfl) B1.out.neg (by omega)).mono ?_
 rintro e w4 ⟨s4,a4,n4,c4,rfl,hz,hb⟩
 have hC4:=ζ ((hC3.out.call hb).pn hz)
 clear hb hz
 clear hC3
 go_wp2_with fail
 refine(negN_b (hC4.out.n 2 rfl)).mono ?_
 rintro e w5 ⟨s5,a5,n5,c5,rfl,hz,hb⟩
 have hC5:=ζ ((hC4.out.call hb).pn hz)
 clear hb hz
 clear hC4
 have hC5_c10:=hC5.out.cell 1 0 rfl rfl
 have hC5_f10:=hC5.out.free 1 0 rfl
 have hC5_c11:=hC5.out.cell 1 1 rfl rfl
 have hC5_f11:=hC5.out.free 1 1 rfl
 go_wp2
 refine ret_st (hC5.out|>.set 1 rfl|>.set 1 rfl) (v:= .agg #[.int .i64 s5,.slice a5 n5 c5]) (fun hF=>?_) rfl (fun hF=>⟨_,_,_,_,rfl,hF.n 3 rfl,hF.be⟩)
 ·have e0:=hF.cell 1 0 rfl rfl
  have e1:=hF.cell 1 1 rfl rfl
  simp [results,Tryz.results126,go_sem,e0,e1]
end
end Go.Proofs.YthmdhlopeponcaaGreatDoor
