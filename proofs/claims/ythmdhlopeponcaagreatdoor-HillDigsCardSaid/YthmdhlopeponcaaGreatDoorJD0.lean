/- part -/
import Derived.Test.YthmdhlopeponcaaGreatDoorJ42
import Derived.Test.YthmdhlopeponcaaGreatDoorJ25
import Derived.Test.YthmdhlopeponcaaGreatDoorJ1
import Derived.Test.YthmdhlopeponcaaGreatDoorJ44
import Derived.Test.YthmdhlopeponcaaGreatDoorJ23
import Derived.Test.YthmdhlopeponcaaGreatDoorJ0
import Derived.Test.YthmdhlopeponcaaGreatDoorJ30
import Derived.Test.YthmdhlopeponcaaGreatDoorJ45
import Derived.Test.YthmdhlopeponcaaGreatDoorJ47
section
namespace Go.Proofs.YthmdhlopeponcaaGreatDoor
open Go.RowKit Go.Shelf Dig
section
variable (w:World)
end
end Go.Proofs.YthmdhlopeponcaaGreatDoor
end
section
namespace Go.Proofs.YthmdhlopeponcaaGreatDoor
section
variable {l:List Pt} {bs:List Int} {d e r:Int}
theorem brk_at (hk:brkB l bs=true) {i:Nat} (h:i+1 < bs.length):Strt l (bX bs i) (bX bs (i+1)):=by
 have hm:((bX bs i,bX bs (i+1)):Int×Int)∈nbr bs:=by
  rw [bX_at h,bX_at (show i < bs.length by omega)];exact List.mem_of_getElem? (nbr_get h)
 exact brk_strt hk hm
end
end Go.Proofs.YthmdhlopeponcaaGreatDoor
end
section
namespace Go.Proofs.YthmdhlopeponcaaGreatDoor
open Go.RowKit Go.Shelf Dig
section
variable (w:World)
end
end Go.Proofs.YthmdhlopeponcaaGreatDoor
end
section
set_option maxRecDepth 100000
set_option maxHeartbeats 8000000
namespace Go.Proofs.YthmdhlopeponcaaGreatDoor
open Go.RowKit Go.Shelf Dig
theorem rDig_any (w:World) (a:OA) (n c:Nat) (l:List Pt) (ba:OA) (bn bc:Nat) (bs:List Int) (za:OA) (zn zc:Nat) (zs:List Int) (hs:Sx 2 w a n c (L2 l)) (hb:Sx 1 w ba bn bc (L1 bs)) (hz:Sx 1 w za zn zc (L1 zs)) (hok:digB l bs zs=true):
  Calls Tryz.prog 30 #[.slice a n c,.slice ba bn bc,.slice za zn zc] w (RetNQ w (digQ l bs zs)):=by
 obtain rfl:=hb.n1
 obtain rfl:=hz.n1
 have hok2:=hok
 unfold digB at hok2
 rw [Bool.and_eq_true,Bool.not_eq_true']at hok2
 obtain ⟨hk1,hk2⟩:=hok2
 obtain ⟨hzl,hzb⟩:=wrongB_no hk2
 obtain ⟨-,hbn,-,-⟩:=brk_ok hk1
 obtain ⟨gb,ob,rfl⟩:=hb.addr (by omega)
 obtain ⟨gz,oz,rfl⟩:=hz.addr (by omega)
 obtain ⟨nn,hnn⟩:∃nn,nn=bs.length - 1:=⟨_,rfl⟩
 have HBL:=ζ (show bs.length=nn+1 by omega)
 have HZL:=ζ (show zs.length=nn by omega)
 have HBX:=ζ (fun W (hW:Below w.heap.size w W) k (h:k < bs.length)=>(hb.below hW).atX h)
 have HZX:=ζ (fun W (hW:Below w.heap.size w W) k (h:k < zs.length)=>(hz.below hW).atX h)
 have HAB:=ζ (fun W (hW:Below w.heap.size w W) k (h:k+1 < bs.length) z (hz:z∈zs)=>rAbove_any W a n c l (bX bs k) (bX bs (k+1)) z (hs.below hW) (brk_at hk1 h) (hzb z hz))
 have HAQ:=ζ (fun k (h:k+1 < bs.length) z (hz:z∈zs)=>(brk_at hk1 h).above_bq (z:=z) (by have:=hzb z hz;unfold InZ;omega))
 have HBQ:=ζ (fun k=>dig_bq hk1 (fun z hz=>by have:=hzb z hz;unfold InZ;omega) hzl k)
 have HDL:=ζ (digP_len hzl)
 have HNG:=ζ (fun i (q:i+1 < bs.length)=>nbr_get (l:=bs) q)
 have HNL:=ζ (nbr_len bs)
 have HFIN:=ζ (show smQ (((digP bs zs).take nn).map (digA l))=digQ l bs zs by unfold digQ;rw [List.take_of_length_le (by rw [digP_len hzl];omega)])
 have hn1:0 < nn/\nn<=60:=by omega
 have H0:=ζ (fun W=>show Calls Tryz.prog 72 #[.int .i64 0] W (RetNQ W 0)by have h:=rOf_any W 0 (by omega);exact h)
 clear hs hb hz hok hk1 hk2 hzb hzl hbn hnn
 generalize digQ l bs zs=ans at*
 have hC:=ζ ((Sy.enter w).al w.heap.size #[.int .i64 0,.slice none 0 0,.int .i64 0,.slice none 0 0] 50 rfl)
 go_enter Tryz.func30,Tryz.ntmps30
 go_wp2_with fail
 refine(H0.out _).mono ?_
 rintro e W2 ⟨s0,a0,n0,c0,t0,d0,e0,f0,rfl,hq,hb⟩
 have hE:=ζ ((hC.out.call hb).pq rfl rfl hq)
 clear hb hq hC
 have hX:=ζ (hE.out.al W2.heap.size #[.int .i64 s0,.slice a0 n0 c0,.int .i64 t0,.slice d0 e0 f0] 50 rfl)
 go_upto_region 3 with fail
 obtain ⟨b7,hb7⟩:∃b,W2.heap.size=b:=⟨_,rfl⟩
 rw [hb7]at hX⊢
 refine wp_geny hX.out ?_
 intro V2 hc
 have hF:=ζ hc
 clear hc hX hE hb7
 go_wp2
 go_loopw [8] (fun iv wr=>∃ (k:Nat) (s1:Int) (a1:OA) (n1 c1:Nat) (t1:Int) (d1:OA) (e1 f1:Nat),k<=nn/\iv= .int .i64 k/\Hid (Sy w wr [(w.heap.size,#[.int .i64 0,.slice none 0 0,.int .i64 0,.slice none 0 0],50),(b7,#[.int .i64 s1,.slice a1 n1 c1,.int .i64 t1,.slice d1 e1 f1],50)] [] [(fun V=>Nq V s1 (.slice a1 n1 c1) t1 (.slice d1 e1 f1) (smQ (((digP bs zs).take k).map (digA l))))])) (fun iv _=>nn - (intOf iv).toNat)
 case atStart=>exact⟨0,s0,a0,n0,c0,t0,d0,e0,f0,Nat.zero_le _,rfl,hF⟩
 case round=>
  clear hF
  obtain ⟨k,s1,a1,n1,c1,t1,d1,e1,f1,hk,rfl,hS⟩:=hrel
  obtain ⟨k1,hk1⟩:∃j,j=k+1:=⟨_,rfl⟩
  have i5:IntKind.i64.wrap ((k:Int)+1)=(k1:Int):=by rw [IntWalk.i64_in _ (by omega)];omega
  by_cases hlt:k < nn
  ·have hr1:k+1 < bs.length:=by rw [HBL.out];omega
   have hz0:k < zs.length:=by rw [HZL.out];exact hlt
   have hkn:k < (nbr bs).length:=by rw [HNL.out];omega
   have hkd:k < (digP bs zs).length:=by rw [HDL.out,HBL.out];omega
   have HX0:=ζ (fun W hW=>HBX.out W hW k (by omega))
   have HX1:=ζ (fun W hW=>HBX.out W hW (k+1) hr1)
   have HX2:=ζ (fun W hW=>HZX.out W hW k hz0)
   have hzm:bX zs k∈zs:=by rw [bX_at hz0];exact List.getElem_mem _
   have HCA:=ζ (fun W hW=>HAB.out W hW k hr1 _ hzm)
   have BA:=ζ (HAQ.out k hr1 _ hzm)
   have BS:=ζ (HBQ.out k)
   have HTK:=ζ (show smQ (((digP bs zs).take (k+1)).map (digA l))=smQ (((digP bs zs).take k).map (digA l))+above l (bX bs k) (bX bs (k+1)) (bX zs k)by
    rw [List.take_succ_eq_append_getElem hkd,List.map_append,List.map_singleton,smQ_snoc,digP_at hkn hz0 hkd,bX_at hz0]
    have:=HNG.out k hr1
    rw [List.getElem?_eq_getElem hkn]at this
    simp only [Option.some.injEq]at this
    rw [this,bX_at hr1,bX_at (show k < bs.length by omega)];rfl)
   generalize smQ (((digP bs zs).take k).map (digA l))=pq at*
   generalize above l (bX bs k) (bX bs (k+1)) (bX zs k)=qa at*
   generalize bX bs (k+1)=v at*
   generalize bX bs k=u at*
   generalize bX zs k=z at*
   rw [<-hk1]at HX1
   have i0:(0:Int)<=(k:Int):=by omega
   have i4:(k:Int) < (bs.length:Int):=by rw [HBL.out];omega
   have i6:(0:Int)<=(k1:Int):=by omega
   have i7:(k1:Int) < (bs.length:Int):=by rw [HBL.out];omega
   have i8:(k:Int) < (zs.length:Int):=by rw [HZL.out];omega
   have HK1:=ζ hk1
   clear hk1 hr1 hz0 hkn hkd hzm
   go_upto_region 5 with fail
   have HSL:∀V ex os rs,Sy w V ([(w.heap.size,#[.int .i64 0,.slice none 0 0,.int .i64 0,.slice none 0 0],50),(b7,#[.int .i64 s1,.slice a1 n1 c1,.int .i64 t1,.slice d1 e1 f1],50)]++ex) os rs->(fun w'=>w'.cell? ⟨gb,ob+k,none⟩=some (.int .i64 u)/\w'.cell? ⟨gb,ob+k1,none⟩=some (.int .i64 v)/\w'.cell? ⟨gz,oz+k,none⟩=some (.int .i64 z)/\True) V:=fun V ex os rs hX=>⟨(HX0.out _ hX.be),(HX1.out _ hX.be),(HX2.out _ hX.be),trivial⟩
   refine wp_region_held_drew (S:=(fun w'=>w'.cell? ⟨gb,ob+k,none⟩=some (.int .i64 u)/\w'.cell? ⟨gb,ob+k1,none⟩=some (.int .i64 v)/\w'.cell? ⟨gz,oz+k,none⟩=some (.int .i64 z)/\True)) (by kernel_rfl) ⟨(HX0.out _ hS.out.drew.be),(HX1.out _ hS.out.drew.be),(HX2.out _ hS.out.drew.be),trivial⟩ (fun hH=>?_)
   refine wpAnyH_geny (show Sy w _ [(w.heap.size,#[.int .i64 0,.slice none 0 0,.int .i64 0,.slice none 0 0],50),(b7,#[.int .i64 s1,.slice a1 n1 c1,.int .i64 t1,.slice d1 e1 f1],50)] [] [(fun V=>Nq V s1 (.slice a1 n1 c1) t1 (.slice d1 e1 f1) (pq))]from hS.out.drew) hH ?_
   intro AN hc AB
   have AC:=ζ hc
   clear hc hH hS
   refine' nodeM _ _ (_:q8 (Act)) (_:q8 (World->Prop)) (fun A B S_ G_=>∀sA aA nA cA tA dA eA fA V,S_ V->B sA aA nA cA tA dA eA fA V->G_ (A sA aA nA cA tA dA eA fA) V) (fun HMA0=>?bA0) ?pA0
   case bA0=>
    refine tkA 1 rfl AB ?_
    try simp only [zP]
    refine tkA 2 rfl AB ?_
    try simp only [zP]
    refine tkA 3 rfl AB ?_
    try simp only [zP]
    refine tkA 4 rfl AB ?_
    try simp only [zP]
    refine tkA 5 rfl AB ?_
    try simp only [zP]
    refine tkA 6 rfl AB ?_
    try simp only [zP]
    refine tkA 7 rfl AB ?_
    try simp only [zP]
    refine tkA 8 rfl AB ?_
    try simp only [zP]
    refine tkA 9 rfl AB ?_
    try simp only [zP]
    refine tkA 10 rfl AB ?_
    try simp only [zP]
    refine tkA 11 rfl AB ?_
    try simp only [zP]
    refine tkA 12 rfl AB ?_
    try simp only [zP]
    refine tkA 13 rfl AB ?_
    try simp only [zP]
    refine tkA 14 rfl AB ?_
    try simp only [zP]
    refine rdyL [0,15] ?_
    refine arc rfl (fun Kq AE=>?_) ?_
    ·have cQ0:=AC.out.c 1 0
     have cQ1:=AC.out.c 1 1
     have cQ2:=AC.out.c 1 2
     have cQ3:=AC.out.c 1 3
     go_simp
     refine stW AE AC.out ?_
     intro AI AA AF
     clear AE Kq cQ0 cQ1 cQ2 cQ3
     try simp only [zP]
     refine rdy1 15 rfl (fun Kq AE=>?_)
     go_simp
     go_at_call 50
     refine(HCA.out _ AA.out.be).mono ?_
     rintro e wT ⟨sA,aA,nA,cA,tA,dA,eA,fA,rfl,hz,hb⟩
     (try go_wp2_with fail)
     refine stW AE ((AA.out.call hb).pq rfl rfl hz) ?_
     intro AH AD AG
     clear AE Kq AA hb hz AF
     try simp only [zP]
     revert AD;exact HMA0 sA aA nA cA tA dA eA fA AH AG
    refine arc rfl (fun Kq AE=>?_) ?_
    ·go_simp
     go_at_call 50
     refine(HCA.out _ AC.out.be).mono ?_
     rintro e wT ⟨sA,aA,nA,cA,tA,dA,eA,fA,rfl,hz,hb⟩
     (try go_wp2_with fail)
     refine stW AE ((AC.out.call hb).pq rfl rfl hz) ?_
     intro AI AA AF
     clear AE Kq hb hz
     try simp only [zP]
     refine rdy1 0 rfl (fun Kq AE=>?_)
     have cQ0:=AA.out.c 1 0
     have cQ1:=AA.out.c 1 1
     have cQ2:=AA.out.c 1 2
     have cQ3:=AA.out.c 1 3
     go_simp
     refine stW AE AA.out ?_
     intro AH AD AG
     clear AE Kq AA cQ0 cQ1 cQ2 cQ3 AF
     try simp only [zP]
     exact nodeU (HMA0 sA aA nA cA tA dA eA fA AH AG AD) (by kernel_rfl)
    exact AllReadyH.nil
   case pA0=>
    intro sA aA nA cA tA dA eA fA VNA0 hHNA0 hVNA0
    show wpAnyH _ _ _ _ _ _ _ _ _
    replace hVNA0:=(show Hid _ from hVNA0)
    refine rdy1 16 rfl (fun Kq AE=>?_)
    go_simp
    go_at_call 73
    refine(raddN_b (hVNA0.out.r 0 rfl) (hVNA0.out.r 1 rfl) BS.out BA.out (by omega) (by omega)).mono ?_
    rintro e wT ⟨sE,aE,nE,cE,tE,dE,eE,fE,rfl,hz,hb⟩
    (try go_wp2_with fail)
    refine stW AE ((hVNA0.out.call hb).pq rfl rfl hz) ?_
    intro AI AA AF
    clear AE Kq hVNA0 hb hz hHNA0
    try simp only [zP]
    refine rdy1 17 rfl (fun Kq AE=>?_)
    have cQ0:=AA.out.c 1 0
    have fQ0:=AA.out.f 1 0
    have cQ1:=AA.out.c 1 1
    have fQ1:=AA.out.f 1 1
    have cQ2:=AA.out.c 1 2
    have fQ2:=AA.out.f 1 2
    have cQ3:=AA.out.c 1 3
    have fQ3:=AA.out.f 1 3
    go_simp
    refine stepZ AE (AA.out|>.set (j:=0) (v:= .int .i64 sE) 1 rfl|>.set (j:=1) (v:= .slice aE nE cE) 1 rfl|>.set (j:=2) (v:= .int .i64 tE) 1 rfl|>.set (j:=3) (v:= .slice dE eE fE) 1 rfl) (fun _ hX=>⟨(HX0.out _ hX.be),(HX1.out _ hX.be),(HX2.out _ hX.be),trivial⟩) ?_
    intro AH AD AG
    clear AE Kq AA cQ0 fQ0 cQ1 fQ1 cQ2 fQ2 cQ3 fQ3 AF
    try simp only [Act.put]
    refine wpAnyH_done (by kernel_rfl) ?_ _
    have hT:=ζ (AD.out.pick [2] (rs':=[(fun V=>Nq V sE (.slice aE nE cE) tE (.slice dE eE fE) (pq+qa))]) rfl)
    clear AD
    go_wp2
    go_roundw
    case rel=>exact⟨k+1,_,_,_,_,_,_,_,_,by omega,by have:=HK1.out;go_num,by rw [HTK.out];exact hT⟩
    case measure=>have:=HK1.out;simp [intOf];omega
  ·obtain rfl:k=nn:=by omega
   have i7:¬ (k1:Int) < (bs.length:Int):=by rw [HBL.out];omega
   rw [HFIN.out]at hS
   have AO:=hS.out.c 0 0
   have AJ:=hS.out.f 0 0
   have AP:=hS.out.c 0 1
   have AK:=hS.out.f 0 1
   have AQ:=hS.out.c 0 2
   have AL:=hS.out.f 0 2
   have AR:=hS.out.c 0 3
   have AM:=hS.out.f 0 3
   have y0:=hS.out.c 1 0
   have y1:=hS.out.c 1 1
   have y2:=hS.out.c 1 2
   have y3:=hS.out.c 1 3
   go_wp2
   have hZ:=ζ (hS.out|>.set (j:=0) (v:= .int .i64 s1) 0 rfl|>.set (j:=1) (v:= .slice a1 n1 c1) 0 rfl|>.set (j:=2) (v:= .int .i64 t1) 0 rfl|>.set (j:=3) (v:= .slice d1 e1 f1) 0 rfl)
   refine ret_sy hZ.out (v:= .agg #[.int .i64 s1,.slice a1 n1 c1,.int .i64 t1,.slice d1 e1 f1]) (fun hF=>?_) rfl (fun hF=>⟨_,_,_,_,_,_,_,_,rfl,hF.r 0 rfl,hF.be⟩)
   have g0:=hF.c 0 0
   have g1:=hF.c 0 1
   have g2:=hF.c 0 2
   have g3:=hF.c 0 3
   simp [results,Tryz.results30,go_sem,g0,g1,g2,g3]
end Go.Proofs.YthmdhlopeponcaaGreatDoor
end
section
namespace Go.Proofs.YthmdhlopeponcaaGreatDoor
open Go.RowKit Go.Shelf Dig
end Go.Proofs.YthmdhlopeponcaaGreatDoor
end
section
set_option maxRecDepth 100000
set_option maxHeartbeats 4000000
namespace Go.Proofs.YthmdhlopeponcaaGreatDoor
open Go.RowKit Go.Shelf Dig
theorem wrongB_end {n:Nat} {zs:List Int} (h:∀i (hi:i < zs.length),inB zs[i] (-200000) 200000=true):wrongB n zs=decide (zs.length≠n):=by
 unfold wrongB
 rw [show zs.any (fun z=> !inB z (-200000) 200000)=false from List.any_eq_false.2 fun z hz=>by
  obtain ⟨i,hi,rfl⟩:=List.getElem_of_mem hz
  rw [h i hi];simp,Bool.or_false]
theorem wrongB_at {n:Nat} {zs:List Int} {k:Nat} (hk:k < zs.length) (h:inB zs[k] (-200000) 200000=false):wrongB n zs=true:=by
 unfold wrongB
 rw [show zs.any (fun z=> !inB z (-200000) 200000)=true from List.any_eq_true.2 ⟨_,List.getElem_mem hk,by rw [h];rfl⟩,Bool.or_true]
section
variable (w:World)
theorem rLevels_any (ba:OA) (bn bc:Nat) (bs:List Int) (hb:Sx 1 w ba bn bc (L1 bs)) (za:OA) (zn zc:Nat) (zs:List Int) (hz:Sx 1 w za zn zc (L1 zs)) (h1:1<=bn):
  Calls Tryz.prog 27 #[.slice ba bn bc,.slice za zn zc] w (Gives (.bool (!wrongB (bs.length - 1) zs)) w):=by
 obtain rfl:=hb.n1
 obtain rfl:=hz.n1
 have hcap:=hb.cap
 have hcz:=hz.cap
 unfold maxLen at hcap hcz
 have HZ:=ζ hz
 have HN:=ζ (fun k hk h=>wrongB_at (n:=bs.length - 1) (zs:=zs) (k:=k) hk h)
 have HE:=ζ (fun h=>wrongB_end (n:=bs.length - 1) (zs:=zs) h)
 have HI:=ζ (fun W z=>rIn_any W z (-200000) 200000)
 clear hz hb
 obtain ⟨nn,hnn⟩:∃nn,bs.length - 1=nn:=⟨_,rfl⟩
 rw [hnn]at HN HE⊢
 have v1:IntKind.i64.wrap ((bs.length:Int) - 1)=(nn:Int):=by rw [IntWalk.i64_in _ (by omega)];omega
 have HNN:=ζ hnn
 clear hnn
 generalize wrongB nn zs=R at*
 go_enter Tryz.func27,Tryz.ntmps27
 go_wp2
 go_loopw [5] (fun iv wr=>∃k:Nat,k<=zs.length/\iv= .int .i64 k/\Hid (∀i (hi:i < zs.length),i < k->inB zs[i] (-200000) 200000=true)/\Hid (Below w.heap.size w wr)) (fun iv _=>zs.length - (intOf iv).toNat)
 case atStart=>exact⟨0,Nat.zero_le _,rfl,ζ (fun i _ h=>absurd h (Nat.not_lt_zero i)),ζ (Below.refl _ _)⟩
 case round=>
  obtain ⟨k,hk,rfl,HK,hB⟩:=hrel
  by_cases hlt:k < zs.length
  ·obtain ⟨g0,o0,rfl⟩:=HZ.out.addr (by omega)
   have x0:=(HZ.out.below hB.out).at1 hlt
   have i0:(0:Int)<=(k:Int):=by omega
   have i1:(k:Int) < (zs.length:Int):=by omega
   have HK1:=ζ (HN.out k hlt)
   have HNX:=ζ (show inB zs[k] (-200000) 200000=true->∀i (hi:i < zs.length),i < k+1->inB zs[i] (-200000) 200000=true from fun h i hi hik=>by
    rcases Nat.lt_or_ge i k with h' | h'
    ·exact HK.out i hi h'
    ·have:i=k:=by omega
     subst this;exact h)
   have HA:=ζ (fun W=>HI.out W zs[k])
   clear HK HN HE
   generalize zs[k]=u at*
   cases hu:inB u (-200000) 200000
   ·have HG:=ζ (HK1.out hu)
    rw [hu]at HA
    clear hu HNX HK1
    go_wp2_with ((with_reducible refine(HA.out _).mono ?_);rintro e w2 ⟨rfl,rfl⟩)
    go_ret
    exact⟨ret_bool (by rw [HG.out];rfl),hB.out⟩
   ·have HG:=ζ (HNX.out hu)
    rw [hu]at HA
    clear hu HNX HK1
    go_wp2_with ((with_reducible refine(HA.out _).mono ?_);rintro e w2 ⟨rfl,rfl⟩)
    go_roundw
    case rel=>exact⟨k+1,by omega,by go_num,HG,hB⟩
    case measure=>simp [intOf];omega
  ·obtain rfl:k=zs.length:=by omega
   have HG:=ζ (HE.out (fun i hi=>HK.out i hi hi))
   clear HE HN HK
   by_cases q:zs.length=nn
   ·have q2:((zs.length:Int)==(nn:Int))=true:=by rw [q];exact beq_self_eq_true _
    have HG2:=ζ (show R=false by rw [HG.out,decide_eq_false (fun h=>h q)])
    clear q
    go_wp2
    go_ret
    exact⟨ret_bool (by rw [HG2.out];rfl),hB.out⟩
   ·have q2:((zs.length:Int)==(nn:Int))=false:=beq_eq_false_iff_ne.2 (by omega)
    have HG2:=ζ (show R=true by rw [HG.out,decide_eq_true q])
    clear q
    go_wp2
    go_ret
    exact⟨ret_bool (by rw [HG2.out];rfl),hB.out⟩
end
end Go.Proofs.YthmdhlopeponcaaGreatDoor
end
section
set_option maxRecDepth 100000
set_option maxHeartbeats 8000000
namespace Go.Proofs.YthmdhlopeponcaaGreatDoor
open Go.RowKit Go.Shelf Dig
theorem digQ_bq {l:List Pt} {bs zs:List Int} (h:digB l bs zs=true):Bq 17800 (digQ l bs zs):=by
 unfold digB at h
 rw [Bool.and_eq_true,Bool.not_eq_true']at h
 obtain ⟨hk1,hk2⟩:=h
 obtain ⟨hzl,hzb⟩:=wrongB_no hk2
 have:=dig_bq hk1 (fun z hz=>by have:=hzb z hz;unfold InZ;omega) hzl (digP bs zs).length
 rw [List.take_length]at this
 exact this
section
variable (w:World)
theorem hillDigs_walk (la:OA) (ln lc:Nat) (l:List Pt) (ba:OA) (bn bc:Nat) (bs:List Int) (za:OA) (zn zc:Nat) (zs:List Int) (hs:Sx 2 w la ln lc (L2 l)) (hb:Sx 1 w ba bn bc (L1 bs)) (hz:Sx 1 w za zn zc (L1 zs)):
  Calls Tryz.prog 4 #[.slice la ln lc,.slice ba bn bc,.slice za zn zc] w (Gives (.bool true) w):=by
 have HW:=ζ wakes08
 obtain rfl:=hs.n2
 obtain rfl:=hb.n1
 obtain rfl:=hz.n1
 have hC:=ζ (Sy.enter w)
 by_cases g0:50 < l.length
 ·have pl1:=decide_eq_true (show(50:Int) < (l.length:Int)by omega)
  have pl2:=decide_eq_true (show 50 < l.length by omega)
  clear g0
  go_enter Tryz.func4,Tryz.ntmps4
  go_wp2_with fail
  refine(HW.out _).mono ?_
  rintro e WZ ⟨rfl,hb⟩
  have hZ:=ζ (hC.out.call hb)
  clear hb
  go_wp2
  go_ret
  exact⟨rfl,hZ.out.be⟩
 by_cases g1:70 < bs.length
 ·have pl1:=decide_eq_false (show ¬ (50:Int) < (l.length:Int)by omega)
  have pl2:=decide_eq_false (show ¬ 50 < l.length by omega)
  have pbs1:=decide_eq_true (show(70:Int) < (bs.length:Int)by omega)
  have pbs2:=decide_eq_true (show 70 < bs.length by omega)
  clear g0 g1
  go_enter Tryz.func4,Tryz.ntmps4
  go_wp2_with fail
  refine(HW.out _).mono ?_
  rintro e WZ ⟨rfl,hb⟩
  have hZ:=ζ (hC.out.call hb)
  clear hb
  go_wp2
  go_ret
  exact⟨rfl,hZ.out.be⟩
 by_cases g2:70 < zs.length
 ·have pl1:=decide_eq_false (show ¬ (50:Int) < (l.length:Int)by omega)
  have pl2:=decide_eq_false (show ¬ 50 < l.length by omega)
  have pbs1:=decide_eq_false (show ¬ (70:Int) < (bs.length:Int)by omega)
  have pbs2:=decide_eq_false (show ¬ 70 < bs.length by omega)
  have pzs1:=decide_eq_true (show(70:Int) < (zs.length:Int)by omega)
  have pzs2:=decide_eq_true (show 70 < zs.length by omega)
  clear g0 g1 g2
  go_enter Tryz.func4,Tryz.ntmps4
  go_wp2_with fail
  refine(HW.out _).mono ?_
  rintro e WZ ⟨rfl,hb⟩
  have hZ:=ζ (hC.out.call hb)
  clear hb
  go_wp2
  go_ret
  exact⟨rfl,hZ.out.be⟩
 have pl1:=decide_eq_false (show ¬ (50:Int) < (l.length:Int)by omega)
 have pl2:=decide_eq_false (show ¬ 50 < l.length by omega)
 have pbs1:=decide_eq_false (show ¬ (70:Int) < (bs.length:Int)by omega)
 have pbs2:=decide_eq_false (show ¬ 70 < bs.length by omega)
 have pzs1:=decide_eq_false (show ¬ (70:Int) < (zs.length:Int)by omega)
 have pzs2:=decide_eq_false (show ¬ 70 < zs.length by omega)
 have HS:=ζ (fun W (hW:Below w.heap.size w W)=>hs.below hW)
 have HBS:=ζ (fun W (hW:Below w.heap.size w W)=>hb.below hW)
 have HZS:=ζ (fun W (hW:Below w.heap.size w W)=>hz.below hW)
 have HPT:=ζ (fun W (hW:Below w.heap.size w W)=>conv_Pts la l.length lc l W (HS.out W hW) (by omega))
 have HV:=ζ (fun W (hW:Below w.heap.size w W)=>rValid_any W la l.length lc l (HS.out W hW))
 have HBR:=ζ (fun W (hW:Below w.heap.size w W) hp=>rBreaks_any W la l.length lc l (HS.out W hW) ba bs.length bc bs (HBS.out W hW) hp)
 have HLV:=ζ (fun W (hW:Below w.heap.size w W) h1=>rLevels_any W ba bs.length bc bs (HBS.out W hW) za zs.length zc zs (HZS.out W hW) h1)
 have HDB:=ζ (fun hbad W (hW:Below w.heap.size w W) c1 c (hh:Sx 2 W c1 l.length c (L2 l))=>hDig_bad W c1 l.length c l hh ba bs.length bc bs (HBS.out W hW) za zs.length zc zs (HZS.out W hW) hbad)
 have HDO:=ζ (fun hok W (hW:Below w.heap.size w W) c1 c (hh:Sx 2 W c1 l.length c (L2 l))=>hDig_ok W c1 l.length c l hh ba bs.length bc bs (HBS.out W hW) za zs.length zc zs (HZS.out W hW) hok)
 have HRD:=ζ (fun hok W (hW:Below w.heap.size w W)=>rDig_any W la l.length lc l ba bs.length bc bs za zs.length zc zs (HS.out W hW) (HBS.out W hW) (HZS.out W hW) hok)
 have HPB:=ζ (show profB l=false->brkB l bs=false from fun q=>by unfold brkB;rw [q];rfl)
 have HD0:=ζ (show brkB l bs=false->digB l bs zs=false from fun q=>by unfold digB;rw [q];rfl)
 have HD1:=ζ (show wrongB (bs.length - 1) zs=true->digB l bs zs=false from fun q=>by unfold digB;rw [q,Bool.and_comm];rfl)
 have HD2:=ζ (show brkB l bs=true->wrongB (bs.length - 1) zs=false->digB l bs zs=true from fun q q2=>by unfold digB;rw [q,q2];rfl)
 have HQB:=ζ (fun h=>digQ_bq (l:=l) (bs:=bs) (zs:=zs) h)
 clear hs hb hz g0 g1 g2
 generalize digQ l bs zs=dq at*
 go_enter Tryz.func4,Tryz.ntmps4
 go_wp2_with fail
 refine(HPT.out _ hC.out.be).mono ?_
 rintro e W1 ⟨a1,c1,rfl,hr,hb⟩
 have hD:=ζ (show Sy w _ [] [⟨.slice a1 l.length c1,83,2,l.length,L2 l⟩] []from hC.out.adopt hb hr)
 clear hb hr hC HPT
 cases qp:profB l
 ·have HB:=ζ (HD0.out (HPB.out qp))
  rw [qp]at HV
  clear qp
  go_wp2_with fail
  refine(HDB.out HB.out _ hD.out.be _ _ (hD.out.osx 0 rfl)).mono ?_
  rintro e W ⟨ap,np,cp,mp,dp,ep,fp,rfl,hz,hb⟩
  have hY:=ζ ((hD.out.call hb).pR rfl rfl hz)
  clear hb hz hD
  go_upto_region 4 with fail
  have hX:=ζ (show Sy w _ [(W.heap.size,#[.slice ap np cp,.bool mp,.slice dp ep fp],42)] [⟨.slice a1 l.length c1,83,2,l.length,L2 l⟩] [(fun V=>Rd V (.slice ap np cp) mp (.slice dp ep fp) (0))]from hY.out.al W.heap.size #[.slice ap np cp,.bool mp,.slice dp ep fp] 42 rfl)
  obtain ⟨b7,eb7⟩:∃b,W.heap.size=b:=⟨_,rfl⟩
  rw [eb7]at hX⊢
  refine wp_geny hX.out ?_
  intro WN1 hc
  have hN1:=ζ hc
  clear hc hX eb7 hY
  go_wp2_with fail
  refine(HV.out _ hN1.out.be).mono ?_
  rintro e WN2 ⟨rfl,hb⟩
  have hN2:=ζ (hN1.out.call hb)
  clear hb hN1
  have y0_0:=hN2.out.c 0 0
  have y0_1:=hN2.out.c 0 1
  have y0_2:=hN2.out.c 0 2
  go_wp2_with fail
  have hR:=ζ (hN2.out.onew WN2.heap.size #[.slice ap np cp,.bool mp,.slice dp ep fp] 42 3 1 rfl (by omega) rfl)
  refine(nil0_any _ _ 1 1 (RowZ.of1 hR.out 1 rfl (hR.out.r 0 rfl)) (by omega)).mono ?_
  rintro e WN3 ⟨rfl,hb⟩
  have hN3:=ζ (show Sy w _ [(b7,#[.slice ap np cp,.bool mp,.slice dp ep fp],42)] [⟨.slice a1 l.length c1,83,2,l.length,L2 l⟩] [(fun V=>Rd V (.slice ap np cp) mp (.slice dp ep fp) (0))]from(hR.out.call hb).thin (List.Sublist.refl _) (List.sublist_append_left [_] _))
  clear hb hR hN2 y0_0 y0_1 y0_2
  go_wp2_with fail
  refine(HW.out _).mono ?_
  rintro e WZ ⟨rfl,hb⟩
  have hZ:=ζ (hN3.out.call hb)
  clear hb
  go_wp2
  go_ret
  exact⟨rfl,hZ.out.be⟩
 rw [qp]at HV
 have HBR2:=ζ (fun W hW=>HBR.out W hW qp)
 clear HBR qp HPB
 cases qk:brkB l bs
 ·have HB:=ζ (HD0.out qk)
  rw [qk]at HBR2
  clear qk
  go_wp2_with fail
  refine(HDB.out HB.out _ hD.out.be _ _ (hD.out.osx 0 rfl)).mono ?_
  rintro e W ⟨ap,np,cp,mp,dp,ep,fp,rfl,hz,hb⟩
  have hY:=ζ ((hD.out.call hb).pR rfl rfl hz)
  clear hb hz hD
  go_upto_region 4 with fail
  have hX:=ζ (show Sy w _ [(W.heap.size,#[.slice ap np cp,.bool mp,.slice dp ep fp],42)] [⟨.slice a1 l.length c1,83,2,l.length,L2 l⟩] [(fun V=>Rd V (.slice ap np cp) mp (.slice dp ep fp) (0))]from hY.out.al W.heap.size #[.slice ap np cp,.bool mp,.slice dp ep fp] 42 rfl)
  obtain ⟨b7,eb7⟩:∃b,W.heap.size=b:=⟨_,rfl⟩
  rw [eb7]at hX⊢
  refine wp_geny hX.out ?_
  intro WN1 hc
  have hN1:=ζ hc
  clear hc hX eb7 hY
  go_wp2_with fail
  refine(HV.out _ hN1.out.be).mono ?_
  rintro e WN2 ⟨rfl,hb⟩
  have hN2:=ζ (hN1.out.call hb)
  clear hb hN1
  go_wp2_with fail
  refine(HBR2.out _ hN2.out.be).mono ?_
  rintro e WN3 ⟨rfl,hb⟩
  have hN3:=ζ (hN2.out.call hb)
  clear hb hN2
  have y0_0:=hN3.out.c 0 0
  have y0_1:=hN3.out.c 0 1
  have y0_2:=hN3.out.c 0 2
  go_wp2_with fail
  have hR:=ζ (hN3.out.onew WN3.heap.size #[.slice ap np cp,.bool mp,.slice dp ep fp] 42 3 1 rfl (by omega) rfl)
  refine(nil0_any _ _ 1 1 (RowZ.of1 hR.out 1 rfl (hR.out.r 0 rfl)) (by omega)).mono ?_
  rintro e WN4 ⟨rfl,hb⟩
  have hN4:=ζ (show Sy w _ [(b7,#[.slice ap np cp,.bool mp,.slice dp ep fp],42)] [⟨.slice a1 l.length c1,83,2,l.length,L2 l⟩] [(fun V=>Rd V (.slice ap np cp) mp (.slice dp ep fp) (0))]from(hR.out.call hb).thin (List.Sublist.refl _) (List.sublist_append_left [_] _))
  clear hb hR hN3 y0_0 y0_1 y0_2
  go_wp2_with fail
  refine(HW.out _).mono ?_
  rintro e WZ ⟨rfl,hb⟩
  have hZ:=ζ (hN4.out.call hb)
  clear hb
  go_wp2
  go_ret
  exact⟨rfl,hZ.out.be⟩
 rw [qk]at HBR2
 have HLV2:=ζ (fun W hW=>HLV.out W hW (by have:=(brk_ok qk).2.1;omega))
 clear HLV
 cases qw:wrongB (bs.length - 1) zs
 rotate_left
 ·have HB:=ζ (HD1.out qw)
  rw [qw]at HLV2
  clear qk qw
  go_wp2_with fail
  refine(HDB.out HB.out _ hD.out.be _ _ (hD.out.osx 0 rfl)).mono ?_
  rintro e W ⟨ap,np,cp,mp,dp,ep,fp,rfl,hz,hb⟩
  have hY:=ζ ((hD.out.call hb).pR rfl rfl hz)
  clear hb hz hD
  go_upto_region 4 with fail
  have hX:=ζ (show Sy w _ [(W.heap.size,#[.slice ap np cp,.bool mp,.slice dp ep fp],42)] [⟨.slice a1 l.length c1,83,2,l.length,L2 l⟩] [(fun V=>Rd V (.slice ap np cp) mp (.slice dp ep fp) (0))]from hY.out.al W.heap.size #[.slice ap np cp,.bool mp,.slice dp ep fp] 42 rfl)
  obtain ⟨b7,eb7⟩:∃b,W.heap.size=b:=⟨_,rfl⟩
  rw [eb7]at hX⊢
  refine wp_geny hX.out ?_
  intro WN1 hc
  have hN1:=ζ hc
  clear hc hX eb7 hY
  go_wp2_with fail
  refine(HV.out _ hN1.out.be).mono ?_
  rintro e WN2 ⟨rfl,hb⟩
  have hN2:=ζ (hN1.out.call hb)
  clear hb hN1
  go_wp2_with fail
  refine(HBR2.out _ hN2.out.be).mono ?_
  rintro e WN3 ⟨rfl,hb⟩
  have hN3:=ζ (hN2.out.call hb)
  clear hb hN2
  go_wp2_with fail
  refine(HLV2.out _ hN3.out.be).mono ?_
  rintro e WN4 ⟨rfl,hb⟩
  have hN4:=ζ (hN3.out.call hb)
  clear hb hN3
  have y0_0:=hN4.out.c 0 0
  have y0_1:=hN4.out.c 0 1
  have y0_2:=hN4.out.c 0 2
  go_wp2_with fail
  have hR:=ζ (hN4.out.onew WN4.heap.size #[.slice ap np cp,.bool mp,.slice dp ep fp] 42 3 1 rfl (by omega) rfl)
  refine(nil0_any _ _ 1 1 (RowZ.of1 hR.out 1 rfl (hR.out.r 0 rfl)) (by omega)).mono ?_
  rintro e WN5 ⟨rfl,hb⟩
  have hN5:=ζ (show Sy w _ [(b7,#[.slice ap np cp,.bool mp,.slice dp ep fp],42)] [⟨.slice a1 l.length c1,83,2,l.length,L2 l⟩] [(fun V=>Rd V (.slice ap np cp) mp (.slice dp ep fp) (0))]from(hR.out.call hb).thin (List.Sublist.refl _) (List.sublist_append_left [_] _))
  clear hb hR hN4 y0_0 y0_1 y0_2
  go_wp2_with fail
  refine(HW.out _).mono ?_
  rintro e WZ ⟨rfl,hb⟩
  have hZ:=ζ (hN5.out.call hb)
  clear hb
  go_wp2
  go_ret
  exact⟨rfl,hZ.out.be⟩
 have HB:=ζ (HD2.out qk qw)
 have HRD2:=ζ (fun W hW=>HRD.out HB.out W hW)
 have HQ2:=ζ (HQB.out HB.out)
 rw [qw]at HLV2
 clear qk qw HRD HQB
 go_wp2_with fail
 refine(HDO.out HB.out _ hD.out.be _ _ (hD.out.osx 0 rfl)).mono ?_
 rintro e W ⟨ap,np,cp,mp,dp,ep,fp,rfl,hz,hb⟩
 have hY:=ζ ((hD.out.call hb).pR rfl rfl hz)
 clear hb hz hD
 go_upto_region 4 with fail
 have hX:=ζ (show Sy w _ [(W.heap.size,#[.slice ap np cp,.bool mp,.slice dp ep fp],42)] [⟨.slice a1 l.length c1,83,2,l.length,L2 l⟩] [(fun V=>Rd V (.slice ap np cp) mp (.slice dp ep fp) (dq))]from hY.out.al W.heap.size #[.slice ap np cp,.bool mp,.slice dp ep fp] 42 rfl)
 obtain ⟨b7,eb7⟩:∃b,W.heap.size=b:=⟨_,rfl⟩
 rw [eb7]at hX⊢
 refine wp_geny hX.out ?_
 intro WN1 hc
 have hN1:=ζ hc
 clear hc hX eb7 hY
 go_wp2_with fail
 refine(HV.out _ hN1.out.be).mono ?_
 rintro e WN2 ⟨rfl,hb⟩
 have hN2:=ζ (hN1.out.call hb)
 clear hb hN1
 go_wp2_with fail
 refine(HBR2.out _ hN2.out.be).mono ?_
 rintro e WN3 ⟨rfl,hb⟩
 have hN3:=ζ (hN2.out.call hb)
 clear hb hN2
 go_wp2_with fail
 refine(HLV2.out _ hN3.out.be).mono ?_
 rintro e WN4 ⟨rfl,hb⟩
 have hN4:=ζ (hN3.out.call hb)
 clear hb hN3
 go_upto_region 6 with fail
 have HSL:∀V ex os rs,Sy w V ([(b7,#[.slice ap np cp,.bool mp,.slice dp ep fp],42)]++ex) os rs->(fun w'=>w'.cell? ⟨b7,0,none⟩=some (.slice ap np cp)/\w'.cell? ⟨b7,1,none⟩=some (.bool mp)/\w'.cell? ⟨b7,2,none⟩=some (.slice dp ep fp)/\True) V:=fun V ex os rs hX=>⟨hX.c 0 0,hX.c 0 1,hX.c 0 2,trivial⟩
 refine wp_region_held_drew (S:=(fun w'=>w'.cell? ⟨b7,0,none⟩=some (.slice ap np cp)/\w'.cell? ⟨b7,1,none⟩=some (.bool mp)/\w'.cell? ⟨b7,2,none⟩=some (.slice dp ep fp)/\True)) (by kernel_rfl) ⟨hN4.out.drew.c 0 0,hN4.out.drew.c 0 1,hN4.out.drew.c 0 2,trivial⟩ (fun hH=>?_)
 refine wpAnyH_geny (show Sy w _ [(b7,#[.slice ap np cp,.bool mp,.slice dp ep fp],42)] [⟨.slice a1 l.length c1,83,2,l.length,L2 l⟩] [(fun V=>Rd V (.slice ap np cp) mp (.slice dp ep fp) (dq))]from hN4.out.drew) hH ?_
 intro AL hc AA
 have AC:=ζ hc
 clear hc hH hN4
 refine tkA 0 rfl AA ?_
 try simp only [zP]
 refine tkA 1 rfl AA ?_
 try simp only [zP]
 refine tkA 2 rfl AA ?_
 try simp only [zP]
 refine tkA 3 rfl AA ?_
 try simp only [zP]
 refine tkA 4 rfl AA ?_
 try simp only [zP]
 refine tkA 5 rfl AA ?_
 try simp only [zP]
 refine tkA 6 rfl AA ?_
 try simp only [zP]
 refine rdy1 7 rfl (fun Kq AD=>?_)
 go_simp
 go_at_call 30
 refine(HRD2.out _ AC.out.be).mono ?_
 rintro e wT ⟨sg,ag,ng,cg,tg,dg,eg,fg,rfl,hz,hb⟩
 (try go_wp2_with fail)
 refine stW AD ((AC.out.call hb).pq rfl rfl hz) ?_
 intro AM AB AI
 clear AD Kq AC hb hz AA
 try simp only [zP]
 refine rdy1 8 rfl (fun Kq AD=>?_)
 go_simp
 go_at_call 29
 refine(same_b (AB.out.r 0 rfl) (AB.out.r 1 rfl) HQ2.out (by omega)).mono ?_
 rintro e wT ⟨rfl,hb⟩
 (try go_wp2_with fail)
 refine stW AD (AB.out.call hb) ?_
 intro AN AF AE
 clear AD Kq AB hb AI
 try simp only [zP]
 refine tkA 9 rfl AE ?_
 try simp only [zP]
 refine tkA 10 rfl AE ?_
 try simp only [zP]
 refine rdy1 11 rfl (fun Kq AD=>?_)
 go_simp
 go_at_call 16
 refine(HW.out _).mono ?_
 rintro e wT ⟨rfl,hb⟩
 (try go_wp2_with fail)
 refine stW AD (AF.out.call hb) ?_
 intro AO AG AH
 clear AD Kq AF hb AE
 try simp only [zP]
 refine tkA 12 rfl AH ?_
 try simp only [zP]
 refine rdy1 13 rfl (fun Kq AD=>?_)
 go_simp
 refine stW AD AG.out ?_
 intro AP AJ AK
 clear AD Kq AG AH
 try simp only [zP]
 refine wpAnyH_done (by kernel_rfl) ?_ _
 go_wp2
 go_ret
 exact⟨rfl,AJ.out.be⟩
end
end Go.Proofs.YthmdhlopeponcaaGreatDoor
end
