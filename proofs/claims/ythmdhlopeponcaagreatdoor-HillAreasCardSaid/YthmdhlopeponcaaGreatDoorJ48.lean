/- a part of the proof -/
import Derived.Test.YthmdhlopeponcaaGreatDoorJ1
import Derived.Test.YthmdhlopeponcaaGreatDoorJ42
import Derived.Test.YthmdhlopeponcaaGreatDoorJ43
import Derived.Test.YthmdhlopeponcaaGreatDoorJ19
set_option maxRecDepth 100000
set_option maxHeartbeats 8000000
namespace Go.Proofs.YthmdhlopeponcaaGreatDoor
open Go.RowKit Go.Shelf Dig
theorem rIntegral_any (w:World) (a:OA) (n c:Nat) (l:List Pt) (x y z:Int) (hs:Sx 2 w a n c (L2 l)) (hT:Strt l x y) (hz: -200000<=z/\z<=200000):
  Calls Tryz.prog 104 #[.slice a n c,.int .i64 x,.int .i64 y,.int .i64 z] w (RetNQ w (integ l x y z)):=by
 obtain rfl:=hs.n2
 have hforty:=hT.ok.forty
 have HCO:=ζ (fun W (hW:Below w.heap.size w W)=>rcorners_any W a l.length c l x y (hs.below hW) (by omega))
 have HGR:=ζ (fun W (hW:Below w.heap.size w W) u (hu:u∈cor l x y)=>rGround_any W a l.length c l u (hs.below hW) hT.ok (hT.cor_in hu).1 (hT.cor_in hu).2)
 have HGB:=ζ (fun u (hu:u∈cor l x y)=>show(-100000<=u/\u<=100000)/\Gd (grd l u)by
  have h1:=hT.cor_in hu
  have h2:=hT.ok.bx (i:=0) (by have:=hT.ok.two;omega)
  have h3:=hT.ok.bx (i:=l.length - 1) (by have:=hT.ok.two;omega)
  exact⟨by omega,hT.ok.grd_gd h1.1 h1.2⟩)
 have HIS:=ζ (hT.integ_is (z:=z))
 have HPB:=ζ (fun k hk=>part_bq (f:=pieceI l z) (R:=cor l x y) (N:=117) (k:=k) (fun t ht=>hT.pieceI_bq hz ht) hk)
 have HRL:=ζ (cor_len l x y)
 have HL40:=ζ hforty
 have H0:=ζ (fun W=>show Calls Tryz.prog 72 #[.int .i64 0] W (RetNQ W 0)by have h:=rOf_any W 0 (by omega);exact h)
 have H1:=ζ (fun W=>show Calls Tryz.prog 72 #[.int .i64 1] W (RetNQ W 1)by have h:=rOf_any W 1 (by omega);exact h)
 have H2:=ζ (fun W=>show Calls Tryz.prog 72 #[.int .i64 2] W (RetNQ W 2)by have h:=rOf_any W 2 (by omega);exact h)
 have HZ:=ζ (fun W=>rOf_any W z (by omega))
 have BZ:=ζ (intq_bq (x:=z) (by omega))
 have hzb:=hz
 clear hs hT hz
 generalize integ l x y z=ans at*
 generalize cor l x y=R at*
 have hC:=ζ ((Sy.enter w).al w.heap.size #[.int .i64 0,.slice none 0 0,.int .i64 0,.slice none 0 0] 50 rfl)
 go_enter Tryz.func104,Tryz.ntmps104
 go_upto_region 1 with fail
 obtain ⟨b8,hb8⟩:∃b,w.heap.size=b:=⟨_,rfl⟩
 have HB8:=ζ hb8
 rw [hb8]at hC⊢
 clear hb8
 refine wp_geny hC.out ?_
 intro V1 hc
 have hC1:=ζ hc
 clear hc hC
 go_wp2_with fail
 refine(HCO.out _ hC1.out.be).mono ?_
 rintro e W1 ⟨ga,gc,rfl,hr,hb⟩
 have hD:=ζ (hC1.out.pSx hb hr.out)
 clear hb hr hC1 HCO
 go_wp2_with fail
 refine(H0.out _).mono ?_
 rintro e W2 ⟨s0,a0,n0,c0,t0,d0,e0,f0,rfl,hq,hb⟩
 have hE:=ζ ((hD.out.call hb).pq rfl rfl hq)
 clear hb hq hD
 have hX:=ζ (hE.out.al W2.heap.size #[.int .i64 s0,.slice a0 n0 c0,.int .i64 t0,.slice d0 e0 f0] 50 rfl)
 go_upto_region 4 with fail
 obtain ⟨b10,hb10⟩:∃b,W2.heap.size=b:=⟨_,rfl⟩
 rw [hb10]at hX⊢
 refine wp_geny hX.out ?_
 intro V2 hc
 have hF:=ζ hc
 clear hc hX hE hb10
 obtain ⟨g,o,rfl⟩:=(hF.out.r 0 rfl).addr (by have:=HRL.out.1;omega)
 obtain ⟨m,hm⟩:∃m,m=R.length - 1:=⟨_,rfl⟩
 have HM:=ζ (show R.length=m+1/\m<=41 by have h1:=HRL.out;have h2:=HL40.out;omega)
 rw [<-hm]at HIS
 clear hm
 go_wp2
 go_loopw [11] (fun iv wr=>∃ (k:Nat) (s1:Int) (a1:OA) (n1 c1:Nat) (t1:Int) (d1:OA) (e1 f1:Nat),k<=m/\iv= .int .i64 k/\Hid (Sy w wr [(b8,#[.int .i64 0,.slice none 0 0,.int .i64 0,.slice none 0 0],50),(b10,#[.int .i64 s1,.slice a1 n1 c1,.int .i64 t1,.slice d1 e1 f1],50)] [] [(fun V=>Sx 1 V (some ⟨g,o,none⟩) R.length gc (L1 R)),(fun V=>Nq V s1 (.slice a1 n1 c1) t1 (.slice d1 e1 f1) (partQ (pieceI l z) R k))])) (fun iv _=>m - (intOf iv).toNat)
 case atStart=>exact⟨0,s0,a0,n0,c0,t0,d0,e0,f0,Nat.zero_le _,rfl,hF⟩
 case round=>
  clear hF
  obtain ⟨k,s1,a1,n1,c1,t1,d1,e1,f1,hk,rfl,hS⟩:=hrel
  obtain ⟨k1,hk1⟩:∃j,j=k+1:=⟨_,rfl⟩
  have i5:IntKind.i64.wrap ((k:Int)+1)=(k1:Int):=by have:=HM.out;rw [IntWalk.i64_in _ (by omega)];omega
  by_cases hlt:k < m
  ·have hml:=HM.out
   have hr0:k < R.length:=by omega
   have hr1:k+1 < R.length:=by omega
   have HX0:=ζ (fun V (h:Sx 1 V (some ⟨g,o,none⟩) R.length gc (L1 R))=>h.atX hr0)
   have HX1:=ζ (fun V (h:Sx 1 V (some ⟨g,o,none⟩) R.length gc (L1 R))=>h.atX hr1)
   have HG0:=ζ (fun W hW=>HGR.out W hW (bX R k) (by rw [bX_at hr0];exact List.getElem_mem hr0))
   have HG1:=ζ (fun W hW=>HGR.out W hW (bX R (k+1)) (by rw [bX_at hr1];exact List.getElem_mem hr1))
   obtain ⟨hu,hgu⟩:=HGB.out (bX R k) (by rw [bX_at hr0];exact List.getElem_mem hr0)
   obtain ⟨hv,hgv⟩:=HGB.out (bX R (k+1)) (by rw [bX_at hr1];exact List.getElem_mem hr1)
   have HGU:=ζ hgu
   have HGV:=ζ hgv
   have HST:=ζ (part_step (f:=pieceI l z) hr1)
   have BS:=ζ (HPB.out k (by omega))
   have HPI:=ζ (show pieceI l z (bX R k,bX R (k+1))=((grd l (bX R k)+grd l (bX R (k+1))) / 2 - (z:Rat))*((bX R (k+1) - bX R k:Int):Rat)from rfl)
   rw [HPI.out]at HST
   clear hgu hgv HPI
   generalize bX R (k+1)=v at*
   generalize bX R k=u at*
   rw [<-hk1]at HX1
   generalize grd l u=p0 at*
   generalize grd l v=q0 at*
   generalize partQ (pieceI l z) R k=pq at*
   have i0:(0:Int)<=(k:Int):=by omega
   have i4:(k:Int) < (R.length:Int):=by omega
   have i6:(0:Int)<=(k1:Int):=by omega
   have i7:(k1:Int) < (R.length:Int):=by omega
   have e1':IntKind.i64.wrap (v - u)=v - u:=IntWalk.i64_in _ (by omega)
   have HDX:=ζ (fun W=>rOf_any W (v - u) (by omega))
   have BDX:=ζ (intq_bq (x:=v - u) (by omega))
   have HK1:=ζ hk1
   clear hk1 hml hr0 hr1
   go_upto_region 6 with fail
   go_cut [12] (fun s12 wx=>∃ (b12:Nat) (sM:Int) (aM:OA) (nM cM:Nat) (tM:Int) (dM:OA) (eM fM:Nat),s12= .pointer (some ⟨b12,0,none⟩)/\Hid (Sy w wx [(b8,#[.int .i64 0,.slice none 0 0,.int .i64 0,.slice none 0 0],50),(b10,#[.int .i64 s1,.slice a1 n1 c1,.int .i64 t1,.slice d1 e1 f1],50),(b12,#[.int .i64 sM,.slice aM nM cM,.int .i64 tM,.slice dM eM fM],50)] [] [(fun V=>Sx 1 V (some ⟨g,o,none⟩) R.length gc (L1 R)),(fun V=>Nq V s1 (.slice a1 n1 c1) t1 (.slice d1 e1 f1) (pq)),(fun V=>Nq V sM (.slice aM nM cM) tM (.slice dM eM fM) ((p0+q0) / 2))]))
   case first=>
    have HSL:∀V ex os rs,Sy w V ([(b8,#[.int .i64 0,.slice none 0 0,.int .i64 0,.slice none 0 0],50),(b10,#[.int .i64 s1,.slice a1 n1 c1,.int .i64 t1,.slice d1 e1 f1],50)]++ex) os ([(fun V=>Sx 1 V (some ⟨g,o,none⟩) R.length gc (L1 R))]++rs)->(fun w'=>w'.cell? ⟨g,o+k,none⟩=some (.int .i64 u)/\w'.cell? ⟨g,o+k1,none⟩=some (.int .i64 v)/\True) V:=fun V ex os rs hX=>⟨(HX0.out _ (hX.r 0 rfl)),(HX1.out _ (hX.r 0 rfl)),trivial⟩
    refine wp_region_held_drew (S:=(fun w'=>w'.cell? ⟨g,o+k,none⟩=some (.int .i64 u)/\w'.cell? ⟨g,o+k1,none⟩=some (.int .i64 v)/\True)) (by kernel_rfl) ⟨(HX0.out _ (hS.out.drew.r 0 rfl)),(HX1.out _ (hS.out.drew.r 0 rfl)),trivial⟩ (fun hH=>?_)
    refine wpAnyH_geny (show Sy w _ [(b8,#[.int .i64 0,.slice none 0 0,.int .i64 0,.slice none 0 0],50),(b10,#[.int .i64 s1,.slice a1 n1 c1,.int .i64 t1,.slice d1 e1 f1],50)] [] [(fun V=>Sx 1 V (some ⟨g,o,none⟩) R.length gc (L1 R)),(fun V=>Nq V s1 (.slice a1 n1 c1) t1 (.slice d1 e1 f1) (pq))]from hS.out.drew) hH ?_
    intro Ak hc AI
    have AW:=ζ hc
    clear hc hH hS
    refine' nodeM _ _ (_:q8 (q8 (q8 (q8 (q8 (Nat->Act)))))) (_:q8 (q8 (q8 (q8 (q8 (Nat->World->Prop)))))) (fun A B S_ G_=>∀sA aA nA cA tA dA eA fA sB aB nB cB tB dB eB fB sC aC nC cC tC dC eC fC sD aD nD cD tD dD eD fD sM aM nM cM tM dM eM fM b12 V,S_ V->B sA aA nA cA tA dA eA fA sB aB nB cB tB dB eB fB sC aC nC cC tC dC eC fC sD aD nD cD tD dD eD fD sM aM nM cM tM dM eM fM b12 V->G_ (A sA aA nA cA tA dA eA fA sB aB nB cB tB dB eB fB sC aC nC cC tC dC eC fC sD aD nD cD tD dD eD fD sM aM nM cM tM dM eM fM b12) V) (fun HMA4=>?bA4) ?pA4
    case bA4=>
     refine' nodeM _ _ (_:q8 (q8 (q8 (q8 (Nat->Act))))) (_:q8 (q8 (q8 (q8 (Nat->World->Prop))))) (fun A B S_ G_=>∀sA aA nA cA tA dA eA fA sB aB nB cB tB dB eB fB sC aC nC cC tC dC eC fC sD aD nD cD tD dD eD fD b12 V,S_ V->B sA aA nA cA tA dA eA fA sB aB nB cB tB dB eB fB sC aC nC cC tC dC eC fC sD aD nD cD tD dD eD fD b12 V->G_ (A sA aA nA cA tA dA eA fA sB aB nB cB tB dB eB fB sC aC nC cC tC dC eC fC sD aD nD cD tD dD eD fD b12) V) (fun HMA3=>?bA3) ?pA3
     case bA3=>
      refine' nodeM _ _ (_:q8 (q8 (q8 (Nat->Act)))) (_:q8 (q8 (q8 (Nat->World->Prop)))) (fun A B S_ G_=>∀sA aA nA cA tA dA eA fA sB aB nB cB tB dB eB fB sC aC nC cC tC dC eC fC b12 V,S_ V->B sA aA nA cA tA dA eA fA sB aB nB cB tB dB eB fB sC aC nC cC tC dC eC fC b12 V->G_ (A sA aA nA cA tA dA eA fA sB aB nB cB tB dB eB fB sC aC nC cC tC dC eC fC b12) V) (fun HMA2=>?bA2) ?pA2
      case bA2=>
       refine' nodeM _ _ (_:q8 (q8 (Nat->Act))) (_:q8 (q8 (Nat->World->Prop))) (fun A B S_ G_=>∀sA aA nA cA tA dA eA fA sB aB nB cB tB dB eB fB b12 V,S_ V->B sA aA nA cA tA dA eA fA sB aB nB cB tB dB eB fB b12 V->G_ (A sA aA nA cA tA dA eA fA sB aB nB cB tB dB eB fB b12) V) (fun HMA1=>?bA1) ?pA1
       case bA1=>
        refine' nodeM _ _ (_:q8 (Nat->Act)) (_:q8 (Nat->World->Prop)) (fun A B S_ G_=>∀sA aA nA cA tA dA eA fA b12 V,S_ V->B sA aA nA cA tA dA eA fA b12 V->G_ (A sA aA nA cA tA dA eA fA b12) V) (fun HMA0=>?bA0) ?pA0
        case bA0=>
         refine tkA 0 rfl AI ?_
         try simp only [zP]
         refine tkA 1 rfl AI ?_
         try simp only [zP]
         refine tkA 2 rfl AI ?_
         try simp only [zP]
         refine tkA 3 rfl AI ?_
         try simp only [zP]
         refine tkA 4 rfl AI ?_
         try simp only [zP]
         refine tkA 6 rfl AI ?_
         try simp only [zP]
         refine tkA 7 rfl AI ?_
         try simp only [zP]
         refine tkA 8 rfl AI ?_
         try simp only [zP]
         refine tkA 9 rfl AI ?_
         try simp only [zP]
         refine tkA 10 rfl AI ?_
         try simp only [zP]
         refine tkA 11 rfl AI ?_
         try simp only [zP]
         refine rdyL [5,16] ?_
         refine arc rfl (fun Kq AA=>?_) ?_
         ·go_simp
          go_at_call 54
          refine(HG0.out _ AW.out.be).mono ?_
          rintro e wT ⟨sA,aA,nA,cA,tA,dA,eA,fA,rfl,hz,hb⟩
          (try go_wp2_with fail)
          refine stW AA ((AW.out.call hb).pq rfl rfl hz) ?_
          intro AN AC AE
          clear AA Kq hb hz
          try simp only [zP]
          refine rdyL [12,16] ?_
          refine arc rfl (fun Kq AA=>?_) ?_
          ·go_simp
           go_at_call 54
           refine(HG1.out _ AC.out.be).mono ?_
           rintro e wT ⟨sB,aB,nB,cB,tB,dB,eB,fB,rfl,hz,hb⟩
           (try go_wp2_with fail)
           refine stW AA ((AC.out.call hb).pq rfl rfl hz) ?_
           intro A0 AJ AO
           clear AA Kq AC hb hz AE
           try simp only [zP]
           refine rdyL [13,16] ?_
           refine arc rfl (fun Kq AA=>?_) ?_
           ·go_simp
            go_at_call 73
            refine(raddN_b (AJ.out.r 2 rfl) (AJ.out.r 3 rfl) HGU.out.bq HGV.out.bq (by omega) (by omega)).mono ?_
            rintro e wT ⟨sC,aC,nC,cC,tC,dC,eC,fC,rfl,hz,hb⟩
            (try go_wp2_with fail)
            refine stW AA ((AJ.out.call hb).pq rfl rfl hz) ?_
            intro A1 AP AS
            clear AA Kq AJ hb hz AO
            try simp only [zP]
            refine rdyL [14,16] ?_
            refine arc rfl (fun Kq AA=>?_) ?_
            ·go_simp
             go_at_call 72
             refine(H2.out _).mono ?_
             rintro e wT ⟨sD,aD,nD,cD,tD,dD,eD,fD,rfl,hz,hb⟩
             (try go_wp2_with fail)
             refine stW AA ((AP.out.call hb).pq rfl rfl hz) ?_
             intro A2 AK AT
             clear AA Kq AP hb hz AS
             try simp only [zP]
             refine rdyL [15,16] ?_
             refine arc rfl (fun Kq AA=>?_) ?_
             ·go_simp
              go_at_call 107
              refine(rdivN_b (AK.out.r 4 rfl) (AK.out.r 5 rfl) (HGU.out.bq.plus HGV.out.bq) two_bq (by omega) (by omega) (by decide)).mono ?_
              rintro e wT ⟨sM,aM,nM,cM,tM,dM,eM,fM,rfl,hz,hb⟩
              (try go_wp2_with fail)
              refine stW AA ((AK.out.call hb).pq rfl rfl hz) ?_
              intro A3 AU AX
              clear AA Kq AK hb hz AT
              try simp only [zP]
              refine rdy1 16 rfl (fun Kq AA=>?_)
              rw [if_pos (by rfl)]
              refine op_al2 AU.out _ rfl (.agg #[.int .i64 0,.slice none 0 0,.int .i64 0,.slice none 0 0]) _ rfl (by kernel_rfl) (fun b12 _ hcB=>?_)
              refine stW AA hcB ?_
              intro Ab A4 A5
              clear AA Kq AU hcB AX
              try simp only [zP]
              revert A4;exact HMA4 sA aA nA cA tA dA eA fA sB aB nB cB tB dB eB fB sC aC nC cC tC dC eC fC sD aD nD cD tD dD eD fD sM aM nM cM tM dM eM fM b12 Ab A5
             refine arc rfl (fun Kq AA=>?_) ?_
             ·rw [if_pos (by rfl)]
              refine op_al2 AK.out _ rfl (.agg #[.int .i64 0,.slice none 0 0,.int .i64 0,.slice none 0 0]) _ rfl (by kernel_rfl) (fun b12 _ hcB=>?_)
              refine stW AA hcB ?_
              intro A3 AU AX
              clear AA Kq AK hcB AT
              try simp only [zP]
              revert AU;exact HMA3 sA aA nA cA tA dA eA fA sB aB nB cB tB dB eB fB sC aC nC cC tC dC eC fC sD aD nD cD tD dD eD fD b12 A3 AX
             exact AllReadyH.nil
            refine arc rfl (fun Kq AA=>?_) ?_
            ·rw [if_pos (by rfl)]
             refine op_al2 AP.out _ rfl (.agg #[.int .i64 0,.slice none 0 0,.int .i64 0,.slice none 0 0]) _ rfl (by kernel_rfl) (fun b12 _ hcB=>?_)
             refine stW AA hcB ?_
             intro A2 AK AT
             clear AA Kq AP hcB AS
             try simp only [zP]
             revert AK;exact HMA2 sA aA nA cA tA dA eA fA sB aB nB cB tB dB eB fB sC aC nC cC tC dC eC fC b12 A2 AT
            exact AllReadyH.nil
           refine arc rfl (fun Kq AA=>?_) ?_
           ·rw [if_pos (by rfl)]
            refine op_al2 AJ.out _ rfl (.agg #[.int .i64 0,.slice none 0 0,.int .i64 0,.slice none 0 0]) _ rfl (by kernel_rfl) (fun b12 _ hcB=>?_)
            refine stW AA hcB ?_
            intro A1 AP AS
            clear AA Kq AJ hcB AO
            try simp only [zP]
            revert AP;exact HMA1 sA aA nA cA tA dA eA fA sB aB nB cB tB dB eB fB b12 A1 AS
           exact AllReadyH.nil
          refine arc rfl (fun Kq AA=>?_) ?_
          ·rw [if_pos (by rfl)]
           refine op_al2 AC.out _ rfl (.agg #[.int .i64 0,.slice none 0 0,.int .i64 0,.slice none 0 0]) _ rfl (by kernel_rfl) (fun b12 _ hcB=>?_)
           refine stW AA hcB ?_
           intro A0 AJ AO
           clear AA Kq AC hcB AE
           try simp only [zP]
           revert AJ;exact HMA0 sA aA nA cA tA dA eA fA b12 A0 AO
          exact AllReadyH.nil
         refine arc rfl (fun Kq AA=>?_) ?_
         ·rw [if_pos (by rfl)]
          refine op_al2 AW.out _ rfl (.agg #[.int .i64 0,.slice none 0 0,.int .i64 0,.slice none 0 0]) _ rfl (by kernel_rfl) (fun b12 _ hcB=>?_)
          refine stW AA hcB ?_
          intro AN AC AE
          clear AA Kq hcB
          try simp only [zP]
          refine rdy1 5 rfl (fun Kq AA=>?_)
          go_simp
          go_at_call 54
          refine(HG0.out _ AC.out.be).mono ?_
          rintro e wT ⟨sA,aA,nA,cA,tA,dA,eA,fA,rfl,hz,hb⟩
          (try go_wp2_with fail)
          refine stW AA ((AC.out.call hb).pq rfl rfl hz) ?_
          intro A0 AJ AO
          clear AA Kq AC hb hz AE
          try simp only [zP]
          exact nodeU (HMA0 sA aA nA cA tA dA eA fA b12 A0 AO AJ) (by kernel_rfl)
         exact AllReadyH.nil
        case pA0=>
         intro sA aA nA cA tA dA eA fA b12 VNA0 hHNA0 hVNA0
         show wpAnyH _ _ _ _ _ _ _ _ _
         replace hVNA0:=(show Hid _ from hVNA0)
         refine rdy1 12 rfl (fun Kq AA=>?_)
         go_simp
         go_at_call 54
         refine(HG1.out _ hVNA0.out.be).mono ?_
         rintro e wT ⟨sB,aB,nB,cB,tB,dB,eB,fB,rfl,hz,hb⟩
         (try go_wp2_with fail)
         refine stW AA ((hVNA0.out.call hb).pq rfl rfl hz) ?_
         intro AN AC AE
         clear AA Kq hVNA0 hb hz hHNA0
         try simp only [zP]
         exact nodeU (HMA1 sA aA nA cA tA dA eA fA sB aB nB cB tB dB eB fB b12 AN AE AC) (by kernel_rfl)
       case pA1=>
        intro sA aA nA cA tA dA eA fA sB aB nB cB tB dB eB fB b12 VNA1 hHNA1 hVNA1
        show wpAnyH _ _ _ _ _ _ _ _ _
        replace hVNA1:=(show Hid _ from hVNA1)
        refine rdy1 13 rfl (fun Kq AA=>?_)
        go_simp
        go_at_call 73
        refine(raddN_b (hVNA1.out.r 2 rfl) (hVNA1.out.r 3 rfl) HGU.out.bq HGV.out.bq (by omega) (by omega)).mono ?_
        rintro e wT ⟨sC,aC,nC,cC,tC,dC,eC,fC,rfl,hz,hb⟩
        (try go_wp2_with fail)
        refine stW AA ((hVNA1.out.call hb).pq rfl rfl hz) ?_
        intro AN AC AE
        clear AA Kq hVNA1 hb hz hHNA1
        try simp only [zP]
        exact nodeU (HMA2 sA aA nA cA tA dA eA fA sB aB nB cB tB dB eB fB sC aC nC cC tC dC eC fC b12 AN AE AC) (by kernel_rfl)
      case pA2=>
       intro sA aA nA cA tA dA eA fA sB aB nB cB tB dB eB fB sC aC nC cC tC dC eC fC b12 VNA2 hHNA2 hVNA2
       show wpAnyH _ _ _ _ _ _ _ _ _
       replace hVNA2:=(show Hid _ from hVNA2)
       refine rdy1 14 rfl (fun Kq AA=>?_)
       go_simp
       go_at_call 72
       refine(H2.out _).mono ?_
       rintro e wT ⟨sD,aD,nD,cD,tD,dD,eD,fD,rfl,hz,hb⟩
       (try go_wp2_with fail)
       refine stW AA ((hVNA2.out.call hb).pq rfl rfl hz) ?_
       intro AN AC AE
       clear AA Kq hVNA2 hb hz hHNA2
       try simp only [zP]
       exact nodeU (HMA3 sA aA nA cA tA dA eA fA sB aB nB cB tB dB eB fB sC aC nC cC tC dC eC fC sD aD nD cD tD dD eD fD b12 AN AE AC) (by kernel_rfl)
     case pA3=>
      intro sA aA nA cA tA dA eA fA sB aB nB cB tB dB eB fB sC aC nC cC tC dC eC fC sD aD nD cD tD dD eD fD b12 VNA3 hHNA3 hVNA3
      show wpAnyH _ _ _ _ _ _ _ _ _
      replace hVNA3:=(show Hid _ from hVNA3)
      refine rdy1 15 rfl (fun Kq AA=>?_)
      go_simp
      go_at_call 107
      refine(rdivN_b (hVNA3.out.r 4 rfl) (hVNA3.out.r 5 rfl) (HGU.out.bq.plus HGV.out.bq) two_bq (by omega) (by omega) (by decide)).mono ?_
      rintro e wT ⟨sM,aM,nM,cM,tM,dM,eM,fM,rfl,hz,hb⟩
      (try go_wp2_with fail)
      refine stW AA ((hVNA3.out.call hb).pq rfl rfl hz) ?_
      intro AN AC AE
      clear AA Kq hVNA3 hb hz hHNA3
      try simp only [zP]
      exact nodeU (HMA4 sA aA nA cA tA dA eA fA sB aB nB cB tB dB eB fB sC aC nC cC tC dC eC fC sD aD nD cD tD dD eD fD sM aM nM cM tM dM eM fM b12 AN AE AC) (by kernel_rfl)
    case pA4=>
     intro sA aA nA cA tA dA eA fA sB aB nB cB tB dB eB fB sC aC nC cC tC dC eC fC sD aD nD cD tD dD eD fD sM aM nM cM tM dM eM fM b12 VNA4 hHNA4 hVNA4
     show wpAnyH _ _ _ _ _ _ _ _ _
     replace hVNA4:=(show Hid _ from hVNA4)
     refine rdy1 17 rfl (fun Kq AA=>?_)
     have cQ0:=hVNA4.out.c 2 0
     have fQ0:=hVNA4.out.f 2 0
     have cQ1:=hVNA4.out.c 2 1
     have fQ1:=hVNA4.out.f 2 1
     have cQ2:=hVNA4.out.c 2 2
     have fQ2:=hVNA4.out.f 2 2
     have cQ3:=hVNA4.out.c 2 3
     have fQ3:=hVNA4.out.f 2 3
     go_simp
     refine stW AA (hVNA4.out|>.set (j:=0) (v:= .int .i64 sM) 2 rfl|>.set (j:=1) (v:= .slice aM nM cM) 2 rfl|>.set (j:=2) (v:= .int .i64 tM) 2 rfl|>.set (j:=3) (v:= .slice dM eM fM) 2 rfl) ?_
     intro AN AC AE
     clear AA Kq hVNA4 cQ0 fQ0 cQ1 fQ1 cQ2 fQ2 cQ3 fQ3 hHNA4
     try simp only [Act.put]
     refine wpAnyH_done (by kernel_rfl) ?_ _
     have hT:=ζ (AC.out.pick [0,1,6] (rs':=[(fun V=>Sx 1 V (some ⟨g,o,none⟩) R.length gc (L1 R)),(fun V=>Nq V s1 (.slice a1 n1 c1) t1 (.slice d1 e1 f1) (pq)),(fun V=>Nq V sM (.slice aM nM cM) tM (.slice dM eM fM) ((p0+q0) / 2))]) rfl)
     clear AC
     go_wp2
     go_meet
     case rel=>exact⟨_,_,_,_,_,_,_,_,_,rfl,hT⟩
   case rest=>
    clear hS
    obtain ⟨b12,sM,aM,nM,cM,tM,dM,eM,fM,rfl,hS⟩:=hcut
    have BM:=ζ (show Bq 76 ((p0+q0) / 2)from(HGU.out.bq.plus HGV.out.bq).div two_bq (by decide))
    go_upto_region 7 with fail
    have HSL:∀V ex os rs,Sy w V ([(b8,#[.int .i64 0,.slice none 0 0,.int .i64 0,.slice none 0 0],50),(b10,#[.int .i64 s1,.slice a1 n1 c1,.int .i64 t1,.slice d1 e1 f1],50),(b12,#[.int .i64 sM,.slice aM nM cM,.int .i64 tM,.slice dM eM fM],50)]++ex) os ([(fun V=>Sx 1 V (some ⟨g,o,none⟩) R.length gc (L1 R))]++rs)->(fun w'=>w'.cell? ⟨b12,0,none⟩=some (.int .i64 sM)/\w'.cell? ⟨b12,1,none⟩=some (.slice aM nM cM)/\w'.cell? ⟨b12,2,none⟩=some (.int .i64 tM)/\w'.cell? ⟨b12,3,none⟩=some (.slice dM eM fM)/\w'.cell? ⟨g,o+k,none⟩=some (.int .i64 u)/\w'.cell? ⟨g,o+k1,none⟩=some (.int .i64 v)/\True) V:=fun V ex os rs hX=>⟨hX.c 2 0,hX.c 2 1,hX.c 2 2,hX.c 2 3,(HX0.out _ (hX.r 0 rfl)),(HX1.out _ (hX.r 0 rfl)),trivial⟩
    refine wp_region_held_drew (S:=(fun w'=>w'.cell? ⟨b12,0,none⟩=some (.int .i64 sM)/\w'.cell? ⟨b12,1,none⟩=some (.slice aM nM cM)/\w'.cell? ⟨b12,2,none⟩=some (.int .i64 tM)/\w'.cell? ⟨b12,3,none⟩=some (.slice dM eM fM)/\w'.cell? ⟨g,o+k,none⟩=some (.int .i64 u)/\w'.cell? ⟨g,o+k1,none⟩=some (.int .i64 v)/\True)) (by kernel_rfl) ⟨hS.out.drew.c 2 0,hS.out.drew.c 2 1,hS.out.drew.c 2 2,hS.out.drew.c 2 3,(HX0.out _ (hS.out.drew.r 0 rfl)),(HX1.out _ (hS.out.drew.r 0 rfl)),trivial⟩ (fun hH=>?_)
    refine wpAnyH_geny (show Sy w _ [(b8,#[.int .i64 0,.slice none 0 0,.int .i64 0,.slice none 0 0],50),(b10,#[.int .i64 s1,.slice a1 n1 c1,.int .i64 t1,.slice d1 e1 f1],50),(b12,#[.int .i64 sM,.slice aM nM cM,.int .i64 tM,.slice dM eM fM],50)] [] [(fun V=>Sx 1 V (some ⟨g,o,none⟩) R.length gc (L1 R)),(fun V=>Nq V s1 (.slice a1 n1 c1) t1 (.slice d1 e1 f1) (pq)),(fun V=>Nq V sM (.slice aM nM cM) tM (.slice dM eM fM) ((p0+q0) / 2))]from hS.out.drew) hH ?_
    intro Al hc AF
    have AQ:=ζ hc
    clear hc hH hS
    refine' nodeM _ _ (_:q8 (q8 (q8 (q8 (Act))))) (_:q8 (q8 (q8 (q8 (World->Prop))))) (fun A B S_ G_=>∀sA aA nA cA tA dA eA fA sB aB nB cB tB dB eB fB sC aC nC cC tC dC eC fC sD aD nD cD tD dD eD fD V,S_ V->B sA aA nA cA tA dA eA fA sB aB nB cB tB dB eB fB sC aC nC cC tC dC eC fC sD aD nD cD tD dD eD fD V->G_ (A sA aA nA cA tA dA eA fA sB aB nB cB tB dB eB fB sC aC nC cC tC dC eC fC sD aD nD cD tD dD eD fD) V) (fun HMB3=>?bB3) ?pB3
    case bB3=>
     refine' nodeM _ _ (_:q8 (q8 (q8 (Act)))) (_:q8 (q8 (q8 (World->Prop)))) (fun A B S_ G_=>∀sA aA nA cA tA dA eA fA sB aB nB cB tB dB eB fB sC aC nC cC tC dC eC fC V,S_ V->B sA aA nA cA tA dA eA fA sB aB nB cB tB dB eB fB sC aC nC cC tC dC eC fC V->G_ (A sA aA nA cA tA dA eA fA sB aB nB cB tB dB eB fB sC aC nC cC tC dC eC fC) V) (fun HMB2=>?bB2) ?pB2
     case bB2=>
      refine' nodeM _ _ (_:q8 (q8 (Act))) (_:q8 (q8 (World->Prop))) (fun A B S_ G_=>∀sA aA nA cA tA dA eA fA sB aB nB cB tB dB eB fB V,S_ V->B sA aA nA cA tA dA eA fA sB aB nB cB tB dB eB fB V->G_ (A sA aA nA cA tA dA eA fA sB aB nB cB tB dB eB fB) V) (fun HMB1=>?bB1) ?pB1
      case bB1=>
       refine' nodeM _ _ (_:q8 (Act)) (_:q8 (World->Prop)) (fun A B S_ G_=>∀sA aA nA cA tA dA eA fA V,S_ V->B sA aA nA cA tA dA eA fA V->G_ (A sA aA nA cA tA dA eA fA) V) (fun HMB0=>?bB0) ?pB0
       case bB0=>
        refine tkA 1 rfl AF ?_
        try simp only [zP]
        refine tkA 2 rfl AF ?_
        try simp only [zP]
        refine tkA 5 rfl AF ?_
        try simp only [zP]
        refine tkA 6 rfl AF ?_
        try simp only [zP]
        refine tkA 7 rfl AF ?_
        try simp only [zP]
        refine tkA 8 rfl AF ?_
        try simp only [zP]
        refine tkA 9 rfl AF ?_
        try simp only [zP]
        refine tkA 10 rfl AF ?_
        try simp only [zP]
        refine tkA 11 rfl AF ?_
        try simp only [zP]
        refine tkA 12 rfl AF ?_
        try simp only [zP]
        refine tkA 13 rfl AF ?_
        try simp only [zP]
        refine tkA 14 rfl AF ?_
        try simp only [zP]
        refine rdyL [0,3] ?_
        refine arc rfl (fun Kq AA=>?_) ?_
        ·have cQ0:=AQ.out.c 1 0
         have cQ1:=AQ.out.c 1 1
         have cQ2:=AQ.out.c 1 2
         have cQ3:=AQ.out.c 1 3
         go_simp
         refine stW AA AQ.out ?_
         intro AR AB AG
         clear AA Kq cQ0 cQ1 cQ2 cQ3
         try simp only [zP]
         refine rdy1 3 rfl (fun Kq AA=>?_)
         go_simp
         go_at_call 72
         refine(HZ.out _).mono ?_
         rintro e wT ⟨sA,aA,nA,cA,tA,dA,eA,fA,rfl,hz,hb⟩
         (try go_wp2_with fail)
         refine stW AA ((AB.out.call hb).pq rfl rfl hz) ?_
         intro AY AD AM
         clear AA Kq AB hb hz AG
         try simp only [zP]
         revert AD;exact HMB0 sA aA nA cA tA dA eA fA AY AM
        refine arc rfl (fun Kq AA=>?_) ?_
        ·go_simp
         go_at_call 72
         refine(HZ.out _).mono ?_
         rintro e wT ⟨sA,aA,nA,cA,tA,dA,eA,fA,rfl,hz,hb⟩
         (try go_wp2_with fail)
         refine stW AA ((AQ.out.call hb).pq rfl rfl hz) ?_
         intro AR AB AG
         clear AA Kq hb hz
         try simp only [zP]
         refine rdyL [0,4] ?_
         refine arc rfl (fun Kq AA=>?_) ?_
         ·have cQ0:=AB.out.c 1 0
          have cQ1:=AB.out.c 1 1
          have cQ2:=AB.out.c 1 2
          have cQ3:=AB.out.c 1 3
          go_simp
          refine stW AA AB.out ?_
          intro AY AD AM
          clear AA Kq AB cQ0 cQ1 cQ2 cQ3 AG
          try simp only [zP]
          exact nodeU (HMB0 sA aA nA cA tA dA eA fA AY AM AD) (by kernel_rfl)
         refine arc rfl (fun Kq AA=>?_) ?_
         ·go_simp
          go_at_call 103
          refine(rsubN_b (AB.out.r 2 rfl) (AB.out.r 3 rfl) BM.out BZ.out (by omega) (by omega)).mono ?_
          rintro e wT ⟨sB,aB,nB,cB,tB,dB,eB,fB,rfl,hz,hb⟩
          (try go_wp2_with fail)
          refine stW AA ((AB.out.call hb).pq rfl rfl hz) ?_
          intro AY AD AM
          clear AA Kq AB hb hz AG
          try simp only [zP]
          refine rdyL [0,15] ?_
          refine arc rfl (fun Kq AA=>?_) ?_
          ·have cQ0:=AD.out.c 1 0
           have cQ1:=AD.out.c 1 1
           have cQ2:=AD.out.c 1 2
           have cQ3:=AD.out.c 1 3
           go_simp
           refine stW AA AD.out ?_
           intro A6 AH AV
           clear AA Kq AD cQ0 cQ1 cQ2 cQ3 AM
           try simp only [zP]
           revert AH;exact HMB1 sA aA nA cA tA dA eA fA sB aB nB cB tB dB eB fB A6 AV
          refine arc rfl (fun Kq AA=>?_) ?_
          ·go_simp
           go_at_call 72
           refine(HDX.out _).mono ?_
           rintro e wT ⟨sC,aC,nC,cC,tC,dC,eC,fC,rfl,hz,hb⟩
           (try go_wp2_with fail)
           refine stW AA ((AD.out.call hb).pq rfl rfl hz) ?_
           intro A6 AH AV
           clear AA Kq AD hb hz AM
           try simp only [zP]
           refine rdyL [0,16] ?_
           refine arc rfl (fun Kq AA=>?_) ?_
           ·have cQ0:=AH.out.c 1 0
            have cQ1:=AH.out.c 1 1
            have cQ2:=AH.out.c 1 2
            have cQ3:=AH.out.c 1 3
            go_simp
            refine stW AA AH.out ?_
            intro A7 AL AZ
            clear AA Kq AH cQ0 cQ1 cQ2 cQ3 AV
            try simp only [zP]
            revert AL;exact HMB2 sA aA nA cA tA dA eA fA sB aB nB cB tB dB eB fB sC aC nC cC tC dC eC fC A7 AZ
           refine arc rfl (fun Kq AA=>?_) ?_
           ·go_simp
            go_at_call 108
            refine(rmulN_b (AH.out.r 4 rfl) (AH.out.r 5 rfl) (BM.out.minus BZ.out) BDX.out (by omega) (by omega)).mono ?_
            rintro e wT ⟨sD,aD,nD,cD,tD,dD,eD,fD,rfl,hz,hb⟩
            (try go_wp2_with fail)
            refine stW AA ((AH.out.call hb).pq rfl rfl hz) ?_
            intro A7 AL AZ
            clear AA Kq AH hb hz AV
            try simp only [zP]
            refine rdy1 0 rfl (fun Kq AA=>?_)
            have cQ0:=AL.out.c 1 0
            have cQ1:=AL.out.c 1 1
            have cQ2:=AL.out.c 1 2
            have cQ3:=AL.out.c 1 3
            go_simp
            refine stW AA AL.out ?_
            intro Ac A8 A9
            clear AA Kq AL cQ0 cQ1 cQ2 cQ3 AZ
            try simp only [zP]
            revert A8;exact HMB3 sA aA nA cA tA dA eA fA sB aB nB cB tB dB eB fB sC aC nC cC tC dC eC fC sD aD nD cD tD dD eD fD Ac A9
           exact AllReadyH.nil
          exact AllReadyH.nil
         exact AllReadyH.nil
        exact AllReadyH.nil
       case pB0=>
        intro sA aA nA cA tA dA eA fA VNB0 hHNB0 hVNB0
        show wpAnyH _ _ _ _ _ _ _ _ _
        replace hVNB0:=(show Hid _ from hVNB0)
        refine rdy1 4 rfl (fun Kq AA=>?_)
        go_simp
        go_at_call 103
        refine(rsubN_b (hVNB0.out.r 2 rfl) (hVNB0.out.r 3 rfl) BM.out BZ.out (by omega) (by omega)).mono ?_
        rintro e wT ⟨sB,aB,nB,cB,tB,dB,eB,fB,rfl,hz,hb⟩
        (try go_wp2_with fail)
        refine stW AA ((hVNB0.out.call hb).pq rfl rfl hz) ?_
        intro AR AB AG
        clear AA Kq hVNB0 hb hz hHNB0
        try simp only [zP]
        exact nodeU (HMB1 sA aA nA cA tA dA eA fA sB aB nB cB tB dB eB fB AR AG AB) (by kernel_rfl)
      case pB1=>
       intro sA aA nA cA tA dA eA fA sB aB nB cB tB dB eB fB VNB1 hHNB1 hVNB1
       show wpAnyH _ _ _ _ _ _ _ _ _
       replace hVNB1:=(show Hid _ from hVNB1)
       refine rdy1 15 rfl (fun Kq AA=>?_)
       go_simp
       go_at_call 72
       refine(HDX.out _).mono ?_
       rintro e wT ⟨sC,aC,nC,cC,tC,dC,eC,fC,rfl,hz,hb⟩
       (try go_wp2_with fail)
       refine stW AA ((hVNB1.out.call hb).pq rfl rfl hz) ?_
       intro AR AB AG
       clear AA Kq hVNB1 hb hz hHNB1
       try simp only [zP]
       exact nodeU (HMB2 sA aA nA cA tA dA eA fA sB aB nB cB tB dB eB fB sC aC nC cC tC dC eC fC AR AG AB) (by kernel_rfl)
     case pB2=>
      intro sA aA nA cA tA dA eA fA sB aB nB cB tB dB eB fB sC aC nC cC tC dC eC fC VNB2 hHNB2 hVNB2
      show wpAnyH _ _ _ _ _ _ _ _ _
      replace hVNB2:=(show Hid _ from hVNB2)
      refine rdy1 16 rfl (fun Kq AA=>?_)
      go_simp
      go_at_call 108
      refine(rmulN_b (hVNB2.out.r 4 rfl) (hVNB2.out.r 5 rfl) (BM.out.minus BZ.out) BDX.out (by omega) (by omega)).mono ?_
      rintro e wT ⟨sD,aD,nD,cD,tD,dD,eD,fD,rfl,hz,hb⟩
      (try go_wp2_with fail)
      refine stW AA ((hVNB2.out.call hb).pq rfl rfl hz) ?_
      intro AR AB AG
      clear AA Kq hVNB2 hb hz hHNB2
      try simp only [zP]
      exact nodeU (HMB3 sA aA nA cA tA dA eA fA sB aB nB cB tB dB eB fB sC aC nC cC tC dC eC fC sD aD nD cD tD dD eD fD AR AG AB) (by kernel_rfl)
    case pB3=>
     intro sA aA nA cA tA dA eA fA sB aB nB cB tB dB eB fB sC aC nC cC tC dC eC fC sD aD nD cD tD dD eD fD VNB3 hHNB3 hVNB3
     show wpAnyH _ _ _ _ _ _ _ _ _
     replace hVNB3:=(show Hid _ from hVNB3)
     refine rdy1 17 rfl (fun Kq AA=>?_)
     go_simp
     go_at_call 73
     refine(raddN_b (hVNB3.out.r 1 rfl) (hVNB3.out.r 6 rfl) BS.out ((BM.out.minus BZ.out).mul BDX.out) (by omega) (by omega)).mono ?_
     rintro e wT ⟨sE,aE,nE,cE,tE,dE,eE,fE,rfl,hz,hb⟩
     (try go_wp2_with fail)
     refine stW AA ((hVNB3.out.call hb).pq rfl rfl hz) ?_
     intro AR AB AG
     clear AA Kq hVNB3 hb hz hHNB3
     try simp only [zP]
     refine rdy1 18 rfl (fun Kq AA=>?_)
     have cQ0:=AB.out.c 1 0
     have fQ0:=AB.out.f 1 0
     have cQ1:=AB.out.c 1 1
     have fQ1:=AB.out.f 1 1
     have cQ2:=AB.out.c 1 2
     have fQ2:=AB.out.f 1 2
     have cQ3:=AB.out.c 1 3
     have fQ3:=AB.out.f 1 3
     go_simp
     refine stepZ AA (AB.out|>.set (j:=0) (v:= .int .i64 sE) 1 rfl|>.set (j:=1) (v:= .slice aE nE cE) 1 rfl|>.set (j:=2) (v:= .int .i64 tE) 1 rfl|>.set (j:=3) (v:= .slice dE eE fE) 1 rfl) (fun _ hX=>⟨hX.c 2 0,hX.c 2 1,hX.c 2 2,hX.c 2 3,(HX0.out _ (hX.r 0 rfl)),(HX1.out _ (hX.r 0 rfl)),trivial⟩) ?_
     intro AY AD AM
     clear AA Kq AB cQ0 fQ0 cQ1 fQ1 cQ2 fQ2 cQ3 fQ3 AG
     try simp only [Act.put]
     refine wpAnyH_done (by kernel_rfl) ?_ _
     have hT:=ζ ((AD.out.thin (bs':=[(b8,#[.int .i64 0,.slice none 0 0,.int .i64 0,.slice none 0 0],50),(b10,#[.int .i64 sE,.slice aE nE cE,.int .i64 tE,.slice dE eE fE],50)]) (List.sublist_append_left [_,_] _) (List.nil_sublist _)).pick [0,7] (rs':=[(fun V=>Sx 1 V (some ⟨g,o,none⟩) R.length gc (L1 R)),(fun V=>Nq V sE (.slice aE nE cE) tE (.slice dE eE fE) (pq+((p0+q0) / 2 - (z:Rat))*((v - u:Int):Rat)))]) rfl)
     clear AD
     go_wp2
     go_roundw
     case rel=>exact⟨k+1,_,_,_,_,_,_,_,_,by omega,by have:=HK1.out;go_num,by rw [HST.out];exact hT⟩
     case measure=>have:=HK1.out;simp [intOf];omega
  ·obtain rfl:k=m:=by omega
   have i7:¬ (k1:Int) < (R.length:Int):=by have:=HM.out;omega
   rw [HIS.out]at hS
   have Am:=hS.out.c 0 0
   have Ad:=hS.out.f 0 0
   have An:=hS.out.c 0 1
   have Af:=hS.out.f 0 1
   have Ap:=hS.out.c 0 2
   have Ag:=hS.out.f 0 2
   have Aq:=hS.out.c 0 3
   have Aj:=hS.out.f 0 3
   have y0:=hS.out.c 1 0
   have y1:=hS.out.c 1 1
   have y2:=hS.out.c 1 2
   have y3:=hS.out.c 1 3
   go_wp2
   have hZ:=ζ (hS.out|>.set (j:=0) (v:= .int .i64 s1) 0 rfl|>.set (j:=1) (v:= .slice a1 n1 c1) 0 rfl|>.set (j:=2) (v:= .int .i64 t1) 0 rfl|>.set (j:=3) (v:= .slice d1 e1 f1) 0 rfl)
   refine ret_sy hZ.out (v:= .agg #[.int .i64 s1,.slice a1 n1 c1,.int .i64 t1,.slice d1 e1 f1]) (fun hF=>?_) rfl (fun hF=>⟨_,_,_,_,_,_,_,_,rfl,hF.r 1 rfl,hF.be⟩)
   have g0:=hF.c 0 0
   have g1:=hF.c 0 1
   have g2:=hF.c 0 2
   have g3:=hF.c 0 3
   simp [results,Tryz.results104,go_sem,g0,g1,g2,g3]
end Go.Proofs.YthmdhlopeponcaaGreatDoor
