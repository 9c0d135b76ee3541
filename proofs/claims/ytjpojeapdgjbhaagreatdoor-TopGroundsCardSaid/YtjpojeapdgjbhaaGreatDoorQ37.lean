/- part -/
import Derived.Test.YtjpojeapdgjbhaaGreatDoorQ36
import Derived.Test.YtjpojeapdgjbhaaGreatDoorQ35
set_option maxRecDepth 100000
set_option maxHeartbeats 8000000
namespace Go.Proofs.YtjpojeapdgjbhaaGreatDoor
open Go.RowKit Dig
section
open Go.RowKit Go.Shelf Dig
def slopeL:List Pt:=[(0,0),(1000,0),(3000,400),(4000,400)]
theorem sl_prof:profB slopeL=true:=by decide+kernel
theorem sl_g:grd slopeL 1500=100:=by decide+kernel
theorem tx_100 {w:World} {a1:OA} {n1 c1:Nat} {m1:Bool} {d1:OA} {e1 f1:Nat} (h1:Rd w (.slice a1 n1 c1) m1 (.slice d1 e1 f1) 100):Calls Tryz.prog 28 #[.agg #[.slice a1 n1 c1,.bool m1,.slice d1 e1 f1]] w (Gives (.string ⟨#[49,48,48]⟩) w):=by
 have:=rtext_one _ _ _ _ _ _ _ _ _ h1 41 ⟨by unfold Bd;decide+kernel,by unfold Bd;decide+kernel⟩ (by omega) (by decide+kernel);rw [show rtext 100= [49,48,48]by decide+kernel]at this;exact this
theorem B100:Bq 41 (100:Rat):=⟨by unfold Bd;decide+kernel,by unfold Bd;decide+kernel⟩
section
variable (w:World)
theorem slope_any:Calls Tryz.prog 27 #[] w (RetRow w 47 2 4 (L2 slopeL)):=by
 go_enter Tryz.func27,Tryz.ntmps27;go_wp2;go_ret;have hC:=(Sy.enter w).onew w.heap.size #[.int .i64 0,.int .i64 0,.int .i64 1000,.int .i64 0,.int .i64 3000,.int .i64 400,.int .i64 4000,.int .i64 400] 47 2 4 rfl (by omega) rfl;exact⟨_,_,rfl,hC.orow 0 rfl,hC.be⟩
theorem w_ground {sa:OA} {sc:Nat} (hs:Sx 2 w sa 4 sc (L2 slopeL)):Calls Tryz.prog 15 #[.slice sa 4 sc,.int .i64 1500] w (RetRE w 100 0):=by
 have:=hground_ok w sa 4 sc slopeL 1500 hs sl_prof (by decide+kernel);rwa [sl_g]at this
theorem w_height {sa:OA} {sc:Nat} (hs:Sx 2 w sa 4 sc (L2 slopeL)) (a1:OA) (n1 c1:Nat) (m1:Bool) (d1:OA) (e1 f1:Nat) (hx:Rd w (.slice a1 n1 c1) m1 (.slice d1 e1 f1) (((1500:Int):Rat))):Calls Tryz.prog 16 #[.agg #[.slice sa 4 sc,.slice none 0 0],.int .u8 1,.agg #[.slice a1 n1 c1,.bool m1,.slice d1 e1 f1]] w (RetH w 100):=by
 have:=callsIn_wide.1 (pheight_in w 6 (by omega) sa 4 sc slopeL 1500 a1 n1 c1 m1 d1 e1 f1 sl_prof (prof_iff.1 sl_prof) hs hx (by decide+kernel) (by decide+kernel));rwa [sl_g]at this
theorem wakes08t:Calls Tryz.prog 8 #[] w (Gives (.bool true) w):=by
 go_enter Tryz.func8,Tryz.ntmps8;go_wp2_with fail
 refine(slope_any _).mono ?_;rintro e W1 ⟨a1,c1,rfl,hr,hb⟩;have hA:=ζ ((Sy.enter w).adopt hb hr);clear hb hr;go_wp2_with fail
 refine(w_ground _ (hA.out.osx 0 rfl)).mono ?_;rintro e W ⟨a3,n3,c3,m3,d3,e3,f3,rfl,hz,hb⟩;have hY:=ζ ((hA.out.call hb).pR rfl rfl hz);clear hb hz hA;go_upto_region 2 with fail
 have hX:=ζ (show Sy w _ [(W.heap.size,#[.slice a3 n3 c3,.bool m3,.slice d3 e3 f3],72)] [⟨.slice a1 4 c1,47,2,4,L2 slopeL⟩] [(fun V=>Rd V (.slice a3 n3 c3) m3 (.slice d3 e3 f3) (100))]from hY.out.al W.heap.size #[.slice a3 n3 c3,.bool m3,.slice d3 e3 f3] 72 rfl);obtain ⟨b3,eb3⟩:∃b,W.heap.size=b:=⟨_,rfl⟩
 rw [eb3]at hX⊢;refine wp_geny hX.out ?_;intro V2 hc;have hB:=ζ hc;clear hc hX eb3;clear hY;go_wp2_with fail
 refine(slope_any _).mono ?_;rintro e W2 ⟨a4,c4,rfl,hr,hb⟩;have hC:=ζ (hB.out.adopt hb hr);clear hb hr hB;go_wp2_with fail
 refine(of_any 1500 (by omega) _).mono ?_;rintro e W3 ⟨a5,n5,c5,m5,d5,e5,f5,rfl,hz,hb⟩;have hD:=ζ ((hC.out.call hb).pR rfl rfl hz);clear hb hz hC;go_wp2_with fail
 refine(w_height _ (hD.out.osx 1 rfl) _ _ _ _ _ _ _ (hD.out.r 1 rfl)).mono ?_;rintro e W ⟨a6,n6,c6,m6,d6,e6,f6,rfl,hz,hb⟩;have hY:=ζ ((hD.out.call hb).pR rfl rfl hz);clear hb hz hD;go_upto_region 3 with fail
 have hX:=ζ (show Sy w _ [(b3,#[.slice a3 n3 c3,.bool m3,.slice d3 e3 f3],72),(W.heap.size,#[.slice a6 n6 c6,.bool m6,.slice d6 e6 f6],72)] [⟨.slice a1 4 c1,47,2,4,L2 slopeL⟩,⟨.slice a4 4 c4,47,2,4,L2 slopeL⟩] [(fun V=>Rd V (.slice a3 n3 c3) m3 (.slice d3 e3 f3) (100)),(fun V=>Rd V (.slice a5 n5 c5) m5 (.slice d5 e5 f5) (((1500:Int):Rat))),(fun V=>Rd V (.slice a6 n6 c6) m6 (.slice d6 e6 f6) (100))]from hY.out.al W.heap.size #[.slice a6 n6 c6,.bool m6,.slice d6 e6 f6] 72 rfl);obtain ⟨b6,eb6⟩:∃b,W.heap.size=b:=⟨_,rfl⟩
 rw [eb6]at hX⊢;refine wp_geny hX.out ?_;intro V3 hc;have hE:=ζ hc;clear hc hX eb6;clear hY;have AA:=hE.out.c 0 0;have AB:=hE.out.c 0 1;have AC:=hE.out.c 0 2;have AD:=hE.out.c 1 0;have AE:=hE.out.c 1 1;have AF:=hE.out.c 1 2;go_wp2_with fail
 refine(hcmp_is (v:=0) (hE.out.r 0 rfl) (hE.out.r 2 rfl) B100 B100 (by omega) (by omega) (by decide+kernel)).mono ?_;rintro e W4 ⟨rfl,hb⟩;have hF:=ζ (hE.out.call hb);clear hb hE AA AB AC AD AE AF;have AA:=hF.out.c 0 0;have AB:=hF.out.c 0 1;have AC:=hF.out.c 0 2;go_wp2_with fail
 refine(tx_100 (hF.out.r 0 rfl)).mono ?_;rintro e W5 ⟨rfl,hb⟩;have hG:=ζ (hF.out.call hb);clear hb hF AA AB AC;go_wp2;go_ret;exact⟨rfl,hG.out.be⟩
end
section
variable (w:World)
theorem rIn_any (x lo hi:Int):Calls Tryz.prog 41 #[.int .i64 x,.int .i64 lo,.int .i64 hi] w fun e w'=>e= .returned (.bool (inB x lo hi))/\w'=w:=by
 unfold inB;by_cases h1:lo<=x<;>by_cases h2:x<=hi
 all_goals
  go_enter Tryz.func41,Tryz.ntmps41;go_wp2;go_ret;exact⟨by simp [h1,h2],rfl⟩
theorem rHas_any (a:OA) (n c:Nat) (l:List Pt) (x:Int) (hs:Sx 2 w a n c (L2 l)) (h0:0 < n):Calls Tryz.prog 18 #[.slice a n c,.int .i64 x] w (Gives (.bool (hasB l x)) w):=by
 obtain rfl:=hs.n2;have hcap:=hs.cap;unfold maxLen at hcap;obtain ⟨g0,o0,rfl⟩:=hs.addr h0;obtain ⟨x0,-⟩:=hs.at2 h0;rw [Nat.zero_mul,Nat.add_zero]at x0;obtain ⟨x1,-⟩:=hs.at2 (show l.length - 1 < l.length by omega);have HE:=ζ (show hasB l x=inB x l[0].1 l[l.length - 1].1 by unfold hasB;rw [hX_at h0,hX_at (show l.length - 1 < l.length by omega)]);rw [HE.out];clear HE hs;obtain ⟨j,hj⟩:∃j:Nat,j=l.length - 1:=⟨_,rfl⟩
 generalize l[0].1=y0 at*;generalize l[l.length - 1].1=y1 at*;rw [<-hj]at x1;have i2:IntKind.i64.wrap ((l.length:Int) - 1)=(j:Int):=by rw [IntWalk.i64_in _ (by omega)];omega
 have i0:(0:Int)<=(j:Int):=by omega
 have i1:(j:Int) < (l.length:Int):=by omega
 have i3:(0:Int) < (l.length:Int):=by omega
 have HI:=ζ (fun W=>rIn_any W x y0 y1);clear hj;go_enter Tryz.func18,Tryz.ntmps18;go_wp2;go_big_quiet (exact Calls.quiet_of_same (HI.out _))
 go_wp2;go_ret;exact⟨rfl,⟨rfl,rfl,rfl,Nat.le_refl _,fun _ _=>rfl⟩⟩
theorem prof_no1 {l:List Pt} {k:Nat} (hk:k < l.length) (h:farB l[k]=true):profB l=false:=by
 unfold profB;rw [show l.any farB=true from List.any_eq_true.2 ⟨_,List.getElem_mem hk,h⟩];simp
theorem prof_no2 {l:List Pt} {k:Nat} (hk:k+1 < l.length) (h:l[k+1].1<=l[k].1):profB l=false:=by
 cases e:profB l
 ·rfl
 ·have:=(prof_iff.1 e).up k hk;rw [hX_at (show k < l.length by omega),hX_at hk]at this;exact absurd this (by have:=h;show ¬ l[k].1 < l[k+1].1;omega)
theorem prof_end {l:List Pt} (h:∀i (hi:i < l.length),farB l[i]=false/\∀hj:i - 1 < l.length,0 < i->l[i - 1].1 < l[i].1):profB l=inB l.length 2 40:=by
 unfold profB;have h1:l.any farB=false:=List.any_eq_false.2 fun p hp=>by
  obtain ⟨i,hi,rfl⟩:=List.getElem_of_mem hp;rw [(h i hi).1];simp
 have h2:upB l=true:=upB_iff.2 fun i hi=>by
  have:=(h (i+1) hi).2 (by omega) (by omega);rw [hX_at (show i < l.length by omega),hX_at hi];simpa using this
 rw [h1,h2];simp
theorem mTy1_0 {P_:Prop} (h:P_:=by
 go_big_quiet (first | with_reducible exact Calls.quiet_of_same (HA.out _) | with_reducible exact Calls.quiet_of_same (HB.out _))
 have hZ:=ζ (hS.out.call (below_dN (Below.refl _ _) nq));go_wp2;go_ret;exact⟨ret_bool HG.out.symm,hZ.out.be⟩):P_:=h
theorem rValid_any (a:OA) (n c:Nat) (l:List Pt) (hs:Sx 2 w a n c (L2 l)):Calls Tryz.prog 13 #[.slice a n c] w (Gives (.bool (profB l)) w):=by
 obtain rfl:=hs.n2;have hcap:=hs.cap;unfold maxLen at hcap;have HS:=ζ hs;have AI:=ζ (fun k hk h=>prof_no1 (l:=l) (k:=k) hk h);have AJ:=ζ (fun k hk h=>prof_no2 (l:=l) (k:=k) hk h);have AK:=ζ (fun h=>prof_end (l:=l) h);clear hs;generalize profB l=R at*;go_enter Tryz.func13,Tryz.ntmps13;go_wp2;go_loopw [3] (fun iv wr=>∃k:Nat,k<=l.length/\iv= .int .i64 k/\Hid (∀i (hi:i < l.length),i < k->farB l[i]=false/\∀hj:i - 1 < l.length,0 < i->l[i - 1].1 < l[i].1)/\Hid (Sy w wr [] [] [])) (fun iv _=>l.length - (intOf iv).toNat)
 case atStart=>exact⟨0,Nat.zero_le _,rfl,ζ (fun i _ h=>absurd h (Nat.not_lt_zero i)),ζ (Sy.enter w)⟩
 case round=>
  obtain ⟨k,hk,rfl,HI,hS⟩:=hrel;by_cases hlt:k < l.length
  ·obtain ⟨g0,o0,rfl⟩:=HS.out.addr (by omega);obtain ⟨x0,x1⟩:=(hS.out.sx HS.out).at2 hlt;have i0:(0:Int)<=(k:Int):=(by omega);have i1:(k:Int) < (l.length:Int):=(by omega);have AF:=ζ (AI.out k hlt);have HF:=ζ (show farB l[k]=(!inB l[k].1 (-100000) 100000 || !inB l[k].2 (-100000) 100000)from rfl);have AA:=ζ (show farB l[k]=false->(∀hj:k - 1 < l.length,0 < k->l[k - 1].1 < l[k].1)->∀i (hi:i < l.length),i < k+1->farB l[i]=false/\∀hj:i - 1 < l.length,0 < i->l[i - 1].1 < l[i].1 from fun h1 h2 i hi hik=>by
    rcases Nat.lt_or_ge i k with h | h
    ·exact HI.out i hi h
    ·have:i=k:=(by omega);subst this;exact⟨h1,h2⟩)
   have HA:=ζ (fun W=>rIn_any W l[k].1 (-100000) 100000);have HB:=ζ (fun W=>rIn_any W l[k].2 (-100000) 100000);have AG:=ζ (fun(h:k - 1 < l.length)=>((hS.out.sx HS.out).at2 h).1);have AB:=ζ (show ∀ (h:k - 1 < l.length),0 < k->l[k].1<=l[k - 1].1->R=false from fun h h0 h1=>by
    obtain ⟨j,rfl⟩:∃j,k=j+1:=⟨k - 1,by omega⟩
    exact AJ.out j hlt (by simpa using h1))
   clear HI;generalize farB l[k]=fb at*;obtain ⟨u0,hu0⟩:∃u,l[k].1=u:=⟨_,rfl⟩
   obtain ⟨u1,hu1⟩:∃u,l[k].2=u:=⟨_,rfl⟩
   rw [hu0]at x0 HF HA AA AB;rw [hu1]at x1 HF HB;clear hu0 hu1;go_upto_region 4 with fail
   cases h1:inB u0 (-100000) 100000
   ·have HG:=ζ (AF.out (by rw [HF.out,h1];rfl));rw [h1]at HA;clear h1;exact mTy1_0
   cases h2:inB u1 (-100000) 100000
   ·have HG:=ζ (AF.out (by rw [HF.out,h1,h2];rfl));rw [h1]at HA;rw [h2]at HB;clear h1 h2;exact mTy1_0
   have AH:=ζ (HF.out.trans (by rw [h1,h2]));rw [h1]at HA;rw [h2]at HB;clear h1 h2;rcases Nat.eq_zero_or_pos k with hk0 | hk0
   ·have hkn:decide (0 < k)=false:=decide_eq_false (by omega);have AC:=ζ (AA.out AH.out (fun _ h=>absurd h (by omega)));clear hk0;go_big_quiet (first | with_reducible exact Calls.quiet_of_same (HA.out _) | with_reducible exact Calls.quiet_of_same (HB.out _))
    have hZ:=ζ (hS.out.call (below_dN (Below.refl _ _) nq));go_wp2;go_roundw
    case rel=>exact⟨k+1,by omega,by go_num,AC,hZ⟩
    case measure=>simp [intOf];omega
   ·have hkn:decide (0 < k)=true:=decide_eq_true hk0;have hkz:(0:Int) < (k:Int):=(by omega);have v2:IntKind.i64.wrap ((k:Int) - 1)=((k - 1:Nat):Int):=(by rw [IntWalk.i64_in _ (by omega)];omega);have n1:(k:Int) - 1=((k - 1:Nat):Int):=(by omega);have n2:(0:Int)<=((k - 1:Nat):Int):=(by omega);have n3:((k - 1:Nat):Int) < (l.length:Int):=(by omega);have hk1:k - 1 < l.length:=(by omega);have y0:=AG.out hk1;have AL:=ζ (AB.out hk1 hk0);have AD:=ζ (show l[k - 1].1 < u0->_ from fun h=>AA.out AH.out (fun _ _=>h));clear AG AB AA;generalize l[k - 1].1=pv at*;by_cases hle:u0<=pv
    ·have HG:=ζ (AL.out hle);have d1:=decide_eq_true hle;exact mTy1_0
    ·have d1:=decide_eq_false hle;have AE:=ζ (AD.out (by omega));go_big_quiet (first | with_reducible exact Calls.quiet_of_same (HA.out _) | with_reducible exact Calls.quiet_of_same (HB.out _))
     have hZ:=ζ (hS.out.call (below_dN (Below.refl _ _) nq));go_wp2;go_roundw
     case rel=>exact⟨k+1,by omega,by go_num,AE,hZ⟩
     case measure=>simp [intOf];omega
  ·obtain rfl:k=l.length:=by omega
   have HG:=ζ (AK.out (fun i hi=>HI.out i hi hi));have HQ:=ζ (show inB (l.length:Int) 2 40=(decide ((2:Int)<=l.length) && decide ((l.length:Int)<=40))from rfl);by_cases q1:(2:Int)<=(l.length:Int)
   ·by_cases q2:(l.length:Int)<=40
    ·go_wp2;go_ret;exact⟨ret_bool (by rw [HG.out,HQ.out,decide_eq_true (show(2:Int)<=l.length by omega),decide_eq_true (show(l.length:Int)<=40 by omega)];first | done | rfl),hS.out.be⟩
    ·go_wp2;go_ret;exact⟨ret_bool (by rw [HG.out,HQ.out,decide_eq_true (show(2:Int)<=l.length by omega),decide_eq_false (show ¬ (l.length:Int)<=40 by omega)];first | done | rfl),hS.out.be⟩
   ·go_wp2;go_ret;exact⟨ret_bool (by rw [HG.out,HQ.out,decide_eq_false (show ¬ (2:Int)<=l.length by omega)];first | done | rfl),hS.out.be⟩
end
theorem L2_snocT (l:List I2) (k:Nat) (h:k < l.length):L2 (l.take (k+1))=L2 (l.take k)++c2 l[k]:=by rw [List.take_succ_eq_append_getElem h,L2_append];simp [L2]
theorem und_PtsT:Tryz.prog.underlying 48=some (.slice 47):=Tryz.underlying48
theorem info_PtsT:(Tryz.prog.info? 47).map (fun i=>(i.zero,i.size,i.bytes))=some (some (.agg #[.int .i64 0,.int .i64 0]),2,16):=by kernel_rfl
theorem conv_PtsT (a:OA) (n c:Nat) (l:List I2) (w:World) (hs:Sx 2 w a n c (L2 l)) (hn:n<=100000):
  Calls Tryz.prog 14 #[.slice a n c] w (RetRow w 47 2 l.length (L2 l)):=by
 have hlen:=hs.n2;have HS:=ζ hs;obtain rfl:l.length=n:=hlen.symm;clear hs hlen;go_enter Tryz.func14,Tryz.ntmps14;go_wp2;go_loopw [3,4] (fun ov iv wr=>∃ (k:Nat) (a1:OA) (c1:Nat),k<=l.length/\ov= .slice a1 k c1/\iv= .int .i64 k/\Hid (Sy w wr [] [⟨.slice a1 k c1,47,2,k,L2 (l.take k)⟩] [])) (fun _ iv _=>l.length - (intOf iv).toNat)
 case atStart=>exact⟨0,none,0,Nat.zero_le _,rfl,rfl,ζ ((Sy.enter w).onil _ 2)⟩
 case round=>
  obtain ⟨k,a1,c1,hk,rfl,rfl,hC⟩:=hrel;by_cases hlt:k < l.length
  ·obtain ⟨g0,o0,rfl⟩:=HS.out.addr (by omega);have HF:=ζ (fun V (hV:Below w.heap.size w V)=>(HS.out.below hV).at2 hlt);have HT:=ζ (L2_snocT l k hlt);generalize l[k]=x at*;obtain ⟨u0,u1⟩:=x;go_upto_region 5 with fail
   refine wp_region_noPanic ?_;refine wp_region_held_drew (S:=(fun w'=>w'.cell? ⟨g0,o0+k*2,none⟩=some (.int .i64 u0)/\w'.cell? ⟨g0,o0+k*2+1,none⟩=some (.int .i64 u1)/\True)) (by kernel_rfl) ⟨(HF.out _ hC.out.drew.be).1,(HF.out _ hC.out.drew.be).2,trivial⟩ (fun hH=>?_);refine wpAnyH_geny (show Sy w _ [] [⟨.slice a1 k c1,47,2,k,L2 (l.take k)⟩] []from hC.out.drew) hH ?_;intro VPts_0 hc hHPts_0;have hVPts_0:=ζ hc;clear hc hH hC;refine tkA 0 rfl hHPts_0 ?_;(try simp only [zP]);refine tkA 1 rfl hHPts_0 ?_;(try simp only [zP]);refine tkA 2 rfl hHPts_0 ?_;(try simp only [zP]);refine tkA 3 rfl hHPts_0 ?_;(try simp only [zP]);refine tkA 4 rfl hHPts_0 ?_;(try simp only [zP]);refine tkA 5 rfl hHPts_0 ?_;(try simp only [zP]);refine tkA 6 rfl hHPts_0 ?_;(try simp only [zP]);refine tkA 7 rfl hHPts_0 ?_;(try simp only [zP]);refine tkA 8 rfl hHPts_0 ?_;(try simp only [zP]);refine tkA 9 rfl hHPts_0 ?_;(try simp only [zP]);refine tkA 10 rfl hHPts_0 ?_;(try simp only [zP]);refine tkA 11 rfl hHPts_0 ?_;(try simp only [zP]);refine rdy1 12 rfl (fun Kq AB=>?_);go_simp;refine stepZ AB (show Sy w _ [] [⟨.slice a1 k c1,47,2,k,L2 (l.take k)⟩,⟨.slice (some ⟨VPts_0.heap.size,0,none⟩) 1 1,47,2,1,[.int .i64 u0,.int .i64 u1]⟩] []from(hVPts_0.out.onew VPts_0.heap.size #[.int .i64 u0,.int .i64 u1] 47 2 1 rfl (by omega) rfl)) (fun _ hX=>⟨(HF.out _ hX.be).1,(HF.out _ hX.be).2,trivial⟩) ?_;intro VPts_1 hVPts_1 hHPts_1;clear AB Kq hVPts_0 hHPts_0;(try simp only [zP]);refine rdy1 13 rfl (fun Kq AB=>?_);rw [if_pos (by rfl)];refine op_append_sy hVPts_1.out 0 1 rfl rfl _ _ _ rfl und_PtsT info_PtsT rfl (by omega) rfl rfl (by intro u hu;simp at hu;rcases hu with rfl | rfl<;>rfl) (by omega) (by omega) (fun aAPts_2 cAPts_2 _ hc=>?_);refine stepZ AB (show Sy w _ [] [⟨.slice aAPts_2 (k+1) cAPts_2,47,2,k+1,L2 (l.take k)++ [.int .i64 u0,.int .i64 u1]⟩,⟨.slice (some ⟨VPts_0.heap.size,0,none⟩) 1 1,47,2,1,[.int .i64 u0,.int .i64 u1]⟩] []from hc) (fun _ hX=>⟨(HF.out _ hX.be).1,(HF.out _ hX.be).2,trivial⟩) ?_;intro VPts_2 hVPts_2 hHPts_2;clear AB Kq hVPts_1 hc hHPts_1;(try simp only [zP]);refine rdy1 14 rfl (fun Kq AB=>?_);go_simp;refine stepZ AB (show Sy w _ [] [⟨.slice aAPts_2 (k+1) cAPts_2,47,2,k+1,L2 (l.take k)++ [.int .i64 u0,.int .i64 u1]⟩,⟨.slice (some ⟨VPts_0.heap.size,0,none⟩) 1 1,47,2,1,[.int .i64 u0,.int .i64 u1]⟩] []from hVPts_2.out) (fun _ hX=>⟨(HF.out _ hX.be).1,(HF.out _ hX.be).2,trivial⟩) ?_;intro VPts_3 hVPts_3 hHPts_3;clear AB Kq hVPts_2 hHPts_2;(try simp only [zP]);refine wpAnyH_done (by kernel_rfl) ?_ _;refine NoPanic.normal ?_;go_wp2;go_roundw
   case rel=>
    refine⟨k+1,_,_,by omega,rfl,by go_num,?_⟩;rw [HT.out];exact ζ (hVPts_3.out.thin (List.Sublist.refl _) (by exact List.Sublist.cons_cons _ (List.nil_sublist _)))
   case measure=>simp [intOf];omega
  ·obtain rfl:k=l.length:=by omega
   go_wp2;go_ret;exact⟨_,_,rfl,by have h:=hC.out.gives 0 rfl;rwa [List.take_length]at h,hC.out.be⟩
section
variable (w:World)
theorem mTq11_0 {P_:Prop} (h:P_:=by
 rw [hb15]at AG⊢;clear hb15;have AK:=ζ (show Sy w _ [(b12,#[.slice a1 l.length c1,.slice none 0 0],65),(b13,#[.slice ap np cp,.bool mp,.slice dp ep fp],72),(b15,#[.slice ah nh ch,.bool mh,.slice dh eh fh],72)] [⟨.slice a1 l.length c1,47,2,l.length,L2 l⟩] [(fun V=>Rd V (.slice ap np cp) mp (.slice dp ep fp) (gq)),(fun V=>Rd V (.slice ax nx cx) mx (.slice dx ex fx) (((x:Rat)))),(fun V=>Rd V (.slice ah nh ch) mh (.slice dh eh fh) (gq))]from AG.out);clear AG;go_wp2_with fail
 refine(AV.out _ AK.out.be).mono ?_;rintro e WN51 ⟨rfl,hb⟩;have AE:=ζ (AK.out.call hb);clear hb AK;have A3:=AE.out.c 1 0;have A4:=AE.out.c 1 1;have A5:=AE.out.c 1 2;have A6:=AE.out.c 2 0;have A7:=AE.out.c 2 1;have A8:=AE.out.c 2 2;go_wp2_with fail
 refine(hcmp_is (v:=0) (AE.out.r 0 rfl) (AE.out.r 2 rfl) BA.out.bq BA.out.bq (by omega) (by omega) (by unfold cmpQ;rw [if_pos rfl])).mono ?_;rintro e WN52 ⟨rfl,hb⟩;have AL:=ζ (AE.out.call hb);clear hb AE;clear A3 A4 A5 A6 A7 A8;have HA:=ζ (show 1<=1+wi/\1+wi<=256 by omega);have HB:=ζ (show 1<=1+hi/\1+hi<=256 by omega);go_upto_region 12 with fail
 have AR:=ζ (fun W hW=>BC.out W hW (x+(1+wi)));cases qy:hasB l (x+(1+wi))
 ·rw [qy]at AR;clear qy;go_wp2_with fail
  refine(AR.out _ AL.out.be).mono ?_;rintro e WN71 ⟨rfl,hb⟩;have A9:=ζ (AL.out.call hb);clear hb AL;go_wp2_with fail
  refine(HW.out _).mono ?_;rintro e WZ ⟨rfl,hb⟩;have hZ:=ζ (A9.out.call hb);clear hb;go_wp2;go_ret;exact⟨rfl,hZ.out.be⟩
 rw [qy]at AR;have qs:strB l x (x+(1+wi))=true:=by unfold strB;rw [BB.out,qy,decide_eq_true (show x < x+(1+wi)by omega)];rfl
 have Ax:=ζ (strErr_ok Ar.out qs);have HT:=ζ (strErr_zero Ax.out);have BF:=ζ HT.out.hi_gd;have hce:=HT.out.hi_gd.ceil;have BG:=ζ (fun W c (hh:Sx 2 W a1 l.length c (L2 l))=>hBounds_ok W a1 l.length c l x (x+(1+wi)) hh Ax.out);have Az:=ζ (fun W c (hh:Sx 2 W a1 l.length c (L2 l)) ar cr z hz hz1 hgW (hr:Sx 2 W ar 4 cr (L2 (rectL (1+wi) (1+hi))))=>drop_block (w:=W) (up:=up) (z:=z) (ag:=a1) (ng:=l.length) (cg:=c) (ar:=ar) (cr:=cr) HT.out Ar.out HA.out HB.out BM.out hz hz1 hgW hh hr);obtain ⟨ce,hcq⟩:∃k,(hiQ l x (x+(1+wi))).ceil=k:=⟨_,rfl⟩
 have BH:=ζ hcq;rw [hcq]at hce Az;clear hcq qs qy HT;generalize loQ l x (x+(1+wi))=lo at*;generalize hiQ l x (x+(1+wi))=hq at*;go_wp2_with fail
 refine(AR.out _ AL.out.be).mono ?_;rintro e WN81 ⟨rfl,hb⟩;have AS:=ζ (AL.out.call hb);clear hb AL;go_wp2_with fail
 refine(BG.out _ c1 (AS.out.osx 0 rfl)).mono ?_;rintro e W ⟨aq,nq,cq,mq,dq,eq,fq,ar,nr,cr,mr,dr,er,fr,rfl,hz1,hz2,hb⟩;have hY:=ζ (((AS.out.call hb).pR rfl rfl hz1).pR rfl rfl hz2);clear hb hz1 hz2 AS;go_upto_region 15 with fail
 have hX:=ζ (show Sy w _ [(b12,#[.slice a1 l.length c1,.slice none 0 0],65),(b13,#[.slice ap np cp,.bool mp,.slice dp ep fp],72),(b15,#[.slice ah nh ch,.bool mh,.slice dh eh fh],72),(W.heap.size,#[.slice aq nq cq,.bool mq,.slice dq eq fq],72),(W.heap.size+1,#[.slice ar nr cr,.bool mr,.slice dr er fr],72)] [⟨.slice a1 l.length c1,47,2,l.length,L2 l⟩] [(fun V=>Rd V (.slice ap np cp) mp (.slice dp ep fp) (gq)),(fun V=>Rd V (.slice ax nx cx) mx (.slice dx ex fx) (((x:Rat)))),(fun V=>Rd V (.slice ah nh ch) mh (.slice dh eh fh) (gq)),(fun V=>Rd V (.slice aq nq cq) mq (.slice dq eq fq) (lo)),(fun V=>Rd V (.slice ar nr cr) mr (.slice dr er fr) (hq))]from(hY.out.al W.heap.size #[.slice aq nq cq,.bool mq,.slice dq eq fq] 72 rfl|>.al (W.heap.size+1) #[.slice ar nr cr,.bool mr,.slice dr er fr] 72 (by simp)));obtain ⟨b20,eb20⟩:∃b,W.heap.size+1=b:=⟨_,rfl⟩
 rw [eb20]at hX⊢;obtain ⟨b19,eb19⟩:∃b,W.heap.size=b:=⟨_,rfl⟩
 rw [eb19]at hX⊢;refine wp_geny hX.out ?_;intro WN82 hc;have AM:=ζ hc;clear hc hX eb20 eb19 hY;have Ab:=AM.out.c 4 0;have Ac:=AM.out.c 4 1;have Ad:=AM.out.c 4 2;go_wp2_with fail
 refine(rceil_d (AM.out.r 4 rfl) BF.out.bq (by omega) BH.out).mono ?_;rintro e WC ⟨a7,n7,c7,m7,rfl,hz,hb⟩;have AT:=ζ ((AM.out.call hb).pZ rfl rfl hz);clear hb hz AM Ab Ac Ad;have HI:=ζ (show i64res ce=(ce,true)by unfold i64res;rw [if_pos (by omega)]);have BI:=ζ (show Bd 20 ce by unfold Bd;omega);go_wp2_with fail
 refine(int64_any a7 n7 c7 m7 ce _ (AT.out.r 5 rfl) 20 BI.out (by omega)).mono ?_;rintro e WI ⟨rfl,hb⟩;rw [HI.out];have AU:=ζ (AT.out.call hb);clear hb AT;by_cases hzz:100000 < ce+up
 ·have hzd:=decide_eq_true hzz;go_wp2_with fail
  refine(HW.out _).mono ?_;rintro e WZ ⟨rfl,hb⟩;have hZ:=ζ (AU.out.call hb);clear hb;go_wp2;go_ret;exact⟨rfl,hZ.out.be⟩
 have hzd:=decide_eq_false hzz;go_upto_region 22 with fail
 have hX:=ζ ((AU.out.onew WI.heap.size #[.int .i64 0,.int .i64 0,.int .i64 (1+wi),.int .i64 0,.int .i64 (1+wi),.int .i64 (1+hi),.int .i64 0,.int .i64 (1+hi)] 47 2 4 rfl (by omega) rfl).al (WI.heap.size+1) #[.string blockN,.slice (some ⟨WI.heap.size,0,none⟩) 4 4,.int .i64 1,.int .i64 1,.int .i64 1,.int .i64 0] 85 (by simp));obtain ⟨b25,hb25⟩:∃b,WI.heap.size+1=b:=⟨_,rfl⟩
 obtain ⟨gR,hgR⟩:∃b,WI.heap.size=b:=⟨_,rfl⟩
 rw [hb25,hgR]at hX⊢;clear hb25 hgR;refine wp_geny (show Sy w _ [(b12,#[.slice a1 l.length c1,.slice none 0 0],65),(b13,#[.slice ap np cp,.bool mp,.slice dp ep fp],72),(b15,#[.slice ah nh ch,.bool mh,.slice dh eh fh],72),(b19,#[.slice aq nq cq,.bool mq,.slice dq eq fq],72),(b20,#[.slice ar nr cr,.bool mr,.slice dr er fr],72),(b25,#[.string blockN,.slice (some ⟨gR,0,none⟩) 4 4,.int .i64 1,.int .i64 1,.int .i64 1,.int .i64 0],85)] [⟨.slice a1 l.length c1,47,2,l.length,L2 l⟩,⟨.slice (some ⟨gR,0,none⟩) 4 4,47,2,4,[.int .i64 0,.int .i64 0,.int .i64 (1+wi),.int .i64 0,.int .i64 (1+wi),.int .i64 (1+hi),.int .i64 0,.int .i64 (1+hi)]⟩] [(fun V=>Rd V (.slice ap np cp) mp (.slice dp ep fp) (gq)),(fun V=>Rd V (.slice ax nx cx) mx (.slice dx ex fx) (((x:Rat)))),(fun V=>Rd V (.slice ah nh ch) mh (.slice dh eh fh) (gq)),(fun V=>Rd V (.slice aq nq cq) mq (.slice dq eq fq) (lo)),(fun V=>Rd V (.slice ar nr cr) mr (.slice dr er fr) (hq)),(fun V=>Zd V (.slice a7 n7 c7) m7 ce)]from hX.out) ?_;intro WN95 hc;have AC:=ζ hc;clear hc hX AU;have Af:=AC.out.c 0 0;have Ag:=AC.out.c 0 1;have Aj:=AC.out.c 5 0;have Ak:=AC.out.c 5 1;have Al:=AC.out.c 5 2;have Am:=AC.out.c 5 3;have An:=AC.out.c 5 4;have Ap:=AC.out.c 5 5;go_wp2_with fail
 refine(Az.out _ c1 (AC.out.osx 0 rfl) _ _ (ce+up) rfl (by omega) (BK.out _ AC.out.be) (AC.out.osx 1 rfl)).mono ?_;rintro e WN96 ⟨rfl,hb⟩;have Aq:=ζ (AC.out.call hb);clear hb AC;clear Af Ag Aj Ak Al Am An Ap;go_wp2_with fail
 refine(HW.out _).mono ?_;rintro e WZ ⟨rfl,hb⟩;have hZ:=ζ (Aq.out.call hb);clear hb;go_wp2;go_ret;exact⟨rfl,hZ.out.be⟩):P_:=h
theorem mTq11_1 {P_:Prop} (h:P_:=by
 rw [hb15]at AG⊢;clear hb15;have AK:=ζ (show Sy w _ [(b12,#[.slice a1 l.length c1,.slice none 0 0],65),(b13,#[.slice ap np cp,.bool mp,.slice dp ep fp],72),(b15,zR,72)] [⟨.slice a1 l.length c1,47,2,l.length,L2 l⟩] [(fun V=>Rd V (.slice ap np cp) mp (.slice dp ep fp) (0)),(fun V=>Rd V (.slice ax nx cx) mx (.slice dx ex fx) (((x:Rat))))]from AG.out);clear AG;go_wp2_with fail
 refine(AV.out _ AK.out.be).mono ?_;rintro e WN51 ⟨rfl,hb⟩;have AE:=ζ (AK.out.call hb);clear hb AK;go_wp2_with fail
 refine(HW.out _).mono ?_;rintro e WZ ⟨rfl,hb⟩;have hZ:=ζ (AE.out.call hb);clear hb;go_wp2;go_ret;exact⟨rfl,hZ.out.be⟩):P_:=h
theorem topGrounds_walk (la:OA) (ln lc:Nat) (l:List Pt) (x wi hi up:Int) (hs:Sx 2 w la ln lc (L2 l)) (hg:Ways w) (hxr: -9223372036854775808<=x/\x<=9223372036854775807) (hwi:0<=wi/\wi<=255) (hhi:0<=hi/\hi<=255) (hup:0<=up/\up<=65535):
  Calls Tryz.prog 4 #[.slice la ln lc,.int .i64 x,.int .u8 wi,.int .u8 hi,.int .u16 up] w (Gives (.bool true) w):=by
 have HW:=ζ wakes08t;obtain rfl:=hs.n2;have hC:=ζ (Sy.enter w);have HV:=ζ (fun W (hW:Below w.heap.size w W)=>rValid_any W la l.length lc l (hs.below hW));cases qp:profB l
 ·rw [qp]at HV;clear hs hg qp;go_enter Tryz.func4,Tryz.ntmps4;go_wp2_with fail
  refine(HV.out _ hC.out.be).mono ?_;rintro e W1 ⟨rfl,hb⟩;have As:=ζ (hC.out.call hb);clear hb hC;go_wp2_with fail
  refine(HW.out _).mono ?_;rintro e WZ ⟨rfl,hb⟩;have hZ:=ζ (As.out.call hb);clear hb;go_wp2;go_ret;exact⟨rfl,hZ.out.be⟩
 rw [qp]at HV;have hP:=prof_iff.1 qp;have hl2:=hP.two;have hl40:=hP.forty;have BJ:=ζ (fun W (hW:Below w.heap.size w W)=>conv_PtsT la l.length lc l W (hs.below hW) (by omega));have BC:=ζ (fun W (hW:Below w.heap.size w W) y=>rHas_any W la l.length lc l y (hs.below hW) (by omega));have BK:=ζ (fun W (hW:Below w.heap.size w W)=>hg.below hW);have Ar:=ζ qp;have BD:=ζ hP;have BL:=ζ hxr;clear hs hg qp hP;cases qx:hasB l x
 ·have AV:=ζ (fun W hW=>BC.out W hW x);rw [qx]at AV;have BE:=ζ (show -9223372036854775808<=x/\x < 9223372036854775808 by have:=BL.out;omega);have BO:=ζ (show ¬ (hX l 0<=x/\x<=hX l (l.length - 1))from fun h=>by have:=inB_iff.2 h;unfold hasB at qx;rw [qx]at this;cases this);have BB:=ζ qx;clear qx;go_enter Tryz.func4,Tryz.ntmps4;go_wp2_with fail
  refine(HV.out _ hC.out.be).mono ?_;rintro e W0 ⟨rfl,hb⟩;have hB:=ζ (hC.out.call hb);clear hb hC HV;go_wp2_with fail
  refine(BJ.out _ hB.out.be).mono ?_;rintro e W1 ⟨a1,c1,rfl,hr,hb⟩;have hD:=ζ (show Sy w _ [] [⟨.slice a1 l.length c1,47,2,l.length,L2 l⟩] []from hB.out.adopt hb hr);clear hb hr hB BJ;go_upto_region 5 with fail
  have hX:=ζ (show Sy w _ [(W1.heap.size,#[.slice a1 l.length c1,.slice none 0 0],65)] [⟨.slice a1 l.length c1,47,2,l.length,L2 l⟩] []from hD.out.al W1.heap.size #[.slice a1 l.length c1,.slice none 0 0] 65 rfl);obtain ⟨b12,eb12⟩:∃b,W1.heap.size=b:=⟨_,rfl⟩
  rw [eb12]at hX⊢;refine wp_geny hX.out ?_;intro WN1 hc;have As:=ζ hc;clear hc hX eb12 hD;have HG:=ζ (fun W c (hh:Sx 2 W a1 l.length c (L2 l))=>hground_out W a1 l.length c l x hh Ar.out BB.out);have HH:=ζ (fun W c (hh:Sx 2 W a1 l.length c (L2 l)) a8 n8 c8 m8 d8 e8 f8 (hx:Rd W (.slice a8 n8 c8) m8 (.slice d8 e8 f8) (((x:Rat))))=>callsIn_wide.1 (pheight2_out W 6 (by omega) a1 l.length c l x a8 n8 c8 m8 d8 e8 f8 Ar.out BD.out hh hx BL.out BO.out));go_wp2_with fail
  refine(HG.out _ c1 (As.out.osx 0 rfl)).mono ?_;rintro e W ⟨ap,np,cp,mp,dp,ep,fp,rfl,hz,hb⟩;have hY:=ζ ((As.out.call hb).pR rfl rfl hz);clear hb hz As;go_upto_region 6 with fail
  have hX:=ζ (show Sy w _ [(b12,#[.slice a1 l.length c1,.slice none 0 0],65),(W.heap.size,#[.slice ap np cp,.bool mp,.slice dp ep fp],72)] [⟨.slice a1 l.length c1,47,2,l.length,L2 l⟩] [(fun V=>Rd V (.slice ap np cp) mp (.slice dp ep fp) (0))]from hY.out.al W.heap.size #[.slice ap np cp,.bool mp,.slice dp ep fp] 72 rfl);obtain ⟨b13,eb13⟩:∃b,W.heap.size=b:=⟨_,rfl⟩
  rw [eb13]at hX⊢;refine wp_geny hX.out ?_;intro WN2 hc;have Av:=ζ hc;clear hc hX eb13 hY;go_upto_region 6 with fail
  have HSL:∀V ex os rs,Sy w V ([(b12,#[.slice a1 l.length c1,.slice none 0 0],65),(b13,#[.slice ap np cp,.bool mp,.slice dp ep fp],72)]++ex) os rs->(fun w'=>w'.cell? ⟨b12,0,none⟩=some (.slice a1 l.length c1)/\w'.cell? ⟨b12,1,none⟩=some (.slice none 0 0)/\True) V:=fun V ex os rs hX=>⟨hX.c 0 0,hX.c 0 1,trivial⟩
  refine wp_region_held_drew (S:=(fun w'=>w'.cell? ⟨b12,0,none⟩=some (.slice a1 l.length c1)/\w'.cell? ⟨b12,1,none⟩=some (.slice none 0 0)/\True)) (by kernel_rfl) ⟨Av.out.drew.c 0 0,Av.out.drew.c 0 1,trivial⟩ (fun hH=>?_);refine wpAnyH_geny (show Sy w _ [(b12,#[.slice a1 l.length c1,.slice none 0 0],65),(b13,#[.slice ap np cp,.bool mp,.slice dp ep fp],72)] [⟨.slice a1 l.length c1,47,2,l.length,L2 l⟩] [(fun V=>Rd V (.slice ap np cp) mp (.slice dp ep fp) (0))]from Av.out.drew) hH ?_;intro AZ hc AO;have AP:=ζ hc;clear hc hH Av;refine tkA 0 rfl AO ?_;try simp only [zP]
  refine tkA 1 rfl AO ?_;try simp only [zP]
  refine rdyL [2,7] ?_;refine arc rfl (fun Kq AB=>?_) ?_
  ·go_simp;go_at_call 17;refine(of_any x BE.out _).mono ?_;rintro e wT ⟨ax,nx,cx,mx,dx,ex,fx,rfl,hz,hb⟩;(try go_wp2_with fail);refine stW AB ((AP.out.call hb).pR rfl rfl hz) ?_;intro AY AH AQ;clear AB Kq AP hb hz AO;(try simp only [zP]);refine rdyL [3,7] ?_;refine arc rfl (fun Kq AB=>?_) ?_
   ·go_simp;go_at_call 16;refine(HH.out _ c1 (AH.out.osx 0 rfl) _ _ _ _ _ _ _ (AH.out.r 1 rfl)).mono ?_;rintro e wT ⟨rfl,hb⟩;(try go_wp2_with fail);refine stW AB (AH.out.call hb) ?_;intro AW AD AI;clear AB Kq AH hb AQ;(try simp only [zP]);refine tkA 4 rfl AI ?_;(try simp only [zP]);refine tkA 5 rfl AI ?_;(try simp only [zP]);refine tkA 6 rfl AI ?_;(try simp only [zP]);refine rdy1 7 rfl (fun Kq AB=>?_);go_simp;refine stW AB (AD.out.al AW.heap.size zR 72 rfl) ?_;intro A0 AA AF;clear AB Kq AD AI;(try simp only [zP]);refine rdy1 8 rfl (fun Kq AB=>?_);have cQ0:=AA.out.c 2 0;have fQ0:=AA.out.f 2 0;have cQ1:=AA.out.c 2 1;have fQ1:=AA.out.f 2 1;have cQ2:=AA.out.c 2 2;have fQ2:=AA.out.f 2 2;go_simp;refine stW AB (AA.out|>.set (j:=0) (v:= .slice none 0 0) 2 rfl|>.set (j:=1) (v:= .bool false) 2 rfl|>.set (j:=2) (v:= .slice none 0 0) 2 rfl) ?_;intro A1 AJ AN;clear AB Kq AA cQ0 fQ0 cQ1 fQ1 cQ2 fQ2 AF;(try simp only [Act.put]);refine rdy1 9 rfl (fun Kq AB=>?_);go_simp;refine stW AB AJ.out ?_;intro A2 AG AX;clear AB Kq AJ AN;(try simp only [zP]);refine wpAnyH_done (by kernel_rfl) ?_ _;obtain ⟨b15,hb15⟩:∃b,AW.heap.size=b:=⟨_,rfl⟩
    exact mTq11_1
   refine arc rfl (fun Kq AB=>?_) ?_
   ·go_simp;refine stW AB (AH.out.al AY.heap.size zR 72 rfl) ?_;intro AW AD AI;clear AB Kq AH AQ;(try simp only [zP]);refine rdy1 3 rfl (fun Kq AB=>?_);go_simp;go_at_call 16;refine(HH.out _ c1 (AD.out.osx 0 rfl) _ _ _ _ _ _ _ (AD.out.r 1 rfl)).mono ?_;rintro e wT ⟨rfl,hb⟩;(try go_wp2_with fail);refine stW AB (AD.out.call hb) ?_;intro A0 AA AF;clear AB Kq AD hb AI;(try simp only [zP]);refine tkA 4 rfl AF ?_;(try simp only [zP]);refine tkA 5 rfl AF ?_;(try simp only [zP]);refine tkA 6 rfl AF ?_;(try simp only [zP]);refine rdy1 8 rfl (fun Kq AB=>?_);have cQ0:=AA.out.c 2 0;have fQ0:=AA.out.f 2 0;have cQ1:=AA.out.c 2 1;have fQ1:=AA.out.f 2 1;have cQ2:=AA.out.c 2 2;have fQ2:=AA.out.f 2 2;go_simp;refine stW AB (AA.out|>.set (j:=0) (v:= .slice none 0 0) 2 rfl|>.set (j:=1) (v:= .bool false) 2 rfl|>.set (j:=2) (v:= .slice none 0 0) 2 rfl) ?_;intro A1 AJ AN;clear AB Kq AA cQ0 fQ0 cQ1 fQ1 cQ2 fQ2 AF;(try simp only [Act.put]);refine rdy1 9 rfl (fun Kq AB=>?_);go_simp;refine stW AB AJ.out ?_;intro A2 AG AX;clear AB Kq AJ AN;(try simp only [zP]);refine wpAnyH_done (by kernel_rfl) ?_ _;obtain ⟨b15,hb15⟩:∃b,AY.heap.size=b:=⟨_,rfl⟩
    exact mTq11_1
   exact AllReadyH.nil
  refine arc rfl (fun Kq AB=>?_) ?_
  ·go_simp;refine stW AB (AP.out.al AZ.heap.size zR 72 rfl) ?_;intro AY AH AQ;clear AB Kq AP AO;(try simp only [zP]);refine rdy1 2 rfl (fun Kq AB=>?_);go_simp;go_at_call 17;refine(of_any x BE.out _).mono ?_;rintro e wT ⟨ax,nx,cx,mx,dx,ex,fx,rfl,hz,hb⟩;(try go_wp2_with fail);refine stW AB ((AH.out.call hb).pR rfl rfl hz) ?_;intro AW AD AI;clear AB Kq AH hb hz AQ;(try simp only [zP]);refine rdy1 3 rfl (fun Kq AB=>?_);go_simp;go_at_call 16;refine(HH.out _ c1 (AD.out.osx 0 rfl) _ _ _ _ _ _ _ (AD.out.r 1 rfl)).mono ?_;rintro e wT ⟨rfl,hb⟩;(try go_wp2_with fail);refine stW AB (AD.out.call hb) ?_;intro A0 AA AF;clear AB Kq AD hb AI;(try simp only [zP]);refine tkA 4 rfl AF ?_;(try simp only [zP]);refine tkA 5 rfl AF ?_;(try simp only [zP]);refine tkA 6 rfl AF ?_;(try simp only [zP]);refine rdy1 8 rfl (fun Kq AB=>?_);have cQ0:=AA.out.c 2 0;have fQ0:=AA.out.f 2 0;have cQ1:=AA.out.c 2 1;have fQ1:=AA.out.f 2 1;have cQ2:=AA.out.c 2 2;have fQ2:=AA.out.f 2 2;go_simp;refine stW AB (AA.out|>.set (j:=0) (v:= .slice none 0 0) 2 rfl|>.set (j:=1) (v:= .bool false) 2 rfl|>.set (j:=2) (v:= .slice none 0 0) 2 rfl) ?_;intro A1 AJ AN;clear AB Kq AA cQ0 fQ0 cQ1 fQ1 cQ2 fQ2 AF;(try simp only [Act.put]);refine rdy1 9 rfl (fun Kq AB=>?_);go_simp;refine stW AB AJ.out ?_;intro A2 AG AX;clear AB Kq AJ AN;(try simp only [zP]);refine wpAnyH_done (by kernel_rfl) ?_ _;obtain ⟨b15,hb15⟩:∃b,AZ.heap.size=b:=⟨_,rfl⟩
   exact mTq11_1
  exact AllReadyH.nil
 have AV:=ζ (fun W hW=>BC.out W hW x);rw [qx]at AV;have hin:=inB_iff.1 qx;have BE:=ζ (show -9223372036854775808<=x/\x < 9223372036854775808 by have:=BL.out;omega);have BN:=ζ hin;have BA:=ζ (BD.out.grd_gd hin.1 hin.2);have hx1:=BD.out.bx (i:=0) (by omega);have hx2:=BD.out.bx (i:=l.length - 1) (by omega);have BP: -100000<=x/\x<=100000:=by omega
 clear hx1 hx2;have BB:=ζ qx;have BQ:=ζ (show 0<=wi/\wi<=255 from hwi);have BR:=ζ (show 0<=hi/\hi<=255 from hhi);have BM:=ζ hup;clear qx hin;go_enter Tryz.func4,Tryz.ntmps4;go_wp2_with fail
 refine(HV.out _ hC.out.be).mono ?_;rintro e W0 ⟨rfl,hb⟩;have hB:=ζ (hC.out.call hb);clear hb hC HV;go_wp2_with fail
 refine(BJ.out _ hB.out.be).mono ?_;rintro e W1 ⟨a1,c1,rfl,hr,hb⟩;have hD:=ζ (show Sy w _ [] [⟨.slice a1 l.length c1,47,2,l.length,L2 l⟩] []from hB.out.adopt hb hr);clear hb hr hB BJ;go_upto_region 5 with fail
 have hX:=ζ (show Sy w _ [(W1.heap.size,#[.slice a1 l.length c1,.slice none 0 0],65)] [⟨.slice a1 l.length c1,47,2,l.length,L2 l⟩] []from hD.out.al W1.heap.size #[.slice a1 l.length c1,.slice none 0 0] 65 rfl);obtain ⟨b12,eb12⟩:∃b,W1.heap.size=b:=⟨_,rfl⟩
 rw [eb12]at hX⊢;refine wp_geny hX.out ?_;intro WN1 hc;have As:=ζ hc;clear hc hX eb12 hD;have HG:=ζ (fun W c (hh:Sx 2 W a1 l.length c (L2 l))=>hground_ok W a1 l.length c l x hh Ar.out BB.out);have HH:=ζ (fun W c (hh:Sx 2 W a1 l.length c (L2 l)) a8 n8 c8 m8 d8 e8 f8 (hx:Rd W (.slice a8 n8 c8) m8 (.slice d8 e8 f8) (((x:Rat))))=>callsIn_wide.1 (pheight2_in W 6 (by omega) a1 l.length c l x a8 n8 c8 m8 d8 e8 f8 Ar.out BD.out hh hx BN.out.1 BN.out.2));obtain ⟨gq,hgq⟩:∃q,grd l x=q:=⟨_,rfl⟩
 rw [hgq]at BA HG HH;clear hgq;go_wp2_with fail
 refine(HG.out _ c1 (As.out.osx 0 rfl)).mono ?_;rintro e W ⟨ap,np,cp,mp,dp,ep,fp,rfl,hz,hb⟩;have hY:=ζ ((As.out.call hb).pR rfl rfl hz);clear hb hz As;go_upto_region 6 with fail
 have hX:=ζ (show Sy w _ [(b12,#[.slice a1 l.length c1,.slice none 0 0],65),(W.heap.size,#[.slice ap np cp,.bool mp,.slice dp ep fp],72)] [⟨.slice a1 l.length c1,47,2,l.length,L2 l⟩] [(fun V=>Rd V (.slice ap np cp) mp (.slice dp ep fp) (gq))]from hY.out.al W.heap.size #[.slice ap np cp,.bool mp,.slice dp ep fp] 72 rfl);obtain ⟨b13,eb13⟩:∃b,W.heap.size=b:=⟨_,rfl⟩
 rw [eb13]at hX⊢;refine wp_geny hX.out ?_;intro WN2 hc;have Av:=ζ hc;clear hc hX eb13 hY;go_upto_region 6 with fail
 have HSL:∀V ex os rs,Sy w V ([(b12,#[.slice a1 l.length c1,.slice none 0 0],65),(b13,#[.slice ap np cp,.bool mp,.slice dp ep fp],72)]++ex) os rs->(fun w'=>w'.cell? ⟨b12,0,none⟩=some (.slice a1 l.length c1)/\w'.cell? ⟨b12,1,none⟩=some (.slice none 0 0)/\True) V:=fun V ex os rs hX=>⟨hX.c 0 0,hX.c 0 1,trivial⟩
 refine wp_region_held_drew (S:=(fun w'=>w'.cell? ⟨b12,0,none⟩=some (.slice a1 l.length c1)/\w'.cell? ⟨b12,1,none⟩=some (.slice none 0 0)/\True)) (by kernel_rfl) ⟨Av.out.drew.c 0 0,Av.out.drew.c 0 1,trivial⟩ (fun hH=>?_);refine wpAnyH_geny (show Sy w _ [(b12,#[.slice a1 l.length c1,.slice none 0 0],65),(b13,#[.slice ap np cp,.bool mp,.slice dp ep fp],72)] [⟨.slice a1 l.length c1,47,2,l.length,L2 l⟩] [(fun V=>Rd V (.slice ap np cp) mp (.slice dp ep fp) (gq))]from Av.out.drew) hH ?_;intro AZ hc AO;have AP:=ζ hc;clear hc hH Av;refine tkA 0 rfl AO ?_;try simp only [zP]
 refine tkA 1 rfl AO ?_;try simp only [zP]
 refine rdyL [2,7] ?_;refine arc rfl (fun Kq AB=>?_) ?_
 ·go_simp;go_at_call 17;refine(of_any x BE.out _).mono ?_;rintro e wT ⟨ax,nx,cx,mx,dx,ex,fx,rfl,hz,hb⟩;(try go_wp2_with fail);refine stW AB ((AP.out.call hb).pR rfl rfl hz) ?_;intro AY AH AQ;clear AB Kq AP hb hz AO;try simp only [zP]
  refine rdyL [3,7] ?_;refine arc rfl (fun Kq AB=>?_) ?_
  ·go_simp;go_at_call 16;refine(HH.out _ c1 (AH.out.osx 0 rfl) _ _ _ _ _ _ _ (AH.out.r 1 rfl)).mono ?_;rintro e wT ⟨ah,nh,ch,mh,dh,eh,fh,rfl,hz,hb⟩;(try go_wp2_with fail);refine stW AB ((AH.out.call hb).pR rfl rfl hz) ?_;intro AW AD AI;clear AB Kq AH hb hz AQ;(try simp only [zP]);refine tkA 4 rfl AI ?_;(try simp only [zP]);refine tkA 5 rfl AI ?_;(try simp only [zP]);refine tkA 6 rfl AI ?_;(try simp only [zP]);refine rdy1 7 rfl (fun Kq AB=>?_);go_simp;refine stW AB (AD.out.al AW.heap.size zR 72 rfl) ?_;intro A0 AA AF;clear AB Kq AD AI;(try simp only [zP]);refine rdy1 8 rfl (fun Kq AB=>?_);have cQ0:=AA.out.c 2 0;have fQ0:=AA.out.f 2 0;have cQ1:=AA.out.c 2 1;have fQ1:=AA.out.f 2 1;have cQ2:=AA.out.c 2 2;have fQ2:=AA.out.f 2 2;go_simp;refine stW AB (AA.out|>.set (j:=0) (v:= .slice ah nh ch) 2 rfl|>.set (j:=1) (v:= .bool mh) 2 rfl|>.set (j:=2) (v:= .slice dh eh fh) 2 rfl) ?_;intro A1 AJ AN;clear AB Kq AA cQ0 fQ0 cQ1 fQ1 cQ2 fQ2 AF;(try simp only [Act.put]);refine rdy1 9 rfl (fun Kq AB=>?_);go_simp;refine stW AB AJ.out ?_;intro A2 AG AX;clear AB Kq AJ AN;(try simp only [zP]);refine wpAnyH_done (by kernel_rfl) ?_ _;obtain ⟨b15,hb15⟩:∃b,AW.heap.size=b:=⟨_,rfl⟩
   exact mTq11_0
  refine arc rfl (fun Kq AB=>?_) ?_
  ·go_simp;refine stW AB (AH.out.al AY.heap.size zR 72 rfl) ?_;intro AW AD AI;clear AB Kq AH AQ;(try simp only [zP]);refine rdy1 3 rfl (fun Kq AB=>?_);go_simp;go_at_call 16;refine(HH.out _ c1 (AD.out.osx 0 rfl) _ _ _ _ _ _ _ (AD.out.r 1 rfl)).mono ?_;rintro e wT ⟨ah,nh,ch,mh,dh,eh,fh,rfl,hz,hb⟩;(try go_wp2_with fail);refine stW AB ((AD.out.call hb).pR rfl rfl hz) ?_;intro A0 AA AF;clear AB Kq AD hb hz AI;(try simp only [zP]);refine tkA 4 rfl AF ?_;(try simp only [zP]);refine tkA 5 rfl AF ?_;(try simp only [zP]);refine tkA 6 rfl AF ?_;(try simp only [zP]);refine rdy1 8 rfl (fun Kq AB=>?_);have cQ0:=AA.out.c 2 0;have fQ0:=AA.out.f 2 0;have cQ1:=AA.out.c 2 1;have fQ1:=AA.out.f 2 1;have cQ2:=AA.out.c 2 2;have fQ2:=AA.out.f 2 2;go_simp;refine stW AB (AA.out|>.set (j:=0) (v:= .slice ah nh ch) 2 rfl|>.set (j:=1) (v:= .bool mh) 2 rfl|>.set (j:=2) (v:= .slice dh eh fh) 2 rfl) ?_;intro A1 AJ AN;clear AB Kq AA cQ0 fQ0 cQ1 fQ1 cQ2 fQ2 AF;(try simp only [Act.put]);refine rdy1 9 rfl (fun Kq AB=>?_);go_simp;refine stW AB AJ.out ?_;intro A2 AG AX;clear AB Kq AJ AN;(try simp only [zP]);refine wpAnyH_done (by kernel_rfl) ?_ _;obtain ⟨b15,hb15⟩:∃b,AY.heap.size=b:=⟨_,rfl⟩
   exact mTq11_0
  exact AllReadyH.nil
 refine arc rfl (fun Kq AB=>?_) ?_
 ·go_simp;refine stW AB (AP.out.al AZ.heap.size zR 72 rfl) ?_;intro AY AH AQ;clear AB Kq AP AO;try simp only [zP]
  refine rdy1 2 rfl (fun Kq AB=>?_);go_simp;go_at_call 17;refine(of_any x BE.out _).mono ?_;rintro e wT ⟨ax,nx,cx,mx,dx,ex,fx,rfl,hz,hb⟩;(try go_wp2_with fail);refine stW AB ((AH.out.call hb).pR rfl rfl hz) ?_;intro AW AD AI;clear AB Kq AH hb hz AQ;try simp only [zP]
  refine rdy1 3 rfl (fun Kq AB=>?_);go_simp;go_at_call 16;refine(HH.out _ c1 (AD.out.osx 0 rfl) _ _ _ _ _ _ _ (AD.out.r 1 rfl)).mono ?_;rintro e wT ⟨ah,nh,ch,mh,dh,eh,fh,rfl,hz,hb⟩;(try go_wp2_with fail);refine stW AB ((AD.out.call hb).pR rfl rfl hz) ?_;intro A0 AA AF;clear AB Kq AD hb hz AI;try simp only [zP]
  refine tkA 4 rfl AF ?_;try simp only [zP]
  refine tkA 5 rfl AF ?_;try simp only [zP]
  refine tkA 6 rfl AF ?_;try simp only [zP]
  refine rdy1 8 rfl (fun Kq AB=>?_);have cQ0:=AA.out.c 2 0;have fQ0:=AA.out.f 2 0;have cQ1:=AA.out.c 2 1;have fQ1:=AA.out.f 2 1;have cQ2:=AA.out.c 2 2;have fQ2:=AA.out.f 2 2;go_simp;refine stW AB (AA.out|>.set (j:=0) (v:= .slice ah nh ch) 2 rfl|>.set (j:=1) (v:= .bool mh) 2 rfl|>.set (j:=2) (v:= .slice dh eh fh) 2 rfl) ?_;intro A1 AJ AN;clear AB Kq AA cQ0 fQ0 cQ1 fQ1 cQ2 fQ2 AF;try simp only [Act.put]
  refine rdy1 9 rfl (fun Kq AB=>?_);go_simp;refine stW AB AJ.out ?_;intro A2 AG AX;clear AB Kq AJ AN;try simp only [zP]
  refine wpAnyH_done (by kernel_rfl) ?_ _;obtain ⟨b15,hb15⟩:∃b,AZ.heap.size=b:=⟨_,rfl⟩
  exact mTq11_0
 exact AllReadyH.nil
end
end
end Go.Proofs.YtjpojeapdgjbhaaGreatDoor
