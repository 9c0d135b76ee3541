/- part -/
import Derived.Test.YthmdhlopeponcaaGreatDoorK35
set_option maxRecDepth 100000
set_option maxHeartbeats 8000000
namespace Go.Proofs.YthmdhlopeponcaaGreatDoor
open Go.RowKit Dig
theorem qN16_0 {P_:Prop} (h:P_:=by exact⟨Yx.c 0 0,Yx.c 0 1,Yx.c 1 0,Yx.c 1 1,trivial⟩):P_:=h
section
variable {w:World} {s1:Int} {a1:OA} {n1 c1:Nat} {z1:Int} {s2:Int} {a2:OA} {n2 c2:Nat} {z2:Int} {k1 k2:Nat}
theorem zquotN_b (h1:Nz w s1 (.slice a1 n1 c1) z1) (h2:Nz w s2 (.slice a2 n2 c2) z2) (hz:z2≠0) (b1:Bd k1 z1) (b2:Bd k2 z2) (hk1:k1<=300000) (hk2:k2<=300000):
  Calls Tryz.prog 163 #[.agg #[.int .i64 s1,.slice a1 n1 c1],.agg #[.int .i64 s2,.slice a2 n2 c2]] w (RetQN w (z1 / z2) (z1 % z2)):=zquotN_any _ _ _ _ _ _ _ _ _ _ _ h1 h2 hz k1 k2 b1 b2 hk1 hk2
theorem value_b (h1:Nz w s1 (.slice a1 n1 c1) z1) (hz: -9223372036854775808<=z1/\z1 < 9223372036854775808):
  Calls Tryz.prog 182 #[.agg #[.int .i64 s1,.slice a1 n1 c1]] w fun e w'=>e= .returned (.int .i64 z1)/\Below w.heap.size w w':=value_any _ _ _ _ _ _ h1 hz
end
theorem len4 {x:Nat} (h:(dg 10000 x).length<=4):x < 10000000000000000:=by
 have h1:=dg_len_lt (b:=10000) (by omega) x;have h2:(10000:Nat) ^ (dg 10000 x).length<=10000 ^ 4:=Nat.pow_le_pow_right (by omega) h;have h3:(10000:Nat) ^ 4=10000000000000000:=by decide
 omega
theorem mN16_0 {P_:Prop} (h:P_:=by
 have AC:=hC.out.c 0 0;go_upto_region 8 with fail
 refine wp_gen hC.out ?_;intro W8 hc;clear hC AC AD AE AF d0;have hC:=ζ hc;clear hc;have AC:=hC.out.c 0 0;have AD:=hC.out.c 0 1;have AE:=hC.out.c 1 0;have AF:=hC.out.c 1 1;go_wp2_with fail
 refine(zquotN_b (hC.out.n 0 rfl) (hC.out.n 1 rfl) (by have:=HY.out;omega) B1.out B2.out (by omega) (by omega)).mono ?_;rintro e w7 ⟨s7,a7,n7,c7,s8,a8,n8,c8,rfl,hz,hz2,hb⟩;have AG:=ζ ((((hC.out.call hb).pn hz).pn (show Nz w7 s8 (.slice a8 n8 c8) ((x % y:Nat):Int)from hz2)).al w7.heap.size #[.int .i64 s7,.slice a7 n7 c7] 48 rfl rfl|>.al (w7.heap.size+1) #[.int .i64 s8,.slice a8 n8 c8] 48 (by simp) rfl);have hsz:w.heap.size+3<=w7.heap.size:=by have:=hb.size;have:=hC.out.lt 2 rfl;omega
 clear hz hz2 hb hC AC AD AE AF;have HR:=ζ (show x % y < y from Nat.mod_lt _ (by have:=HY.out;omega));have AL:=ζ (show Nat.gcd y (x % y)=G by rw [<-HG.out,Nat.gcd_comm x y,Nat.gcd_rec y x,Nat.gcd_comm]);have BR:=ζ (show Bd k ((x % y:Nat):Int)by have h1:=B2.out;have h2:=HR.out;unfold Bd at*;rw [Int.natAbs_natCast]at*;omega);obtain ⟨r,hr⟩:∃r:Nat,r=x % y:=⟨_,rfl⟩
 rw [<-hr]at AG HR AL BR;clear hr;go_upto_region 9 with fail
 refine wp_gen AG.out ?_;intro W9 hc;clear AG hsz;have hC:=ζ hc;clear hc;have AE:=hC.out.c 1 0;have AF:=hC.out.c 1 1;have AC:=hC.out.c 0 0;have AD:=hC.out.c 0 1;have AS:=hC.out.c 4 0;have AT:=hC.out.c 4 1;have f00:=hC.out.f 0 0;have f01:=hC.out.f 0 1;have f10:=hC.out.f 1 0;have f11:=hC.out.f 1 1;have n04:=hC.out.apart 0 4 rfl rfl (by omega);have n14:=hC.out.apart 1 4 rfl rfl (by omega);go_region
 all_goals
  go_wp2;go_roundg r
  case measure=>exact HR.out
  case rel=>exact⟨y,r,s6,a6,n6,c6,s8,a8,n8,c8,rfl,AL,B2,BR,ζ (((hC.out.set 0 rfl|>.set 0 rfl|>.t2 1 rfl).drew.bpick [0,1,2] (by decide) rfl).pick [1,3] rfl)⟩):P_:=h
theorem zgcdN_any (s1:Int) (a1:OA) (n1 c1:Nat) (z1:Int) (s2:Int) (a2:OA) (n2 c2:Nat) (z2:Int) (w:World) (h1:Nz w s1 (.slice a1 n1 c1) z1) (h2:Nz w s2 (.slice a2 n2 c2) z2) (k:Nat) (b1:Bd k z1) (b2:Bd k z2) (hk:k<=300000):
  Calls Tryz.prog 167 #[.agg #[.int .i64 s1,.slice a1 n1 c1],.agg #[.int .i64 s2,.slice a2 n2 c2]] w (RetN w ((Int.gcd z1 z2:Nat):Int)):=by
 obtain ⟨G,hG⟩:∃G:Nat,Int.gcd z1 z2=G:=⟨_,rfl⟩
 rw [hG];have HG:=ζ (show Nat.gcd z1.natAbs z2.natAbs=G from hG);have B1:=ζ b1.abs;have B2:=ζ b2.abs;have hC:=ζ (((((St.enter w).pn h1).pn h2).al w.heap.size #[.int .i64 s1,.slice a1 n1 c1] 48 rfl rfl).al (w.heap.size+1) #[.int .i64 s2,.slice a2 n2 c2] 48 (by simp) rfl|>.al (w.heap.size+2) #[.int .i64 0,.slice none 0 0] 48 (by simp) rfl);clear h1 h2 b1 b2 hG;go_enter Tryz.func167,Tryz.ntmps167;go_upto_region 1 with fail
 refine wp_gen hC.out ?_;intro W hc;clear hC;have hC:=ζ hc;clear hc;go_cut [] (fun wx=>∃ (s3:Int) (a3:OA) (n3 c3:Nat) (s4:Int) (a4:OA) (n4 c4:Nat),Hid (St w wx [(w.heap.size,#[.int .i64 s3,.slice a3 n3 c3],48),(w.heap.size+1,#[.int .i64 s4,.slice a4 n4 c4],48),(w.heap.size+2,#[.int .i64 0,.slice none 0 0],48)] [fun V=>Nz V s3 (.slice a3 n3 c3) (z1.natAbs:Int),fun V=>Nz V s4 (.slice a4 n4 c4) (z2.natAbs:Int)]))
 case first=>
  have AC:=hC.out.c 0 0;have AD:=hC.out.c 0 1;have AE:=hC.out.c 1 0;have AF:=hC.out.c 1 1;go_region_with (first
   | (have _t:=AB;go_at_call 183;refine(absN_b (AB.out.n 1 rfl)).mono ?_;rintro e wb ⟨s4,a4,n4,c4,rfl,hz,hb⟩;have AA:=ζ ((AB.out.call hb).pn hz);clear hz hb;have y00:=AA.out.c 0 0;have y01:=AA.out.c 0 1;have y10:=AA.out.c 1 0;have y11:=AA.out.c 1 1;have f00:=AA.out.f 0 0;have f01:=AA.out.f 0 1;have f10:=AA.out.f 1 0;have f11:=AA.out.f 1 1;clear _t AB)
   | (have _t:=hC;go_at_call 183;refine(absN_b (hC.out.drew.n 0 rfl)).mono ?_;rintro e wa ⟨s3,a3,n3,c3,rfl,hz,hb⟩;have AB:=ζ ((hC.out.drew.call hb).pn hz);clear hz hb;have z10:=AB.out.c 1 0;have z11:=AB.out.c 1 1;clear _t hC)
   | fail)
  all_goals (go_wp2_with fail;go_meet;exact⟨s3,a3,n3,c3,s4,a4,n4,c4,ζ ((AA.out.set 0 rfl|>.set 0 rfl|>.t2 1 rfl).pick [2,3] rfl)⟩)
 case rest=>
  clear hC;obtain ⟨s3,a3,n3,c3,s4,a4,n4,c4,hC⟩:=hcut;go_wp2_with fail
  go_loopg [] z2.natAbs (fun gk wr=>∃ (x y:Nat) (s5:Int) (a5:OA) (n5 c5:Nat) (s6:Int) (a6:OA) (n6 c6:Nat),y=gk/\Hid (Nat.gcd x y=G)/\Hid (Bd k (x:Int))/\Hid (Bd k (y:Int))/\
   Hid (St w wr [(w.heap.size,#[.int .i64 s5,.slice a5 n5 c5],48),(w.heap.size+1,#[.int .i64 s6,.slice a6 n6 c6],48),(w.heap.size+2,#[.int .i64 0,.slice none 0 0],48)] [fun V=>Nz V s5 (.slice a5 n5 c5) ((x:Nat):Int),fun V=>Nz V s6 (.slice a6 n6 c6) ((y:Nat):Int)]))
  case atStart=>exact⟨z1.natAbs,z2.natAbs,s3,a3,n3,c3,s4,a4,n4,c4,rfl,HG,B1,B2,hC⟩
  case round=>
   clear hC HG B1 B2;obtain ⟨x,y,s5,a5,n5,c5,s6,a6,n6,c6,rfl,HG,B1,B2,hC⟩:=hrel;have AE:=hC.out.c 1 0;have hs6:=(hC.out.n 1 rfl).s0;by_cases hy:y=0
   ·have d0:s6=0:=hs6.2.2 (by omega);have AN:=ζ (show x=G by have:=HG.out;rw [hy,Nat.gcd_zero_right]at this;exact this);subst d0;clear hs6 hy;have AC:=hC.out.c 0 0;have AD:=hC.out.c 0 1;have f20:=hC.out.f 2 0;have f21:=hC.out.f 2 1;have AO:=hC.out.c 2 0;have AP:=hC.out.c 2 1;go_wp2;refine ret_st (hC.out|>.t2 2 rfl) (v:= .agg #[.int .i64 s5,.slice a5 n5 c5]) (fun hF=>?_) rfl (fun hF=>⟨_,_,_,_,rfl,by rw [<-AN.out];exact hF.n 0 rfl,hF.be⟩)
    ·have e0:=hF.c 2 0;have e1:=hF.c 2 1;simp [results,Tryz.results167,go_sem,e0,e1]
   ·have d0:(s6 !=0)=true:=by
     rw [bne_iff_ne];intro e;exact hy (by have:=hs6.2.1 e;omega)
    have hn5:=(hC.out.n 0 rfl).g.len;have hn6:=(hC.out.n 1 rfl).g.len;rw [Int.natAbs_natCast]at hn5 hn6;have HY:=ζ hy;clear hs6 hy;have AD:=hC.out.c 0 1;have AF:=hC.out.c 1 1;by_cases h5:n5<=4
    ·have e5:decide ((n5:Int)<=4)=true:=(by simp;omega);by_cases h6:n6<=4
     ·have e6:decide ((n6:Int)<=4)=true:=(by simp;omega);have AH:=ζ (show x < 10000000000000000 from len4 (by omega));have AI:=ζ (show y < 10000000000000000 from len4 (by omega));clear hn5 hn6 h5 h6;go_upto_region 4 with fail
      clear AD AF AE d0 e5 e6;go_region_held3 (fun w'=>w'.cell? ⟨w.heap.size,0,none⟩=some (.int .i64 s5)/\w'.cell? ⟨w.heap.size,1,none⟩=some (.slice a5 n5 c5)/\w'.cell? ⟨w.heap.size+1,0,none⟩=some (.int .i64 s6)/\w'.cell? ⟨w.heap.size+1,1,none⟩=some (.slice a6 n6 c6)/\True)
       (first
        | (with_reducible refine aG wb ?_;have Yx:=AA.out;exact qN16_0)
        | (with_reducible refine aG wa ?_;have Yx:=AB.out;exact qN16_0)
        | (with_reducible refine aG (World.drew wr) ?_;have Yx:=hC.out.drew;exact qN16_0)|fail)
       (first
        | (have _t:=AB;go_at_call 182;refine(value_b (AB.out.n 1 rfl) (by have:=AI.out;omega)).mono ?_;rintro e wb ⟨rfl,hb⟩;have AA:=ζ (AB.out.call hb);clear hb;clear _t AB)
        | (have _t:=hC;go_at_call 182;refine(value_b (hC.out.drew.n 0 rfl) (by have:=AH.out;omega)).mono ?_;rintro e wa ⟨rfl,hb⟩;have AB:=ζ (hC.out.drew.call hb);clear hb;clear _t hC)
        | fail)
      go_wp2_with fail
      have AQ:=ζ (show Nat.gcd x y=G from HG.out);obtain ⟨wo,hwo⟩:∃wo:World,wo=wb:=⟨_,rfl⟩
      go_loopw [5,6] (fun xv yv wi=>∃ (p q:Nat),xv= .int .i64 (p:Int)/\yv= .int .i64 (q:Int)/\Hid (Nat.gcd p q=G)/\p < 10000000000000000/\q < 10000000000000000/\Hid (St w wi [(w.heap.size,#[.int .i64 s5,.slice a5 n5 c5],48),(w.heap.size+1,#[.int .i64 s6,.slice a6 n6 c6],48),(w.heap.size+2,#[.int .i64 0,.slice none 0 0],48)] [])) (fun _ yv _=>(intOf yv).toNat)
      case atStart=>exact⟨x,y,rfl,rfl,AQ.out,AH.out,AI.out,ζ (AA.out.pick [] rfl)⟩
      case round=>
       clear AA;obtain ⟨p,q,rfl,rfl,AM,hp,hq,hC⟩:=hrel;by_cases hq0:q=0
       ·subst hq0;have HP:=ζ (show p=G by have:=AM.out;rw [Nat.gcd_zero_right]at this;exact this);have hpb: -9223372036854775808<=(p:Int)/\(p:Int) < 9223372036854775808:=(by omega);have AR:=ζ hpb;clear hpb;go_wp2_with fail
        refine(zint_any (p:Int) AR.out _).mono ?_;rintro e w9 ⟨s9,a9,n9,c9,rfl,hz,hb⟩;have AJ:=ζ ((hC.out.call hb).pn hz);clear hz hb hC;have f20:=AJ.out.f 2 0;have f21:=AJ.out.f 2 1;have AO:=AJ.out.c 2 0;have AP:=AJ.out.c 2 1;go_wp2;refine ret_st (AJ.out|>.t2 2 rfl) (v:= .agg #[.int .i64 s9,.slice a9 n9 c9]) (fun hF=>?_) rfl (fun hF=>⟨_,_,_,_,rfl,by rw [<-HP.out];exact hF.n 0 rfl,hF.be⟩)
        ·have e0:=hF.c 2 0;have e1:=hF.c 2 1;simp [results,Tryz.results167,go_sem,e0,e1]
       ·have hqn:((q:Int) !=0)=true:=(by simp;omega);have hqe:((q:Int)==0)=false:=(by simp;omega);have hqne:(q:Int)≠0:=(by omega);have hrem:(p:Int).tmod (q:Int)=((p % q:Nat):Int):=(by rw [Int.tmod_eq_emod_of_nonneg (by omega)];rfl);have hrem2:(p:Int) % (q:Int)=((p % q:Nat):Int):=rfl;have HR:=ζ (show p % q < q from Nat.mod_lt _ (by omega));have AK:=ζ (show Nat.gcd q (p % q)=G by rw [<-AM.out,Nat.gcd_comm p q,Nat.gcd_rec q p,Nat.gcd_comm]);obtain ⟨r,hr⟩:∃r:Nat,r=p % q:=⟨_,rfl⟩
        rw [<-hr]at hrem hrem2 HR AK;clear hr hq0;go_wp2_with fail
        go_quiet (fail)
        go_wp2;go_roundw
        case rel=>exact⟨q,r,rfl,rfl,AK,hq,by have:=HR.out;omega,ζ (hC.out.drewN _)⟩
        case measure=>have:=HR.out;simp [intOf];omega
     ·have e6:decide ((n6:Int)<=4)=false:=(by simp;omega);clear hn5 hn6 h5 h6;exact mN16_0
    ·have e5:decide ((n5:Int)<=4)=false:=(by simp;omega);clear hn5 hn6 h5;exact mN16_0
end Go.Proofs.YthmdhlopeponcaaGreatDoor
