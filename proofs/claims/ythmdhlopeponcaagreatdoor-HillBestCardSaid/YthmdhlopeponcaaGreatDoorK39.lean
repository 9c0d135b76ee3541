/- part -/
import Derived.Test.YthmdhlopeponcaaGreatDoorK37
import Derived.Test.YthmdhlopeponcaaGreatDoorK38
set_option maxRecDepth 100000
set_option maxHeartbeats 8000000
namespace Go.Proofs.YthmdhlopeponcaaGreatDoor
open Go.RowKit Dig
theorem better_yes {way:Int} {x y:Rat} (h:cmpQ y x=way):better way x y=y:=by unfold better;rw [if_pos h]
theorem better_no {way:Int} {x y:Rat} (h:¬ cmpQ y x=way):better way x y=x:=by unfold better;rw [if_neg h]
theorem take_ne {qs:List Rat} {k:Nat} (h0:k≠0) (h:k < qs.length):qs.take k≠ []:=by
 intro e;have:=congrArg List.length e;rw [List.length_take]at this;simp only [List.length_nil]at this;omega
theorem cmpQ_ge1 (a b:Rat): -1<=cmpQ a b:=by unfold cmpQ;split;omega;split<;>omega
theorem cmpQ_le1 (a b:Rat):cmpQ a b<=1:=by unfold cmpQ;split;omega;split<;>omega
def RowQ (w:World) (v:Value) (qs:List Rat):Prop:=∃a c,v= .slice a qs.length c/\∀ (k:Nat) (hk:k < qs.length),∃g s ga gn gc t ha hn hc,a=some ⟨g,0,none⟩/\g < w.heap.size/\
 w.cell? ⟨g,k*4,none⟩=some (.int .i64 s)/\w.cell? ⟨g,k*4+1,none⟩=some (.slice ga gn gc)/\w.cell? ⟨g,k*4+2,none⟩=some (.int .i64 t)/\w.cell? ⟨g,k*4+3,none⟩=some (.slice ha hn hc)/\Nq w s (.slice ga gn gc) t (.slice ha hn hc) qs[k]
theorem RowQ.mono {w w':World} {v:Value} {qs:List Rat} (h:RowQ w v qs) (hb:Below w.heap.size w w'):RowQ w' v qs:=by
 obtain ⟨a,c,rfl,h⟩:=h;refine⟨a,c,rfl,fun k hk=>?_⟩;obtain ⟨g,s,ga,gn,gc,t,ha,hn,hc,h1,h2,h3,h4,h5,h6,h7⟩:=h k hk;exact⟨g,s,ga,gn,gc,t,ha,hn,hc,h1,Nat.lt_of_lt_of_le h2 hb.size,(hb.cell (p:=⟨g,_,none⟩) h2).trans h3,(hb.cell (p:=⟨g,_,none⟩) h2).trans h4,(hb.cell (p:=⟨g,_,none⟩) h2).trans h5,(hb.cell (p:=⟨g,_,none⟩) h2).trans h6,h7.keep (Below.keeps hb)⟩
theorem mN25_0 {P_:Prop} (h:P_:=by
 intro A2 hc AD;have AC:=ζ hc;clear hc hH AF;refine tkA 0 rfl AD ?_;try simp only [zP]
 refine tkA 1 rfl AD ?_;try simp only [zP]
 refine tkA 2 rfl AD ?_;try simp only [zP]
 refine tkR 3 rfl AD ?_;try simp only [zP]
 refine tkR 4 rfl AD ?_;try simp only [zP]
 refine tkR 5 rfl AD ?_;try simp only [zP]
 refine tkR 6 rfl AD ?_;try simp only [zP]
 refine tkR 7 rfl AD ?_;try simp only [zP]
 refine tkR 8 rfl AD ?_;try simp only [zP]
 refine tkR 9 rfl AD ?_;try simp only [zP]
 refine tkA 10 rfl AD ?_;try simp only [zP]
 refine wpAnyH_done (by kernel_rfl) ?_ _;refine NoPanic.normal ?_;have x0:=(AC.out.be.cell (p:=⟨g,k*4,none⟩) HG.out).trans X0.out;have x1:=(AC.out.be.cell (p:=⟨g,k*4+1,none⟩) HG.out).trans X1.out;have x2:=(AC.out.be.cell (p:=⟨g,k*4+2,none⟩) HG.out).trans X2.out;have x3:=(AC.out.be.cell (p:=⟨g,k*4+3,none⟩) HG.out).trans X3.out;have cQ0:=AC.out.c 1 0;have cQ1:=AC.out.c 1 1;have cQ2:=AC.out.c 1 2;have cQ3:=AC.out.c 1 3;have fQ0:=AC.out.f 1 0;have fQ1:=AC.out.f 1 1;have fQ2:=AC.out.f 1 2;have fQ3:=AC.out.f 1 3;go_wp2;go_roundw
 case rel=>
  refine⟨k+1,s2,a2,n2,c2,t2,d2,e2,f2,by omega,by go_num,?_⟩;rw [HT.out,foldQ_snoc,if_pos (by rw [AK.out];rfl)];exact ζ ((AC.out.set4 1 rfl).pick [1] rfl)
 case measure=>simp [intOf];omega):P_:=h
theorem mN25_1 {P_:Prop} (h:P_:=by
 intro AJ hc AG;have AB:=ζ hc;clear hc AI Kq AE hb AA;try simp only [zP]
 refine tkA 9 rfl AG ?_;try simp only [zP]
 refine tkA 10 rfl AG ?_;try simp only [zP]
 refine wpAnyH_done (by kernel_rfl) ?_ _;refine NoPanic.normal ?_;have x0:=(AB.out.be.cell (p:=⟨g,k*4,none⟩) HG.out).trans X0.out;have x1:=(AB.out.be.cell (p:=⟨g,k*4+1,none⟩) HG.out).trans X1.out;have x2:=(AB.out.be.cell (p:=⟨g,k*4+2,none⟩) HG.out).trans X2.out;have x3:=(AB.out.be.cell (p:=⟨g,k*4+3,none⟩) HG.out).trans X3.out;have cQ0:=AB.out.c 1 0;have cQ1:=AB.out.c 1 1;have cQ2:=AB.out.c 1 2;have cQ3:=AB.out.c 1 3;have fQ0:=AB.out.f 1 0;have fQ1:=AB.out.f 1 1;have fQ2:=AB.out.f 1 2;have fQ3:=AB.out.f 1 3;go_wp2;go_roundw
 case rel=>
  refine⟨k+1,s2,a2,n2,c2,t2,d2,e2,f2,by omega,by go_num,?_⟩;rw [HT.out,foldQ_snoc,if_neg (take_ne AK.out hlt)];rw [better_yes (HU.out.trans HW.out)];exact ζ ((AB.out.set4 1 rfl).pick [1] rfl)
 case measure=>simp [intOf];omega):P_:=h
theorem mN25_2 {P_:Prop} (h:P_:=by
 intro AJ hc AG;have AB:=ζ hc;clear hc AI Kq AE hb AA;try simp only [zP]
 refine tkA 9 rfl AG ?_;try simp only [zP]
 refine tkA 10 rfl AG ?_;try simp only [zP]
 refine wpAnyH_done (by kernel_rfl) ?_ _;refine NoPanic.normal ?_;go_wp2;go_roundw
 case rel=>
  refine⟨k+1,s1,a1,n1,c1,t1,d1,e1,f1,by omega,by go_num,?_⟩;rw [HT.out,foldQ_snoc,if_neg (take_ne AK.out hlt)];rw [better_no (by rw [HU.out];exact HW.out)];exact ζ (AB.out.pick [0] rfl)
 case measure=>simp [intOf];omega):P_:=h
theorem minN_any (a:OA) (c:Nat) (qs:List Rat) (w:World) (h:RowQ w (.slice a qs.length c) qs) (N:Nat) (hB:∀q∈qs,Bq N q) (hN:N<=1000) (hl:qs.length<=100):
  Calls Tryz.prog 115 #[.slice a qs.length c] w (RetNQ w (foldQ (better (-1)) qs)):=by
 have HR:=ζ h;have HB:=ζ hB;have A1:=ζ (better_bd (way:=(-1)) qs hB);clear h hB;have hC:=ζ (((St.enter w).al (w.heap.size) zQ 50 rfl rfl).al (w.heap.size+1) zQ 50 (by simp) rfl);go_enter Tryz.func115,Tryz.ntmps115;go_wp2;go_loopw [4] (fun iv wr=>∃ (k:Nat) (s1:Int) (a1:OA) (n1 c1:Nat) (t1:Int) (d1:OA) (e1 f1:Nat),k<=qs.length/\iv= .int .i64 k/\Hid (St w wr [(w.heap.size,zQ,50),(w.heap.size+1,#[.int .i64 s1,.slice a1 n1 c1,.int .i64 t1,.slice d1 e1 f1],50)] [fun V=>Nq V s1 (.slice a1 n1 c1) t1 (.slice d1 e1 f1) (foldQ (better (-1)) (qs.take k))])) (fun iv _=>qs.length - (intOf iv).toNat)
 case atStart=>exact⟨0,0,none,0,0,0,none,0,0,by omega,rfl,hC.out.pq Nq.nil⟩
 case round=>
  clear hC;obtain ⟨k,s1,a1,n1,c1,t1,d1,e1,f1,hk,rfl,hC⟩:=hrel;by_cases hlt:k < qs.length
  ·obtain ⟨_,_,hv,hrow⟩:=HR.out;simp only [Value.slice.injEq]at hv;obtain ⟨rfl,_,rfl⟩:=hv;obtain ⟨g,s2,a2,n2,c2,t2,d2,e2,f2,rfl,hg,hc0,hc1,hc2,hc3,hq⟩:=hrow k hlt;have HG:=ζ hg;have X0:=ζ hc0;have X1:=ζ hc1;have X2:=ζ hc2;have X3:=ζ hc3;have hq':=hq.keep (Below.keeps hC.out.be);have HT:=ζ (show qs.take (k+1)=qs.take k++ [qs[k]]from List.take_succ_eq_append_getElem hlt);have hi0:(0:Int)<=(k:Int):=(by omega);have hi1:(k:Int) < (qs.length:Int):=(by omega);have AF:=ζ (hC.out.pq hq');clear hrow hc0 hc1 hc2 hc3 hq hq' hg hC;by_cases hk0:k=0
   ·have i0:(((k:Nat):Int)==0)=true:=(by simp;omega);have AK:=ζ hk0;clear hk0;go_wp2_with fail
    refine wp_region_noPanic ?_;refine wp_region_held_drew (S:=(fun w'=>w'.cell? ⟨w.heap.size+1,0,none⟩=some (.int .i64 s1)/\w'.cell? ⟨w.heap.size+1,1,none⟩=some (.slice a1 n1 c1)/\w'.cell? ⟨w.heap.size+1,2,none⟩=some (.int .i64 t1)/\w'.cell? ⟨w.heap.size+1,3,none⟩=some (.slice d1 e1 f1)/\w'.cell? ⟨g,k*4,none⟩=some (.int .i64 s2)/\w'.cell? ⟨g,k*4+1,none⟩=some (.slice a2 n2 c2)/\w'.cell? ⟨g,k*4+2,none⟩=some (.int .i64 t2)/\w'.cell? ⟨g,k*4+3,none⟩=some (.slice d2 e2 f2)/\True)) (by kernel_rfl) ⟨AF.out.drew.c 1 0,AF.out.drew.c 1 1,AF.out.drew.c 1 2,AF.out.drew.c 1 3,(AF.out.drew.be.cell (p:=⟨g,k*4,none⟩) HG.out).trans X0.out,(AF.out.drew.be.cell (p:=⟨g,k*4+1,none⟩) HG.out).trans X1.out,(AF.out.drew.be.cell (p:=⟨g,k*4+2,none⟩) HG.out).trans X2.out,(AF.out.drew.be.cell (p:=⟨g,k*4+3,none⟩) HG.out).trans X3.out,trivial⟩ (fun hH=>?_);refine wpAnyH_gen (show St w _ [(w.heap.size,zQ,50),(w.heap.size+1,#[.int .i64 s1,.slice a1 n1 c1,.int .i64 t1,.slice d1 e1 f1],50)] [fun V=>Nq V s1 (.slice a1 n1 c1) t1 (.slice d1 e1 f1) (foldQ (better (-1)) (qs.take k)),fun V=>Nq V s2 (.slice a2 n2 c2) t2 (.slice d2 e2 f2) (qs[k])]from AF.out.drew) hH ?_;exact mN25_0
   ·have i0:(((k:Nat):Int)==0)=false:=(by simp;omega);have AK:=ζ hk0;clear hk0;obtain ⟨u,hu⟩:∃u:Int,cmpQ qs[k] (foldQ (better (-1)) (qs.take k))=u:=⟨_,rfl⟩
    have HU:=ζ hu;have hu1: -1<=u:=(by rw [<-hu];exact cmpQ_ge1 _ _);have hu2:u<=1:=(by rw [<-hu];exact cmpQ_le1 _ _);clear hu;by_cases hw:u=(-1)
    ·have hd:decide (u < 0)=true:=(by simp;omega);have HW:=ζ hw;clear hw;go_wp2_with fail
     refine wp_region_noPanic ?_;refine wp_region_held_drew (S:=(fun w'=>w'.cell? ⟨w.heap.size+1,0,none⟩=some (.int .i64 s1)/\w'.cell? ⟨w.heap.size+1,1,none⟩=some (.slice a1 n1 c1)/\w'.cell? ⟨w.heap.size+1,2,none⟩=some (.int .i64 t1)/\w'.cell? ⟨w.heap.size+1,3,none⟩=some (.slice d1 e1 f1)/\w'.cell? ⟨g,k*4,none⟩=some (.int .i64 s2)/\w'.cell? ⟨g,k*4+1,none⟩=some (.slice a2 n2 c2)/\w'.cell? ⟨g,k*4+2,none⟩=some (.int .i64 t2)/\w'.cell? ⟨g,k*4+3,none⟩=some (.slice d2 e2 f2)/\True)) (by kernel_rfl) ⟨AF.out.drew.c 1 0,AF.out.drew.c 1 1,AF.out.drew.c 1 2,AF.out.drew.c 1 3,(AF.out.drew.be.cell (p:=⟨g,k*4,none⟩) HG.out).trans X0.out,(AF.out.drew.be.cell (p:=⟨g,k*4+1,none⟩) HG.out).trans X1.out,(AF.out.drew.be.cell (p:=⟨g,k*4+2,none⟩) HG.out).trans X2.out,(AF.out.drew.be.cell (p:=⟨g,k*4+3,none⟩) HG.out).trans X3.out,trivial⟩ (fun hH=>?_);refine wpAnyH_gen (show St w _ [(w.heap.size,zQ,50),(w.heap.size+1,#[.int .i64 s1,.slice a1 n1 c1,.int .i64 t1,.slice d1 e1 f1],50)] [fun V=>Nq V s1 (.slice a1 n1 c1) t1 (.slice d1 e1 f1) (foldQ (better (-1)) (qs.take k)),fun V=>Nq V s2 (.slice a2 n2 c2) t2 (.slice d2 e2 f2) (qs[k])]from AF.out.drew) hH ?_;intro AH hc AA;have AE:=ζ hc;clear hc hH AF;refine tkA 0 rfl AA ?_;(try simp only [zP]);refine tkA 1 rfl AA ?_;(try simp only [zP]);refine tkA 2 rfl AA ?_;(try simp only [zP]);refine tkA 3 rfl AA ?_;(try simp only [zP]);refine tkA 4 rfl AA ?_;(try simp only [zP]);refine tkA 5 rfl AA ?_;(try simp only [zP]);refine tkA 6 rfl AA ?_;(try simp only [zP]);refine tkA 7 rfl AA ?_;(try simp only [zP]);refine rdy1 8 rfl (fun Kq AI=>?_);go_simp;go_at_call 81;refine(rcmpN_is (AE.out.rq 1 rfl) (AE.out.rq 0 rfl) (HB.out qs[k] (List.getElem_mem hlt)) (A1.out k hk) (by omega) (by omega) HU.out).mono ?_;rintro e w30 ⟨rfl,hb⟩;(try go_wp2_with fail);refine stepH AI (show St w _ [(w.heap.size,zQ,50),(w.heap.size+1,#[.int .i64 s1,.slice a1 n1 c1,.int .i64 t1,.slice d1 e1 f1],50)] [fun V=>Nq V s1 (.slice a1 n1 c1) t1 (.slice d1 e1 f1) (foldQ (better (-1)) (qs.take k)),fun V=>Nq V s2 (.slice a2 n2 c2) t2 (.slice d2 e2 f2) (qs[k])]from(AE.out.call hb)) (fun _ hX=>⟨hX.c 1 0,hX.c 1 1,hX.c 1 2,hX.c 1 3,(hX.be.cell (p:=⟨g,k*4,none⟩) HG.out).trans X0.out,(hX.be.cell (p:=⟨g,k*4+1,none⟩) HG.out).trans X1.out,(hX.be.cell (p:=⟨g,k*4+2,none⟩) HG.out).trans X2.out,(hX.be.cell (p:=⟨g,k*4+3,none⟩) HG.out).trans X3.out,trivial⟩) ?_;exact mN25_1
    ·have hd:decide (u < 0)=false:=(by simp;omega);have HW:=ζ hw;clear hw;go_wp2_with fail
     refine wp_region_noPanic ?_;refine wp_region_held_drew (S:=(fun w'=>w'.cell? ⟨w.heap.size+1,0,none⟩=some (.int .i64 s1)/\w'.cell? ⟨w.heap.size+1,1,none⟩=some (.slice a1 n1 c1)/\w'.cell? ⟨w.heap.size+1,2,none⟩=some (.int .i64 t1)/\w'.cell? ⟨w.heap.size+1,3,none⟩=some (.slice d1 e1 f1)/\w'.cell? ⟨g,k*4,none⟩=some (.int .i64 s2)/\w'.cell? ⟨g,k*4+1,none⟩=some (.slice a2 n2 c2)/\w'.cell? ⟨g,k*4+2,none⟩=some (.int .i64 t2)/\w'.cell? ⟨g,k*4+3,none⟩=some (.slice d2 e2 f2)/\True)) (by kernel_rfl) ⟨AF.out.drew.c 1 0,AF.out.drew.c 1 1,AF.out.drew.c 1 2,AF.out.drew.c 1 3,(AF.out.drew.be.cell (p:=⟨g,k*4,none⟩) HG.out).trans X0.out,(AF.out.drew.be.cell (p:=⟨g,k*4+1,none⟩) HG.out).trans X1.out,(AF.out.drew.be.cell (p:=⟨g,k*4+2,none⟩) HG.out).trans X2.out,(AF.out.drew.be.cell (p:=⟨g,k*4+3,none⟩) HG.out).trans X3.out,trivial⟩ (fun hH=>?_);refine wpAnyH_gen (show St w _ [(w.heap.size,zQ,50),(w.heap.size+1,#[.int .i64 s1,.slice a1 n1 c1,.int .i64 t1,.slice d1 e1 f1],50)] [fun V=>Nq V s1 (.slice a1 n1 c1) t1 (.slice d1 e1 f1) (foldQ (better (-1)) (qs.take k)),fun V=>Nq V s2 (.slice a2 n2 c2) t2 (.slice d2 e2 f2) (qs[k])]from AF.out.drew) hH ?_;intro AH hc AA;have AE:=ζ hc;clear hc hH AF;refine tkA 0 rfl AA ?_;(try simp only [zP]);refine tkA 1 rfl AA ?_;(try simp only [zP]);refine tkA 2 rfl AA ?_;(try simp only [zP]);refine tkA 3 rfl AA ?_;(try simp only [zP]);refine tkA 4 rfl AA ?_;(try simp only [zP]);refine tkA 5 rfl AA ?_;(try simp only [zP]);refine tkA 6 rfl AA ?_;(try simp only [zP]);refine tkA 7 rfl AA ?_;(try simp only [zP]);refine rdy1 8 rfl (fun Kq AI=>?_);go_simp;go_at_call 81;refine(rcmpN_is (AE.out.rq 1 rfl) (AE.out.rq 0 rfl) (HB.out qs[k] (List.getElem_mem hlt)) (A1.out k hk) (by omega) (by omega) HU.out).mono ?_;rintro e w30 ⟨rfl,hb⟩;(try go_wp2_with fail);refine stepH AI (show St w _ [(w.heap.size,zQ,50),(w.heap.size+1,#[.int .i64 s1,.slice a1 n1 c1,.int .i64 t1,.slice d1 e1 f1],50)] [fun V=>Nq V s1 (.slice a1 n1 c1) t1 (.slice d1 e1 f1) (foldQ (better (-1)) (qs.take k)),fun V=>Nq V s2 (.slice a2 n2 c2) t2 (.slice d2 e2 f2) (qs[k])]from(AE.out.call hb)) (fun _ hX=>⟨hX.c 1 0,hX.c 1 1,hX.c 1 2,hX.c 1 3,(hX.be.cell (p:=⟨g,k*4,none⟩) HG.out).trans X0.out,(hX.be.cell (p:=⟨g,k*4+1,none⟩) HG.out).trans X1.out,(hX.be.cell (p:=⟨g,k*4+2,none⟩) HG.out).trans X2.out,(hX.be.cell (p:=⟨g,k*4+3,none⟩) HG.out).trans X3.out,trivial⟩) ?_;exact mN25_2
  ·have hn0:¬ ((k:Int) < (qs.length:Int)):=(by omega);have HK:=ζ (show qs.take k=qs from List.take_of_length_le (by omega));have AL:=hC.out.c 0 0;have AM:=hC.out.f 0 0;have AN:=hC.out.c 0 1;have AO:=hC.out.f 0 1;have AP:=hC.out.c 0 2;have AQ:=hC.out.f 0 2;have AR:=hC.out.c 0 3;have AS:=hC.out.f 0 3;have AT:=hC.out.c 1 0;have AU:=hC.out.f 1 0;have AV:=hC.out.c 1 1;have AW:=hC.out.f 1 1;have AX:=hC.out.c 1 2;have AY:=hC.out.f 1 2;have AZ:=hC.out.c 1 3;have A0:=hC.out.f 1 3;go_wp2;refine ret_st (hC.out|>.t4 0 rfl) (v:= .agg #[.int .i64 s1,.slice a1 n1 c1,.int .i64 t1,.slice d1 e1 f1]) (fun hF=>?_) rfl (fun hF=>⟨_,_,_,_,_,_,_,_,rfl,HK.out ▸ hF.rq 0 rfl,hF.be⟩)
   ·have e0:=hF.c 0 0;have e1:=hF.c 0 1;have e2:=hF.c 0 2;have e3:=hF.c 0 3;simp [results,Tryz.results115,go_sem,e0,e1,e2,e3]
theorem maxN_any (a:OA) (c:Nat) (qs:List Rat) (w:World) (h:RowQ w (.slice a qs.length c) qs) (N:Nat) (hB:∀q∈qs,Bq N q) (hN:N<=1000) (hl:qs.length<=100):
  Calls Tryz.prog 116 #[.slice a qs.length c] w (RetNQ w (foldQ (better 1) qs)):=by
 have HR:=ζ h;have HB:=ζ hB;have A1:=ζ (better_bd (way:=1) qs hB);clear h hB;have hC:=ζ (((St.enter w).al (w.heap.size) zQ 50 rfl rfl).al (w.heap.size+1) zQ 50 (by simp) rfl);go_enter Tryz.func116,Tryz.ntmps116;go_wp2;go_loopw [4] (fun iv wr=>∃ (k:Nat) (s1:Int) (a1:OA) (n1 c1:Nat) (t1:Int) (d1:OA) (e1 f1:Nat),k<=qs.length/\iv= .int .i64 k/\Hid (St w wr [(w.heap.size,zQ,50),(w.heap.size+1,#[.int .i64 s1,.slice a1 n1 c1,.int .i64 t1,.slice d1 e1 f1],50)] [fun V=>Nq V s1 (.slice a1 n1 c1) t1 (.slice d1 e1 f1) (foldQ (better 1) (qs.take k))])) (fun iv _=>qs.length - (intOf iv).toNat)
 case atStart=>exact⟨0,0,none,0,0,0,none,0,0,by omega,rfl,hC.out.pq Nq.nil⟩
 case round=>
  clear hC;obtain ⟨k,s1,a1,n1,c1,t1,d1,e1,f1,hk,rfl,hC⟩:=hrel;by_cases hlt:k < qs.length
  ·obtain ⟨_,_,hv,hrow⟩:=HR.out;simp only [Value.slice.injEq]at hv;obtain ⟨rfl,_,rfl⟩:=hv;obtain ⟨g,s2,a2,n2,c2,t2,d2,e2,f2,rfl,hg,hc0,hc1,hc2,hc3,hq⟩:=hrow k hlt;have HG:=ζ hg;have X0:=ζ hc0;have X1:=ζ hc1;have X2:=ζ hc2;have X3:=ζ hc3;have hq':=hq.keep (Below.keeps hC.out.be);have HT:=ζ (show qs.take (k+1)=qs.take k++ [qs[k]]from List.take_succ_eq_append_getElem hlt);have hi0:(0:Int)<=(k:Int):=(by omega);have hi1:(k:Int) < (qs.length:Int):=(by omega);have AF:=ζ (hC.out.pq hq');clear hrow hc0 hc1 hc2 hc3 hq hq' hg hC;by_cases hk0:k=0
   ·have i0:(((k:Nat):Int)==0)=true:=(by simp;omega);have AK:=ζ hk0;clear hk0;go_wp2_with fail
    refine wp_region_noPanic ?_;refine wp_region_held_drew (S:=(fun w'=>w'.cell? ⟨w.heap.size+1,0,none⟩=some (.int .i64 s1)/\w'.cell? ⟨w.heap.size+1,1,none⟩=some (.slice a1 n1 c1)/\w'.cell? ⟨w.heap.size+1,2,none⟩=some (.int .i64 t1)/\w'.cell? ⟨w.heap.size+1,3,none⟩=some (.slice d1 e1 f1)/\w'.cell? ⟨g,k*4,none⟩=some (.int .i64 s2)/\w'.cell? ⟨g,k*4+1,none⟩=some (.slice a2 n2 c2)/\w'.cell? ⟨g,k*4+2,none⟩=some (.int .i64 t2)/\w'.cell? ⟨g,k*4+3,none⟩=some (.slice d2 e2 f2)/\True)) (by kernel_rfl) ⟨AF.out.drew.c 1 0,AF.out.drew.c 1 1,AF.out.drew.c 1 2,AF.out.drew.c 1 3,(AF.out.drew.be.cell (p:=⟨g,k*4,none⟩) HG.out).trans X0.out,(AF.out.drew.be.cell (p:=⟨g,k*4+1,none⟩) HG.out).trans X1.out,(AF.out.drew.be.cell (p:=⟨g,k*4+2,none⟩) HG.out).trans X2.out,(AF.out.drew.be.cell (p:=⟨g,k*4+3,none⟩) HG.out).trans X3.out,trivial⟩ (fun hH=>?_);refine wpAnyH_gen (show St w _ [(w.heap.size,zQ,50),(w.heap.size+1,#[.int .i64 s1,.slice a1 n1 c1,.int .i64 t1,.slice d1 e1 f1],50)] [fun V=>Nq V s1 (.slice a1 n1 c1) t1 (.slice d1 e1 f1) (foldQ (better 1) (qs.take k)),fun V=>Nq V s2 (.slice a2 n2 c2) t2 (.slice d2 e2 f2) (qs[k])]from AF.out.drew) hH ?_;exact mN25_0
   ·have i0:(((k:Nat):Int)==0)=false:=(by simp;omega);have AK:=ζ hk0;clear hk0;obtain ⟨u,hu⟩:∃u:Int,cmpQ qs[k] (foldQ (better 1) (qs.take k))=u:=⟨_,rfl⟩
    have HU:=ζ hu;have hu1: -1<=u:=(by rw [<-hu];exact cmpQ_ge1 _ _);have hu2:u<=1:=(by rw [<-hu];exact cmpQ_le1 _ _);clear hu;by_cases hw:u=1
    ·have hd:decide (0 < u)=true:=(by simp;omega);have HW:=ζ hw;clear hw;go_wp2_with fail
     refine wp_region_noPanic ?_;refine wp_region_held_drew (S:=(fun w'=>w'.cell? ⟨w.heap.size+1,0,none⟩=some (.int .i64 s1)/\w'.cell? ⟨w.heap.size+1,1,none⟩=some (.slice a1 n1 c1)/\w'.cell? ⟨w.heap.size+1,2,none⟩=some (.int .i64 t1)/\w'.cell? ⟨w.heap.size+1,3,none⟩=some (.slice d1 e1 f1)/\w'.cell? ⟨g,k*4,none⟩=some (.int .i64 s2)/\w'.cell? ⟨g,k*4+1,none⟩=some (.slice a2 n2 c2)/\w'.cell? ⟨g,k*4+2,none⟩=some (.int .i64 t2)/\w'.cell? ⟨g,k*4+3,none⟩=some (.slice d2 e2 f2)/\True)) (by kernel_rfl) ⟨AF.out.drew.c 1 0,AF.out.drew.c 1 1,AF.out.drew.c 1 2,AF.out.drew.c 1 3,(AF.out.drew.be.cell (p:=⟨g,k*4,none⟩) HG.out).trans X0.out,(AF.out.drew.be.cell (p:=⟨g,k*4+1,none⟩) HG.out).trans X1.out,(AF.out.drew.be.cell (p:=⟨g,k*4+2,none⟩) HG.out).trans X2.out,(AF.out.drew.be.cell (p:=⟨g,k*4+3,none⟩) HG.out).trans X3.out,trivial⟩ (fun hH=>?_);refine wpAnyH_gen (show St w _ [(w.heap.size,zQ,50),(w.heap.size+1,#[.int .i64 s1,.slice a1 n1 c1,.int .i64 t1,.slice d1 e1 f1],50)] [fun V=>Nq V s1 (.slice a1 n1 c1) t1 (.slice d1 e1 f1) (foldQ (better 1) (qs.take k)),fun V=>Nq V s2 (.slice a2 n2 c2) t2 (.slice d2 e2 f2) (qs[k])]from AF.out.drew) hH ?_;intro AH hc AA;have AE:=ζ hc;clear hc hH AF;refine tkA 0 rfl AA ?_;(try simp only [zP]);refine tkA 1 rfl AA ?_;(try simp only [zP]);refine tkA 2 rfl AA ?_;(try simp only [zP]);refine tkA 3 rfl AA ?_;(try simp only [zP]);refine tkA 4 rfl AA ?_;(try simp only [zP]);refine tkA 5 rfl AA ?_;(try simp only [zP]);refine tkA 6 rfl AA ?_;(try simp only [zP]);refine tkA 7 rfl AA ?_;(try simp only [zP]);refine rdy1 8 rfl (fun Kq AI=>?_);go_simp;go_at_call 81;refine(rcmpN_is (AE.out.rq 1 rfl) (AE.out.rq 0 rfl) (HB.out qs[k] (List.getElem_mem hlt)) (A1.out k hk) (by omega) (by omega) HU.out).mono ?_;rintro e w30 ⟨rfl,hb⟩;(try go_wp2_with fail);refine stepH AI (show St w _ [(w.heap.size,zQ,50),(w.heap.size+1,#[.int .i64 s1,.slice a1 n1 c1,.int .i64 t1,.slice d1 e1 f1],50)] [fun V=>Nq V s1 (.slice a1 n1 c1) t1 (.slice d1 e1 f1) (foldQ (better 1) (qs.take k)),fun V=>Nq V s2 (.slice a2 n2 c2) t2 (.slice d2 e2 f2) (qs[k])]from(AE.out.call hb)) (fun _ hX=>⟨hX.c 1 0,hX.c 1 1,hX.c 1 2,hX.c 1 3,(hX.be.cell (p:=⟨g,k*4,none⟩) HG.out).trans X0.out,(hX.be.cell (p:=⟨g,k*4+1,none⟩) HG.out).trans X1.out,(hX.be.cell (p:=⟨g,k*4+2,none⟩) HG.out).trans X2.out,(hX.be.cell (p:=⟨g,k*4+3,none⟩) HG.out).trans X3.out,trivial⟩) ?_;exact mN25_1
    ·have hd:decide (0 < u)=false:=(by simp;omega);have HW:=ζ hw;clear hw;go_wp2_with fail
     refine wp_region_noPanic ?_;refine wp_region_held_drew (S:=(fun w'=>w'.cell? ⟨w.heap.size+1,0,none⟩=some (.int .i64 s1)/\w'.cell? ⟨w.heap.size+1,1,none⟩=some (.slice a1 n1 c1)/\w'.cell? ⟨w.heap.size+1,2,none⟩=some (.int .i64 t1)/\w'.cell? ⟨w.heap.size+1,3,none⟩=some (.slice d1 e1 f1)/\w'.cell? ⟨g,k*4,none⟩=some (.int .i64 s2)/\w'.cell? ⟨g,k*4+1,none⟩=some (.slice a2 n2 c2)/\w'.cell? ⟨g,k*4+2,none⟩=some (.int .i64 t2)/\w'.cell? ⟨g,k*4+3,none⟩=some (.slice d2 e2 f2)/\True)) (by kernel_rfl) ⟨AF.out.drew.c 1 0,AF.out.drew.c 1 1,AF.out.drew.c 1 2,AF.out.drew.c 1 3,(AF.out.drew.be.cell (p:=⟨g,k*4,none⟩) HG.out).trans X0.out,(AF.out.drew.be.cell (p:=⟨g,k*4+1,none⟩) HG.out).trans X1.out,(AF.out.drew.be.cell (p:=⟨g,k*4+2,none⟩) HG.out).trans X2.out,(AF.out.drew.be.cell (p:=⟨g,k*4+3,none⟩) HG.out).trans X3.out,trivial⟩ (fun hH=>?_);refine wpAnyH_gen (show St w _ [(w.heap.size,zQ,50),(w.heap.size+1,#[.int .i64 s1,.slice a1 n1 c1,.int .i64 t1,.slice d1 e1 f1],50)] [fun V=>Nq V s1 (.slice a1 n1 c1) t1 (.slice d1 e1 f1) (foldQ (better 1) (qs.take k)),fun V=>Nq V s2 (.slice a2 n2 c2) t2 (.slice d2 e2 f2) (qs[k])]from AF.out.drew) hH ?_;intro AH hc AA;have AE:=ζ hc;clear hc hH AF;refine tkA 0 rfl AA ?_;(try simp only [zP]);refine tkA 1 rfl AA ?_;(try simp only [zP]);refine tkA 2 rfl AA ?_;(try simp only [zP]);refine tkA 3 rfl AA ?_;(try simp only [zP]);refine tkA 4 rfl AA ?_;(try simp only [zP]);refine tkA 5 rfl AA ?_;(try simp only [zP]);refine tkA 6 rfl AA ?_;(try simp only [zP]);refine tkA 7 rfl AA ?_;(try simp only [zP]);refine rdy1 8 rfl (fun Kq AI=>?_);go_simp;go_at_call 81;refine(rcmpN_is (AE.out.rq 1 rfl) (AE.out.rq 0 rfl) (HB.out qs[k] (List.getElem_mem hlt)) (A1.out k hk) (by omega) (by omega) HU.out).mono ?_;rintro e w30 ⟨rfl,hb⟩;(try go_wp2_with fail);refine stepH AI (show St w _ [(w.heap.size,zQ,50),(w.heap.size+1,#[.int .i64 s1,.slice a1 n1 c1,.int .i64 t1,.slice d1 e1 f1],50)] [fun V=>Nq V s1 (.slice a1 n1 c1) t1 (.slice d1 e1 f1) (foldQ (better 1) (qs.take k)),fun V=>Nq V s2 (.slice a2 n2 c2) t2 (.slice d2 e2 f2) (qs[k])]from(AE.out.call hb)) (fun _ hX=>⟨hX.c 1 0,hX.c 1 1,hX.c 1 2,hX.c 1 3,(hX.be.cell (p:=⟨g,k*4,none⟩) HG.out).trans X0.out,(hX.be.cell (p:=⟨g,k*4+1,none⟩) HG.out).trans X1.out,(hX.be.cell (p:=⟨g,k*4+2,none⟩) HG.out).trans X2.out,(hX.be.cell (p:=⟨g,k*4+3,none⟩) HG.out).trans X3.out,trivial⟩) ?_;exact mN25_2
  ·have hn0:¬ ((k:Int) < (qs.length:Int)):=(by omega);have HK:=ζ (show qs.take k=qs from List.take_of_length_le (by omega));have AL:=hC.out.c 0 0;have AM:=hC.out.f 0 0;have AN:=hC.out.c 0 1;have AO:=hC.out.f 0 1;have AP:=hC.out.c 0 2;have AQ:=hC.out.f 0 2;have AR:=hC.out.c 0 3;have AS:=hC.out.f 0 3;have AT:=hC.out.c 1 0;have AU:=hC.out.f 1 0;have AV:=hC.out.c 1 1;have AW:=hC.out.f 1 1;have AX:=hC.out.c 1 2;have AY:=hC.out.f 1 2;have AZ:=hC.out.c 1 3;have A0:=hC.out.f 1 3;go_wp2;refine ret_st (hC.out|>.t4 0 rfl) (v:= .agg #[.int .i64 s1,.slice a1 n1 c1,.int .i64 t1,.slice d1 e1 f1]) (fun hF=>?_) rfl (fun hF=>⟨_,_,_,_,_,_,_,_,rfl,HK.out ▸ hF.rq 0 rfl,hF.be⟩)
   ·have e0:=hF.c 0 0;have e1:=hF.c 0 1;have e2:=hF.c 0 2;have e3:=hF.c 0 3;simp [results,Tryz.results116,go_sem,e0,e1,e2,e3]
theorem cmpB_lt {x y:Rat} :cmpQ y x= -1↔y < x:=by
 unfold cmpQ
 split
 ·rename_i h;subst h;exact⟨fun h=>absurd h (by decide),fun h=>absurd h Rat.lt_irrefl⟩
 ·split
  ·rename_i h;exact⟨fun _=>h,fun _=>rfl⟩
  ·rename_i h;exact⟨fun h=>absurd h (by decide),fun h2=>absurd h2 h⟩
theorem cmpB_gt {x y:Rat} :cmpQ y x=1↔x < y:=by
 unfold cmpQ
 split
 ·rename_i h;subst h;exact⟨fun h=>absurd h (by decide),fun h=>absurd h Rat.lt_irrefl⟩
 ·rename_i hne
  split
  ·rename_i h;exact⟨fun h=>absurd h (by decide),fun h2=>by grind⟩
  ·rename_i h;exact⟨fun _=>by grind,fun _=>rfl⟩
theorem better_min:better (-1)=minQ:=by
 funext x y;unfold better minQ;by_cases h:y < x
 ·rw [if_pos h,if_pos (cmpB_lt.2 h)]
 ·rw [if_neg h,if_neg (fun e=>h (cmpB_lt.1 e))]
theorem better_max:better 1=maxQ:=by
 funext x y;unfold better maxQ;by_cases h:x < y
 ·rw [if_pos h,if_pos (cmpB_gt.2 h)]
 ·rw [if_neg h,if_neg (fun e=>h (cmpB_gt.1 e))]
theorem Strt.lo_fold {l:List Pt} {a b:Int} (h:Strt l a b):foldQ (better (-1)) ((cor l a b).map (grd l))=loQ l a b:=by
 rw [h.lo_eq,better_min];unfold cor;rw [List.map_cons];rfl
theorem Strt.hi_fold {l:List Pt} {a b:Int} (h:Strt l a b):foldQ (better 1) ((cor l a b).map (grd l))=hiQ l a b:=by
 rw [h.hi_eq,better_max];unfold cor;rw [List.map_cons];rfl
def NqAll (V:World) (xs:List Value) (qs:List Rat):Prop:=xs.length=qs.length*4/\∀k (hk:k < qs.length),∃s a n c t d e f,xs[k*4]? =some (.int .i64 s)/\xs[k*4+1]? =some (.slice a n c)/\xs[k*4+2]? =some (.int .i64 t)/\xs[k*4+3]? =some (.slice d e f)/\Nq V s (.slice a n c) t (.slice d e f) qs[k]
theorem NqAll.keep {V V':World} {xs:List Value} {qs:List Rat} (h:NqAll V xs qs) (hk:Keeps V V'):NqAll V' xs qs:=⟨h.1,fun k hk'=>by
 obtain ⟨s,a,n,c,t,d,e,f,h1,h2,h3,h4,h5⟩:=h.2 k hk';exact⟨s,a,n,c,t,d,e,f,h1,h2,h3,h4,h5.keep hk⟩⟩
theorem NqAll.nil {V:World} :NqAll V [] []:=⟨rfl,fun k hk=>absurd hk (Nat.not_lt_zero k)⟩
theorem NqAll.snoc {V:World} {xs:List Value} {qs:List Rat} {s:Int} {a:Option Addr} {n c:Nat} {t:Int} {d:Option Addr} {e f:Nat} {q:Rat} (h:NqAll V xs qs) (hq:Nq V s (.slice a n c) t (.slice d e f) q):NqAll V (xs++ [.int .i64 s,.slice a n c,.int .i64 t,.slice d e f]) (qs++ [q]):=by
 refine⟨by rw [List.length_append,List.length_append,h.1];simp only [List.length_cons,List.length_nil];omega,fun k hk=>?_⟩;have hl:=h.1;by_cases hk':k < qs.length
 ·obtain ⟨s,a,n,c,t,d,e,f,h1,h2,h3,h4,h5⟩:=h.2 k hk';refine⟨s,a,n,c,t,d,e,f,?_,?_,?_,?_,?_⟩
  ·rw [List.getElem?_append_left (by omega)];exact h1
  ·rw [List.getElem?_append_left (by omega)];exact h2
  ·rw [List.getElem?_append_left (by omega)];exact h3
  ·rw [List.getElem?_append_left (by omega)];exact h4
  ·rw [List.getElem_append_left hk'];exact h5
 ·have hk2:k=qs.length:=by rw [List.length_append]at hk;simp only [List.length_cons,List.length_nil]at hk;omega
  subst hk2;refine⟨s,a,n,c,t,d,e,f,?_,?_,?_,?_,?_⟩
  ·rw [List.getElem?_append_right (by omega),show qs.length*4 - xs.length=0 by omega];rfl
  ·rw [List.getElem?_append_right (by omega),show qs.length*4+1 - xs.length=1 by omega];rfl
  ·rw [List.getElem?_append_right (by omega),show qs.length*4+2 - xs.length=2 by omega];rfl
  ·rw [List.getElem?_append_right (by omega),show qs.length*4+3 - xs.length=3 by omega];rfl
  ·rw [List.getElem_append_right (Nat.le_refl _)];simpa using hq
theorem rowQ_of {W:World} {v:Value} {xs:List Value} {qs:List Rat} (h:W.ownsRow 0 50 4 v qs.length xs) (hr:NqAll W xs qs):∃a c,v= .slice a qs.length c/\RowQ W (.slice a qs.length c) qs:=by
 rcases h.2 with ⟨rfl,h0⟩ | ⟨g,cap,cur,rfl,_,hg,_⟩
 ·exact⟨none,0,by rw [h0],none,0,rfl,fun k hk=>by omega⟩
 ·refine⟨some ⟨g,0,none⟩,cap,rfl,some ⟨g,0,none⟩,cap,rfl,fun k hk=>?_⟩;obtain ⟨s,a,n,c,t,d,e,f,h1,h2,h3,h4,h5⟩:=hr.2 k hk;have key:∀j u,xs[j]? =some u->W.cell? ⟨g,j,none⟩=some u:=fun j u hu=>by
   have:=World.ownsRow.cells h (g:=g) rfl j u hu;have hadd:(⟨g,0,none⟩:Addr).add j=⟨g,j,none⟩:=(by unfold Addr.add;split<;>simp_all);rwa [hadd]at this
  exact⟨g,s,a,n,c,t,d,e,f,rfl,(Array.getElem?_eq_some_iff.1 hg).1,key _ _ h1,key _ _ h2,key _ _ h3,key _ _ h4,h5⟩
theorem infoQ:(Tryz.prog.info? 50).map (fun i=>(i.zero,i.size,i.bytes))=some (some (.agg #[.int .i64 0,.slice none 0 0,.int .i64 0,.slice none 0 0]),4,64):=by kernel_rfl
section
variable {w W W0:World} {bs:List (Nat×Array Value×TypeId)} {os:List Rw} {rs:List (World->Prop)}
theorem Sy.pSx (h:Sy w W0 bs os rs) (hb:Below W0.heap.size W0 W) {e:TypeId} {size n c:Nat} {a:Option Addr} {xs:List Value} (hr:W.ownsRow W0.heap.size e size (.slice a n c) n xs):Sy w W bs os (rs++ [fun V=>Sx size V a n c xs]):=
 (h.call hb).push fun V hV=>(Sx.owns hr).away hV fun g o hg hm=>by
   have h1:=(h.own_ge hm).2;rcases hr.2 with ⟨h2,-⟩ | ⟨k,cap,cur,h2,-⟩
   ·rw [Value.slice.injEq]at h2;rw [h2.1]at hg;cases hg
   ·rw [Value.slice.injEq,hg]at h2;have h3:=h2.1;simp only [Option.some.injEq,Addr.mk.injEq]at h3;have:=(World.ownsRow.lt hr g (by rw [hg,h3.2.1];rfl)).1;omega
end
def RetNQ2 (w:World) (q r:Rat) (e:Ending) (w':World):Prop:=∃s1 a1 n1 c1 t1 d1 e1 f1 s2 a2 n2 c2 t2 d2 e2 f2,e= .returned (.tuple #[.agg #[.int .i64 s1,.slice a1 n1 c1,.int .i64 t1,.slice d1 e1 f1],.agg #[.int .i64 s2,.slice a2 n2 c2,.int .i64 t2,.slice d2 e2 f2]])/\Nq w' s1 (.slice a1 n1 c1) t1 (.slice d1 e1 f1) q/\Nq w' s2 (.slice a2 n2 c2) t2 (.slice d2 e2 f2) r/\Below w.heap.size w w'
section
open Go.RowKit Go.Shelf Dig
theorem Strt.cor_in {l:List Pt} {a b:Int} (h:Strt l a b) {x:Int} (hx:x∈cor l a b):hX l 0<=x/\x<=hX l (l.length - 1):=by
 have h1:=mem_cor h.lt hx;have h2:=h.lo;have h3:=h.hi;omega
theorem cor_len (l:List Pt) (a b:Int):2<=(cor l a b).length/\(cor l a b).length<=l.length+2:=by
 unfold cor ins;rw [List.length_cons,List.length_append,List.length_singleton];have:=List.length_filter_le (fun x=>decide (a < x) && decide (x < b)) (l.map (·.x));rw [List.length_map]at this;omega
theorem map_take {l:List Pt} {R:List Int} {k:Nat} (h:k < R.length):(R.map (grd l)).take (k+1)=(R.map (grd l)).take k++ [grd l (bX R k)]:=by
 rw [List.take_succ_eq_append_getElem (by rw [List.length_map];exact h),List.getElem_map,bX_at h]
section
variable (w:World)
theorem rBounds_any (a:OA) (n c:Nat) (l:List Pt) (x y:Int) (hs:Sx 2 w a n c (L2 l)) (hT:Strt l x y):
  Calls Tryz.prog 55 #[.slice a n c,.int .i64 x,.int .i64 y] w (RetNQ2 w (loQ l x y) (hiQ l x y)):=by
 obtain rfl:=hs.n2;have hforty:=hT.ok.forty;have AF:=ζ (fun W (hW:Below w.heap.size w W)=>rcorners_any W a l.length c l x y (hs.below hW) (by omega));have AG:=ζ (fun W (hW:Below w.heap.size w W) u (hu:u∈cor l x y)=>rGround_any W a l.length c l u (hs.below hW) hT.ok (hT.cor_in hu).1 (hT.cor_in hu).2);have AB:=ζ (show ∀q∈(cor l x y).map (grd l),Bq 36 q from fun q hq=>by
  obtain ⟨u,hu,rfl⟩:=List.mem_map.1 hq;have:=hT.cor_in hu;exact(hT.ok.grd_gd this.1 this.2).bq)
 have AH:=ζ hT.lo_fold;have AI:=ζ hT.hi_fold;have AJ:=ζ (cor_len l x y);have AA:=ζ hforty;clear hs hT;generalize loQ l x y=lo at*;generalize hiQ l x y=hi at*;generalize cor l x y=R at*;have hC:=ζ ((Sy.enter w).al w.heap.size zQ 50 rfl|>.al (w.heap.size+1) zQ 50 (by simp));go_enter Tryz.func55,Tryz.ntmps55;go_upto_region 1 with fail
 refine wp_geny hC.out ?_;intro V1 hc;have AC:=ζ hc;clear hc hC;go_wp2_with fail
 refine(AF.out _ AC.out.be).mono ?_;rintro e W1 ⟨ga,gc,rfl,hr,hb⟩;have hD:=ζ ((((AC.out.pSx hb hr.out).onil 50 4).pushK rfl rfl (fun V V' k (hz:NqAll V [] [])=>hz.keep k) NqAll.nil));clear hb hr AC AF;go_wp2;go_loopw [9,10] (fun s9 s10 wr=>∃ (k:Nat) (v9:Value) (ys:List Value),k<=R.length/\s9=v9/\s10= .int .i64 k/\Hid (Sy w wr [(w.heap.size,zQ,50),(w.heap.size+1,zQ,50)] [⟨v9,50,4,k,ys⟩] [fun V=>Sx 1 V ga R.length gc (L1 R),fun V=>NqAll V ys ((R.map (grd l)).take k)])) (fun _ s10 _=>R.length - (intOf s10).toNat)
 case atStart=>exact⟨0,_,[],by omega,rfl,rfl,hD⟩
 case round=>
  clear hD;obtain ⟨k,v9,ys,hk,rfl,rfl,hS⟩:=hrel;by_cases hlt:k < R.length
  ·obtain ⟨g,o,rfl⟩:=(hS.out.r 0 rfl).addr (by omega);have x0:=(hS.out.r 0 rfl).atX hlt;have HM:=ζ (map_take (l:=l) hlt);have HG:=ζ (fun W hW=>AG.out W hW (bX R k) (by rw [bX_at hlt];exact List.getElem_mem hlt));have i0:(0:Int)<=(k:Int):=(by omega);have i1:(k:Int) < (R.length:Int):=(by omega);have hk42:k<=42:=(by have h1:=AJ.out.2;have h2:=AA.out;omega);generalize bX R k=u at*;generalize grd l u=q at*;go_wp2_with fail
   refine(HG.out _ hS.out.be).mono ?_;rintro e W2 ⟨s2,a2,n2,c2,t2,d2,e2,f2,rfl,hz,hb⟩;have hE:=ζ ((hS.out.call hb).pq rfl rfl hz);clear hb hz hS x0;go_upto_region 5 with (refine wpList_append_sy (o:=⟨some 29,_,_,_,_,_⟩) rfl (hE.out.onew W2.heap.size #[.int .i64 s2,.slice a2 n2 c2,.int .i64 t2,.slice d2 e2 f2] 50 4 1 rfl (by omega) rfl) 0 1 rfl rfl _ _ _ rfl Tryz.underlying167 infoQ rfl (by omega) rfl rfl (by intro u hu;simp only [List.mem_cons,List.not_mem_nil,or_false]at hu;rcases hu with rfl | rfl | rfl | rfl<;>rfl) (by omega) (by omega) ?_;intro a4 c4 V4 AK;have hJ:=ζ AK;clear AK)
   have hT:=ζ (hJ.out.thin (bs':=[(w.heap.size,zQ,50),(w.heap.size+1,zQ,50)]) (os':=[⟨.slice a4 (k+1) c4,50,4,k+1,ys++ [.int .i64 s2,.slice a2 n2 c2,.int .i64 t2,.slice d2 e2 f2]⟩]) (List.Sublist.refl _) (List.Sublist.cons_cons _ (List.nil_sublist _)));have AW:=ζ ((hT.out.pushK rfl rfl (fun V V' k hz=>NqAll.keep hz k) (NqAll.snoc (hT.out.r 1 rfl) (hT.out.r 2 rfl))).pick [0,3] (rs':=[fun V=>Sx 1 V (some ⟨g,o,none⟩) R.length gc (L1 R),fun V=>NqAll V (ys++ [.int .i64 s2,.slice a2 n2 c2,.int .i64 t2,.slice d2 e2 f2]) ((R.map (grd l)).take k++ [q])]) rfl);clear hJ hT hE;go_wp2;go_roundw
   case rel=>exact⟨k+1,_,_,by omega,rfl,by go_num,by rw [HM.out];exact AW⟩
   case measure=>simp [intOf];omega
  ·obtain rfl:k=R.length:=by omega
   have AL:=ζ (show(R.map (grd l)).take R.length=R.map (grd l)from List.take_of_length_le (by rw [List.length_map];exact Nat.le_refl _));rw [AL.out]at hS;obtain ⟨qs,hqs⟩:∃qs,R.map (grd l)=qs:=⟨_,rfl⟩
   have AD:=ζ (show R.length=qs.length/\qs.length<=100 by rw [<-hqs,List.length_map];exact⟨rfl,by have h1:=AJ.out.2;have h2:=AA.out;omega⟩);rw [hqs]at hS AB AH AI;clear hqs AL AG;rw [AD.out.1]at hS;obtain ⟨a9,c9,rfl,hq⟩:=rowQ_of (hS.out.orow0 0 rfl) (hS.out.r 1 rfl);have hF:=ζ ((hS.out.thin (bs':=[(w.heap.size,zQ,50),(w.heap.size+1,zQ,50)]) (os':=[]) (List.Sublist.refl _) (List.nil_sublist _)).pick [] (rs':=[]) rfl);have AE:=ζ (fun V (hV:Below wr.heap.size wr V)=>hq.mono hV);have AM:=ζ (Below.refl wr.heap.size wr);clear hS hq;go_wp2_with fail
   refine(minN_any a9 c9 qs _ (AE.out _ AM.out) 36 AB.out (by omega) AD.out.2).mono ?_;rintro e W3 ⟨s3,a3,n3,c3,t3,d3,e3,f3,rfl,hz,hb⟩;have hG:=ζ ((hF.out.call hb).pq rfl rfl hz);have AN:=ζ hb;clear hb hz hF;go_wp2_with fail
   refine(maxN_any a9 c9 qs _ (AE.out _ AN.out) 36 AB.out (by omega) AD.out.2).mono ?_;rintro e W4 ⟨s4,a4,n4,c4,t4,d4,e4,f4,rfl,hz,hb⟩;have hH:=ζ ((hG.out.call hb).pq rfl rfl hz);clear hb hz hG AE AN AM;rw [AH.out,AI.out]at hH;have AX:=hH.out.c 0 0;have AO:=hH.out.f 0 0;have AY:=hH.out.c 0 1;have AP:=hH.out.f 0 1;have AZ:=hH.out.c 0 2;have AQ:=hH.out.f 0 2;have A0:=hH.out.c 0 3;have AR:=hH.out.f 0 3;have A1:=hH.out.c 1 0;have AS:=hH.out.f 1 0;have A2:=hH.out.c 1 1;have AT:=hH.out.f 1 1;have A3:=hH.out.c 1 2;have AU:=hH.out.f 1 2;have A4:=hH.out.c 1 3;have AV:=hH.out.f 1 3;go_wp2;have hZ:=ζ (hH.out|>.set (j:=0) (v:= .int .i64 s3) 0 rfl|>.set (j:=1) (v:= .slice a3 n3 c3) 0 rfl|>.set (j:=2) (v:= .int .i64 t3) 0 rfl|>.set (j:=3) (v:= .slice d3 e3 f3) 0 rfl|>.set (j:=0) (v:= .int .i64 s4) 1 rfl|>.set (j:=1) (v:= .slice a4 n4 c4) 1 rfl|>.set (j:=2) (v:= .int .i64 t4) 1 rfl|>.set (j:=3) (v:= .slice d4 e4 f4) 1 rfl);refine ret_sy hZ.out (v:= .tuple #[.agg #[.int .i64 s3,.slice a3 n3 c3,.int .i64 t3,.slice d3 e3 f3],.agg #[.int .i64 s4,.slice a4 n4 c4,.int .i64 t4,.slice d4 e4 f4]]) (fun hF=>?_) rfl (fun hF=>⟨_,_,_,_,_,_,_,_,_,_,_,_,_,_,_,_,rfl,hF.r 0 rfl,hF.r 1 rfl,hF.be⟩);have g0_0:=hF.c 0 0;have g0_1:=hF.c 0 1;have g0_2:=hF.c 0 2;have g0_3:=hF.c 0 3;have g1_0:=hF.c 1 0;have g1_1:=hF.c 1 1;have g1_2:=hF.c 1 2;have g1_3:=hF.c 1 3;simp [results,Tryz.results55,go_sem,g0_0,g0_1,g0_2,g0_3,g1_0,g1_1,g1_2,g1_3]
end
end
section
section
variable {l:List Pt} {bs:List Int} {d r:Int}
end
section
variable {l:List Pt} {a b x z:Int}
end
section
variable {l:List Pt} {bs:List Int} {x z:Int}
end
def covB (br:Nat->Int) (t:Nat) (b:Int×Int):Bool:=decide (b.1<=br t) && decide (br (t+1)<=b.2)
structure BayOk (br:Nat->Int) (has:Nat->Bool) (i:Nat) (l:List (Int×Int)):Prop where
 cnt:∀t,t < i->l.countP (covB br t)=if has t then 1 else 0
 sep:∀t,t < i->∀b∈l,covB br t b=true\/b.2<=br t\/br (t+1)<=b.1
 rng:∀b∈l,b.1 < b.2/\b.2<=br i
section
variable {bs feet heads:List Int} {low h:Int} {n:Nat}
end
section
variable {l:List Pt} {bs:List Int} {d e r h:Int}
end
section
variable {bs F D:List Int} {h:Int}
end
def partQ (f:Int×Int->Rat) (R:List Int) (k:Nat):Rat:=smQ (((nbr R).take k).map f)
theorem part_step {f:Int×Int->Rat} {R:List Int} {k:Nat} (h:k+1 < R.length):partQ f R (k+1)=partQ f R k+f (bX R k,bX R (k+1)):=by
 have hk:k < (nbr R).length:=by rw [nbr_len];omega
 unfold partQ;rw [List.take_succ_eq_append_getElem hk,List.map_append,List.map_singleton,smQ_snoc];have:=nbr_get h;rw [List.getElem?_eq_getElem hk]at this;simp only [Option.some.injEq]at this;rw [this,bX_at h,bX_at (show k < R.length by omega)]
theorem part_end (f:Int×Int->Rat) (R:List Int):partQ f R (R.length - 1)=smQ ((nbr R).map f):=by
 unfold partQ;rw [List.take_of_length_le (by rw [nbr_len];exact Nat.le_refl _)]
theorem part_bq {f:Int×Int->Rat} {R:List Int} {N k:Nat} (h:∀t∈nbr R,Bq N (f t)) (hk:k<=62):Bq (62*(N+1)+1) (partQ f R k):=by
 have h1:=smQ_bq (N:=N) (l:=((nbr R).take k).map f) (fun q hq=>by
  obtain ⟨t,ht,rfl⟩:=List.mem_map.1 hq;exact h t (List.mem_of_mem_take ht))
 have h2:(((nbr R).take k).map f).length*(N+1)<=62*(N+1):=Nat.mul_le_mul_right _ (by rw [List.length_map,List.length_take];omega);exact h1.mono (by omega)
section
variable {l:List Pt} {a b z:Int}
theorem Strt.nb (h:Strt l a b) {t:Int×Int} (ht:t∈nbr (cor l a b)):(-100000<=t.1/\t.1<=100000)/\(-100000<=t.2/\t.2<=100000)/\Gd (grd l t.1)/\Gd (grd l t.2):=by
 obtain ⟨i,hi,rfl⟩:=nbr_mem ht;have h1:=mem_cor h.lt (List.getElem_mem (show i < (cor l a b).length by omega));have h2:=mem_cor h.lt (List.getElem_mem hi);have h3:=h.ok.bx (i:=0) (by have:=h.ok.two;omega);have h4:=h.ok.bx (i:=l.length - 1) (by have:=h.ok.two;omega);have h5:=h.lo;have h6:=h.hi;refine⟨by dsimp only;omega,by dsimp only;omega,h.gd h1.1 h1.2,h.gd h2.1 h2.2⟩
theorem two_bq:Bq 3 2:=Bq.int (n:=2) (z:=2) (by unfold Bd;decide)
theorem one_bq:Bq 2 1:=Bq.int (n:=1) (z:=1) (by unfold Bd;decide)
theorem intq_bq {x:Int} (h: -400000<=x/\x<=400000):Bq 20 (x:Rat):=Bq.int (n:=19) (by unfold Bd;omega)
theorem Strt.pieceA_bq (h:Strt l a b) (hz: -200000<=z/\z<=200000) {t:Int×Int} (ht:t∈nbr (cor l a b)):Bq 174 (pieceA l z t):=by
 obtain ⟨h1,h2,h3,h4⟩:=h.nb ht;unfold pieceA;exact posQ_bq (Bq.int (n:=18) (by unfold Bd;omega)) (h3.sub (by omega) (by omega)) (h4.sub (by omega) (by omega))
theorem Strt.above_is (h:Strt l a b):partQ (pieceA l z) (cor l a b) ((cor l a b).length - 1)=above l a b z:=by rw [part_end];unfold above;rw [h.pcs]
end
theorem refPos_1 {d p q:Rat} {s t:Int} (h1:sgnQ p=s) (h2:sgnQ q=t) (h:s*t < 0) (h3:0 < s):p*(p / (p - q))*d / 2=posQ d p q:=by
 subst h1 h2;rw [<-refPos_eq];unfold refPos;rw [if_pos h,if_pos h3]
theorem refPos_2 {d p q:Rat} {s t:Int} (h1:sgnQ p=s) (h2:sgnQ q=t) (h:s*t < 0) (h3:¬ 0 < s):q*(1 - p / (p - q))*d / 2=posQ d p q:=by
 subst h1 h2;rw [<-refPos_eq];unfold refPos;rw [if_pos h,if_neg h3]
theorem refPos_3 {d p q:Rat} {s t:Int} (h1:sgnQ p=s) (h2:sgnQ q=t) (h:¬ s*t < 0) (h3:0 < s\/0 < t):(p+q)*d / 2=posQ d p q:=by
 subst h1 h2;rw [<-refPos_eq];unfold refPos;rw [if_neg h,if_pos h3]
theorem refPos_4 {d p q:Rat} {s t:Int} (h1:sgnQ p=s) (h2:sgnQ q=t) (h:¬ s*t < 0) (h3:¬ (0 < s\/0 < t)):(0:Rat)=posQ d p q:=by
 subst h1 h2;rw [<-refPos_eq];unfold refPos;rw [if_neg h,if_neg h3]
theorem sgnQ_in (q:Rat): -1<=sgnQ q/\sgnQ q<=1:=by
 unfold sgnQ
 split
 ·omega
 ·split<;>omega
theorem sgn_ne {p q:Rat} {s t:Int} (h1:sgnQ p=s) (h2:sgnQ q=t) (h:s*t < 0):p - q≠0:=by
 subst h1 h2;rcases sgn_mul_neg.1 h with ⟨a,b⟩ | ⟨a,b⟩
 ·intro e;have:p=q:=by grind
  subst this;exact absurd a (by grind)
 ·intro e;have:p=q:=by grind
  subst this;exact absurd a (by grind)
end
end Go.Proofs.YthmdhlopeponcaaGreatDoor
