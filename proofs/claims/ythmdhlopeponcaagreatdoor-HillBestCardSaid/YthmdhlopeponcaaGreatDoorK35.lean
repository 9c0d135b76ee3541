/- part -/
import Derived.Test.YthmdhlopeponcaaGreatDoorK33
import Derived.Test.YthmdhlopeponcaaGreatDoorK34
import Derived.Test.YthmdhlopeponcaaGreatDoorK12
import Derived.Test.YthmdhlopeponcaaGreatDoorK14
set_option maxRecDepth 100000
set_option maxHeartbeats 16000000
namespace Go.Proofs.YthmdhlopeponcaaGreatDoor
open Go.RowKit Dig
structure AI (xs ys:List Int) (s:Int) (L:List Int) (i:Nat):Prop where
 len:L.length=xs.length
 val:vl 10000 L=vl 10000 xs+s*vl 10000 (ys.take i)
 rng:∀x∈L,-10000<=x/\x<=20000
 low:∀j,i<=j->L[j]?.getD 0=xs[j]?.getD 0
theorem AI.start {xs:List Int} (ys:List Int) (s:Int) (h:∀x∈xs,0<=x/\x < 10000):AI xs ys s xs 0:=
 ⟨rfl,by simp [vl],fun x hx=>by have:=h x hx;omega,fun _ _=>rfl⟩
theorem AI.step {xs ys L:List Int} {s:Int} {i:Nat} (h:AI xs ys s L i) (hx:∀x∈xs,0<=x/\x < 10000) (hy:∀y∈ys,0<=y/\y < 10000) (hs: -1<=s/\s<=1) (hi:i < ys.length) (hl:i < L.length):
  AI xs ys s (L.set i (L[i] +s*ys[i])) (i+1):=by
 have hL:L[i]=xs[i]'(by rw [<-h.len];exact hl):=by
  have:=h.low i (Nat.le_refl _);rw [List.getElem?_eq_getElem hl,List.getElem?_eq_getElem (by rw [<-h.len];exact hl)]at this;exact this
 have b1:=hx _ (List.getElem_mem (show i < xs.length by rw [<-h.len];exact hl));have b2:=hy _ (List.getElem_mem hi);have b3: -10000<=s*ys[i]/\s*ys[i]<=10000:=by
  rcases(show s= -1\/s=0\/s=1 by omega)with h | h | h<;>rw [h]<;>omega
 refine⟨by rw [List.length_set,h.len],?_,?_,?_⟩
 ·have hv:=h.val;rw [vl_set _ _ hl,vl_take_succ _ hi];grind
 ·intro x hx';rcases List.mem_or_eq_of_mem_set hx' with h' | h'
  ·exact h.rng x h'
  ·rw [h',hL];omega
 ·intro j hj;rw [getD_set _ _ _ _ hl,if_neg (by omega)];exact h.low j (by omega)
theorem add_end {zA zB:Int} (h:zB.natAbs<=zA.natAbs):0<=(zA.natAbs:Int)+sgnN zA*sgnN zB*(zB.natAbs:Int)/\sgnN zA*((zA.natAbs:Int)+sgnN zA*sgnN zB*(zB.natAbs:Int))=zA+zB/\(zA=0->(zA.natAbs:Int)+sgnN zA*sgnN zB*(zB.natAbs:Int)=0):=by
 have e1:=sgn_mul_abs (z:=zA);have e2:=sgn_mul_abs (z:=zB);have e3:sgnN zA*sgnN zB*(zB.natAbs:Int)=sgnN zA*zB:=by rw [Int.mul_assoc,e2]
 rw [e3];have hs:sgnN zA=0/\zA=0\/sgnN zA=1/\0 < zA\/sgnN zA= -1/\zA < 0:=by unfold sgnN;split;exact .inl ⟨rfl,by assumption⟩;split;exact .inr (.inr ⟨rfl,by assumption⟩);exact .inr (.inl ⟨rfl,by omega⟩)
 rcases hs with ⟨h1,h2⟩ | ⟨h1,h2⟩ | ⟨h1,h2⟩<;>rw [h1]<;>omega
theorem mN9_0 {P_:Prop} (h:P_:=by
 (try dsimp only);(first
   | ((with_reducible refine And.intro (?_:World.cell? (World.drew (World.setCell wr _ _)) _=_) ?_);exact(AB.out _).drew.c 0 0;exact⟨(AB.out _).drew.c 1 0,(AB.out _).drew.c 1 1,AF.out _⟩)
   | exact⟨hC.out.drew.c 0 0,hC.out.drew.c 1 0,hC.out.drew.c 1 1,cy.out⟩)):P_:=h
theorem zaddN_any (s1:Int) (a1:OA) (n1 c1:Nat) (z1:Int) (s2:Int) (a2:OA) (n2 c2:Nat) (z2:Int) (w:World) (h1:Nz w s1 (.slice a1 n1 c1) z1) (h2:Nz w s2 (.slice a2 n2 c2) z2)
  (hl1:(dg 10000 z1.natAbs).length<=50000) (hl2:(dg 10000 z2.natAbs).length<=50000):
  Calls Tryz.prog 138 #[.agg #[.int .i64 s1,.slice a1 n1 c1],.agg #[.int .i64 s2,.slice a2 n2 c2]] w (RetN w (z1+z2)):=by
 have hC:=ζ (((St.enter w).pn h1).pn h2|>.al w.heap.size #[.int .i64 s1,.slice a1 n1 c1] 48 rfl rfl|>.al (w.heap.size+1) #[.int .i64 s2,.slice a2 n2 c2] 48 (by simp) rfl|>.al (w.heap.size+2) #[.int .i64 0,.slice none 0 0] 48 (by simp) rfl);have AU:=ζ h1.g;have AV:=ζ h2.g;have L1:=ζ h1.g.lt;have L2:=ζ h2.g.lt;clear h1 h2;go_enter Tryz.func138,Tryz.ntmps138;go_wp2_with fail
 refine(larger_any _ _ _ _ _ _ _ _ _ _ _ (hC.out.n 0 rfl) (hC.out.n 1 rfl) (by omega) (by omega)).mono ?_;rintro e w3 ⟨rfl,hb⟩;have AC:=ζ (hC.out.call hb);clear hC hb;obtain ⟨v,hv⟩:∃v:Int,cmpN z1.natAbs z2.natAbs=v:=⟨_,rfl⟩
 rw [hv];by_cases hlt:v < 0
 ·have AJ:=ζ (show z1.natAbs<=z2.natAbs by unfold cmpN at hv;split at hv<;>(try split at hv)<;>omega);have hd:decide (v < 0)=true:=by simpa using hlt
  clear hv;have AW:=AC.out.c 0 0;have AX:=AC.out.c 0 1;have AY:=AC.out.c 1 0;have AZ:=AC.out.c 1 1;have y00:=AC.out.f 0 0;have y01:=AC.out.f 0 1;have y10:=AC.out.f 1 0;have y11:=AC.out.f 1 1;go_upto_region 3 with fail
  refine wp_gen (AC.out.set 0 rfl|>.set 0 rfl|>.t2 1 rfl) ?_;intro W4 hc;have hD:=ζ hc;clear hc AC AW AX AY AZ y00 y01 y10 y11;have HA:=ζ (hD.out.n 1 rfl);have HB:=ζ (hD.out.n 0 rfl);have hnA:=HA.out.g.len;have hnB:=HB.out.g.len;have hE:=ζ (hD.out.pick [] (rs':=[]) rfl);have AM:=ζ HA.out.g;have A0:=ζ HB.out.g;have LB:=ζ HB.out.g.lt;have hle:(dg 10000 z1.natAbs).length<=(dg 10000 z2.natAbs).length:=Dig.dg_len_mono (by omega) AJ.out;have VA:=ζ (show vl 10000 (dg 10000 z2.natAbs)=(z2.natAbs:Int)from vl_dg (b:=10000) (by omega) _);have VB:=ζ (show vl 10000 (dg 10000 z1.natAbs)=(z1.natAbs:Int)from vl_dg (b:=10000) (by omega) _);have MA:=ζ (show ∀x∈dg 10000 z2.natAbs,0<=x/\x < 10000 from dg_mem (b:=10000) (by omega) _);have MB:=ζ (show ∀x∈dg 10000 z1.natAbs,0<=x/\x < 10000 from dg_mem (b:=10000) (by omega) _);have AK:=ζ HA.out.s;have AN:=ζ HB.out.s;have AO:=ζ HA.out.sv;have hp: -1<=s2*s1/\s2*s1<=1:=by rcases HA.out.sb with h | h | h<;>rcases HB.out.sb with h' | h' | h'<;>rw [h,h']<;>decide
  have hws:IntKind.i64.wrap (s2*s1)=s2*s1:=IntWalk.i64_in _ (by omega);clear hD HA HB;generalize dg 10000 z2.natAbs=xs at*;generalize dg 10000 z1.natAbs=ys at*;obtain rfl:xs.length=n2:=hnA.symm;obtain rfl:ys.length=n1:=hnB.symm;have d01:=hE.out.c 0 1;go_wp2_with (at_builtin;refine wpList_append_sl _ rfl _ _ 23 rfl 3 Tryz.underlying23 info_int (.slice none 0 0) [] rfl Sl.nil _ xs rfl AM.out (by simp;omega) ?_;intro ga gn gc W5 ho hg hs)
  have AL:=ζ (hE.out.grown hg (fun j hj=>by simp [Value.ownBlock]at hj));have AE:=ζ (show Sl 3 W5 (.slice ga gn gc) xs by simpa using ho);have AP:=ζ (show ∀j,Value.ownBlock (.slice ga gn gc)=some j->W4.heap.size<=j from fun j hj=>by
   rcases hs j hj with h | h
   ·simp [Value.ownBlock]at h
   ·exact h)
  have hgn:=AE.out.len;obtain rfl:xs.length=gn:=hgn.symm;have sz:=hE.out.lt 2 rfl;have AQ:=ζ sz;clear ho hg hs d01 sz hgn;go_wp2;go_loopw [6] (fun iv wr=>∃ (i:Nat) (L:List Int),iv= .int .i64 i/\i<=ys.length/\Hid (AI xs ys (s2*s1) L i)/\Hid (Sl 3 wr (.slice ga xs.length gc) L)/\
   Hid (St w wr [(w.heap.size,#[.int .i64 s2,.slice a2 xs.length c2],48),(w.heap.size+1,#[.int .i64 s1,.slice a1 ys.length c1],48),(w.heap.size+2,#[.int .i64 0,.slice none 0 0],48)] [])) (fun iv _=>ys.length - (intOf iv).toNat)
  case atStart=>exact⟨0,xs,rfl,Nat.zero_le _,AI.start ys _ MA.out,AE.out,AL.out⟩
  case round=>
   clear AL AE;obtain ⟨i,L,rfl,hi,HI,HO,hC⟩:=hrel;have c11:=hC.out.c 1 1;by_cases hlt:i < ys.length
   ·have hilen:=HI.out.len;have hlL:i < L.length:=(by omega);have sy:=AU.out.below hC.out.be L1.out;obtain ⟨gy,rfl,hgy⟩:=sy.row (by omega);obtain ⟨g,rfl,hgl⟩:=HO.out.row (by omega);have hgW:=AP.out g rfl;have hgz:=AQ.out;have hgb:=L1.out gy rfl;have cy:=ζ (sy.cell (k:=i) hlt);have co:=HO.out.cell (k:=i) hlL;have fo:=HO.out.free i;have bY:=MB.out _ (List.getElem_mem hlt);have bO:=HI.out.rng _ (List.getElem_mem hlL);have AR:=ζ (HI.out.step MA.out MB.out hp hlt hlL);obtain ⟨Y,hY⟩:∃Y:Int,Y=ys[i]:=⟨_,rfl⟩
    obtain ⟨O,hO⟩:∃O:Int,O=L[i]:=⟨_,rfl⟩
    rw [<-hY]at cy bY;rw [<-hO]at co bO;have hm: -10000<=s2*s1*Y/\s2*s1*Y<=10000:=by
     rcases(show s2*s1= -1\/s2*s1=0\/s2*s1=1 by omega)with h | h | h<;>rw [h]<;>omega
    have j1:IntKind.i64.wrap (s2*s1*Y)=s2*s1*Y:=IntWalk.i64_in _ (by omega);have j2:IntKind.i64.wrap (O+s2*s1*Y)=O+s2*s1*Y:=IntWalk.i64_in _ (by omega);have HY:=ζ hY;have AS:=ζ hO;have i1:(0:Int)<=(i:Int):=(by omega);have i2:(i:Int) < (xs.length:Int):=(by omega);have i3:(i:Int) < (ys.length:Int):=(by omega);have AB:=ζ (fun(v:Value)=>hC.out.grown (grownBy_setCell wr g i v) (fun j hj=>by
     simp only [Option.some.injEq]at hj;subst hj;refine⟨by omega,fun x hx=>?_⟩;simp only [List.mem_cons,List.not_mem_nil,or_false]at hx;rcases hx with rfl | rfl | rfl
     ·show w.heap.size≠_;omega
     ·show w.heap.size+1≠_;omega
     ·show w.heap.size+2≠_;omega))
    have AF:=ζ (fun(v:Value)=>show(wr.setCell ⟨g,i,none⟩ v).cell? ⟨gy,i,none⟩=some (.int .i64 Y)by rw [hY];exact(AU.out.below (AB.out v).be L1.out).cell hlt);clear hY hO sy bY bO hm hgW hgz hgb;go_wp2;refine wp_region_noPanic ?_;refine wp_region_held_drew (S:=(fun w'=>w'.cell? ⟨w.heap.size,0,none⟩=some (.int .i64 s2)/\w'.cell? ⟨w.heap.size+1,0,none⟩=some (.int .i64 s1)/\w'.cell? ⟨w.heap.size+1,1,none⟩=some (.slice (some ⟨gy,0,none⟩) ys.length c1)/\w'.cell? ⟨gy,i,none⟩=some (.int .i64 Y))) (by kernel_rfl) ?_ (fun AA=>?_)
    ·exact mN9_0
    refine tkA 0 rfl AA ?_;(try simp only [zP]);refine tkA 1 rfl AA ?_;(try simp only [zP]);refine tkA 2 rfl AA ?_;(try simp only [zP]);refine tkA 3 rfl AA ?_;(try simp only [zP]);refine tkA 4 rfl AA ?_;(try simp only [zP]);refine tkA 6 rfl AA ?_;(try simp only [zP]);refine tkA 7 rfl AA ?_;(try simp only [zP]);refine tkA 8 rfl AA ?_;(try simp only [zP]);refine tkA 9 rfl AA ?_;(try simp only [zP]);refine tkA 10 rfl AA ?_;(try simp only [zP]);refine tkA 11 rfl AA ?_;(try simp only [zP]);refine tkA 12 rfl AA ?_;(try simp only [zP]);refine tkA 13 rfl AA ?_;(try simp only [zP]);refine tkA 14 rfl AA ?_;(try simp only [zP]);refine tkA 15 rfl AA ?_;(try simp only [zP]);refine tkA 16 rfl AA ?_;(try simp only [zP]);refine rdyL [5] ?_;refine arc rfl (fun K hK=>?_) ?_
    ·go_simp;refine hK.out _ _ ?_ (fun AG=>?_)
     ·exact mN9_0
     clear hK K AA;(try simp only [zP]);refine tkA 17 rfl AG ?_;(try simp only [zP]);refine tkA 18 rfl AG ?_;(try simp only [zP]);refine rdyL [19] ?_;refine arc rfl (fun K hK=>?_) ?_
     ·go_simp;refine hK.out _ _ ?_ (fun A1=>?_)
      ·exact mN9_0
      clear hK K AG;(try simp only [zP]);refine wpAnyH_done (by kernel_rfl) ?_ _;refine NoPanic.normal ?_;go_wp2;go_roundw
      case rel=>exact⟨i+1,L.set i (O+s2*s1*Y),by go_num,by omega,by rw [AS.out,HY.out];exact AR.out,(HO.out.set i (O+s2*s1*Y)).drew,(AB.out _).drew⟩
      case measure=>simp [intOf];omega
     exact AllReadyH.nil
    exact AllReadyH.nil
   ·obtain rfl:i=ys.length:=by omega
    have HV:=ζ (show vl 10000 L=(z2.natAbs:Int)+sgnN z2*sgnN z1*(z1.natAbs:Int)by rw [HI.out.val,List.take_length,VA.out,VB.out,AK.out,AN.out]);have AH:=ζ (add_end AJ.out);have AT:=ζ HI.out.len;have c00:=hC.out.c 0 0;go_wp2_with fail
    refine(rmade_b (xs:=L) (by have:=HO.out;exact this) (fun x hx=>by have:=HI.out.rng x hx;omega) (by rw [HV.out];exact AH.out.1) (by rw [AT.out];omega) ?_).mono ?_
    ·rcases AO.out with h | h
     ·exact .inl (by rw [HV.out];exact AH.out.2.2 h)
     ·exact .inr h
    rintro e w9 ⟨s9,a9,n9,c9,rfl,hz,hb⟩;have AD:=ζ ((hC.out.call hb).pn hz);clear hz hb c00 c11 hC;have c20:=AD.out.c 2 0;have c21:=AD.out.c 2 1;have f20:=AD.out.f 2 0;have f21:=AD.out.f 2 1;go_wp2;refine ret_st (AD.out.set 2 rfl|>.set 2 rfl) (v:= .agg #[.int .i64 s9,.slice a9 n9 c9]) (fun hF=>?_) rfl (fun hF=>⟨s9,a9,n9,c9,rfl,?_,hF.be⟩)
    ·have e0:=hF.c 2 0;have e1:=hF.c 2 1;simp [results,Tryz.results138,go_sem,e0,e1]
    ·have:=hF.n 0 rfl;rw [HV.out,AK.out,AH.out.2.1]at this;rw [Int.add_comm]at this;exact this
 ·have AJ:=ζ (show z2.natAbs<=z1.natAbs by unfold cmpN at hv;split at hv<;>(try split at hv)<;>omega);have hd:decide (v < 0)=false:=by simpa using hlt
  clear hv;go_upto_region 3 with fail
  refine wp_gen AC.out ?_;intro W4 hc;have hD:=ζ hc;clear hc AC;have HA:=ζ (hD.out.n 0 rfl);have HB:=ζ (hD.out.n 1 rfl);have hnA:=HA.out.g.len;have hnB:=HB.out.g.len;have hE:=ζ (hD.out.pick [] (rs':=[]) rfl);have AM:=ζ HA.out.g;have A0:=ζ HB.out.g;have LB:=ζ HB.out.g.lt;have hle:(dg 10000 z2.natAbs).length<=(dg 10000 z1.natAbs).length:=Dig.dg_len_mono (by omega) AJ.out;have VA:=ζ (show vl 10000 (dg 10000 z1.natAbs)=(z1.natAbs:Int)from vl_dg (b:=10000) (by omega) _);have VB:=ζ (show vl 10000 (dg 10000 z2.natAbs)=(z2.natAbs:Int)from vl_dg (b:=10000) (by omega) _);have MA:=ζ (show ∀x∈dg 10000 z1.natAbs,0<=x/\x < 10000 from dg_mem (b:=10000) (by omega) _);have MB:=ζ (show ∀x∈dg 10000 z2.natAbs,0<=x/\x < 10000 from dg_mem (b:=10000) (by omega) _);have AK:=ζ HA.out.s;have AN:=ζ HB.out.s;have AO:=ζ HA.out.sv;have hp: -1<=s1*s2/\s1*s2<=1:=by rcases HA.out.sb with h | h | h<;>rcases HB.out.sb with h' | h' | h'<;>rw [h,h']<;>decide
  have hws:IntKind.i64.wrap (s1*s2)=s1*s2:=IntWalk.i64_in _ (by omega);clear hD HA HB;generalize dg 10000 z1.natAbs=xs at*;generalize dg 10000 z2.natAbs=ys at*;obtain rfl:xs.length=n1:=hnA.symm;obtain rfl:ys.length=n2:=hnB.symm;have d01:=hE.out.c 0 1;go_wp2_with (at_builtin;refine wpList_append_sl _ rfl _ _ 23 rfl 3 Tryz.underlying23 info_int (.slice none 0 0) [] rfl Sl.nil _ xs rfl AM.out (by simp;omega) ?_;intro ga gn gc W5 ho hg hs)
  have AL:=ζ (hE.out.grown hg (fun j hj=>by simp [Value.ownBlock]at hj));have AE:=ζ (show Sl 3 W5 (.slice ga gn gc) xs by simpa using ho);have AP:=ζ (show ∀j,Value.ownBlock (.slice ga gn gc)=some j->W4.heap.size<=j from fun j hj=>by
   rcases hs j hj with h | h
   ·simp [Value.ownBlock]at h
   ·exact h)
  have hgn:=AE.out.len;obtain rfl:xs.length=gn:=hgn.symm;have sz:=hE.out.lt 2 rfl;have AQ:=ζ sz;clear ho hg hs d01 sz hgn;go_wp2;go_loopw [6] (fun iv wr=>∃ (i:Nat) (L:List Int),iv= .int .i64 i/\i<=ys.length/\Hid (AI xs ys (s1*s2) L i)/\Hid (Sl 3 wr (.slice ga xs.length gc) L)/\
   Hid (St w wr [(w.heap.size,#[.int .i64 s1,.slice a1 xs.length c1],48),(w.heap.size+1,#[.int .i64 s2,.slice a2 ys.length c2],48),(w.heap.size+2,#[.int .i64 0,.slice none 0 0],48)] [])) (fun iv _=>ys.length - (intOf iv).toNat)
  case atStart=>exact⟨0,xs,rfl,Nat.zero_le _,AI.start ys _ MA.out,AE.out,AL.out⟩
  case round=>
   clear AL AE;obtain ⟨i,L,rfl,hi,HI,HO,hC⟩:=hrel;have c11:=hC.out.c 1 1;by_cases hlt:i < ys.length
   ·have hilen:=HI.out.len;have hlL:i < L.length:=(by omega);have sy:=AV.out.below hC.out.be L2.out;obtain ⟨gy,rfl,hgy⟩:=sy.row (by omega);obtain ⟨g,rfl,hgl⟩:=HO.out.row (by omega);have hgW:=AP.out g rfl;have hgz:=AQ.out;have hgb:=L2.out gy rfl;have cy:=ζ (sy.cell (k:=i) hlt);have co:=HO.out.cell (k:=i) hlL;have fo:=HO.out.free i;have bY:=MB.out _ (List.getElem_mem hlt);have bO:=HI.out.rng _ (List.getElem_mem hlL);have AR:=ζ (HI.out.step MA.out MB.out hp hlt hlL);obtain ⟨Y,hY⟩:∃Y:Int,Y=ys[i]:=⟨_,rfl⟩
    obtain ⟨O,hO⟩:∃O:Int,O=L[i]:=⟨_,rfl⟩
    rw [<-hY]at cy bY;rw [<-hO]at co bO;have hm: -10000<=s1*s2*Y/\s1*s2*Y<=10000:=by
     rcases(show s1*s2= -1\/s1*s2=0\/s1*s2=1 by omega)with h | h | h<;>rw [h]<;>omega
    have j1:IntKind.i64.wrap (s1*s2*Y)=s1*s2*Y:=IntWalk.i64_in _ (by omega);have j2:IntKind.i64.wrap (O+s1*s2*Y)=O+s1*s2*Y:=IntWalk.i64_in _ (by omega);have HY:=ζ hY;have AS:=ζ hO;have i1:(0:Int)<=(i:Int):=(by omega);have i2:(i:Int) < (xs.length:Int):=(by omega);have i3:(i:Int) < (ys.length:Int):=(by omega);have AB:=ζ (fun(v:Value)=>hC.out.grown (grownBy_setCell wr g i v) (fun j hj=>by
     simp only [Option.some.injEq]at hj;subst hj;refine⟨by omega,fun x hx=>?_⟩;simp only [List.mem_cons,List.not_mem_nil,or_false]at hx;rcases hx with rfl | rfl | rfl
     ·show w.heap.size≠_;omega
     ·show w.heap.size+1≠_;omega
     ·show w.heap.size+2≠_;omega))
    have AF:=ζ (fun(v:Value)=>show(wr.setCell ⟨g,i,none⟩ v).cell? ⟨gy,i,none⟩=some (.int .i64 Y)by rw [hY];exact(AV.out.below (AB.out v).be L2.out).cell hlt);clear hY hO sy bY bO hm hgW hgz hgb;go_wp2;refine wp_region_noPanic ?_;refine wp_region_held_drew (S:=(fun w'=>w'.cell? ⟨w.heap.size,0,none⟩=some (.int .i64 s1)/\w'.cell? ⟨w.heap.size+1,0,none⟩=some (.int .i64 s2)/\w'.cell? ⟨w.heap.size+1,1,none⟩=some (.slice (some ⟨gy,0,none⟩) ys.length c2)/\w'.cell? ⟨gy,i,none⟩=some (.int .i64 Y))) (by kernel_rfl) ?_ (fun AA=>?_)
    ·exact mN9_0
    refine tkA 0 rfl AA ?_;(try simp only [zP]);refine tkA 1 rfl AA ?_;(try simp only [zP]);refine tkA 2 rfl AA ?_;(try simp only [zP]);refine tkA 3 rfl AA ?_;(try simp only [zP]);refine tkA 4 rfl AA ?_;(try simp only [zP]);refine tkA 6 rfl AA ?_;(try simp only [zP]);refine tkA 7 rfl AA ?_;(try simp only [zP]);refine tkA 8 rfl AA ?_;(try simp only [zP]);refine tkA 9 rfl AA ?_;(try simp only [zP]);refine tkA 10 rfl AA ?_;(try simp only [zP]);refine tkA 11 rfl AA ?_;(try simp only [zP]);refine tkA 12 rfl AA ?_;(try simp only [zP]);refine tkA 13 rfl AA ?_;(try simp only [zP]);refine tkA 14 rfl AA ?_;(try simp only [zP]);refine tkA 15 rfl AA ?_;(try simp only [zP]);refine tkA 16 rfl AA ?_;(try simp only [zP]);refine rdyL [5] ?_;refine arc rfl (fun K hK=>?_) ?_
    ·go_simp;refine hK.out _ _ ?_ (fun AG=>?_)
     ·exact mN9_0
     clear hK K AA;(try simp only [zP]);refine tkA 17 rfl AG ?_;(try simp only [zP]);refine tkA 18 rfl AG ?_;(try simp only [zP]);refine rdyL [19] ?_;refine arc rfl (fun K hK=>?_) ?_
     ·go_simp;refine hK.out _ _ ?_ (fun A1=>?_)
      ·exact mN9_0
      clear hK K AG;(try simp only [zP]);refine wpAnyH_done (by kernel_rfl) ?_ _;refine NoPanic.normal ?_;go_wp2;go_roundw
      case rel=>exact⟨i+1,L.set i (O+s1*s2*Y),by go_num,by omega,by rw [AS.out,HY.out];exact AR.out,(HO.out.set i (O+s1*s2*Y)).drew,(AB.out _).drew⟩
      case measure=>simp [intOf];omega
     exact AllReadyH.nil
    exact AllReadyH.nil
   ·obtain rfl:i=ys.length:=by omega
    have HV:=ζ (show vl 10000 L=(z1.natAbs:Int)+sgnN z1*sgnN z2*(z2.natAbs:Int)by rw [HI.out.val,List.take_length,VA.out,VB.out,AK.out,AN.out]);have AH:=ζ (add_end AJ.out);have AT:=ζ HI.out.len;have c00:=hC.out.c 0 0;go_wp2_with fail
    refine(rmade_b (xs:=L) (by have:=HO.out;exact this) (fun x hx=>by have:=HI.out.rng x hx;omega) (by rw [HV.out];exact AH.out.1) (by rw [AT.out];omega) ?_).mono ?_
    ·rcases AO.out with h | h
     ·exact .inl (by rw [HV.out];exact AH.out.2.2 h)
     ·exact .inr h
    rintro e w9 ⟨s9,a9,n9,c9,rfl,hz,hb⟩;have AD:=ζ ((hC.out.call hb).pn hz);clear hz hb c00 c11 hC;have c20:=AD.out.c 2 0;have c21:=AD.out.c 2 1;have f20:=AD.out.f 2 0;have f21:=AD.out.f 2 1;go_wp2;refine ret_st (AD.out.set 2 rfl|>.set 2 rfl) (v:= .agg #[.int .i64 s9,.slice a9 n9 c9]) (fun hF=>?_) rfl (fun hF=>⟨s9,a9,n9,c9,rfl,?_,hF.be⟩)
    ·have e0:=hF.c 2 0;have e1:=hF.c 2 1;simp [results,Tryz.results138,go_sem,e0,e1]
    ·have:=hF.n 0 rfl;rw [HV.out,AK.out,AH.out.2.1]at this;exact this
theorem qN10_0 {P_:Prop} (h:P_:=by exact⟨Yx.c 0 0,Yx.c 0 1,Yx.c 1 0,Yx.c 1 1,trivial⟩):P_:=h
theorem Bd.lenM (m:Nat) {k:Nat} {z:Int} (h:Bd k z) (hk:k<=10*m):(dg 10000 z.natAbs).length<=m:=by
 refine dg_len_le (by omega) (Nat.lt_of_lt_of_le (h.mono hk) ?_);rw [Nat.pow_mul];exact Nat.pow_le_pow_left (by omega) _
theorem Bd.lenN {k:Nat} {z:Int} (h:Bd k z) (hk:k<=500000):(dg 10000 z.natAbs).length<=50000:=h.lenM 50000 (by omega)
section
variable {w:World} {s1:Int} {a1:OA} {n1 c1:Nat} {z1:Int} {s2:Int} {a2:OA} {n2 c2:Nat} {z2:Int} {k1 k2:Nat}
theorem addN_b (h1:Nz w s1 (.slice a1 n1 c1) z1) (h2:Nz w s2 (.slice a2 n2 c2) z2) (b1:Bd k1 z1) (b2:Bd k2 z2) (hk1:k1<=500000) (hk2:k2<=500000):
  Calls Tryz.prog 138 #[.agg #[.int .i64 s1,.slice a1 n1 c1],.agg #[.int .i64 s2,.slice a2 n2 c2]] w (RetN w (z1+z2)):=zaddN_any _ _ _ _ _ _ _ _ _ _ _ h1 h2 (b1.lenN hk1) (b2.lenN hk2)
theorem mulN_b (h1:Nz w s1 (.slice a1 n1 c1) z1) (h2:Nz w s2 (.slice a2 n2 c2) z2) (b1:Bd k1 z1) (b2:Bd k2 z2) (hk1:k1<=500000) (hk2:k2<=500000):
  Calls Tryz.prog 139 #[.agg #[.int .i64 s1,.slice a1 n1 c1],.agg #[.int .i64 s2,.slice a2 n2 c2]] w (RetN w (z1*z2)):=zmulN_any _ _ _ _ _ _ _ _ _ _ _ h1 h2 (b1.lenN hk1) (b2.lenN hk2)
theorem negN_b (h1:Nz w s1 (.slice a1 n1 c1) z1):Calls Tryz.prog 164 #[.agg #[.int .i64 s1,.slice a1 n1 c1]] w (RetN w (-z1)):=zneg_any _ _ _ _ _ _ h1
theorem absN_b (h1:Nz w s1 (.slice a1 n1 c1) z1):Calls Tryz.prog 183 #[.agg #[.int .i64 s1,.slice a1 n1 c1]] w (RetN w (z1.natAbs:Int)):=zabs_any _ _ _ _ _ _ h1
end
theorem zsubN_any (s1:Int) (a1:OA) (n1 c1:Nat) (z1:Int) (s2:Int) (a2:OA) (n2 c2:Nat) (z2:Int) (w:World) (h1:Nz w s1 (.slice a1 n1 c1) z1) (h2:Nz w s2 (.slice a2 n2 c2) z2) (k1 k2:Nat) (b1:Bd k1 z1) (b2:Bd k2 z2) (hk1:k1<=500000) (hk2:k2<=500000):
  Calls Tryz.prog 171 #[.agg #[.int .i64 s1,.slice a1 n1 c1],.agg #[.int .i64 s2,.slice a2 n2 c2]] w (RetN w (z1+ -z2)):=by
 have B1:=ζ b1;have B2:=ζ b2;clear b1 b2;have hC:=ζ ((((((St.enter w).pn h1).pn h2).al (w.heap.size) #[.int .i64 s1,.slice a1 n1 c1] 48 rfl rfl).al (w.heap.size+1) #[.int .i64 s2,.slice a2 n2 c2] 48 (by simp) rfl).al (w.heap.size+2) #[.int .i64 0,.slice none 0 0] 48 (by simp) rfl);clear h1 h2;go_enter Tryz.func171,Tryz.ntmps171;go_wp2;go_region_held3 (fun w'=>w'.cell? ⟨w.heap.size,0,none⟩=some (.int .i64 s1)/\w'.cell? ⟨w.heap.size,1,none⟩=some (.slice a1 n1 c1)/\w'.cell? ⟨w.heap.size+1,0,none⟩=some (.int .i64 s2)/\w'.cell? ⟨w.heap.size+1,1,none⟩=some (.slice a2 n2 c2)/\True)
  (first
   | (with_reducible refine aG (World.setCell (World.setCell w4 _ _) _ _) ?_;refine aH (AA.out|>.t2 2 rfl) (fun Yx=>?_);exact qN10_0)
   | (with_reducible refine aG w4 ?_;have Yx:=AA.out;exact qN10_0)
   | (with_reducible refine aG w3 ?_;have Yx:=AB.out;exact qN10_0)
   | (with_reducible refine aG _ ?_;have Yx:=hC.out.drew;exact qN10_0)|fail)
  (first
   | (have _t:=AB;go_at_call 138;refine(addN_b (AB.out.n 0 rfl) (AB.out.n 2 rfl) B1.out B2.out.neg (by omega) (by omega)).mono ?_;rintro e w4 ⟨s4,a4,n4,c4,rfl,hz,hb⟩;have AA:=ζ ((AB.out.call hb).pn hz);clear hb hz;have AC:=AA.out.c 2 0;have AD:=AA.out.f 2 0;have AE:=AA.out.c 2 1;have AF:=AA.out.f 2 1;clear _t AB)
   | (have _t:=hC;go_at_call 164;refine(negN_b (hC.out.drew.n 1 rfl)).mono ?_;rintro e w3 ⟨s3,a3,n3,c3,rfl,hz,hb⟩;have AB:=ζ ((hC.out.drew.call hb).pn hz);clear hb hz;clear _t hC))
 go_wp2;refine ret_st (AA.out|>.t2 2 rfl) (v:= .agg #[.int .i64 s4,.slice a4 n4 c4]) (fun hF=>?_) rfl (fun hF=>⟨_,_,_,_,rfl,hF.n 3 rfl,hF.be⟩)
 ·have e0:=hF.c 2 0;have e1:=hF.c 2 1;simp [results,Tryz.results171,go_sem,e0,e1]
section
variable {w:World} {s1:Int} {a1:OA} {n1 c1:Nat} {z1:Int} {s2:Int} {a2:OA} {n2 c2:Nat} {z2:Int} {k1 k2:Nat}
theorem subN_b (h1:Nz w s1 (.slice a1 n1 c1) z1) (h2:Nz w s2 (.slice a2 n2 c2) z2) (b1:Bd k1 z1) (b2:Bd k2 z2) (hk1:k1<=500000) (hk2:k2<=500000):
  Calls Tryz.prog 171 #[.agg #[.int .i64 s1,.slice a1 n1 c1],.agg #[.int .i64 s2,.slice a2 n2 c2]] w (RetN w (z1 - z2)):=by
 rw [Int.sub_eq_add_neg];exact zsubN_any _ _ _ _ _ _ _ _ _ _ _ h1 h2 k1 k2 b1 b2 hk1 hk2
end
theorem fieldN (w:World) (s:Int) (a:OA) (n c:Nat):(Instr.field 48 (.agg #[.int .i64 s,.slice a n c]) 0).run Tryz.prog w= .ok (.int .i64 s) w:=by
 first | kernel_rfl | rfl | simp [Instr.field,go_sem]
theorem zcmpN_any (s1:Int) (a1:OA) (n1 c1:Nat) (z1:Int) (s2:Int) (a2:OA) (n2 c2:Nat) (z2:Int) (w:World) (h1:Nz w s1 (.slice a1 n1 c1) z1) (h2:Nz w s2 (.slice a2 n2 c2) z2) (k1 k2:Nat) (b1:Bd k1 z1) (b2:Bd k2 z2) (hk1:k1<=500000) (hk2:k2<=500000):
  Calls Tryz.prog 141 #[.agg #[.int .i64 s1,.slice a1 n1 c1],.agg #[.int .i64 s2,.slice a2 n2 c2]] w (fun e w'=>e= .returned (.int .i64 (sgnN (z1 - z2)))/\Below w.heap.size w w'):=by
 have B1:=ζ b1;have B2:=ζ b2;clear b1 b2;have hf:=fieldN;have hC:=ζ (((((St.enter w).pn h1).pn h2).al (w.heap.size) #[.int .i64 s1,.slice a1 n1 c1] 48 rfl rfl).al (w.heap.size+1) #[.int .i64 s2,.slice a2 n2 c2] 48 (by simp) rfl);clear h1 h2;go_enter Tryz.func141,Tryz.ntmps141;have AA:=hC.out.c 0 0;have AB:=hC.out.f 0 0;have AC:=hC.out.c 0 1;have AD:=hC.out.f 0 1;have AE:=hC.out.c 1 0;have AF:=hC.out.f 1 0;have AG:=hC.out.c 1 1;have AH:=hC.out.f 1 1;go_wp2_with fail
 refine(subN_b (hC.out.n 0 rfl) (hC.out.n 1 rfl) B1.out B2.out (by omega) (by omega)).mono ?_;rintro e w3 ⟨s3,a3,n3,c3,rfl,hz,hb⟩;have AI:=ζ ((hC.out.call hb).pn hz);clear hb hz;clear hC;go_wp2;go_ret;exact⟨ret_int (AI.out.n 2 rfl).s,AI.out.be⟩
theorem vl_drop {xs:List Int} {k:Nat} (h:k < xs.length):vl 10000 (xs.drop k)=xs[k] +10000*vl 10000 (xs.drop (k+1)):=by
 rw [List.drop_eq_getElem_cons h,vl]
theorem vl_drop_le {xs:List Int} (hm:∀x∈xs,0<=x/\x < 10000) (k:Nat):0<=vl 10000 (xs.drop k)/\vl 10000 (xs.drop k)<=vl 10000 xs:=by
 have h0:=vl_nonneg (b:=10000) (l:=xs.drop k) (fun x hx=>(hm x (List.mem_of_mem_drop hx)).1);have h1:=vl_nonneg (b:=10000) (l:=xs.take k) (fun x hx=>(hm x (List.mem_of_mem_take hx)).1);have h2:=vl_append 10000 (xs.take k) (xs.drop k);rw [List.take_append_drop]at h2;have h3:(1:Int)<=10000 ^ (xs.take k).length:=by
  have:(0:Int) < 10000 ^ (xs.take k).length:=Int.pow_pos (by omega);omega
 have h4:1*vl 10000 (xs.drop k)<=10000 ^ (xs.take k).length*vl 10000 (xs.drop k):=Int.mul_le_mul_of_nonneg_right h3 h0;simp only [show((10000:Nat):Int)=10000 from rfl]at h0 h1;exact⟨h0,by omega⟩
theorem value_any (s1:Int) (a1:OA) (n1 c1:Nat) (z1:Int) (w:World) (h1:Nz w s1 (.slice a1 n1 c1) z1) (hz: -9223372036854775808<=z1/\z1 < 9223372036854775808):
  Calls Tryz.prog 182 #[.agg #[.int .i64 s1,.slice a1 n1 c1]] w fun e w'=>e= .returned (.int .i64 z1)/\Below w.heap.size w w':=by
 have hn:=h1.g.len;have hC:=ζ ((St.enter w).al w.heap.size #[.int .i64 s1,.slice a1 n1 c1] 48 rfl rfl);have L1:=ζ h1.g.lt;have AA:=ζ h1.sb;have HM:=ζ h1.g;have hlen:(dg 10000 z1.natAbs).length<=5:=dg_len_le (by omega) (by omega);have VM:=ζ (show vl 10000 (dg 10000 z1.natAbs)=(z1.natAbs:Int)from vl_dg (b:=10000) (by omega) _);have MM:=ζ (show ∀x∈dg 10000 z1.natAbs,0<=x/\x < 10000 from dg_mem (b:=10000) (by omega) _);have HV:=ζ (show s1*vl 10000 (dg 10000 z1.natAbs)=z1 by rw [VM.out,h1.s];exact sgn_mul_abs);have HZ:=ζ hz;clear h1 hz;generalize dg 10000 z1.natAbs=xs at*;subst hn;go_enter Tryz.func182,Tryz.ntmps182;go_wp2;go_loopw [3,4] (fun nv iv wr=>∃ (k:Nat),iv= .int .i64 ((k:Int) - 1)/\nv= .int .i64 (s1*vl 10000 (xs.drop k))/\k<=xs.length/\
  Hid (St w wr [(w.heap.size,#[.int .i64 s1,.slice a1 xs.length c1],48)] [])) (fun _ iv _=>(intOf iv+1).toNat)
 case atStart=>exact⟨xs.length,rfl,by rw [List.drop_length];simp [vl],Nat.le_refl _,hC.out⟩
 case round=>
  clear hC;obtain ⟨k,rfl,rfl,hk,hC⟩:=hrel;cases k with
  | zero=>
    rw [List.drop_zero,HV.out];go_wp2;go_ret;exact⟨rfl,hC.out.be⟩
  | succ k=>
    have hlt:k < xs.length:=(by omega);have sx:=HM.out.below hC.out.be L1.out;obtain ⟨g1,rfl,hg1⟩:=sx.row (by omega);have cx:=ζ (sx.cell (k:=k) hlt);have hd:=vl_drop hlt;have hb:=vl_drop_le MM.out k;have hb1:=vl_drop_le MM.out (k+1);have bX:=MM.out _ (List.getElem_mem hlt);have hsb:=AA.out;have hzz:=HZ.out;have hv:=HV.out;have HD:=ζ hd;obtain ⟨X,hX⟩:∃X:Int,X=xs[k]:=⟨_,rfl⟩
    obtain ⟨V,hV⟩:∃V:Int,V=vl 10000 (xs.drop (k+1)):=⟨_,rfl⟩
    rw [<-hX]at cx bX hd;rw [<-hV]at hd hb1⊢;rw [hd]at hb;have hall: -9223372036854775808<=s1*V*10000/\s1*V*10000 < 9223372036854775808/\ -10000<=s1*X/\s1*X<=10000/\ -9223372036854775808<=s1*V*10000+s1*X/\s1*V*10000+s1*X < 9223372036854775808/\ -9223372036854775808<=s1*V/\s1*V < 9223372036854775808:=by
     rcases hsb with h | h | h<;>rw [h]at hv⊢ <;>omega
    obtain ⟨N,hN⟩:∃N:Int,N=s1*V:=⟨_,rfl⟩
    rw [<-hN]at hall⊢;obtain ⟨q1,q2,q3,q4,q5,q6,q7,q8⟩:=hall;have j1:IntKind.i64.wrap (N*10000)=N*10000:=IntWalk.i64_in _ (by omega);have j2:IntKind.i64.wrap (s1*X)=s1*X:=IntWalk.i64_in _ (by omega);have j3:IntKind.i64.wrap (N*10000+s1*X)=N*10000+s1*X:=IntWalk.i64_in _ (by omega);have HX:=ζ hX;have AB:=ζ hV;have HN:=ζ hN;have i1:(0:Int)<=(k:Int):=(by omega);have i2:(k:Int) < (xs.length:Int):=(by omega);clear hX hV hN sx hd hb hb1 hv hsb hzz bX;rw [show((k+1:Nat):Int) - 1=(k:Int)by omega];go_wp2;go_region_held3 (fun w'=>w'.cell? ⟨w.heap.size,0,none⟩=some (.int .i64 s1)/\w'.cell? ⟨w.heap.size,1,none⟩=some (.slice (some ⟨g1,0,none⟩) xs.length c1)/\w'.cell? ⟨g1,k,none⟩=some (.int .i64 X))
     (exact⟨hC.out.drew.c 0 0,hC.out.drew.c 0 1,cx.out⟩) (fail)
    go_wp2;go_roundw
    case rel=>
     refine⟨k,rfl,?_,by omega,hC.out.drew⟩;congr 1;rw [HD.out,<-AB.out,<-HX.out,HN.out];grind
    case measure=>simp [intOf]
theorem neg_tm (p:Nat):(-(p:Int)).tmod 10000= -((p % 10000:Nat):Int)/\(-(p:Int)).tdiv 10000= -((p / 10000:Nat):Int):=by
 rw [Int.neg_tmod,Int.neg_tdiv,Int.tmod_eq_emod_of_nonneg (by omega),Int.tdiv_eq_ediv_of_nonneg (by omega)];constructor<;>rfl
theorem zint_pos (P:Nat) (hP:P < 9223372036854775808) (w:World):Calls Tryz.prog 143 #[.int .i64 (P:Int)] w (RetN w (P:Int)):=by
 have hC:=ζ ((St.enter w).al w.heap.size #[.int .i64 0,.slice none 0 0] 48 rfl rfl);go_enter Tryz.func143,Tryz.ntmps143;go_wp2;go_loopg [0,4] P (fun gk nv gv wr=>∃ (p:Nat) (L:List Int) (ga:OA) (gn gc:Nat),nv= .int .i64 (p:Int)/\p=gk/\gv= .slice ga gn gc/\p<=9223372036854775808/\Hid (L++dg 10000 p=dg 10000 P)/\L.length<=1000/\p<=P/\Hid (Sl 3 wr (.slice ga gn gc) L)/\Hid (∀j,Value.ownBlock (.slice ga gn gc)=some j->w.heap.size < j)/\Hid (St w wr [(w.heap.size,#[.int .i64 0,.slice none 0 0],48)] []))
 case atStart=>exact⟨P,[],none,0,0,rfl,rfl,rfl,by omega,rfl,by simp,by omega,Sl.nil,fun j hj=>by simp [Value.ownBlock]at hj,hC.out⟩
 case round=>
  clear hC;obtain ⟨p,L,ga,gn,gc,rfl,rfl,rfl,hp,HD,hLL,hpP,HO,AB,hC⟩:=hrel;have hlen:L.length<=5:=by
   have h1:=congrArg List.length HD.out;have h2:(dg 10000 P).length<=5:=dg_len_le (by omega) (by omega);rw [List.length_append]at h1;omega
  by_cases hp0:p=0
  ·subst hp0;have AC:=ζ (show L=dg 10000 P by have:=HD.out;rw [dg_zero,List.append_nil]at this;exact this);have hVL:=vl_dg (b:=10000) (by omega) P;simp only [show((10000:Nat):Int)=10000 from rfl]at hVL;have AD:=ζ hVL;have hM:=dg_mem (b:=10000) (by omega) P;have HM:=ζ hM;clear hVL hM HD;have c00:=hC.out.c 0 0;have c01:=hC.out.c 0 1;have f00:=hC.out.f 0 0;have f01:=hC.out.f 0 1;go_wp2_with fail
   refine(rmade_b (xs:=L) HO.out (fun x hx=>by have:=HM.out x (by rw [<-AC.out];exact hx);omega) (by rw [AC.out,AD.out];omega) (by omega) (.inr (.inl rfl))).mono ?_;rintro e w3 ⟨s3,a3,n3,c3,rfl,hz,hb⟩;have AA:=ζ ((hC.out.call hb).pn hz);clear hz hb c00 c01 f00 f01 hC;have c00:=AA.out.c 0 0;have c01:=AA.out.c 0 1;have f00:=AA.out.f 0 0;have f01:=AA.out.f 0 1;go_wp2;refine ret_st (AA.out.set 0 rfl|>.set 0 rfl) (v:= .agg #[.int .i64 s3,.slice a3 n3 c3]) (fun hF=>?_) rfl (fun hF=>⟨s3,a3,n3,c3,rfl,?_,hF.be⟩)
   ·have e0:=hF.c 0 0;have e1:=hF.c 0 1;simp [results,Tryz.results143,go_sem,e0,e1]
   ·have:=hF.n 0 rfl;rw [AC.out,AD.out]at this;rwa [Int.one_mul]at this
  ·have AH:=ζ hp0;have AI:=ζ (show dg 10000 p=((p % 10000:Nat):Int)::dg 10000 (p / 10000)from dg_pos (by omega) (by omega));have hne:((p:Int) !=0)=true:=(by simp;omega);clear hp0;go_wp2_with (at_builtin;refine wpList_append_sl _ rfl _ _ 23 rfl 3 Tryz.underlying23 info_int _ _ rfl (HO.out.alloc _) _ _ rfl (Sl.one _ _ _) ?c3 ?_)
   case c3=>simp;omega
   intro a2 n2 c2 w2 ho2 hg2 hs2;have AE:=ζ (hC.out.row.grown hg2 (fun j hj=>⟨by have:=AB.out j hj;omega,fun x hx=>by rcases List.mem_singleton.1 hx with rfl;have:=AB.out j hj;show w.heap.size≠j;omega⟩));have AF:=ζ ho2;have AG:=ζ (show ∀j,Value.ownBlock (.slice a2 n2 c2)=some j->w.heap.size < j from fun j hj=>by
    rcases hs2 j hj with h | h
    ·exact AB.out j h
    ·have:=hC.out.lt 0 rfl;have h3:wr.heap.size<=j:=Nat.le_trans (by simp) h;omega)
   clear ho2 hg2 hs2;go_wp2;go_roundg (p / 10000)
   case measure=>have:=AH.out;omega
   case rel=>
    refine⟨p / 10000,L++ [((p % 10000:Nat):Int)],a2,n2,c2,by go_num,rfl,rfl,by omega,?_,by rw [List.length_append,List.length_singleton];omega,by omega,?_,AG,AE⟩
    ·have:=HD.out;rw [AI.out]at this;unfold Hid;rw [<-this];simp
    ·exact AF.out
theorem mN4_0 {P_:Prop} (h:P_:=by
 go_wp2_with (at_builtin;refine wpList_append_sl _ rfl _ _ 23 rfl 3 Tryz.underlying23 info_int _ _ rfl (HO.out.alloc _) _ _ rfl (Sl.one _ _ _) ?c3 ?_)
 case c3=>simp;omega
 intro a2 n2 c2 w2 ho2 hg2 hs2;have AE:=ζ (hC.out.row.grown hg2 (fun j hj=>⟨by have:=AB.out j hj;omega,fun x hx=>by rcases List.mem_singleton.1 hx with rfl;have:=AB.out j hj;show w.heap.size≠j;omega⟩));have AF:=ζ ho2;have AG:=ζ (show ∀j,Value.ownBlock (.slice a2 n2 c2)=some j->w.heap.size < j from fun j hj=>by
  rcases hs2 j hj with h | h
  ·exact AB.out j h
  ·have:=hC.out.lt 0 rfl;have h3:wr.heap.size<=j:=Nat.le_trans (by simp) h;omega)
 clear ho2 hg2 hs2;go_wp2;go_roundg (p / 10000)
 case measure=>have:=AH.out;omega
 case rel=>
  refine⟨p / 10000,L++ [((p % 10000:Nat):Int)],a2,n2,c2,rfl,rfl,rfl,by omega,?_,by rw [List.length_append,List.length_singleton];omega,by omega,?_,AG,AE⟩
  ·have:=HD.out;rw [AI.out]at this;unfold Hid;rw [<-this];simp
  ·exact(by have:=AF.out;rw [<-HR.out];exact this)):P_:=h
theorem zint_neg (P:Nat) (hP:0 < P/\P<=9223372036854775808) (w:World):Calls Tryz.prog 143 #[.int .i64 (-(P:Int))] w (RetN w (-(P:Int))):=by
 have hC:=ζ ((St.enter w).al w.heap.size #[.int .i64 0,.slice none 0 0] 48 rfl rfl);obtain ⟨AK,hP⟩:=hP;go_enter Tryz.func143,Tryz.ntmps143;go_wp2;go_loopg [0,4] P (fun gk nv gv wr=>∃ (p:Nat) (L:List Int) (ga:OA) (gn gc:Nat),nv= .int .i64 (-(p:Int))/\p=gk/\gv= .slice ga gn gc/\p<=9223372036854775808/\Hid (L++dg 10000 p=dg 10000 P)/\L.length<=1000/\p<=P/\Hid (Sl 3 wr (.slice ga gn gc) L)/\Hid (∀j,Value.ownBlock (.slice ga gn gc)=some j->w.heap.size < j)/\Hid (St w wr [(w.heap.size,#[.int .i64 0,.slice none 0 0],48)] []))
 case atStart=>exact⟨P,[],none,0,0,rfl,rfl,rfl,by omega,rfl,by simp,by omega,Sl.nil,fun j hj=>by simp [Value.ownBlock]at hj,hC.out⟩
 case round=>
  clear hC;obtain ⟨p,L,ga,gn,gc,rfl,rfl,rfl,hp,HD,hLL,hpP,HO,AB,hC⟩:=hrel;have hlen:L.length<=5:=by
   have h1:=congrArg List.length HD.out;have h2:(dg 10000 P).length<=5:=dg_len_le (by omega) (by omega);rw [List.length_append]at h1;omega
  by_cases hp0:p=0
  ·subst hp0;have AC:=ζ (show L=dg 10000 P by have:=HD.out;rw [dg_zero,List.append_nil]at this;exact this);have hVL:=vl_dg (b:=10000) (by omega) P;simp only [show((10000:Nat):Int)=10000 from rfl]at hVL;have AD:=ζ hVL;have hM:=dg_mem (b:=10000) (by omega) P;have HM:=ζ hM;clear hVL hM HD;have c00:=hC.out.c 0 0;have c01:=hC.out.c 0 1;have f00:=hC.out.f 0 0;have f01:=hC.out.f 0 1;go_wp2_with fail
   refine(rmade_b (xs:=L) HO.out (fun x hx=>by have:=HM.out x (by rw [<-AC.out];exact hx);omega) (by rw [AC.out,AD.out];omega) (by omega) (.inr (.inr rfl))).mono ?_;rintro e w3 ⟨s3,a3,n3,c3,rfl,hz,hb⟩;have AA:=ζ ((hC.out.call hb).pn hz);clear hz hb c00 c01 f00 f01 hC;have c00:=AA.out.c 0 0;have c01:=AA.out.c 0 1;have f00:=AA.out.f 0 0;have f01:=AA.out.f 0 1;go_wp2;refine ret_st (AA.out.set 0 rfl|>.set 0 rfl) (v:= .agg #[.int .i64 s3,.slice a3 n3 c3]) (fun hF=>?_) rfl (fun hF=>⟨s3,a3,n3,c3,rfl,?_,hF.be⟩)
   ·have e0:=hF.c 0 0;have e1:=hF.c 0 1;simp [results,Tryz.results143,go_sem,e0,e1]
   ·have:=hF.n 0 rfl;rw [AC.out,AD.out]at this;rwa [Int.neg_one_mul]at this
  ·have AH:=ζ hp0;have AI:=ζ (show dg 10000 p=((p % 10000:Nat):Int)::dg 10000 (p / 10000)from dg_pos (by omega) (by omega));have hne:(-(p:Int) !=0)=true:=(by simp;omega);have hq:=(neg_tm p).2;obtain ⟨R,hR⟩:∃R:Nat,R=p % 10000:=⟨_,rfl⟩
   have hr:=(neg_tm p).1;rw [<-hR]at hr;have HR:=ζ hR;have AL:R < 10000:=(by omega);clear hp0 hR;by_cases AJ:R=0
   ·subst AJ;have hr':(-(p:Int)).tmod 10000=0:=(by rw [hr];rfl);clear hr;exact mN4_0
   ·have AM:(-(R:Int)) < 0:=(by omega);exact mN4_0
theorem zint_any (n:Int) (hn: -9223372036854775808<=n/\n < 9223372036854775808) (w:World):Calls Tryz.prog 143 #[.int .i64 n] w (RetN w n):=by
 by_cases h:0<=n
 ·obtain ⟨P,rfl⟩:=Int.eq_ofNat_of_zero_le h;exact zint_pos P (by omega) w
 ·obtain ⟨P,hP⟩:=Int.eq_ofNat_of_zero_le (show 0<= -n by omega);obtain rfl:n= -(P:Int):=by omega
  exact zint_neg P (by omega) w
theorem qN13_0 {P_:Prop} (h:P_:=by exact⟨Yx.c 0 0,Yx.c 0 1,trivial⟩):P_:=h
def i64resN (z:Int):Int×Bool:=if -9223372036854775808<=z/\z<=9223372036854775807 then(z,true)else(0,false)
theorem sgnN_neg {z:Int} (h:z < 0):sgnN z= -1:=by unfold sgnN;rw [if_neg (by omega),if_pos h]
theorem sgnN_nonneg {z:Int} (h:0<=z):0<=sgnN z:=by unfold sgnN;split;omega;split<;>omega
theorem sgnN_pos {z:Int} (h:0 < z):sgnN z=1:=by unfold sgnN;rw [if_neg (by omega),if_neg (by omega)]
theorem sgnN_nonpos {z:Int} (h:z<=0):sgnN z<=0:=by unfold sgnN;split;omega;split<;>omega
section
variable {w:World} {s1:Int} {a1:OA} {n1 c1:Nat} {z1:Int} {s2:Int} {a2:OA} {n2 c2:Nat} {z2:Int} {k1 k2:Nat}
theorem cmpN_b (h1:Nz w s1 (.slice a1 n1 c1) z1) (h2:Nz w s2 (.slice a2 n2 c2) z2) (b1:Bd k1 z1) (b2:Bd k2 z2) (hk1:k1<=500000) (hk2:k2<=500000):
  Calls Tryz.prog 141 #[.agg #[.int .i64 s1,.slice a1 n1 c1],.agg #[.int .i64 s2,.slice a2 n2 c2]] w fun e w'=>e= .returned (.int .i64 (sgnN (z1 - z2)))/\Below w.heap.size w w':=zcmpN_any _ _ _ _ _ _ _ _ _ _ _ h1 h2 k1 k2 b1 b2 hk1 hk2
end
theorem zint64N_any (s:Int) (a:OA) (n c:Nat) (z:Int) (w:World) (h:Nz w s (.slice a n c) z) (k:Nat) (hb:Bd k z) (hk:k<=500000):
  Calls Tryz.prog 162 #[.agg #[.int .i64 s,.slice a n c]] w fun e w'=>e= .returned (.tuple #[.int .i64 (i64resN z).1,.bool (i64resN z).2])/\Below w.heap.size w w':=by
 have hC:=ζ (((St.enter w).pn h).al w.heap.size #[.int .i64 s,.slice a n c] 48 rfl rfl);have HB:=ζ hb;clear h hb;by_cases h1:z < -9223372036854775808
 ·have V1:=ζ (sgnN_neg (z:=z - -9223372036854775808) (by omega));have HR:=ζ (show i64resN z=(0,false)by unfold i64resN;rw [if_neg (by omega)]);clear h1;go_enter Tryz.func162,Tryz.ntmps162;have x0:=hC.out.c 0 0;have x1:=hC.out.c 0 1;go_wp2;go_region_with (first
   | (have _t:=AA;go_at_call 141;refine(cmpN_b (AA.out.n 0 rfl) (AA.out.n 1 rfl) HB.out (Bd.i64 (k:= -9223372036854775808) (by omega)) hk (by omega)).mono ?_;rintro e wb ⟨rfl,hb⟩;have AC:=ζ (AA.out.call hb);clear hb;rw [V1.out];clear _t)
   | (have _t:=hC;go_at_call 143;refine(zint_any (-9223372036854775808) (by omega) _).mono ?_;rintro e wa ⟨sa,aa,na,ca,rfl,hza,hb⟩;have AA:=ζ ((hC.out.drew.call hb).pn hza);clear hza hb;clear _t;have y0:=AA.out.c 0 0;have y1:=AA.out.c 0 1))
  all_goals
   go_wp2;go_ret2;exact⟨by rw [HR.out];rfl,AC.out.be⟩
 ·obtain ⟨v,hv⟩:∃v:Int,sgnN (z - -9223372036854775808)=v:=⟨_,rfl⟩
  have d1:decide (v < 0)=false:=by have:=sgnN_nonneg (z:=z - -9223372036854775808) (by omega);simp;omega
  have V1:=ζ hv;clear hv;by_cases h2:9223372036854775807 < z
  ·have V2:=ζ (sgnN_pos (z:=z - 9223372036854775807) (by omega));have HR:=ζ (show i64resN z=(0,false)by unfold i64resN;rw [if_neg (by omega)]);clear h1 h2;go_enter Tryz.func162,Tryz.ntmps162;go_wp2;go_region_held3 (fun w'=>w'.cell? ⟨w.heap.size,0,none⟩=some (.int .i64 s)/\w'.cell? ⟨w.heap.size,1,none⟩=some (.slice a n c)/\True)
    (first
     | (with_reducible refine aG wd ?_;have Yx:=AD.out;exact qN13_0)
     | (with_reducible refine aG wc ?_;have Yx:=AB.out;exact qN13_0)
     | (with_reducible refine aG wb ?_;have Yx:=AC.out;exact qN13_0)
     | (with_reducible refine aG wa ?_;have Yx:=AA.out;exact qN13_0)
     | (with_reducible refine aG _ ?_;have Yx:=hC.out.drew;exact qN13_0)|fail)
    (first
     | (have _t:=AB;go_at_call 141;refine(cmpN_b (AB.out.n 0 rfl) (AB.out.n 2 rfl) HB.out (Bd.i64 (k:=9223372036854775807) (by omega)) hk (by omega)).mono ?_;rintro e wd ⟨rfl,hb⟩;have AD:=ζ (AB.out.call hb);clear hb;rw [V2.out];clear _t AB)
     | (have _t:=AC;go_at_call 143;refine(zint_any 9223372036854775807 (by omega) _).mono ?_;rintro e wc ⟨sc,ac,nc,cc,rfl,hzc,hb⟩;have AB:=ζ ((AC.out.call hb).pn hzc);clear hzc hb;clear _t AC)
     | (have _t:=AA;go_at_call 141;refine(cmpN_b (AA.out.n 0 rfl) (AA.out.n 1 rfl) HB.out (Bd.i64 (k:= -9223372036854775808) (by omega)) hk (by omega)).mono ?_;rintro e wb ⟨rfl,hb⟩;have AC:=ζ (AA.out.call hb);clear hb;rw [V1.out];clear _t AA)
     | (have _t:=hC;go_at_call 143;refine(zint_any (-9223372036854775808) (by omega) _).mono ?_;rintro e wa ⟨sa,aa,na,ca,rfl,hza,hb⟩;have AA:=ζ ((hC.out.drew.call hb).pn hza);clear hza hb;clear _t hC)
     | fail)
   go_wp2;go_ret2;exact⟨by rw [HR.out];rfl,AD.out.be⟩
  ·obtain ⟨v2,hv2⟩:∃v:Int,sgnN (z - 9223372036854775807)=v:=⟨_,rfl⟩
   have d2:decide (0 < v2)=false:=(by have:=sgnN_nonpos (z:=z - 9223372036854775807) (by omega);simp;omega);have V2:=ζ hv2;clear hv2;have HR:=ζ (show i64resN z=(z,true)by unfold i64resN;rw [if_pos (by omega)]);have HZ:=ζ (show -9223372036854775808<=z/\z < 9223372036854775808 by omega);clear h1 h2;go_enter Tryz.func162,Tryz.ntmps162;go_wp2;go_region_held3 (fun w'=>w'.cell? ⟨w.heap.size,0,none⟩=some (.int .i64 s)/\w'.cell? ⟨w.heap.size,1,none⟩=some (.slice a n c)/\True)
    (first
     | (with_reducible refine aG wd ?_;have Yx:=AD.out;exact qN13_0)
     | (with_reducible refine aG wc ?_;have Yx:=AB.out;exact qN13_0)
     | (with_reducible refine aG wb ?_;have Yx:=AC.out;exact qN13_0)
     | (with_reducible refine aG wa ?_;have Yx:=AA.out;exact qN13_0)
     | (with_reducible refine aG _ ?_;have Yx:=hC.out.drew;exact qN13_0)|fail)
    (first
     | (have _t:=AB;go_at_call 141;refine(cmpN_b (AB.out.n 0 rfl) (AB.out.n 2 rfl) HB.out (Bd.i64 (k:=9223372036854775807) (by omega)) hk (by omega)).mono ?_;rintro e wd ⟨rfl,hb⟩;have AD:=ζ (AB.out.call hb);clear hb;rw [V2.out];clear _t AB)
     | (have _t:=AC;go_at_call 143;refine(zint_any 9223372036854775807 (by omega) _).mono ?_;rintro e wc ⟨sc,ac,nc,cc,rfl,hzc,hb⟩;have AB:=ζ ((AC.out.call hb).pn hzc);clear hzc hb;clear _t AC)
     | (have _t:=AA;go_at_call 141;refine(cmpN_b (AA.out.n 0 rfl) (AA.out.n 1 rfl) HB.out (Bd.i64 (k:= -9223372036854775808) (by omega)) hk (by omega)).mono ?_;rintro e wb ⟨rfl,hb⟩;have AC:=ζ (AA.out.call hb);clear hb;rw [V1.out];clear _t AA)
     | (have _t:=hC;go_at_call 143;refine(zint_any (-9223372036854775808) (by omega) _).mono ?_;rintro e wa ⟨sa,aa,na,ca,rfl,hza,hb⟩;have AA:=ζ ((hC.out.drew.call hb).pn hza);clear hza hb;clear _t hC)
     | fail)
   have x0:=AD.out.c 0 0;have x1:=AD.out.c 0 1;go_wp2_with fail
   refine(value_any _ _ _ _ _ _ (AD.out.n 0 rfl) HZ.out).mono ?_;rintro e we ⟨rfl,hb⟩;have AE:=ζ (AD.out.call hb);clear hb x0 x1;go_wp2;go_ret2;exact⟨by rw [HR.out];rfl,AE.out.be⟩
structure QI (xs:List Int) (D:Nat) (L:List Int) (k R:Nat):Prop where
 len:L.length=xs.length
 val:vl 10000 (xs.drop k)=vl 10000 (L.drop k)*(D:Int)+(R:Int)
 lt:R < D
 rng:∀x∈L,0<=x/\x < 10000
theorem QI.start {xs:List Int} {D:Nat} (hD:0 < D):QI xs D (List.replicate xs.length 0) xs.length 0:=
 ⟨by simp,by simp [vl],hD,fun x hx=>by have:=List.eq_of_mem_replicate hx;omega⟩
theorem QI.step {xs L:List Int} {D k R:Nat} (h:QI xs D L (k+1) R) (hk:k < xs.length) (hx:0<=xs[k]/\xs[k] < 10000):
  QI xs D (L.set k (((xs[k].toNat+10000*R) / D:Nat):Int)) k ((xs[k].toNat+10000*R) % D):=by
 have hD:0 < D:=Nat.lt_of_le_of_lt (Nat.zero_le _) h.lt;have hL:k < L.length:=by rw [h.len];exact hk
 have hq:(xs[k].toNat+10000*R) / D < 10000:=by
  rw [Nat.div_lt_iff_lt_mul hD];have:=Nat.mul_le_mul_left 10000 (show R+1<=D from h.lt);omega
 refine⟨by rw [List.length_set,h.len],?_,Nat.mod_lt _ hD,fun x hx'=>?_⟩
 ·rw [vl_drop hk,List.drop_eq_getElem_cons (show k < (L.set k _).length by rw [List.length_set];exact hL),vl_cons,List.getElem_set_self,List.drop_set_of_lt (by omega),h.val];have e:=Nat.div_add_mod (xs[k].toNat+10000*R) D;have e2:((D*((xs[k].toNat+10000*R) / D)+(xs[k].toNat+10000*R) % D:Nat):Int)=xs[k] +10000*(R:Int):=by
   rw [e];have:=hx.1;omega
  rw [Int.natCast_add,Int.natCast_mul]at e2;grind
 ·rcases List.mem_or_eq_of_mem_set hx' with h' | h'
  ·exact h.rng x h'
  ·subst h';exact⟨Int.natCast_nonneg _,by omega⟩
theorem QI.fin {xs L:List Int} {D R:Nat} (h:QI xs D L 0 R) {N:Nat} (hN:vl 10000 xs=N):vl 10000 L=((N / D:Nat):Int)/\R=N % D:=by
 have hv:=h.val;rw [List.drop_zero,List.drop_zero,hN]at hv;have h0:=vl_nonneg (b:=10000) (l:=L) (fun x hx=>(h.rng x hx).1);simp only [show((10000:Nat):Int)=10000 from rfl]at h0;obtain ⟨V,hV⟩:=Int.eq_ofNat_of_zero_le h0;rw [hV]at hv⊢;have hn:N=V*D+R:=by
  have:((V*D+R:Nat):Int)=N:=by rw [Int.natCast_add,Int.natCast_mul];exact hv.symm
  omega
 have hD:0 < D:=Nat.lt_of_le_of_lt (Nat.zero_le _) h.lt;constructor
 ·rw [hn,Nat.mul_comm,Nat.mul_add_div hD,Nat.div_eq_of_lt h.lt,Nat.add_zero]
 ·rw [hn,Nat.mul_comm,Nat.mul_add_mod,Nat.mod_eq_of_lt h.lt]
theorem rest_vl (x:Int) (R:Nat) (hx:0<=x):vl 10000 (x::dg 10000 R)=((x.toNat+10000*R:Nat):Int):=by
 have:=vl_dg (b:=10000) (by omega) R;simp only [show((10000:Nat):Int)=10000 from rfl]at this;rw [vl_cons,this];omega
structure HalveN (D N low high:Nat):Prop where
 lo:D*low<=N
 hi:N < D*high
 lt:low < high
 le:high<=10000
theorem HalveN.start {D N R:Nat} {x:Nat} (h:R < D) (hx:x < 10000) (hN:N=x+10000*R):HalveN D N 0 10000:=
 ⟨by omega,by have:=Nat.mul_le_mul_left 10000 (show R+1<=D from h);rw [Nat.mul_comm D];omega,by omega,by omega⟩
theorem HalveN.up {D N low high m:Nat} (h:HalveN D N low high) (hm:D*m<=N) (h2:m < high):HalveN D N m high:=⟨hm,h.hi,h2,h.le⟩
theorem HalveN.dn {D N low high m:Nat} (h:HalveN D N low high) (hm:N < D*m) (h2:low < m) (h3:m < high):HalveN D N low m:=⟨h.lo,hm,h2,by have:=h.le;omega⟩
theorem HalveN.fin {D N low high:Nat} (h:HalveN D N low high) (he:high - low<=1):low=N / D/\N - D*low=N % D:=by
 have hl:=h.lt;have e:high=low+1:=by omega
 have h1:=h.lo;have h2:=h.hi;rw [e,Nat.mul_add,Nat.mul_one]at h2;have e1:N / D=low:=by
  rw [Nat.div_eq_iff (by omega)];rw [Nat.mul_comm low D];omega
 refine⟨e1.symm,?_⟩;have:=Nat.div_add_mod N D;rw [e1]at this;omega
theorem nquot {a d:Int} (hd:d≠0):
  (¬ (a < 0/\a.natAbs % d.natAbs≠0)->a / d=(if d < 0 then -(sgnN a*((a.natAbs / d.natAbs:Nat):Int))else sgnN a*((a.natAbs / d.natAbs:Nat):Int))/\a % d=((a.natAbs % d.natAbs:Nat):Int))/\
  (a < 0/\a.natAbs % d.natAbs≠0->a / d=(if d < 0 then -(sgnN a*((a.natAbs / d.natAbs:Nat):Int) - 1)else sgnN a*((a.natAbs / d.natAbs:Nat):Int) - 1)/\a % d=(d.natAbs:Int) - ((a.natAbs % d.natAbs:Nat):Int)):=by
 by_cases ha:a < 0
 ·have hs:sgnN a= -1:=by unfold sgnN;rw [if_neg (by omega),if_pos ha]
  rw [hs,Int.neg_one_mul];constructor
  ·intro h;have h0:a.natAbs % d.natAbs=0:=by
    rcases Nat.eq_zero_or_pos (a.natAbs % d.natAbs)with h' | h'
    ·exact h'
    ·exact absurd ⟨ha,by omega⟩ h
   exact q_0 (by simpa using ha) hd h0
  ·intro h;exact q_1 (by simpa using ha) hd h.2
 ·constructor
  ·intro _;obtain ⟨x,y,z⟩:=q_pos (z:=a) (by simpa using ha) hd;have:=ediv_of x y z;by_cases h0:a=0
   ·subst h0;have hs:sgnN 0=0:=rfl;rw [hs]at*;simp
   ·have hs:sgnN a=1:=(by unfold sgnN;rw [if_neg h0,if_neg ha]);rw [hs,Int.one_mul];exact this
  ·intro h;exact absurd h.1 ha
theorem qN15_0 {P_:Prop} (h:P_:=by exact⟨Yx.c 6 0,Yx.c 6 1,Yx.c 4 0,Yx.c 4 1,trivial⟩):P_:=h
theorem qN15_1 {P_:Prop} (h:P_:=by exact⟨Yx.c 4 0,Yx.c 4 1,Yx.c 5 0,Yx.c 5 1,trivial⟩):P_:=h
theorem qN15_2 {P_:Prop} (h:P_:=by exact⟨Yx.c 5 0,Yx.c 5 1,trivial⟩):P_:=h
section
variable {w W:World} {bs:List (Nat×Array Value×TypeId)} {rs:List (World->Prop)}
theorem St.pl (h:St w W bs rs) {v:Value} {xs:List Int} (hz:Sl 3 W v xs):St w W bs (rs++ [fun V=>Sl 3 V v xs]):=h.push (fun _ _ k hz=>Sl.keep hz rfl k) hz
theorem St.l (h:St w W bs rs) (i:Nat) {v:Value} {xs:List Int} (hx:rs[i]? =some (fun V=>Sl 3 V v xs)):Sl 3 W v xs:=(h.rd _ (List.mem_of_getElem? hx)).2
theorem St.store (h:St w W bs rs) {g k:Nat} {v:Value} (hg:w.heap.size<=g) (hb:∀x∈bs,x.1≠g):St w (W.setCell ⟨g,k,none⟩ v) bs []:=
 (h.pick [] (rs':=[]) rfl).grown (grownBy_setCell W g k v) (fun j hj=>by simp only [Option.some.injEq]at hj;subst hj;exact⟨hg,hb⟩)
end
theorem Nz.nil {w:World} :Nz w 0 (.slice none 0 0) 0:=⟨rfl,by rw [Int.natAbs_zero,dg_zero];exact Sl.nil⟩
theorem Nz.other {w:World} {s:Int} {g:Value} {z:Int} (h:Nz w s g z) {b k:Nat} (hne:g.ownBlock≠some b) (u:Value):Nz (w.setCell ⟨b,k,none⟩ u) s g z:=⟨h.s,h.g.other hne u⟩
theorem Nz.s0 {w:World} {s:Int} {g:Value} {z:Int} (h:Nz w s g z):(s < 0↔z < 0)/\(s=0↔z=0):=by
 have:=h.s;subst this;unfold sgnN;by_cases h0:z=0
 ·rw [if_pos h0];omega
 ·rw [if_neg h0];by_cases h1:z < 0
  ·rw [if_pos h1];omega
  ·rw [if_neg h1];omega
section
variable {w:World} {s1:Int} {a1:OA} {n1 c1:Nat} {z1:Int} {s2:Int} {a2:OA} {n2 c2:Nat} {z2:Int} {k1 k2:Nat}
theorem timesN_b {m:Int} (h1:Nz w s1 (.slice a1 n1 c1) z1) (b1:Bd k1 z1) (hk1:k1<=500000) (h0:0<=m) (hm:m<=10000):
  Calls Tryz.prog 184 #[.agg #[.int .i64 s1,.slice a1 n1 c1],.int .i64 m] w (RetN w (m*z1)):=rtimes_any _ _ _ _ _ _ _ h1 (Nat.le_trans (b1.lenN hk1) (by omega)) h0 hm
theorem larger_b (h1:Nz w s1 (.slice a1 n1 c1) z1) (h2:Nz w s2 (.slice a2 n2 c2) z2) (b1:Bd k1 z1) (b2:Bd k2 z2) (hk1:k1<=500000) (hk2:k2<=500000):
  Calls Tryz.prog 168 #[.agg #[.int .i64 s1,.slice a1 n1 c1],.agg #[.int .i64 s2,.slice a2 n2 c2]] w fun e w'=>e= .returned (.int .i64 (cmpN z1.natAbs z2.natAbs))/\Below w.heap.size w w':=larger_any _ _ _ _ _ _ _ _ _ _ _ h1 h2 (Nat.le_trans (b1.lenN hk1) (by omega)) (Nat.le_trans (b2.lenN hk2) (by omega))
end
theorem zabs_same {s1:Int} {a1:OA} {n1 c1:Nat} {z1:Int} {w:World} (h1:Nz w s1 (.slice a1 n1 c1) z1):
  Calls Tryz.prog 183 #[.agg #[.int .i64 s1,.slice a1 n1 c1]] w (fun e w'=>∃s,e= .returned (.agg #[.int .i64 s,.slice a1 n1 c1])/\Nz w' s (.slice a1 n1 c1) (z1.natAbs:Int)/\Below w.heap.size w w'):=by
 have HS:=ζ (show s1*s1=sgnN (z1.natAbs:Int)by rw [h1.s];unfold sgnN;by_cases h:z1=0;subst h;rfl;by_cases h2:z1 < 0;rw [if_neg h,if_pos h2,if_neg (by omega),if_neg (by omega)];rfl;rw [if_neg h,if_neg h2,if_neg (by omega),if_neg (by omega)];rfl);have hw:IntKind.i64.wrap (s1*s1)=s1*s1:=by
  rcases h1.sb with h | h | h<;>rw [h]<;>rfl
 have hC:=ζ ((((St.enter w).pn h1).al (w.heap.size) #[.int .i64 s1,.slice a1 n1 c1] 48 rfl rfl).al (w.heap.size+1) #[.int .i64 (s1*s1),.slice a1 n1 c1] 48 (by simp) rfl);clear h1;go_enter Tryz.func183,Tryz.ntmps183;go_wp2;refine ret_st hC.out (v:= .agg #[.int .i64 (s1*s1),.slice a1 n1 c1]) (fun hF=>?_) rfl (fun hF=>⟨_,rfl,⟨HS.out,by rw [Int.natAbs_natCast];exact(hF.n 0 rfl).g⟩,hF.be⟩)
 ·have e0:=hF.c 1 0;have e1:=hF.c 1 1;simp [results,Tryz.results183,go_sem,e0,e1]
def RetQN (w:World) (q r:Int) (e:Ending) (w':World):Prop:=∃s a n c s' a' n' c',e= .returned (.tuple #[.agg #[.int .i64 s,.slice a n c],.agg #[.int .i64 s',.slice a' n' c']])/\Nz w' s (.slice a n c) q/\Nz w' s' (.slice a' n' c') r/\Below w.heap.size w w'
theorem cmpN_le {M N:Nat} :(cmpN M N<=0)↔M<=N:=by
 unfold cmpN;by_cases h0:M < N
 ·rw [if_pos h0];omega
 ·rw [if_neg h0];by_cases h1:N < M
  ·rw [if_pos h1];omega
  ·rw [if_neg h1];omega
theorem mN15_0 {P_:Prop} (h:P_:=by
 (try dsimp only);all_goals (first
   | (with_reducible refine And.intro (?_:World.cell? (World.setCell (World.setCell w6 _ _) _ _) _=_) ?_;exact((AC.out|>.t2 4 rfl)).c 0 1;(rw [HX.out];exact(((AC.out|>.t2 4 rfl)).l 0 rfl).cell hlt))
   | (with_reducible refine And.intro (?_:World.cell? w6 _=_) ?_;exact(AC.out).c 0 1;(rw [HX.out];exact((AC.out).l 0 rfl).cell hlt))
   | (with_reducible refine And.intro (?_:World.cell? w5 _=_) ?_;exact(AD.out).c 0 1;(rw [HX.out];exact((AD.out).l 0 rfl).cell hlt))
   | (with_reducible refine And.intro (?_:World.cell? (World.drew (World.alloc wr _)) _=_) ?_;exact(hC.out.row.drew).c 0 1;(rw [HX.out];exact((hC.out.row.drew).l 0 rfl).cell hlt))
   | (with_reducible refine And.intro (?_:World.cell? (World.drew wr) _=_) ?_;exact(hC.out.drew).c 0 1;(rw [HX.out];exact((hC.out.drew).l 0 rfl).cell hlt)))):P_:=h
theorem mN15_1 {P_:Prop} (h:P_:=by
 refine arc rfl (fun K hK=>?_) ?_
 ·go_simp;refine hK.out _ _ ?_ (fun AZ=>?_)
  ·exact mN15_0
  clear hK K AY;try simp only [zP]
  refine rdyL [8] ?_;refine arc rfl (fun K hK=>?_) ?_
  ·(first
     | (have _t:=AD;go_at_call 169;refine(rmade_f (sg:=1) (AD.out.l 5 rfl) (fun x hx=>by rcases List.mem_cons.1 hx with rfl | hx;(have:=Al.out;omega);(have:=dg_mem (b:=10000) (by omega) R x hx;omega)) (by rw [A3.out];omega) (by have:=A4.out;simp;omega) (.inr (.inl rfl))).mono ?_;rintro e w6 ⟨s6,a6,n6,c6,rfl,hz,hb,hf⟩;rw [A3.out,Int.one_mul]at hz;have Ad:=ζ (show ∀j,Value.ownBlock (.slice a6 n6 c6)=some j->w3.heap.size < j from fun j hj=>by have h1:=hf j hj;have h2:=AD.out.lt 5 rfl;omega);have AC:=ζ ((AD.out.call hb).pn hz);clear hb hz hf;have c60:=AC.out.c 4 0;have c61:=AC.out.c 4 1;have f60:=AC.out.f 4 0;have f61:=AC.out.f 4 1;clear _t AD)
     | (have _t:=hC;refine step_append_row (by rfl) _ _ 23 (by rfl) 3 i0 (.int .i64 0) 1 8 Tryz.underlying23 Af.out Ag.out Aj.out Ak.out rfl (by decide) _ 1 (I64 [X]) (by rfl) (Sl.one 3 wr X).drew _ (dg 10000 R).length (I64 (dg 10000 R)) (by rfl) (show Sl 3 _ _ (dg 10000 R)from(hC.out.row.drew.n 4 rfl).g) (I64_one _) (by have:=A4.out;omega) (by decide) ?_;intro pa5 pc5 w5 hown hg hs;have AD:=ζ ((hC.out.call (((Below.refl wr.heap.size wr).alloc (Nat.le_refl _) _).drew.grown hg (by simp) (fun k hk=>by simp [Value.ownBlock]at hk;omega))).pl (show Sl 3 w5 (.slice pa5 (1+(dg 10000 R).length) pc5) (X::dg 10000 R)by unfold Sl;rw [List.length_cons,Nat.add_comm (dg 10000 R).length];exact hown));clear hown hg hs _t hC)
     | fail)
   refine hK.out _ _ ?_ (fun A0=>?_)
   ·exact mN15_0
   clear hK K AZ;(try simp only [zP]);refine rdyL [9] ?_;refine arc rfl (fun K hK=>?_) ?_
   ·go_simp
    (first
      | (have _t:=AD;go_at_call 169;refine(rmade_f (sg:=1) (AD.out.l 5 rfl) (fun x hx=>by rcases List.mem_cons.1 hx with rfl | hx;(have:=Al.out;omega);(have:=dg_mem (b:=10000) (by omega) R x hx;omega)) (by rw [A3.out];omega) (by have:=A4.out;simp;omega) (.inr (.inl rfl))).mono ?_;rintro e w6 ⟨s6,a6,n6,c6,rfl,hz,hb,hf⟩;rw [A3.out,Int.one_mul]at hz;have Ad:=ζ (show ∀j,Value.ownBlock (.slice a6 n6 c6)=some j->w3.heap.size < j from fun j hj=>by have h1:=hf j hj;have h2:=AD.out.lt 5 rfl;omega);have AC:=ζ ((AD.out.call hb).pn hz);clear hb hz hf;have c60:=AC.out.c 4 0;have c61:=AC.out.c 4 1;have f60:=AC.out.f 4 0;have f61:=AC.out.f 4 1;clear _t AD)
      | (have _t:=hC;refine step_append_row (by rfl) _ _ 23 (by rfl) 3 i0 (.int .i64 0) 1 8 Tryz.underlying23 Af.out Ag.out Aj.out Ak.out rfl (by decide) _ 1 (I64 [X]) (by rfl) (Sl.one 3 wr X).drew _ (dg 10000 R).length (I64 (dg 10000 R)) (by rfl) (show Sl 3 _ _ (dg 10000 R)from(hC.out.row.drew.n 4 rfl).g) (I64_one _) (by have:=A4.out;omega) (by decide) ?_;intro pa5 pc5 w5 hown hg hs;have AD:=ζ ((hC.out.call (((Below.refl wr.heap.size wr).alloc (Nat.le_refl _) _).drew.grown hg (by simp) (fun k hk=>by simp [Value.ownBlock]at hk;omega))).pl (show Sl 3 w5 (.slice pa5 (1+(dg 10000 R).length) pc5) (X::dg 10000 R)by unfold Sl;rw [List.length_cons,Nat.add_comm (dg 10000 R).length];exact hown));clear hown hg hs _t hC)
      | fail)
    (try go_wp2_with fail);refine hK.out _ _ ?_ (fun A5=>?_)
    ·exact mN15_0
    clear hK K A0;(try simp only [zP]);refine rdyL [10] ?_;refine arc rfl (fun K hK=>?_) ?_
    ·go_simp;refine hK.out _ _ ?_ (fun BR=>?_)
     ·exact mN15_0
     clear hK K A5;(try simp only [zP]);refine wpAnyH_done (by kernel_rfl) ?_ _;refine NoPanic.normal ?_;all_goals (go_wp2_with fail;go_meet;exact⟨s6,a6,n6,c6,Ad,ζ (St.pick (AC.out|>.t2 4 rfl) [0,1,2,3,6] rfl)⟩)
    exact AllReadyH.nil
   exact AllReadyH.nil
  exact AllReadyH.nil
 exact AllReadyH.nil):P_:=h
theorem mN15_6 {P_:Prop} (h:P_:=by
 have e0:=hF.c 2 0;have e1:=hF.c 2 1;have e2:=hF.c 3 0;have e3:=hF.c 3 1;simp [results,Tryz.results163,go_sem,e0,e1,e2,e3]):P_:=h
theorem mN15_2 {P_:Prop} (h:P_:=by
 have hC:=ζ hc;clear hc;have A1:=hC.out.c 1 0;by_cases hd:z2 < 0
 ·have d1:decide (s2 < 0)=true:=by simpa using A6.out.1.2 hd
  have AW:=ζ (show z1 / z2= -_/\z1 % z2=_ by have:=HF.out;rw [if_pos hd]at this;exact this);clear hd;have q60:=hC.out.c 6 0;have q61:=hC.out.c 6 1;go_wp2_with fail
  refine(negN_b (hC.out.n 5 rfl)).mono ?_;rintro e w11 ⟨s11,a11,n11,c11,rfl,hz,hb⟩;have AA:=ζ ((hC.out.call hb).pn hz);clear hz hb hC q60 q61 A1;have q60:=AA.out.c 6 0;have q61:=AA.out.c 6 1;have f60:=AA.out.f 6 0;have f61:=AA.out.f 6 1;go_upto_region 21 with fail
  refine wp_gen (AA.out.set 6 rfl|>.set 6 rfl) ?_;intro w12 hc;clear AA q60 q61 f60 f61 d1;have hC:=ζ hc;clear hc;have AG:=hC.out.c 2 0;have AH:=hC.out.f 2 0;have AI:=hC.out.c 2 1;have AJ:=hC.out.f 2 1;have AK:=hC.out.c 3 0;have AL:=hC.out.f 3 0;have AM:=hC.out.c 3 1;have AN:=hC.out.f 3 1;go_region_held3 (fun w'=>w'.cell? ⟨w6.heap.size,0,none⟩=some (.int .i64 s11)/\w'.cell? ⟨w6.heap.size,1,none⟩=some (.slice a11 n11 c11)/\w'.cell? ⟨w3.heap.size,0,none⟩=some (.int .i64 s5)/\w'.cell? ⟨w3.heap.size,1,none⟩=some (.slice a5 n5 c5)/\True)
   (first
    | (with_reducible refine aG (World.drew (World.setCell (World.setCell (World.setCell (World.setCell w12 _ _) _ _) _ _) _ _)) ?_;refine aH (((hC.out|>.t2 2 rfl)|>.t2 3 rfl).drew) (fun Yx=>?_);exact qN15_0)
    | (with_reducible refine aG (World.drew (World.setCell (World.setCell w12 _ _) _ _)) ?_;refine aH ((hC.out|>.t2 2 rfl).drew) (fun Yx=>?_);exact qN15_0)
    | (with_reducible refine aG (World.drew w12) ?_;have Yx:=hC.out.drew;exact qN15_0)|fail)
   (first
    | (fail)
    | fail)
  go_wp2;refine ret_st ((hC.out|>.t2 2 rfl)|>.t2 3 rfl).drew (v:= .tuple #[.agg #[.int .i64 s11,.slice a11 n11 c11],.agg #[.int .i64 s5,.slice a5 n5 c5]]) (fun hF=>?_) rfl (fun hF=>⟨_,_,_,_,_,_,_,_,rfl,by rw [AW.out.1];exact hF.n 6 rfl,by rw [AW.out.2];exact hF.n 4 rfl,hF.be⟩)
  ·exact mN15_6
 ·have d1:decide (s2 < 0)=false:=by have:=fun h=>hd (A6.out.1.1 h);simpa using this
  have AW:=ζ (show z1 / z2=_/\z1 % z2=_ by have:=HF.out;rw [if_neg hd]at this;exact this);clear hd;go_upto_region 21 with fail
  clear A1 d1;have AG:=hC.out.c 2 0;have AH:=hC.out.f 2 0;have AI:=hC.out.c 2 1;have AJ:=hC.out.f 2 1;have AK:=hC.out.c 3 0;have AL:=hC.out.f 3 0;have AM:=hC.out.c 3 1;have AN:=hC.out.f 3 1;go_region_held3 (fun w'=>w'.cell? ⟨w6.heap.size,0,none⟩=some (.int .i64 s6)/\w'.cell? ⟨w6.heap.size,1,none⟩=some (.slice a6 n6 c6)/\w'.cell? ⟨w3.heap.size,0,none⟩=some (.int .i64 s5)/\w'.cell? ⟨w3.heap.size,1,none⟩=some (.slice a5 n5 c5)/\True)
   (first
    | (with_reducible refine aG (World.drew (World.setCell (World.setCell (World.setCell (World.setCell wx _ _) _ _) _ _) _ _)) ?_;refine aH (((hC.out|>.t2 2 rfl)|>.t2 3 rfl).drew) (fun Yx=>?_);exact qN15_0)
    | (with_reducible refine aG (World.drew (World.setCell (World.setCell wx _ _) _ _)) ?_;refine aH ((hC.out|>.t2 2 rfl).drew) (fun Yx=>?_);exact qN15_0)
    | (with_reducible refine aG (World.drew wx) ?_;have Yx:=hC.out.drew;exact qN15_0)|fail)
   (first
    | (fail)
    | fail)
  go_wp2;refine ret_st ((hC.out|>.t2 2 rfl)|>.t2 3 rfl).drew (v:= .tuple #[.agg #[.int .i64 s6,.slice a6 n6 c6],.agg #[.int .i64 s5,.slice a5 n5 c5]]) (fun hF=>?_) rfl (fun hF=>⟨_,_,_,_,_,_,_,_,rfl,by rw [AW.out.1];exact hF.n 5 rfl,by rw [AW.out.2];exact hF.n 4 rfl,hF.be⟩)
  ·exact mN15_6):P_:=h
theorem mN15_3 {P_:Prop} (h:P_:=by
 (try dsimp only);all_goals (first
   | (with_reducible refine aG (World.setCell (World.setCell w11 _ _) _ _) ?_;refine aH (AA.out|>.t2 4 rfl) (fun Yx=>?_);exact qN15_2)
   | (with_reducible refine aG w11 ?_;have Yx:=AA.out;exact qN15_2)
   | (with_reducible refine aG w10 ?_;have Yx:=AB.out;exact qN15_2)
   | (with_reducible refine aG (World.drew w9) ?_;have Yx:=hC.out.drew;exact qN15_2)|fail)):P_:=h
theorem mN15_4 {P_:Prop} (h:P_:=by
 refine hK.out _ _ ?_ (fun AZ=>?_)
 ·exact mN15_3
 clear hK K AY;try simp only [zP]
 refine rdyL [4] ?_;refine arc rfl (fun K hK=>?_) ?_
 ·go_simp
  (first
    | (have _t:=AB;go_at_call 171;refine(subN_b (AB.out.n 4 rfl) (AB.out.n 5 rfl) Ac.out A7.out (by omega) (by omega)).mono ?_;rintro e w11 ⟨s11,a11,n11,c11,rfl,hz,hb⟩;rw [HE.out]at hz;have AA:=ζ ((AB.out.call hb).pn hz);clear hb hz q40 q41;have AO:=AA.out.c 4 0;have AP:=AA.out.f 4 0;have AQ:=AA.out.c 4 1;have AR:=AA.out.f 4 1;clear _t AB)
    | (have _t:=hC;go_at_call 184;refine(timesN_b (hC.out.drew.n 3 rfl) B2.out.abs (by omega) (by omega) (by omega)).mono ?_;rintro e w10 ⟨s10,a10,n10,c10,rfl,hz,hb⟩;have AB:=ζ ((hC.out.drew.call hb).pn hz);clear hb hz;clear q40 q41;have q40:=AB.out.c 4 0;have q41:=AB.out.c 4 1;clear _t hC)
    | fail)
  (try go_wp2_with fail);refine hK.out _ _ ?_ (fun A0=>?_)
  ·exact mN15_3
  clear hK K AZ;try simp only [zP]
  refine rdyL [5] ?_;refine arc rfl (fun K hK=>?_) ?_
  ·go_simp;refine hK.out _ _ ?_ (fun A5=>?_)
   ·exact mN15_3
   clear hK K A0;(try simp only [zP]);refine wpAnyH_done (by kernel_rfl) ?_ _;refine NoPanic.normal ?_;go_wp2;go_roundw
   case rel=>
    refine⟨k,N - z2.natAbs*lo,L.set k (lo:Int),s11,a11,n11,c11,by go_num,by omega,?_,ζ (AA.out.set 4 rfl|>.set 4 rfl|>.pick [0,1,2,3,6] rfl)⟩
    ·have:=BA.out;rw [<-HX.out,<-HN.out,<-A2.out.1,<-A2.out.2]at this;exact this
   case measure=>simp [intOf]
  exact AllReadyH.nil
 exact AllReadyH.nil):P_:=h
theorem mN15_5 {P_:Prop} (h:P_:=by
 refine hK.out _ _ ?_ (fun AZ=>?_)
 ·(try dsimp only);all_goals (trivial)
 clear hK K AY;try simp only [zP]
 refine rdyL [2] ?_;refine arc rfl (fun K hK=>?_) ?_
 ·go_simp
  (first
    | (have _t:=AE;go_at_call 171;refine(subN_b (AE.out.n 5 rfl) (AE.out.n 6 rfl) Ab.out (Bd.i64 (k:=1) (by omega)) (by omega) (by omega)).mono ?_;rintro e w8 ⟨s8,a8,n8,c8,rfl,hz,hb⟩;have AF:=ζ ((AE.out.call hb).pn hz);clear hb hz q60 q61;have AS:=AF.out.c 6 0;have AT:=AF.out.f 6 0;have AU:=AF.out.c 6 1;have AV:=AF.out.f 6 1;clear _t AE)
    | (have _t:=AC;go_at_call 143;refine(zint_any 1 (by omega) _).mono ?_;rintro e w7 ⟨s7,a7,n7,c7,rfl,hz,hb⟩;have AE:=ζ ((AC.out.drew.call hb).pn hz);clear hb hz q60 q61;have q60:=AE.out.c 6 0;have q61:=AE.out.c 6 1;clear _t AC)
    | fail)
  (try go_wp2_with fail);refine hK.out _ _ ?_ (fun A0=>?_)
  ·(try dsimp only);all_goals (trivial)
  clear hK K AZ;try simp only [zP]
  refine rdyL [3] ?_;refine arc rfl (fun K hK=>?_) ?_
  ·go_simp;refine hK.out _ _ ?_ (fun A5=>?_)
   ·(try dsimp only);all_goals (trivial)
   clear hK K A0;(try simp only [zP]);refine wpAnyH_done (by kernel_rfl) ?_ _;refine NoPanic.normal ?_;all_goals (go_wp2_with fail;go_meet;exact⟨s8,a8,n8,c8,ζ ((AF.out.set 6 rfl|>.set 6 rfl).pick [0,1,2,3,4,7] rfl)⟩)
  exact AllReadyH.nil
 exact AllReadyH.nil):P_:=h
theorem zquotN_any (s1:Int) (a1:OA) (n1 c1:Nat) (z1:Int) (s2:Int) (a2:OA) (n2 c2:Nat) (z2:Int) (w:World) (h1:Nz w s1 (.slice a1 n1 c1) z1) (h2:Nz w s2 (.slice a2 n2 c2) z2) (hz:z2≠0) (k1 k2:Nat) (b1:Bd k1 z1) (b2:Bd k2 z2) (hk1:k1<=300000) (hk2:k2<=300000):
  Calls Tryz.prog 163 #[.agg #[.int .i64 s1,.slice a1 n1 c1],.agg #[.int .i64 s2,.slice a2 n2 c2]] w (RetQN w (z1 / z2) (z1 % z2)):=by
 obtain ⟨i0,hi,hz0,hz1,hz2⟩:=info_parts info_int;have Af:=ζ hi;have Ag:=ζ hz0;have Aj:=ζ hz1;have Ak:=ζ hz2;clear hi hz0 hz1 hz2;have hn:=h1.g.len;have hxl:=b1.lenN (show k1<=500000 by omega);have L1:=ζ h1.g.lt;have L2:=ζ h2.g.lt;have HZ:=ζ hz;have B1:=ζ b1;have B2:=ζ b2;have BJ:=ζ (show 0 < z2.natAbs by omega);have An:=ζ h1.s0;have A6:=ζ h2.s0;have BK:=ζ h1.s;have BL:=ζ h1.sv;have VM:=ζ (show vl 10000 (dg 10000 z1.natAbs)=(z1.natAbs:Int)from vl_dg (b:=10000) (by omega) _);have MM:=ζ (show ∀x∈dg 10000 z1.natAbs,0<=x/\x < 10000 from dg_mem (b:=10000) (by omega) _);have As:=h1.g;clear h1 hz b1 b2;generalize dg 10000 z1.natAbs=xs at*;obtain rfl:xs.length=n1:=hn.symm;have hC:=ζ ((((((St.enter w).pl As).pn h2).al w.heap.size #[.int .i64 s1,.slice a1 xs.length c1] 48 rfl rfl).al (w.heap.size+1) #[.int .i64 s2,.slice a2 n2 c2] 48 (by simp) rfl).al (w.heap.size+2) #[.int .i64 0,.slice none 0 0] 48 (by simp) rfl|>.al (w.heap.size+3) #[.int .i64 0,.slice none 0 0] 48 (by simp) rfl);clear As h2 hn;go_enter Tryz.func163,Tryz.ntmps163;go_wp2_with (at_make;refine wpList_make_sl _ rfl _ _ _ rfl 3 Tryz.underlying23 info_int _ _ _ _ xs.length xs.length rfl rfl (by omega) (by omega) (Nat.le_refl _) (by omega) ?_;intro ho0)
 have A8:=ζ ((hC.out.row (o:= .cells (madeCells #[.int .i64 0] xs.length) 3)).pl (show Sl 3 _ (.slice (some ⟨w.heap.size+1+1+1+1,0,none⟩) xs.length xs.length) (List.replicate xs.length 0)by simpa using ho0));clear ho0 hC;have A1:=A8.out.c 1 0;have BM:=A8.out.c 1 1;go_wp2_with fail
 refine(zabs_same (A8.out.n 1 rfl)).mono ?_;rintro e w3 ⟨s3,rfl,hz3,hb⟩;have HG:=ζ (show w.heap.size+1+1+1+1 < w3.heap.size by have:=hb.size;simp at this;omega);have Ap:=ζ (((A8.out.call hb).pn hz3|>.pn Nz.nil).al w3.heap.size #[.int .i64 0,.slice none 0 0] 48 rfl rfl|>.al (w3.heap.size+1) #[.int .i64 s3,.slice a2 n2 c2] 48 (by simp) rfl);clear hz3 hb A8 A1 BM;have Aq:=Ap.out.c 0 1;go_wp2_with fail
 go_loopw [9] (fun iv wr=>∃ (k R:Nat) (L:List Int) (s5:Int) (a5:OA) (n5 c5:Nat),iv= .int .i64 ((k:Int) - 1)/\k<=xs.length/\Hid (QI xs z2.natAbs L k R)/\Hid (St w wr [(w.heap.size,#[.int .i64 s1,.slice a1 xs.length c1],48),(w.heap.size+1,#[.int .i64 s2,.slice a2 n2 c2],48),(w.heap.size+2,#[.int .i64 0,.slice none 0 0],48),(w.heap.size+3,#[.int .i64 0,.slice none 0 0],48),(w3.heap.size,#[.int .i64 s5,.slice a5 n5 c5],48),(w3.heap.size+1,#[.int .i64 s3,.slice a2 n2 c2],48)] [fun V=>Sl 3 V (.slice a1 xs.length c1) xs,fun V=>Nz V s2 (.slice a2 n2 c2) z2,fun V=>Sl 3 V (.slice (some ⟨w.heap.size+1+1+1+1,0,none⟩) xs.length xs.length) (L),fun V=>Nz V s3 (.slice a2 n2 c2) (z2.natAbs:Int),fun V=>Nz V s5 (.slice a5 n5 c5) ((R:Nat):Int)])) (fun iv _=>(intOf iv+1).toNat)
 case atStart=>exact⟨xs.length,0,_,0,none,0,0,rfl,Nat.le_refl _,QI.start BJ.out,ζ (Ap.out)⟩
 case round=>
  clear Ap Aq;obtain ⟨k,R,L,s5,a5,n5,c5,rfl,hk,HQ,hC⟩:=hrel;cases k with
  | zero=>
    have hfin:=HQ.out.fin VM.out;have Av:=HQ.out.len;have h0:0<=vl 10000 L:=(by rw [hfin.1];exact Int.natCast_nonneg _);have A9:=hC.out.c 0 0;have Ax:=ζ (show s1*vl 10000 L=sgnN z1*((z1.natAbs / z2.natAbs:Nat):Int)by rw [hfin.1,BK.out]);have BN:=ζ hfin.2;have Ab:=ζ (show Bd (k1+1) (sgnN z1*((z1.natAbs / z2.natAbs:Nat):Int))by
     have h1:=sgn_mul_abs (z:=z1);have h2:(z1.natAbs / z2.natAbs:Nat)<=z1.natAbs:=Nat.div_le_self _ _;have h3:z1.natAbs < 2 ^ k1:=B1.out;unfold Bd;rw [Int.natAbs_mul,Int.natAbs_natCast,Nat.pow_succ];have h4:(sgnN z1).natAbs<=1:=(by unfold sgnN;split;decide;split<;>decide);have:=Nat.mul_le_mul h4 h2;omega)
    have BO:=ζ (show Bd k2 (R:Int)by unfold Bd;rw [Int.natAbs_natCast];exact Nat.lt_trans HQ.out.lt B2.out);have Ar:=ζ (show vl 10000 L=0\/s1=1\/s1= -1 by
     rcases BL.out with h | h
     ·left;rw [hfin.1,h];simp
     ·exact .inr h)
    have BP:=ζ HQ.out.rng;clear hfin;go_wp2_with fail
    refine(rmade_b (hC.out.l 2 rfl) (fun x hx=>by have:=BP.out x hx;omega) h0 (by omega) Ar.out).mono ?_;rintro e w6 ⟨s6,a6,n6,c6,rfl,hz,hb⟩;rw [Ax.out]at hz;have AC:=ζ (((hC.out.call hb).pn hz).al w6.heap.size #[.int .i64 s6,.slice a6 n6 c6] 48 rfl rfl);clear hz hb hC A9 h0 Av;have hq:=nquot HZ.out (a:=z1);obtain ⟨Q,hQ⟩:∃Q:Int,Q=sgnN z1*((z1.natAbs / z2.natAbs:Nat):Int):=⟨_,rfl⟩
    rw [<-hQ]at AC Ab hq;rw [<-BN.out]at hq;have Az:=ζ hq;have A9:=AC.out.c 0 0;have q40:=AC.out.c 4 0;clear hQ hq Ax;have H5:=ζ (AC.out.n 4 rfl).s0;have HS1':=ζ An.out;by_cases hA:z1 < 0/\R≠0
    ·have d1:decide (s1 < 0)=true:=(by simpa using An.out.1.2 hA.1);have d2:(s5 !=0)=true:=by
      rw [bne_iff_ne];intro e;have:=H5.out.2.1 e;omega
     have HF:=ζ (Az.out.2 hA);clear hA;have q60:=AC.out.c 6 0;have q61:=AC.out.c 6 1;go_upto_region 17 with fail
     refine wp_gen AC.out ?_;intro W6 hc;clear AC A9 q40 q60 q61;have AC:=ζ hc;clear hc;have q60:=AC.out.c 6 0;have q61:=AC.out.c 6 1;go_cut [] (fun wx=>∃ (s8:Int) (a8:OA) (n8 c8:Nat),Hid (St w wx [(w.heap.size,#[.int .i64 s1,.slice a1 xs.length c1],48),(w.heap.size+1,#[.int .i64 s2,.slice a2 n2 c2],48),(w.heap.size+2,#[.int .i64 0,.slice none 0 0],48),(w.heap.size+3,#[.int .i64 0,.slice none 0 0],48),(w3.heap.size,#[.int .i64 s5,.slice a5 n5 c5],48),(w3.heap.size+1,#[.int .i64 s3,.slice a2 n2 c2],48),(w6.heap.size,#[.int .i64 s8,.slice a8 n8 c8],48)] [fun V=>Sl 3 V (.slice a1 xs.length c1) xs,fun V=>Nz V s2 (.slice a2 n2 c2) z2,fun V=>Sl 3 V (.slice (some ⟨w.heap.size+1+1+1+1,0,none⟩) xs.length xs.length) L,fun V=>Nz V s3 (.slice a2 n2 c2) (z2.natAbs:Int),fun V=>Nz V s5 (.slice a5 n5 c5) ((R:Nat):Int),fun V=>Nz V s8 (.slice a8 n8 c8) (Q - 1)]))
     case first=>
      refine wp_region_noPanic ?_;refine wp_region_held_drew (S:=(fun _=>True)) (by kernel_rfl) ?_ (fun AX=>?_)
      ·(try dsimp only);all_goals (trivial)
      refine rdyL [0,1] ?_;refine arc rfl (fun K hK=>?_) ?_
      ·go_simp;refine hK.out _ _ ?_ (fun AY=>?_)
       ·(try dsimp only);all_goals (trivial)
       clear hK K AX;(try simp only [zP]);refine rdyL [1] ?_;refine arc rfl (fun K hK=>?_) ?_
       ·go_simp
        (first
          | (have _t:=AE;go_at_call 171;refine(subN_b (AE.out.n 5 rfl) (AE.out.n 6 rfl) Ab.out (Bd.i64 (k:=1) (by omega)) (by omega) (by omega)).mono ?_;rintro e w8 ⟨s8,a8,n8,c8,rfl,hz,hb⟩;have AF:=ζ ((AE.out.call hb).pn hz);clear hb hz q60 q61;have AS:=AF.out.c 6 0;have AT:=AF.out.f 6 0;have AU:=AF.out.c 6 1;have AV:=AF.out.f 6 1;clear _t AE)
          | (have _t:=AC;go_at_call 143;refine(zint_any 1 (by omega) _).mono ?_;rintro e w7 ⟨s7,a7,n7,c7,rfl,hz,hb⟩;have AE:=ζ ((AC.out.drew.call hb).pn hz);clear hb hz q60 q61;have q60:=AE.out.c 6 0;have q61:=AE.out.c 6 1;clear _t AC)
          | fail)
        (try go_wp2_with fail);exact mN15_5
       exact AllReadyH.nil
      refine arc rfl (fun K hK=>?_) ?_
      ·go_simp
       (first
         | (have _t:=AE;go_at_call 171;refine(subN_b (AE.out.n 5 rfl) (AE.out.n 6 rfl) Ab.out (Bd.i64 (k:=1) (by omega)) (by omega) (by omega)).mono ?_;rintro e w8 ⟨s8,a8,n8,c8,rfl,hz,hb⟩;have AF:=ζ ((AE.out.call hb).pn hz);clear hb hz q60 q61;have AS:=AF.out.c 6 0;have AT:=AF.out.f 6 0;have AU:=AF.out.c 6 1;have AV:=AF.out.f 6 1;clear _t AE)
         | (have _t:=AC;go_at_call 143;refine(zint_any 1 (by omega) _).mono ?_;rintro e w7 ⟨s7,a7,n7,c7,rfl,hz,hb⟩;have AE:=ζ ((AC.out.drew.call hb).pn hz);clear hb hz q60 q61;have q60:=AE.out.c 6 0;have q61:=AE.out.c 6 1;clear _t AC)
         | fail)
       (try go_wp2_with fail);refine hK.out _ _ ?_ (fun AY=>?_)
       ·(try dsimp only);all_goals (trivial)
       clear hK K AX;(try simp only [zP]);refine rdyL [0] ?_;refine arc rfl (fun K hK=>?_) ?_
       ·go_simp;exact mN15_5
       exact AllReadyH.nil
      exact AllReadyH.nil
     case rest=>
      clear AC q60 q61;obtain ⟨s8,a8,n8,c8,hC⟩:=hcut;have q40:=hC.out.c 4 0;have q41:=hC.out.c 4 1;have q50:=hC.out.c 5 0;have q51:=hC.out.c 5 1;go_wp2_with fail
      refine(subN_b (hC.out.n 3 rfl) (hC.out.n 4 rfl) B2.out.abs BO.out (by omega) (by omega)).mono ?_;rintro e w10 ⟨s10,a10,n10,c10,rfl,hz,hb⟩;have AB:=ζ ((hC.out.call hb).pn hz);clear hz hb hC q40 q41 q50 q51;have q40:=AB.out.c 4 0;have q41:=AB.out.c 4 1;have f40:=AB.out.f 4 0;have f41:=AB.out.f 4 1;go_upto_region 19 with fail
      refine wp_gen (AB.out.set 4 rfl|>.set 4 rfl) ?_;intro wx hc;clear AB q40 q41 f40 f41 d1 d2;have hC:=ζ hc;clear hc;have A1:=hC.out.c 1 0;by_cases hd:z2 < 0
      ·have d1:decide (s2 < 0)=true:=(by simpa using A6.out.1.2 hd);have AW:=ζ (show z1 / z2= -_/\z1 % z2=_ by have:=HF.out;rw [if_pos hd]at this;exact this);clear hd;have q60:=hC.out.c 6 0;have q61:=hC.out.c 6 1;go_wp2_with fail
       refine(negN_b (hC.out.n 5 rfl)).mono ?_;rintro e w11 ⟨s11,a11,n11,c11,rfl,hz,hb⟩;have AA:=ζ ((hC.out.call hb).pn hz);clear hz hb hC q60 q61 A1;have q60:=AA.out.c 6 0;have q61:=AA.out.c 6 1;have f60:=AA.out.f 6 0;have f61:=AA.out.f 6 1;go_upto_region 21 with fail
       refine wp_gen (AA.out.set 6 rfl|>.set 6 rfl) ?_;intro w12 hc;clear AA q60 q61 f60 f61 d1;have hC:=ζ hc;clear hc;have AG:=hC.out.c 2 0;have AH:=hC.out.f 2 0;have AI:=hC.out.c 2 1;have AJ:=hC.out.f 2 1;have AK:=hC.out.c 3 0;have AL:=hC.out.f 3 0;have AM:=hC.out.c 3 1;have AN:=hC.out.f 3 1;go_region_held3 (fun w'=>w'.cell? ⟨w6.heap.size,0,none⟩=some (.int .i64 s11)/\w'.cell? ⟨w6.heap.size,1,none⟩=some (.slice a11 n11 c11)/\w'.cell? ⟨w3.heap.size,0,none⟩=some (.int .i64 s10)/\w'.cell? ⟨w3.heap.size,1,none⟩=some (.slice a10 n10 c10)/\True)
        (first
         | (with_reducible refine aG (World.drew (World.setCell (World.setCell (World.setCell (World.setCell w12 _ _) _ _) _ _) _ _)) ?_;refine aH (((hC.out|>.t2 2 rfl)|>.t2 3 rfl).drew) (fun Yx=>?_);exact qN15_0)
         | (with_reducible refine aG (World.drew (World.setCell (World.setCell w12 _ _) _ _)) ?_;refine aH ((hC.out|>.t2 2 rfl).drew) (fun Yx=>?_);exact qN15_0)
         | (with_reducible refine aG (World.drew w12) ?_;have Yx:=hC.out.drew;exact qN15_0)|fail)
        (first
         | (fail)
         | fail)
       go_wp2;refine ret_st ((hC.out|>.t2 2 rfl)|>.t2 3 rfl).drew (v:= .tuple #[.agg #[.int .i64 s11,.slice a11 n11 c11],.agg #[.int .i64 s10,.slice a10 n10 c10]]) (fun hF=>?_) rfl (fun hF=>⟨_,_,_,_,_,_,_,_,rfl,by rw [AW.out.1];exact hF.n 7 rfl,by rw [AW.out.2];exact hF.n 6 rfl,hF.be⟩)
       ·exact mN15_6
      ·have d1:decide (s2 < 0)=false:=(by have:=fun h=>hd (A6.out.1.1 h);simpa using this);have AW:=ζ (show z1 / z2=_/\z1 % z2=_ by have:=HF.out;rw [if_neg hd]at this;exact this);clear hd;go_upto_region 21 with fail
       clear A1 d1;have AG:=hC.out.c 2 0;have AH:=hC.out.f 2 0;have AI:=hC.out.c 2 1;have AJ:=hC.out.f 2 1;have AK:=hC.out.c 3 0;have AL:=hC.out.f 3 0;have AM:=hC.out.c 3 1;have AN:=hC.out.f 3 1;go_region_held3 (fun w'=>w'.cell? ⟨w6.heap.size,0,none⟩=some (.int .i64 s8)/\w'.cell? ⟨w6.heap.size,1,none⟩=some (.slice a8 n8 c8)/\w'.cell? ⟨w3.heap.size,0,none⟩=some (.int .i64 s10)/\w'.cell? ⟨w3.heap.size,1,none⟩=some (.slice a10 n10 c10)/\True)
        (first
         | (with_reducible refine aG (World.drew (World.setCell (World.setCell (World.setCell (World.setCell wx _ _) _ _) _ _) _ _)) ?_;refine aH (((hC.out|>.t2 2 rfl)|>.t2 3 rfl).drew) (fun Yx=>?_);exact qN15_0)
         | (with_reducible refine aG (World.drew (World.setCell (World.setCell wx _ _) _ _)) ?_;refine aH ((hC.out|>.t2 2 rfl).drew) (fun Yx=>?_);exact qN15_0)
         | (with_reducible refine aG (World.drew wx) ?_;have Yx:=hC.out.drew;exact qN15_0)|fail)
        (first
         | (fail)
         | fail)
       go_wp2;refine ret_st ((hC.out|>.t2 2 rfl)|>.t2 3 rfl).drew (v:= .tuple #[.agg #[.int .i64 s8,.slice a8 n8 c8],.agg #[.int .i64 s10,.slice a10 n10 c10]]) (fun hF=>?_) rfl (fun hF=>⟨_,_,_,_,_,_,_,_,rfl,by rw [AW.out.1];exact hF.n 5 rfl,by rw [AW.out.2];exact hF.n 6 rfl,hF.be⟩)
       ·exact mN15_6
    ·have HF:=ζ (Az.out.1 hA);by_cases hs:s1 < 0
     ·have hR:R=0:=by
       rcases Nat.eq_zero_or_pos R with h | h
       ·exact h
       ·exact absurd ⟨An.out.1.1 hs,by omega⟩ hA
      have d2:(s5 !=0)=false:=by
       have:=H5.out.2.2 (by omega);subst this;rfl
      have HR:=ζ hR;clear hA hR;go_upto_region 19 with fail
      refine wp_gen AC.out ?_;intro wx hc;clear AC A9 q40 d2 hs;exact mN15_2
     ·clear hA;have d1:decide (s1 < 0)=false:=(by simpa using hs);clear hs;go_upto_region 19 with fail
      refine wp_gen AC.out ?_;intro wx hc;clear AC A9 q40 d1;exact mN15_2
  | succ k=>
    have hlt:k < xs.length:=(by omega);obtain ⟨g1,hg1',hg1⟩:=(hC.out.l 0 rfl).row (by omega);have hcr:=(hC.out.l 0 rfl)
    subst hg1';have Aq:=hC.out.c 0 1;obtain ⟨X,hX⟩:∃X:Int,X=xs[k]:=⟨_,rfl⟩
    have HX:=ζ hX;have bX:=MM.out _ (List.getElem_mem hlt);rw [<-hX]at bX;have Al:=ζ bX;have i1:(0:Int)<=(k:Int):=(by omega);have i2:(k:Int) < (xs.length:Int):=(by omega);have BA:=ζ (HQ.out.step hlt (by rw [<-hX];exact bX));obtain ⟨N,hN⟩:∃N:Nat,N=X.toNat+10000*R:=⟨_,rfl⟩
    have HN:=ζ hN;have A3:=ζ (show vl 10000 (X::dg 10000 R)=(N:Int)by rw [hN];exact rest_vl X R bX.1);have BB:=ζ HQ.out.lt;have Ac:=ζ (show Bd (k2+14) (N:Int)by
     have h1:=HQ.out.lt;have h2:z2.natAbs < 2 ^ k2:=B2.out;unfold Bd;rw [Int.natAbs_natCast,Nat.pow_add];have:(2:Nat) ^ 14=16384:=rfl;omega)
    have A4:=ζ (show(dg 10000 R).length<=50000 from Bd.lenN (z:=(R:Int)) (k:=k2) (by unfold Bd;rw [Int.natAbs_natCast];exact Nat.lt_trans BB.out B2.out) (by omega));have BQ:=ζ (HalveN.start (D:=z2.natAbs) (N:=N) (R:=R) (x:=X.toNat) BB.out (by omega) hN);have l4:=hC.out.lt 4 rfl;have q40:=hC.out.c 4 0;have q41:=hC.out.c 4 1;clear hX hN bX hcr;rw [show((k+1:Nat):Int) - 1=(k:Int)by omega];go_upto_region 6 with fail
    go_cut [] (fun wx=>∃ (s6:Int) (a6:OA) (n6 c6:Nat),Hid (∀j,Value.ownBlock (.slice a6 n6 c6)=some j->w3.heap.size < j)/\Hid (St w wx [(w.heap.size,#[.int .i64 s1,.slice (some ⟨g1,0,none⟩) xs.length c1],48),(w.heap.size+1,#[.int .i64 s2,.slice a2 n2 c2],48),(w.heap.size+2,#[.int .i64 0,.slice none 0 0],48),(w.heap.size+3,#[.int .i64 0,.slice none 0 0],48),(w3.heap.size,#[.int .i64 s6,.slice a6 n6 c6],48),(w3.heap.size+1,#[.int .i64 s3,.slice a2 n2 c2],48)] [fun V=>Sl 3 V (.slice (some ⟨g1,0,none⟩) xs.length c1) xs,fun V=>Nz V s2 (.slice a2 n2 c2) z2,fun V=>Sl 3 V (.slice (some ⟨w.heap.size+1+1+1+1,0,none⟩) xs.length xs.length) (L),fun V=>Nz V s3 (.slice a2 n2 c2) (z2.natAbs:Int),fun V=>Nz V s6 (.slice a6 n6 c6) ((N:Nat):Int)]))
    case first=>
     refine wp_region_noPanic ?_;refine wp_region_held_drew (S:=(fun w'=>w'.cell? ⟨w.heap.size,1,none⟩=some (.slice (some ⟨g1,0,none⟩) xs.length c1)/\w'.cell? ⟨g1,k,none⟩=some (.int .i64 X))) (by kernel_rfl) ?_ (fun AX=>?_)
     ·exact mN15_0
     refine tkA 0 rfl AX ?_;(try simp only [zP]);refine tkA 1 rfl AX ?_;(try simp only [zP]);refine tkA 2 rfl AX ?_;(try simp only [zP]);refine tkA 3 rfl AX ?_;(try simp only [zP]);refine tkA 4 rfl AX ?_;(try simp only [zP]);refine tkA 6 rfl AX ?_;(try simp only [zP]);refine rdyL [5,7] ?_;refine arc rfl (fun K hK=>?_) ?_
     ·go_simp;refine hK.out _ _ ?_ (fun AY=>?_)
      ·exact mN15_0
      clear hK K AX;(try simp only [zP]);refine rdyL [7] ?_;exact mN15_1
     refine arc rfl (fun K hK=>?_) ?_
     ·go_simp;refine hK.out _ _ ?_ (fun AY=>?_)
      ·exact mN15_0
      clear hK K AX;(try simp only [zP]);refine rdyL [5] ?_;exact mN15_1
     exact AllReadyH.nil
    case rest=>
     clear hC Aq q40 q41 l4;obtain ⟨s6,a6,n6,c6,BS,hC⟩:=hcut;go_wp2;obtain ⟨wo,hwo⟩:∃wo:World,wo=wr:=⟨_,rfl⟩
     go_loopw [10,11] (fun lv hv wi=>∃ (lo hi:Nat),lv= .int .i64 (lo:Int)/\hv= .int .i64 (hi:Int)/\Hid (HalveN z2.natAbs N lo hi)/\lo < hi/\hi<=10000/\Hid (St w wi [(w.heap.size,#[.int .i64 s1,.slice (some ⟨g1,0,none⟩) xs.length c1],48),(w.heap.size+1,#[.int .i64 s2,.slice a2 n2 c2],48),(w.heap.size+2,#[.int .i64 0,.slice none 0 0],48),(w.heap.size+3,#[.int .i64 0,.slice none 0 0],48),(w3.heap.size,#[.int .i64 s6,.slice a6 n6 c6],48),(w3.heap.size+1,#[.int .i64 s3,.slice a2 n2 c2],48)] [fun V=>Sl 3 V (.slice (some ⟨g1,0,none⟩) xs.length c1) xs,fun V=>Nz V s2 (.slice a2 n2 c2) z2,fun V=>Sl 3 V (.slice (some ⟨w.heap.size+1+1+1+1,0,none⟩) xs.length xs.length) (L),fun V=>Nz V s3 (.slice a2 n2 c2) (z2.natAbs:Int),fun V=>Nz V s6 (.slice a6 n6 c6) ((N:Nat):Int)])) (fun lv hv _=>(intOf hv - intOf lv).toNat)
     case atStart=>exact⟨0,10000,rfl,rfl,BQ.out,by omega,by omega,hC⟩
     case round=>
      clear hC;obtain ⟨lo,hi,rfl,rfl,HH,hlh,hh4,hC⟩:=hrel;by_cases hgo:1 < hi - lo
      ·have hd1:1 < (hi:Int) - (lo:Int):=(by omega);have BT:=ζ (show lo < (lo+hi) / 2/\(lo+hi) / 2 < hi by omega);obtain ⟨m,hm⟩:∃m:Nat,m=(lo+hi) / 2:=⟨_,rfl⟩
       have hmI:((lo:Int)+(hi:Int)) / 2=(m:Int):=(by omega);have hm1:m<=10000:=(by omega);have hm2:=BT.out;rw [<-hm]at hm2;obtain ⟨hm3,hm4⟩:=hm2;have A7:=ζ (show Bd (k2+14) ((m:Int)*(z2.natAbs:Int))by
        have h2:z2.natAbs < 2 ^ k2:=B2.out;unfold Bd;rw [<-Int.natCast_mul,Int.natAbs_natCast,Nat.pow_add,Nat.mul_comm (2 ^ k2)];exact Nat.mul_lt_mul'' (Nat.lt_of_le_of_lt hm1 (by decide)) h2)
       have BC:=ζ (show cmpN ((m:Int)*(z2.natAbs:Int)).natAbs ((N:Nat):Int).natAbs=cmpN (z2.natAbs*m) N by rw [<-Int.natCast_mul,Int.natAbs_natCast,Int.natAbs_natCast,Nat.mul_comm]);obtain ⟨v,hv⟩:∃v:Int,cmpN (z2.natAbs*m) N=v:=⟨_,rfl⟩
       rw [hv]at BC;have HV:=ζ hv;clear hm hv;go_wp2_with fail
       go_region_held3 (fun w'=>w'.cell? ⟨w3.heap.size,0,none⟩=some (.int .i64 s6)/\w'.cell? ⟨w3.heap.size,1,none⟩=some (.slice a6 n6 c6)/\w'.cell? ⟨w3.heap.size+1,0,none⟩=some (.int .i64 s3)/\w'.cell? ⟨w3.heap.size+1,1,none⟩=some (.slice a2 n2 c2)/\True)
        (first
         | (with_reducible refine aG w8 ?_;have Yx:=AF.out;exact qN15_1)
         | (with_reducible refine aG w7 ?_;have Yx:=AE.out;exact qN15_1)
         | (with_reducible refine aG (World.drew wr) ?_;have Yx:=hC.out.drew;exact qN15_1)|fail)
        (first
         | (have _t:=AE;go_at_call 168;refine(larger_b (AE.out.n 5 rfl) (AE.out.n 4 rfl) A7.out Ac.out (by omega) (by omega)).mono ?_;rintro e w8 ⟨rfl,hb⟩;have AF:=ζ (AE.out.call hb);clear hb;rw [BC.out];clear _t AE)
         | (have _t:=hC;go_at_call 184;refine(timesN_b (hC.out.drew.n 3 rfl) B2.out.abs (by omega) (by omega) (by omega)).mono ?_;rintro e w7 ⟨s7,a7,n7,c7,rfl,hz,hb⟩;have AE:=ζ ((hC.out.drew.call hb).pn hz);clear hb hz;clear _t hC)
         | fail)
       by_cases hle:v<=0
       ·have BU:=ζ (HH.out.up (cmpN_le.1 (by rw [HV.out];exact hle)) hm4);go_wp2;go_roundw
        case rel=>exact⟨m,hi,rfl,rfl,BU,by omega,by omega,ζ (AF.out.pick [0,1,2,3,4] rfl)⟩
        case measure=>simp [intOf];omega
       ·have BV:=ζ (HH.out.dn (m:=m) (Nat.lt_of_not_le (fun h=>hle (by rw [<-HV.out];exact cmpN_le.2 h))) hm3 hm4);go_wp2;go_roundw
        case rel=>exact⟨lo,m,rfl,rfl,BV,by omega,by omega,ζ (AF.out.pick [0,1,2,3,4] rfl)⟩
        case measure=>simp [intOf];omega
      ·have hd1:¬ 1 < (hi:Int) - (lo:Int):=(by omega);have hfin:=HH.out.fin (by omega);have A2:=ζ hfin;have A7:=ζ (show Bd (k2+14) ((lo:Int)*(z2.natAbs:Int))by
        have h2:z2.natAbs < 2 ^ k2:=B2.out;unfold Bd;rw [<-Int.natCast_mul,Int.natAbs_natCast,Nat.pow_add,Nat.mul_comm (2 ^ k2)];exact Nat.mul_lt_mul'' (Nat.lt_of_lt_of_le hlh (Nat.le_trans hh4 (by decide))) h2)
       have HE:=ζ (show(N:Int) - (lo:Int)*(z2.natAbs:Int)=((N - z2.natAbs*lo:Nat):Int)by
        have:=HH.out.lo;rw [Int.ofNat_sub this,Int.natCast_mul,Int.mul_comm (z2.natAbs:Int)])
       clear hfin;have Av:=HQ.out.len;have hkL:k < L.length:=(by omega);have Am:=ζ (hC.out.l 2 rfl);have co:=Am.out.cell (k:=k) hkL;have fo:=Am.out.free k;have BD:=ζ (fun(v:Value)=>hC.out.store (g:=w.heap.size+1+1+1+1) (k:=k) (v:=v) (by omega) (fun x hx=>by
        have h3:=HG.out;simp only [List.mem_cons,List.not_mem_nil,or_false]at hx;rcases hx with rfl | rfl | rfl | rfl | rfl | rfl<;>(simp only;omega)))
       have nA:=hC.out.l 0 rfl;have HA:=ζ (fun(v:Value)=>nA.other (g:=w.heap.size+1+1+1+1) (k:=k) (fun e=>by have:=L1.out _ e;omega) v);have BE:=ζ (fun(v:Value)=>(hC.out.n 1 rfl).other (b:=w.heap.size+1+1+1+1) (k:=k) (fun e=>by have:=L2.out _ e;omega) v);have BF:=ζ (fun(v:Value)=>(hC.out.n 3 rfl).other (b:=w.heap.size+1+1+1+1) (k:=k) (fun e=>by have:=L2.out _ e;omega) v);have BG:=ζ (fun(v:Value)=>(hC.out.n 4 rfl).other (b:=w.heap.size+1+1+1+1) (k:=k) (fun e=>by have:=BS.out _ e;have:=HG.out;omega) v);have BH:=ζ (Am.out.set k (lo:Int));have BI:=ζ (((((BD.out (.int .i64 (lo:Int))).pl (HA.out _)).pn (BE.out _)).pl BH.out|>.pn (BF.out _)).pn (BG.out _));clear nA hC Am BD HA BE BF BG BH;go_upto_region 14 with fail
       refine wp_gen BI.out ?_;intro w9 hc;clear BI co fo;have hC:=ζ hc;clear hc;have q40:=hC.out.c 4 0;have q41:=hC.out.c 4 1;refine wp_region_noPanic ?_;refine wp_region_held_drew (S:=(fun w'=>w'.cell? ⟨w3.heap.size+1,0,none⟩=some (.int .i64 s3)/\w'.cell? ⟨w3.heap.size+1,1,none⟩=some (.slice a2 n2 c2)/\True)) (by kernel_rfl) ?_ (fun AX=>?_)
       ·exact mN15_3
       refine tkA 1 rfl AX ?_;(try simp only [zP]);refine tkA 2 rfl AX ?_;(try simp only [zP]);refine rdyL [0,3] ?_;refine arc rfl (fun K hK=>?_) ?_
       ·go_simp;refine hK.out _ _ ?_ (fun AY=>?_)
        ·exact mN15_3
        clear hK K AX;(try simp only [zP]);refine rdyL [3] ?_;refine arc rfl (fun K hK=>?_) ?_
        ·go_simp
         (first
           | (have _t:=AB;go_at_call 171;refine(subN_b (AB.out.n 4 rfl) (AB.out.n 5 rfl) Ac.out A7.out (by omega) (by omega)).mono ?_;rintro e w11 ⟨s11,a11,n11,c11,rfl,hz,hb⟩;rw [HE.out]at hz;have AA:=ζ ((AB.out.call hb).pn hz);clear hb hz q40 q41;have AO:=AA.out.c 4 0;have AP:=AA.out.f 4 0;have AQ:=AA.out.c 4 1;have AR:=AA.out.f 4 1;clear _t AB)
           | (have _t:=hC;go_at_call 184;refine(timesN_b (hC.out.drew.n 3 rfl) B2.out.abs (by omega) (by omega) (by omega)).mono ?_;rintro e w10 ⟨s10,a10,n10,c10,rfl,hz,hb⟩;have AB:=ζ ((hC.out.drew.call hb).pn hz);clear hb hz;clear q40 q41;have q40:=AB.out.c 4 0;have q41:=AB.out.c 4 1;clear _t hC)
           | fail)
         (try go_wp2_with fail);exact mN15_4
        exact AllReadyH.nil
       refine arc rfl (fun K hK=>?_) ?_
       ·go_simp
        (first
          | (have _t:=AB;go_at_call 171;refine(subN_b (AB.out.n 4 rfl) (AB.out.n 5 rfl) Ac.out A7.out (by omega) (by omega)).mono ?_;rintro e w11 ⟨s11,a11,n11,c11,rfl,hz,hb⟩;rw [HE.out]at hz;have AA:=ζ ((AB.out.call hb).pn hz);clear hb hz q40 q41;have AO:=AA.out.c 4 0;have AP:=AA.out.f 4 0;have AQ:=AA.out.c 4 1;have AR:=AA.out.f 4 1;clear _t AB)
          | (have _t:=hC;go_at_call 184;refine(timesN_b (hC.out.drew.n 3 rfl) B2.out.abs (by omega) (by omega) (by omega)).mono ?_;rintro e w10 ⟨s10,a10,n10,c10,rfl,hz,hb⟩;have AB:=ζ ((hC.out.drew.call hb).pn hz);clear hb hz;clear q40 q41;have q40:=AB.out.c 4 0;have q41:=AB.out.c 4 1;clear _t hC)
          | fail)
        (try go_wp2_with fail);refine hK.out _ _ ?_ (fun AY=>?_)
        ·exact mN15_3
        clear hK K AX;(try simp only [zP]);refine rdyL [0] ?_;refine arc rfl (fun K hK=>?_) ?_
        ·go_simp;exact mN15_4
        exact AllReadyH.nil
       exact AllReadyH.nil
end Go.Proofs.YthmdhlopeponcaaGreatDoor
