/- part -/
import Derived.Test.YthmdhlopeponcaaGreatDoorK32
set_option maxRecDepth 100000
set_option maxHeartbeats 4000000
namespace Go.Proofs.YthmdhlopeponcaaGreatDoor
open Go.RowKit Dig
structure MuI (xs ys:List Int) (L:List Int) (i k:Nat):Prop where
 len:L.length=xs.length+ys.length
 val:vl 10000 L=vl 10000 (xs.take i)*vl 10000 ys+10000 ^ i*(xs[i]?.getD 0*vl 10000 (ys.take k))
 rng:∀x∈L,0<=x/\x<=((i:Int)+1)*100000000
 low:∀j,i+k<=j->L[j]?.getD 0<=(i:Int)*100000000
theorem mulN_bd {x y:Int} (hx:0<=x/\x < 10000) (hy:0<=y/\y < 10000):0<=x*y/\x*y<=100000000:=
 ⟨Int.mul_nonneg hx.1 hy.1,Int.le_trans (Int.mul_le_mul (show x<=10000 by omega) (show y<=10000 by omega) hy.1 (by omega)) (by omega)⟩
theorem MuI.start (xs ys:List Int):MuI xs ys (List.replicate (xs.length+ys.length) 0) 0 0:=by
 refine⟨by simp,by simp [vl_replicate,vl],fun x hx=>by rw [(List.mem_replicate.1 hx).2];omega,fun j _=>by rw [List.getElem?_replicate];split<;>simp⟩
theorem MuI.step {xs ys L:List Int} {i k:Nat} (h:MuI xs ys L i k) (hx:∀x∈xs,0<=x/\x < 10000) (hy:∀y∈ys,0<=y/\y < 10000) (hi:i < xs.length) (hk:k < ys.length) (hl:i+k < L.length):
  MuI xs ys (L.set (i+k) (L[i+k] +xs[i] *ys[k])) i (k+1):=by
 have b1:=mulN_bd (hx _ (List.getElem_mem hi)) (hy _ (List.getElem_mem hk));have b2:=h.rng _ (List.getElem_mem hl);have b3:=h.low (i+k) (Nat.le_refl _);rw [List.getElem?_eq_getElem hl]at b3;simp only [Option.getD_some]at b3;refine⟨by rw [List.length_set,h.len],?_,?_,?_⟩
 ·have hv:=h.val;rw [vl_set _ _ hl,vl_take_succ _ hk];have hgi:xs[i]?.getD 0=xs[i]:=by rw [List.getElem?_eq_getElem hi];rfl
  rw [hgi]at hv⊢;have hq:(10000:Int) ^ (i+k)=10000 ^ i*10000 ^ k:=Int.pow_add ..;rw [hq];grind
 ·intro x hx';rcases List.mem_or_eq_of_mem_set hx' with h' | h'
  ·exact h.rng x h'
  ·omega
 ·intro j hj;rw [getD_set _ _ _ _ hl,if_neg (by omega)];exact h.low j (by omega)
theorem MuI.next {xs ys L:List Int} {i:Nat} (h:MuI xs ys L i ys.length) (hi:i < xs.length):MuI xs ys L (i+1) 0:=by
 refine⟨h.len,?_,fun x hx=>by have:=h.rng x hx;omega,fun j hj=>?_⟩
 ·rw [h.val,vl_take_succ _ hi,List.take_length];have hgi:xs[i]?.getD 0=xs[i]:=by rw [List.getElem?_eq_getElem hi];rfl
  rw [hgi,List.take_zero];simp only [vl];grind
 ·by_cases hl:j < L.length
  ·rw [List.getElem?_eq_getElem hl];have:=(h.rng _ (List.getElem_mem hl)).2;simp only [Option.getD_some];omega
  ·rw [List.getElem?_eq_none (by omega)];simp only [Option.getD_none];omega
theorem MuI.fin {xs ys L:List Int} (h:MuI xs ys L xs.length 0):vl 10000 L=vl 10000 xs*vl 10000 ys:=by
 rw [h.val,List.take_length,List.take_zero];simp [vl]
theorem mN7_0 {P_:Prop} (h:P_:=by
 (try dsimp only);(first
   | ((with_reducible refine And.intro (?_:World.cell? (World.drew (World.setCell wr _ _)) _=_) ?_);exact(AB.out _).drew.c 0 1;exact⟨(AB.out _).drew.c 1 1,AF.out _,AG.out _⟩)
   | exact⟨hC.out.drew.c 0 1,hC.out.drew.c 1 1,cx.out,cy.out⟩)):P_:=h
theorem zmulN_any (s1:Int) (a1:OA) (n1 c1:Nat) (z1:Int) (s2:Int) (a2:OA) (n2 c2:Nat) (z2:Int) (w:World) (h1:Nz w s1 (.slice a1 n1 c1) z1) (h2:Nz w s2 (.slice a2 n2 c2) z2)
  (hl1:(dg 10000 z1.natAbs).length<=50000) (hl2:(dg 10000 z2.natAbs).length<=50000):
  Calls Tryz.prog 139 #[.agg #[.int .i64 s1,.slice a1 n1 c1],.agg #[.int .i64 s2,.slice a2 n2 c2]] w (RetN w (z1*z2)):=by
 have hn:=h1.g.len;have hn2:=h2.g.len;have hC:=ζ (((((St.enter w).al w.heap.size #[.int .i64 s1,.slice a1 n1 c1] 48 rfl rfl).al (w.heap.size+1) #[.int .i64 s2,.slice a2 n2 c2] 48 (by simp) rfl)).al (w.heap.size+2) #[.int .i64 0,.slice none 0 0] 48 (by simp) rfl);have L1:=ζ h1.g.lt;have L2:=ζ h2.g.lt;have AK:=ζ h1.sv;have AL:=ζ h2.sv;have AD:=ζ h1.s;have AE:=ζ h2.s;have hsb1:=h1.sb;have hsb2:=h2.sb;have hws:IntKind.i64.wrap (s1*s2)=s1*s2:=by
  rcases hsb1 with h | h | h<;>rcases hsb2 with h' | h' | h'<;>rw [h,h']<;>rfl
 have HM:=ζ h1.g;have HN:=ζ h2.g;have VM:=ζ (show vl 10000 (dg 10000 z1.natAbs)=(z1.natAbs:Int)from vl_dg (b:=10000) (by omega) _);have VN:=ζ (show vl 10000 (dg 10000 z2.natAbs)=(z2.natAbs:Int)from vl_dg (b:=10000) (by omega) _);have MM:=ζ (show ∀x∈dg 10000 z1.natAbs,0<=x/\x < 10000 from dg_mem (b:=10000) (by omega) _);have MN:=ζ (show ∀x∈dg 10000 z2.natAbs,0<=x/\x < 10000 from dg_mem (b:=10000) (by omega) _);clear h1 h2 hsb1 hsb2;generalize dg 10000 z1.natAbs=xs at*;generalize dg 10000 z2.natAbs=ys at*;subst hn;subst hn2;go_enter Tryz.func139,Tryz.ntmps139;go_wp2_with (at_make;refine wpList_make_sl _ rfl _ _ _ rfl 3 Tryz.underlying23 info_int _ _ _ _ (xs.length+ys.length) (xs.length+ys.length) rfl rfl (by omega) (by omega) (Nat.le_refl _) (by omega) ?_;intro ho0)
 have AI:=ζ (hC.out.row (o:= .cells (madeCells #[.int .i64 0] (xs.length+ys.length)) 3));have AJ:=ζ ho0;clear ho0 hC;go_loopw [6] (fun iv wr=>∃ (i:Nat) (L:List Int),iv= .int .i64 i/\i<=xs.length/\Hid (MuI xs ys L i 0)/\Hid (Sl 3 wr (.slice (some ⟨w.heap.size+1+1+1,0,none⟩) (xs.length+ys.length) (xs.length+ys.length)) L)/\
  Hid (St w wr [(w.heap.size,#[.int .i64 s1,.slice a1 xs.length c1],48),(w.heap.size+1,#[.int .i64 s2,.slice a2 ys.length c2],48),(w.heap.size+2,#[.int .i64 0,.slice none 0 0],48)] [])) (fun iv _=>xs.length - (intOf iv).toNat)
 case atStart=>exact⟨0,_,rfl,Nat.zero_le _,MuI.start xs ys,ζ (by have:=AJ.out;simpa using this),AI.out⟩
 case round=>
  clear AI AJ;obtain ⟨i,L,rfl,hi,HI,HO,hC⟩:=hrel;have c01:=hC.out.c 0 1;by_cases hlt:i < xs.length
  ·go_wp2;obtain ⟨wo,hwo⟩:∃wo:World,wo=wr:=⟨_,rfl⟩
   go_loopw [7] (fun kv wi=>∃ (k:Nat) (Li:List Int),kv= .int .i64 k/\k<=ys.length/\Hid (MuI xs ys Li i k)/\Hid (Sl 3 wi (.slice (some ⟨w.heap.size+1+1+1,0,none⟩) (xs.length+ys.length) (xs.length+ys.length)) Li)/\
    Hid (St w wi [(w.heap.size,#[.int .i64 s1,.slice a1 xs.length c1],48),(w.heap.size+1,#[.int .i64 s2,.slice a2 ys.length c2],48),(w.heap.size+2,#[.int .i64 0,.slice none 0 0],48)] [])) (fun kv _=>ys.length - (intOf kv).toNat)
   case atStart=>exact⟨0,L,rfl,Nat.zero_le _,HI.out,HO.out,hC.out⟩
   case round=>
    clear hC HO HI c01;obtain ⟨k,Li,rfl,hk,HI,HO,hC⟩:=hrel;have c11:=hC.out.c 1 1;by_cases hlk:k < ys.length
    ·have sx:=HM.out.below hC.out.be L1.out;have sy:=HN.out.below hC.out.be L2.out;obtain ⟨g1,rfl,hg1⟩:=sx.row (by omega);obtain ⟨g2,rfl,hg2⟩:=sy.row (by omega);have hlL:i+k < Li.length:=(by rw [HI.out.len];omega);have cx:=ζ (sx.cell (k:=i) hlt);have cy:=ζ (sy.cell (k:=k) hlk);have co:=HO.out.cell (k:=i+k) hlL;have fo:=HO.out.free (i+k);have bX:=MM.out _ (List.getElem_mem hlt);have bY:=MN.out _ (List.getElem_mem hlk);have bO:=HI.out.rng _ (List.getElem_mem hlL);have hm:=mulN_bd bX bY;have AM:=ζ (HI.out.step MM.out MN.out hlt hlk hlL);obtain ⟨X,hX⟩:∃X:Int,X=xs[i]:=⟨_,rfl⟩
     obtain ⟨Y,hY⟩:∃Y:Int,Y=ys[k]:=⟨_,rfl⟩
     obtain ⟨O,hO⟩:∃O:Int,O=Li[i+k]:=⟨_,rfl⟩
     rw [<-hX]at cx bX;rw [<-hY]at cy bY;rw [<-hO]at co bO;rw [<-hX,<-hY]at hm;have HX:=ζ hX;have HY:=ζ hY;have AN:=ζ hO;have i1:(0:Int)<=(i:Int):=(by omega);have i2:(i:Int) < (xs.length:Int):=(by omega);have i3:(0:Int)<=(k:Int):=(by omega);have i4:(k:Int) < (ys.length:Int):=(by omega);have i5:IntKind.i64.wrap ((i:Int)+(k:Int))=(i:Int)+(k:Int):=IntWalk.i64_in _ (by omega);have i6:(0:Int)<=(i:Int)+(k:Int):=(by omega);have i7:(i:Int)+(k:Int) < (xs.length:Int)+(ys.length:Int):=(by omega);have i8:((i:Int)+(k:Int)).toNat=i+k:=(by omega);have j1:IntKind.i64.wrap (X*Y)=X*Y:=IntWalk.i64_in _ (by omega);have j2:IntKind.i64.wrap (O+X*Y)=O+X*Y:=IntWalk.i64_in _ (by omega);have HB:=ζ bO;have AB:=ζ (fun(v:Value)=>hC.out.grown (grownBy_setCell wr (w.heap.size+1+1+1) (i+k) v) (fun j hj=>by
      simp only [Option.some.injEq]at hj;subst hj;refine⟨by omega,fun x hx=>?_⟩;simp only [List.mem_cons,List.not_mem_nil,or_false]at hx;rcases hx with rfl | rfl | rfl
      ·show w.heap.size≠_;omega
      ·show w.heap.size+1≠_;omega
      ·show w.heap.size+2≠_;omega))
     have AF:=ζ (fun(v:Value)=>show(wr.setCell ⟨w.heap.size+1+1+1,i+k,none⟩ v).cell? ⟨g1,i,none⟩=some (.int .i64 X)by rw [hX];exact(HM.out.below (AB.out v).be L1.out).cell hlt);have AG:=ζ (fun(v:Value)=>show(wr.setCell ⟨w.heap.size+1+1+1,i+k,none⟩ v).cell? ⟨g2,k,none⟩=some (.int .i64 Y)by rw [hY];exact(HN.out.below (AB.out v).be L2.out).cell hlk);clear hX hY hO sx sy bX bY bO hm;go_wp2;refine wp_region_noPanic ?_;refine wp_region_held_drew (S:=(fun w'=>w'.cell? ⟨w.heap.size,1,none⟩=some (.slice (some ⟨g1,0,none⟩) xs.length c1)/\w'.cell? ⟨w.heap.size+1,1,none⟩=some (.slice (some ⟨g2,0,none⟩) ys.length c2)/\w'.cell? ⟨g1,i,none⟩=some (.int .i64 X)/\w'.cell? ⟨g2,k,none⟩=some (.int .i64 Y))) (by kernel_rfl) ?_ (fun AA=>?_)
     ·exact mN7_0
     refine tkA 0 rfl AA ?_;(try simp only [zP]);refine tkA 1 rfl AA ?_;(try simp only [zP]);refine tkA 2 rfl AA ?_;(try simp only [zP]);refine tkA 3 rfl AA ?_;(try simp only [zP]);refine tkA 4 rfl AA ?_;(try simp only [zP]);refine tkA 5 rfl AA ?_;(try simp only [zP]);refine tkA 6 rfl AA ?_;(try simp only [zP]);refine tkA 7 rfl AA ?_;(try simp only [zP]);refine tkA 8 rfl AA ?_;(try simp only [zP]);refine tkA 10 rfl AA ?_;(try simp only [zP]);refine tkA 11 rfl AA ?_;(try simp only [zP]);refine tkA 12 rfl AA ?_;(try simp only [zP]);refine tkA 13 rfl AA ?_;(try simp only [zP]);refine tkA 14 rfl AA ?_;(try simp only [zP]);refine tkA 15 rfl AA ?_;(try simp only [zP]);refine tkA 16 rfl AA ?_;(try simp only [zP]);refine tkA 17 rfl AA ?_;(try simp only [zP]);refine tkA 18 rfl AA ?_;(try simp only [zP]);refine tkA 19 rfl AA ?_;(try simp only [zP]);refine tkA 20 rfl AA ?_;(try simp only [zP]);refine rdyL [9] ?_;refine arc rfl (fun K hK=>?_) ?_
     ·go_simp;refine hK.out _ _ ?_ (fun AH=>?_)
      ·exact mN7_0
      clear hK K AA;(try simp only [zP]);refine tkA 21 rfl AH ?_;(try simp only [zP]);refine tkA 22 rfl AH ?_;(try simp only [zP]);refine rdyL [23] ?_;refine arc rfl (fun K hK=>?_) ?_
      ·go_simp;refine hK.out _ _ ?_ (fun AP=>?_)
       ·exact mN7_0
       clear hK K AH;(try simp only [zP]);refine wpAnyH_done (by kernel_rfl) ?_ _;refine NoPanic.normal ?_;go_wp2;go_roundw
       case rel=>
        refine⟨k+1,Li.set (i+k) (O+X*Y),by go_num,by omega,by rw [AN.out,HX.out,HY.out];exact AM.out,(HO.out.set (i+k) (O+X*Y)).drew,(AB.out _).drew⟩
       case measure=>simp [intOf];omega
      exact AllReadyH.nil
     exact AllReadyH.nil
    ·obtain rfl:k=ys.length:=by omega
     go_wp2;go_roundw
     case rel=>exact⟨i+1,Li,by go_num,by omega,HI.out.next hlt,HO.out,hC.out⟩
     case measure=>simp [intOf];omega
  ·obtain rfl:i=xs.length:=by omega
   have HV:=ζ (show vl 10000 L=(z1.natAbs:Int)*(z2.natAbs:Int)by rw [HI.out.fin,VM.out,VN.out]);have c00:=hC.out.c 0 0;have c10:=hC.out.c 1 0;have AO:=ζ HI.out.len;go_wp2_with fail
   refine(rmade_b (xs:=L) HO.out (fun x hx=>by have:=HI.out.rng x hx;omega) (by rw [HV.out];exact Int.mul_nonneg (by omega) (by omega)) (by rw [AO.out];omega) ?_).mono ?_
   ·rcases AK.out with h | h
    ·exact .inl (by rw [HV.out,h];simp)
    ·rcases AL.out with h' | h'
     ·exact .inl (by rw [HV.out,h'];simp)
     ·right;rcases h with h | h<;>rcases h' with h' | h'<;>rw [h,h']<;>simp
   rintro e w3 ⟨s3,a3,n3,c3,rfl,hz,hb⟩;have AC:=ζ ((hC.out.call hb).pn hz);clear hz hb c00 c10 c01 hC;have c20:=AC.out.c 2 0;have c21:=AC.out.c 2 1;have f20:=AC.out.f 2 0;have f21:=AC.out.f 2 1;go_wp2;refine ret_st (AC.out.set 2 rfl|>.set 2 rfl) (v:= .agg #[.int .i64 s3,.slice a3 n3 c3]) (fun hF=>?_) rfl (fun hF=>⟨s3,a3,n3,c3,rfl,?_,hF.be⟩)
   ·have e0:=hF.c 2 0;have e1:=hF.c 2 1;simp [results,Tryz.results139,go_sem,e0,e1]
   ·have:=hF.n 0 rfl;have e:s1*s2*vl 10000 L=z1*z2:=by
     rw [HV.out,AD.out,AE.out];have e1:=sgn_mul_abs (z:=z1);have e2:=sgn_mul_abs (z:=z2)
     calc sgnN z1*sgnN z2*((z1.natAbs:Int)*(z2.natAbs:Int))=(sgnN z1*(z1.natAbs:Int))*(sgnN z2*(z2.natAbs:Int)):=by grind
      _=z1*z2:=by rw [e1,e2]
    rw [e]at this;exact this
end Go.Proofs.YthmdhlopeponcaaGreatDoor
