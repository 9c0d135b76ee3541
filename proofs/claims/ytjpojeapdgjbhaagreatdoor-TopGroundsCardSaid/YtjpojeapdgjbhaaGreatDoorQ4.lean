/- part -/
import Derived.Test.YtjpojeapdgjbhaaGreatDoorQ3
import Derived.Shelf.Abstract
set_option maxRecDepth 100000
set_option maxHeartbeats 4000000
namespace Go.Proofs.YtjpojeapdgjbhaaGreatDoor
open Go.RowKit Go.Shelf
theorem indexFunc_Point (a:OA) (n c:Nat) (l:List I2) (g:Nat) (cb:Array Value) (p:I2->Bool) (w:World) (hs:Sx 2 w a n c (L2 l)) (eg:EG g) (hf:Asks g cb w (fun x:I2=> .agg #[.int .i64 x.1,.int .i64 x.2]) l Value.bool p):
  Calls Tryz.prog 142 #[.slice a n c,.func (.func g) #[] cb] w (fun e w'=>∃r:Int,e= .returned (.int .i64 r)/\((0<=r)↔l.any p=true)/\Below w.heap.size w w'):=by
 have hn:=hs.n2;have hm:l.length<=9223372036854775807:=by have:=hs.cap;unfold maxLen at this;omega
 have HS:=ζ hs;have HF:=ζ hf;obtain rfl:l.length=n:=hn.symm;clear hs hf hn;go_enter Tryz.func142,Tryz.ntmps142;go_wp2;go_loopw [5,8] (fun _ iv wr=>∃k:Nat,k<=l.length/\iv= .int .i64 k/\Hid ((∀i (h:i < l.length),i < k->p l[i]=false)/\Below w.heap.size w wr)) (fun _ iv _=>l.length - (intOf iv).toNat)
 case atStart=>exact⟨0,Nat.zero_le _,rfl,ζ ⟨fun i _ h=>absurd h (Nat.not_lt_zero i),Below.refl _ _⟩⟩
 case round=>
  obtain ⟨k,hk,rfl,hI⟩:=hrel;by_cases hlt:k < l.length
  ·have hx:=HF.out wr hI.out.2 l[k] (List.getElem_mem hlt);obtain ⟨g0,o0,rfl⟩:=HS.out.addr (by omega);obtain ⟨x0,x1⟩:=(HS.out.below hI.out.2).at2 hlt;have AK:=ζ (show ∀i (h:i < l.length),i=k->p l[i]=p l[k]from fun i h e=>by subst e;rfl);have HM:=ζ (show l[k]∈l from List.getElem_mem hlt);generalize l[k]=x at*;obtain ⟨u0,u1⟩:=x;cases hp:p (u0,u1)
   ·rw [hp]at hx;have HP:=ζ hp;have HX:=ζ hx;clear hp hx HF HS;go_wp2_with fail
    refine HX.out.mono ?_;rintro e w1 ⟨rfl,hb⟩;have hB:=ζ (hI.out.2.trans (hb.mono hI.out.2.size));clear hb;go_wp2;go_roundw
    case rel=>exact⟨k+1,by omega,by go_num,ζ ⟨fun i h hik=>by
     rcases Nat.lt_or_ge i k with h1 | h1
     ·exact hI.out.1 i h h1
     ·exact(AK.out i h (by omega)).trans HP.out,hB.out⟩⟩
    case measure=>simp [intOf];omega
   ·rw [hp]at hx;have HP:=ζ hp;have HX:=ζ hx;clear hp hx HF HS;go_wp2_with fail
    refine HX.out.mono ?_;rintro e w1 ⟨rfl,hb⟩;have hB:=ζ (hI.out.2.trans (hb.mono hI.out.2.size));clear hb;go_wp2;go_ret;exact⟨(k:Int),rfl,⟨fun _=>List.any_eq_true.2 ⟨_,HM.out,HP.out⟩,fun _=>by omega⟩,hB.out⟩
  ·go_wp2;go_ret;refine⟨-1,rfl,⟨fun h=>absurd h (by decide),fun h=>?_⟩,hI.out.2⟩;obtain ⟨x,hx,h2⟩:=List.any_eq_true.1 h;obtain ⟨i,hi,rfl⟩:=List.getElem_of_mem hx;rw [hI.out.1 i hi (by omega)]at h2;cases h2
theorem containsFunc_Point (a:OA) (n c:Nat) (l:List I2) (g:Nat) (cb:Array Value) (p:I2->Bool) (w:World) (hs:Sx 2 w a n c (L2 l)) (eg:EG g) (hf:Asks g cb w (fun x:I2=> .agg #[.int .i64 x.1,.int .i64 x.2]) l Value.bool p):
  Calls Tryz.prog 93 #[.slice a n c,.func (.func g) #[] cb] w (Gives (.bool (l.any p)) w):=by
 have HS:=ζ hs;have HF:=ζ hf;clear hs hf;have EGH:=ζ eg;clear eg;cases hp:l.any p;all_goals
  have HP:=ζ hp;clear hp;go_enter Tryz.func93,Tryz.ntmps93;go_wp2_with fail
  refine(indexFunc_Point a n c l g cb p _ HS.out EGH.out HF.out).mono ?_;rintro e w1 ⟨r,rfl,hr,hb⟩;rw [HP.out]at hr;have hB:=ζ hb;clear hb HS HF
 ·have hr2:r < 0:=by
   rcases Int.lt_or_le r 0 with h | h
   ·exact h
   ·exact absurd (hr.1 h) (by decide)
  clear hr;go_wp2;go_ret;exact⟨ret_bool (by simp;omega),hB.out⟩
 ·have hr2:0<=r:=hr.2 rfl;clear hr;go_wp2;go_ret;exact⟨ret_bool (by simp),hB.out⟩
theorem info_hint:(Tryz.prog.info? 3).map (fun i=>(i.zero,i.size,i.bytes))=some (some (.int .i64 0),1,8):=by kernel_rfl
def farB (p:Pt):Bool:= !inB p.1 (-100000) 100000 || !inB p.2 (-100000) 100000
def upB (l:List Pt):Bool:=(List.range (l.length - 1)).all fun i=>decide (hX l i < hX l (i+1))
def profB (l:List Pt):Bool:=inB l.length 2 40 && !(l.any farB) && upB l
def profErr (l:List Pt):Int:=if profB l=true then 0 else 2
theorem upB_iff {l:List Pt} :upB l=true↔∀i,i+1 < l.length->hX l i < hX l (i+1):=by
 unfold upB;simp only [List.all_eq_true,List.mem_range,decide_eq_true_eq];exact⟨fun h i hi=>h i (by omega),fun h i hi=>h i (by omega)⟩
theorem prof_iff {l:List Pt} :profB l=true↔Prof l:=by
 unfold profB;rw [Bool.and_eq_true,Bool.and_eq_true,inB_iff,Bool.not_eq_true',List.any_eq_false,upB_iff];constructor
 ·rintro ⟨⟨h1,h2⟩,h3⟩;refine⟨by omega,by omega,fun p hp=>?_,h3⟩;have h:=h2 p hp;unfold farB at h;simp only [Bool.or_eq_true,Bool.not_eq_true',not_or,Bool.not_eq_false]at h;exact⟨inB_iff.1 h.1,inB_iff.1 h.2⟩
 ·intro h;refine⟨⟨⟨by have:=h.two;omega,by have:=h.forty;omega⟩,fun p hp=>?_⟩,h.up⟩;have hf:=h.far p hp;unfold farB;rw [inB_iff.2 hf.1,inB_iff.2 hf.2];simp
section
variable (w:World)
theorem hwithin_any (x lo hi:Int):Calls Tryz.prog 37 #[.int .i64 x,.int .i64 lo,.int .i64 hi] w fun e w'=>e= .returned (.bool (inB x lo hi))/\w'=w:=by
 unfold inB;by_cases h1:lo<=x<;>by_cases h2:x<=hi
 all_goals
  go_enter Tryz.func37,Tryz.ntmps37;go_wp2;go_ret;exact⟨by simp [h1,h2],rfl⟩
theorem check1_any (p:Pt):Calls Tryz.prog 92 #[.agg #[.int .i64 p.1,.int .i64 p.2]] w (Gives (.bool (farB p)) w):=by
 obtain ⟨x,z⟩:=p;unfold farB;dsimp only;have hC:=ζ ((Sy.enter w).al w.heap.size #[.int .i64 x,.int .i64 z] 47 rfl);cases h1:inB x (-100000) 100000
 ·go_enter Tryz.func92,Tryz.ntmps92;go_wp2_with ((with_reducible refine(hwithin_any _ _ _ _).mono ?_);rintro e w1 ⟨rfl,rfl⟩)
  go_ret;exact⟨rfl,hC.out.be⟩
 ·go_enter Tryz.func92,Tryz.ntmps92;go_wp2_with ((with_reducible refine(hwithin_any _ _ _ _).mono ?_);rintro e w1 ⟨rfl,rfl⟩)
  go_ret;exact⟨rfl,hC.out.be⟩
theorem eg_check1:EG 92:=enters_of Tryz.func92 (by kernel_rfl) rfl
theorem check2_any (p q:Pt):Calls Tryz.prog 95 #[.agg #[.int .i64 p.1,.int .i64 p.2],.agg #[.int .i64 q.1,.int .i64 q.2]] w (Gives (.bool (decide (p.1 < q.1))) w):=by
 obtain ⟨x,z⟩:=p;obtain ⟨y,t⟩:=q;dsimp only;have hC:=ζ (((Sy.enter w).al w.heap.size #[.int .i64 x,.int .i64 z] 47 rfl).al (w.heap.size+1) #[.int .i64 y,.int .i64 t] 47 (by simp));go_enter Tryz.func95,Tryz.ntmps95;go_wp2;go_ret;exact⟨rfl,hC.out.be⟩
theorem risingP_any (a:OA) (n c:Nat) (l:List Pt) (hs:Sx 2 w a n c (L2 l)) (hn:n<=1000000):
  Calls Tryz.prog 94 #[.slice a n c,.func (.func 95) #[] #[]] w (Gives (.bool (upB l)) w):=by
 obtain rfl:=hs.n2;have HS:=ζ hs;have HE:=ζ (upB_iff (l:=l));clear hs;generalize upB l=r at*;go_enter Tryz.func94,Tryz.ntmps94;go_wp2;go_loopw [5] (fun iv wr=>∃k:Nat,1<=k/\(k<=l.length\/k=1)/\iv= .int .i64 k/\Hid (∀i,i+1 < k->hX l i < hX l (i+1))/\Hid (Sy w wr [] [] [])) (fun iv _=>l.length - (intOf iv).toNat)
 case atStart=>exact⟨1,by omega,.inr rfl,rfl,ζ (fun i h=>by omega),ζ (Sy.enter w)⟩
 case round=>
  obtain ⟨k,hk1,hk,rfl,HI,hC⟩:=hrel;by_cases hlt:k < l.length
  ·obtain ⟨j,rfl⟩:∃j,k=j+1:=⟨k - 1,by omega⟩
   obtain ⟨g0,o0,rfl⟩:=HS.out.addr (by omega);have hj:j < l.length:=(by omega);have HA:=ζ (fun W (hW:Below w.heap.size w W)=>(HS.out.below hW).at2 hj);have HB:=ζ (fun W (hW:Below w.heap.size w W)=>(HS.out.below hW).at2 hlt);have HX:=ζ (show hX l j=l[j].1/\hX l (j+1)=l[j+1].1 from⟨hX_at hj,hX_at hlt⟩);have HK:=ζ (fun W=>check2_any W l[j] l[j+1]);have HJ:=ζ hlt;generalize l[j]=p at*;generalize l[j+1]=q at*;obtain ⟨p0,p1⟩:=p;obtain ⟨q0,q1⟩:=q;dsimp only at HA HB HX HK;obtain ⟨n1,hn1⟩:∃n1:Nat,n1=j+1:=⟨_,rfl⟩
   rw [<-hn1]at HB;have e0:(((j+1:Nat):Int))=(n1:Int):=(by omega);rw [e0];have i2:IntKind.i64.wrap ((n1:Int) - 1)=(j:Int):=(by rw [IntWalk.i64_in _ (by omega)];omega);have i0:(0:Int)<=(j:Int):=(by omega);have i1:(j:Int) < (l.length:Int):=(by omega);have i3:(0:Int)<=(n1:Int):=(by omega);have i4:(n1:Int) < (l.length:Int):=(by omega);have AJ:=ζ hn1;clear hn1 e0 hlt hk hk1 hj;cases hp:decide (p0 < q0)
   ·rw [hp]at HK;have HR:=ζ (show r=false by
     cases r with
     | false=>rfl
     | true=>
       have:=(HE.out.1 rfl) j HJ.out;rw [HX.out.1,HX.out.2]at this;rw [decide_eq_true this]at hp;cases hp)
    clear hp HI HE;go_upto_region 4 with fail
    refine wp_region_held_drew (S:=(fun w'=>w'.cell? ⟨g0,o0+j*2,none⟩=some (.int .i64 p0)/\w'.cell? ⟨g0,o0+j*2+1,none⟩=some (.int .i64 p1)/\w'.cell? ⟨g0,o0+n1*2,none⟩=some (.int .i64 q0)/\w'.cell? ⟨g0,o0+n1*2+1,none⟩=some (.int .i64 q1)/\True)) (by kernel_rfl) ⟨(HA.out _ hC.out.drew.be).1,(HA.out _ hC.out.drew.be).2,(HB.out _ hC.out.drew.be).1,(HB.out _ hC.out.drew.be).2,trivial⟩ (fun hH=>?_);refine wpAnyH_geny (show Sy w _ [] [] []from hC.out.drew) hH ?_;intro AL hc AA;have AC:=ζ hc;clear hc hH hC;refine tkA 0 rfl AA ?_;(try simp only [zP]);refine tkA 1 rfl AA ?_;(try simp only [zP]);refine tkA 2 rfl AA ?_;(try simp only [zP]);refine tkA 3 rfl AA ?_;(try simp only [zP]);refine tkA 4 rfl AA ?_;(try simp only [zP]);refine tkA 5 rfl AA ?_;(try simp only [zP]);refine tkA 6 rfl AA ?_;(try simp only [zP]);refine tkA 7 rfl AA ?_;(try simp only [zP]);refine tkA 8 rfl AA ?_;(try simp only [zP]);refine tkA 9 rfl AA ?_;(try simp only [zP]);refine rdy1 10 rfl (fun Kq AE=>?_);go_simp;go_at_call 95;refine(HK.out _).mono ?_;rintro e wT ⟨rfl,hb⟩;(try go_wp2_with fail);refine stepZ AE (show Sy w _ [] [] []from(AC.out.call hb)) (fun _ hX=>⟨(HA.out _ hX.be).1,(HA.out _ hX.be).2,(HB.out _ hX.be).1,(HB.out _ hX.be).2,trivial⟩) ?_;intro AM AF AG;clear AE Kq AC hb AA;(try simp only [zP]);refine tkA 11 rfl AG ?_;(try simp only [zP]);refine wpAnyH_done (by kernel_rfl) ?_ _;go_wp2;go_ret;exact⟨ret_bool HR.out.symm,AF.out.be⟩
   ·rw [hp]at HK;have AN:=ζ (show ∀i,i+1 < (j+1)+1->hX l i < hX l (i+1)from fun i hi=>by
     rcases Nat.lt_or_ge i j with h | h
     ·exact HI.out i (by omega)
     ·obtain rfl:i=j:=by omega
      rw [HX.out.1,HX.out.2];exact of_decide_eq_true hp)
    clear hp HI;go_upto_region 4 with fail
    refine wp_region_held_drew (S:=(fun w'=>w'.cell? ⟨g0,o0+j*2,none⟩=some (.int .i64 p0)/\w'.cell? ⟨g0,o0+j*2+1,none⟩=some (.int .i64 p1)/\w'.cell? ⟨g0,o0+n1*2,none⟩=some (.int .i64 q0)/\w'.cell? ⟨g0,o0+n1*2+1,none⟩=some (.int .i64 q1)/\True)) (by kernel_rfl) ⟨(HA.out _ hC.out.drew.be).1,(HA.out _ hC.out.drew.be).2,(HB.out _ hC.out.drew.be).1,(HB.out _ hC.out.drew.be).2,trivial⟩ (fun hH=>?_);refine wpAnyH_geny (show Sy w _ [] [] []from hC.out.drew) hH ?_;intro AO hc AB;have AD:=ζ hc;clear hc hH hC;refine tkA 0 rfl AB ?_;(try simp only [zP]);refine tkA 1 rfl AB ?_;(try simp only [zP]);refine tkA 2 rfl AB ?_;(try simp only [zP]);refine tkA 3 rfl AB ?_;(try simp only [zP]);refine tkA 4 rfl AB ?_;(try simp only [zP]);refine tkA 5 rfl AB ?_;(try simp only [zP]);refine tkA 6 rfl AB ?_;(try simp only [zP]);refine tkA 7 rfl AB ?_;(try simp only [zP]);refine tkA 8 rfl AB ?_;(try simp only [zP]);refine tkA 9 rfl AB ?_;(try simp only [zP]);refine rdy1 10 rfl (fun Kq AE=>?_);go_simp;go_at_call 95;refine(HK.out _).mono ?_;rintro e wT ⟨rfl,hb⟩;(try go_wp2_with fail);refine stepZ AE (show Sy w _ [] [] []from(AD.out.call hb)) (fun _ hX=>⟨(HA.out _ hX.be).1,(HA.out _ hX.be).2,(HB.out _ hX.be).1,(HB.out _ hX.be).2,trivial⟩) ?_;intro AP AH AI;clear AE Kq AD hb AB;(try simp only [zP]);refine tkA 11 rfl AI ?_;(try simp only [zP]);refine wpAnyH_done (by kernel_rfl) ?_ _;go_wp2;go_roundw
    case rel=>exact⟨(j+1)+1,by omega,.inl (by have:=HJ.out;omega),by have:=AJ.out;subst this;go_num,AN,AH⟩
    case measure=>have:=AJ.out;have:=HJ.out;simp [intOf];omega
  ·have HR:=ζ (show r=true from HE.out.2 fun i hi=>HI.out i (by omega));go_wp2;go_ret;exact⟨ret_bool HR.out.symm,hC.out.be⟩
theorem profErr_no {l:List Pt} (h:profB l=false):profErr l=2:=by unfold profErr;rw [h];rfl
theorem profErr_yes {l:List Pt} (h:profB l=true):profErr l=0:=by unfold profErr;rw [if_pos h]
theorem hcheck_any (a:OA) (n c:Nat) (l:List Pt) (hs:Sx 2 w a n c (L2 l)):Calls Tryz.prog 42 #[.slice a n c] w (Gives (.int .i64 (profErr l)) w):=by
 obtain rfl:=hs.n2;have hcap:=hs.cap;unfold maxLen at hcap;have HX:=ζ (containsFunc_Point a l.length c l 92 #[] farB w hs eg_check1 (fun W _ x _=>check1_any W x));have HR:=ζ (fun W (hW:Below w.heap.size w W) hn=>risingP_any W a l.length c l (hs.below hW) hn);clear hs;cases h1:inB l.length 2 40
 ·have HG:=ζ (show profErr l=2 from profErr_no (by unfold profB;rw [h1];rfl));go_enter Tryz.func42,Tryz.ntmps42;go_wp2_with ((with_reducible refine(hwithin_any _ _ _ _).mono ?_);rintro e w1 ⟨rfl,rfl⟩)
  go_ret;exact⟨ret_int HG.out.symm,Below.refl _ _⟩
 ·have hln:=inB_iff.1 h1;cases h2:l.any farB
  ·rw [h2]at HX;have HG:=ζ (show profErr l=if upB l=true then 0 else 2 by unfold profErr profB;rw [h1,h2];rfl);clear h2;generalize upB l=u at*;go_enter Tryz.func42,Tryz.ntmps42;go_wp2_with ((with_reducible refine(hwithin_any _ _ _ _).mono ?_);rintro e w1 ⟨rfl,rfl⟩)
   refine HX.out.mono ?_;rintro e w1 ⟨rfl,hb⟩;have hB:=ζ hb;clear hb;go_wp2_with fail
   refine(HR.out _ hB.out (by omega)).mono ?_;rintro e w2 ⟨rfl,hb⟩;have AQ:=ζ (hB.out.trans (hb.mono hB.out.size));clear hb;cases u;all_goals
    go_wp2;go_ret;exact⟨ret_int HG.out.symm,AQ.out⟩
  ·rw [h2]at HX;have HG:=ζ (show profErr l=2 from profErr_no (by unfold profB;rw [h1,h2];rfl));clear h2 HR;go_enter Tryz.func42,Tryz.ntmps42;go_wp2_with ((with_reducible refine(hwithin_any _ _ _ _).mono ?_);rintro e w1 ⟨rfl,rfl⟩)
   refine HX.out.mono ?_;rintro e w1 ⟨rfl,hb⟩;have hB:=ζ hb;clear hb;go_wp2;go_ret;exact⟨ret_int HG.out.symm,hB.out⟩
def hasB (l:List Pt) (x:Int):Bool:=inB x (hX l 0) (hX l (l.length - 1))
theorem has_any (a:OA) (n c:Nat) (l:List Pt) (x:Int) (hs:Sx 2 w a n c (L2 l)) (h0:0 < n):Calls Tryz.prog 43 #[.slice a n c,.int .i64 x] w (Gives (.bool (hasB l x)) w):=by
 obtain rfl:=hs.n2;have hcap:=hs.cap;unfold maxLen at hcap;obtain ⟨g0,o0,rfl⟩:=hs.addr h0;obtain ⟨x0,-⟩:=hs.at2 h0;rw [Nat.zero_mul,Nat.add_zero]at x0;obtain ⟨x1,-⟩:=hs.at2 (show l.length - 1 < l.length by omega);have HE:=ζ (show hasB l x=inB x l[0].1 l[l.length - 1].1 by unfold hasB;rw [hX_at h0,hX_at (show l.length - 1 < l.length by omega)]);rw [HE.out];clear HE hs;obtain ⟨j,hj⟩:∃j:Nat,j=l.length - 1:=⟨_,rfl⟩
 generalize l[0].1=y0 at*;generalize l[l.length - 1].1=y1 at*;rw [<-hj]at x1;have i2:IntKind.i64.wrap ((l.length:Int) - 1)=(j:Int):=by rw [IntWalk.i64_in _ (by omega)];omega
 have i0:(0:Int)<=(j:Int):=by omega
 have i1:(j:Int) < (l.length:Int):=by omega
 have i3:(0:Int) < (l.length:Int):=by omega
 have HI:=ζ (fun W=>hwithin_any W x y0 y1);clear hj;go_enter Tryz.func43,Tryz.ntmps43;go_wp2;go_big_quiet (exact Calls.quiet_of_same (HI.out _))
 go_wp2;go_ret;exact⟨rfl,⟨rfl,rfl,rfl,Nat.le_refl _,fun _ _=>rfl⟩⟩
end
end Go.Proofs.YtjpojeapdgjbhaaGreatDoor
