/- part -/
import Derived.Test.YtjpojeapdgjbhaaGreatDoorQ29
set_option maxRecDepth 100000
set_option maxHeartbeats 16000000
namespace Go.Proofs.YtjpojeapdgjbhaaGreatDoor
open Go.RowKit
def oddR (x:Nat):Bool:= !(decide (97<=x) && decide (x<=122)) && !(decide (48<=x) && decide (x<=57))
section
variable (w:World)
def namedB (s:ByteArray):Bool:= !s.toList.isEmpty && decide (s.size<=16) && !decide (0<=Lib.idxFunc oddR true s)
end
section
open Go.RowKit Go.Shelf Dig
theorem namedB_in (s:ByteArray):namedB s=(inB s.size 1 16 && !decide (0<=Lib.idxFunc oddR true s)):=by
 have he:s.toList.isEmpty=decide (s.size=0):=by
  rw [Go.ByteArray.toList_eq];cases hl:s.data.toList with
  | nil=>rw [decide_eq_true];rfl;show s.data.size=0;rw [<-Array.length_toList,hl];rfl
  | cons a b=>rw [decide_eq_false];rfl;show ¬ s.data.size=0;rw [<-Array.length_toList,hl];simp
 unfold namedB;rw [he];congr 1;rw [Bool.eq_iff_iff,inB_iff,Bool.and_eq_true,Bool.not_eq_true',decide_eq_false_iff_not,decide_eq_true_eq];omega
def turnI (p q r:Pt):Int:=(q.1 - p.1)*(r.2 - q.2) - (q.2 - p.2)*(r.1 - q.1)
def atP (l:List Pt) (i:Int):Pt:=l.getD ((i+l.length) % l.length).toNat (0,0)
def Near (p:Pt):Prop:=(-1000000<=p.1/\p.1<=1000000)/\(-1000000<=p.2/\p.2<=1000000)
theorem mul_near {a b:Int} (ha: -4000000<=a/\a<=4000000) (hb: -4000000<=b/\b<=4000000): -16000000000000<=a*b/\a*b<=16000000000000:=by
 have h:(a*b).natAbs<=4000000*4000000:=by rw [Int.natAbs_mul];exact Nat.mul_le_mul (by omega) (by omega)
 omega
section
variable (w:World)
theorem swithin_any (x lo hi:Int):Calls Tryz.prog 154 #[.int .i64 x,.int .i64 lo,.int .i64 hi] w fun e w'=>e= .returned (.bool (inB x lo hi))/\w'=w:=by
 unfold inB;by_cases h1:lo<=x<;>by_cases h2:x<=hi
 all_goals
  go_enter Tryz.func154,Tryz.ntmps154;go_wp2;go_ret;exact⟨by simp [h1,h2],rfl⟩
theorem snamed1_any (x:Nat) (hx:x<=1114111):Calls Tryz.prog 176 #[.int .i32 x] w (Gives (.bool (oddR x)) w):=by
 unfold oddR;by_cases h1:97<=x<;>by_cases h2:x<=122<;>by_cases h3:48<=x<;>by_cases h4:x<=57
 all_goals first
  | (exfalso;omega)
  | (go_enter Tryz.func176,Tryz.ntmps176
     go_wp2;go_ret;exact⟨ret_bool (by simp [h1,h2,h3,h4]<;>omega),Below.refl _ _⟩)
theorem eg_snamed1:EG 176:=enters_of Tryz.func176 (by kernel_rfl) rfl
theorem snamed_any (s:ByteArray) (hm:s.size<=1000000):Calls Tryz.prog 155 #[.string s] w (Gives (.bool (namedB s)) w):=by
 have HX:=ζ (Tryz.strings_ContainsFunc_grows 176 #[] eg_snamed1 oddR s w (fun W x hx _=>snamed1_any W x hx));rw [namedB_in];have HW:=ζ (swithin_any w s.size 1 16);have _:=hm;generalize inB s.size 1 16=v at*;generalize decide (0<=Lib.idxFunc oddR true s)=u at*;cases v
 ·go_enter Tryz.func155,Tryz.ntmps155;go_wp2_with fail
  refine HW.out.mono ?_;rintro e w1 ⟨rfl,rfl⟩;go_wp2;go_ret;exact⟨rfl,Below.refl _ _⟩
 ·go_enter Tryz.func155,Tryz.ntmps155;go_wp2_with fail
  refine HW.out.mono ?_;rintro e w1 ⟨rfl,rfl⟩;go_wp2_with fail
  refine HX.out.mono ?_;rintro e w1 ⟨rfl,hb⟩;have hB:=ζ hb;clear hb;go_wp2;go_ret;exact⟨ret_bool (by simp),hB.out⟩
theorem ssub_any (p0 p1 q0 q1:Int) (h0: -9223372036854775808<=p0 - q0/\p0 - q0<=9223372036854775807) (h1: -9223372036854775808<=p1 - q1/\p1 - q1<=9223372036854775807):
  Calls Tryz.prog 214 #[.agg #[.int .i64 p0,.int .i64 p1],.agg #[.int .i64 q0,.int .i64 q1]] w (Gives (.agg #[.int .i64 (p0 - q0),.int .i64 (p1 - q1)]) w):=by
 have e0:IntKind.i64.wrap (p0 - q0)=p0 - q0:=IntWalk.i64_in _ h0;have e1:IntKind.i64.wrap (p1 - q1)=p1 - q1:=IntWalk.i64_in _ h1;have hC:=ζ ((((Sy.enter w).al w.heap.size #[.int .i64 p0,.int .i64 p1] 47 rfl).al (w.heap.size+1) #[.int .i64 q0,.int .i64 q1] 47 (by simp)).al (w.heap.size+1+1) #[.int .i64 (p0 - q0),.int .i64 (p1 - q1)] 47 (by simp));clear h0 h1;go_enter Tryz.func214,Tryz.ntmps214;go_wp2;refine ret_sy hC.out (v:= .agg #[.int .i64 (p0 - q0),.int .i64 (p1 - q1)]) (fun hF=>?_) rfl (fun hF=>⟨rfl,hF.be⟩);have g0:=hF.c 2 0;have g1:=hF.c 2 1;simp [results,Tryz.results214,go_sem,g0,g1]
theorem scross_any (p0 p1 q0 q1:Int) (h0: -4000000<=p0/\p0<=4000000) (h1: -4000000<=p1/\p1<=4000000) (h2: -4000000<=q0/\q0<=4000000) (h3: -4000000<=q1/\q1<=4000000):
  Calls Tryz.prog 239 #[.agg #[.int .i64 p0,.int .i64 p1],.agg #[.int .i64 q0,.int .i64 q1]] w (Gives (.int .i64 (p0*q1 - p1*q0)) w):=by
 have a0:=mul_near h0 h3;have a1:=mul_near h1 h2;have hC:=ζ (((Sy.enter w).al w.heap.size #[.int .i64 p0,.int .i64 p1] 47 rfl).al (w.heap.size+1) #[.int .i64 q0,.int .i64 q1] 47 (by simp));have e0:IntKind.i64.wrap (p0*q1)=p0*q1:=IntWalk.i64_in _ (by omega);have e1:IntKind.i64.wrap (p1*q0)=p1*q0:=IntWalk.i64_in _ (by omega);have e2:IntKind.i64.wrap (p0*q1 - p1*q0)=p0*q1 - p1*q0:=IntWalk.i64_in _ (by omega);clear h0 h1 h2 h3 a0 a1;go_enter Tryz.func239,Tryz.ntmps239;go_wp2;go_ret;exact⟨rfl,hC.out.be⟩
theorem sturn_any (p q r:Pt) (hp:Near p) (hq:Near q) (hr:Near r):
  Calls Tryz.prog 208 #[.agg #[.int .i64 p.1,.int .i64 p.2],.agg #[.int .i64 q.1,.int .i64 q.2],.agg #[.int .i64 r.1,.int .i64 r.2]] w (Gives (.int .i64 (turnI p q r)) w):=by
 obtain ⟨p0,p1⟩:=p;obtain ⟨q0,q1⟩:=q;obtain ⟨r0,r1⟩:=r;unfold Near at hp hq hr;unfold turnI;dsimp only at hp hq hr⊢;have H1:=ζ (fun W=>ssub_any W q0 q1 p0 p1 (by omega) (by omega));have H2:=ζ (fun W=>ssub_any W r0 r1 q0 q1 (by omega) (by omega));have H3:=ζ (fun W=>scross_any W (q0 - p0) (q1 - p1) (r0 - q0) (r1 - q1) (by omega) (by omega) (by omega) (by omega));have hC:=ζ ((((Sy.enter w).al w.heap.size #[.int .i64 p0,.int .i64 p1] 47 rfl).al (w.heap.size+1) #[.int .i64 q0,.int .i64 q1] 47 (by simp)).al (w.heap.size+1+1) #[.int .i64 r0,.int .i64 r1] 47 (by simp));generalize (q0 - p0)*(r1 - q1) - (q1 - p1)*(r0 - q0)=z at*;generalize q0 - p0=d0 at*;generalize q1 - p1=d1 at*;generalize r0 - q0=f0 at*;generalize r1 - q1=f1 at*;clear hp hq hr;go_enter Tryz.func208,Tryz.ntmps208;go_upto_region 1 with fail
 obtain ⟨b3,hb3⟩:∃b,w.heap.size+1+1=b:=⟨_,rfl⟩
 obtain ⟨b2,hb2⟩:∃b,w.heap.size+1=b:=⟨_,rfl⟩
 obtain ⟨b1,hb1⟩:∃b,w.heap.size=b:=⟨_,rfl⟩
 rw [hb3,hb2,hb1]at hC⊢;refine wp_geny hC.out ?_;intro V0 hc;have hD:=ζ hc;clear hc hC hb1 hb2 hb3;refine wp_region_held_drew (S:=(fun w'=>w'.cell? ⟨b1,0,none⟩=some (.int .i64 p0)/\w'.cell? ⟨b1,1,none⟩=some (.int .i64 p1)/\w'.cell? ⟨b2,0,none⟩=some (.int .i64 q0)/\w'.cell? ⟨b2,1,none⟩=some (.int .i64 q1)/\w'.cell? ⟨b3,0,none⟩=some (.int .i64 r0)/\w'.cell? ⟨b3,1,none⟩=some (.int .i64 r1)/\True)) (by kernel_rfl) ⟨hD.out.drew.c 0 0,hD.out.drew.c 0 1,hD.out.drew.c 1 0,hD.out.drew.c 1 1,hD.out.drew.c 2 0,hD.out.drew.c 2 1,trivial⟩ (fun hH=>?_);refine wpAnyH_geny (show Sy w _ [(b1,#[.int .i64 p0,.int .i64 p1],47),(b2,#[.int .i64 q0,.int .i64 q1],47),(b3,#[.int .i64 r0,.int .i64 r1],47)] [] []from hD.out.drew) hH ?_;intro AL hc AA;have AC:=ζ hc;clear hc hH hD;refine tkA 0 rfl AA ?_;try simp only [zP]
 refine tkA 1 rfl AA ?_;try simp only [zP]
 refine tkA 3 rfl AA ?_;try simp only [zP]
 refine tkA 4 rfl AA ?_;try simp only [zP]
 refine rdy1 2 rfl (fun Kq AB=>?_);go_simp;go_at_call 214;refine(H1.out _).mono ?_;rintro e wT ⟨rfl,hb⟩;(try go_wp2_with fail);refine stepZ AB (show Sy w _ [(b1,#[.int .i64 p0,.int .i64 p1],47),(b2,#[.int .i64 q0,.int .i64 q1],47),(b3,#[.int .i64 r0,.int .i64 r1],47)] [] []from(AC.out.call hb)) (fun _ hX=>⟨hX.c 0 0,hX.c 0 1,hX.c 1 0,hX.c 1 1,hX.c 2 0,hX.c 2 1,trivial⟩) ?_;intro AM AD AG;clear AB Kq AC hb AA;try simp only [zP]
 refine rdy1 5 rfl (fun Kq AB=>?_);go_simp;go_at_call 214;refine(H2.out _).mono ?_;rintro e wT ⟨rfl,hb⟩;(try go_wp2_with fail);refine stepZ AB (show Sy w _ [(b1,#[.int .i64 p0,.int .i64 p1],47),(b2,#[.int .i64 q0,.int .i64 q1],47),(b3,#[.int .i64 r0,.int .i64 r1],47)] [] []from(AD.out.call hb)) (fun _ hX=>⟨hX.c 0 0,hX.c 0 1,hX.c 1 0,hX.c 1 1,hX.c 2 0,hX.c 2 1,trivial⟩) ?_;intro AN AE AH;clear AB Kq AD hb AG;try simp only [zP]
 refine rdy1 6 rfl (fun Kq AB=>?_);go_simp;go_at_call 239;refine(H3.out _).mono ?_;rintro e wT ⟨rfl,hb⟩;(try go_wp2_with fail);refine stepZ AB (show Sy w _ [(b1,#[.int .i64 p0,.int .i64 p1],47),(b2,#[.int .i64 q0,.int .i64 q1],47),(b3,#[.int .i64 r0,.int .i64 r1],47)] [] []from(AE.out.call hb)) (fun _ hX=>⟨hX.c 0 0,hX.c 0 1,hX.c 1 0,hX.c 1 1,hX.c 2 0,hX.c 2 1,trivial⟩) ?_;intro AO AF AI;clear AB Kq AE hb AH;try simp only [zP]
 refine rdy1 7 rfl (fun Kq AB=>?_);go_simp;refine stepZ AB (show Sy w _ [(b1,#[.int .i64 p0,.int .i64 p1],47),(b2,#[.int .i64 q0,.int .i64 q1],47),(b3,#[.int .i64 r0,.int .i64 r1],47)] [] []from AF.out) (fun _ hX=>⟨hX.c 0 0,hX.c 0 1,hX.c 1 0,hX.c 1 1,hX.c 2 0,hX.c 2 1,trivial⟩) ?_;intro AP AJ AK;clear AB Kq AF AI;try simp only [zP]
 refine wpAnyH_done (by kernel_rfl) ?_ _;go_wp2;go_ret;exact⟨rfl,AJ.out.be⟩
theorem sat_any (a:OA) (n c:Nat) (l:List Pt) (i:Int) (hs:Sx 2 w a n c (L2 l)) (hn:0 < n) (hn2:n<=1000000) (h0: -n<=i) (h1:i<=1000000):
  Calls Tryz.prog 209 #[.slice a n c,.int .i64 i] w (Gives (.agg #[.int .i64 (atP l i).1,.int .i64 (atP l i).2]) w):=by
 obtain rfl:=hs.n2;obtain ⟨g0,o0,rfl⟩:=hs.addr hn;have e0:IntKind.i64.wrap (i+(l.length:Int))=i+(l.length:Int):=IntWalk.i64_in _ (by omega);obtain ⟨k,hk⟩:∃k:Nat,(i+(l.length:Int)) % (l.length:Int)=(k:Int):=⟨((i+(l.length:Int)) % (l.length:Int)).toNat,by rw [Int.toNat_of_nonneg (Int.emod_nonneg _ (by omega))]⟩
 have hkl:k < l.length:=by have:=Int.emod_lt_of_pos (i+(l.length:Int)) (show(0:Int) < l.length by omega);omega
 have e1:Int.tmod (i+(l.length:Int)) (l.length:Int)=(k:Int):=by rw [Int.tmod_eq_emod_of_nonneg (by omega)];exact hk
 have hat:atP l i=l[k]:=by
  unfold atP;rw [hk,Int.toNat_natCast,List.getD_eq_getElem?_getD,List.getElem?_eq_getElem hkl];rfl
 rw [hat];obtain ⟨x0,x1⟩:=hs.at2 hkl;generalize l[k]=p at*;obtain ⟨p0,p1⟩:=p;dsimp only at x0 x1⊢;have hC:=ζ ((Sy.enter w).al w.heap.size #[.int .i64 p0,.int .i64 p1] 47 rfl);have i0:(0:Int)<=(k:Int):=by omega
 have i1:(k:Int) < (l.length:Int):=by omega
 have i2:(0:Int)<=i+(l.length:Int):=by omega
 have i3:¬ (l.length:Int)=0:=by omega
 clear hs hat;generalize l.length=n at*;clear h0 h1;go_enter Tryz.func209,Tryz.ntmps209;have hg:=World.block_lt_of_cell? _ _ x0;go_wp2;refine ret_sy hC.out (v:= .agg #[.int .i64 p0,.int .i64 p1]) (fun hF=>?_) rfl (fun hF=>⟨rfl,hF.be⟩);have z0:=hF.c 0 0;have z1:=hF.c 0 1;simp [results,Tryz.results209,go_sem,z0,z1]
end
theorem atP_at {l:List Pt} {i:Nat} (h:i < l.length):atP l (i:Int)=l[i]:=by
 unfold atP;rw [Int.add_emod_right,Int.emod_eq_of_lt (by omega) (by omega),Int.toNat_natCast,List.getD_eq_getElem?_getD,List.getElem?_eq_getElem h];rfl
theorem atP_mem {l:List Pt} (i:Int) (h:0 < l.length):atP l i∈l:=by
 have h1:=Int.emod_lt_of_pos (i+(l.length:Int)) (show(0:Int) < l.length by omega);have h2:=Int.emod_nonneg (i+(l.length:Int)) (show(l.length:Int)≠0 by omega);unfold atP;rw [List.getD_eq_getElem?_getD,List.getElem?_eq_getElem (show((i+(l.length:Int)) % (l.length:Int)).toNat < l.length by omega)];exact List.getElem_mem _
def cvA (l:List Pt) (i:Int):Int:=turnI (atP l (i - 1)) (atP l i) (atP l (i+1))
def cvB (l:List Pt) (i k:Int):Int:=turnI (atP l i) (atP l (i+1)) (atP l (i+k))
def convexB (l:List Pt):Bool:=inB l.length 3 12 && (List.range l.length).all fun i=>decide (0 < cvA l i) && (List.range (l.length - 3)).all fun k=>decide (0 < cvB l i ((k+2:Nat):Int))
theorem conv_no0 {l:List Pt} (h:inB l.length 3 12=false):convexB l=false:=by unfold convexB;rw [h];rfl
theorem conv_no1 {l:List Pt} {i:Nat} (hi:i < l.length) (h:cvA l i<=0):convexB l=false:=by
 unfold convexB;rw [Bool.and_eq_false_iff];right;rw [List.all_eq_false];exact⟨i,List.mem_range.2 hi,by rw [decide_eq_false (by omega)];simp⟩
theorem conv_no2 {l:List Pt} {i k:Nat} (hi:i < l.length) (h2:2<=k) (hk:k+1 < l.length) (h:cvB l i k<=0):convexB l=false:=by
 unfold convexB;rw [Bool.and_eq_false_iff];right;rw [List.all_eq_false];refine⟨i,List.mem_range.2 hi,?_⟩;rw [Bool.not_eq_true,Bool.and_eq_false_iff];right;rw [List.all_eq_false];exact⟨k - 2,List.mem_range.2 (by omega),by rw [show k - 2+2=k by omega,decide_eq_false (by omega)];simp⟩
theorem conv_yes {l:List Pt} (h:inB l.length 3 12=true) (h1:∀i,i < l.length->0 < cvA l i/\∀k:Nat,2<=k->k+1 < l.length->0 < cvB l i k):convexB l=true:=by
 unfold convexB;rw [h,Bool.true_and,List.all_eq_true];intro i hi;have:=h1 i (List.mem_range.1 hi);rw [decide_eq_true this.1,Bool.true_and,List.all_eq_true];intro k hk;have hk:=List.mem_range.1 hk;exact decide_eq_true (this.2 (k+2) (by omega) (by omega))
section
variable (w:World)
theorem sconvex_any (a:OA) (n c:Nat) (l:List Pt) (hs:Sx 2 w a n c (L2 l)) (hN:∀p∈l,Near p):Calls Tryz.prog 178 #[.slice a n c] w (Gives (.bool (convexB l)) w):=by
 obtain rfl:=hs.n2;have hcap:=hs.cap;unfold maxLen at hcap;have HS:=ζ hs;have HW:=ζ (fun W=>swithin_any W (l.length:Int) 3 12);have hC:=ζ (Sy.enter w);cases hv:inB (l.length:Int) 3 12
 ·have HR:=ζ (conv_no0 hv);rw [hv]at HW;generalize convexB l=r at*;clear hs hN hv;generalize l.length=n at*;go_enter Tryz.func178,Tryz.ntmps178;go_wp2_with fail
  refine(HW.out _).mono ?_;rintro e wz ⟨rfl,hz⟩;subst wz;go_wp2;go_ret;exact⟨ret_bool HR.out.symm,hC.out.be⟩
 rw [hv]at HW;have hb:=inB_iff.1 hv;have hl3:3<=l.length:=by omega
 have hl12:l.length<=12:=by omega
 have HN:=ζ hN;have A1:=ζ (fun i hi h=>conv_no1 (l:=l) (i:=i) hi h);have A2:=ζ (fun i k hi h2 hk h=>conv_no2 (l:=l) (i:=i) (k:=k) hi h2 hk h);have A3:=ζ (fun h=>conv_yes (l:=l) hv h);have AV:=ζ (fun W (hW:Below w.heap.size w W) (i:Int) (h0: -(l.length:Int)<=i) (h1:i<=1000000)=>sat_any W a l.length c l i (hs.below hW) (by omega) (by omega) h0 h1);have A0:=ζ (fun W (i j k:Int)=>sturn_any W (atP l i) (atP l j) (atP l k) (hN _ (atP_mem i (by omega))) (hN _ (atP_mem j (by omega))) (hN _ (atP_mem k (by omega))));obtain ⟨g0,o0,rfl⟩:=hs.addr (by omega);have A4:=ζ (fun W (hW:Below w.heap.size w W) (i:Nat) (hi:i < l.length)=>show W.cell? ⟨g0,o0+i*2,none⟩=some (.int .i64 (atP l i).1)/\W.cell? ⟨g0,o0+i*2+1,none⟩=some (.int .i64 (atP l i).2)by rw [atP_at hi];exact(hs.below hW).at2 hi);generalize hr:convexB l=r at*;clear hr hs hN hv hb hcap HS;go_enter Tryz.func178,Tryz.ntmps178;go_wp2_with fail
 refine(HW.out _).mono ?_;rintro e wz ⟨rfl,hz⟩;subst wz;go_wp2;go_loopw [11] (fun iv wr=>∃k:Nat,k<=l.length/\iv= .int .i64 k/\Hid (Sy w wr [] [] [])/\Hid (∀i,i < k->0 < cvA l i/\∀m:Nat,2<=m->m+1 < l.length->0 < cvB l i m)) (fun iv _=>l.length - (intOf iv).toNat)
 case atStart=>exact⟨0,Nat.zero_le _,rfl,hC,ζ (fun i h=>by omega)⟩
 case round=>
  clear hC HW;obtain ⟨k,hk,rfl,hS,HI⟩:=hrel;have i0:(0:Int)<=(k:Int):=by omega
  by_cases hlt:k < l.length
  ·have i1:(k:Int) < (l.length:Int):=(by omega);have e1:IntKind.i64.wrap ((k:Int) - 1)=(k:Int) - 1:=IntWalk.i64_in _ (by omega);have e2:IntKind.i64.wrap ((k:Int)+1)=(k:Int)+1:=IntWalk.i64_in _ (by omega);have HK:=ζ hlt;have HA:=ζ (show turnI (atP l ((k:Int) - 1)) (atP l k) (atP l ((k:Int)+1))=cvA l k from rfl);have AW:=ζ (fun W hW=>AV.out W hW ((k:Int) - 1) (by omega) (by omega));have AX:=ζ (fun W hW=>AV.out W hW ((k:Int)+1) (by omega) (by omega));have AO:=ζ (fun W=>A0.out W ((k:Int) - 1) k ((k:Int)+1));have AC:=ζ (fun W hW=>A4.out W hW k hlt);rw [HA.out]at AO;have HR1k:=ζ (A1.out k hlt);obtain ⟨z,hz⟩:∃z,cvA l k=z:=⟨_,rfl⟩
   have HZ:=ζ hz;rw [hz]at AO HR1k;clear HA hz;generalize atP l ((k:Int) - 1)=pa at*;generalize atP l ((k:Int)+1)=pb at*;obtain ⟨pa0,pa1⟩:=pa;obtain ⟨pb0,pb1⟩:=pb;obtain ⟨pk,hpk⟩:∃p,atP l k=p:=⟨_,rfl⟩
   rw [hpk]at AO AC;have A5:=ζ hpk;clear hpk;obtain ⟨pk0,pk1⟩:=pk;dsimp only at AW AX AO AC;go_upto_region 6 with fail
   refine wp_region_held_drew (S:=(fun w'=>w'.cell? ⟨g0,o0+k*2,none⟩=some (.int .i64 pk0)/\w'.cell? ⟨g0,o0+k*2+1,none⟩=some (.int .i64 pk1)/\True)) (by kernel_rfl) ⟨(AC.out _ hS.out.drew.be).1,(AC.out _ hS.out.drew.be).2,trivial⟩ (fun hH=>?_);refine wpAnyH_geny (show Sy w _ [] [] []from hS.out.drew) hH ?_;intro A6 hc AB;have AE:=ζ hc;clear hc hH hS;refine tkA 0 rfl AB ?_;(try simp only [zP]);refine tkA 1 rfl AB ?_;(try simp only [zP]);refine tkA 2 rfl AB ?_;(try simp only [zP]);refine tkA 4 rfl AB ?_;(try simp only [zP]);refine tkA 5 rfl AB ?_;(try simp only [zP]);refine tkA 6 rfl AB ?_;(try simp only [zP]);refine tkA 7 rfl AB ?_;(try simp only [zP]);refine tkA 8 rfl AB ?_;(try simp only [zP]);refine tkA 9 rfl AB ?_;(try simp only [zP]);refine tkA 10 rfl AB ?_;(try simp only [zP]);refine rdy1 3 rfl (fun Kq AD=>?_);go_simp;go_at_call 209;refine(AW.out _ AE.out.be).mono ?_;rintro e wT ⟨rfl,hb⟩;(try go_wp2_with fail);refine stepZ AD (show Sy w _ [] [] []from(AE.out.call hb)) (fun _ hX=>⟨(AC.out _ hX.be).1,(AC.out _ hX.be).2,trivial⟩) ?_;intro A7 AF AP;clear AD Kq AE hb AB;(try simp only [zP]);refine rdy1 11 rfl (fun Kq AD=>?_);go_simp;go_at_call 209;refine(AX.out _ AF.out.be).mono ?_;rintro e wT ⟨rfl,hb⟩;(try go_wp2_with fail);refine stepZ AD (show Sy w _ [] [] []from(AF.out.call hb)) (fun _ hX=>⟨(AC.out _ hX.be).1,(AC.out _ hX.be).2,trivial⟩) ?_;intro A8 AJ AQ;clear AD Kq AF hb AP;(try simp only [zP]);refine rdy1 12 rfl (fun Kq AD=>?_);go_simp;go_at_call 208;refine(AO.out _).mono ?_;rintro e wT ⟨rfl,hb⟩;(try go_wp2_with fail);refine stepZ AD (show Sy w _ [] [] []from(AJ.out.call hb)) (fun _ hX=>⟨(AC.out _ hX.be).1,(AC.out _ hX.be).2,trivial⟩) ?_;intro A9 AG AK;clear AD Kq AJ hb AQ;(try simp only [zP]);refine tkA 13 rfl AK ?_;(try simp only [zP]);refine wpAnyH_done (by kernel_rfl) ?_ _;by_cases hz:z<=0
   ·have AR:=ζ (HR1k.out hz);go_wp2;go_ret;exact⟨ret_bool AR.out.symm,AG.out.be⟩
   ·have Ab:=ζ (show 0 < cvA l k by rw [HZ.out];omega);clear HZ HR1k AW AX AO AK;go_wp2;go_loopw [4] (fun iv wr=>∃m:Nat,2<=m/\m+1<=l.length/\iv= .int .i64 m/\Hid (Sy w wr [] [] [])/\Hid (∀j:Nat,2<=j->j < m->0 < cvB l k j)) (fun iv _=>l.length - (intOf iv).toNat)
    case atStart=>exact⟨2,by omega,by omega,rfl,AG,ζ (fun j h1 h2=>by omega)⟩
    case round=>
     clear AG hz;obtain ⟨m,hm2,hm,rfl,hS,HJ⟩:=hrel;have w1:IntKind.i64.wrap ((l.length:Int) - 1)=(l.length:Int) - 1:=IntWalk.i64_in _ (by omega);by_cases hml:m+1 < l.length
     ·have j1:(m:Int) < (l.length:Int) - 1:=(by omega);have e3:IntKind.i64.wrap ((k:Int)+(m:Int))=(k:Int)+(m:Int):=IntWalk.i64_in _ (by omega);have HB:=ζ (show turnI (atP l k) (atP l ((k:Int)+1)) (atP l ((k:Int)+(m:Int)))=cvB l k m from rfl);have AY:=ζ (fun W hW=>AV.out W hW ((k:Int)+1) (by omega) (by omega));have AZ:=ζ (fun W hW=>AV.out W hW ((k:Int)+(m:Int)) (by omega) (by omega));have AN:=ζ (fun W=>A0.out W k ((k:Int)+1) ((k:Int)+(m:Int)));rw [HB.out]at AN;have HR2k:=ζ (A2.out k m HK.out hm2 hml);obtain ⟨y,hy⟩:∃z,cvB l k m=z:=⟨_,rfl⟩
      have HY:=ζ hy;rw [hy]at AN HR2k;clear HB hy;rw [A5.out]at AN;obtain ⟨pc,hpc⟩:∃p,atP l ((k:Int)+1)=p:=⟨_,rfl⟩
      rw [hpc]at AY AN;clear hpc;obtain ⟨pd,hpd⟩:∃p,atP l ((k:Int)+(m:Int))=p:=⟨_,rfl⟩
      rw [hpd]at AZ AN;clear hpd;obtain ⟨pc0,pc1⟩:=pc;obtain ⟨pd0,pd1⟩:=pd;dsimp only at AY AZ AN;go_upto_region 11 with fail
      refine wp_region_held_drew (S:=(fun w'=>w'.cell? ⟨g0,o0+k*2,none⟩=some (.int .i64 pk0)/\w'.cell? ⟨g0,o0+k*2+1,none⟩=some (.int .i64 pk1)/\True)) (by kernel_rfl) ⟨(AC.out _ hS.out.drew.be).1,(AC.out _ hS.out.drew.be).2,trivial⟩ (fun hH=>?_);refine wpAnyH_geny (show Sy w _ [] [] []from hS.out.drew) hH ?_;intro Ac hc AA;have AH:=ζ hc;clear hc hH hS;refine tkA 0 rfl AA ?_;(try simp only [zP]);refine tkA 1 rfl AA ?_;(try simp only [zP]);refine tkA 2 rfl AA ?_;(try simp only [zP]);refine tkA 3 rfl AA ?_;(try simp only [zP]);refine tkA 4 rfl AA ?_;(try simp only [zP]);refine tkA 5 rfl AA ?_;(try simp only [zP]);refine tkA 6 rfl AA ?_;(try simp only [zP]);refine tkA 8 rfl AA ?_;(try simp only [zP]);refine tkA 9 rfl AA ?_;(try simp only [zP]);refine tkA 10 rfl AA ?_;(try simp only [zP]);refine tkA 11 rfl AA ?_;(try simp only [zP]);refine rdy1 7 rfl (fun Kq AD=>?_);go_simp;go_at_call 209;refine(AY.out _ AH.out.be).mono ?_;rintro e wT ⟨rfl,hb⟩;(try go_wp2_with fail);refine stepZ AD (show Sy w _ [] [] []from(AH.out.call hb)) (fun _ hX=>⟨(AC.out _ hX.be).1,(AC.out _ hX.be).2,trivial⟩) ?_;intro Ad AI AS;clear AD Kq AH hb AA;(try simp only [zP]);refine rdy1 12 rfl (fun Kq AD=>?_);go_simp;go_at_call 209;refine(AZ.out _ AI.out.be).mono ?_;rintro e wT ⟨rfl,hb⟩;(try go_wp2_with fail);refine stepZ AD (show Sy w _ [] [] []from(AI.out.call hb)) (fun _ hX=>⟨(AC.out _ hX.be).1,(AC.out _ hX.be).2,trivial⟩) ?_;intro Af AL AT;clear AD Kq AI hb AS;(try simp only [zP]);refine rdy1 13 rfl (fun Kq AD=>?_);go_simp;go_at_call 208;refine(AN.out _).mono ?_;rintro e wT ⟨rfl,hb⟩;(try go_wp2_with fail);refine stepZ AD (show Sy w _ [] [] []from(AL.out.call hb)) (fun _ hX=>⟨(AC.out _ hX.be).1,(AC.out _ hX.be).2,trivial⟩) ?_;intro Ag AM AU;clear AD Kq AL hb AT;(try simp only [zP]);refine tkA 14 rfl AU ?_;(try simp only [zP]);refine wpAnyH_done (by kernel_rfl) ?_ _;by_cases hy:y<=0
      ·have AR:=ζ (HR2k.out hy);go_wp2;go_ret;exact⟨ret_bool AR.out.symm,AM.out.be⟩
      ·have Aj:=ζ (show ∀j:Nat,2<=j->j < m+1->0 < cvB l k j from fun j h1 h2=>by
        rcases Nat.lt_or_ge j m with h | h
        ·exact HJ.out j h1 h
        ·obtain rfl:j=m:=by omega
         rw [HY.out];omega)
       go_wp2;go_roundw
       case rel=>exact⟨m+1,by omega,by omega,by go_num,AM,Aj⟩
       case measure=>simp [intOf];omega
     ·obtain rfl:m=l.length - 1:=by omega
      have j1:¬ ((l.length - 1:Nat):Int) < (l.length:Int) - 1:=(by omega);have HL:=ζ (show ∀i,i < k+1->0 < cvA l i/\∀m:Nat,2<=m->m+1 < l.length->0 < cvB l i m from fun i hi=>by
       rcases Nat.lt_or_ge i k with h | h
       ·exact HI.out i h
       ·obtain rfl:i=k:=by omega
        exact⟨Ab.out,fun j h1 h2=>HJ.out j h1 (by omega)⟩)
      go_wp2;go_roundw
      case rel=>exact⟨k+1,by omega,by go_num,hS,HL⟩
      case measure=>simp [intOf];omega
  ·obtain rfl:k=l.length:=by omega
   have i1:¬ (l.length:Int) < (l.length:Int):=(by omega);have AR:=ζ (A3.out HI.out);go_wp2;go_ret;exact⟨ret_bool AR.out.symm,hS.out.be⟩
end
def minF (o p:Pt):Pt:=(min o.1 p.1,min o.2 p.2)
def minP (l:List Pt):Pt:=l.foldl minF (l.getD 0 (0,0))
def cmpJ (x y:Int):Int:=if x < y then -1 else if y < x then 1 else 0
def lowerI (p q:Pt):Int:=if cmpJ p.2 q.2=0 then cmpJ p.1 q.1 else cmpJ p.2 q.2
def lowF (m p:Pt):Pt:=if lowerI p m < 0 then p else m
def lowestP (l:List Pt):Pt:=(l.drop 1).foldl lowF (l.getD 0 (0,0))
theorem take_fold {α β:Type} (f:β->α->β) (o:β) (l:List α) {k:Nat} (h:k < l.length):(l.take (k+1)).foldl f o=f ((l.take k).foldl f o) l[k]:=by
 rw [List.take_succ_eq_append_getElem h,List.foldl_append];rfl
section
variable (w:World)
theorem sleast_any (a:OA) (n c:Nat) (l:List Pt) (hs:Sx 2 w a n c (L2 l)) (hn:0 < n) (hn2:n<=1000000):Calls Tryz.prog 179 #[.slice a n c] w (Gives (.agg #[.int .i64 (minP l).1,.int .i64 (minP l).2]) w):=by
 obtain rfl:=hs.n2;obtain ⟨g0,o0,rfl⟩:=hs.addr hn;have AR:=ζ (fun W (hW:Below w.heap.size w W) (i:Nat) (hi:i < l.length)=>(hs.below hW).at2 hi);have HF:=ζ (fun(k:Nat) (h:k < l.length) (o:Pt) (ho:(l.take k).foldl minF (l.getD 0 (0,0))=o)=>show(l.take (k+1)).foldl minF (l.getD 0 (0,0))=minF o l[k]by rw [take_fold _ _ _ h,ho]);have HE:=ζ (show(l.take l.length).foldl minF (l.getD 0 (0,0))=minP l by rw [List.take_length];rfl);obtain ⟨x0,x1⟩:=hs.at2 hn;rw [Nat.zero_mul,Nat.add_zero]at x0 x1;have HG:=ζ (show l.getD 0 (0,0)=l[0]by rw [List.getD_eq_getElem?_getD,List.getElem?_eq_getElem hn];rfl);rw [HG.out]at HF HE;generalize hq:l[0]=q at*;obtain ⟨q0,q1⟩:=q;have i9:(0:Int) < (l.length:Int):=by omega
 have hg:=World.block_lt_of_cell? _ _ x0;dsimp only at hg x0 x1;have hC:=ζ ((((Sy.enter w).al w.heap.size #[.int .i64 0,.int .i64 0] 47 rfl).al (w.heap.size+1) #[.int .i64 q0,.int .i64 q1] 47 (by simp)));clear hs HG hq;go_enter Tryz.func179,Tryz.ntmps179;go_upto_region 2 with fail
 obtain ⟨b2,hb2⟩:∃b,w.heap.size+1=b:=⟨_,rfl⟩
 obtain ⟨b1,hb1⟩:∃b,w.heap.size=b:=⟨_,rfl⟩
 rw [hb2,hb1]at hC⊢;refine wp_geny (show Sy w _ [(b1,#[.int .i64 0,.int .i64 0],47),(b2,#[.int .i64 q0,.int .i64 q1],47)] [] []from hC.out) ?_;intro V0 hc;have hD:=ζ hc;clear hc hC hb1 hb2 x0 x1 hg;go_wp2;go_loopw [11] (fun iv wr=>∃ (k:Nat) (o0 o1:Int),k<=l.length/\iv= .int .i64 k/\Hid ((l.take k).foldl minF (q0,q1)=(o0,o1))/\Hid (Sy w wr [(b1,#[.int .i64 0,.int .i64 0],47),(b2,#[.int .i64 o0,.int .i64 o1],47)] [] [])) (fun iv _=>l.length - (intOf iv).toNat)
 case atStart=>exact⟨0,q0,q1,Nat.zero_le _,rfl,ζ rfl,hD⟩
 case round=>
  clear hD;obtain ⟨k,m0,m1,hk,rfl,HM,hS⟩:=hrel;have i0:(0:Int)<=(k:Int):=by omega
  by_cases hlt:k < l.length
  ·have i1:(k:Int) < (l.length:Int):=(by omega);obtain ⟨x0,x1⟩:=AR.out wr hS.out.be k hlt;have HN:=ζ (HF.out k hlt _ HM.out);generalize l[k]=p at*;obtain ⟨p0,p1⟩:=p;dsimp only at x0 x1;have AS:=ζ (show(l.take (k+1)).foldl minF (q0,q1)=(min m0 p0,min m1 p1)from HN.out);have hg:=World.block_lt_of_cell? _ _ x0;dsimp only at hg;have hX:=ζ (hS.out.al wr.heap.size #[.int .i64 p0,.int .i64 p1] 47 rfl);clear HN HM hS;go_upto_region 5 with fail
   obtain ⟨b3,hb3⟩:∃b,wr.heap.size=b:=⟨_,rfl⟩
   rw [hb3]at hX⊢;refine wp_geny (show Sy w _ [(b1,#[.int .i64 0,.int .i64 0],47),(b2,#[.int .i64 m0,.int .i64 m1],47),(b3,#[.int .i64 p0,.int .i64 p1],47)] [] []from hX.out) ?_;intro V1 hc;have hD:=ζ hc;clear hc hX hb3 x0 x1 hg;have AT:=hD.out.c 1 0;have AO:=hD.out.f 1 0;have AU:=hD.out.c 1 1;have AP:=hD.out.f 1 1;have AV:=hD.out.c 2 0;have AW:=hD.out.c 2 1;have hE:=ζ ((hD.out|>.set (j:=0) (v:= .int .i64 (min m0 p0)) 1 rfl|>.set (j:=1) (v:= .int .i64 (min m1 p1)) 1 rfl).thin (bs':=[(b1,#[.int .i64 0,.int .i64 0],47),(b2,#[.int .i64 (min m0 p0),.int .i64 (min m1 p1)],47)]) (os':=[]) (by simp) (List.nil_sublist _));clear hD;go_wp2;go_roundw
   case rel=>exact⟨k+1,min m0 p0,min m1 p1,by omega,by go_num,AS,hE⟩
   case measure=>simp [intOf];omega
  ·obtain rfl:k=l.length:=by omega
   have i1:¬ (l.length:Int) < (l.length:Int):=(by omega);have HZ:=ζ (show minP l=(m0,m1)from HE.out.symm.trans HM.out);have y0:=hS.out.c 1 0;have y1:=hS.out.c 1 1;have z0:=hS.out.c 0 0;have z1:=hS.out.c 0 1;have f0:=hS.out.f 0 0;have f1:=hS.out.f 0 1;go_wp2;refine ret_sy (hS.out|>.set (j:=0) (v:= .int .i64 m0) 0 rfl|>.set (j:=1) (v:= .int .i64 m1) 0 rfl) (v:= .agg #[.int .i64 m0,.int .i64 m1]) (fun hF=>?_) rfl (fun hF=>⟨by rw [HZ.out],hF.be⟩);have g0:=hF.c 0 0;have g1:=hF.c 0 1;simp [results,Tryz.results179,go_sem,g0,g1]
theorem cmpNaN_any (x:Int):Calls Tryz.prog 241 #[.int .i64 x] w fun e w'=>e= .returned (.bool false)/\w'=w:=by
 have h:(x !=x)=false:=by simp
 go_enter Tryz.func241,Tryz.ntmps241;go_wp2;go_ret;exact⟨rfl,rfl⟩
theorem cmpInt_any (x y:Int):Calls Tryz.prog 211 #[.int .i64 x,.int .i64 y] w fun e w'=>e= .returned (.int .i64 (cmpJ x y))/\w'=w:=by
 unfold cmpJ;by_cases h1:x < y
 ·rw [if_pos h1];go_enter Tryz.func211,Tryz.ntmps211;go_wp2_with ((with_reducible refine(cmpNaN_any _ _).mono ?_);rintro e w1 ⟨rfl,rfl⟩)
  go_ret;exact⟨rfl,rfl⟩
 ·rw [if_neg h1];by_cases h2:y < x
  ·rw [if_pos h2];go_enter Tryz.func211,Tryz.ntmps211;go_wp2_with ((with_reducible refine(cmpNaN_any _ _).mono ?_);rintro e w1 ⟨rfl,rfl⟩)
   go_ret;exact⟨rfl,rfl⟩
  ·rw [if_neg h2];go_enter Tryz.func211,Tryz.ntmps211;go_wp2_with ((with_reducible refine(cmpNaN_any _ _).mono ?_);rintro e w1 ⟨rfl,rfl⟩)
   go_ret;exact⟨rfl,rfl⟩
theorem cmpOr_any (a:OA) (c:Nat) (x y:Int) (hs:Sx 1 w a 2 c [.int .i64 x,.int .i64 y]):Calls Tryz.prog 240 #[.slice a 2 c] w (Gives (.int .i64 (if x=0 then y else x)) w):=by
 obtain ⟨g0,o0,rfl⟩:=hs.addr (by omega);have H0:=ζ (fun W (hW:Below w.heap.size w W)=>show W.cell? ⟨g0,o0,none⟩=some (.int .i64 x)from(hs.below hW).cell (k:=0) rfl);have H1:=ζ (fun W (hW:Below w.heap.size w W)=>show W.cell? ⟨g0,o0+1,none⟩=some (.int .i64 y)from(hs.below hW).cell (k:=1) rfl);have hC:=ζ (Sy.enter w);obtain ⟨z,hz⟩:∃z,(if x=0 then y else x)=z:=⟨_,rfl⟩
 rw [hz];have HZ:=ζ hz;clear hs hz;go_enter Tryz.func240,Tryz.ntmps240;go_wp2;go_loopw [5,8] (fun _ iv wr=>∃k:Nat,k<=2/\iv= .int .i64 k/\Hid ((1<=k->x=0)/\(2<=k->y=0))/\Hid (Sy w wr [] [] [])) (fun _ iv _=>2 - (intOf iv).toNat)
 case atStart=>exact⟨0,by omega,rfl,ζ ⟨fun h=>by omega,fun h=>by omega⟩,hC⟩
 case round=>
  clear hC;obtain ⟨k,hk,rfl,HK,hS⟩:=hrel;rcases(show k=0\/k=1\/k=2 by omega)with rfl | rfl | rfl
  ·have x0:=H0.out _ hS.out.be;by_cases hx:x=0
   ·have HX:=ζ (show(1<=1->x=0)/\(2<=1->y=0)from⟨fun _=>hx,fun h=>by omega⟩);go_wp2;go_roundw
    case rel=>exact⟨1,by omega,rfl,HX,hS⟩
    case measure=>simp [intOf]
   ·go_wp2;go_ret;exact⟨ret_int (by rw [<-HZ.out,if_neg hx]),hS.out.be⟩
  ·have x1:=H1.out _ hS.out.be;have AN:=ζ (HK.out.1 (by omega));by_cases hy:y=0
   ·have HX:=ζ (show(1<=2->x=0)/\(2<=2->y=0)from⟨fun _=>AN.out,fun _=>hy⟩);go_wp2;go_roundw
    case rel=>exact⟨2,by omega,rfl,HX,hS⟩
    case measure=>simp [intOf]
   ·go_wp2;go_ret;exact⟨ret_int (by rw [<-HZ.out,AN.out,if_pos rfl]),hS.out.be⟩
  ·have AN:=ζ (show z=0 by rw [<-HZ.out,HK.out.1 (by omega),if_pos rfl,HK.out.2 (by omega)]);go_wp2;go_ret;exact⟨ret_int AN.out.symm,hS.out.be⟩
theorem sorder_any (a:OA) (c:Nat) (x y:Int) (hs:Sx 1 w a 2 c [.int .i64 x,.int .i64 y]):Calls Tryz.prog 210 #[.slice a 2 c] w (Gives (.int .i64 (if x=0 then y else x)) w):=by
 have HO:=ζ (cmpOr_any w a c x y hs);clear hs;generalize (if x=0 then y else x)=z at*;go_enter Tryz.func210,Tryz.ntmps210;go_wp2_with fail
 refine HO.out.mono ?_;rintro e w1 ⟨rfl,hb⟩;have hB:=ζ hb;clear hb;go_wp2;go_ret;exact⟨rfl,hB.out⟩
theorem slower_any (p q:Pt):Calls Tryz.prog 181 #[.agg #[.int .i64 p.1,.int .i64 p.2],.agg #[.int .i64 q.1,.int .i64 q.2]] w (Gives (.int .i64 (lowerI p q)) w):=by
 obtain ⟨p0,p1⟩:=p;obtain ⟨q0,q1⟩:=q;unfold lowerI;dsimp only;have H1:=ζ (fun W=>cmpInt_any W p1 q1);have H2:=ζ (fun W=>cmpInt_any W p0 q0);have hC:=ζ (((Sy.enter w).al w.heap.size #[.int .i64 p0,.int .i64 p1] 47 rfl).al (w.heap.size+1) #[.int .i64 q0,.int .i64 q1] 47 (by simp));generalize cmpJ p1 q1=x at*;generalize cmpJ p0 q0=y at*;have HO:=ζ (fun W a c (hs:Sx 1 W a 2 c [.int .i64 x,.int .i64 y])=>sorder_any W a c x y hs);generalize (if x=0 then y else x)=z at*;go_enter Tryz.func181,Tryz.ntmps181;go_upto_region 1 with fail
 obtain ⟨b2,hb2⟩:∃b,w.heap.size+1=b:=⟨_,rfl⟩
 obtain ⟨b1,hb1⟩:∃b,w.heap.size=b:=⟨_,rfl⟩
 rw [hb2,hb1]at hC⊢;refine wp_geny hC.out ?_;intro V0 hc;have hD:=ζ hc;clear hc hC hb1 hb2;refine wp_region_held_drew (S:=(fun w'=>w'.cell? ⟨b1,0,none⟩=some (.int .i64 p0)/\w'.cell? ⟨b1,1,none⟩=some (.int .i64 p1)/\w'.cell? ⟨b2,0,none⟩=some (.int .i64 q0)/\w'.cell? ⟨b2,1,none⟩=some (.int .i64 q1)/\True)) (by kernel_rfl) ⟨hD.out.drew.c 0 0,hD.out.drew.c 0 1,hD.out.drew.c 1 0,hD.out.drew.c 1 1,trivial⟩ (fun hH=>?_);refine wpAnyH_geny (show Sy w _ [(b1,#[.int .i64 p0,.int .i64 p1],47),(b2,#[.int .i64 q0,.int .i64 q1],47)] [] []from hD.out.drew) hH ?_;intro AX hc AA;have AE:=ζ hc;clear hc hH hD;refine tkA 0 rfl AA ?_;try simp only [zP]
 refine tkA 1 rfl AA ?_;try simp only [zP]
 refine tkA 2 rfl AA ?_;try simp only [zP]
 refine tkA 3 rfl AA ?_;try simp only [zP]
 refine tkA 5 rfl AA ?_;try simp only [zP]
 refine tkA 6 rfl AA ?_;try simp only [zP]
 refine tkA 7 rfl AA ?_;try simp only [zP]
 refine tkA 8 rfl AA ?_;try simp only [zP]
 refine rdy1 4 rfl (fun Kq AB=>?_);go_simp;go_at_call 211;refine(H1.out _).mono ?_;rintro e wT ⟨rfl,rfl⟩;(try go_wp2_with fail);refine stepZ AB (show Sy w _ [(b1,#[.int .i64 p0,.int .i64 p1],47),(b2,#[.int .i64 q0,.int .i64 q1],47)] [] []from AE.out) (fun _ hX=>⟨hX.c 0 0,hX.c 0 1,hX.c 1 0,hX.c 1 1,trivial⟩) ?_;intro AY AF AI;clear AB Kq AE AA;try simp only [zP]
 refine rdy1 9 rfl (fun Kq AB=>?_);go_simp;go_at_call 211;refine(H2.out _).mono ?_;rintro e wT ⟨rfl,rfl⟩;(try go_wp2_with fail);refine stepZ AB (show Sy w _ [(b1,#[.int .i64 p0,.int .i64 p1],47),(b2,#[.int .i64 q0,.int .i64 q1],47)] [] []from AF.out) (fun _ hX=>⟨hX.c 0 0,hX.c 0 1,hX.c 1 0,hX.c 1 1,trivial⟩) ?_;intro AD AG AJ;clear AB Kq AF AI;try simp only [zP]
 refine rdy1 10 rfl (fun Kq AB=>?_);go_simp;refine stepZ AB (show Sy w _ [(b1,#[.int .i64 p0,.int .i64 p1],47),(b2,#[.int .i64 q0,.int .i64 q1],47)] [⟨.slice (some ⟨AD.heap.size,0,none⟩) 2 2,3,1,2,[.int .i64 x,.int .i64 y]⟩] []from(AG.out.onew AD.heap.size #[.int .i64 x,.int .i64 y] 3 1 2 rfl (by omega) rfl)) (fun _ hX=>⟨hX.c 0 0,hX.c 0 1,hX.c 1 0,hX.c 1 1,trivial⟩) ?_;intro AZ AC AK;clear AB Kq AG AJ;try simp only [zP]
 refine rdy1 11 rfl (fun Kq AB=>?_);go_simp;go_at_call 210;refine(HO.out _ _ _ (AC.out.osx 0 rfl)).mono ?_;rintro e wT ⟨rfl,hb⟩;(try go_wp2_with fail);refine stepZ AB (show Sy w _ [(b1,#[.int .i64 p0,.int .i64 p1],47),(b2,#[.int .i64 q0,.int .i64 q1],47)] [⟨.slice (some ⟨AD.heap.size,0,none⟩) 2 2,3,1,2,[.int .i64 x,.int .i64 y]⟩] []from(AC.out.call hb)) (fun _ hX=>⟨hX.c 0 0,hX.c 0 1,hX.c 1 0,hX.c 1 1,trivial⟩) ?_;intro A0 AH AL;clear AB Kq AC hb AK;try simp only [zP]
 refine rdy1 12 rfl (fun Kq AB=>?_);go_simp;refine stepZ AB (show Sy w _ [(b1,#[.int .i64 p0,.int .i64 p1],47),(b2,#[.int .i64 q0,.int .i64 q1],47)] [⟨.slice (some ⟨AD.heap.size,0,none⟩) 2 2,3,1,2,[.int .i64 x,.int .i64 y]⟩] []from AH.out) (fun _ hX=>⟨hX.c 0 0,hX.c 0 1,hX.c 1 0,hX.c 1 1,trivial⟩) ?_;intro A1 AM AQ;clear AB Kq AH AL;try simp only [zP]
 refine wpAnyH_done (by kernel_rfl) ?_ _;go_wp2;go_ret;exact⟨rfl,AM.out.be⟩
end
def farS (p:Pt):Bool:= !inB p.1 0 2000 || !inB p.2 0 2000
def placedB (l:List Pt):Bool:= !(l.any farS) && (convexB l && (decide (minP l=(0,0)) && decide (lowestP l=l.getD 0 (0,0))))
def grainB (g:Pt):Bool:=decide (g≠(0,0)) && (inB g.1 (-100) 100 && inB g.2 (-100) 100)
def stoneB (nm:ByteArray) (l:List Pt) (dep den:Int) (g:Pt):Bool:=namedB nm && (placedB l && (inB dep 1 2000 && (inB den 1 10000 && grainB g)))
theorem farS_near {l:List Pt} (h:l.any farS=false):∀p∈l,Near p:=by
 intro p hp;have:=List.any_eq_false.1 h p hp;unfold farS at this;simp only [Bool.or_eq_true,Bool.not_eq_true',not_or,Bool.not_eq_false]at this;have h1:=inB_iff.1 this.1;have h2:=inB_iff.1 this.2;exact⟨⟨by omega,by omega⟩,⟨by omega,by omega⟩⟩
section
variable (w:World)
theorem slowest_any (a:OA) (n c:Nat) (l:List Pt) (hs:Sx 2 w a n c (L2 l)) (hn:0 < n) (hn2:n<=1000000):Calls Tryz.prog 180 #[.slice a n c,.func (.func 181) #[] #[]] w (Gives (.agg #[.int .i64 (lowestP l).1,.int .i64 (lowestP l).2]) w):=by
 obtain rfl:=hs.n2;obtain ⟨g0,o0,rfl⟩:=hs.addr hn;have AZ:=ζ (fun W (hW:Below w.heap.size w W) (i:Nat) (hi:i < l.length)=>(hs.below hW).at2 hi);have HF:=ζ (fun(k:Nat) (h:k+1 < l.length) (o:Pt) (ho:((l.drop 1).take k).foldl lowF (l.getD 0 (0,0))=o)=>show((l.drop 1).take (k+1)).foldl lowF (l.getD 0 (0,0))=lowF o l[k+1]by
  rw [take_fold _ _ _ (by rw [List.length_drop];omega),ho,List.getElem_drop];congr 2;omega)
 have HE:=ζ (show((l.drop 1).take (l.length - 1)).foldl lowF (l.getD 0 (0,0))=lowestP l by rw [List.take_of_length_le (by rw [List.length_drop];omega)];rfl);obtain ⟨x0,x1⟩:=hs.at2 hn;rw [Nat.zero_mul,Nat.add_zero]at x0 x1;have HG:=ζ (show l.getD 0 (0,0)=l[0]by rw [List.getD_eq_getElem?_getD,List.getElem?_eq_getElem hn];rfl);rw [HG.out]at HF HE;generalize hq:l[0]=q at*;obtain ⟨q0,q1⟩:=q;have i8:¬ (l.length:Int) < 1:=by omega
 have i9:(0:Int) < (l.length:Int):=by omega
 have hg:=World.block_lt_of_cell? _ _ x0;dsimp only at hg x0 x1;have hC:=ζ ((((Sy.enter w).al w.heap.size #[.int .i64 0,.int .i64 0] 47 rfl).al (w.heap.size+1) #[.int .i64 q0,.int .i64 q1] 47 (by simp)));clear hs HG hq;go_enter Tryz.func180,Tryz.ntmps180;go_upto_region 4 with fail
 obtain ⟨b2,hb2⟩:∃b,w.heap.size+1=b:=⟨_,rfl⟩
 obtain ⟨b1,hb1⟩:∃b,w.heap.size=b:=⟨_,rfl⟩
 rw [hb2,hb1]at hC⊢;refine wp_geny (show Sy w _ [(b1,#[.int .i64 0,.int .i64 0],47),(b2,#[.int .i64 q0,.int .i64 q1],47)] [] []from hC.out) ?_;intro V0 hc;have hD:=ζ hc;clear hc hC hb1 hb2 x0 x1 hg i8;go_wp2;go_loopw [6] (fun iv wr=>∃ (k:Nat) (o0 o1:Int),k+1<=l.length/\iv= .int .i64 ((k+1:Nat):Int)/\Hid (((l.drop 1).take k).foldl lowF (q0,q1)=(o0,o1))/\Hid (Sy w wr [(b1,#[.int .i64 0,.int .i64 0],47),(b2,#[.int .i64 o0,.int .i64 o1],47)] [] [])) (fun iv _=>l.length - (intOf iv).toNat)
 case atStart=>exact⟨0,q0,q1,by omega,rfl,ζ rfl,hD⟩
 case round=>
  clear hD;obtain ⟨k,m0,m1,hk,rfl,HM,hS⟩:=hrel;obtain ⟨n1,hn1⟩:∃n1:Nat,k+1=n1:=⟨_,rfl⟩
  rw [hn1]at hk⊢;have i0:(0:Int)<=(n1:Int):=by omega
  by_cases hlt:n1 < l.length
  ·have i1:(n1:Int) < (l.length:Int):=(by omega);have HX:=ζ (fun W hW=>AZ.out W hW n1 hlt);have HN:=ζ (HF.out k (by omega) _ HM.out);have HP:=ζ (show l[k+1]'(by omega)=l[n1]by congr 1);rw [HP.out]at HN;generalize l[n1]=p at*;obtain ⟨p0,p1⟩:=p;dsimp only at HX;have HK:=ζ (fun W=>slower_any W (p0,p1) (m0,m1));unfold lowF at HN;obtain ⟨z,hz⟩:∃z,lowerI (p0,p1) (m0,m1)=z:=⟨_,rfl⟩
   rw [hz]at HK HN;have AS:=ζ hn1;clear HM hz HP hn1;go_upto_region 7 with fail
   refine wp_region_held_drew (S:=(fun w'=>w'.cell? ⟨b2,0,none⟩=some (.int .i64 m0)/\w'.cell? ⟨b2,1,none⟩=some (.int .i64 m1)/\w'.cell? ⟨g0,o0+n1*2,none⟩=some (.int .i64 p0)/\w'.cell? ⟨g0,o0+n1*2+1,none⟩=some (.int .i64 p1)/\True)) (by kernel_rfl) ⟨hS.out.drew.c 1 0,hS.out.drew.c 1 1,(HX.out _ hS.out.drew.be).1,(HX.out _ hS.out.drew.be).2,trivial⟩ (fun hH=>?_);refine wpAnyH_geny (show Sy w _ [(b1,#[.int .i64 0,.int .i64 0],47),(b2,#[.int .i64 m0,.int .i64 m1],47)] [] []from hS.out.drew) hH ?_;intro A0 hc AC;have AL:=ζ hc;clear hc hH hS;refine tkA 0 rfl AC ?_;(try simp only [zP]);refine tkA 1 rfl AC ?_;(try simp only [zP]);refine tkA 2 rfl AC ?_;(try simp only [zP]);refine tkA 3 rfl AC ?_;(try simp only [zP]);refine tkA 4 rfl AC ?_;(try simp only [zP]);refine tkA 5 rfl AC ?_;(try simp only [zP]);refine rdy1 6 rfl (fun Kq AE=>?_);go_simp;go_at_call 181;refine(HK.out _).mono ?_;rintro e wT ⟨rfl,hb⟩;(try go_wp2_with fail);refine stepZ AE (show Sy w _ [(b1,#[.int .i64 0,.int .i64 0],47),(b2,#[.int .i64 m0,.int .i64 m1],47)] [] []from(AL.out.call hb)) (fun _ hX=>⟨hX.c 1 0,hX.c 1 1,(HX.out _ hX.be).1,(HX.out _ hX.be).2,trivial⟩) ?_;intro A1 AB AM;clear AE Kq AL hb AC;(try simp only [zP]);refine tkA 7 rfl AM ?_;(try simp only [zP]);refine wpAnyH_done (by kernel_rfl) ?_ _;by_cases hz:z < 0
   ·rw [if_pos hz]at HN;obtain ⟨x0,x1⟩:=HX.out _ AB.out.be;have y1_0:=AB.out.c 1 0;have yf1_0:=AB.out.f 1 0;have y1_1:=AB.out.c 1 1;have yf1_1:=AB.out.f 1 1;have hE:=ζ (AB.out|>.set (j:=0) (v:= .int .i64 p0) 1 rfl|>.set (j:=1) (v:= .int .i64 p1) 1 rfl);clear AB AM HX HK;go_wp2;go_roundw
    case rel=>exact⟨k+1,p0,p1,by have:=AS.out;omega,by rw [<-AS.out];go_num,HN,hE⟩
    case measure=>simp [intOf];omega
   ·rw [if_neg hz]at HN;go_wp2;go_roundw
    case rel=>exact⟨k+1,m0,m1,by have:=AS.out;omega,by rw [<-AS.out];go_num,HN,AB⟩
    case measure=>simp [intOf];omega
  ·obtain rfl:n1=l.length:=by omega
   have i1:¬ (l.length:Int) < (l.length:Int):=(by omega);have HZ:=ζ (show lowestP l=(m0,m1)from HE.out.symm.trans (by rw [show l.length - 1=k by omega];exact HM.out));clear hn1;have y0:=hS.out.c 1 0;have y1:=hS.out.c 1 1;have z0:=hS.out.c 0 0;have z1:=hS.out.c 0 1;have f0:=hS.out.f 0 0;have f1:=hS.out.f 0 1;go_wp2;refine ret_sy (hS.out|>.set (j:=0) (v:= .int .i64 m0) 0 rfl|>.set (j:=1) (v:= .int .i64 m1) 0 rfl) (v:= .agg #[.int .i64 m0,.int .i64 m1]) (fun hF=>?_) rfl (fun hF=>⟨by rw [HZ.out],hF.be⟩);have g0:=hF.c 0 0;have g1:=hF.c 0 1;simp [results,Tryz.results180,go_sem,g0,g1]
theorem splaced1_any (p:Pt):Calls Tryz.prog 177 #[.agg #[.int .i64 p.1,.int .i64 p.2]] w (Gives (.bool (farS p)) w):=by
 obtain ⟨x,z⟩:=p;unfold farS;dsimp only;have hC:=ζ ((Sy.enter w).al w.heap.size #[.int .i64 x,.int .i64 z] 47 rfl);cases h1:inB x 0 2000
 ·go_enter Tryz.func177,Tryz.ntmps177;go_wp2_with ((with_reducible refine(swithin_any _ _ _ _).mono ?_);rintro e w1 ⟨rfl,rfl⟩)
  go_ret;exact⟨rfl,hC.out.be⟩
 ·go_enter Tryz.func177,Tryz.ntmps177;go_wp2_with ((with_reducible refine(swithin_any _ _ _ _).mono ?_);rintro e w1 ⟨rfl,rfl⟩)
  go_ret;exact⟨rfl,hC.out.be⟩
theorem eg_splaced1:EG 177:=enters_of Tryz.func177 (by kernel_rfl) rfl
theorem splaced_any (a:OA) (n c:Nat) (l:List Pt) (hs:Sx 2 w a n c (L2 l)):Calls Tryz.prog 156 #[.slice a n c] w (Gives (.bool (placedB l)) w):=by
 have AP:=ζ (containsFunc_Point a n c l 177 #[] farS w hs eg_splaced1 (fun W _ x _=>splaced1_any W x));have hC:=ζ (Sy.enter w);unfold placedB;cases hf:l.any farS
 ·have AT:=ζ (fun W (hW:Below w.heap.size w W)=>sconvex_any W a n c l (hs.below hW) (farS_near hf));rw [hf]at AP;cases hv:convexB l
  ·rw [hv]at AT;clear hs hf hv;go_enter Tryz.func156,Tryz.ntmps156;go_wp2_with fail
   refine AP.out.mono ?_;rintro e w1 ⟨rfl,hb⟩;have hD:=ζ (hC.out.call hb);clear hb hC;go_wp2_with fail
   refine(AT.out _ hD.out.be).mono ?_;rintro e w1 ⟨rfl,hb⟩;have hE:=ζ (hD.out.call hb);clear hb hD;go_wp2;go_ret;exact⟨rfl,hE.out.be⟩
  ·rw [hv]at AT;have hn3:3<=l.length/\l.length<=12:=by
    unfold convexB at hv;rw [Bool.and_eq_true]at hv;have:=inB_iff.1 hv.1;omega
   obtain rfl:=hs.n2;have AU:=ζ (fun W (hW:Below w.heap.size w W)=>sleast_any W a l.length c l (hs.below hW) (by omega) (by omega));have AW:=ζ (fun W (hW:Below w.heap.size w W)=>slowest_any W a l.length c l (hs.below hW) (by omega) (by omega));obtain ⟨g0,o0,rfl⟩:=hs.addr (by omega);have HX:=ζ (fun W (hW:Below w.heap.size w W)=>(hs.below hW).at2 (i:=0) (by omega));have HG:=ζ (show l.getD 0 (0,0)=l[0]'(by omega)by rw [List.getD_eq_getElem?_getD,List.getElem?_eq_getElem (by omega)];rfl);rw [HG.out];rw [Nat.zero_mul,Nat.add_zero]at HX;generalize l[0]=q at*;generalize minP l=u at*;generalize lowestP l=v at*;obtain ⟨q0,q1⟩:=q;obtain ⟨u0,u1⟩:=u;obtain ⟨v0,v1⟩:=v;dsimp only at AU AW HX;have i9:(0:Int) < (l.length:Int):=(by omega);have i10:0 < l.length:=(by omega);clear hs hf hv HG;go_enter Tryz.func156,Tryz.ntmps156;go_wp2_with fail
   refine AP.out.mono ?_;rintro e w1 ⟨rfl,hb⟩;have hD:=ζ (hC.out.call hb);clear hb hC;go_wp2_with fail
   refine(AT.out _ hD.out.be).mono ?_;rintro e w2 ⟨rfl,hb⟩;have hE:=ζ (hD.out.call hb);clear hb hD;go_upto_region 4 with fail
   by_cases hu:u0=0/\u1=0
   ·obtain ⟨rfl,rfl⟩:=hu;refine wp_region_held_drew (S:=(fun w'=>w'.cell? ⟨g0,o0,none⟩=some (.int .i64 q0)/\w'.cell? ⟨g0,o0+1,none⟩=some (.int .i64 q1)/\True)) (by kernel_rfl) ⟨(HX.out _ hE.out.drew.be).1,(HX.out _ hE.out.drew.be).2,trivial⟩ (fun hH=>?_);refine wpAnyH_geny (show Sy w _ [] [] []from hE.out.drew) hH ?_;intro A2 hc AF;have AG:=ζ hc;clear hc hH hE;refine tkA 0 rfl AF ?_;(try simp only [zP]);refine tkA 2 rfl AF ?_;(try simp only [zP]);refine rdy1 1 rfl (fun Kq AE=>?_);go_simp;go_at_call 179;refine(AU.out _ AG.out.be).mono ?_;rintro e wT ⟨rfl,hb⟩;(try go_wp2_with fail);refine stepZ AE (show Sy w _ [] [] []from(AG.out.call hb)) (fun _ hX=>⟨(HX.out _ hX.be).1,(HX.out _ hX.be).2,trivial⟩) ?_;intro A3 AH AD;clear AE Kq AG hb AF;(try simp only [zP]);refine tkA 3 rfl AD ?_;(try simp only [zP]);refine tkA 4 rfl AD ?_;(try simp only [zP]);refine tkA 5 rfl AD ?_;(try simp only [zP]);refine tkA 7 rfl AD ?_;(try simp only [zP]);refine tkA 8 rfl AD ?_;(try simp only [zP]);refine tkA 9 rfl AD ?_;(try simp only [zP]);refine rdy1 6 rfl (fun Kq AE=>?_);go_simp;go_at_call 180;refine(AW.out _ AH.out.be).mono ?_;rintro e wT ⟨rfl,hb⟩;(try go_wp2_with fail);refine stepZ AE (show Sy w _ [] [] []from(AH.out.call hb)) (fun _ hX=>⟨(HX.out _ hX.be).1,(HX.out _ hX.be).2,trivial⟩) ?_;intro A4 AN AI;clear AE Kq AH hb AD;(try simp only [zP]);refine wpAnyH_take (i:=10) (oi:=⟨_,_,_,_,_,_⟩) (v:= .bool (decide (v0=q0/\v1=q1))) rfl (by kernel_rfl) (by kernel_rfl) (by kernel_rfl) (fun _ _ _ h=>h) (Or.inl ⟨by rfl,?_⟩) AI ?_
    ·intro wS AV;(try dsimp only at AV);go_simp;by_cases h1:v0=q0<;>by_cases h2:v1=q1<;>simp [h1,h2]
    (try simp only [zP]);refine tkA 11 rfl AI ?_;(try simp only [zP]);refine rdy1 12 rfl (fun Kq AE=>?_);go_simp;refine stepZ AE (show Sy w _ [] [] []from AN.out) (fun _ hX=>⟨(HX.out _ hX.be).1,(HX.out _ hX.be).2,trivial⟩) ?_;intro A5 AQ AX;clear AE Kq AN AI;(try simp only [zP]);refine wpAnyH_done (by kernel_rfl) ?_ _;go_wp2;go_ret;exact⟨ret_bool (by simp),AQ.out.be⟩
   ·have HU:=ζ hu;clear hu;refine wp_region_held_drew (S:=(fun w'=>w'.cell? ⟨g0,o0,none⟩=some (.int .i64 q0)/\w'.cell? ⟨g0,o0+1,none⟩=some (.int .i64 q1)/\True)) (by kernel_rfl) ⟨(HX.out _ hE.out.drew.be).1,(HX.out _ hE.out.drew.be).2,trivial⟩ (fun hH=>?_);refine wpAnyH_geny (show Sy w _ [] [] []from hE.out.drew) hH ?_;intro A6 hc AJ;have AK:=ζ hc;clear hc hH hE;refine tkA 0 rfl AJ ?_;(try simp only [zP]);refine tkA 2 rfl AJ ?_;(try simp only [zP]);refine rdy1 1 rfl (fun Kq AE=>?_);go_simp;go_at_call 179;refine(AU.out _ AK.out.be).mono ?_;rintro e wT ⟨rfl,hb⟩;(try go_wp2_with fail);refine stepZ AE (show Sy w _ [] [] []from(AK.out.call hb)) (fun _ hX=>⟨(HX.out _ hX.be).1,(HX.out _ hX.be).2,trivial⟩) ?_;intro A7 AO AA;clear AE Kq AK hb AJ;(try simp only [zP]);refine wpAnyH_take (i:=3) (oi:=⟨_,_,_,_,_,_⟩) (v:= .bool false) rfl (by kernel_rfl) (by kernel_rfl) (by kernel_rfl) (fun _ _ _ h=>h) (Or.inl ⟨by rfl,?_⟩) AA ?_
    ·intro wS AV;(try dsimp only at AV);go_simp;have hu:=HU.out;by_cases h1:u0=0<;>by_cases h2:u1=0<;>simp [h1,h2]<;>exact hu ⟨h1,h2⟩
    (try simp only [zP]);refine tkA 4 rfl AA ?_;(try simp only [zP]);refine tkR 5 rfl AA ?_;(try simp only [zP]);refine tkR 6 rfl AA ?_;(try simp only [zP]);refine tkR 7 rfl AA ?_;(try simp only [zP]);refine tkR 8 rfl AA ?_;(try simp only [zP]);refine tkR 9 rfl AA ?_;(try simp only [zP]);refine tkR 10 rfl AA ?_;(try simp only [zP]);refine tkA 11 rfl AA ?_;(try simp only [zP]);refine rdy1 12 rfl (fun Kq AE=>?_);go_simp;refine stepZ AE (show Sy w _ [] [] []from AO.out) (fun _ hX=>⟨(HX.out _ hX.be).1,(HX.out _ hX.be).2,trivial⟩) ?_;intro A8 AR AY;clear AE Kq AO AA;(try simp only [zP]);refine wpAnyH_done (by kernel_rfl) ?_ _;go_wp2;go_ret;exact⟨ret_bool (by have:=HU.out;simp;omega),AR.out.be⟩
 ·rw [hf]at AP;clear hs hf;go_enter Tryz.func156,Tryz.ntmps156;go_wp2_with fail
  refine AP.out.mono ?_;rintro e w1 ⟨rfl,hb⟩;have hD:=ζ (hC.out.call hb);clear hb hC;go_wp2;go_ret;exact⟨rfl,hD.out.be⟩
end
theorem Sx.drop {size n c g o:Nat} {W:World} {xs:List Value} (h:Sx size W (some ⟨g,o,none⟩) n c xs) {k:Nat} (hk:k<=n):Sx size W (some ⟨g,o+k*size,none⟩) (n - k) (c - k) (xs.drop (k*size)):=by
 refine⟨by rw [List.length_drop,h.1,Nat.sub_mul],by have:=h.2.1;omega,by have:=h.2.2.1;omega,fun hn=>?_⟩;obtain ⟨g',o',e,hg,hc⟩:=h.2.2.2 (by omega);simp only [Option.some.injEq,Addr.mk.injEq,and_true]at e;obtain ⟨rfl,rfl⟩:=e;refine⟨g,o+k*size,rfl,hg,fun j u hj=>?_⟩;rw [List.getElem?_drop]at hj;rw [Nat.add_assoc];exact hc _ u hj
theorem L2_drop (l:List Pt) (k:Nat):(L2 l).drop (k*2)=L2 (l.drop k):=by
 unfold L2;induction k generalizing l with
 | zero=>simp
 | succ k ih=>
   cases l with
   | nil=>simp
   | cons x r=>rw [List.flatMap_cons,List.drop_succ_cons,<-ih,show(k+1)*2=k*2+2 by omega];rfl
theorem L2_take (l:List Pt) (k:Nat):(L2 l).take (k*2)=L2 (l.take k):=flat_take (f:=c2) (fun _=>rfl) l k
theorem L2_set:∀ (l:List Pt) (k:Nat) (p:Pt),k < l.length->((L2 l).set (k*2) (.int .i64 p.1)).set (k*2+1) (.int .i64 p.2)=L2 (l.set k p)
 | [],_,_,h=>by simp at h
 | x::r,0,p,_=>rfl
 | x::r,k+1,p,h=>by
   have:=L2_set r k p (by simpa using h);unfold L2 at this⊢;rw [List.set_cons_succ,List.flatMap_cons,List.flatMap_cons,<-this,show(k+1)*2=k*2+2 by omega];rfl
theorem L2_at {l:List Pt} {k:Nat} (h:k < l.length):(L2 l)[k*2]? =some (.int .i64 l[k].1)/\(L2 l)[k*2+1]? =some (.int .i64 l[k].2):=by
 refine⟨?_,?_⟩
 ·have:=flat_get (f:=c2) (k:=2) (fun _=>rfl) l k 0 h (by omega);exact this
 ·have:=flat_get (f:=c2) (k:=2) (fun _=>rfl) l k 1 h (by omega);exact this
theorem lowest_mem:∀ {l:List Pt},0 < l.length->lowestP l∈l
 | x::r,_=>by
   show(r.foldl lowF x)∈x::r;have key:∀ (r:List Pt) (m:Pt),r.foldl lowF m=m\/r.foldl lowF m∈r:=by
    intro r;induction r with
    | nil=>intro m;exact .inl rfl
    | cons y r ih=>
      intro m;rw [List.foldl_cons];rcases ih (lowF m y)with h | h
      ·rw [h];unfold lowF
       split
       ·exact .inr (List.mem_cons_self ..)
       ·exact .inl rfl
      ·exact .inr (List.mem_cons_of_mem _ h)
   rcases key r x with h | h
   ·rw [h];exact List.mem_cons_self ..
   ·exact List.mem_cons_of_mem _ h
theorem idx_of {l:List Pt} {p:Pt} (h:p∈l):∃k,l.idxOf p=k/\∃h:k < l.length,l[k]=p/\∀j (hj:j < l.length),j < k->l[j]≠p:=
 ⟨l.idxOf p,rfl,List.idxOf_lt_length_of_mem h,List.getElem_idxOf _,fun j hj hjk e=>by
   have:=List.not_of_lt_findIdx (p:=(· ==p)) (xs:=l) hjk;simp [e]at this⟩
def halfM (f:Pt->Pt) (R:List Pt) (j:Nat):List Pt:=(R.take j).map f++R.drop j
theorem halfM_len (f:Pt->Pt) {R:List Pt} {j:Nat} (h:j<=R.length):(halfM f R j).length=R.length:=by
 unfold halfM;rw [List.length_append,List.length_map,List.length_take,List.length_drop];omega
theorem halfM_at (f:Pt->Pt) {R:List Pt} {j:Nat} (h:j < R.length):(halfM f R j)[j]? =some R[j]:=by
 unfold halfM;have hl:((R.take j).map f).length=j:=by rw [List.length_map,List.length_take];omega
 rw [List.getElem?_append_right (by omega),hl,Nat.sub_self,List.getElem?_drop,Nat.add_zero,List.getElem?_eq_getElem h]
theorem halfM_set (f:Pt->Pt) {R:List Pt} {j:Nat} (h:j < R.length):(halfM f R j).set j (f R[j])=halfM f R (j+1):=by
 unfold halfM;have hl:((R.take j).map f).length=j:=by rw [List.length_map,List.length_take];omega
 rw [List.set_append_right _ _ (by omega),hl,Nat.sub_self,List.drop_eq_getElem_cons h,List.set_cons_zero,List.take_succ_eq_append_getElem h,List.map_append,List.append_assoc];rfl
theorem halfM_end (f:Pt->Pt) {R:List Pt} {j:Nat} (h:R.length<=j):halfM f R j=R.map f:=by
 unfold halfM;rw [List.take_of_length_le h,List.drop_of_length_le h,List.append_nil]
theorem min_near {l:List Pt} (h0:0 < l.length) (h:∀p∈l,Near p):Near (minP l):=by
 have key:∀ (r:List Pt) (o:Pt),Near o->(∀p∈r,Near p)->Near (r.foldl minF o):=by
  intro r;induction r with
  | nil=>intro o ho _;exact ho
  | cons x r ih=>
    intro o ho hr;rw [List.foldl_cons];refine ih _ ?_ (fun p hp=>hr p (List.mem_cons_of_mem _ hp));have hx:=hr x (List.mem_cons_self ..);unfold Near at*;unfold minF;dsimp only;omega
 unfold minP;refine key l _ ?_ h;rw [List.getD_eq_getElem?_getD,List.getElem?_eq_getElem h0];exact h _ (List.getElem_mem _)
theorem Sx.cut {size n c:Nat} {a:OA} {W:World} {xs:List Value} (h:Sx size W a n c xs):Sx size W a n n xs:=⟨h.1,Nat.le_refl _,Nat.le_trans h.2.1 h.2.2.1,h.2.2.2⟩
theorem row_addr {w W:World} {bs:List (Nat×Array Value×TypeId)} {b:OA} {N c':Nat} {e:TypeId} {size:Nat} {xs:List Value} {os:List Rw} {rs:List (World->Prop)} (h:Sy w W bs (⟨.slice b N c',e,size,N,xs⟩::os) rs) (hN:0 < N):∃g,b=some ⟨g,0,none⟩:=by
 have:=h.orow 0 rfl;rcases this.2 with ⟨h1,h2⟩ | ⟨g,cap,cur,hv,_⟩
 ·omega
 ·simp only [Value.slice.injEq]at hv;exact⟨g,hv.1⟩
def settledL (l:List Pt):List Pt:=(l.drop (l.idxOf (lowestP l))++l.take (l.idxOf (lowestP l))).map fun p=>(p.1 - (minP l).1,p.2 - (minP l).2)
section
variable (w:World)
theorem idxPt_any (a:OA) (n c:Nat) (l:List Pt) (p:Pt) (k:Nat) (hs:Sx 2 w a n c (L2 l)) (hn:n<=1000000) (hk:k < l.length) (h0:l[k]=p) (h1:∀j (hj:j < l.length),j < k->l[j]≠p):
  Calls Tryz.prog 212 #[.slice a n c,.agg #[.int .i64 p.1,.int .i64 p.2]] w (Gives (.int .i64 k) w):=by
 obtain rfl:=hs.n2;obtain ⟨g0,o0,rfl⟩:=hs.addr (by omega);obtain ⟨p0,p1⟩:=p;dsimp only;have Ab:=ζ (fun W (hW:Below w.heap.size w W) (i:Nat) (hi:i < l.length)=>(hs.below hW).at2 hi);have H0:=ζ h0;have H1:=ζ h1;have hC:=ζ ((Sy.enter w).al w.heap.size #[.int .i64 p0,.int .i64 p1] 47 rfl);clear hs h0 h1;go_enter Tryz.func212,Tryz.ntmps212;go_upto_region 1 with fail
 obtain ⟨b1,hb1⟩:∃b,w.heap.size=b:=⟨_,rfl⟩
 rw [hb1]at hC⊢;refine wp_geny (show Sy w _ [(b1,#[.int .i64 p0,.int .i64 p1],47)] [] []from hC.out) ?_;intro V0 hc;have hD:=ζ hc;clear hc hC hb1;go_wp2;go_loopw [5,8] (fun _ iv wr=>∃j:Nat,j<=k/\iv= .int .i64 j/\Hid (Sy w wr [(b1,#[.int .i64 p0,.int .i64 p1],47)] [] [])) (fun _ iv _=>k - (intOf iv).toNat)
 case atStart=>exact⟨0,Nat.zero_le _,rfl,hD⟩
 case round=>
  clear hD;obtain ⟨j,hj,rfl,hS⟩:=hrel;have i0:(0:Int)<=(j:Int):=by omega
  have i1:(j:Int) < (l.length:Int):=by omega
  have HX:=ζ (fun W hW=>Ab.out W hW j (by omega));by_cases hjk:j=k
  ·have HE:=ζ (show l[j]'(by omega)=(p0,p1)by rw [<-H0.out];congr 1);rw [HE.out]at HX;dsimp only at HX;have HJ:=ζ hjk;clear hjk HE;go_upto_region 4 with fail
   refine wp_region_held_drew (S:=(fun w'=>w'.cell? ⟨b1,0,none⟩=some (.int .i64 p0)/\w'.cell? ⟨b1,1,none⟩=some (.int .i64 p1)/\w'.cell? ⟨g0,o0+j*2,none⟩=some (.int .i64 p0)/\w'.cell? ⟨g0,o0+j*2+1,none⟩=some (.int .i64 p1)/\True)) (by kernel_rfl) ⟨hS.out.drew.c 0 0,hS.out.drew.c 0 1,(HX.out _ hS.out.drew.be).1,(HX.out _ hS.out.drew.be).2,trivial⟩ (fun hH=>?_);refine wpAnyH_geny (show Sy w _ [(b1,#[.int .i64 p0,.int .i64 p1],47)] [] []from hS.out.drew) hH ?_;intro Ac hc AC;have AR:=ζ hc;clear hc hH hS;refine tkA 0 rfl AC ?_;(try simp only [zP]);refine tkA 1 rfl AC ?_;(try simp only [zP]);refine tkA 2 rfl AC ?_;(try simp only [zP]);refine tkA 3 rfl AC ?_;(try simp only [zP]);refine tkA 4 rfl AC ?_;(try simp only [zP]);refine tkA 5 rfl AC ?_;(try simp only [zP]);refine wpAnyH_done (by kernel_rfl) ?_ _;go_wp2;go_ret;exact⟨ret_int (by rw [HJ.out]),AR.out.be⟩
  ·have HE:=ζ (H1.out j (by omega) (by omega));have hlt:j < k:=(by omega);generalize l[j]=q at*;obtain ⟨q0,q1⟩:=q;dsimp only at HX;have HN:=ζ (show ¬ (p0=q0/\p1=q1)from fun h=>HE.out (by rw [h.1,h.2]));clear HE hjk;go_upto_region 4 with fail
   refine wp_region_held_drew (S:=(fun w'=>w'.cell? ⟨b1,0,none⟩=some (.int .i64 p0)/\w'.cell? ⟨b1,1,none⟩=some (.int .i64 p1)/\w'.cell? ⟨g0,o0+j*2,none⟩=some (.int .i64 q0)/\w'.cell? ⟨g0,o0+j*2+1,none⟩=some (.int .i64 q1)/\True)) (by kernel_rfl) ⟨hS.out.drew.c 0 0,hS.out.drew.c 0 1,(HX.out _ hS.out.drew.be).1,(HX.out _ hS.out.drew.be).2,trivial⟩ (fun hH=>?_);refine wpAnyH_geny (show Sy w _ [(b1,#[.int .i64 p0,.int .i64 p1],47)] [] []from hS.out.drew) hH ?_;intro Ad hc AD;have AS:=ζ hc;clear hc hH hS;refine tkA 0 rfl AD ?_;(try simp only [zP]);refine tkA 1 rfl AD ?_;(try simp only [zP]);refine tkA 2 rfl AD ?_;(try simp only [zP]);refine tkA 3 rfl AD ?_;(try simp only [zP]);refine tkA 4 rfl AD ?_;(try simp only [zP]);refine wpAnyH_take (i:=5) (oi:=⟨_,_,_,_,_,_⟩) (v:= .bool false) rfl (by kernel_rfl) (by kernel_rfl) (by kernel_rfl) (fun _ _ _ h=>h) (Or.inl ⟨by rfl,?_⟩) AD ?_
   ·intro wS Af;(try dsimp only at Af);go_simp;have hn:=HN.out;by_cases h1:p0=q0<;>by_cases h2:p1=q1<;>simp [h1,h2]<;>exact hn ⟨h1,h2⟩
   (try simp only [zP]);refine wpAnyH_done (by kernel_rfl) ?_ _;go_wp2;go_roundw
   case rel=>exact⟨j+1,by omega,by go_num,AS⟩
   case measure=>simp [intOf];omega
theorem ssettled_any (a:OA) (n c:Nat) (l:List Pt) (hs:Sx 2 w a n c (L2 l)) (hn0:0 < n) (hn:n<=1000) (hN:∀p∈l,Near p):
  Calls Tryz.prog 184 #[.slice a n c] w (RetRow w 47 2 n (L2 (settledL l))):=by
 obtain rfl:=hs.n2;have AY:=ζ (fun W (hW:Below w.heap.size w W)=>sleast_any W a l.length c l (hs.below hW) hn0 (by omega));have AZ:=ζ (fun W (hW:Below w.heap.size w W)=>slowest_any W a l.length c l (hs.below hW) hn0 (by omega));obtain ⟨k,hk0,hk,hk1,hk2⟩:=idx_of (lowest_mem hn0);have A0:=ζ (fun W (hW:Below w.heap.size w W)=>idxPt_any W a l.length c l (lowestP l) k (hs.below hW) (by omega) hk hk1 hk2);have Ag:=ζ (show ∀p∈l.drop k++l.take k,Near p from fun p hp=>by
  rcases List.mem_append.1 hp with h | h
  ·exact hN p (List.mem_of_mem_drop h)
  ·exact hN p (List.mem_of_mem_take h))
 have A1:=ζ (show settledL l=(l.drop k++l.take k).map fun p=>(p.1 - (minP l).1,p.2 - (minP l).2)by unfold settledL;rw [hk0]);rw [A1.out];have Aj:=ζ (show Near (minP l)from min_near hn0 hN);have A6:=ζ (show(l.drop k++l.take k).length=l.length by rw [List.length_append,List.length_drop,List.length_take];omega);have hcap:=hs.cap;unfold maxLen at hcap;obtain ⟨g0,o0,rfl⟩:=hs.addr hn0;have A2:=ζ (fun W (hW:Below w.heap.size w W) a' c' (hv:Sx 1 W a' 2 c' [.slice (some ⟨g0,o0+k*2,none⟩) (l.length - k) (c - k),.slice (some ⟨g0,o0,none⟩) k k])=>
  concat_pts W a' c' _ _ _ _ _ _ (l.drop k) (l.take k) hv (by rw [<-L2_drop];exact(hs.below hW).drop (by omega)) (by rw [<-L2_take];exact Sx.cut ((hs.below hW).take (i:=k) (by omega))) (by omega) (by omega))
 rw [show l.length - k+k=l.length by omega]at A2;generalize l.drop k++l.take k=R at*;generalize minP l=mn at*;obtain ⟨m0,m1⟩:=mn;generalize lowestP l=lo at*;obtain ⟨lo0,lo1⟩:=lo;dsimp only at AY AZ A0 A1⊢;obtain ⟨N,A3⟩:∃N,l.length=N:=⟨_,rfl⟩
 have hRN:R.length=N:=A6.out.trans A3;have A7:=ζ hRN;have hkc:(k:Int)<=(c:Int):=by omega
 have hkn:(k:Int)<=(N:Int):=by omega
 have hk9:(0:Int)<=(k:Int):=by omega
 have hck:¬ c=k:=by omega
 rw [A3]at AY AZ A0 A2 hcap hn⊢;have hC:=ζ (Sy.enter w);have Ak:=ζ (show 0 < N by omega);clear hs hN hk0 hk1 hk2 hk A1 A6 hn0 A3 hRN;clear l;go_enter Tryz.func184,Tryz.ntmps184;go_wp2_with fail
 refine(AY.out _ hC.out.be).mono ?_;rintro e w1 ⟨rfl,hb⟩;have hD:=ζ ((hC.out.call hb).al w1.heap.size #[.int .i64 m0,.int .i64 m1] 47 rfl);clear hb hC;go_upto_region 2 with fail
 obtain ⟨b1,hb1⟩:∃b,w1.heap.size=b:=⟨_,rfl⟩
 rw [hb1]at hD⊢;refine wp_geny (show Sy w _ [(b1,#[.int .i64 m0,.int .i64 m1],47)] [] []from hD.out) ?_;intro V0 hc;have hE:=ζ hc;clear hc hD hb1;go_wp2_with fail
 refine(AZ.out _ hE.out.be).mono ?_;rintro e w2 ⟨rfl,hb⟩;have hF:=ζ (hE.out.call hb);clear hb hE;go_wp2_with fail
 refine(A0.out _ hF.out.be).mono ?_;rintro e w3 ⟨rfl,hb⟩;have hG:=ζ (hF.out.call hb);clear hb hF;go_upto_region 3 with fail
 refine wp_region_held_drew (S:=(fun w'=>True)) (by kernel_rfl) trivial (fun hH=>?_);refine wpAnyH_geny (show Sy w _ [(b1,#[.int .i64 m0,.int .i64 m1],47)] [] []from hG.out.drew) hH ?_;intro AI hc AA;have AJ:=ζ hc;clear hc hH hG;refine tkA 0 rfl AA ?_;try simp only [zP]
 refine tkA 1 rfl AA ?_;try simp only [zP]
 refine tkA 2 rfl AA ?_;try simp only [zP]
 refine tkA 3 rfl AA ?_;try simp only [zP]
 refine tkA 4 rfl AA ?_;try simp only [zP]
 refine tkA 5 rfl AA ?_;try simp only [zP]
 refine tkA 6 rfl AA ?_;try simp only [zP]
 refine rdy1 7 rfl (fun Kq AF=>?_);go_simp;refine stepZ AF (show Sy w _ [(b1,#[.int .i64 m0,.int .i64 m1],47)] [⟨.slice (some ⟨AI.heap.size,0,none⟩) 2 2,48,1,2,[.slice (some ⟨g0,o0+k*2,none⟩) (N - k) (c - k),.slice (some ⟨g0,o0,none⟩) k k]⟩] []from(AJ.out.onew AI.heap.size #[.slice (some ⟨g0,o0+k*2,none⟩) (N - k) (c - k),.slice (some ⟨g0,o0,none⟩) k k] 48 1 2 rfl (by omega) rfl)) (fun _ hX=>trivial) ?_;intro Al AG AT;clear AF Kq AJ AA;try simp only [zP]
 refine rdy1 8 rfl (fun Kq AF=>?_);go_simp;go_at_call 213;refine(A2.out _ AG.out.be _ _ (AG.out.osx 0 rfl)).mono ?_;rintro e wT ⟨b9,c9,rfl,hr,hb⟩;(try go_wp2_with fail);refine stepZ AF (show Sy w _ [(b1,#[.int .i64 m0,.int .i64 m1],47)] [⟨.slice (some ⟨AI.heap.size,0,none⟩) 2 2,48,1,2,[.slice (some ⟨g0,o0+k*2,none⟩) (N - k) (c - k),.slice (some ⟨g0,o0,none⟩) k k]⟩,⟨.slice b9 N c9,47,2,N,L2 (R)⟩] []from(AG.out.adopt hb hr)) (fun _ hX=>trivial) ?_;intro Am AK AU;clear AF Kq AG hb hr AT;try simp only [zP]
 refine rdy1 9 rfl (fun Kq AF=>?_);go_simp;refine stepZ AF (show Sy w _ [(b1,#[.int .i64 m0,.int .i64 m1],47)] [⟨.slice (some ⟨AI.heap.size,0,none⟩) 2 2,48,1,2,[.slice (some ⟨g0,o0+k*2,none⟩) (N - k) (c - k),.slice (some ⟨g0,o0,none⟩) k k]⟩,⟨.slice b9 N c9,47,2,N,L2 (R)⟩] []from AK.out) (fun _ hX=>trivial) ?_;intro A4 AL AV;clear AF Kq AK AU;try simp only [zP]
 refine wpAnyH_done (by kernel_rfl) ?_ _;have hH:Hid (Sy w A4 [(b1,#[.int .i64 m0,.int .i64 m1],47)] [⟨.slice b9 N c9,47,2,N,L2 (R)⟩] []):=ζ (AL.out.thin (List.Sublist.refl _) (by simp));clear AL AV;have Av:=Ak.out;go_wp2;go_loopw [24] (fun iv wr=>∃j:Nat,j<=N/\iv= .int .i64 j/\Hid (Sy w wr [(b1,#[.int .i64 m0,.int .i64 m1],47)] [⟨.slice b9 N c9,47,2,N,L2 (halfM (fun p:Pt=>(p.1 - m0,p.2 - m1)) R j)⟩] [])) (fun iv _=>N - (intOf iv).toNat)
 case atStart=>exact⟨0,Nat.zero_le _,rfl,hH⟩
 case round=>
  clear hH;obtain ⟨j,hj,rfl,hS⟩:=hrel;have i0:(0:Int)<=(j:Int):=by omega
  by_cases hlt:j < N
  ·have i1:(j:Int) < (N:Int):=(by omega);have hjR:j < R.length:=(by rw [A7.out];exact hlt);have hgj:=halfM_at (fun p:Pt=>(p.1 - m0,p.2 - m1)) hjR;have hlj:=halfM_len (fun p:Pt=>(p.1 - m0,p.2 - m1)) (Nat.le_of_lt hjR);have AP:=ζ (halfM_set (fun p:Pt=>(p.1 - m0,p.2 - m1)) hjR);have hnp:=Ag.out R[j] (List.getElem_mem hjR);have hnm:=Aj.out;generalize R[j]=p at*;obtain ⟨p0,p1⟩:=p;dsimp only at AP hgj hnp;generalize halfM (fun p:Pt=>(p.1 - m0,p.2 - m1)) R j=Q at*;have AX:j < Q.length:=(by omega);have AQ:=ζ (L2_at AX);have A8:Q[j]=(p0,p1):=(by rw [List.getElem?_eq_getElem AX]at hgj;exact Option.some.inj hgj);rw [A8]at AQ;have A5:=ζ (L2_set Q j (p0 - m0,p1 - m1) AX);rw [AP.out]at A5;unfold Near at hnp hnm;dsimp only at hnp hnm AQ A5;have An:=ζ (fun W=>ssub_any W p0 p1 m0 m1 (by omega) (by omega));clear hgj hlj A8 AP hnp hnm hjR AX;obtain ⟨g9,rfl⟩:=row_addr hS.out (by omega);go_upto_region 7 with fail
   refine wp_region_held_drew (S:=(fun w'=>w'.cell? ⟨b1,0,none⟩=some (.int .i64 m0)/\w'.cell? ⟨b1,1,none⟩=some (.int .i64 m1)/\True)) (by kernel_rfl) ⟨hS.out.drew.c 0 0,hS.out.drew.c 0 1,trivial⟩ (fun hH=>?_);refine wpAnyH_geny (show Sy w _ [(b1,#[.int .i64 m0,.int .i64 m1],47)] [⟨.slice (some ⟨g9,0,none⟩) N c9,47,2,N,L2 Q⟩] []from hS.out.drew) hH ?_;intro Ap hc AB;have AH:=ζ hc;clear hc hH hS;refine tkA 0 rfl AB ?_;(try simp only [zP]);refine tkA 1 rfl AB ?_;(try simp only [zP]);refine tkA 2 rfl AB ?_;(try simp only [zP]);refine tkA 3 rfl AB ?_;(try simp only [zP]);refine tkA 4 rfl AB ?_;(try simp only [zP]);refine tkA 6 rfl AB ?_;(try simp only [zP]);refine rdy1 5 rfl (fun Kq AF=>?_);have cQ0:=AH.out.rcell 0 rfl AQ.out.1;have cQ1:=AH.out.rcell 0 rfl AQ.out.2;go_simp;refine stepZ AF (show Sy w _ [(b1,#[.int .i64 m0,.int .i64 m1],47)] [⟨.slice (some ⟨g9,0,none⟩) N c9,47,2,N,L2 Q⟩] []from AH.out) (fun _ hX=>⟨hX.c 0 0,hX.c 0 1,trivial⟩) ?_;intro Aq AM AW;clear AF Kq AH cQ0 cQ1 AB;(try simp only [zP]);refine rdy1 7 rfl (fun Kq AF=>?_);go_simp;go_at_call 214;refine(An.out _).mono ?_;rintro e wT ⟨rfl,hb⟩;(try go_wp2_with fail);refine stepZ AF (show Sy w _ [(b1,#[.int .i64 m0,.int .i64 m1],47)] [⟨.slice (some ⟨g9,0,none⟩) N c9,47,2,N,L2 Q⟩] []from(AM.out.call hb)) (fun _ hX=>⟨hX.c 0 0,hX.c 0 1,trivial⟩) ?_;intro Ar AE AN;clear AF Kq AM hb AW;(try simp only [zP]);refine tkA 8 rfl AN ?_;(try simp only [zP]);refine rdy1 9 rfl (fun Kq AF=>?_);have cQ0:=AE.out.rcell 0 rfl AQ.out.1;have cQ1:=AE.out.rcell 0 rfl AQ.out.2;have fQ0:=AE.out.rfree 0 rfl (j*2);have fQ1:=AE.out.rfree 0 rfl (j*2+1);go_simp;refine stepZ AF (show Sy w _ [(b1,#[.int .i64 m0,.int .i64 m1],47)] [⟨.slice (some ⟨g9,0,none⟩) N c9,47,2,N,((L2 Q).set (j*2) (.int .i64 (p0 - m0))).set (j*2+1) (.int .i64 (p1 - m1))⟩] []from((AE.out.ostore 0 rfl (j*2) (.int .i64 (p0 - m0))).ostore 0 rfl (j*2+1) (.int .i64 (p1 - m1)))) (fun _ hX=>⟨hX.c 0 0,hX.c 0 1,trivial⟩) ?_;intro As AO A9;clear AF Kq AE cQ0 cQ1 fQ0 fQ1 AN;(try simp only [Act.put]);refine wpAnyH_done (by kernel_rfl) ?_ _;have hJ:=ζ AO.out;rw [A5.out]at hJ;clear AO;go_wp2;go_roundw
   case rel=>exact⟨j+1,by omega,by go_num,hJ⟩
   case measure=>simp [intOf];omega
  ·obtain rfl:j=N:=by omega
   have i1:¬ (j:Int) < (j:Int):=(by omega);have HL:=ζ (halfM_end (fun p:Pt=>(p.1 - m0,p.2 - m1)) (show R.length<=j by rw [A7.out];exact Nat.le_refl _));rw [HL.out]at hS;clear HL;go_wp2;go_ret;exact⟨_,_,rfl,hS.out.orow 0 rfl,hS.out.be⟩
end
end
end Go.Proofs.YtjpojeapdgjbhaaGreatDoor
