/- part -/
import Derived.Test.YthmdhlopeponcaaGreatDoorK30
set_option maxRecDepth 100000
set_option maxHeartbeats 2000000
namespace Go.Proofs.YthmdhlopeponcaaGreatDoor
open Go.RowKit Dig
theorem St.grown {w W W':World} {bs:List (Nat×Array Value×TypeId)} {row:Option Nat} (h:St w W bs []) (hg:W.grownBy W' row) (hr:∀j,row=some j->w.heap.size<=j/\∀x∈bs,x.1≠j):St w W' bs [] where
 be:=h.be.grown hg h.be.size (fun j hj=>(hr j hj).1)
 bx x hx:=by
  obtain ⟨h1,h2,h3,h4⟩:=h.bx x hx;exact⟨h1,Nat.lt_of_lt_of_le h2 hg.size,(hg.block _ h2 (fun e=>(hr x.1 e.symm).2 x hx rfl)).trans h3,h4⟩
 inc:=h.inc
 rd:=by simp
theorem crN_step {l:List Int} {x q r:Int} (hq:((cr 10000 0 l).2+x).tdiv 10000=q) (hr:((cr 10000 0 l).2+x).tmod 10000=r):
  cr 10000 0 (l++ [x])=((cr 10000 0 l).1++ [if r < 0 then r+10000 else r],if r < 0 then q - 1 else q):=by
 rw [cr_snoc,Int.add_comm x];generalize (cr 10000 0 l).2+x=y at*;have h:y % 10000=(if r < 0 then r+10000 else r)/\y / 10000=(if r < 0 then q - 1 else q):=by
  by_cases hy:0<=y
  ·obtain ⟨h1,h2⟩:=tdiv_pos hy;have:0<=r:=(by omega);rw [if_neg (by omega),if_neg (by omega)];omega
  ·obtain ⟨h1,h2⟩:=tdiv_neg (show y < 0 by omega);by_cases h0:y % 10000=0
   ·have:=h1 h0;rw [if_neg (by omega),if_neg (by omega)];omega
   ·have:=h2 h0;rw [if_pos (by omega),if_pos (by omega)];omega
 rw [h.1,h.2]
def RetM (w:World) (sg V:Int) (e:Ending) (w':World):Prop:=∃a n c s,e= .returned (.agg #[.int .i64 s,.slice a n c])/\s=(if V=0 then 0 else sg)/\Sl 3 w' (.slice a n c) (dg 10000 V.toNat)/\Below w.heap.size w w'/\∀j,Value.ownBlock (.slice a n c)=some j->w.heap.size<=j
theorem rmade_any (sg:Int) (a:OA) (n c:Nat) (xs:List Int) (w:World) (hs:Sl 3 w (.slice a n c) xs) (hb:∀x∈xs,-1000000000000000<=x/\x<=1000000000000000) (h0:0<=vl 10000 xs) (hl:xs.length<=100000):
  Calls Tryz.prog 169 #[.int .i64 sg,.slice a n c] w (RetM w sg (vl 10000 xs)):=by
 have hn:=hs.len;subst hn;have hC:=ζ ((St.enter w).al w.heap.size #[.int .i64 0,.slice none 0 0] 48 rfl rfl);have HS:=ζ hs;have HB:=ζ hb;have H0:=ζ h0;clear hs hb h0;go_enter Tryz.func169,Tryz.ntmps169;go_wp2;go_loopg [5,6,7] (xs.length+30) (fun gk ov cv iv wr=>∃ (k:Nat) (oa:OA) (on oc:Nat),k<=xs.length+30/\gk=xs.length+30 - k/\iv= .int .i64 k/\cv= .int .i64 (cr 10000 0 (ext xs k)).2/\ov= .slice oa on oc/\
  Hid (xs.length<=k->(cr 10000 0 (ext xs k)).2*10 ^ (k - xs.length)<=1000000000000)/\Hid (Sl 3 wr (.slice oa on oc) (cr 10000 0 (ext xs k)).1)/\Hid (∀j,Value.ownBlock (.slice oa on oc)=some j->w.heap.size < j)/\
  Hid (St w wr [(w.heap.size,#[.int .i64 0,.slice none 0 0],48)] []))
 case atStart=>exact⟨0,none,0,0,by omega,by omega,rfl,rfl,rfl,fun _=>by simp [ext,cr],Sl.nil,fun j hj=>by simp [Value.ownBlock]at hj,hC.out⟩
 case round=>
  clear hC;obtain ⟨k,oa,on,oc,hk,rfl,rfl,rfl,rfl,HV,HO,AB,hC⟩:=hrel;have cb:=crN_bound 0 (ext xs k) (ext_mem HB.out k) (by omega) (by omega);have hol:=HO.out.len;rw [cr_len,ext_len hk]at hol;obtain rfl:k=on:=hol.symm;by_cases hlt:k < xs.length
  ·have hsr:=HS.out.below hC.out.be HS.out.lt;obtain ⟨g,rfl,hgl⟩:=hsr.row (by omega);have hc:=hsr.cell (k:=k) hlt;have bx:=HB.out _ (List.getElem_mem hlt);have HE:=ζ (ext_lt hlt);obtain ⟨X,hX⟩:∃X:Int,X=xs[k]:=⟨_,rfl⟩
   rw [<-hX]at hc bx;obtain ⟨C,AC⟩:∃C:Int,C=(cr 10000 0 (ext xs k)).2:=⟨_,rfl⟩
   rw [<-AC]at cb⊢;obtain ⟨q,hq⟩:∃q:Int,(C+X).tdiv 10000=q:=⟨_,rfl⟩
   obtain ⟨r,hr⟩:∃r:Int,(C+X).tmod 10000=r:=⟨_,rfl⟩
   have AH:=ζ (show cr 10000 0 (ext xs k++ [xs[k]])=((cr 10000 0 (ext xs k)).1++ [if r < 0 then r+10000 else r],if r < 0 then q - 1 else q)from crN_step (l:=ext xs k) (x:=xs[k]) (by rw [<-hX,<-AC];exact hq) (by rw [<-hX,<-AC];exact hr));have HX:=ζ hX;have AK:=ζ AC;have hlt':(k:Int) < (xs.length:Int):=(by omega);have hq1: -1000000000000<=q/\q<=1000000000000/\ -10000 < r/\r < 10000:=by
    by_cases hy:0<=C+X
    ·have:=tdiv_pos hy;omega
    ·have:=tdiv_neg (show C+X < 0 by omega);by_cases h0:(C+X) % 10000=0
     ·have:=this.1 h0;omega
     ·have:=this.2 h0;omega
   obtain ⟨q1,q2,r1,r2⟩:=hq1;clear hX AC hsr;have hlb:k+1<=xs.length:=hlt;by_cases hneg:r < 0
   ·have hd:decide (r < 0)=true:=(by simpa using hneg);go_wp2_with (at_builtin;refine wpList_append_sl _ rfl _ _ 23 rfl 3 Tryz.underlying23 info_int _ _ rfl (HO.out.alloc _) _ _ rfl (Sl.one _ _ _) ?c3 ?_)
    case c3=>simp [cr_len,ext_len hk];omega
    intro a2 n2 c2 w2 ho2 hg2 hs2;have AE:=ζ (hC.out.row.grown hg2 (fun j hj=>⟨by have:=AB.out j hj;omega,fun x hx=>by rcases List.mem_singleton.1 hx with rfl;have:=AB.out j hj;show w.heap.size≠j;omega⟩));have AA:=ζ ho2;have AD:=ζ (show ∀j,Value.ownBlock (.slice a2 n2 c2)=some j->w.heap.size < j from fun j hj=>by
     rcases hs2 j hj with h | h
     ·exact AB.out j h
     ·have:=hC.out.lt 0 rfl;have h3:wr.heap.size<=j:=Nat.le_trans (by simp) h;omega)
    clear ho2 hg2 hs2;go_wp2;go_roundg (xs.length+30 - (k+1))
    case measure=>omega
    case rel=>
     have hst:=AH.out;rw [if_pos (by omega),if_pos (by omega)]at hst;refine⟨k+1,a2,n2,c2,by omega,rfl,by go_num,by rw [HE.out,hst],rfl,?_,?_,AD,AE⟩
     ·intro hh;have e:k+1 - xs.length=0:=by omega
      rw [e,HE.out,hst];show(q - 1)*10 ^ 0<=1000000000000;rw [Int.pow_zero,Int.mul_one];omega
     ·rw [HE.out,hst];exact AA.out
   ·have hd:decide (r < 0)=false:=(by simpa using hneg);go_wp2_with (at_builtin;refine wpList_append_sl _ rfl _ _ 23 rfl 3 Tryz.underlying23 info_int _ _ rfl (HO.out.alloc _) _ _ rfl (Sl.one _ _ _) ?c3 ?_)
    case c3=>simp [cr_len,ext_len hk];omega
    intro a2 n2 c2 w2 ho2 hg2 hs2;have AE:=ζ (hC.out.row.grown hg2 (fun j hj=>⟨by have:=AB.out j hj;omega,fun x hx=>by rcases List.mem_singleton.1 hx with rfl;have:=AB.out j hj;show w.heap.size≠j;omega⟩));have AA:=ζ ho2;have AD:=ζ (show ∀j,Value.ownBlock (.slice a2 n2 c2)=some j->w.heap.size < j from fun j hj=>by
     rcases hs2 j hj with h | h
     ·exact AB.out j h
     ·have:=hC.out.lt 0 rfl;have h3:wr.heap.size<=j:=Nat.le_trans (by simp) h;omega)
    clear ho2 hg2 hs2;go_wp2;go_roundg (xs.length+30 - (k+1))
    case measure=>omega
    case rel=>
     have hst:=AH.out;rw [if_neg (by omega),if_neg (by omega)]at hst;refine⟨k+1,a2,n2,c2,by omega,rfl,by go_num,by rw [HE.out,hst],rfl,?_,?_,AD,AE⟩
     ·intro hh;have e:k+1 - xs.length=0:=by omega
      rw [e,HE.out,hst];show q*10 ^ 0<=1000000000000;rw [Int.pow_zero,Int.mul_one];omega
     ·rw [HE.out,hst];exact AA.out
  ·have hge:xs.length<=k:=(by omega);have hge':decide ((k:Int) < (xs.length:Int))=false:=(by simp;omega);have cn:=crN_nonneg H0.out hge;have hv:=HV.out hge;by_cases hz:(cr 10000 0 (ext xs k)).2=0
   ·have AL:=ζ (crN_end hge hz);have HM:=ζ (cr_mem (b:=10000) (by omega) 0 (ext xs k));have AM:(cr 10000 0 (ext xs k)).1.length=k:=(by rw [cr_len,ext_len hk]);have AF:=ζ AM;rw [hz];clear cb cn hv hz AM HV;generalize (cr 10000 0 (ext xs k)).1=L at*;go_wp2;go_loop [5] (fun d=>∃ (a2:OA) (m c2:Nat),d= .slice a2 m c2/\m<=L.length/\Hid (Sl 3 wr (.slice a2 m c2) (L.take m))/\Hid (vl 10000 (L.take m)=vl 10000 L)/\Hid (∀j,Value.ownBlock (.slice a2 m c2)=some j->w.heap.size < j)) (fun d=>match d with | .slice _ m _=>m | _=>0)
    case atStart=>exact⟨oa,k,oc,rfl,Nat.le_of_eq AF.out.symm,by rw [<-AF.out,List.take_length];have:=HO.out;rw [<-AF.out]at this;exact this,by rw [<-AF.out,List.take_length];exact rfl,AB.out⟩
    case round=>
     obtain ⟨a2,m,c2,rfl,hm,AA,AI,AD⟩:=hrel;have AQ:=AF.out;have hcap:=AA.out.cap;have d0:=hC.out.c 0 0;have d1:=hC.out.c 0 1;have g0:=hC.out.f 0 0;have g1:=hC.out.f 0 1;by_cases hm0:m=0
     ·subst hm0;have hz0:vl 10000 xs=0:=(by rw [<-AL.out,<-AI.out,List.take_zero];rfl);have AN:=ζ hz0;clear hz0;go_wp2;refine ret_st (hC.out.set 0 rfl|>.set 0 rfl) (v:= .agg #[.int .i64 0,.slice none 0 0]) (fun hF=>?_) rfl (fun hF=>⟨none,0,0,0,rfl,by rw [if_pos AN.out],by rw [AN.out];show Sl _ _ _ (dg 10000 0);rw [dg_zero];exact Sl.nil,hF.be,fun j hj=>by simp [Value.ownBlock]at hj⟩);have e0:=hF.c 0 0;have e1:=hF.c 0 1;simp [results,Tryz.results169,go_sem,e0,e1]
     ·obtain ⟨j,rfl⟩:∃j,m=j+1:=⟨m - 1,by omega⟩
      obtain ⟨g,rfl,hgl⟩:=AA.out.row (by simp;omega);have hc:wr.cell? ⟨g,j,none⟩=some (.int .i64 L[j]):=by
       rw [AA.out.cell (k:=j) (by simp;omega)];simp
      by_cases hz:L[j]=0
      ·rw [hz]at hc;have AJ:=ζ hz;clear hz hm0;go_wp2;go_round
       case rel=>
        refine⟨_,j,c2,rfl,by omega,?_,?_,fun i hi=>AD.out i hi⟩
        ·have:=AA.out.pop (k:=j) (by simp;omega);rwa [List.take_take,Nat.min_eq_left (by omega)]at this
        ·rw [<-AI.out,vl_take_zero 10000 hm AJ.out];exact rfl
       case measure=>simp
      ·have hz':(L[j]==0)=false:=(by simpa using hz);have AJ:=ζ hz;clear hz hm0;go_wp2;have hfin:L.take (j+1)=dg 10000 (vl 10000 xs).toNat:=dg_of_take (by omega) hm HM.out (by rw [Int.toNat_of_nonneg H0.out,<-AL.out];exact AI.out) (fun _=>by
        rw [Nat.add_sub_cancel,List.getElem?_eq_getElem (by omega)];exact AJ.out)
       have AO:vl 10000 xs≠0:=by
        intro e;rw [e]at hfin;have:=congrArg List.length hfin;rw [List.length_take,show dg 10000 (0:Int).toNat= []from dg_zero _]at this;simp only [List.length_nil]at this;omega
       refine ret_st (hC.out.set 0 rfl|>.set 0 rfl) (v:= .agg #[.int .i64 sg,.slice (some ⟨g,0,none⟩) (j+1) c2]) (fun hF=>?_) rfl (fun hF=>⟨_,_,c2,sg,rfl,by rw [if_neg AO],?_,hF.be,fun j hj=>Nat.le_of_lt (AD.out j hj)⟩)
       ·have e0:=hF.c 0 0;have e1:=hF.c 0 1;simp [results,Tryz.results169,go_sem,e0,e1]
       ·rw [<-hfin];have hne:Value.ownBlock (.slice (some ⟨g,0,none⟩) (j+1) c2)≠some w.heap.size:=fun e=>by have:=AD.out _ e;omega
        exact(AA.out.other hne _).other hne _
   ·have AG:cr 10000 0 (ext xs k++ [0])=((cr 10000 0 (ext xs k)).1++ [(cr 10000 0 (ext xs k)).2 % 10000],(cr 10000 0 (ext xs k)).2 / 10000):=(by rw [cr_snoc,Int.zero_add]);have hk12:k < xs.length+30:=by
     have h1:(10:Int) ^ (k - xs.length)<=1000000000000:=by
      have h2:(1:Int)*10 ^ (k - xs.length)<=(cr 10000 0 (ext xs k)).2*10 ^ (k - xs.length):=Int.mul_le_mul_of_nonneg_right (by omega) (Int.pow_nonneg (by omega));omega
     have h3:(10:Nat) ^ (k - xs.length)<=1000000000000:=Int.ofNat_le.1 (by rw [Int.natCast_pow];exact h1);rw [show(1000000000000:Nat)=10 ^ 12 from rfl]at h3;have:=(Nat.pow_le_pow_iff_right (by omega)).1 h3;omega
    have HE:=ζ (ext_ge hge hk12);have AH:=ζ AG;obtain ⟨C,AC⟩:∃C:Int,C=(cr 10000 0 (ext xs k)).2:=⟨_,rfl⟩
    have AP:=ζ (show C / 10000*10 ^ (k+1 - xs.length)<=1000000000000 by
     rw [<-AC]at hv cn;have e1:k+1 - xs.length=(k - xs.length)+1:=(by omega);rw [e1,Int.pow_succ,Int.mul_comm (10 ^ (k - xs.length)) 10,<-Int.mul_assoc];refine Int.le_trans (Int.mul_le_mul_of_nonneg_right (show C / 10000*10<=C by omega) (Int.pow_nonneg (by omega))) hv)
    have AK:=ζ AC;rw [<-AC]at cb cn hz⊢;have hz':(C !=0)=true:=bne_iff_ne.2 hz;clear AC hz hv AG;go_wp2_with (at_builtin;refine wpList_append_sl _ rfl _ _ 23 rfl 3 Tryz.underlying23 info_int _ _ rfl (HO.out.alloc _) _ _ rfl (Sl.one _ _ _) ?c3 ?_)
    case c3=>simp [cr_len,ext_len hk];omega
    intro a2 n2 c2 w2 ho2 hg2 hs2;have AE:=ζ (hC.out.row.grown hg2 (fun j hj=>⟨by have:=AB.out j hj;omega,fun x hx=>by rcases List.mem_singleton.1 hx with rfl;have:=AB.out j hj;show w.heap.size≠j;omega⟩));have AA:=ζ ho2;have AD:=ζ (show ∀j,Value.ownBlock (.slice a2 n2 c2)=some j->w.heap.size < j from fun j hj=>by
     rcases hs2 j hj with h | h
     ·exact AB.out j h
     ·have:=hC.out.lt 0 rfl;have h3:wr.heap.size<=j:=Nat.le_trans (by simp) h;omega)
    clear ho2 hg2 hs2;go_wp2;go_roundg (xs.length+30 - (k+1))
    case measure=>omega
    case rel=>
     have hst:=AH.out;rw [<-AK.out]at hst;refine⟨k+1,a2,n2,c2,by omega,rfl,by go_num,by rw [HE.out,hst],rfl,?_,?_,AD,AE⟩
     ·intro hh;rw [HE.out,hst];exact AP.out
     ·rw [HE.out,hst];exact AA.out
theorem Nz.keep {w w':World} {s:Int} {g:Value} {z:Int} (h:Nz w s g z) (hk:Keeps w w'):Nz w' s g z:=⟨h.s,Sl.keep h.g rfl hk⟩
section
variable {w W:World} {bs:List (Nat×Array Value×TypeId)} {rs:List (World->Prop)}
theorem St.pn (h:St w W bs rs) {s:Int} {g:Value} {z:Int} (hz:Nz W s g z):St w W bs (rs++ [fun V=>Nz V s g z]):=h.push (fun _ _ k hz=>hz.keep k) hz
theorem St.n (h:St w W bs rs) (i:Nat) {s:Int} {g:Value} {z:Int} (hx:rs[i]? =some (fun V=>Nz V s g z)):Nz W s g z:=(h.rd _ (List.mem_of_getElem? hx)).2
end
def RetN (w:World) (z:Int) (e:Ending) (w':World):Prop:=∃s a n c,e= .returned (.agg #[.int .i64 s,.slice a n c])/\Nz w' s (.slice a n c) z/\Below w.heap.size w w'
def RetNF (w:World) (z:Int) (e:Ending) (w':World):Prop:=∃s a n c,e= .returned (.agg #[.int .i64 s,.slice a n c])/\Nz w' s (.slice a n c) z/\Below w.heap.size w w'/\∀j,Value.ownBlock (.slice a n c)=some j->w.heap.size<=j
theorem RetNF.n {w w':World} {z:Int} {e:Ending} (h:RetNF w z e w'):RetN w z e w':=by
 obtain ⟨s,a,n,c,h1,h2,h3,_⟩:=h;exact⟨s,a,n,c,h1,h2,h3⟩
theorem RetM.f {w w':World} {sg V:Int} {e:Ending} (h:RetM w sg V e w') (h0:0<=V) (hs:V=0\/sg=1\/sg= -1):RetNF w (sg*V) e w':=by
 obtain ⟨a,n,c,s,rfl,rfl,hsl,hb,hf⟩:=h;refine⟨_,a,n,c,rfl,⟨?_,?_⟩,hb,hf⟩
 ·unfold sgnN;rcases hs with rfl | rfl | rfl
  ·simp
  ·by_cases h:V=0
   ·subst h;simp
   ·rw [if_neg h,if_neg (by omega),if_neg (by omega)]
  ·by_cases h:V=0
   ·subst h;simp
   ·rw [if_neg h,if_neg (by omega),if_pos (by omega)]
 ·have e:(sg*V).natAbs=V.toNat:=by
   rcases hs with rfl | rfl | rfl
   ·simp
   ·omega
   ·omega
  rw [e];exact hsl
theorem Nz.sb {w:World} {s:Int} {g:Value} {z:Int} (h:Nz w s g z):s=0\/s=1\/s= -1:=by
 rw [h.s];unfold sgnN;split
 ·exact .inl rfl
 ·split
  ·exact .inr (.inr rfl)
  ·exact .inr (.inl rfl)
theorem rmade_b {w:World} {sg:Int} {a:OA} {n c:Nat} {xs:List Int} (hs:Sl 3 w (.slice a n c) xs) (hb:∀x∈xs,-1000000000000000<=x/\x<=1000000000000000) (h0:0<=vl 10000 xs) (hl:xs.length<=100000) (hsg:vl 10000 xs=0\/sg=1\/sg= -1):
  Calls Tryz.prog 169 #[.int .i64 sg,.slice a n c] w (RetN w (sg*vl 10000 xs)):=
 (rmade_any sg a n c xs w hs hb h0 hl).mono fun _ _ h=>(h.f h0 hsg).n
theorem rmade_f {w:World} {sg:Int} {a:OA} {n c:Nat} {xs:List Int} (hs:Sl 3 w (.slice a n c) xs) (hb:∀x∈xs,-1000000000000000<=x/\x<=1000000000000000) (h0:0<=vl 10000 xs) (hl:xs.length<=100000) (hsg:vl 10000 xs=0\/sg=1\/sg= -1):
  Calls Tryz.prog 169 #[.int .i64 sg,.slice a n c] w (RetNF w (sg*vl 10000 xs)):=
 (rmade_any sg a n c xs w hs hb h0 hl).mono fun _ _ h=>h.f h0 hsg
theorem zneg_any (s1:Int) (a1:OA) (n1 c1:Nat) (z1:Int) (w:World) (h1:Nz w s1 (.slice a1 n1 c1) z1):
  Calls Tryz.prog 164 #[.agg #[.int .i64 s1,.slice a1 n1 c1]] w (RetN w (-z1)):=by
 have hs:=h1.sb;have HG:=ζ h1.g;have HS:=ζ (show -s1=sgnN (-z1)by rw [h1.s];unfold sgnN;by_cases h:z1=0;subst h;rfl;by_cases h2:z1 < 0;rw [if_neg h,if_pos h2,if_neg (by omega),if_neg (by omega)];omega;rw [if_neg h,if_neg h2,if_neg (by omega),if_pos (by omega)]);have b1: -1<=s1:=by omega
 have b2:s1<=1:=by omega
 clear hs;have hC:=ζ ((((St.enter w).pn h1).al (w.heap.size) #[.int .i64 s1,.slice a1 n1 c1] 48 rfl rfl).al (w.heap.size+1) #[.int .i64 (-s1),.slice a1 n1 c1] 48 (by simp) rfl);clear h1;go_enter Tryz.func164,Tryz.ntmps164;go_wp2;refine ret_st hC.out (v:= .agg #[.int .i64 (-s1),.slice a1 n1 c1]) (fun hF=>?_) rfl (fun hF=>⟨_,_,_,_,rfl,⟨HS.out,by rw [Int.natAbs_neg];exact(hF.n 0 rfl).g⟩,hF.be⟩)
 ·have e0:=hF.c 1 0;have e1:=hF.c 1 1;simp [results,Tryz.results164,go_sem,e0,e1]
theorem zabs_any (s1:Int) (a1:OA) (n1 c1:Nat) (z1:Int) (w:World) (h1:Nz w s1 (.slice a1 n1 c1) z1):
  Calls Tryz.prog 183 #[.agg #[.int .i64 s1,.slice a1 n1 c1]] w (RetN w (z1.natAbs:Int)):=by
 have HS:=ζ (show s1*s1=sgnN (z1.natAbs:Int)by rw [h1.s];unfold sgnN;by_cases h:z1=0;subst h;rfl;by_cases h2:z1 < 0;rw [if_neg h,if_pos h2,if_neg (by omega),if_neg (by omega)];rfl;rw [if_neg h,if_neg h2,if_neg (by omega),if_neg (by omega)];rfl);have hw:IntKind.i64.wrap (s1*s1)=s1*s1:=by
  rcases h1.sb with h | h | h<;>rw [h]<;>rfl
 have hC:=ζ ((((St.enter w).pn h1).al (w.heap.size) #[.int .i64 s1,.slice a1 n1 c1] 48 rfl rfl).al (w.heap.size+1) #[.int .i64 (s1*s1),.slice a1 n1 c1] 48 (by simp) rfl);clear h1;go_enter Tryz.func183,Tryz.ntmps183;go_wp2;refine ret_st hC.out (v:= .agg #[.int .i64 (s1*s1),.slice a1 n1 c1]) (fun hF=>?_) rfl (fun hF=>⟨_,_,_,_,rfl,⟨HS.out,by rw [Int.natAbs_natCast];exact(hF.n 0 rfl).g⟩,hF.be⟩)
 ·have e0:=hF.c 1 0;have e1:=hF.c 1 1;simp [results,Tryz.results183,go_sem,e0,e1]
end Go.Proofs.YthmdhlopeponcaaGreatDoor
