/- part -/
import Derived.Test.YthmdhlopeponcaaGreatDoorK20
import Derived.Test.YthmdhlopeponcaaGreatDoorK21
set_option maxRecDepth 100000
set_option maxHeartbeats 8000000
namespace Go.Proofs.YthmdhlopeponcaaGreatDoor
open Go.RowKit Go.Shelf Dig
def RetRows (w:World) (k:Int) (rows:List (Int×Int×List (Int×Int))) (e:Ending) (w':World):Prop:=
 (k≠0/\e= .returned (.tuple #[.slice none 0 0,.int .i64 k])/\Below w.heap.size w w')\/
 (k=0/\∃ (a:OA) (c:Nat) (T:List Rwx),Hid (T.map nR=rows)/\e= .returned (.tuple #[.slice a T.length c,.int .i64 0])/\Hid (Sx 3 w' a T.length c (LRw T)/\∀t∈T,Sx 2 w' t.ba t.bays.length t.bc (L2 t.bays))/\Below w.heap.size w w')
theorem und_Rows:Tryz.prog.underlying 59=some (.slice 67):=Tryz.underlying59
theorem info_Row:(Tryz.prog.info? 67).map (fun i=>(i.zero,i.size,i.bytes))=some (some (.agg #[.int .i64 0,.int .i64 0,.slice none 0 0]),3,40):=by kernel_rfl
theorem und_Bays:Tryz.prog.underlying 65=some (.slice 72):=Tryz.underlying65
theorem info_Bay:(Tryz.prog.info? 72).map (fun i=>(i.zero,i.size,i.bytes))=some (some (.agg #[.int .i64 0,.int .i64 0]),2,16):=by kernel_rfl
theorem minL_in {l:List Int} (h:0 < l.length) {lo hi:Int} (hb:∀z∈l,lo<=z/\z<=hi):lo<=minL l/\minL l<=hi:=by
 cases l with
 | nil=>simp at h
 | cons a r=>
   show lo<=r.foldl min a/\r.foldl min a<=hi;have ha:=hb a (List.mem_cons_self ..);have hr:∀z∈r,lo<=z/\z<=hi:=fun z hz=>hb z (List.mem_cons_of_mem _ hz);clear hb h;induction r generalizing a with
   | nil=>exact ha
   | cons b r ih=>exact ih (min a b) (by have:=hr b (List.mem_cons_self ..);omega) (fun z hz=>hr z (List.mem_cons_of_mem _ hz))
theorem maxL_in {l:List Int} (h:0 < l.length) {lo hi:Int} (hb:∀z∈l,lo<=z/\z<=hi):lo<=maxL l/\maxL l<=hi:=by
 cases l with
 | nil=>simp at h
 | cons a r=>
   show lo<=r.foldl max a/\r.foldl max a<=hi;have ha:=hb a (List.mem_cons_self ..);have hr:∀z∈r,lo<=z/\z<=hi:=fun z hz=>hb z (List.mem_cons_of_mem _ hz);clear hb h;induction r generalizing a with
   | nil=>exact ha
   | cons b r ih=>exact ih (max a b) (by have:=hr b (List.mem_cons_self ..);omega) (fun z hz=>hr z (List.mem_cons_of_mem _ hz))
section
variable (w:World)
theorem mW19_0 {P_:Prop} (h:P_:=by
 go_quiet (fail)
 have AA:=ζ (hQ.out.call (below_dN (Below.refl _ _) nq));go_wp2;go_roundw
 case rel=>exact⟨j+1,a3,c3,b,by omega,by go_num,by omega,HN,ζ (AA.out.thin (bs':=[(b18,#[.int .i64 z,.int .i64 (z+h),.slice a3 b.length c3],67)]) (List.sublist_append_left [_] _) (List.Sublist.refl _))⟩
 case measure=>simp [intOf];omega):P_:=h
theorem hRows_ok (sa:OA) (sn sc:Nat) (l:List Pt) (hs:Sx 2 w sa sn sc (L2 l)) (ba:OA) (bn bc:Nat) (bs:List Int) (hb:Sx 1 w ba bn bc (L1 bs)) (fa:OA) (fn fc:Nat) (feet:List Int) (hf:Sx 1 w fa fn fc (L1 feet)) (ha:OA) (hn hc:Nat) (heads:List Int) (hh:Sx 1 w ha hn hc (L1 heads)) (h:Int) (hk:rowsErr l bs feet heads h=0):Calls Tryz.prog 34 #[.slice sa sn sc,.slice ba bn bc,.slice fa fn fc,.slice ha hn hc,.int .i64 h] w (RetRows w 0 (rowsL bs feet heads h)):=by
 have HT:=ζ (fun W (hW:Below w.heap.size w W)=>treads_any W sa sn sc l (hs.below hW) ba bn bc bs (hb.below hW));have AG:=ζ (fun W (hW:Below w.heap.size w W) ta tc=>wrong_any W ta (bs.length - 1) tc fa fn fc feet (hf.below hW));have AH:=ζ (fun W (hW:Below w.heap.size w W) ta tc=>wrong_any W ta (bs.length - 1) tc ha hn hc heads (hh.below hW));have AT:=ζ (fun W (hW:Below w.heap.size w W) h0 h1=>slmin_any W fa fn fc feet (hf.below hW) h0 h1);have AU:=ζ (fun W (hW:Below w.heap.size w W) h0 h1=>slmax_any W ha hn hc heads (hh.below hW) h0 h1);have hkk:=hk;unfold rowsErr at hkk;cases q0:brkB l bs
 ·rw [q0,if_neg (by decide)]at hkk;cases hkk
 rw [q0,if_pos rfl]at hkk;cases q1:inB h 1 3000
 ·rw [q1,if_neg (by decide)]at hkk;cases hkk
 rw [q1,if_pos rfl]at hkk;have hln:=(brk_ok q0).2.1;cases q2:wrongB (bs.length - 1) feet;rotate_left
 ·rw [q2,Bool.true_or,if_pos rfl]at hkk;cases hkk
 cases q3:wrongB (bs.length - 1) heads;rotate_left
 ·rw [q2,q3,Bool.or_true,if_pos rfl]at hkk;cases hkk
 rw [q2,q3,Bool.or_false,if_neg (by decide)]at hkk;obtain ⟨fl,fb⟩:=wrongB_no q2;obtain ⟨gl,gb⟩:=wrongB_no q3;have hle:maxL heads - minL feet<=200*h:=by
  rcases Int.lt_or_le (200*h) (maxL heads - minL feet)with h' | h'
  ·rw [if_pos h']at hkk;cases hkk
  ·exact h'
 have m1:=minL_in (l:=feet) (lo:= -200000) (hi:=200000) (by omega) fb;have m2:=maxL_in (l:=heads) (lo:= -200000) (hi:=200000) (by omega) gb;have hhb:=inB_iff.1 q1;have AV:=ζ (show ∀W,Calls Tryz.prog 75 #[.int .i64 h,.int .i64 1,.int .i64 3000] W (fun e w'=>e= .returned (.bool true)/\w'=W)from fun W=>by have:=hwithin_any W h 1 3000;rwa [q1]at this);rw [q0]at HT;rw [q2]at AG;rw [q3]at AH;have hfn:=hf.n1;have hhn:=hh.n1;have HK:=ζ (AT.out · · (by omega) (by omega));have HL:=ζ (AU.out · · (by omega) (by omega));have AW:=ζ (fun W (hW:Below w.heap.size w W)=>hf.below hW);have AX:=ζ (fun W (hW:Below w.heap.size w W)=>hh.below hW);have A8:=ζ fb;have A9:=ζ gb;have A3:=ζ (fun k (q:k < (nbr bs).length)=>tdC_get (v:= .slice sa sn sc) q);have A4:=ζ (fun i (q:i+1 < bs.length)=>nbr_get (l:=bs) q);have AY:=ζ (nbr_len bs);have AK:=ζ (show rowsUp bs feet heads (minL feet) h (bs.length - 1) (rowN (minL feet) (maxL heads) h)=rowsL bs feet heads h from rfl);obtain ⟨nn,hnn⟩:∃nn,bs.length - 1=nn:=⟨_,rfl⟩
 rw [hnn]at AG AH AY AK fl gl;have A5:=ζ hnn;have hn1:0 < nn/\nn<=60:=by omega
 have hbl:bs.length=nn+1:=by omega
 clear hs hb hf hh hk hkk q0 q1 q2 q3 fb gb AT AU hln;generalize minL feet=lo at*;generalize maxL heads=hi at*;generalize rowsL bs feet heads h=RR at*;have AI:=ζ (fun i=>row_more (low:=lo) (top:=hi) (h:=h) hhb.1 (i:=i));obtain ⟨NR,hNR⟩:∃N,rowN lo hi h=N:=⟨_,rfl⟩
 rw [hNR]at AK AI;have hNB:NR<=200:=by
  rcases Nat.lt_or_ge 200 NR with q | q
  ·have:=(AI.out 200).1 q;omega
  ·exact q
 clear hNR;have hfl2:feet.length=nn:=fl;have hgl2:heads.length=nn:=gl;obtain rfl:fn=feet.length:=hfn;obtain rfl:hn=heads.length:=hhn;obtain ⟨gf,of_,hfa⟩:=(AW.out w (Below.refl _ _)).addr (by omega);obtain ⟨gh,oh,hha⟩:=(AX.out w (Below.refl _ _)).addr (by omega);subst hfa hha;have AB:=ζ hfl2;have AC:=ζ hgl2;have AL:=ζ hbl;clear fl gl hnn hfl2 hgl2 hbl;have hC:=ζ (Sy.enter w);go_enter Tryz.func34,Tryz.ntmps34;go_wp2_with fail
 refine(HT.out _ hC.out.be).mono ?_;rintro e w1 (⟨h1,a,c,rfl,hr,hbb⟩ | ⟨h1,rfl,hbb⟩);rotate_left
 ·cases h1
 have hD:=ζ (hC.out.adopt hbb hr);rw [A5.out]at hD⊢;clear hC hbb HT hr h1;obtain ⟨g,hga,hnc⟩:=hD.out.oaddr 0 rfl hn1.1;subst hga;have v1:IntKind.i64.wrap (hi - lo)=hi - lo:=IntWalk.i64_in _ (by omega);have v2:IntKind.i64.wrap (200*h)=200*h:=IntWalk.i64_in _ (by omega);have v3:¬ hi - lo > 200*h:=by omega
 go_wp2_with ((with_reducible refine(AV.out _).mono ?_);rintro e w2 ⟨rfl,rfl⟩)
 refine(AG.out _ hD.out.be _ _).mono ?_;rintro e w3 ⟨rfl,hbb⟩;have hE:=ζ (hD.out.call hbb);clear hbb hD;go_wp2_with fail
 refine(AH.out _ hE.out.be _ _).mono ?_;rintro e w4 ⟨rfl,hbb⟩;have hG:=ζ (hE.out.call hbb);clear hbb hE;go_wp2_with fail
 refine(HK.out _ hG.out.be).mono ?_;rintro e w5 ⟨rfl,hbb⟩;have hI:=ζ (hG.out.call hbb);clear hbb hG;go_wp2_with fail
 refine(HL.out _ hI.out.be).mono ?_;rintro e w6 ⟨rfl,hbb⟩;have hJ:=ζ (hI.out.call hbb);clear hbb hI AG AH HK HL AV;have hO:=ζ ((hJ.out.onil 67 3).push (r:=(fun V=>∀t∈([]:List Rwx),V.ownsRow w.heap.size 72 2 (.slice t.ba t.bays.length t.bc) t.bays.length (L2 t.bays))) (fun V _ t ht=>by cases ht));clear hJ;go_wp2;go_loopw [17,16] (fun zv ov wr=>∃ (i:Nat) (z:Int) (a:OA) (c':Nat) (T:List Rwx),i<=NR/\zv= .int .i64 z/\ov= .slice a T.length c'/\T.length<=i/\(-200000<=z/\z<=1000000)/\Hid (z=lo+i*h)/\Hid (T.map nR=rowsUp bs feet heads lo h nn i)/\Hid (Sy w wr [] [⟨.slice (some ⟨g,0,none⟩) nn c,120,3,nn,tdC (.slice sa sn sc) (nbr bs)⟩,⟨.slice a T.length c',67,3,T.length,LRw T⟩] [(fun V=>∀t∈(T:List Rwx),V.ownsRow w.heap.size 72 2 (.slice t.ba t.bays.length t.bc) t.bays.length (L2 t.bays))])) (fun zv _ _=>(hi+1 - intOf zv).toNat)
 case atStart=>exact⟨0,lo,none,0,[],Nat.zero_le _,rfl,rfl,Nat.le_refl _,by omega,ζ (by omega),ζ rfl,hO⟩
 case round=>
  clear hO v1 v2;obtain ⟨i,z,a,c',T,hi1,rfl,rfl,Ab,hzb,HZ,AZ,hO⟩:=hrel;by_cases hlt:z+h<=hi
  ·have HI:=ζ (show i < NR from(AI.out i).2 (by have:=HZ.out;omega));have v1:IntKind.i64.wrap (z+h)=z+h:=IntWalk.i64_in _ (by omega);have hA:=ζ ((hO.out.al wr.heap.size #[.int .i64 z,.int .i64 (z+h),.slice none 0 0] 67 rfl).onil 72 2);go_upto_region 16 with fail
   obtain ⟨b18,hb18⟩:∃b,wr.heap.size=b:=⟨_,rfl⟩
   rw [hb18]at hA⊢;refine wp_geny hA.out ?_;intro V1 hc;have hP:=ζ hc;clear hc hA hO hb18;go_wp2;go_loopw [71] (fun jv wr=>∃ (j:Nat) (a3:OA) (c3:Nat) (b:List (Int×Int)),j<=nn/\jv= .int .i64 j/\b.length<=j/\Hid (bayP (bX bs) (hasR feet heads z h) j=b)/\Hid (Sy w wr [(b18,#[.int .i64 z,.int .i64 (z+h),.slice a3 b.length c3],67)] [⟨.slice (some ⟨g,0,none⟩) nn c,120,3,nn,tdC (.slice sa sn sc) (nbr bs)⟩,⟨.slice a T.length c',67,3,T.length,LRw T⟩,⟨.slice a3 b.length c3,72,2,b.length,L2 b⟩] [(fun V=>∀t∈(T:List Rwx),V.ownsRow w.heap.size 72 2 (.slice t.ba t.bays.length t.bc) t.bays.length (L2 t.bays))])) (fun jv _=>nn - (intOf jv).toNat)
   case atStart=>exact⟨0,none,0,[],Nat.zero_le _,rfl,Nat.le_refl _,ζ rfl,hP⟩
   case round=>
    clear hP;obtain ⟨j,a3,c3,b,hj,rfl,hbl3,AM,hP⟩:=hrel;by_cases hjn:j < nn
    ·have hjk:j < (nbr bs).length:=(by rw [AY.out];exact hjn);obtain ⟨t0,t1,t2⟩:=A3.out j hjk;have hng:=A4.out j (by have:=AL.out;omega);rw [List.getElem?_eq_getElem hjk]at hng;simp only [Option.some.injEq]at hng;rw [hng]at t1 t2;dsimp only at t1 t2;rw [<-bX_at (show j < bs.length by have:=AL.out;omega)]at t1;rw [<-bX_at (show j+1 < bs.length by have:=AL.out;omega)]at t2;have AD:=ζ (show bayP (bX bs) (hasR feet heads z h) (j+1)=if hasR feet heads z h j=true then(if (bayP (bX bs) (hasR feet heads z h) j).getLast?.map (·.2)=some (bX bs j)then putTo (bayP (bX bs) (hasR feet heads z h) j) (bX bs (j+1))else bayP (bX bs) (hasR feet heads z h) j++ [(bX bs j,bX bs (j+1))])else bayP (bX bs) (hasR feet heads z h) j from rfl);rw [AM.out]at AD;have AJ:=ζ (show hasR feet heads z h j=(decide (bX feet j<=z) && decide (z+h<=bX heads j))from rfl);generalize hasR feet heads z h j=hs at*;generalize bX bs j=u1 at*;generalize bX bs (j+1)=u2 at*;have AN:=ζ (fun W (hW:Below w.heap.size w W)=>(AW.out W hW).at1 (show j < feet.length by rw [AB.out];exact hjn));have AO:=ζ (fun W (hW:Below w.heap.size w W)=>(AX.out W hW).at1 (show j < heads.length by rw [AC.out];exact hjn));rw [<-bX_at (show j < feet.length by rw [AB.out];exact hjn)]at AN;rw [<-bX_at (show j < heads.length by rw [AC.out];exact hjn)]at AO;generalize bX feet j=f1 at*;generalize bX heads j=f2 at*;have c0:=hP.out.rcell 0 rfl t0;have c1':=hP.out.rcell 0 rfl t1;have c2':=hP.out.rcell 0 rfl t2;have i0:(0:Int)<=(j:Int):=(by omega);have i1:(j:Int) < (nn:Int):=(by omega);have i2:(j:Int) < (feet.length:Int):=(by rw [AB.out];exact i1);have i3:(j:Int) < (heads.length:Int):=(by rw [AC.out];exact i1);have hA:=ζ (hP.out.al wr.heap.size #[.slice sa sn sc,.int .i64 u1,.int .i64 u2] 120 rfl);clear t0 t1 t2 hng AM;go_upto_region 19 with fail
     obtain ⟨b20,hb20⟩:∃b,wr.heap.size=b:=⟨_,rfl⟩
     rw [hb20]at hA⊢;refine wp_geny hA.out ?_;intro V2 hc;have hQ:=ζ hc;clear hc hA hP c0 c1' c2' hb20;have y1:=AN.out _ hQ.out.be;have y2:=AO.out _ hQ.out.be;have z0:V2.cell? ⟨b18,0,none⟩=some (.int .i64 z):=hQ.out.c 0 0;have z1:V2.cell? ⟨b18,1,none⟩=some (.int .i64 (z+h)):=hQ.out.c 0 1;by_cases g1:z < f1
     ·have HN:=ζ (show bayP (bX bs) (hasR feet heads z h) (j+1)=b by rw [AD.out,AJ.out,decide_eq_false (show ¬ f1<=z by omega)];rfl);have d1:=decide_eq_true g1;exact mW19_0
     have d1:=decide_eq_false g1;by_cases g2:f2 < z+h
     ·have HN:=ζ (show bayP (bX bs) (hasR feet heads z h) (j+1)=b by rw [AD.out,AJ.out,decide_eq_false (show ¬ z+h<=f2 by omega),Bool.and_false];rfl);have d2:=decide_eq_true g2;exact mW19_0
     have d2:=decide_eq_false g2;have AE:=ζ (show bayP (bX bs) (hasR feet heads z h) (j+1)=if b.getLast?.map (·.2)=some u1 then putTo b u2 else b++ [(u1,u2)]by rw [AD.out,AJ.out,decide_eq_true (show f1<=z by omega),decide_eq_true (show z+h<=f2 by omega)];rfl);clear AD AJ;go_quiet (fail)
     have AA:=ζ (hQ.out.call (below_dN (Below.refl _ _) nq));clear y1 y2 z0 z1 d1 d2 hQ AN AO;go_upto_region 20 with fail
     refine wp_geny AA.out ?_;intro V3 hc;have hR:Hid (Sy w V3 [(b18,#[.int .i64 z,.int .i64 (z+h),.slice a3 b.length c3],67),(b20,#[.slice sa sn sc,.int .i64 u1,.int .i64 u2],120)] [⟨.slice (some ⟨g,0,none⟩) nn c,120,3,nn,tdC (.slice sa sn sc) (nbr bs)⟩,⟨.slice a T.length c',67,3,T.length,LRw T⟩,⟨.slice a3 b.length c3,72,2,b.length,L2 b⟩] [(fun V=>∀t∈(T:List Rwx),V.ownsRow w.heap.size 72 2 (.slice t.ba t.bays.length t.bc) t.bays.length (L2 t.bays))]):=ζ hc;clear hc AA;have z2:V3.cell? ⟨b18,2,none⟩=some (.slice a3 b.length c3):=hR.out.c 0 2;go_upto_region 21 with fail
     go_cut [108] (fun tv wx=>∃jn:Bool,tv= .bool jn/\Hid (jn=decide (b.getLast?.map (·.2)=some u1))/\Hid (Sy w wx [(b18,#[.int .i64 z,.int .i64 (z+h),.slice a3 b.length c3],67),(b20,#[.slice sa sn sc,.int .i64 u1,.int .i64 u2],120)] [⟨.slice (some ⟨g,0,none⟩) nn c,120,3,nn,tdC (.slice sa sn sc) (nbr bs)⟩,⟨.slice a T.length c',67,3,T.length,LRw T⟩,⟨.slice a3 b.length c3,72,2,b.length,L2 b⟩] [(fun V=>∀t∈(T:List Rwx),V.ownsRow w.heap.size 72 2 (.slice t.ba t.bays.length t.bc) t.bays.length (L2 t.bays))]))
     case first=>
      rcases Nat.eq_zero_or_pos b.length with hb0 | hb0
      ·have HJ:=ζ (show decide (b.getLast?.map (·.2)=some u1)=false by rw [List.eq_nil_of_length_eq_zero hb0];rfl);have d0:decide (0 < b.length)=false:=decide_eq_false (by omega);clear hb0;go_quiet (fail)
       have AA:=ζ (hR.out.call (below_dN (Below.refl _ _) nq));go_wp2;go_meet;exact⟨false,rfl,ζ HJ.out.symm,AA⟩
      ·obtain ⟨L,t,hbt⟩:∃L t,b=L++ [t]:=by
        rcases List.eq_nil_or_concat b with e | ⟨L,t,e⟩
        ·rw [e]at hb0;exact absurd hb0 (Nat.lt_irrefl 0)
        ·exact⟨L,t,e.trans (List.concat_eq_append ..)⟩
       have HJ:=ζ (show decide (b.getLast?.map (·.2)=some u1)=decide (t.2=u1)by rw [hbt];simp);have hcl:(L2 b)[(b.length - 1)*2+1]? =some (.int .i64 t.2):=by
        have h1:b.length - 1 < b.length:=(by omega);unfold L2;rw [flat_get (f:=c2) (k:=2) (fun _=>rfl) b (b.length - 1) 1 h1 (by omega)];have:b[b.length - 1]=t:=(by subst hbt;simp);rw [this];rfl
       obtain ⟨g3,hg3,-⟩:=hR.out.oaddr 2 rfl hb0;subst hg3;have x0:=hR.out.rcell 2 rfl hcl;have x1:V3.cell? ⟨b20,1,none⟩=some (.int .i64 u1):=hR.out.c 1 1;have d0:decide (0 < b.length)=true:=decide_eq_true hb0;have e1:IntKind.i64.wrap ((b.length:Int) - 1)=((b.length - 1:Nat):Int):=(by rw [IntWalk.i64_in _ (by omega)];omega);have e2:(0:Int)<=((b.length - 1:Nat):Int):=(by omega);have e3:((b.length - 1:Nat):Int) < (b.length:Int):=(by omega);clear hcl hbt;generalize t.2=t2 at*;by_cases e4:t2=u1
       ·have AP:=ζ (HJ.out.trans (decide_eq_true e4));have d4:(t2==u1)=true:=beq_iff_eq.2 e4;clear e4 HJ;go_quiet (fail)
        have AA:=ζ (hR.out.call (below_dN (Below.refl _ _) nq));go_wp2;go_meet;exact⟨true,rfl,ζ AP.out.symm,AA⟩
       ·have AP:=ζ (HJ.out.trans (decide_eq_false e4));have d4:(t2==u1)=false:=beq_eq_false_iff_ne.2 e4;clear HJ;go_quiet (fail)
        have AA:=ζ (hR.out.call (below_dN (Below.refl _ _) nq));go_wp2;go_meet;exact⟨false,rfl,ζ AP.out.symm,AA⟩
     case rest=>
      clear hR z2;obtain ⟨jn,rfl,AQ,hR⟩:=hcut;have z2:wc.cell? ⟨b18,2,none⟩=some (.slice a3 b.length c3):=hR.out.c 0 2;have x1:wc.cell? ⟨b20,1,none⟩=some (.int .i64 u1):=hR.out.c 1 1;have x2:wc.cell? ⟨b20,2,none⟩=some (.int .i64 u2):=hR.out.c 1 2;cases jn;rotate_left
      ·have hb0:0 < b.length:=by
        rcases Nat.eq_zero_or_pos b.length with e | e
        ·have:=AQ.out;rw [List.eq_nil_of_length_eq_zero e]at this;cases this
        ·exact e
       have HN:=ζ (show bayP (bX bs) (hasR feet heads z h) (j+1)=putTo b u2 by rw [AE.out,if_pos (of_decide_eq_true AQ.out.symm)]);have A0:=ζ (putTo_len b u2);have A6:=ζ (putTo_cells b u2 hb0);obtain ⟨g3,hg3,-⟩:=hR.out.oaddr 2 rfl hb0;subst hg3;have e1:IntKind.i64.wrap ((b.length:Int) - 1)=((b.length - 1:Nat):Int):=(by rw [IntWalk.i64_in _ (by omega)];omega);have e2:(0:Int)<=((b.length - 1:Nat):Int):=(by omega);have e3:((b.length - 1:Nat):Int) < (b.length:Int):=(by omega);have fq:=hR.out.rfree 2 rfl ((b.length - 1)*2+1);have A1:=ζ (hR.out.ostore 2 rfl ((b.length - 1)*2+1) (.int .i64 u2));have hT:Hid (Sy w _ [(b18,#[.int .i64 z,.int .i64 (z+h),.slice (some ⟨g3,0,none⟩) b.length c3],67),(b20,#[.slice sa sn sc,.int .i64 u1,.int .i64 u2],120)] [⟨.slice (some ⟨g,0,none⟩) nn c,120,3,nn,tdC (.slice sa sn sc) (nbr bs)⟩,⟨.slice a T.length c',67,3,T.length,LRw T⟩,⟨.slice (some ⟨g3,0,none⟩) b.length c3,72,2,b.length,L2 (putTo b u2)⟩] [(fun V=>∀t∈(T:List Rwx),V.ownsRow w.heap.size 72 2 (.slice t.ba t.bays.length t.bc) t.bays.length (L2 t.bays))]):=ζ (by rw [<-A6.out];exact A1.out);clear A1;have hx0:(L2 b)[(b.length - 1)*2+1]? ≠none:=by
        rw [List.getElem?_eq_getElem (by unfold L2;rw [flat_len (f:=c2) (k:=2) (fun _=>rfl)];omega)];exact fun h=>by cases h
       obtain ⟨xo,hxo⟩:=Option.ne_none_iff_exists'.1 hx0;have x3:=hR.out.rcell 2 rfl hxo;clear hx0 hxo;go_wp2;go_roundw
       case rel=>
        refine⟨j+1,some ⟨g3,0,none⟩,c3,putTo b u2,by omega,by go_num,by rw [A0.out];omega,HN,?_⟩;rw [A0.out];exact ζ (hT.out.thin (bs':=[(b18,#[.int .i64 z,.int .i64 (z+h),.slice (some ⟨g3,0,none⟩) b.length c3],67)]) (List.sublist_append_left [_] _) (List.Sublist.refl _))
       case measure=>simp [intOf];omega
      ·have HN:=ζ (show bayP (bX bs) (hasR feet heads z h) (j+1)=b++ [(u1,u2)]by rw [AE.out,if_neg (of_decide_eq_false AQ.out.symm)]);go_upto_region 24 with (refine wpList_append_sy (o:=⟨some 125,_,_,_,_,_⟩) rfl (hR.out.onew wc.heap.size #[.int .i64 u1,.int .i64 u2] 72 2 1 rfl (by omega) rfl) 2 3 rfl rfl _ _ _ rfl und_Bays info_Bay rfl (by omega) rfl rfl (by intro u hu;simp at hu;rcases hu with rfl | rfl<;>rfl) (by omega) (by omega) ?_;intro a4 c4 V4 AF;have hJ:=ζ AF;clear AF;have y2:=hJ.out.c 0 2;have f2:=hJ.out.f 0 2;have ly:=hJ.out.lt 0 rfl)
       have hK:=ζ ((hJ.out|>.set (j:=2) (v:= .slice a4 (b.length+1) c4) 0 rfl).thin (bs':=[(b18,#[.int .i64 z,.int .i64 (z+h),.slice a4 (b.length+1) c4],67)]) (os':=[⟨.slice (some ⟨g,0,none⟩) nn c,120,3,nn,tdC (.slice sa sn sc) (nbr bs)⟩,⟨.slice a T.length c',67,3,T.length,LRw T⟩,⟨.slice a4 (b.length+1) c4,72,2,b.length+1,L2 b++ [.int .i64 u1,.int .i64 u2]⟩]) (List.sublist_append_left [_] _) (by exact List.Sublist.cons_cons _ (List.Sublist.cons_cons _ (List.Sublist.cons_cons _ (List.nil_sublist _)))));have AR:=ζ (show L2 b++ [.int .i64 u1,.int .i64 u2]=L2 (b++ [(u1,u2)])by unfold L2;rw [List.flatMap_append];rfl);rw [AR.out]at hK;clear hJ;go_wp2;go_roundw
       case rel=>
        refine⟨j+1,a4,c4,b++ [(u1,u2)],by omega,by go_num,by rw [List.length_append,List.length_singleton];omega,HN,?_⟩;rw [List.length_append,List.length_singleton];exact hK
       case measure=>simp [intOf];omega
    ·obtain rfl:j=nn:=by omega
     have z2:wr.cell? ⟨b18,2,none⟩=some (.slice a3 b.length c3):=hP.out.c 0 2;have AS:=ζ (show rowsUp bs feet heads lo h j (i+1)=rowsUp bs feet heads lo h j i++rowOf (lo+i*h) h (baysP bs feet heads (lo+i*h) h j)from rfl);rw [<-HZ.out,show baysP bs feet heads z h j=b from AM.out,<-AZ.out]at AS;have A2:=ζ (show z+h=lo+((i+1:Nat):Int)*h by have:=HZ.out;rw [Int.natCast_add,Int.add_mul,show((1:Nat):Int)=1 from rfl,Int.one_mul];omega);by_cases hb0:b.length=0
     ·have HN:=ζ (show T.map nR=rowsUp bs feet heads lo h j (i+1)by rw [AS.out,rowOf,if_pos hb0,List.append_nil]);have d0:(b.length:Int)=0:=(by omega);have HQ:=ζ (hP.out.thin (bs':=[]) (os':=[⟨.slice (some ⟨g,0,none⟩) j c,120,3,j,tdC (.slice sa sn sc) (nbr bs)⟩,⟨.slice a T.length c',67,3,T.length,LRw T⟩]) (List.nil_sublist _) (List.sublist_append_left [_,_] _));have d1:decide (0 < b.length)=false:=decide_eq_false (by omega);clear hb0;go_wp2;go_roundw
      case rel=>exact⟨i+1,z+h,a,c',T,HI.out,rfl,rfl,by omega,by omega,A2,HN,HQ⟩
      case measure=>simp [intOf];omega
     ·have HN:=ζ (show(T++ [(⟨z,z+h,a3,c3,b⟩:Rwx)]).map nR=rowsUp bs feet heads lo h j (i+1)by rw [AS.out,rowOf,if_neg hb0,List.map_append];rfl);have d0:(0:Int) < (b.length:Int):=(by omega);have d1:decide (0 < b.length)=true:=decide_eq_true (by omega);have z0:wr.cell? ⟨b18,0,none⟩=some (.int .i64 z):=hP.out.c 0 0;have z1:wr.cell? ⟨b18,1,none⟩=some (.int .i64 (z+h)):=hP.out.c 0 1;clear hb0;go_upto_region 14 with (refine wpList_append_sy (o:=⟨some 135,_,_,_,_,_⟩) rfl (hP.out.onew wr.heap.size #[.int .i64 z,.int .i64 (z+h),.slice a3 b.length c3] 67 3 1 rfl (by omega) rfl) 1 3 rfl rfl _ _ _ rfl und_Rows info_Row rfl (by omega) rfl rfl (by intro u hu;simp at hu;rcases hu with rfl | rfl | rfl<;>rfl) (by omega) (by omega) ?_;intro a4 c4 V4 AF;have hJ:=ζ AF;clear AF)
      have hK:=ζ (hJ.out.thin (bs':=[]) (os':=[⟨.slice (some ⟨g,0,none⟩) j c,120,3,j,tdC (.slice sa sn sc) (nbr bs)⟩,⟨.slice a4 (T.length+1) c4,67,3,T.length+1,LRw T++ [.int .i64 z,.int .i64 (z+h),.slice a3 b.length c3]⟩]++ [⟨.slice a3 b.length c3,72,2,b.length,L2 b⟩]) (List.nil_sublist _) (by exact List.Sublist.cons_cons _ (List.Sublist.cons_cons _ (List.Sublist.cons_cons _ (List.nil_sublist _)))));have hM:=ζ (hK.out.retire.imp (rs':=[(fun V=>∀t∈(T++ [(⟨z,z+h,a3,c3,b⟩:Rwx)]:List Rwx),V.ownsRow w.heap.size 72 2 (.slice t.ba t.bays.length t.bc) t.bays.length (L2 t.bays))]) (fun V hv r hr=>by
       rcases List.mem_singleton.1 hr with rfl;intro t ht;rcases List.mem_append.1 ht with ht | ht
       ·exact hv _ (List.mem_cons_self ..) t ht
       ·rcases List.mem_singleton.1 ht with rfl;exact hv (fun V=>V.ownsRow w.heap.size 72 2 (.slice a3 b.length c3) b.length (L2 b)) (by simp)))
      have AR:=ζ (show LRw T++ [.int .i64 z,.int .i64 (z+h),.slice a3 b.length c3]=LRw (T++ [(⟨z,z+h,a3,c3,b⟩:Rwx)])by rw [LRw_append];rfl);rw [AR.out]at hM;clear hJ hK hP;go_wp2;go_roundw
      case rel=>
       refine⟨i+1,z+h,a4,c4,T++ [(⟨z,z+h,a3,c3,b⟩:Rwx)],HI.out,rfl,by rw [List.length_append,List.length_singleton],by rw [List.length_append,List.length_singleton];omega,by omega,A2,HN,?_⟩;rw [List.length_append,List.length_singleton];exact hM
      case measure=>simp [intOf];omega
  ·have HI:=ζ (show i=NR by
    rcases Nat.lt_or_ge i NR with q | q
    ·have:=(AI.out i).1 q;have:=HZ.out;omega
    ·omega)
   have A7:=ζ (show T.map nR=RR by rw [AZ.out,HI.out,AK.out]);have v1:IntKind.i64.wrap (z+h)=z+h:=IntWalk.i64_in _ (by omega);go_wp2;go_ret2;exact .inr ⟨rfl,a,c',T,A7,rfl,ζ ⟨Sx.owns (hO.out.orow 1 rfl),fun t ht=>Sx.owns (hO.out.r 0 rfl t ht)⟩,hO.out.be⟩
end
section
variable (w:World)
theorem rIn_any (x lo hi:Int):Calls Tryz.prog 22 #[.int .i64 x,.int .i64 lo,.int .i64 hi] w fun e w'=>e= .returned (.bool (inB x lo hi))/\w'=w:=by
 unfold inB;by_cases h1:lo<=x<;>by_cases h2:x<=hi
 all_goals
  go_enter Tryz.func22,Tryz.ntmps22;go_wp2;go_ret;exact⟨by simp [h1,h2],rfl⟩
theorem rHas_any (a:OA) (n c:Nat) (l:List Pt) (x:Int) (hs:Sx 2 w a n c (L2 l)) (h0:0 < n):Calls Tryz.prog 53 #[.slice a n c,.int .i64 x] w (Gives (.bool (hasB l x)) w):=by
 obtain rfl:=hs.n2;have hcap:=hs.cap;unfold maxLen at hcap;obtain ⟨g0,o0,rfl⟩:=hs.addr h0;obtain ⟨x0,-⟩:=hs.at2 h0;rw [Nat.zero_mul,Nat.add_zero]at x0;obtain ⟨x1,-⟩:=hs.at2 (show l.length - 1 < l.length by omega);have HE:=ζ (show hasB l x=inB x l[0].1 l[l.length - 1].1 by unfold hasB;rw [hX_at h0,hX_at (show l.length - 1 < l.length by omega)]);rw [HE.out];clear HE hs;obtain ⟨j,hj⟩:∃j:Nat,j=l.length - 1:=⟨_,rfl⟩
 generalize l[0].1=y0 at*;generalize l[l.length - 1].1=y1 at*;rw [<-hj]at x1;have i2:IntKind.i64.wrap ((l.length:Int) - 1)=(j:Int):=by rw [IntWalk.i64_in _ (by omega)];omega
 have i0:(0:Int)<=(j:Int):=by omega
 have i1:(j:Int) < (l.length:Int):=by omega
 have i3:(0:Int) < (l.length:Int):=by omega
 have HI:=ζ (fun W=>rIn_any W x y0 y1);clear hj;go_enter Tryz.func53,Tryz.ntmps53;go_wp2;go_big_quiet (exact Calls.quiet_of_same (HI.out _))
 go_wp2;go_ret;exact⟨rfl,below_drewN (Below.refl _ _) _⟩
theorem rStretch_any (a:OA) (n c:Nat) (l:List Pt) (x y:Int) (hs:Sx 2 w a n c (L2 l)) (h0:0 < n):Calls Tryz.prog 31 #[.slice a n c,.int .i64 x,.int .i64 y] w (Gives (.bool (strB l x y)) w):=by
 have HX:=ζ (fun W (hW:Below w.heap.size w W)=>rHas_any W a n c l x (hs.below hW) h0);have HY:=ζ (fun W (hW:Below w.heap.size w W)=>rHas_any W a n c l y (hs.below hW) h0);have HS:=ζ (show strB l x y=(hasB l x && hasB l y && decide (x < y))from rfl);clear hs h0;generalize strB l x y=R at*;generalize hasB l x=p at*;generalize hasB l y=q at*;go_enter Tryz.func31,Tryz.ntmps31;have hC:=ζ (Sy.enter w);go_wp2_with fail
 refine(HX.out _ hC.out.be).mono ?_;rintro e w1 ⟨rfl,hb⟩;have hD:=ζ (hC.out.call hb);clear hb hC;cases p
 ·go_wp2;go_ret;exact⟨ret_bool (by rw [HS.out];rfl),hD.out.be⟩
 go_wp2_with fail
 refine(HY.out _ hD.out.be).mono ?_;rintro e w2 ⟨rfl,hb⟩;have hE:=ζ (hD.out.call hb);clear hb hD;cases q
 ·go_wp2;go_ret;exact⟨ret_bool (by rw [HS.out];rfl),hE.out.be⟩
 by_cases hxy:x < y
 ·go_wp2;go_ret;exact⟨ret_bool (by rw [HS.out,decide_eq_true (show x < y by omega)];rfl),hE.out.be⟩
 ·go_wp2;go_ret;exact⟨ret_bool (by rw [HS.out,decide_eq_false (show ¬ x < y by omega)];rfl),hE.out.be⟩
theorem prof_no1 {l:List Pt} {k:Nat} (hk:k < l.length) (h:farB l[k]=true):profB l=false:=by
 unfold profB;rw [show l.any farB=true from List.any_eq_true.2 ⟨_,List.getElem_mem hk,h⟩];simp
theorem prof_no2 {l:List Pt} {k:Nat} (hk:k+1 < l.length) (h:l[k+1].1<=l[k].1):profB l=false:=by
 cases e:profB l
 ·rfl
 ·have:=(prof_iff.1 e).up k hk;rw [hX_at (show k < l.length by omega),hX_at hk]at this;exact absurd this (by have:=h;show ¬ l[k].1 < l[k+1].1;omega)
theorem prof_end {l:List Pt} (h:∀i (hi:i < l.length),farB l[i]=false/\∀hj:i - 1 < l.length,0 < i->l[i - 1].1 < l[i].1):profB l=inB l.length 2 40:=by
 unfold profB;have h1:l.any farB=false:=List.any_eq_false.2 fun p hp=>by
  obtain ⟨i,hi,rfl⟩:=List.getElem_of_mem hp;rw [(h i hi).1];simp
 have h2:upB l=true:=upB_iff.2 fun i hi=>by
  have:=(h (i+1) hi).2 (by omega) (by omega);rw [hX_at (show i < l.length by omega),hX_at hi];simpa using this
 rw [h1,h2];simp
theorem mY1_0 {P_:Prop} (h:P_:=by
 go_big_quiet (first | with_reducible exact Calls.quiet_of_same (HA.out _) | with_reducible exact Calls.quiet_of_same (HB.out _))
 have hZ:=ζ (hS.out.call (below_dN (Below.refl _ _) nq));go_wp2;go_ret;exact⟨ret_bool HG.out.symm,hZ.out.be⟩):P_:=h
theorem rValid_any (a:OA) (n c:Nat) (l:List Pt) (hs:Sx 2 w a n c (L2 l)):Calls Tryz.prog 20 #[.slice a n c] w (Gives (.bool (profB l)) w):=by
 obtain rfl:=hs.n2;have hcap:=hs.cap;unfold maxLen at hcap;have HS:=ζ hs;have AI:=ζ (fun k hk h=>prof_no1 (l:=l) (k:=k) hk h);have AJ:=ζ (fun k hk h=>prof_no2 (l:=l) (k:=k) hk h);have AK:=ζ (fun h=>prof_end (l:=l) h);clear hs;generalize profB l=R at*;go_enter Tryz.func20,Tryz.ntmps20;go_wp2;go_loopw [3] (fun iv wr=>∃k:Nat,k<=l.length/\iv= .int .i64 k/\Hid (∀i (hi:i < l.length),i < k->farB l[i]=false/\∀hj:i - 1 < l.length,0 < i->l[i - 1].1 < l[i].1)/\Hid (Sy w wr [] [] [])) (fun iv _=>l.length - (intOf iv).toNat)
 case atStart=>exact⟨0,Nat.zero_le _,rfl,ζ (fun i _ h=>absurd h (Nat.not_lt_zero i)),ζ (Sy.enter w)⟩
 case round=>
  obtain ⟨k,hk,rfl,HI,hS⟩:=hrel;by_cases hlt:k < l.length
  ·obtain ⟨g0,o0,rfl⟩:=HS.out.addr (by omega);obtain ⟨x0,x1⟩:=(hS.out.sx HS.out).at2 hlt;have i0:(0:Int)<=(k:Int):=(by omega);have i1:(k:Int) < (l.length:Int):=(by omega);have AF:=ζ (AI.out k hlt);have HF:=ζ (show farB l[k]=(!inB l[k].1 (-100000) 100000 || !inB l[k].2 (-100000) 100000)from rfl);have AA:=ζ (show farB l[k]=false->(∀hj:k - 1 < l.length,0 < k->l[k - 1].1 < l[k].1)->∀i (hi:i < l.length),i < k+1->farB l[i]=false/\∀hj:i - 1 < l.length,0 < i->l[i - 1].1 < l[i].1 from fun h1 h2 i hi hik=>by
    rcases Nat.lt_or_ge i k with h | h
    ·exact HI.out i hi h
    ·have:i=k:=(by omega);subst this;exact⟨h1,h2⟩)
   have HA:=ζ (fun W=>rIn_any W l[k].1 (-100000) 100000);have HB:=ζ (fun W=>rIn_any W l[k].2 (-100000) 100000);have AG:=ζ (fun(h:k - 1 < l.length)=>((hS.out.sx HS.out).at2 h).1);have AB:=ζ (show ∀ (h:k - 1 < l.length),0 < k->l[k].1<=l[k - 1].1->R=false from fun h h0 h1=>by
    obtain ⟨j,rfl⟩:∃j,k=j+1:=⟨k - 1,by omega⟩
    exact AJ.out j hlt (by simpa using h1))
   clear HI;generalize farB l[k]=fb at*;obtain ⟨u0,hu0⟩:∃u,l[k].1=u:=⟨_,rfl⟩
   obtain ⟨u1,hu1⟩:∃u,l[k].2=u:=⟨_,rfl⟩
   rw [hu0]at x0 HF HA AA AB;rw [hu1]at x1 HF HB;clear hu0 hu1;go_upto_region 4 with fail
   cases h1:inB u0 (-100000) 100000
   ·have HG:=ζ (AF.out (by rw [HF.out,h1];rfl));rw [h1]at HA;clear h1;exact mY1_0
   cases h2:inB u1 (-100000) 100000
   ·have HG:=ζ (AF.out (by rw [HF.out,h1,h2];rfl));rw [h1]at HA;rw [h2]at HB;clear h1 h2;exact mY1_0
   have AH:=ζ (HF.out.trans (by rw [h1,h2]));rw [h1]at HA;rw [h2]at HB;clear h1 h2;rcases Nat.eq_zero_or_pos k with hk0 | hk0
   ·have hkn:decide (0 < k)=false:=decide_eq_false (by omega);have AC:=ζ (AA.out AH.out (fun _ h=>absurd h (by omega)));clear hk0;go_big_quiet (first | with_reducible exact Calls.quiet_of_same (HA.out _) | with_reducible exact Calls.quiet_of_same (HB.out _))
    have hZ:=ζ (hS.out.call (below_dN (Below.refl _ _) nq));go_wp2;go_roundw
    case rel=>exact⟨k+1,by omega,by go_num,AC,hZ⟩
    case measure=>simp [intOf];omega
   ·have hkn:decide (0 < k)=true:=decide_eq_true hk0;have hkz:(0:Int) < (k:Int):=(by omega);have v2:IntKind.i64.wrap ((k:Int) - 1)=((k - 1:Nat):Int):=(by rw [IntWalk.i64_in _ (by omega)];omega);have n1:(k:Int) - 1=((k - 1:Nat):Int):=(by omega);have n2:(0:Int)<=((k - 1:Nat):Int):=(by omega);have n3:((k - 1:Nat):Int) < (l.length:Int):=(by omega);have hk1:k - 1 < l.length:=(by omega);have y0:=AG.out hk1;have AL:=ζ (AB.out hk1 hk0);have AD:=ζ (show l[k - 1].1 < u0->_ from fun h=>AA.out AH.out (fun _ _=>h));clear AG AB AA;generalize l[k - 1].1=pv at*;by_cases hle:u0<=pv
    ·have HG:=ζ (AL.out hle);have d1:=decide_eq_true hle;exact mY1_0
    ·have d1:=decide_eq_false hle;have AE:=ζ (AD.out (by omega));go_big_quiet (first | with_reducible exact Calls.quiet_of_same (HA.out _) | with_reducible exact Calls.quiet_of_same (HB.out _))
     have hZ:=ζ (hS.out.call (below_dN (Below.refl _ _) nq));go_wp2;go_roundw
     case rel=>exact⟨k+1,by omega,by go_num,AE,hZ⟩
     case measure=>simp [intOf];omega
  ·obtain rfl:k=l.length:=by omega
   have HG:=ζ (AK.out (fun i hi=>HI.out i hi hi));have HQ:=ζ (show inB (l.length:Int) 2 40=(decide ((2:Int)<=l.length) && decide ((l.length:Int)<=40))from rfl);by_cases q1:(2:Int)<=(l.length:Int)
   ·by_cases q2:(l.length:Int)<=40
    ·go_wp2;go_ret;exact⟨ret_bool (by rw [HG.out,HQ.out,decide_eq_true (show(2:Int)<=l.length by omega),decide_eq_true (show(l.length:Int)<=40 by omega)];first | done | rfl),hS.out.be⟩
    ·go_wp2;go_ret;exact⟨ret_bool (by rw [HG.out,HQ.out,decide_eq_true (show(2:Int)<=l.length by omega),decide_eq_false (show ¬ (l.length:Int)<=40 by omega)];first | done | rfl),hS.out.be⟩
   ·go_wp2;go_ret;exact⟨ret_bool (by rw [HG.out,HQ.out,decide_eq_false (show ¬ (2:Int)<=l.length by omega)];first | done | rfl),hS.out.be⟩
end
section
variable (w:World)
end
theorem Sx.atX {W:World} {g o n c:Nat} {l:List Int} (h:Sx 1 W (some ⟨g,o,none⟩) n c (L1 l)) {i:Nat} (hi:i < l.length):W.cell? ⟨g,o+i,none⟩=some (.int .i64 (bX l i)):=by rw [bX_at hi];exact h.at1 hi
theorem L1_one (l:List Int):∀u∈L1 l,u.oneCell'=true:=fun u hu=>by
 obtain ⟨x,_,rfl⟩:=List.mem_map.1 hu;rfl
end Go.Proofs.YthmdhlopeponcaaGreatDoor
