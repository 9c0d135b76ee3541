/- part -/
import Derived.Test.YtjpojeapdgjbhaaGreatDoorJ37
import Derived.Test.YtjpojeapdgjbhaaGreatDoorJ17
set_option maxRecDepth 100000
set_option maxHeartbeats 16000000
namespace Go.Proofs.YtjpojeapdgjbhaaGreatDoor
open Go.RowKit Go.Shelf
def RetCo (w:World) (L:List (Int×Int)) (e:Ending) (w':World):Prop:=∃a c,e= .returned (.tuple #[.slice a L.length c,.int .i64 0])/\w'.ownsRow w.heap.size 56 2 (.slice a L.length c) L.length (L2 L)/\Below w.heap.size w w'
theorem sheet_facts {s:Sht} (h:sheetB s=true) (_hn:s.hs.length=s.hn):0 < s.hn/\(∀x∈s.hs,1<=x/\x<=1000)/\(1<=s.height/\s.height<=3000)/\1<=s.least/\(coursesL s.hs s.height s.least).length<=100:=by
 unfold sheetB at h;simp only [Bool.and_eq_true,decide_eq_true_eq]at h;obtain ⟨⟨⟨⟨⟨⟨-,-⟩,h3⟩,h4⟩,-⟩,-⟩,h7⟩:=h;have h3:=nums_get h3;exact⟨by omega,heights_get h4,h3.2.2.1,h3.2.2.2.2.1,h7⟩
section
variable (w:World)
theorem tCourses_ok (s:Sht) (hs:Sx 1 w s.ha s.hn s.hc (L1 s.hs)) (hm:s.name.size<=maxLen) (hb:sheetB s=true):Calls Tryz.prog 11 #[aS s] w (RetCo w (coursesL s.hs s.height s.least)):=by
 obtain ⟨f1,f2,f3,f4,-⟩:=sheet_facts hb hs.n1.symm;have AA:=ζ (fun W (hW:Below w.heap.size w W)=>checkSheet_any W s (hs.below hW) hm);rw [hb,show errB true=0 from rfl]at AA;have AC:=ζ (fun W (hW:Below w.heap.size w W)=>pcourses_any W s (hs.below hW) f1 f2 f3 f4);generalize coursesL s.hs s.height s.least=CL at*;have AD:=ζ (show(aS s).cells=(cS s).toArray from rfl);have AB:=ζ (show Value.agg (cS s).toArray=aS s from rfl);generalize aS s=V at*;clear hs hm hb f1 f2 f3 f4;go_enter Tryz.func11,Tryz.ntmps11;go_upto_region 1 with (refine wpList_bx (o:=⟨some 1,_,_,_,_,_⟩) rfl (Sy.enter w) _ _ rfl (cS s).toArray AD.out ?_;intro b V2 h2;have hC:=ζ h2;clear h2)
 go_wp2_with (refine wpList_ld (o:=⟨some 5,_,_,_,_,_⟩) rfl _ _ rfl _ _ rfl (cS s) _ (hC.out.range 0 rfl) Tryz.underlying39 rfl info_Sheet V AB.out ?_)
 refine(AA.out _ hC.out.be).mono ?_;rintro e w3 ⟨rfl,hb⟩;have hD:=ζ (hC.out.call hb);clear hb hC;go_wp2_with (refine wpList_ld (o:=⟨some 10,_,_,_,_,_⟩) rfl _ _ rfl _ _ rfl (cS s) _ (hD.out.range 0 rfl) Tryz.underlying39 rfl info_Sheet V AB.out ?_)
 refine(AC.out _ hD.out.be).mono ?_;rintro e w4 ⟨a4,c4,rfl,hr,hb⟩;have hE:=ζ (hD.out.adopt hb hr);clear hb hr hD;go_wp2;refine ret_sy hE.out (v:= .tuple #[.slice a4 CL.length c4,.int .i64 0]) (fun hF=>?_) rfl (fun hF=>⟨_,_,rfl,hF.orow 0 rfl,hF.be⟩);simp [results,Tryz.results11,go_sem]
end
section
open Go.RowKit Go.Shelf Dig
theorem courseRun_one {h H:Int} (hh:1<=h) (hd:H % h=0):∀ (f i:Nat) (z:Int),z=(i:Int)*h->z<=H->(H - z) / h < f->courseRun [h] H f i z=((List.range ((H - z) / h).toNat).map (fun k:Nat=>(z+(k:Int)*h,z+((k:Int)+1)*h)),H)
 | 0,i,z,_,hz,hf=>by have:=Int.ediv_nonneg (show 0<=H - z by omega) (show 0<=h by omega);omega
 | f+1,i,z,hi,hz,hf=>by
   have hA:hAt [h] i=h:=(by unfold hAt;rw [show min i ([h].length - 1)=0 by simp];rfl);have hzm:(H - z) % h=0:=(by rw [hi,Int.sub_emod,hd,Int.mul_emod_left];simp);have hq:(H - z) / h*h=H - z:=Int.ediv_mul_cancel (Int.dvd_of_emod_eq_zero hzm);rw [courseRun_succ,hA];have hn:=Int.ediv_nonneg (show 0<=H - z by omega) (show 0<=h by omega);obtain ⟨m,hm⟩:=Int.eq_ofNat_of_zero_le hn;rw [hm]at hq hf⊢;by_cases hlt:H < z+h
   ·rw [if_pos hlt];have hm0:m=0:=by
     rcases Nat.eq_zero_or_pos m with e | e
     ·exact e
     ·have:=Int.mul_le_mul_of_nonneg_right (show(1:Int)<=(m:Int)by omega) (show 0<=h by omega);omega
    subst hm0;simp at hq⊢;omega
   ·rw [if_neg hlt];have hm0:0 < m:=by
     rcases Nat.eq_zero_or_pos m with e | e
     ·subst e;simp at hq;omega
     ·exact e
    obtain ⟨m',rfl⟩:∃m',m=m'+1:=⟨m - 1,by omega⟩
    have hq2:(H - (z+h)) / h=(m':Int):=by
     have e:H - (z+h)=(m':Int)*h:=by
      have:((m'+1:Nat):Int)*h=(m':Int)*h+h:=(by rw [Int.natCast_add,Int.add_mul];simp);omega
     rw [e,Int.mul_ediv_cancel _ (show h≠0 by omega)]
    have ih:=courseRun_one hh hd f (i+1) (z+h) (by rw [hi,Int.natCast_add,Int.add_mul];simp) (by omega) (by rw [hq2];omega);rw [ih,hq2];refine Prod.ext ?_ rfl;dsimp only;rw [Int.toNat_natCast,Int.toNat_natCast,List.range_succ_eq_map,List.map_cons,List.map_map];refine List.cons_eq_cons.2 ⟨by simp,List.map_congr_left fun k _=>?_⟩;dsimp only [Function.comp];have e:((k.succ:Nat):Int)*h=(k:Int)*h+h:=(by rw [show((k.succ:Nat):Int)=(k:Int)+1 by omega,Int.add_mul,Int.one_mul]);have e2:(((k.succ:Nat):Int)+1)*h=((k:Int)+1)*h+h:=(by rw [show((k.succ:Nat):Int)=(k:Int)+1 by omega,Int.add_mul ((k:Int)+1),Int.one_mul]);rw [e,e2];refine Prod.ext ?_ ?_<;>dsimp only<;>omega
theorem courses_one {h H least:Int} (hh:1<=h) (hH:1<=H/\H<=3000) (hd:H % h=0):coursesL [h] H least=(List.range (H / h).toNat).map (fun k:Nat=>((k:Int)*h,((k:Int)+1)*h)):=by
 have hq:=Int.ediv_le_self h (show 0<=H by omega);have:=courseRun_one hh hd 3001 0 0 (by simp) (by omega) (by rw [Int.sub_zero];omega);rw [courses_done this,if_pos rfl,Int.sub_zero];simp
theorem bay_one {L H h:Int} {i:Nat} (hi:((i:Int)+1)*h<=H) (hh:1<=h):baysP [0,L] [0] [H] ((i:Int)*h) h 1= [(0,L)]:=by
 have e:(i:Int)*h+h=((i:Int)+1)*h:=by rw [Int.add_mul,Int.one_mul]
 have h0:0<=(i:Int)*h:=Int.mul_nonneg (by omega) (by omega);have hs:hasR [0] [H] ((i:Int)*h) h 0=true:=by
  unfold hasR;rw [show bX [0] 0=0 from rfl,show bX [H] 0=H from rfl,decide_eq_true (by omega),decide_eq_true (by omega)];rfl
 unfold baysP bayP bayP;rw [hs];rfl
theorem rows_up {L H h:Int} (hh:1<=h):∀n:Nat,(n:Int)*h<=H->rowsUp [0,L] [0] [H] 0 h 1 n=(List.range n).map fun k:Nat=>((k:Int)*h,((k:Int)+1)*h,[(0,L)])
 | 0,_=>rfl
 | n+1,hn=>by
   have e:((n+1:Nat):Int)*h=((n:Int)+1)*h:=(by rw [Int.natCast_add];rfl);have e2:((n:Int)+1)*h=(n:Int)*h+h:=(by rw [Int.add_mul,Int.one_mul]);rw [e]at hn;unfold rowsUp;rw [rows_up hh n (by omega),List.range_succ,List.map_append,List.map_singleton,Int.zero_add,bay_one hn hh];unfold rowOf;rw [if_neg (by simp),e2]
theorem rows_one {L H h:Int} (hh:1<=h) (hH:1<=H):rowsL [0,L] [0] [H] h=(List.range (H / h).toNat).map fun k:Nat=>((k:Int)*h,((k:Int)+1)*h,[(0,L)]):=by
 unfold rowsL;rw [show minL [0]=0 from rfl,show maxL [H]=H from rfl,show([0,L]:List Int).length - 1=1 from rfl];have hN:rowN 0 H h=(H / h).toNat:=by unfold rowN;rw [Int.sub_zero]
 rw [hN,rows_up hh];have hn:=Int.ediv_nonneg (show 0<=H by omega) (show 0<=h by omega);rw [Int.toNat_of_nonneg hn];exact Int.ediv_mul_le H (by omega)
theorem level_err {L h H:Int} (hL:1<=L/\L<=100000) (hh:1<=h/\h<=1000) (hH:1<=H/\H<=3000) (hq:H<=100*h):rowsErr [(0,0),(L,0)] [0,L] [0] [H] h=0:=by
 have e1:profB [(0,0),(L,0)]=true:=by
  refine prof_iff.2 ⟨by simp,by simp,?_,?_⟩
  ·intro p hp;simp at hp;rcases hp with rfl | rfl
   ·simp [Pt.x,Pt.z]
   ·dsimp only [Pt.x,Pt.z];omega
  ·intro i hi;obtain rfl:i=0:=by simp at hi;omega
   rw [hX_at (by simp),hX_at (by simp)];dsimp only [Pt.x];show(0:Int) < L;omega
 have e2:brkB [(0,0),(L,0)] [0,L]=true:=by
  unfold brkB;rw [e1];simp [inB,upI,hasB,hX,bX,Pt.x];omega
 unfold rowsErr;rw [if_pos e2,if_pos (inB_iff.2 ⟨hh.1,by omega⟩),if_neg,if_neg]
 ·show ¬ 200*h < H - 0;omega
 ·simp [wrongB,inB];omega
theorem idxB_copy {L M:List Wal} (h:M.map nW=L.map nW) (nm:ByteArray):idxB (isW nm) M=idxB (isW nm) L:=by
 have e:∀K:List Wal,idxB (isW nm) (K.map nW)=idxB (isW nm) K:=fun K=>by
  unfold idxB;rw [List.findIdx?_map];rfl
 rw [<-e M,h,e]
theorem one_list {l:List Int} (h:0 < l.length) (h1:l.length=1):l= [l[0]]:=by
 match l,h,h1 with
 | [a],_,_=>rfl
theorem LRw_at {V:World} {g o c n:Nat} {T:List Rwx} (h:Sx 3 V (some ⟨g,o,none⟩) n c (LRw T)) {i:Nat} (hi:i < T.length):
  V.cell? ⟨g,o+i*3,none⟩=some (.int .i64 T[i].low)/\V.cell? ⟨g,o+i*3+1,none⟩=some (.int .i64 T[i].high)/\V.cell? ⟨g,o+i*3+2,none⟩=some (.slice T[i].ba T[i].bays.length T[i].bc):=
 ⟨h.cell (flat_get (k:=3) (fun _=>rfl) T i 0 hi (by omega)),h.cell (flat_get (k:=3) (fun _=>rfl) T i 1 hi (by omega)),h.cell (flat_get (k:=3) (fun _=>rfl) T i 2 hi (by omega))⟩
def cl (n:Nat) (h:Int):List (Int×Int):=(List.range n).map fun k:Nat=>((k:Int)*h,((k:Int)+1)*h)
theorem Sy.newer {w W W' V:World} {bs:List (Nat×Array Value×TypeId)} {os:List Rw} {rs:List (World->Prop)} (h:Sy w W bs os rs) (hV:Away (ownOf bs os) W' V):KeepsNew W.heap.size W' V:=⟨hV.1,fun b hb hl=>hV.2 b hl fun hm=>by
 have:=(h.own_ge hm).2;omega⟩
def RetPlan2 (w:World) (S:List Sht) (L:List Wal) (e:Ending) (w':World):Prop:=∃ (a a':OA) (c c':Nat) (T:List Sht) (M:List Wal),Hid (T.map nS=S.map nS)/\Hid (M.map nW=L.map nW)/\e= .returned (.agg #[.slice a S.length c,.slice a' L.length c'])/\Hid (∀V,KeepsNew w.heap.size w' V->Shts V a S.length c T/\Wals V a' L.length c' M)/\Below w.heap.size w w'
theorem lPlan_c (w:World) (sa wa:OA) (sn sc wn wc:Nat) (S:List Sht) (L:List Wal) (hS:Shts w sa sn sc S) (hL:Wals w wa wn wc L) (hb:smallB S L=true):
  Calls Tryz.prog 9 #[.agg #[.slice sa sn sc,.slice wa wn wc]] w (RetPlan2 w S L):=by
 unfold smallB at hb;simp only [Bool.and_eq_true,decide_eq_true_eq]at hb;obtain ⟨⟨⟨h1,h2⟩,h3⟩,h4⟩:=hb;refine(lPlan_any w sa wa sn sc wn wc S L hS hL ⟨by omega,by omega⟩ (fun s hs=>?_) (fun x hx=>?_)).mono ?_
 ·have:=List.all_eq_true.1 h1 s hs;unfold smS at this;simp at this;omega
 ·have:=List.all_eq_true.1 h2 x hx;unfold smW at this;simp at this;omega
 ·rintro e w' ⟨a,a',c,c',T,M,e1,e2,rfl,-,-,h7,h8⟩;exact⟨a,a',c,c',T,M,ζ e1,ζ e2,rfl,ζ h8,h7⟩
section
variable (w:World)
theorem mTp10_0 {P_:Prop} (h:P_:=by
 intro wS AE;(try dsimp only at AE);go_simp;all_goals (first | rfl | simp)):P_:=h
theorem mTp10_1 {P_:Prop} (h:P_:=by
 go_wp2_with fail
 refine(AF.out _).mono ?_;rintro e VZ ⟨rfl,hb⟩;have hZ:=ζ (hI.out.call hb);clear hb;go_wp2;go_ret;exact⟨rfl,HB.out.trans (hZ.out.be.mono HB.out.size)⟩):P_:=h
theorem mTp10_2 {P_:Prop} (h:P_:=by
 clear AH;go_wp2_with fail
 refine(AF.out _).mono ?_;rintro e VZ ⟨rfl,hb⟩;have hZ:=ζ (hC.out.call hb);clear hb;go_wp2;go_ret;exact⟨rfl,hZ.out.be⟩):P_:=h
theorem topRows_walk (sa wa:OA) (S:List Sht) (L:List Wal) (sc wk:Nat) (nm:ByteArray) (hS:Shts w sa S.length sc S) (hL:Wals w wa L.length wk L):
  Calls Tryz.prog 3 #[.agg #[.slice sa S.length sc,.slice wa L.length wk],.string nm] w (Gives (.bool true) w):=by
 have capS:=hS.row.cap;have capL:=hL.row.cap;unfold maxLen at capS capL;have AF:=ζ wakes08t;have HS:=ζ (fun V (h:Below w.heap.size w V)=>hS.below h);have HL:=ζ (fun V (h:Below w.heap.size w V)=>hL.below h);have AP:=ζ (fun W (h:Below w.heap.size w W)=>refFindWall_any W wa L.length wk L (.slice sa S.length sc) nm (hL.row.below h));have AQ:=ζ (fun W (h:Below w.heap.size w W)=>small_anyG W sa wa S.length sc L.length wk S L (hS.row.below h) (hL.row.below h));have AR:=ζ (fun W (h:Below w.heap.size w W)=>refValid_any W sa wa S.length sc L.length wk S L (hS.below h) (hL.below h));obtain ⟨ix,hix⟩:∃i,idxB (isW nm) L=i:=⟨_,rfl⟩
 obtain ⟨sm,hsm⟩:∃i,smallB S L=i:=⟨_,rfl⟩
 obtain ⟨pb,hpb⟩:∃i,planB S L=i:=⟨_,rfl⟩
 rw [hix]at AP;rw [hsm]at AQ;rw [hpb]at AR;have AW:=ζ hix;have AH:=ζ hsm;have AX:=ζ hpb;clear hS hL hix hsm hpb;go_enter Tryz.func3,Tryz.ntmps3;go_upto_region 1 with (refine wpList_bx (o:=⟨some 2,_,_,_,_,_⟩) rfl (Sy.enter w) _ _ rfl #[.slice sa S.length sc,.slice wa L.length wk] rfl ?_;intro b2 V1 h1;have hA:=ζ h1;clear h1)
 have x0:V1.cell? ⟨b2,0,none⟩=some (.slice sa S.length sc):=hA.out.c 0 0;have x1:V1.cell? ⟨b2,1,none⟩=some (.slice wa L.length wk):=hA.out.c 0 1;go_wp2_with fail
 refine(AP.out _ hA.out.be).mono ?_;rintro e W2 ⟨rfl,hb⟩;have hB:=ζ (hA.out.call hb);clear hb hA x0 x1;have x0:W2.cell? ⟨b2,0,none⟩=some (.slice sa S.length sc):=hB.out.c 0 0;have x1:W2.cell? ⟨b2,1,none⟩=some (.slice wa L.length wk):=hB.out.c 0 1;go_wp2_with fail
 refine(AQ.out _ hB.out.be).mono ?_;rintro e W3 ⟨rfl,hb⟩;have hC:=ζ (hB.out.call hb);clear hb hB x0 x1;cases sm
 ·exact mTp10_2
 by_cases g1:ix < 0
 ·exact mTp10_2
 have x0:W3.cell? ⟨b2,0,none⟩=some (.slice sa S.length sc):=hC.out.c 0 0;have x1:W3.cell? ⟨b2,1,none⟩=some (.slice wa L.length wk):=hC.out.c 0 1;go_wp2_with fail
 refine(AR.out _ hC.out.be).mono ?_;rintro e W4 ⟨rfl,hb⟩;have hD:=ζ (hC.out.call hb);clear hb hC x0 x1;cases pb
 ·clear AH;go_wp2_with fail
  refine(AF.out _).mono ?_;rintro e VZ ⟨rfl,hb⟩;have hZ:=ζ (hD.out.call hb);clear hb;go_wp2;go_ret;exact⟨rfl,hZ.out.be⟩
 have x0:W4.cell? ⟨b2,0,none⟩=some (.slice sa S.length sc):=hD.out.c 0 0;have x1:W4.cell? ⟨b2,1,none⟩=some (.slice wa L.length wk):=hD.out.c 0 1;go_wp2_with fail
 refine(lPlan_c _ sa wa S.length sc L.length wk S L (HS.out _ hD.out.be) (HL.out _ hD.out.be) AH.out).mono ?_;rintro e W5 ⟨a6,a7,c6,c7,T,M,hT,hM,rfl,hP,hb⟩;have hE:=ζ ((hD.out.call hb).push (r:=fun V=>Shts V a6 S.length c6 T/\Wals V a7 L.length c7 M) (fun V hV=>hP.out V (hD.out.newer hV)));clear hb hP hD x0 x1 HS HL AP AQ AR;go_upto_region 5 with fail
 have hX:=ζ (show Sy w _ [(b2,#[.slice sa S.length sc,.slice wa L.length wk],25),(W5.heap.size,#[.slice a6 S.length c6,.slice a7 L.length c7],32)] [] [(fun V=>Shts V a6 S.length c6 T/\Wals V a7 L.length c7 M)]from hE.out.al W5.heap.size #[.slice a6 S.length c6,.slice a7 L.length c7] 32 rfl);obtain ⟨b6,eb6⟩:∃b,W5.heap.size=b:=⟨_,rfl⟩
 rw [eb6]at hX⊢;refine wp_geny hX.out ?_;intro V6 hc;have hF:=ζ hc;clear hc hX eb6;clear hE;have x0:V6.cell? ⟨b6,0,none⟩=some (.slice a6 S.length c6):=hF.out.c 1 0;have x1:V6.cell? ⟨b6,1,none⟩=some (.slice a7 L.length c7):=hF.out.c 1 1;go_wp2_with fail
 refine(pFind_any _ a6 a7 S.length c6 L.length c7 T M nm (hF.out.r 0 rfl).1 (hF.out.r 0 rfl).2).mono ?_;intro e W7 hr;rcases hr with ⟨h1,-⟩ | ⟨-,h2,-⟩ | ⟨h1,k,hk,s,h3,h4,h5,x,t,hx,ht,rfl,hsx,hst,hb⟩
 ·rw [planB_copy hT.out hM.out,AX.out]at h1;cases h1
 ·rw [idxB_copy hM.out,AW.out]at h2;omega
 obtain ⟨s',-,hs',hw⟩:=plan_wall hk h1;have AS:=ζ (show 1<=x.len/\x.len<=100000 by
  have e:x.len=M[k].len:=by rw [hx]
  rw [e];unfold wallB at hw;simp only [Bool.and_eq_true]at hw;exact lim_iff.1 (List.all_eq_true.1 hw.1.2 (M[k].len,1,100000) (by simp)))
 have hsb:sheetB t=true:=by
  rw [show sheetB t=sheetB s by rw [ht];rfl];exact plan_sheet h1 h4
 have hnm:t.name.size<=maxLen:=by
  rw [show t.name=s.name by rw [ht]];exact(hF.out.r 0 rfl).1.nam s h4
 have HB:=ζ (hF.out.call hb).be;have AD:=ζ (sheet_facts hsb hst.n1.symm);have hlen:=hst.n1;have hpos:=AD.out.1;obtain ⟨g0,o0,hta⟩:=hst.addr hpos;have hst2:Sx 1 W7 (some ⟨g0,o0,none⟩) t.hn t.hc (L1 t.hs):=hta ▸ hst;have hk0:0 < t.hs.length:=by omega
 have A9:=ζ (fun V (h:Below W7.heap.size W7 V)=>(hst2.below h).at1 hk0);have AY:=ζ (fun V (h:Below W7.heap.size W7 V)=>tCourses_ok V t (hst.below h) hnm hsb);have Ab:=ζ (show t.hs.length=t.hn from hlen.symm);have Ac:=ζ hta;have AZ:=ζ (show t.hn=1->t.hs= [t.hs[0]]from fun e=>one_list hk0 (by omega));have AG:=ζ (show 1<=t.hs[0]/\t.hs[0]<=1000 from AD.out.2.1 _ (List.getElem_mem hk0));have hG:=ζ (Sy.enter W7);generalize t.hs[0]=hh at*;obtain ⟨VX,hVX⟩:∃V,Value.agg (cWa x).toArray=V:=⟨_,rfl⟩
 obtain ⟨VT,hVT⟩:∃V,Value.agg (cS t).toArray=V:=⟨_,rfl⟩
 have Ad:=ζ hVX;have A0:=ζ hVT;have AI:=ζ (fun V (h:Below W7.heap.size W7 V)=>(show Calls Tryz.prog 11 #[VT] V (RetCo V (coursesL t.hs t.height t.least))by rw [<-hVT];exact AY.out V h));rw [hVX,hVT];clear hVX hVT hst2 hst hta hsx hnm hsb hx ht h1 h3 h4 h5 hs' hw hb hF AY hT hM AW AX AH hk hk0 hlen hpos x0 x1 g1;go_upto_region 6 with (first | (refine wpList_al (o:=⟨some 7,_,_,_,_,_⟩) rfl hG.out _ rfl zW zero_Wall ?_;intro b7 V2 h2;have A1:=ζ h2;clear h2) | (refine wpList_al (o:=⟨some 8,_,_,_,_,_⟩) rfl A1.out _ rfl zShe zero_Sheet ?_;intro b8 V3 h3;have A2:=ζ h3;clear h3) | (refine wpList_st (o:=⟨none,_,_,_,_,_⟩) rfl A2.out 0 rfl _ _ _ rfl rfl (cWa x).toArray Ad.out.symm info_Wall rfl (cWa_one x) ?_;intro V4 h4;have A3:=ζ h4;clear h4) | (refine wpList_st (o:=⟨none,_,_,_,_,_⟩) rfl A3.out 1 rfl _ _ _ rfl rfl (cS t).toArray A0.out.symm info_Sheet rfl (cS_one t) ?_;intro V5 h5;have A4:=ζ h5;clear h5) | fail)
 refine wp_geny A4.out ?_;intro W8 hc8;have hH:Hid (Sy W7 W8 [(b7,(cWa x).toArray,36),(b8,(cS t).toArray,39)] [] []):=ζ hc8;clear hc8 A1 A2 A3 A4 hG;go_wp2_with (refine wpList_ld (o:=⟨some 43,_,_,_,_,_⟩) rfl _ _ rfl _ _ rfl (cS t) _ (hH.out.range 1 rfl) Tryz.underlying39 rfl info_Sheet VT A0.out ?_)
 refine(AI.out _ hH.out.be).mono ?_;rintro e W9 ⟨ca,cc,rfl,hr,hb⟩;have hI:=ζ (hH.out.adopt hb hr);clear hb hr hH AI;have y5:W9.cell? ⟨b8,5,none⟩=some (.slice (some ⟨g0,o0,none⟩) t.hn t.hc):=by rw [<-Ac.out];exact hI.out.c 1 5
 have y3:W9.cell? ⟨b8,3,none⟩=some (.int .i64 t.height):=hI.out.c 1 3;have y2:W9.cell? ⟨b7,2,none⟩=some (.int .i64 x.len):=hI.out.c 0 2;have z0:W9.cell? ⟨g0,o0+0,none⟩=some (.int .i64 hh):=A9.out _ hI.out.be;rw [Nat.add_zero]at z0;have i1:¬ ((t.hn:Int)=0):=by have:=AD.out.1;omega
 have i2:(0:Int) < (t.hn:Int):=by have:=AD.out.1;omega
 have i3:¬ (hh=0):=by have:=AG.out;omega
 by_cases g2:(t.hn:Int)=1;rotate_left
 ·have j1:((t.hn:Int)==1)=false:=by simp [g2]
  have j2:((t.hn:Int) !=1)=true:=by simp [g2]
  exact mTp10_1
 by_cases g3:t.height.tmod hh=0;rotate_left
 ·have j1:(t.height.tmod hh==0)=false:=by simp [g3]
  have j2:(t.height.tmod hh !=0)=true:=by simp [g3]
  exact mTp10_1
 have AJ:t.hs= [hh]:=AZ.out (by omega);have AK:=AD.out.2.2.1;have hmod:t.height % hh=0:=by rw [<-Int.tmod_eq_emod_of_nonneg (by omega)];exact g3
 have AL:=ζ (courses_one (least:=t.least) AG.out.1 AK hmod);obtain ⟨n,hn⟩:∃n,(t.height / hh).toNat=n:=⟨_,rfl⟩
 have hn100:=AD.out.2.2.2.2;rw [AJ,AL.out,hn,List.length_map,List.length_range]at hn100;have hq:t.height<=100*hh:=by
  have h1:=Int.ediv_mul_cancel (Int.dvd_of_emod_eq_zero hmod);have h2:=Int.ediv_nonneg (show 0<=t.height by omega) (show 0<=hh by have:=AG.out;omega);have h3:t.height / hh<=100:=by omega
  have:=Int.mul_le_mul_of_nonneg_right h3 (show 0<=hh by have:=AG.out;omega);omega
 have A5:=ζ (level_err AS.out AG.out AK hq);have AM:=ζ (rows_one (L:=x.len) AG.out.1 AK.1);rw [hn]at AM;have hJ:Hid (Sy W7 W9 [(b7,(cWa x).toArray,36),(b8,(cS t).toArray,39)] [⟨.slice ca n cc,56,2,n,L2 (cl n hh)⟩] []):=ζ (by
  have:=hI.out;rw [AJ,AL.out,hn,List.length_map,List.length_range]at this;exact this)
 have eN:(coursesL t.hs t.height t.least).length=n:=by rw [AJ,AL.out,hn,List.length_map,List.length_range]
 rw [eN];have Af:=ζ hn100;clear hI AL hn100 hq hn hmod AK AJ eN AD AZ Ab;have lb7:=World.block_lt_of_cell? _ _ y2;have lb8:=World.block_lt_of_cell? _ _ y3;have lbg:=World.block_lt_of_cell? _ _ z0;dsimp only at lb7 lb8 lbg;have lb81:b8 < W9.heap.size+1:=by omega
 have lb82:b8 < W9.heap.size+1+1:=by omega
 have lb71:b7 < W9.heap.size+1:=by omega
 go_wp2_with fail
 have hK:=ζ ((((hJ.out.onew W9.heap.size #[.int .i64 0,.int .i64 0,.int .i64 x.len,.int .i64 0] 47 2 2 rfl (by omega) rfl).onew (W9.heap.size+1) #[.int .i64 0,.int .i64 x.len] 3 1 2 (by simp) (by omega) rfl).onew (W9.heap.size+1+1) #[.int .i64 0] 3 1 1 (by simp) (by omega) rfl).onew (W9.heap.size+1+1+1) #[.int .i64 t.height] 3 1 1 (by simp) (by omega) rfl);refine(hRows_ok _ _ _ _ [(0,0),(x.len,0)] (hK.out.osx 1 rfl) _ _ _ [0,x.len] (hK.out.osx 2 rfl) _ _ _ [0] (hK.out.osx 3 rfl) _ _ _ [t.height] (hK.out.osx 4 rfl) hh A5.out).mono ?_;intro e W10 hr;rcases hr with ⟨h1,-⟩ | ⟨-,ra,rc,R,hR,rfl,hrw,hb⟩
 ·exact absurd rfl h1
 have AT:R.length=n:=by
  have:=congrArg List.length (hR.out.trans AM.out);simpa using this
 have hM:=ζ ((hK.out.call hb).thin (os':=[⟨.slice ca n cc,56,2,n,L2 (cl n hh)⟩]) (List.Sublist.refl _) (by simp));clear hb hK hJ y5 y3 y2 z0 lb7 lb8 lbg lb81 lb82 lb71;have AN:=ζ (HB.out.trans (hM.out.be.mono HB.out.size));have HQ:=ζ (fun V (h:Below W10.heap.size W10 V)=>(show V.cell? ⟨b7,2,none⟩=some (.int .i64 x.len)from(h.cell (p:=⟨b7,2,none⟩) (hM.out.lt 0 rfl)).trans (hM.out.c 0 2)));have A6:=ζ (fun V (h:Below W10.heap.size W10 V)=>(hM.out.osx 0 rfl).below h);have A7:=ζ (fun V (h:Below W10.heap.size W10 V)=>hrw.out.1.below h);have Ag:=ζ (fun V (h:Below W10.heap.size W10 V) t (ht:t∈R)=>(hrw.out.2 t ht).below h);have Aj:=ζ (fun k (hk:k < n)=>(show ∃h:k < R.length,nR R[k]=((k:Int)*hh,((k:Int)+1)*hh,[(0,x.len)])by
  refine⟨by omega,?_⟩;have:=congrArg (fun z=>z[k]?) (hR.out.trans AM.out);simp only [List.getElem?_map,List.getElem?_eq_getElem (show k < R.length by omega),List.getElem?_range hk,Option.map_some]at this;exact Option.some.inj this))
 have Ak:=ζ AT;rw [AT];clear hM hrw hR AT AM A5;go_wp2;go_loopw [16] (fun kv wr=>∃k:Nat,k<=n/\kv= .int .i64 k/\Hid (Below W10.heap.size W10 wr)) (fun kv _=>n - (intOf kv).toNat)
 case atStart=>exact⟨0,Nat.zero_le _,rfl,ζ (Below.refl _ _)⟩
 case round=>
  obtain ⟨k,hk,rfl,hW⟩:=hrel;by_cases hlt:k < n
  ·have hlt2:(k:Int) < (n:Int):=(by omega);obtain ⟨hkR,eR⟩:=Aj.out k hlt;obtain ⟨gc,oc,rfl⟩:=(A6.out _ (Below.refl _ _)).addr (by omega);obtain ⟨gr,or_,rfl⟩:=(A7.out _ (Below.refl _ _)).addr (by omega);have hlr:=Ak.out;have AO:=ζ (fun V (h:Below W10.heap.size W10 V)=>LRw_at (A7.out V h) hkR);have AU:=ζ (fun V (h:Below W10.heap.size W10 V)=>Ag.out V h R[k] (List.getElem_mem hkR));generalize R[k]=r at*;obtain ⟨rl,rh,rba,rbc,rb⟩:=r;simp only [nR,Prod.mk.injEq]at eR;obtain ⟨rfl,rfl,rfl⟩:=eR;dsimp only at AO AU;obtain ⟨gb,ob,rfl⟩:=(AU.out _ (Below.refl _ _)).addr (by simp);have A8:=ζ (fun V (h:Below W10.heap.size W10 V)=>(AU.out V h).at2 (i:=0) (by simp));have AV:=ζ (fun V (h:Below W10.heap.size W10 V)=>(A6.out V h).at2 (i:=k) (by unfold cl;simpa using hlt));have eC:(cl n hh)[k]'(by unfold cl;simpa using hlt)=((k:Int)*hh,((k:Int)+1)*hh):=(by unfold cl;rw [List.getElem_map,List.getElem_range]);rw [eC]at AV;dsimp only [List.getElem_cons_zero]at A8 AV;have AB:=ζ (fun V (h:Below W10.heap.size W10 V)=>And.intro (AO.out V h).1 (And.intro (AO.out V h).2.1 (And.intro (AO.out V h).2.2 (And.intro (A8.out V h) (And.intro (AV.out V h) (HQ.out V h))))));have i4:(0:Int)<=(k:Int):=(by omega);have hG:=ζ ((Sy.enter W10).call hW.out);go_upto_region 19 with fail
   refine wp_region_held_drew (S:=(fun w'=>w'.cell? ⟨gr,or_+k*3,none⟩=some (.int .i64 ((k:Int)*hh))/\w'.cell? ⟨gr,or_+k*3+1,none⟩=some (.int .i64 (((k:Int)+1)*hh))/\w'.cell? ⟨gr,or_+k*3+2,none⟩=some (.slice (some ⟨gb,ob,none⟩) 1 rbc)/\w'.cell? ⟨gb,ob,none⟩=some (.int .i64 0)/\w'.cell? ⟨gb,ob+1,none⟩=some (.int .i64 x.len)/\w'.cell? ⟨gc,oc+k*2,none⟩=some (.int .i64 ((k:Int)*hh))/\w'.cell? ⟨gc,oc+k*2+1,none⟩=some (.int .i64 (((k:Int)+1)*hh))/\w'.cell? ⟨b7,2,none⟩=some (.int .i64 x.len)/\True)) (by kernel_rfl) ⟨(AB.out _ hG.out.drew.be).1,(AB.out _ hG.out.drew.be).2.1,(AB.out _ hG.out.drew.be).2.2.1,(by have:=(AB.out _ hG.out.drew.be).2.2.2.1.1;simpa using this),(by have:=(AB.out _ hG.out.drew.be).2.2.2.1.2;simpa using this),(AB.out _ hG.out.drew.be).2.2.2.2.1.1,(AB.out _ hG.out.drew.be).2.2.2.2.1.2,(AB.out _ hG.out.drew.be).2.2.2.2.2,trivial⟩ (fun hH=>?_);refine wpAnyH_geny (show Sy W10 _ [] [] []from hG.out.drew) hH ?_;intro Al hc AA;have AC:=ζ hc;clear hc hH hG;refine tkA 0 rfl AA ?_;(try simp only [zP]);refine tkA 1 rfl AA ?_;(try simp only [zP]);refine tkA 2 rfl AA ?_;(try simp only [zP]);refine tkA 3 rfl AA ?_;(try simp only [zP]);refine tkA 4 rfl AA ?_;(try simp only [zP]);refine tkA 5 rfl AA ?_;(try simp only [zP]);refine tkA 6 rfl AA ?_;(try simp only [zP]);refine tkA 7 rfl AA ?_;(try simp only [zP]);refine tkA 8 rfl AA ?_;(try simp only [zP]);refine tkA 9 rfl AA ?_;(try simp only [zP]);refine wpAnyH_take (i:=10) (oi:=⟨_,_,_,_,_,_⟩) (v:= .bool false) rfl (by kernel_rfl) (by kernel_rfl) (by kernel_rfl) (fun _ _ _ h=>h) (Or.inl ⟨by rfl,?_⟩) AA ?_
   ·exact mTp10_0
   (try simp only [zP]);refine tkA 11 rfl AA ?_;(try simp only [zP]);refine tkA 12 rfl AA ?_;(try simp only [zP]);refine tkA 13 rfl AA ?_;(try simp only [zP]);refine tkA 14 rfl AA ?_;(try simp only [zP]);refine tkA 15 rfl AA ?_;(try simp only [zP]);refine tkA 16 rfl AA ?_;(try simp only [zP]);refine tkA 17 rfl AA ?_;(try simp only [zP]);refine tkA 18 rfl AA ?_;(try simp only [zP]);refine tkA 19 rfl AA ?_;(try simp only [zP]);refine tkA 20 rfl AA ?_;(try simp only [zP]);refine tkA 21 rfl AA ?_;(try simp only [zP]);refine wpAnyH_take (i:=22) (oi:=⟨_,_,_,_,_,_⟩) (v:= .bool false) rfl (by kernel_rfl) (by kernel_rfl) (by kernel_rfl) (fun _ _ _ h=>h) (Or.inl ⟨by rfl,?_⟩) AA ?_
   ·exact mTp10_0
   (try simp only [zP]);refine tkA 23 rfl AA ?_;(try simp only [zP]);refine tkA 24 rfl AA ?_;(try simp only [zP]);refine tkA 25 rfl AA ?_;(try simp only [zP]);refine tkA 26 rfl AA ?_;(try simp only [zP]);refine tkA 27 rfl AA ?_;(try simp only [zP]);refine tkA 28 rfl AA ?_;(try simp only [zP]);refine tkA 29 rfl AA ?_;(try simp only [zP]);refine tkA 30 rfl AA ?_;(try simp only [zP]);refine wpAnyH_take (i:=31) (oi:=⟨_,_,_,_,_,_⟩) (v:= .bool false) rfl (by kernel_rfl) (by kernel_rfl) (by kernel_rfl) (fun _ _ _ h=>h) (Or.inl ⟨by rfl,?_⟩) AA ?_
   ·exact mTp10_0
   (try simp only [zP]);refine tkA 32 rfl AA ?_;(try simp only [zP]);refine tkA 33 rfl AA ?_;(try simp only [zP]);refine tkA 34 rfl AA ?_;(try simp only [zP]);refine tkA 35 rfl AA ?_;(try simp only [zP]);refine tkA 36 rfl AA ?_;(try simp only [zP]);refine tkA 37 rfl AA ?_;(try simp only [zP]);refine tkA 38 rfl AA ?_;(try simp only [zP]);refine tkA 39 rfl AA ?_;(try simp only [zP]);refine tkA 40 rfl AA ?_;(try simp only [zP]);refine tkA 41 rfl AA ?_;(try simp only [zP]);refine tkA 42 rfl AA ?_;(try simp only [zP]);refine tkA 43 rfl AA ?_;(try simp only [zP]);refine wpAnyH_take (i:=44) (oi:=⟨_,_,_,_,_,_⟩) (v:= .bool false) rfl (by kernel_rfl) (by kernel_rfl) (by kernel_rfl) (fun _ _ _ h=>h) (Or.inl ⟨by rfl,?_⟩) AA ?_
   ·exact mTp10_0
   (try simp only [zP]);refine tkA 45 rfl AA ?_;(try simp only [zP]);refine wpAnyH_done (by kernel_rfl) ?_ _;have hZ:=ζ AC.out.be;clear AC AA;have i5:IntKind.i64.wrap ((k:Int)+1)=((k+1:Nat):Int):=(by rw [IntWalk.i64_in _ (by have:=Af.out;omega)];omega);go_wp2;go_roundw
   case rel=>exact⟨k+1,by omega,rfl,hZ⟩
   case measure=>simp [intOf];omega
  ·obtain rfl:k=n:=by omega
   have hlt2:¬ (k:Int) < (k:Int):=(by omega);go_wp2_with fail
   refine(AF.out _).mono ?_;rintro e VZ ⟨rfl,hb⟩;have hZ:=ζ ((AN.out.trans (hW.out.mono AN.out.size)).trans (hb.mono (AN.out.trans (hW.out.mono AN.out.size)).size));clear hb;go_wp2;go_ret;exact⟨rfl,hZ.out⟩
end
end
end Go.Proofs.YtjpojeapdgjbhaaGreatDoor
