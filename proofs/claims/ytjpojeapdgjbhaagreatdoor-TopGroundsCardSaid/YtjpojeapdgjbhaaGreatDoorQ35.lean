/- part -/
import Derived.Test.YtjpojeapdgjbhaaGreatDoorQ33
import Derived.Test.YtjpojeapdgjbhaaGreatDoorQ34
import Derived.Test.YtjpojeapdgjbhaaGreatDoorQ32
set_option maxRecDepth 100000
set_option maxHeartbeats 32000000
namespace Go.Proofs.YtjpojeapdgjbhaaGreatDoor
open Go.RowKit Go.Shelf Dig
theorem settled_len (l:List Pt):(settledL l).length=l.length:=by
 unfold settledL;rw [List.length_map,List.length_append,List.length_drop,List.length_take];omega
theorem settled_near {l:List Pt} (h0:0 < l.length) (h:∀p∈l,Near p):∀p∈settledL l,(-2000000<=p.1/\p.1<=2000000)/\(-2000000<=p.2/\p.2<=2000000):=by
 intro p hp;unfold settledL at hp;obtain ⟨q,hq,rfl⟩:=List.mem_map.1 hp;have hq2:q∈l:=by
  rcases List.mem_append.1 hq with h | h
  ·exact List.mem_of_mem_drop h
  ·exact List.mem_of_mem_take h
 have h1:=h q hq2;have h2:=min_near h0 h;unfold Near at h1 h2;dsimp only;omega
theorem stone_shape {nm:ByteArray} {l:List Pt} {dep den:Int} {g:Pt} (h:stoneB nm l dep den g=true):l.any farS=false/\3<=l.length/\l.length<=12:=by
 have hpl:placedB l=true:=by
  unfold stoneB at h;simp only [Bool.and_eq_true]at h;exact h.2.1
 have hfar:l.any farS=false:=by
  unfold placedB at hpl;simp only [Bool.and_eq_true,Bool.not_eq_true']at hpl;exact hpl.1
 unfold placedB convexB at hpl;simp only [Bool.and_eq_true]at hpl;have:=inB_iff.1 hpl.2.1.1;exact⟨hfar,by omega,by omega⟩
theorem info_PtS1:(Tryz.prog.info? 47).map (·.size)=some 2:=by kernel_rfl
section
variable (w:World)
theorem pcorners_zero (nm:ByteArray) (a:OA) (n c:Nat) (l:List Pt) (dep den gx gz ax az skin:Int) (hnm:nm.size<=1000000) (hs:Sx 2 w a n c (L2 l)) (hok:stoneB nm l dep den (gx,gz)=true) (hax: -100000<=ax/\ax<=100000) (haz: -100000<=az/\az<=100000) (hg:Ways w):
  Calls Tryz.prog 120 #[.agg #[.string nm,.slice a n c,.int .i64 dep,.int .i64 den,.int .i64 gx,.int .i64 gz,.int .i64 0,.int .i64 ax,.int .i64 az,.int .u8 skin]] w (RetRow w 47 2 n (L2 ((settledL l).map (fun p:Pt=>(p.1+ax,p.2+az))))):=by
 obtain ⟨hfar,hl3,hl12⟩:=stone_shape hok;obtain rfl:=hs.n2;have AY:=ζ (fun W (hW:Below w.heap.size w W)=>turned_zero W nm a l.length c l dep den gx gz hnm (hs.below hW) hok (hg.below hW));have A4:=ζ (settled_near (by omega) (farS_near hfar));have AZ:=ζ (settled_len l);have hC:=ζ ((Sy.enter w).al w.heap.size #[.string nm,.slice a l.length c,.int .i64 dep,.int .i64 den,.int .i64 gx,.int .i64 gz,.int .i64 0,.int .i64 ax,.int .i64 az,.int .u8 skin] 89 rfl);generalize settledL l=R at*;obtain ⟨N,hN⟩:∃N,l.length=N:=⟨_,rfl⟩
 have A0:=ζ (AZ.out.trans hN);rw [hN]at AY hC hl3 hl12⊢;clear hs hok hfar hg hnm AZ hN;clear l;go_enter Tryz.func120,Tryz.ntmps120;go_upto_region 1 with fail
 obtain ⟨b1,hb1⟩:∃b,w.heap.size=b:=⟨_,rfl⟩
 rw [hb1]at hC⊢;refine wp_geny (show Sy w _ [(b1,#[.string nm,.slice a N c,.int .i64 dep,.int .i64 den,.int .i64 gx,.int .i64 gz,.int .i64 0,.int .i64 ax,.int .i64 az,.int .u8 skin],89)] [] []from hC.out) ?_;intro V0 hc;have hD:=ζ hc;clear hc hC hb1;have AQ:=hD.out.c 0 0;have AR:=hD.out.c 0 1;have AS:=hD.out.c 0 2;have AT:=hD.out.c 0 3;have AU:=hD.out.c 0 4;have AV:=hD.out.c 0 5;have AW:=hD.out.c 0 6;go_wp2_with fail
 refine(AY.out _ hD.out.be).mono ?_;rintro e w1 ⟨a9,c9,rfl,hr,hb⟩;have hE:=ζ ((hD.out.adopt hb hr).al w1.heap.size #[.string nm,.slice a9 N c9,.int .i64 dep,.int .i64 den,.int .i64 gx,.int .i64 gz] 85 rfl);clear hb hr hD AQ AR AS AT AU AV AW;go_upto_region 2 with fail
 obtain ⟨b3,hb3⟩:∃b,w1.heap.size=b:=⟨_,rfl⟩
 rw [hb3]at hE⊢;refine wp_geny (show Sy w _ [(b1,#[.string nm,.slice a N c,.int .i64 dep,.int .i64 den,.int .i64 gx,.int .i64 gz,.int .i64 0,.int .i64 ax,.int .i64 az,.int .u8 skin],89),(b3,#[.string nm,.slice a9 N c9,.int .i64 dep,.int .i64 den,.int .i64 gx,.int .i64 gz],85)] [⟨.slice a9 N c9,47,2,N,L2 R⟩] []from hE.out) ?_;intro V1 hc;have hF:=ζ hc;clear hc hE hb3;have AL:=hF.out.c 1 1;go_upto_region 3 with (refine wpList_makeK_sy (o:=⟨some 18,_,_,_,_,_⟩) rfl hF.out _ 47 _ _ rfl _ 2 16 N rfl rfl und_PtS info_PtS (by omega) (by omega) (fun g9 V2 xs hV=>?_);have hG:=ζ hV;clear hV AL hF)
 have AL:=hG.out.c 1 1;go_upto_region 4 with (refine wpList_copyK_sy (o:=⟨some 22,_,_,_,_,_⟩) rfl hG.out 1 rfl (hG.out.osx 0 rfl) (by omega) _ _ _ _ rfl und_PtS info_PtS1 rfl rfl (one_L2 R) (fun V3 hV=>?_);have hH:=ζ (show Sy w V3 [(b1,#[.string nm,.slice a N c,.int .i64 dep,.int .i64 den,.int .i64 gx,.int .i64 gz,.int .i64 0,.int .i64 ax,.int .i64 az,.int .u8 skin],89),(b3,#[.string nm,.slice a9 N c9,.int .i64 dep,.int .i64 den,.int .i64 gx,.int .i64 gz],85)] [⟨.slice a9 N c9,47,2,N,L2 R⟩,⟨.slice (some ⟨g9,0,none⟩) N N,47,2,N,L2 R⟩] []from hV);clear hV AL hG)
 go_wp2;go_loopw [25] (fun iv wr=>∃j:Nat,j<=N/\iv= .int .i64 j/\Hid (Sy w wr [(b1,#[.string nm,.slice a N c,.int .i64 dep,.int .i64 den,.int .i64 gx,.int .i64 gz,.int .i64 0,.int .i64 ax,.int .i64 az,.int .u8 skin],89),(b3,#[.string nm,.slice a9 N c9,.int .i64 dep,.int .i64 den,.int .i64 gx,.int .i64 gz],85)] [⟨.slice a9 N c9,47,2,N,L2 R⟩,⟨.slice (some ⟨g9,0,none⟩) N N,47,2,N,L2 (halfM (fun p:Pt=>(p.1+ax,p.2+az)) R j)⟩] [])) (fun iv _=>N - (intOf iv).toNat)
 case atStart=>exact⟨0,Nat.zero_le _,rfl,hH⟩
 case round=>
  clear hH;obtain ⟨j,hj,rfl,hS⟩:=hrel;have i0:(0:Int)<=(j:Int):=by omega
  by_cases hlt:j < N
  ·have i1:(j:Int) < (N:Int):=(by omega);have hjR:j < R.length:=(by rw [A0.out];exact hlt);have hgj:=halfM_at (fun p:Pt=>(p.1+ax,p.2+az)) hjR;have hlj:=halfM_len (fun p:Pt=>(p.1+ax,p.2+az)) (Nat.le_of_lt hjR);have AM:=ζ (halfM_set (fun p:Pt=>(p.1+ax,p.2+az)) hjR);have hnp:=A4.out R[j] (List.getElem_mem hjR);generalize R[j]=p at*;obtain ⟨p0,p1⟩:=p;dsimp only at AM hgj hnp;generalize halfM (fun p:Pt=>(p.1+ax,p.2+az)) R j=Q at*;have AP:j < Q.length:=(by omega);have AN:=ζ (L2_at AP);have A1:Q[j]=(p0,p1):=(by rw [List.getElem?_eq_getElem AP]at hgj;exact Option.some.inj hgj);rw [A1]at AN;have AX:=ζ (L2_set Q j (p0+ax,p1+az) AP);rw [AM.out]at AX;have A2:=ζ (show((L2 Q).set (j*2) (.int .i64 (p0+ax)))[j*2+1]? =some (.int .i64 p1)by rw [List.getElem?_set_ne (by omega)];exact AN.out.2);dsimp only at hnp AN AX;have w1:IntKind.i64.wrap (p0+ax)=p0+ax:=IntWalk.i64_in _ (by omega);have w2:IntKind.i64.wrap (p1+az)=p1+az:=IntWalk.i64_in _ (by omega);clear hgj hlj A1 AM hnp hjR AP;go_upto_region 7 with fail
   refine wp_region_held_drew (S:=(fun w'=>w'.cell? ⟨b1,0,none⟩=some (.string nm)/\w'.cell? ⟨b1,1,none⟩=some (.slice a N c)/\w'.cell? ⟨b1,2,none⟩=some (.int .i64 dep)/\w'.cell? ⟨b1,3,none⟩=some (.int .i64 den)/\w'.cell? ⟨b1,4,none⟩=some (.int .i64 gx)/\w'.cell? ⟨b1,5,none⟩=some (.int .i64 gz)/\w'.cell? ⟨b1,6,none⟩=some (.int .i64 0)/\w'.cell? ⟨b1,7,none⟩=some (.int .i64 ax)/\w'.cell? ⟨b1,8,none⟩=some (.int .i64 az)/\w'.cell? ⟨b1,9,none⟩=some (.int .u8 skin)/\True)) (by kernel_rfl) ⟨hS.out.drew.c 0 0,hS.out.drew.c 0 1,hS.out.drew.c 0 2,hS.out.drew.c 0 3,hS.out.drew.c 0 4,hS.out.drew.c 0 5,hS.out.drew.c 0 6,hS.out.drew.c 0 7,hS.out.drew.c 0 8,hS.out.drew.c 0 9,trivial⟩ (fun hH=>?_);refine wpAnyH_geny (show Sy w _ [(b1,#[.string nm,.slice a N c,.int .i64 dep,.int .i64 den,.int .i64 gx,.int .i64 gz,.int .i64 0,.int .i64 ax,.int .i64 az,.int .u8 skin],89),(b3,#[.string nm,.slice a9 N c9,.int .i64 dep,.int .i64 den,.int .i64 gx,.int .i64 gz],85)] [⟨.slice a9 N c9,47,2,N,L2 R⟩,⟨.slice (some ⟨g9,0,none⟩) N N,47,2,N,L2 Q⟩] []from hS.out.drew) hH ?_;intro A5 hc AA;have AG:=ζ hc;clear hc hH hS;refine tkA 0 rfl AA ?_;(try simp only [zP]);refine tkA 1 rfl AA ?_;(try simp only [zP]);refine tkA 2 rfl AA ?_;(try simp only [zP]);refine tkA 3 rfl AA ?_;(try simp only [zP]);refine tkA 5 rfl AA ?_;(try simp only [zP]);refine tkA 6 rfl AA ?_;(try simp only [zP]);refine tkA 7 rfl AA ?_;(try simp only [zP]);refine rdy1 4 rfl (fun Kq AH=>?_);have cQ0:=AG.out.rcell 1 rfl AN.out.1;go_simp;refine stepZ AH (show Sy w _ [(b1,#[.string nm,.slice a N c,.int .i64 dep,.int .i64 den,.int .i64 gx,.int .i64 gz,.int .i64 0,.int .i64 ax,.int .i64 az,.int .u8 skin],89),(b3,#[.string nm,.slice a9 N c9,.int .i64 dep,.int .i64 den,.int .i64 gx,.int .i64 gz],85)] [⟨.slice a9 N c9,47,2,N,L2 R⟩,⟨.slice (some ⟨g9,0,none⟩) N N,47,2,N,L2 Q⟩] []from AG.out) (fun _ hX=>⟨hX.c 0 0,hX.c 0 1,hX.c 0 2,hX.c 0 3,hX.c 0 4,hX.c 0 5,hX.c 0 6,hX.c 0 7,hX.c 0 8,hX.c 0 9,trivial⟩) ?_;intro A6 AC AD;clear AH Kq AG cQ0 AA;(try simp only [zP]);refine tkA 8 rfl AD ?_;(try simp only [zP]);refine tkA 9 rfl AD ?_;(try simp only [zP]);refine tkA 10 rfl AD ?_;(try simp only [zP]);refine rdy1 11 rfl (fun Kq AH=>?_);have cQ0:=AC.out.rcell 1 rfl AN.out.1;have fQ0:=AC.out.rfree 1 rfl (j*2);go_simp;refine stepZ AH (show Sy w _ [(b1,#[.string nm,.slice a N c,.int .i64 dep,.int .i64 den,.int .i64 gx,.int .i64 gz,.int .i64 0,.int .i64 ax,.int .i64 az,.int .u8 skin],89),(b3,#[.string nm,.slice a9 N c9,.int .i64 dep,.int .i64 den,.int .i64 gx,.int .i64 gz],85)] [⟨.slice a9 N c9,47,2,N,L2 R⟩,⟨.slice (some ⟨g9,0,none⟩) N N,47,2,N,(L2 Q).set (j*2) (.int .i64 (p0+ax))⟩] []from(AC.out.ostore 1 rfl (j*2) (.int .i64 (p0+ax)))) (fun _ hX=>⟨hX.c 0 0,hX.c 0 1,hX.c 0 2,hX.c 0 3,hX.c 0 4,hX.c 0 5,hX.c 0 6,hX.c 0 7,hX.c 0 8,hX.c 0 9,trivial⟩) ?_;intro A7 AJ AO;clear AH Kq AC cQ0 fQ0 AD;(try simp only [Act.put]);refine wpAnyH_done (by kernel_rfl) ?_ _;have hK:=ζ AJ.out;clear AJ AO;go_upto_region 8 with fail
   refine wp_region_held_drew (S:=(fun w'=>w'.cell? ⟨b1,0,none⟩=some (.string nm)/\w'.cell? ⟨b1,1,none⟩=some (.slice a N c)/\w'.cell? ⟨b1,2,none⟩=some (.int .i64 dep)/\w'.cell? ⟨b1,3,none⟩=some (.int .i64 den)/\w'.cell? ⟨b1,4,none⟩=some (.int .i64 gx)/\w'.cell? ⟨b1,5,none⟩=some (.int .i64 gz)/\w'.cell? ⟨b1,6,none⟩=some (.int .i64 0)/\w'.cell? ⟨b1,7,none⟩=some (.int .i64 ax)/\w'.cell? ⟨b1,8,none⟩=some (.int .i64 az)/\w'.cell? ⟨b1,9,none⟩=some (.int .u8 skin)/\True)) (by kernel_rfl) ⟨hK.out.drew.c 0 0,hK.out.drew.c 0 1,hK.out.drew.c 0 2,hK.out.drew.c 0 3,hK.out.drew.c 0 4,hK.out.drew.c 0 5,hK.out.drew.c 0 6,hK.out.drew.c 0 7,hK.out.drew.c 0 8,hK.out.drew.c 0 9,trivial⟩ (fun hH=>?_);refine wpAnyH_geny (show Sy w _ [(b1,#[.string nm,.slice a N c,.int .i64 dep,.int .i64 den,.int .i64 gx,.int .i64 gz,.int .i64 0,.int .i64 ax,.int .i64 az,.int .u8 skin],89),(b3,#[.string nm,.slice a9 N c9,.int .i64 dep,.int .i64 den,.int .i64 gx,.int .i64 gz],85)] [⟨.slice a9 N c9,47,2,N,L2 R⟩,⟨.slice (some ⟨g9,0,none⟩) N N,47,2,N,(L2 Q).set (j*2) (.int .i64 (p0+ax))⟩] []from hK.out.drew) hH ?_;intro A8 hc AB;have AI:=ζ hc;clear hc hH hK;refine tkA 0 rfl AB ?_;(try simp only [zP]);refine tkA 1 rfl AB ?_;(try simp only [zP]);refine tkA 2 rfl AB ?_;(try simp only [zP]);refine tkA 3 rfl AB ?_;(try simp only [zP]);refine tkA 5 rfl AB ?_;(try simp only [zP]);refine tkA 6 rfl AB ?_;(try simp only [zP]);refine tkA 7 rfl AB ?_;(try simp only [zP]);refine rdy1 4 rfl (fun Kq AH=>?_);have cQ0:=AI.out.rcell 1 rfl A2.out;go_simp;refine stepZ AH (show Sy w _ [(b1,#[.string nm,.slice a N c,.int .i64 dep,.int .i64 den,.int .i64 gx,.int .i64 gz,.int .i64 0,.int .i64 ax,.int .i64 az,.int .u8 skin],89),(b3,#[.string nm,.slice a9 N c9,.int .i64 dep,.int .i64 den,.int .i64 gx,.int .i64 gz],85)] [⟨.slice a9 N c9,47,2,N,L2 R⟩,⟨.slice (some ⟨g9,0,none⟩) N N,47,2,N,(L2 Q).set (j*2) (.int .i64 (p0+ax))⟩] []from AI.out) (fun _ hX=>⟨hX.c 0 0,hX.c 0 1,hX.c 0 2,hX.c 0 3,hX.c 0 4,hX.c 0 5,hX.c 0 6,hX.c 0 7,hX.c 0 8,hX.c 0 9,trivial⟩) ?_;intro A9 AE AF;clear AH Kq AI cQ0 AB;(try simp only [zP]);refine tkA 8 rfl AF ?_;(try simp only [zP]);refine tkA 9 rfl AF ?_;(try simp only [zP]);refine tkA 10 rfl AF ?_;(try simp only [zP]);refine rdy1 11 rfl (fun Kq AH=>?_);have cQ0:=AE.out.rcell 1 rfl A2.out;have fQ0:=AE.out.rfree 1 rfl (j*2+1);go_simp;refine stepZ AH (show Sy w _ [(b1,#[.string nm,.slice a N c,.int .i64 dep,.int .i64 den,.int .i64 gx,.int .i64 gz,.int .i64 0,.int .i64 ax,.int .i64 az,.int .u8 skin],89),(b3,#[.string nm,.slice a9 N c9,.int .i64 dep,.int .i64 den,.int .i64 gx,.int .i64 gz],85)] [⟨.slice a9 N c9,47,2,N,L2 R⟩,⟨.slice (some ⟨g9,0,none⟩) N N,47,2,N,((L2 Q).set (j*2) (.int .i64 (p0+ax))).set (j*2+1) (.int .i64 (p1+az))⟩] []from(AE.out.ostore 1 rfl (j*2+1) (.int .i64 (p1+az)))) (fun _ hX=>⟨hX.c 0 0,hX.c 0 1,hX.c 0 2,hX.c 0 3,hX.c 0 4,hX.c 0 5,hX.c 0 6,hX.c 0 7,hX.c 0 8,hX.c 0 9,trivial⟩) ?_;intro Ab AK A3;clear AH Kq AE cQ0 fQ0 AF;(try simp only [Act.put]);refine wpAnyH_done (by kernel_rfl) ?_ _;have hJ:=ζ AK.out;rw [AX.out]at hJ;clear AK;go_wp2;go_roundw
   case rel=>exact⟨j+1,by omega,by go_num,hJ⟩
   case measure=>simp [intOf];omega
  ·obtain rfl:j=N:=by omega
   have i1:¬ (j:Int) < (j:Int):=(by omega);have HL:=ζ (halfM_end (fun p:Pt=>(p.1+ax,p.2+az)) (show R.length<=j by rw [A0.out];exact Nat.le_refl _));rw [HL.out]at hS;clear HL;go_wp2;go_ret;exact⟨_,_,rfl,hS.out.orow 1 rfl,hS.out.be⟩
end
def cAt (C:List Pt) (i:Nat):Pt:=C.getD (i % C.length) (0,0)
def lowE (C:List Pt) (k:Nat):List Pt:=(List.range k).flatMap fun i=>if (cAt C i).1 < (cAt C (i+1)).1 then [cAt C i,cAt C (i+1)]else []
def upE (C:List Pt) (k:Nat):List Pt:=(List.range k).flatMap fun i=>if (cAt C (i+1)).1 < (cAt C i).1 then [cAt C i,cAt C (i+1)]else []
theorem lowE_succ (C:List Pt) (k:Nat):lowE C (k+1)=lowE C k++if (cAt C k).1 < (cAt C (k+1)).1 then [cAt C k,cAt C (k+1)]else []:=by
 unfold lowE;rw [List.range_succ,List.flatMap_append,List.flatMap_singleton]
theorem upE_succ (C:List Pt) (k:Nat):upE C (k+1)=upE C k++if (cAt C (k+1)).1 < (cAt C k).1 then [cAt C k,cAt C (k+1)]else []:=by
 unfold upE;rw [List.range_succ,List.flatMap_append,List.flatMap_singleton]
theorem lowE_len (C:List Pt):∀k,(lowE C k).length<=2*k
 | 0=>by simp [lowE]
 | k+1=>by
   rw [lowE_succ,List.length_append];have:=lowE_len C k
   split<;>simp<;>omega
theorem upE_len (C:List Pt):∀k,(upE C k).length<=2*k
 | 0=>by simp [upE]
 | k+1=>by
   rw [upE_succ,List.length_append];have:=upE_len C k
   split<;>simp<;>omega
theorem cAt_mem {C:List Pt} (h:0 < C.length) (i:Nat):cAt C i∈C:=by
 unfold cAt;rw [List.getD_eq_getElem?_getD,List.getElem?_eq_getElem (Nat.mod_lt _ h)];exact List.getElem_mem _
theorem mTq3_0 {P_:Prop} (h:P_:=by
 try simp only [zP]
 refine tkA 6 rfl AH ?_;try simp only [zP]
 refine rdy1 5 rfl (fun Kq AA=>?_);go_simp;go_at_call 123;refine(compact_line _ _ _ _ l2 (AE.out.osx 2 rfl) A6.out.2 HU.out.2.1).mono ?_;rintro e wT ⟨rfl,hb⟩;(try go_wp2_with fail);refine stepZ AA (show Sy w _ [(b1,#[.string nm,.slice a k c,.int .i64 dep,.int .i64 den,.int .i64 gx,.int .i64 gz,.int .i64 0,.int .i64 ax,.int .i64 az,.int .u8 skin],89),(b2,#[.string { data:=#[] },.slice none 0 0,.int .i64 0,.int .i64 0,.int .i64 0,.int .i64 0,.int .i64 0,.int .i64 0,.int .i64 0,.int .u8 0,.slice none 0 0,.slice none 0 0],133),(b3,#[.string nm,.slice a k c,.int .i64 dep,.int .i64 den,.int .i64 gx,.int .i64 gz,.int .i64 0,.int .i64 ax,.int .i64 az,.int .u8 skin,.slice (some ⟨gl,0,none⟩) l1.length cl,.slice (some ⟨gu,0,none⟩) l2.length cu],133)] [⟨.slice (some ⟨gC,0,none⟩) k cC,47,2,k,L2 C⟩,⟨.slice (some ⟨gl,0,none⟩) l1.length cl,47,2,l1.length,L2 l1⟩,⟨.slice (some ⟨gu,0,none⟩) l2.length cu,47,2,l2.length,L2 l2⟩] []from(AE.out.call hb)) (fun _ hX=>trivial) ?_;intro Ab AB AN;clear AA Kq AE hb AH;try simp only [zP]
 refine rdy1 7 rfl (fun Kq AA=>?_);have cQ0:=AB.out.c 2 10;have fQ0:=AB.out.f 2 10;go_simp;refine stepZ AA (show Sy w _ [(b1,#[.string nm,.slice a k c,.int .i64 dep,.int .i64 den,.int .i64 gx,.int .i64 gz,.int .i64 0,.int .i64 ax,.int .i64 az,.int .u8 skin],89),(b2,#[.string { data:=#[] },.slice none 0 0,.int .i64 0,.int .i64 0,.int .i64 0,.int .i64 0,.int .i64 0,.int .i64 0,.int .i64 0,.int .u8 0,.slice none 0 0,.slice none 0 0],133),(b3,#[.string nm,.slice a k c,.int .i64 dep,.int .i64 den,.int .i64 gx,.int .i64 gz,.int .i64 0,.int .i64 ax,.int .i64 az,.int .u8 skin,.slice (some ⟨gl,0,none⟩) l1.length cl,.slice (some ⟨gu,0,none⟩) l2.length cu],133)] [⟨.slice (some ⟨gC,0,none⟩) k cC,47,2,k,L2 C⟩,⟨.slice (some ⟨gl,0,none⟩) l1.length cl,47,2,l1.length,L2 l1⟩,⟨.slice (some ⟨gu,0,none⟩) l2.length cu,47,2,l2.length,L2 l2⟩] []from(AB.out|>.set (j:=10) (v:= .slice (some ⟨gl,0,none⟩) l1.length cl) 2 rfl)) (fun _ hX=>trivial) ?_;intro Ac AC AI;clear AA Kq AB cQ0 fQ0 AN;try simp only [Act.put]
 refine tkA 8 rfl AI ?_;try simp only [zP]
 refine rdy1 9 rfl (fun Kq AA=>?_);have cQ0:=AC.out.c 2 11;have fQ0:=AC.out.f 2 11;go_simp;refine stepZ AA (show Sy w _ [(b1,#[.string nm,.slice a k c,.int .i64 dep,.int .i64 den,.int .i64 gx,.int .i64 gz,.int .i64 0,.int .i64 ax,.int .i64 az,.int .u8 skin],89),(b2,#[.string { data:=#[] },.slice none 0 0,.int .i64 0,.int .i64 0,.int .i64 0,.int .i64 0,.int .i64 0,.int .i64 0,.int .i64 0,.int .u8 0,.slice none 0 0,.slice none 0 0],133),(b3,#[.string nm,.slice a k c,.int .i64 dep,.int .i64 den,.int .i64 gx,.int .i64 gz,.int .i64 0,.int .i64 ax,.int .i64 az,.int .u8 skin,.slice (some ⟨gl,0,none⟩) l1.length cl,.slice (some ⟨gu,0,none⟩) l2.length cu],133)] [⟨.slice (some ⟨gC,0,none⟩) k cC,47,2,k,L2 C⟩,⟨.slice (some ⟨gl,0,none⟩) l1.length cl,47,2,l1.length,L2 l1⟩,⟨.slice (some ⟨gu,0,none⟩) l2.length cu,47,2,l2.length,L2 l2⟩] []from(AC.out|>.set (j:=11) (v:= .slice (some ⟨gu,0,none⟩) l2.length cu) 2 rfl)) (fun _ hX=>trivial) ?_;intro Ad AF AS;clear AA Kq AC cQ0 fQ0 AI;try simp only [Act.put]
 refine wpAnyH_done (by kernel_rfl) ?_ _;go_upto_region 17 with fail
 go_wp2_with (first | (refine wpList_ld (o:=⟨some 73,_,_,_,_,_⟩) rfl _ _ rfl _ _ rfl [.string nm,.slice a k c,.int .i64 dep,.int .i64 den,.int .i64 gx,.int .i64 gz,.int .i64 0,.int .i64 ax,.int .i64 az,.int .u8 skin,.slice (some ⟨gl,0,none⟩) l1.length cl,.slice (some ⟨gu,0,none⟩) l2.length cu] _ (AF.out.range 2 rfl) Tryz.underlying133 rfl size_laid (.agg #[.string nm,.slice a k c,.int .i64 dep,.int .i64 den,.int .i64 gx,.int .i64 gz,.int .i64 0,.int .i64 ax,.int .i64 az,.int .u8 skin,.slice (some ⟨gl,0,none⟩) l1.length cl,.slice (some ⟨gu,0,none⟩) l2.length cu]) rfl ?_;(try simp only [zP])) | (refine wpList_st (o:=⟨none,_,_,_,_,_⟩) rfl AF.out 1 rfl _ _ _ rfl rfl #[.string nm,.slice a k c,.int .i64 dep,.int .i64 den,.int .i64 gx,.int .i64 gz,.int .i64 0,.int .i64 ax,.int .i64 az,.int .u8 skin,.slice (some ⟨gl,0,none⟩) l1.length cl,.slice (some ⟨gu,0,none⟩) l2.length cu] rfl size_laid rfl (by simp [Value.oneCell']) ?_;intro V9 AT;have hW:=ζ AT;clear AT AF;(try simp only [Act.put])))
 refine ret_sy hW.out (v:= .agg #[.string nm,.slice a k c,.int .i64 dep,.int .i64 den,.int .i64 gx,.int .i64 gz,.int .i64 0,.int .i64 ax,.int .i64 az,.int .u8 skin,.slice (some ⟨gl,0,none⟩) l1.length cl,.slice (some ⟨gu,0,none⟩) l2.length cu]) (fun hF=>?_) rfl (fun hF=>⟨_,_,_,_,rfl,hF.orow 1 rfl,hF.orow 2 rfl,hF.be⟩);have g0:=hF.c 1 0;have g1:=hF.c 1 1;have g2:=hF.c 1 2;have g3:=hF.c 1 3;have g4:=hF.c 1 4;have g5:=hF.c 1 5;have g6:=hF.c 1 6;have g7:=hF.c 1 7;have g8:=hF.c 1 8;have g9:=hF.c 1 9;have g10:=hF.c 1 10;have g11:=hF.c 1 11;simp [results,Tryz.results64,go_sem,g0,g1,g2,g3,g4,g5,g6,g7,g8,g9,g10,g11]):P_:=h
theorem mTq3_1 {P_:Prop} (h:P_:=by
 go_simp;refine stepZ AA (show Sy w _ [(b1,#[.string nm,.slice a k c,.int .i64 dep,.int .i64 den,.int .i64 gx,.int .i64 gz,.int .i64 0,.int .i64 ax,.int .i64 az,.int .u8 skin],89),(b2,#[.string { data:=#[] },.slice none 0 0,.int .i64 0,.int .i64 0,.int .i64 0,.int .i64 0,.int .i64 0,.int .i64 0,.int .i64 0,.int .u8 0,.slice none 0 0,.slice none 0 0],133),(b3,#[.string nm,.slice a k c,.int .i64 dep,.int .i64 den,.int .i64 gx,.int .i64 gz,.int .i64 0,.int .i64 ax,.int .i64 az,.int .u8 skin,.slice (some ⟨gl,0,none⟩) l1.length cl,.slice (some ⟨gu,0,none⟩) l2.length cu],133)] [⟨.slice (some ⟨gC,0,none⟩) k cC,47,2,k,L2 C⟩,⟨.slice (some ⟨gl,0,none⟩) l1.length cl,47,2,l1.length,L2 l1⟩,⟨.slice (some ⟨gu,0,none⟩) l2.length cu,47,2,l2.length,L2 l2⟩] []from AG.out) (fun _ hX=>trivial) ?_;intro A8 AD AM;clear AA Kq AG cQ0 AP;try simp only [zP]
 refine rdy1 2 rfl (fun Kq AA=>?_);go_simp;go_at_call 123;refine(compact_line _ _ _ _ l1 (AD.out.osx 1 rfl) A6.out.1 HL.out.2.1).mono ?_;rintro e wT ⟨rfl,hb⟩;(try go_wp2_with fail);refine stepZ AA (show Sy w _ [(b1,#[.string nm,.slice a k c,.int .i64 dep,.int .i64 den,.int .i64 gx,.int .i64 gz,.int .i64 0,.int .i64 ax,.int .i64 az,.int .u8 skin],89),(b2,#[.string { data:=#[] },.slice none 0 0,.int .i64 0,.int .i64 0,.int .i64 0,.int .i64 0,.int .i64 0,.int .i64 0,.int .i64 0,.int .u8 0,.slice none 0 0,.slice none 0 0],133),(b3,#[.string nm,.slice a k c,.int .i64 dep,.int .i64 den,.int .i64 gx,.int .i64 gz,.int .i64 0,.int .i64 ax,.int .i64 az,.int .u8 skin,.slice (some ⟨gl,0,none⟩) l1.length cl,.slice (some ⟨gu,0,none⟩) l2.length cu],133)] [⟨.slice (some ⟨gC,0,none⟩) k cC,47,2,k,L2 C⟩,⟨.slice (some ⟨gl,0,none⟩) l1.length cl,47,2,l1.length,L2 l1⟩,⟨.slice (some ⟨gu,0,none⟩) l2.length cu,47,2,l2.length,L2 l2⟩] []from(AD.out.call hb)) (fun _ hX=>trivial) ?_;intro A9 AE AH;clear AA Kq AD hb AM;exact mTq3_0):P_:=h
theorem mTq3_2 {P_:Prop} (h:P_:=by
 obtain ⟨i,-,hi⟩:=List.mem_flatMap.1 hp
 split at hi
 ·simp only [List.mem_cons,List.not_mem_nil,or_false]at hi;rcases hi with rfl | rfl<;>exact cAt_mem h _
 ·cases hi):P_:=h
theorem lowE_mem {C:List Pt} (h:0 < C.length) (k:Nat):∀p∈lowE C k,p∈C:=by
 intro p hp;unfold lowE at hp;exact mTq3_2
theorem upE_mem {C:List Pt} (h:0 < C.length) (k:Nat):∀p∈upE C k,p∈C:=by
 intro p hp;unfold upE at hp;exact mTq3_2
theorem size_laid:(Tryz.prog.info? 133).map (·.size)=some 12:=by kernel_rfl
def Sorts (E L:List Pt):Prop:=(∀l':List Pt,l'.Perm E->l'.Pairwise (fun p q=>p.1<=q.1)->l'=L)/\(∀i (h:i+1 < L.length),L[i+1]≠L[i])/\0 < E.length
def RetLaid (w:World) (V10:List Value) (LO UP:List Pt) (e:Ending) (w':World):Prop:=∃al cl au cu,e= .returned (.agg (V10++ [Value.slice al LO.length cl,Value.slice au UP.length cu]).toArray)/\w'.ownsRow w.heap.size 47 2 (.slice al LO.length cl) LO.length (L2 LO)/\w'.ownsRow w.heap.size 47 2 (.slice au UP.length cu) UP.length (L2 UP)/\Below w.heap.size w w'
theorem sy_addr {w W:World} {bs:List (Nat×Array Value×TypeId)} {os:List Rw} {rs:List (World->Prop)} (h:Sy w W bs os rs) (i:Nat) {b:OA} {N c':Nat} {e:TypeId} {size:Nat} {xs:List Value} (hi:os[i]? =some ⟨.slice b N c',e,size,N,xs⟩) (hN:0 < N):∃g,b=some ⟨g,0,none⟩:=by
 have:=h.orow i hi;rcases this.2 with ⟨h1,h2⟩ | ⟨g,cap,cur,hv,_⟩
 ·omega
 ·simp only [Value.slice.injEq]at hv;exact⟨g,hv.1⟩
section
variable (w:World)
theorem poutline_zero (nm:ByteArray) (a:OA) (n c:Nat) (l:List Pt) (dep den gx gz ax az skin:Int) (hnm:nm.size<=1000000) (hs:Sx 2 w a n c (L2 l)) (hok:stoneB nm l dep den (gx,gz)=true) (hax: -100000<=ax/\ax<=100000) (haz: -100000<=az/\az<=100000) (hg:Ways w)
  (C LO UP:List Pt) (hCC:(settledL l).map (fun p:Pt=>(p.1+ax,p.2+az))=C) (hLO:Sorts (lowE C n) LO) (hUP:Sorts (upE C n) UP) (hnr:∀p∈C,-1000000<=p.1/\p.1<=1000000):
  Calls Tryz.prog 64 #[.agg #[.string nm,.slice a n c,.int .i64 dep,.int .i64 den,.int .i64 gx,.int .i64 gz,.int .i64 0,.int .i64 ax,.int .i64 az,.int .u8 skin]] w (RetLaid w [.string nm,.slice a n c,.int .i64 dep,.int .i64 den,.int .i64 gx,.int .i64 gz,.int .i64 0,.int .i64 ax,.int .i64 az,.int .u8 skin] LO UP):=by
 obtain ⟨-,hl3,hl12⟩:=stone_shape hok;have hn2:=hs.n2;have Aj:=ζ (fun W (hW:Below w.heap.size w W)=>pcorners_zero W nm a n c l dep den gx gz ax az skin hnm (hs.below hW) hok hax haz (hg.below hW));rw [hCC]at Aj;have Ak:C.length=n:=by rw [<-hCC,List.length_map,settled_len,hn2]
 have HL:=ζ hLO;have HU:=ζ hUP;have Al:=ζ hnr;have Af:=ζ Ak;have Az:=ζ (lowE_len C);have BA:=ζ (upE_len C);rw [<-hn2]at hl3 hl12;have hC:=ζ (((Sy.enter w).al w.heap.size #[.string nm,.slice a n c,.int .i64 dep,.int .i64 den,.int .i64 gx,.int .i64 gz,.int .i64 0,.int .i64 ax,.int .i64 az,.int .u8 skin] 89 rfl).al (w.heap.size+1) #[.string { data:=#[] },.slice none 0 0,.int .i64 0,.int .i64 0,.int .i64 0,.int .i64 0,.int .i64 0,.int .i64 0,.int .i64 0,.int .u8 0,.slice none 0 0,.slice none 0 0] 133 (by simp));clear hs hok hax haz hg hCC hLO hUP hnm hn2 hnr Ak;clear l;go_enter Tryz.func64,Tryz.ntmps64;go_upto_region 1 with fail
 obtain ⟨b2,hb2⟩:∃b,w.heap.size+1=b:=⟨_,rfl⟩
 obtain ⟨b1,hb1⟩:∃b,w.heap.size=b:=⟨_,rfl⟩
 rw [hb2,hb1]at hC⊢;refine wp_geny (show Sy w _ [(b1,#[.string nm,.slice a n c,.int .i64 dep,.int .i64 den,.int .i64 gx,.int .i64 gz,.int .i64 0,.int .i64 ax,.int .i64 az,.int .u8 skin],89),(b2,#[.string { data:=#[] },.slice none 0 0,.int .i64 0,.int .i64 0,.int .i64 0,.int .i64 0,.int .i64 0,.int .i64 0,.int .i64 0,.int .u8 0,.slice none 0 0,.slice none 0 0],133)] [] []from hC.out) ?_;intro V0 hc;have hD:=ζ hc;clear hc hC hb1 hb2;have AU:=hD.out.c 0 0;have AV:=hD.out.c 0 1;have AW:=hD.out.c 0 2;have AX:=hD.out.c 0 3;have AY:=hD.out.c 0 4;have AZ:=hD.out.c 0 5;have A0:=hD.out.c 0 6;have A1:=hD.out.c 0 7;have A2:=hD.out.c 0 8;have A3:=hD.out.c 0 9;have hE:=ζ (hD.out.al V0.heap.size #[.string nm,.slice a n c,.int .i64 dep,.int .i64 den,.int .i64 gx,.int .i64 gz,.int .i64 0,.int .i64 ax,.int .i64 az,.int .u8 skin,.slice none 0 0,.slice none 0 0] 133 rfl);go_upto_region 2 with fail
 obtain ⟨b3,hb3⟩:∃b,V0.heap.size=b:=⟨_,rfl⟩
 rw [hb3]at hE⊢;refine wp_geny (show Sy w _ [(b1,#[.string nm,.slice a n c,.int .i64 dep,.int .i64 den,.int .i64 gx,.int .i64 gz,.int .i64 0,.int .i64 ax,.int .i64 az,.int .u8 skin],89),(b2,#[.string { data:=#[] },.slice none 0 0,.int .i64 0,.int .i64 0,.int .i64 0,.int .i64 0,.int .i64 0,.int .i64 0,.int .i64 0,.int .u8 0,.slice none 0 0,.slice none 0 0],133),(b3,#[.string nm,.slice a n c,.int .i64 dep,.int .i64 den,.int .i64 gx,.int .i64 gz,.int .i64 0,.int .i64 ax,.int .i64 az,.int .u8 skin,.slice none 0 0,.slice none 0 0],133)] [] []from hE.out) ?_;intro V1 hc;have hF:=ζ hc;clear hc hE hD hb3 AU AV AW AX AY AZ A0 A1 A2 A3;have AU:=hF.out.c 0 0;have AV:=hF.out.c 0 1;have AW:=hF.out.c 0 2;have AX:=hF.out.c 0 3;have AY:=hF.out.c 0 4;have AZ:=hF.out.c 0 5;have A0:=hF.out.c 0 6;have A1:=hF.out.c 0 7;have A2:=hF.out.c 0 8;have A3:=hF.out.c 0 9;go_wp2_with fail
 refine(Aj.out _ hF.out.be).mono ?_;rintro e w1 ⟨aC,cC,rfl,hr,hb⟩;have hG:=ζ (((hF.out.adopt hb hr).onil 47 2).onil 47 2);clear hb hr hF AU AV AW AX AY AZ A0 A1 A2 A3;obtain ⟨gC,rfl⟩:=sy_addr hG.out 0 rfl (by omega);have hCcap:=(hG.out.osx 0 rfl).cap;unfold maxLen at hCcap;have A7:=ζ (fun(W:World) (hW:Sx 2 W (some ⟨gC,0,none⟩) n cC (L2 C)) (i:Nat)=>show W.cell? ⟨gC,i % n*2,none⟩=some (.int .i64 (cAt C i).1)/\W.cell? ⟨gC,i % n*2+1,none⟩=some (.int .i64 (cAt C i).2)by
  have hi:i % n < C.length:=by rw [Af.out];exact Nat.mod_lt _ (by omega)
  have:=hW.at2 hi;rw [Nat.zero_add]at this;have e:cAt C i=C[i % n]:=by
   unfold cAt;rw [Af.out,List.getD_eq_getElem?_getD,List.getElem?_eq_getElem hi];rfl
  rw [e];exact this)
 go_wp2;go_loopw [18] (fun iv wr=>∃ (k:Nat) (bl:OA) (nl cl:Nat) (bu:OA) (nu cu:Nat),k<=n/\iv= .int .i64 k/\nl<=2*k/\nu<=2*k/\Hid (Sy w wr [(b1,#[.string nm,.slice a n c,.int .i64 dep,.int .i64 den,.int .i64 gx,.int .i64 gz,.int .i64 0,.int .i64 ax,.int .i64 az,.int .u8 skin],89),(b2,#[.string { data:=#[] },.slice none 0 0,.int .i64 0,.int .i64 0,.int .i64 0,.int .i64 0,.int .i64 0,.int .i64 0,.int .i64 0,.int .u8 0,.slice none 0 0,.slice none 0 0],133),(b3,#[.string nm,.slice a n c,.int .i64 dep,.int .i64 den,.int .i64 gx,.int .i64 gz,.int .i64 0,.int .i64 ax,.int .i64 az,.int .u8 skin,.slice bl nl cl,.slice bu nu cu],133)] [⟨.slice (some ⟨gC,0,none⟩) n cC,47,2,n,L2 C⟩,⟨.slice bl nl cl,47,2,nl,L2 (lowE C k)⟩,⟨.slice bu nu cu,47,2,nu,L2 (upE C k)⟩] [])) (fun iv _=>n - (intOf iv).toNat)
 case atStart=>exact⟨0,none,0,0,none,0,0,Nat.zero_le _,rfl,by omega,by omega,hG⟩
 case round=>
  clear hG;obtain ⟨k,bl,nl,cl,bu,nu,cu,hk,rfl,hnl,hnu,hS⟩:=hrel;have i0:(0:Int)<=(k:Int):=by omega
  by_cases hlt:k < n
  ·have i1:(k:Int) < (n:Int):=(by omega);have A4:=ζ (lowE_succ C k);have A5:=ζ (upE_succ C k);obtain ⟨x0,x1⟩:=A7.out _ (hS.out.osx 0 rfl) k;obtain ⟨y0,y1⟩:=A7.out _ (hS.out.osx 0 rfl) (k+1);rw [Nat.mod_eq_of_lt hlt]at x0 x1;generalize cAt C k=p at*;generalize cAt C (k+1)=q at*;obtain ⟨p0,p1⟩:=p;obtain ⟨q0,q1⟩:=q;dsimp only at x0 x1 y0 y1 A4 A5;obtain ⟨m,hm⟩:∃m,(k+1) % n=m:=⟨_,rfl⟩
   have hml:m < n:=(by rw [<-hm];exact Nat.mod_lt _ (by omega));rw [hm]at y0 y1;have e1:IntKind.i64.wrap ((k:Int)+1)=(k:Int)+1:=IntWalk.i64_in _ (by omega);have e2:Int.tmod ((k:Int)+1) (n:Int)=(m:Int):=(by rw [Int.tmod_eq_emod_of_nonneg (by omega),<-hm,Int.natCast_emod,Int.natCast_add];rfl);have e3:¬ (n:Int)=0:=(by omega);have j0:(0:Int)<=(m:Int):=(by omega);have j1:(m:Int) < (n:Int):=(by omega);have hgl:=World.block_lt_of_cell? _ _ x0;dsimp only at hgl;have hX:=ζ ((hS.out.al wr.heap.size #[.int .i64 p0,.int .i64 p1] 47 rfl).al (wr.heap.size+1) #[.int .i64 q0,.int .i64 q1] 47 (by simp));clear hm;go_upto_region 8 with fail
   obtain ⟨b5,hb5⟩:∃b,wr.heap.size+1=b:=⟨_,rfl⟩
   obtain ⟨b4,hb4⟩:∃b,wr.heap.size=b:=⟨_,rfl⟩
   rw [hb5,hb4]at hX⊢;refine wp_geny (show Sy w _ [(b1,#[.string nm,.slice a n c,.int .i64 dep,.int .i64 den,.int .i64 gx,.int .i64 gz,.int .i64 0,.int .i64 ax,.int .i64 az,.int .u8 skin],89),(b2,#[.string { data:=#[] },.slice none 0 0,.int .i64 0,.int .i64 0,.int .i64 0,.int .i64 0,.int .i64 0,.int .i64 0,.int .i64 0,.int .u8 0,.slice none 0 0,.slice none 0 0],133),(b3,#[.string nm,.slice a n c,.int .i64 dep,.int .i64 den,.int .i64 gx,.int .i64 gz,.int .i64 0,.int .i64 ax,.int .i64 az,.int .u8 skin,.slice bl nl cl,.slice bu nu cu],133),(b4,#[.int .i64 p0,.int .i64 p1],47),(b5,#[.int .i64 q0,.int .i64 q1],47)] [⟨.slice (some ⟨gC,0,none⟩) n cC,47,2,n,L2 C⟩,⟨.slice bl nl cl,47,2,nl,L2 (lowE C k)⟩,⟨.slice bu nu cu,47,2,nu,L2 (upE C k)⟩] []from hX.out) ?_;intro V2 hc;have hY:=ζ hc;clear hc hX hS hb5 hb4 x0 x1 y0 y1 hgl e1 e2 e3;have Aq:=hY.out.c 3 0;have Ar:=hY.out.c 3 1;have As:=hY.out.c 4 0;have Av:=hY.out.c 4 1;have AK:=hY.out.c 2 10;have AQ:=hY.out.f 2 10;have AL:=hY.out.c 2 11;have AR:=hY.out.f 2 11;rcases Int.lt_trichotomy p0 q0 with h1 | h1 | h1
   ·have h2:¬ q0 < p0:=(by omega);rw [if_pos h1]at A4;rw [if_neg h2,List.append_nil]at A5;go_wp2_with (refine wpList_append_sy (o:=⟨some 41,_,_,_,_,_⟩) rfl (hY.out.onew V2.heap.size #[.int .i64 p0,.int .i64 p1,.int .i64 q0,.int .i64 q1] 47 2 2 rfl (by omega) rfl) 1 3 rfl rfl _ _ _ rfl und_Line info_PtS rfl (by omega) rfl rfl (by intro u hu;simp at hu;rcases hu with rfl | rfl | rfl | rfl<;>rfl) (by omega) (by omega) (fun a9 c9 V hV=>?_);have hJ:=ζ hV;clear hV AK AQ AL AR hY;have AK:=hJ.out.c 2 10;have AQ:=hJ.out.f 2 10)
    go_roundw
    case rel=>exact⟨k+1,a9,nl+2,c9,bu,nu,cu,by omega,by go_num,by omega,by omega,ζ (by rw [A4.out,A5.out,L2_append];exact(hJ.out|>.set (j:=10) (v:= .slice a9 (nl+2) c9) 2 rfl).thin (tkSub 3 _ rfl) (tkSub 3 _ rfl))⟩
    case measure=>simp [intOf];omega
   ·have h2:¬ q0 < p0:=(by omega);have h3:¬ p0 < q0:=(by omega);rw [if_neg h3,List.append_nil]at A4;rw [if_neg h2,List.append_nil]at A5;go_wp2;go_roundw
    case rel=>exact⟨k+1,bl,nl,cl,bu,nu,cu,by omega,by go_num,by omega,by omega,ζ (by rw [A4.out,A5.out];exact hY.out.thin (tkSub 3 _ rfl) (tkSub 3 _ rfl))⟩
    case measure=>simp [intOf];omega
   ·have h3:¬ p0 < q0:=(by omega);rw [if_neg h3,List.append_nil]at A4;rw [if_pos h1]at A5;go_wp2_with (refine wpList_append_sy (o:=⟨some 54,_,_,_,_,_⟩) rfl (hY.out.onew V2.heap.size #[.int .i64 p0,.int .i64 p1,.int .i64 q0,.int .i64 q1] 47 2 2 rfl (by omega) rfl) 2 3 rfl rfl _ _ _ rfl und_Line info_PtS rfl (by omega) rfl rfl (by intro u hu;simp at hu;rcases hu with rfl | rfl | rfl | rfl<;>rfl) (by omega) (by omega) (fun a9 c9 V hV=>?_);have hJ:=ζ hV;clear hV AK AQ AL AR hY;have AL:=hJ.out.c 2 11;have AR:=hJ.out.f 2 11)
    go_roundw
    case rel=>exact⟨k+1,bl,nl,cl,a9,nu+2,c9,by omega,by go_num,by omega,by omega,ζ (by rw [A4.out,A5.out,L2_append];exact(hJ.out|>.set (j:=11) (v:= .slice a9 (nu+2) c9) 2 rfl).thin (tkSub 3 _ rfl) (tkSub 3 _ rfl))⟩
    case measure=>simp [intOf];omega
  ·obtain rfl:k=n:=by omega
   have i1:¬ (k:Int) < (k:Int):=(by omega);have hnl2:=(hS.out.osx 1 rfl).n2;have hnu2:=(hS.out.osx 2 rfl).n2;have hl0:=HL.out.2.2;have hu0:=HU.out.2.2;have HN:=ζ (show nl=(lowE C k).length/\nu=(upE C k).length from⟨hnl2,hnu2⟩);obtain ⟨gl,rfl⟩:=sy_addr hS.out 1 rfl (by omega);obtain ⟨gu,rfl⟩:=sy_addr hS.out 2 rfl (by omega);have Am:=ζ (show 0 < C.length by rw [Af.out];omega);clear hnl2 hnu2 hl0 hu0;have AK:=hS.out.c 2 10;go_upto_region 14 with fail
   go_wp2_with fail
   refine(sort_line hS.out 1 rfl (fun p hp=>Al.out p (lowE_mem Am.out k p hp)) (by omega)).mono ?_;rintro e w3 ⟨rfl,l1,hp1,hw1,An⟩;obtain rfl:=HL.out.1 l1 hp1 hw1;have hT:=ζ (show Sy w w3 [(b1,#[.string nm,.slice a k c,.int .i64 dep,.int .i64 den,.int .i64 gx,.int .i64 gz,.int .i64 0,.int .i64 ax,.int .i64 az,.int .u8 skin],89),(b2,#[.string { data:=#[] },.slice none 0 0,.int .i64 0,.int .i64 0,.int .i64 0,.int .i64 0,.int .i64 0,.int .i64 0,.int .i64 0,.int .u8 0,.slice none 0 0,.slice none 0 0],133),(b3,#[.string nm,.slice a k c,.int .i64 dep,.int .i64 den,.int .i64 gx,.int .i64 gz,.int .i64 0,.int .i64 ax,.int .i64 az,.int .u8 skin,.slice (some ⟨gl,0,none⟩) nl cl,.slice (some ⟨gu,0,none⟩) nu cu],133)] [⟨.slice (some ⟨gC,0,none⟩) k cC,47,2,k,L2 C⟩,⟨.slice (some ⟨gl,0,none⟩) nl cl,47,2,nl,L2 l1⟩,⟨.slice (some ⟨gu,0,none⟩) nu cu,47,2,nu,L2 (upE C k)⟩] []from An);clear An hp1 hw1 hS AK;have AL:=hT.out.c 2 11;go_wp2_with fail
   refine(sort_line hT.out 2 rfl (fun p hp=>Al.out p (upE_mem Am.out k p hp)) (by omega)).mono ?_;rintro e w4 ⟨rfl,l2,hp2,hw2,Ap⟩;obtain rfl:=HU.out.1 l2 hp2 hw2;have hZ:=ζ (show Sy w w4 [(b1,#[.string nm,.slice a k c,.int .i64 dep,.int .i64 den,.int .i64 gx,.int .i64 gz,.int .i64 0,.int .i64 ax,.int .i64 az,.int .u8 skin],89),(b2,#[.string { data:=#[] },.slice none 0 0,.int .i64 0,.int .i64 0,.int .i64 0,.int .i64 0,.int .i64 0,.int .i64 0,.int .i64 0,.int .u8 0,.slice none 0 0,.slice none 0 0],133),(b3,#[.string nm,.slice a k c,.int .i64 dep,.int .i64 den,.int .i64 gx,.int .i64 gz,.int .i64 0,.int .i64 ax,.int .i64 az,.int .u8 skin,.slice (some ⟨gl,0,none⟩) nl cl,.slice (some ⟨gu,0,none⟩) nu cu],133)] [⟨.slice (some ⟨gC,0,none⟩) k cC,47,2,k,L2 C⟩,⟨.slice (some ⟨gl,0,none⟩) nl cl,47,2,nl,L2 l1⟩,⟨.slice (some ⟨gu,0,none⟩) nu cu,47,2,nu,L2 l2⟩] []from Ap);clear Ap hp2 hw2 hT AL;obtain rfl:=(hZ.out.osx 1 rfl).n2;obtain rfl:=(hZ.out.osx 2 rfl).n2;have A6:=ζ (show l1.length<=1000000/\l2.length<=1000000 from⟨by omega,by omega⟩);go_upto_region 16 with fail
   refine wp_region_held_drew (S:=(fun w'=>True)) (by kernel_rfl) trivial (fun hH=>?_);refine wpAnyH_geny (show Sy w _ [(b1,#[.string nm,.slice a k c,.int .i64 dep,.int .i64 den,.int .i64 gx,.int .i64 gz,.int .i64 0,.int .i64 ax,.int .i64 az,.int .u8 skin],89),(b2,#[.string { data:=#[] },.slice none 0 0,.int .i64 0,.int .i64 0,.int .i64 0,.int .i64 0,.int .i64 0,.int .i64 0,.int .i64 0,.int .u8 0,.slice none 0 0,.slice none 0 0],133),(b3,#[.string nm,.slice a k c,.int .i64 dep,.int .i64 den,.int .i64 gx,.int .i64 gz,.int .i64 0,.int .i64 ax,.int .i64 az,.int .u8 skin,.slice (some ⟨gl,0,none⟩) l1.length cl,.slice (some ⟨gu,0,none⟩) l2.length cu],133)] [⟨.slice (some ⟨gC,0,none⟩) k cC,47,2,k,L2 C⟩,⟨.slice (some ⟨gl,0,none⟩) l1.length cl,47,2,l1.length,L2 l1⟩,⟨.slice (some ⟨gu,0,none⟩) l2.length cu,47,2,l2.length,L2 l2⟩] []from hZ.out.drew) hH ?_;intro Ax hc AO;have AJ:=ζ hc;clear hc hH hZ;refine tkA 0 rfl AO ?_;(try simp only [zP]);refine tkA 3 rfl AO ?_;(try simp only [zP]);refine rdyL [1,4] ?_;refine arc rfl (fun Kq AA=>?_) ?_
   ·have cQ0:=AJ.out.c 2 10;go_simp;refine stepZ AA (show Sy w _ [(b1,#[.string nm,.slice a k c,.int .i64 dep,.int .i64 den,.int .i64 gx,.int .i64 gz,.int .i64 0,.int .i64 ax,.int .i64 az,.int .u8 skin],89),(b2,#[.string { data:=#[] },.slice none 0 0,.int .i64 0,.int .i64 0,.int .i64 0,.int .i64 0,.int .i64 0,.int .i64 0,.int .i64 0,.int .u8 0,.slice none 0 0,.slice none 0 0],133),(b3,#[.string nm,.slice a k c,.int .i64 dep,.int .i64 den,.int .i64 gx,.int .i64 gz,.int .i64 0,.int .i64 ax,.int .i64 az,.int .u8 skin,.slice (some ⟨gl,0,none⟩) l1.length cl,.slice (some ⟨gu,0,none⟩) l2.length cu],133)] [⟨.slice (some ⟨gC,0,none⟩) k cC,47,2,k,L2 C⟩,⟨.slice (some ⟨gl,0,none⟩) l1.length cl,47,2,l1.length,L2 l1⟩,⟨.slice (some ⟨gu,0,none⟩) l2.length cu,47,2,l2.length,L2 l2⟩] []from AJ.out) (fun _ hX=>trivial) ?_;intro Ag AG AP;clear AA Kq AJ cQ0 AO;(try simp only [zP]);refine rdyL [2,4] ?_;refine arc rfl (fun Kq AA=>?_) ?_
    ·go_simp;go_at_call 123;refine(compact_line _ _ _ _ l1 (AG.out.osx 1 rfl) A6.out.1 HL.out.2.1).mono ?_;rintro e wT ⟨rfl,hb⟩;(try go_wp2_with fail);refine stepZ AA (show Sy w _ [(b1,#[.string nm,.slice a k c,.int .i64 dep,.int .i64 den,.int .i64 gx,.int .i64 gz,.int .i64 0,.int .i64 ax,.int .i64 az,.int .u8 skin],89),(b2,#[.string { data:=#[] },.slice none 0 0,.int .i64 0,.int .i64 0,.int .i64 0,.int .i64 0,.int .i64 0,.int .i64 0,.int .i64 0,.int .u8 0,.slice none 0 0,.slice none 0 0],133),(b3,#[.string nm,.slice a k c,.int .i64 dep,.int .i64 den,.int .i64 gx,.int .i64 gz,.int .i64 0,.int .i64 ax,.int .i64 az,.int .u8 skin,.slice (some ⟨gl,0,none⟩) l1.length cl,.slice (some ⟨gu,0,none⟩) l2.length cu],133)] [⟨.slice (some ⟨gC,0,none⟩) k cC,47,2,k,L2 C⟩,⟨.slice (some ⟨gl,0,none⟩) l1.length cl,47,2,l1.length,L2 l1⟩,⟨.slice (some ⟨gu,0,none⟩) l2.length cu,47,2,l2.length,L2 l2⟩] []from(AG.out.call hb)) (fun _ hX=>trivial) ?_;intro A8 AD AM;clear AA Kq AG hb AP;(try simp only [zP]);refine rdy1 4 rfl (fun Kq AA=>?_);have cQ0:=AD.out.c 2 11;go_simp;refine stepZ AA (show Sy w _ [(b1,#[.string nm,.slice a k c,.int .i64 dep,.int .i64 den,.int .i64 gx,.int .i64 gz,.int .i64 0,.int .i64 ax,.int .i64 az,.int .u8 skin],89),(b2,#[.string { data:=#[] },.slice none 0 0,.int .i64 0,.int .i64 0,.int .i64 0,.int .i64 0,.int .i64 0,.int .i64 0,.int .i64 0,.int .u8 0,.slice none 0 0,.slice none 0 0],133),(b3,#[.string nm,.slice a k c,.int .i64 dep,.int .i64 den,.int .i64 gx,.int .i64 gz,.int .i64 0,.int .i64 ax,.int .i64 az,.int .u8 skin,.slice (some ⟨gl,0,none⟩) l1.length cl,.slice (some ⟨gu,0,none⟩) l2.length cu],133)] [⟨.slice (some ⟨gC,0,none⟩) k cC,47,2,k,L2 C⟩,⟨.slice (some ⟨gl,0,none⟩) l1.length cl,47,2,l1.length,L2 l1⟩,⟨.slice (some ⟨gu,0,none⟩) l2.length cu,47,2,l2.length,L2 l2⟩] []from AD.out) (fun _ hX=>trivial) ?_;intro A9 AE AH;clear AA Kq AD cQ0 AM;exact mTq3_0
    refine arc rfl (fun Kq AA=>?_) ?_
    ·have cQ0:=AG.out.c 2 11;exact mTq3_1
    exact AllReadyH.nil
   refine arc rfl (fun Kq AA=>?_) ?_
   ·have cQ0:=AJ.out.c 2 11;go_simp;refine stepZ AA (show Sy w _ [(b1,#[.string nm,.slice a k c,.int .i64 dep,.int .i64 den,.int .i64 gx,.int .i64 gz,.int .i64 0,.int .i64 ax,.int .i64 az,.int .u8 skin],89),(b2,#[.string { data:=#[] },.slice none 0 0,.int .i64 0,.int .i64 0,.int .i64 0,.int .i64 0,.int .i64 0,.int .i64 0,.int .i64 0,.int .u8 0,.slice none 0 0,.slice none 0 0],133),(b3,#[.string nm,.slice a k c,.int .i64 dep,.int .i64 den,.int .i64 gx,.int .i64 gz,.int .i64 0,.int .i64 ax,.int .i64 az,.int .u8 skin,.slice (some ⟨gl,0,none⟩) l1.length cl,.slice (some ⟨gu,0,none⟩) l2.length cu],133)] [⟨.slice (some ⟨gC,0,none⟩) k cC,47,2,k,L2 C⟩,⟨.slice (some ⟨gl,0,none⟩) l1.length cl,47,2,l1.length,L2 l1⟩,⟨.slice (some ⟨gu,0,none⟩) l2.length cu,47,2,l2.length,L2 l2⟩] []from AJ.out) (fun _ hX=>trivial) ?_;intro Ag AG AP;clear AA Kq AJ cQ0 AO;(try simp only [zP]);refine rdy1 1 rfl (fun Kq AA=>?_);have cQ0:=AG.out.c 2 10;exact mTq3_1
   exact AllReadyH.nil
end
structure Fit (l1 l2:List Pt) (F T:Int) (K:List Int):Prop where
 p1:Prof l1
 p2:Prof l2
 f:max (hX l1 0) (hX l2 0)=F
 t:min (hX l1 (l1.length - 1)) (hX l2 (l2.length - 1))=T
 lt:F < T
 k:(([F,T]++inX F T (l1++l2)).mergeSort fun x y=>decide (x<=y))=K
 nd:∀i (h:i+1 < K.length),K[i+1]≠K[i]
 rng:∀x∈K,F<=x/\x<=T
def gapQ (l1 l2:List Pt) (x:Int):Rat:=grd l1 x - grd l2 x
def leastQ (l1 l2:List Pt) (K:List Int):Rat:=foldQ minQ (K.map (gapQ l1 l2))
theorem sgnQ_nn {q:Rat} (h:0<=q):0<=sgnQ q:=by
 unfold sgnQ
 split
 ·omega
 ·split
  ·rename_i e;exact absurd h (by grind)
  ·omega
section
variable {l1 l2:List Pt} {F T:Int} {K:List Int}
theorem Fit.len (h:Fit l1 l2 F T K):K.length=2+(inX F T (l1++l2)).length:=by rw [<-h.k,List.length_mergeSort];simp;omega
theorem Fit.len2 (h:Fit l1 l2 F T K):2<=K.length/\K.length<=82:=by
 have h1:=h.len;have h2:=inX_len F T (l1++l2);rw [List.length_append]at h2;have:=h.p1.forty;have:=h.p2.forty;omega
theorem Fit.ins (h:Fit l1 l2 F T K) {x:Int} (hx:x∈K):(hX l1 0<=x/\x<=hX l1 (l1.length - 1))/\(hX l2 0<=x/\x<=hX l2 (l2.length - 1)):=by
 have h1:=h.rng x hx;have h2:=h.f;have h3:=h.t;omega
theorem Fit.bound (h:Fit l1 l2 F T K) {x:Int} (hx:x∈K): -1000000<=x/\x<=1000000:=by
 have h1:=(h.ins hx).1;have h2:=h.p1.two;have h3:=h.p1.bx (i:=0) (by omega);have h4:=h.p1.bx (i:=l1.length - 1) (by omega);omega
theorem Fit.bq (h:Fit l1 l2 F T K) {x:Int} (hx:x∈K):Bq 145 (gapQ l1 l2 x):=by
 have h1:=h.ins hx;exact(h.p1.grd_gd h1.1.1 h1.1.2).bq.sub (h.p2.grd_gd h1.2.1 h1.2.2).bq
theorem Fit.lbq (h:Fit l1 l2 F T K):Bq 145 (leastQ l1 l2 K):=by
 have h2:=h.len2;refine foldQ_bq (fun q hq=>?_) (fun e=>?_)
 ·obtain ⟨x,hx,rfl⟩:=List.mem_map.1 hq;exact h.bq hx
 ·rw [List.map_eq_nil_iff]at e;rw [e]at h2;simp at h2
end
section
variable (w:World)
theorem pleast_any (a1:OA) (n1 c1:Nat) (l1:List Pt) (a2:OA) (n2 c2:Nat) (l2:List Pt) (F T:Int) (K:List Int) (h1:Sx 2 w a1 n1 c1 (L2 l1)) (h2:Sx 2 w a2 n2 c2 (L2 l2)) (hF:Fit l1 l2 F T K):
  Calls Tryz.prog 73 #[.agg #[.slice a1 n1 c1,.slice a2 n2 c2,.int .i64 F,.int .i64 T]] w (RetL w (leastQ l1 l2 K)):=by
 have hl1:=h1.n2;have hl2:=h2.n2;have p1:=hF.p1.two;have p2:=hF.p1.forty;have p3:=hF.p2.forty;have p4:=hF.len2;have AR:=ζ (fun W (hW:Below w.heap.size w W)=>pstops_any W a1 n1 c1 l1 a2 n2 c2 l2 F T K (h1.below hW) (h2.below hW) (by omega) (by omega) hF.k hF.nd (fun x hx=>hF.bound hx));have AO:=ζ (fun W (hW:Below w.heap.size w W) aK cK (hro:RowR W (.slice aK K.length cK) (K.map fun x:Int=>(x:Rat)))=>pbest_gap W aK cK K a1 n1 c1 a2 n2 c2 F T (gapQ l1 l2) hro
  (fun W' hW' x hx a7 n7 c7 m7 d7 e7 f7 hr=>pgap_any W' a1 n1 c1 l1 a2 n2 c2 l2 F T x a7 n7 c7 m7 d7 e7 f7 (h1.below (hW.trans (hW'.mono hW.size))) (h2.below (hW.trans (hW'.mono hW.size))) hF.p1 hF.p2 hr (hF.ins hx).1.1 (hF.ins hx).1.2 (hF.ins hx).2.1 (hF.ins hx).2.2) (fun x hx=>hF.bq hx) (by omega) (by omega))
 have hC:=ζ ((((Sy.enter w).al w.heap.size #[.slice a1 n1 c1,.slice a2 n2 c2,.int .i64 F,.int .i64 T] 156 rfl).al (w.heap.size+1) zR 72 (by simp)).al (w.heap.size+1+1) zR 72 (by simp));have HQ:=ζ (show foldQ minQ (K.map (gapQ l1 l2))=leastQ l1 l2 K from rfl);rw [HQ.out]at AO;generalize leastQ l1 l2 K=q at*;clear h1 h2 hF hl1 hl2 p1 p2 p3 p4 HQ;go_enter Tryz.func73,Tryz.ntmps73;go_upto_region 1 with fail
 obtain ⟨b3,hb3⟩:∃b,w.heap.size+1+1=b:=⟨_,rfl⟩
 obtain ⟨b2,hb2⟩:∃b,w.heap.size+1=b:=⟨_,rfl⟩
 obtain ⟨b1,hb1⟩:∃b,w.heap.size=b:=⟨_,rfl⟩
 rw [hb3,hb2,hb1]at hC⊢;refine wp_geny (show Sy w _ [(b1,#[.slice a1 n1 c1,.slice a2 n2 c2,.int .i64 F,.int .i64 T],156),(b2,zR,72),(b3,zR,72)] [] []from hC.out) ?_;intro V0 hc;have hD:=ζ hc;clear hc hC hb1 hb2 hb3;refine wp_region_held_drew (S:=(fun w'=>w'.cell? ⟨b1,0,none⟩=some (.slice a1 n1 c1)/\w'.cell? ⟨b1,1,none⟩=some (.slice a2 n2 c2)/\w'.cell? ⟨b1,2,none⟩=some (.int .i64 F)/\w'.cell? ⟨b1,3,none⟩=some (.int .i64 T)/\True)) (by kernel_rfl) ⟨hD.out.drew.c 0 0,hD.out.drew.c 0 1,hD.out.drew.c 0 2,hD.out.drew.c 0 3,trivial⟩ (fun hH=>?_);refine wpAnyH_geny (show Sy w _ [(b1,#[.slice a1 n1 c1,.slice a2 n2 c2,.int .i64 F,.int .i64 T],156),(b2,zR,72),(b3,zR,72)] [] []from hD.out.drew) hH ?_;intro AS hc AC;have AE:=ζ hc;clear hc hH hD;refine tkA 0 rfl AC ?_;try simp only [zP]
 refine tkA 2 rfl AC ?_;try simp only [zP]
 refine tkA 3 rfl AC ?_;try simp only [zP]
 refine rdy1 1 rfl (fun Kq AF=>?_);go_simp;go_at_call 129;refine(AR.out _ AE.out.be).mono ?_;rintro e wT ⟨aK,cK,rfl,hro,hfr,hb⟩;(try go_wp2_with fail);refine stepZ AF (show Sy w _ [(b1,#[.slice a1 n1 c1,.slice a2 n2 c2,.int .i64 F,.int .i64 T],156),(b2,zR,72),(b3,zR,72)] [] [(fun V=>RowR V (.slice aK K.length cK) (K.map fun x:Int=>(x:Rat)))]from(AE.out.pRow hb rfl rfl hro hfr)) (fun _ hX=>⟨hX.c 0 0,hX.c 0 1,hX.c 0 2,hX.c 0 3,trivial⟩) ?_;intro AT AD AH;clear AF Kq AE hro hfr hb AC;try simp only [zP]
 refine rdy1 4 rfl (fun Kq AF=>?_);go_simp;go_at_call 128;refine(AO.out _ AD.out.be _ _ (AD.out.r 0 rfl)).mono ?_;rintro e wT ⟨a5,n5,c5,m5,d5,e5,f5,a6,n6,c6,m6,d6,e6,f6,rfl,hz,hb⟩;(try go_wp2_with fail);refine stepZ AF (show Sy w _ [(b1,#[.slice a1 n1 c1,.slice a2 n2 c2,.int .i64 F,.int .i64 T],156),(b2,zR,72),(b3,zR,72)] [] [(fun V=>RowR V (.slice aK K.length cK) (K.map fun x:Int=>(x:Rat))),(fun V=>Rd V (.slice a6 n6 c6) m6 (.slice d6 e6 f6) (q))]from((AD.out.call hb).pR rfl rfl hz)) (fun _ hX=>⟨hX.c 0 0,hX.c 0 1,hX.c 0 2,hX.c 0 3,trivial⟩) ?_;intro AU AA AG;clear AF Kq AD hz hb AH;try simp only [zP]
 refine tkA 5 rfl AG ?_;try simp only [zP]
 refine tkA 6 rfl AG ?_;try simp only [zP]
 refine rdy1 7 rfl (fun Kq AF=>?_);have cQ0:=AA.out.c 1 0;have fQ0:=AA.out.f 1 0;have cQ1:=AA.out.c 1 1;have fQ1:=AA.out.f 1 1;have cQ2:=AA.out.c 1 2;have fQ2:=AA.out.f 1 2;go_simp;refine stepZ AF (show Sy w _ [(b1,#[.slice a1 n1 c1,.slice a2 n2 c2,.int .i64 F,.int .i64 T],156),(b2,#[.slice a5 n5 c5,.bool m5,.slice d5 e5 f5],72),(b3,zR,72)] [] [(fun V=>RowR V (.slice aK K.length cK) (K.map fun x:Int=>(x:Rat))),(fun V=>Rd V (.slice a6 n6 c6) m6 (.slice d6 e6 f6) (q))]from(AA.out|>.set (j:=0) (v:= .slice a5 n5 c5) 1 rfl|>.set (j:=1) (v:= .bool m5) 1 rfl|>.set (j:=2) (v:= .slice d5 e5 f5) 1 rfl)) (fun _ hX=>⟨hX.c 0 0,hX.c 0 1,hX.c 0 2,hX.c 0 3,trivial⟩) ?_;intro AV AB AI;clear AF Kq AA cQ0 fQ0 cQ1 fQ1 cQ2 fQ2 AG;try simp only [Act.put]
 refine rdy1 8 rfl (fun Kq AF=>?_);have cQ0:=AB.out.c 2 0;have fQ0:=AB.out.f 2 0;have cQ1:=AB.out.c 2 1;have fQ1:=AB.out.f 2 1;have cQ2:=AB.out.c 2 2;have fQ2:=AB.out.f 2 2;go_simp;refine stepZ AF (show Sy w _ [(b1,#[.slice a1 n1 c1,.slice a2 n2 c2,.int .i64 F,.int .i64 T],156),(b2,#[.slice a5 n5 c5,.bool m5,.slice d5 e5 f5],72),(b3,#[.slice a6 n6 c6,.bool m6,.slice d6 e6 f6],72)] [] [(fun V=>RowR V (.slice aK K.length cK) (K.map fun x:Int=>(x:Rat))),(fun V=>Rd V (.slice a6 n6 c6) m6 (.slice d6 e6 f6) (q))]from(AB.out|>.set (j:=0) (v:= .slice a6 n6 c6) 2 rfl|>.set (j:=1) (v:= .bool m6) 2 rfl|>.set (j:=2) (v:= .slice d6 e6 f6) 2 rfl)) (fun _ hX=>⟨hX.c 0 0,hX.c 0 1,hX.c 0 2,hX.c 0 3,trivial⟩) ?_;intro AW AJ AP;clear AF Kq AB cQ0 fQ0 cQ1 fQ1 cQ2 fQ2 AI;try simp only [Act.put]
 refine wpAnyH_done (by kernel_rfl) ?_ _;go_wp2;refine ret_sy AJ.out (v:= .tuple #[.agg #[.slice a5 n5 c5,.bool m5,.slice d5 e5 f5],.agg #[.slice a6 n6 c6,.bool m6,.slice d6 e6 f6]]) (fun hF=>?_) rfl (fun hF=>⟨_,_,_,_,_,_,_,_,_,_,_,_,_,_,rfl,hF.r 1 rfl,hF.be⟩);have g0:=hF.c 1 0;have g1:=hF.c 1 1;have g2:=hF.c 1 2;have h0:=hF.c 2 0;have h1:=hF.c 2 1;have h2:=hF.c 2 2;simp [results,Tryz.results73,go_sem,g0,g1,g2,h0,h1,h2]
theorem pfree_any (a1:OA) (n1 c1:Nat) (l1:List Pt) (a2:OA) (n2 c2:Nat) (l2:List Pt) (F T:Int) (K:List Int) (h1:Sx 2 w a1 n1 c1 (L2 l1)) (h2:Sx 2 w a2 n2 c2 (L2 l2)) (hF:Fit l1 l2 F T K) (hq:0<=leastQ l1 l2 K):
  Calls Tryz.prog 126 #[.slice a1 n1 c1,.slice a2 n2 c2] w (Gives (.bool true) w):=by
 have hl1:=h1.n2;have hl2:=h2.n2;have p1:=hF.p1.two;have p2:=hF.p2.two;have AQ:=ζ (pbetween_any w a1 n1 c1 l1 a2 n2 c2 l2 h1 h2 (by omega) (by omega) F T hF.f hF.t);rw [decide_eq_true hF.lt]at AQ;have AX:=ζ (fun W (hW:Below w.heap.size w W)=>pleast_any W a1 n1 c1 l1 a2 n2 c2 l2 F T K (h1.below hW) (h2.below hW) hF);obtain ⟨v,hv⟩:∃v,sgnQ (leastQ l1 l2 K)=v:=⟨_,rfl⟩
 have hv0:0<=v:=by rw [<-hv];exact sgnQ_nn hq
 have HV:=ζ hv;have hC:=ζ (Sy.enter w);generalize leastQ l1 l2 K=q at*;clear h1 h2 hF hl1 hl2 p1 p2 hv hq;go_enter Tryz.func126,Tryz.ntmps126;go_wp2_with fail
 refine AQ.out.mono ?_;rintro e w1 ⟨rfl,hb⟩;have hD:=ζ ((hC.out.call hb).al w1.heap.size #[.slice a1 n1 c1,.slice a2 n2 c2,.int .i64 F,.int .i64 T] 156 rfl);clear hb hC;go_upto_region 4 with fail
 obtain ⟨b1,hb1⟩:∃b,w1.heap.size=b:=⟨_,rfl⟩
 rw [hb1]at hD⊢;refine wp_geny (show Sy w _ [(b1,#[.slice a1 n1 c1,.slice a2 n2 c2,.int .i64 F,.int .i64 T],156)] [] []from hD.out) ?_;intro V1 hc;have hE:=ζ hc;clear hc hD hb1;have AK:=hE.out.c 0 0;have AL:=hE.out.c 0 1;have AM:=hE.out.c 0 2;have AN:=hE.out.c 0 3;go_wp2_with fail
 refine(AX.out _ hE.out.be).mono ?_;rintro e w2 ⟨a5,n5,c5,m5,d5,e5,f5,a6,n6,c6,m6,d6,e6,f6,rfl,hz,hb⟩;have hF:=ζ ((((hE.out.call hb).pR rfl rfl hz).al w2.heap.size #[.slice a5 n5 c5,.bool m5,.slice d5 e5 f5] 72 rfl).al (w2.heap.size+1) #[.slice a6 n6 c6,.bool m6,.slice d6 e6 f6] 72 (by simp));clear hb hz hE AK AL AM AN;go_upto_region 5 with fail
 obtain ⟨b3,hb3⟩:∃b,w2.heap.size+1=b:=⟨_,rfl⟩
 obtain ⟨b2,hb2⟩:∃b,w2.heap.size=b:=⟨_,rfl⟩
 rw [hb3,hb2]at hF⊢;refine wp_geny (show Sy w _ [(b1,#[.slice a1 n1 c1,.slice a2 n2 c2,.int .i64 F,.int .i64 T],156),(b2,#[.slice a5 n5 c5,.bool m5,.slice d5 e5 f5],72),(b3,#[.slice a6 n6 c6,.bool m6,.slice d6 e6 f6],72)] [] [(fun V=>Rd V (.slice a6 n6 c6) m6 (.slice d6 e6 f6) (q))]from hF.out) ?_;intro V2 hc;have hG:=ζ hc;clear hc hF hb2 hb3;have AY:=hG.out.c 2 0;have AZ:=hG.out.c 2 1;have A0:=hG.out.c 2 2;go_wp2_with fail
 refine(hsign_is (hG.out.r 0 rfl) HV.out).mono ?_;rintro e w3 ⟨rfl,hb⟩;have hH:=ζ (hG.out.call hb);clear hb hG;go_wp2;go_ret;exact⟨rfl,hH.out.be⟩
end
section
open Go.RowKit
def rectL (a b:Int):List Pt:=[(0,0),(a,0),(a,b),(0,b)]
def blockN:ByteArray:=⟨#[98,108,111,99,107]⟩
theorem blockN_named:namedB blockN=true:=by decide+kernel
section
variable {a b:Int}
theorem rect_far (ha:1<=a/\a<=256) (hb:1<=b/\b<=256):(rectL a b).any farS=false:=by
 rw [List.any_eq_false];intro p hp;have h0:inB 0 0 2000=true:=by decide
 have h1:inB a 0 2000=true:=inB_iff.2 (by omega);have h2:inB b 0 2000=true:=inB_iff.2 (by omega);simp only [rectL,List.mem_cons,List.not_mem_nil,or_false]at hp;unfold farS;rcases hp with rfl | rfl | rfl | rfl<;>simp [h0,h1,h2]
theorem rect_min (ha:1<=a/\a<=256) (hb:1<=b/\b<=256):minP (rectL a b)=(0,0):=by
 show(min (min (min (min 0 0) a) a) 0,min (min (min (min 0 0) 0) b) b)=((0,0):Pt);refine Prod.ext ?_ ?_<;>dsimp only<;>omega
theorem rect_lowest (ha:1<=a/\a<=256) (hb:1<=b/\b<=256):lowestP (rectL a b)=(0,0):=by
 have c1:cmpJ a 0=1:=by unfold cmpJ;rw [if_neg (by omega),if_pos (by omega)]
 have c2:cmpJ b 0=1:=by unfold cmpJ;rw [if_neg (by omega),if_pos (by omega)]
 have c0:cmpJ 0 0=0:=by decide
 have l1:lowF (0,0) (a,0)=(0,0):=by
  unfold lowF lowerI;dsimp only;rw [c0,if_pos rfl,c1,if_neg (by omega)]
 have l2:lowF (0,0) (a,b)=(0,0):=by
  unfold lowF lowerI;dsimp only;rw [c2,if_neg (by omega)]
 have l3:lowF (0,0) (0,b)=(0,0):=by
  unfold lowF lowerI;dsimp only;rw [c2,if_neg (by omega)]
 show lowF (lowF (lowF (0,0) (a,0)) (a,b)) (0,b)=(0,0);rw [l1,l2,l3]
theorem rect_convex (ha:1<=a/\a<=256) (hb:1<=b/\b<=256):convexB (rectL a b)=true:=by
 have hm:0 < a*b:=Int.mul_pos (by omega) (by omega);have A:∀ (i:Int) (j:Nat),(i+4) % 4=j->atP (rectL a b) i=(rectL a b).getD j (0,0):=fun i j h=>by
  unfold atP;rw [show((rectL a b).length:Int)=4 from rfl,h,Int.toNat_natCast]
 refine conv_yes (show inB ((4:Nat):Int) 3 12=true by decide) fun i hi=>?_;have hi4:i < 4:=hi;have e (k:Nat) (h2:2<=k) (h3:k+1 < (rectL a b).length):k=2:=by simp [rectL]at h3;omega
 rcases(show i=0\/i=1\/i=2\/i=3 by omega)with rfl | rfl | rfl | rfl
 ·refine⟨?_,fun k h2 h3=>?_⟩
  ·unfold cvA;rw [A (((0:Nat):Int) - 1) 3 (by decide),A ((0:Nat):Int) 0 (by decide),A (((0:Nat):Int)+1) 1 (by decide)];show 0 < (0 - 0)*(0 - 0) - (0 - b)*(a - 0);grind
  ·rw [e k h2 h3];unfold cvB;rw [A ((0:Nat):Int) 0 (by decide),A (((0:Nat):Int)+1) 1 (by decide),A (((0:Nat):Int)+((2:Nat):Int)) 2 (by decide)];show 0 < (a - 0)*(b - 0) - (0 - 0)*(a - a);grind
 ·refine⟨?_,fun k h2 h3=>?_⟩
  ·unfold cvA;rw [A (((1:Nat):Int) - 1) 0 (by decide),A ((1:Nat):Int) 1 (by decide),A (((1:Nat):Int)+1) 2 (by decide)];show 0 < (a - 0)*(b - 0) - (0 - 0)*(a - a);grind
  ·rw [e k h2 h3];unfold cvB;rw [A ((1:Nat):Int) 1 (by decide),A (((1:Nat):Int)+1) 2 (by decide),A (((1:Nat):Int)+((2:Nat):Int)) 3 (by decide)];show 0 < (a - a)*(b - b) - (b - 0)*(0 - a);grind
 ·refine⟨?_,fun k h2 h3=>?_⟩
  ·unfold cvA;rw [A (((2:Nat):Int) - 1) 1 (by decide),A ((2:Nat):Int) 2 (by decide),A (((2:Nat):Int)+1) 3 (by decide)];show 0 < (a - a)*(b - b) - (b - 0)*(0 - a);grind
  ·rw [e k h2 h3];unfold cvB;rw [A ((2:Nat):Int) 2 (by decide),A (((2:Nat):Int)+1) 3 (by decide),A (((2:Nat):Int)+((2:Nat):Int)) 0 (by decide)];show 0 < (0 - a)*(0 - b) - (b - b)*(0 - 0);grind
 ·refine⟨?_,fun k h2 h3=>?_⟩
  ·unfold cvA;rw [A (((3:Nat):Int) - 1) 2 (by decide),A ((3:Nat):Int) 3 (by decide),A (((3:Nat):Int)+1) 0 (by decide)];show 0 < (0 - a)*(0 - b) - (b - b)*(0 - 0);grind
  ·rw [e k h2 h3];unfold cvB;rw [A ((3:Nat):Int) 3 (by decide),A (((3:Nat):Int)+1) 0 (by decide),A (((3:Nat):Int)+((2:Nat):Int)) 1 (by decide)];show 0 < (0 - 0)*(0 - 0) - (0 - b)*(a - 0);grind
theorem rect_stone (ha:1<=a/\a<=256) (hb:1<=b/\b<=256):stoneB blockN (rectL a b) 1 1 (1,0)=true:=by
 unfold stoneB placedB;rw [blockN_named,rect_far ha hb,rect_convex ha hb,rect_min ha hb,rect_lowest ha hb];rfl
theorem rect_laid (ha:1<=a/\a<=256) (hb:1<=b/\b<=256) {x z:Int} (hx: -100000<=x/\x<=100000) (hz: -100000<=z/\z<=100000):laidB blockN (rectL a b) 1 1 (1,0) 0 x z 1=true:=by
 unfold laidB;rw [rect_stone ha hb,inB_iff.2 hx,inB_iff.2 hz];rfl
theorem rect_settled (ha:1<=a/\a<=256) (hb:1<=b/\b<=256):settledL (rectL a b)=rectL a b:=by
 unfold settledL;rw [rect_lowest ha hb,rect_min ha hb];have:(rectL a b).idxOf (0,0)=0:=by simp [rectL]
 rw [this];simp [rectL]
def rectC (x z a b:Int):List Pt:=[(x,z),(x+a,z),(x+a,z+b),(x,z+b)]
theorem rect_corners (ha:1<=a/\a<=256) (hb:1<=b/\b<=256) (x z:Int):(settledL (rectL a b)).map (fun p:Pt=>(p.1+x,p.2+z))=rectC x z a b:=by
 rw [rect_settled ha hb];unfold rectL rectC;simp only [List.map_cons,List.map_nil,Int.zero_add];rw [Int.add_comm a x,Int.add_comm b z]
theorem rect_lowE (ha:1<=a) (x z:Int):lowE (rectC x z a b) 4=lowL x z a:=by
 have h1:x < x+a:=by omega
 have h2:¬ x+a < x:=by omega
 have c0:cAt (rectC x z a b) 0=(x,z):=rfl;have c1:cAt (rectC x z a b) 1=(x+a,z):=rfl;have c2:cAt (rectC x z a b) 2=(x+a,z+b):=rfl;have c3:cAt (rectC x z a b) 3=(x,z+b):=rfl;have c4:cAt (rectC x z a b) 4=(x,z):=by simp [cAt,rectC]
 have d0:lowE (rectC x z a b) 0= []:=rfl;have d1:=lowE_succ (rectC x z a b) 0;have d2:=lowE_succ (rectC x z a b) 1;have d3:=lowE_succ (rectC x z a b) 2;have d4:=lowE_succ (rectC x z a b) 3;simp only [Nat.zero_add,Nat.reduceAdd,c0,c1,c2,c3,c4]at d1 d2 d3 d4;rw [d4,d3,d2,d1,d0];simp [h1,h2,lowL]
theorem rect_upE (ha:1<=a) (x z:Int):upE (rectC x z a b) 4= [(x+a,z+b),(x,z+b)]:=by
 have h1:x < x+a:=by omega
 have h2:¬ x+a < x:=by omega
 have c0:cAt (rectC x z a b) 0=(x,z):=rfl;have c1:cAt (rectC x z a b) 1=(x+a,z):=rfl;have c2:cAt (rectC x z a b) 2=(x+a,z+b):=rfl;have c3:cAt (rectC x z a b) 3=(x,z+b):=rfl;have c4:cAt (rectC x z a b) 4=(x,z):=by simp [cAt,rectC]
 have d0:upE (rectC x z a b) 0= []:=rfl;have d1:=upE_succ (rectC x z a b) 0;have d2:=upE_succ (rectC x z a b) 1;have d3:=upE_succ (rectC x z a b) 2;have d4:=upE_succ (rectC x z a b) 3;simp only [Nat.zero_add,Nat.reduceAdd,c0,c1,c2,c3,c4]at d1 d2 d3 d4;rw [d4,d3,d2,d1,d0];simp [h1,h2]
end
theorem sortedX:∀ {xs ys:List Pt},xs.Perm ys->xs.Pairwise (fun p q=>p.1<=q.1)->ys.Pairwise (fun p q=>p.1 < q.1)->xs=ys
 | [],ys,hp,_,_=>by rw [List.nil_perm]at hp;exact hp.symm
 | x::xs,[],hp,_,_=>by have:=hp.length_eq;simp at this
 | x::xs,y::ys,hp,h1,h2=>by
   have hx:=List.pairwise_cons.1 h1;have hy:=List.pairwise_cons.1 h2;have e:x=y:=by
    have m1:x∈y::ys:=hp.mem_iff.1 (List.mem_cons_self ..);have m2:y∈x::xs:=hp.mem_iff.2 (List.mem_cons_self ..);rcases List.mem_cons.1 m1 with e | m1
    ·exact e
    ·rcases List.mem_cons.1 m2 with e | m2
     ·exact e.symm
     ·have:=hy.1 _ m1;have:=hx.1 _ m2;omega
   subst e;rw [sortedX hp.cons_inv hx.2 hy.2]
theorem sorts_of {E L:List Pt} (hp:E.Perm L) (hL:L.Pairwise (fun p q=>p.1 < q.1)) (h0:0 < E.length):Sorts E L:=by
 refine⟨fun l' h1 h2=>sortedX (h1.trans hp) h2 hL,fun i h e=>?_,h0⟩;have:=List.pairwise_iff_getElem.1 hL i (i+1) (by omega) h (by omega);rw [e]at this;omega
theorem rect_sorts {a b:Int} (ha:1<=a) (x z:Int):Sorts (lowE (rectC x z a b) 4) (lowL x z a)/\Sorts (upE (rectC x z a b) 4) [(x,z+b),(x+a,z+b)]:=by
 rw [rect_lowE ha,rect_upE ha];refine⟨sorts_of (List.Perm.refl _) ?_ (by simp [lowL]),sorts_of (List.Perm.swap _ _ _) ?_ (by simp)⟩
 ·simp [lowL];omega
 ·simp;omega
section
variable {l:List Pt} {x a z:Int}
theorem block_fit (h:Strt l x (x+a)) (ha:1<=a) (h1: -100000<=x) (h2:x+a<=100000) (hz: -100000<=z/\z<=100000):Fit (lowL x z a) l x (x+a) (cor l x (x+a)) where
 p1:=low_prof ha h1 h2 hz
 p2:=h.ok
 f:=by
  show max x (hX l 0)=x;have:=h.lo;omega
 t:=by
  show min (x+a) (hX l (l.length - 1))=x+a;have:=h.hi;omega
 lt:=h.lt
 k:=by
  have e:inX x (x+a) (lowL x z a++l)=ins l x (x+a):=by
   unfold inX;rw [List.map_append,List.filter_append];have:((lowL x z a).map (·.1)).filter (fun t=>decide (x < t) && decide (t < x+a))= []:=by
    rw [List.filter_eq_nil_iff];intro t ht;simp only [lowL,List.map_cons,List.map_nil,List.mem_cons,List.not_mem_nil,or_false]at ht;rcases ht with rfl | rfl<;>simp
   rw [this,List.nil_append];rfl
  rw [e];exact h.stops
 nd:=fun i hi e=>by
  have:=List.pairwise_iff_getElem.1 h.cor_pw i (i+1) (by omega) hi (by omega);rw [e]at this;omega
 rng:=fun t ht=>mem_cor h.lt ht
theorem block_least (h:Strt l x (x+a)) (ha:1<=a) (h1: -100000<=x) (h2:x+a<=100000) (hz: -100000<=z/\z<=100000):leastQ (lowL x z a) l (cor l x (x+a))=(z:Rat) - hiQ l x (x+a):=by
 unfold leastQ;have e:(cor l x (x+a)).map (gapQ (lowL x z a) l)=(cor l x (x+a)).map (fun t=>(z:Rat) - grd l t):=by
  refine List.map_congr_left fun t ht=>?_;have:=mem_cor h.lt ht;unfold gapQ;rw [low_grd ha h1 h2 hz this.1 this.2]
 rw [e];exact gap_least h _
theorem block_sinks {up:Int} (hu:0<=up) (hz:(hiQ l x (x+a)).ceil+up=z):((z:Rat) - hiQ l x (x+a)).floor=up/\0<=(z:Rat) - hiQ l x (x+a):=by
 have h1:((z:Rat) - hiQ l x (x+a)).floor=up:=by rw [floor_less];omega
 refine⟨h1,?_⟩;have h2:((0:Int):Rat)<=(z:Rat) - hiQ l x (x+a):=Rat.le_floor_iff.1 (by rw [h1];exact hu);simpa using h2
end
end
section
open Go.RowKit Go.Shelf Dig
def RetBL (w:World) (ag:OA) (ng cg:Nat) (q:Rat) (e:Ending) (w':World):Prop:=∃ (a6:OA) (n6 c6:Nat) (m6:Bool) (d6:OA) (e6 f6:Nat),e= .returned (.tuple #[.slice ag ng cg,.agg #[.slice a6 n6 c6,.bool m6,.slice d6 e6 f6]])/\Rd w' (.slice a6 n6 c6) m6 (.slice d6 e6 f6) (q)/\Below w.heap.size w w'
section
variable (w:World)
theorem idxLaid_nil (f:Value):Calls Tryz.prog 160 #[.slice none 0 0,f] w fun e w'=>e= .returned (.int .i64 (-1))/\w'=w:=by
 have hC:=ζ (Sy.enter w);go_enter Tryz.func160,Tryz.ntmps160;go_wp2;refine wp_loop_once ?_;go_wp2;go_ret;exact⟨rfl,rfl⟩
theorem conLaid_nil (f:Value):Calls Tryz.prog 124 #[.slice none 0 0,f] w fun e w'=>e= .returned (.bool false)/\w'=w:=by
 go_enter Tryz.func124,Tryz.ntmps124;go_wp2_with fail
 refine(idxLaid_nil _ _).mono ?_;rintro e wz ⟨rfl,hz⟩;subst wz;go_wp2;go_ret;exact⟨rfl,rfl⟩
theorem pholds_yes (nm:ByteArray) (a:OA) (n c:Nat) (dep den gx gz ax az skin:Int) (al:OA) (nl cl:Nat) (au:OA) (nu cu:Nat) (ag:OA) (ng cg:Nat) (lo gl:List Pt) (h1:Sx 2 w al nl cl (L2 lo)) (h2:Sx 2 w ag ng cg (L2 gl)) (hn1:0 < nl) (hn2:0 < ng) (q1:hX gl 0<=hX lo 0) (q2:hX lo (lo.length - 1)<=hX gl (gl.length - 1)):
  Calls Tryz.prog 65 #[.agg #[.slice ag ng cg,.slice none 0 0],.agg #[.string nm,.slice a n c,.int .i64 dep,.int .i64 den,.int .i64 gx,.int .i64 gz,.int .i64 0,.int .i64 ax,.int .i64 az,.int .u8 skin,.slice al nl cl,.slice au nu cu]] w (Gives (.bool true) w):=by
 have HA:=ζ (fun W (hW:Below w.heap.size w W)=>pleft_any W al nl cl lo (h1.below hW) hn1);have HB:=ζ (fun W (hW:Below w.heap.size w W)=>pleft_any W ag ng cg gl (h2.below hW) hn2);have HC:=ζ (fun W (hW:Below w.heap.size w W)=>pright_any W al nl cl lo (h1.below hW) hn1);have HD:=ζ (fun W (hW:Below w.heap.size w W)=>pright_any W ag ng cg gl (h2.below hW) hn2);have hC:=ζ (((Sy.enter w).al w.heap.size #[.slice ag ng cg,.slice none 0 0] 124 rfl).al (w.heap.size+1) #[.string nm,.slice a n c,.int .i64 dep,.int .i64 den,.int .i64 gx,.int .i64 gz,.int .i64 0,.int .i64 ax,.int .i64 az,.int .u8 skin,.slice al nl cl,.slice au nu cu] 133 (by simp));generalize hX lo 0=x1 at*;generalize hX gl 0=x2 at*;generalize hX lo (lo.length - 1)=y1 at*;generalize hX gl (gl.length - 1)=y2 at*;clear h1 h2 hn1 hn2;go_enter Tryz.func65,Tryz.ntmps65;go_upto_region 1 with fail
 obtain ⟨b2,hb2⟩:∃b,w.heap.size+1=b:=⟨_,rfl⟩
 obtain ⟨b1,hb1⟩:∃b,w.heap.size=b:=⟨_,rfl⟩
 rw [hb2,hb1]at hC⊢;refine wp_geny (show Sy w _ [(b1,#[.slice ag ng cg,.slice none 0 0],124),(b2,#[.string nm,.slice a n c,.int .i64 dep,.int .i64 den,.int .i64 gx,.int .i64 gz,.int .i64 0,.int .i64 ax,.int .i64 az,.int .u8 skin,.slice al nl cl,.slice au nu cu],133)] [] []from hC.out) ?_;intro V0 hc;have hD:=ζ hc;clear hc hC hb1 hb2;have q3:=decide_eq_true q1;have q4:=decide_eq_true q2;refine wp_region_held_drew (S:=(fun w'=>w'.cell? ⟨b1,0,none⟩=some (.slice ag ng cg)/\w'.cell? ⟨b2,10,none⟩=some (.slice al nl cl)/\True)) (by kernel_rfl) ⟨(hD.out.drew.c 0 0),(hD.out.drew.c 1 10),trivial⟩ (fun hH=>?_);refine wpAnyH_geny (show Sy w _ [(b1,#[.slice ag ng cg,.slice none 0 0],124),(b2,#[.string nm,.slice a n c,.int .i64 dep,.int .i64 den,.int .i64 gx,.int .i64 gz,.int .i64 0,.int .i64 ax,.int .i64 az,.int .u8 skin,.slice al nl cl,.slice au nu cu],133)] [] []from hD.out.drew) hH ?_;intro A7 hc AE;have AF:=ζ hc;clear hc hH hD;refine tkA 0 rfl AE ?_;try simp only [zP]
 refine tkA 1 rfl AE ?_;try simp only [zP]
 refine tkA 3 rfl AE ?_;try simp only [zP]
 refine tkA 4 rfl AE ?_;try simp only [zP]
 refine rdy1 2 rfl (fun Kq AA=>?_);go_simp;go_at_call 47;refine(HB.out _ AF.out.be).mono ?_;rintro e wT ⟨rfl,hb⟩;(try go_wp2_with fail);refine stepZ AA (show Sy w _ [(b1,#[.slice ag ng cg,.slice none 0 0],124),(b2,#[.string nm,.slice a n c,.int .i64 dep,.int .i64 den,.int .i64 gx,.int .i64 gz,.int .i64 0,.int .i64 ax,.int .i64 az,.int .u8 skin,.slice al nl cl,.slice au nu cu],133)] [] []from(AF.out.call hb)) (fun _ hX=>⟨(hX.c 0 0),(hX.c 1 10),trivial⟩) ?_;intro A8 AG AP;clear AA Kq AF hb AE;try simp only [zP]
 refine rdy1 5 rfl (fun Kq AA=>?_);go_simp;go_at_call 47;refine(HA.out _ AG.out.be).mono ?_;rintro e wT ⟨rfl,hb⟩;(try go_wp2_with fail);refine stepZ AA (show Sy w _ [(b1,#[.slice ag ng cg,.slice none 0 0],124),(b2,#[.string nm,.slice a n c,.int .i64 dep,.int .i64 den,.int .i64 gx,.int .i64 gz,.int .i64 0,.int .i64 ax,.int .i64 az,.int .u8 skin,.slice al nl cl,.slice au nu cu],133)] [] []from(AG.out.call hb)) (fun _ hX=>⟨(hX.c 0 0),(hX.c 1 10),trivial⟩) ?_;intro A9 AH AD;clear AA Kq AG hb AP;try simp only [zP]
 refine tkA 6 rfl AD ?_;try simp only [zP]
 refine tkA 7 rfl AD ?_;try simp only [zP]
 refine tkA 8 rfl AD ?_;try simp only [zP]
 refine tkA 9 rfl AD ?_;try simp only [zP]
 refine tkA 11 rfl AD ?_;try simp only [zP]
 refine tkA 12 rfl AD ?_;try simp only [zP]
 refine rdy1 10 rfl (fun Kq AA=>?_);go_simp;go_at_call 48;refine(HC.out _ AH.out.be).mono ?_;rintro e wT ⟨rfl,hb⟩;(try go_wp2_with fail);refine stepZ AA (show Sy w _ [(b1,#[.slice ag ng cg,.slice none 0 0],124),(b2,#[.string nm,.slice a n c,.int .i64 dep,.int .i64 den,.int .i64 gx,.int .i64 gz,.int .i64 0,.int .i64 ax,.int .i64 az,.int .u8 skin,.slice al nl cl,.slice au nu cu],133)] [] []from(AH.out.call hb)) (fun _ hX=>⟨(hX.c 0 0),(hX.c 1 10),trivial⟩) ?_;intro Ab AI AQ;clear AA Kq AH hb AD;try simp only [zP]
 refine rdy1 13 rfl (fun Kq AA=>?_);go_simp;go_at_call 48;refine(HD.out _ AI.out.be).mono ?_;rintro e wT ⟨rfl,hb⟩;(try go_wp2_with fail);refine stepZ AA (show Sy w _ [(b1,#[.slice ag ng cg,.slice none 0 0],124),(b2,#[.string nm,.slice a n c,.int .i64 dep,.int .i64 den,.int .i64 gx,.int .i64 gz,.int .i64 0,.int .i64 ax,.int .i64 az,.int .u8 skin,.slice al nl cl,.slice au nu cu],133)] [] []from(AI.out.call hb)) (fun _ hX=>⟨(hX.c 0 0),(hX.c 1 10),trivial⟩) ?_;intro Ac AM AJ;clear AA Kq AI hb AQ;try simp only [zP]
 refine tkA 14 rfl AJ ?_;try simp only [zP]
 refine tkA 15 rfl AJ ?_;try simp only [zP]
 refine rdy1 16 rfl (fun Kq AA=>?_);go_simp;refine stepZ AA (show Sy w _ [(b1,#[.slice ag ng cg,.slice none 0 0],124),(b2,#[.string nm,.slice a n c,.int .i64 dep,.int .i64 den,.int .i64 gx,.int .i64 gz,.int .i64 0,.int .i64 ax,.int .i64 az,.int .u8 skin,.slice al nl cl,.slice au nu cu],133)] [] []from AM.out) (fun _ hX=>⟨(hX.c 0 0),(hX.c 1 10),trivial⟩) ?_;intro Ad AR A3;clear AA Kq AM AJ;try simp only [zP]
 refine wpAnyH_done (by kernel_rfl) ?_ _;go_wp2;go_ret;exact⟨rfl,AR.out.be⟩
theorem pnamed_nil (s:ByteArray) (ag:OA) (ng cg:Nat):Calls Tryz.prog 66 #[.agg #[.slice ag ng cg,.slice none 0 0],.string s] w (Gives (.bool false) w):=by
 have hC:=ζ (((Sy.enter w).al w.heap.size #[.slice ag ng cg,.slice none 0 0] 124 rfl).al (w.heap.size+1) #[.string s] 9 (by simp));go_enter Tryz.func66,Tryz.ntmps66;go_wp2_with fail
 refine(conLaid_nil _ _).mono ?_;rintro e wz ⟨rfl,hz⟩;subst wz;go_wp2;go_ret;exact⟨rfl,hC.out.be⟩
theorem pclear_nil (nm:ByteArray) (a:OA) (n c:Nat) (dep den gx gz ax az skin:Int) (al:OA) (nl cl:Nat) (au:OA) (nu cu:Nat) (ag:OA) (ng cg:Nat) (lo gl:List Pt) (F T:Int) (K:List Int) (h1:Sx 2 w al nl cl (L2 lo)) (h2:Sx 2 w ag ng cg (L2 gl)) (hF:Fit lo gl F T K) (hq:0<=leastQ lo gl K):
  Calls Tryz.prog 67 #[.agg #[.slice ag ng cg,.slice none 0 0],.agg #[.string nm,.slice a n c,.int .i64 dep,.int .i64 den,.int .i64 gx,.int .i64 gz,.int .i64 0,.int .i64 ax,.int .i64 az,.int .u8 skin,.slice al nl cl,.slice au nu cu]] w (Gives (.bool true) w):=by
 have Af:=ζ (fun W (hW:Below w.heap.size w W)=>pfree_any W al nl cl lo ag ng cg gl F T K (h1.below hW) (h2.below hW) hF hq);have hC:=ζ (((Sy.enter w).al w.heap.size #[.slice ag ng cg,.slice none 0 0] 124 rfl).al (w.heap.size+1) #[.string nm,.slice a n c,.int .i64 dep,.int .i64 den,.int .i64 gx,.int .i64 gz,.int .i64 0,.int .i64 ax,.int .i64 az,.int .u8 skin,.slice al nl cl,.slice au nu cu] 133 (by simp));clear h1 h2 hF hq;go_enter Tryz.func67,Tryz.ntmps67;go_upto_region 1 with fail
 obtain ⟨b2,hb2⟩:∃b,w.heap.size+1=b:=⟨_,rfl⟩
 obtain ⟨b1,hb1⟩:∃b,w.heap.size=b:=⟨_,rfl⟩
 rw [hb2,hb1]at hC⊢;refine wp_geny (show Sy w _ [(b1,#[.slice ag ng cg,.slice none 0 0],124),(b2,#[.string nm,.slice a n c,.int .i64 dep,.int .i64 den,.int .i64 gx,.int .i64 gz,.int .i64 0,.int .i64 ax,.int .i64 az,.int .u8 skin,.slice al nl cl,.slice au nu cu],133)] [] []from hC.out) ?_;intro V0 hc;have hD:=ζ hc;clear hc hC hb1 hb2;have AS:V0.cell? ⟨b2,10,none⟩=some (.slice al nl cl):=hD.out.c 1 10;have AT:V0.cell? ⟨b1,0,none⟩=some (.slice ag ng cg):=hD.out.c 0 0;go_wp2_with fail
 refine(Af.out _ hD.out.be).mono ?_;rintro e w1 ⟨rfl,hb⟩;have hE:=ζ (hD.out.call hb);clear hb hD AS AT;have AY:w1.cell? ⟨b1,1,none⟩=some (.slice none 0 0):=hE.out.c 0 1;go_wp2_with fail
 refine(conLaid_nil _ _).mono ?_;rintro e wz ⟨rfl,hz⟩;subst wz;go_wp2;go_ret;exact⟨rfl,hE.out.be⟩
theorem pdrop1_any (ag:OA) (ng cg:Nat) (al:OA) (nl cl:Nat) (bL:Nat) (lo gl:List Pt) (F T:Int) (K:List Int) (hL:w.cell? ⟨bL,10,none⟩=some (.slice al nl cl)) (h1:Sx 2 w al nl cl (L2 lo)) (h2:Sx 2 w ag ng cg (L2 gl)) (hF:Fit lo gl F T K):
  Calls Tryz.prog 71 #[.slice ag ng cg,.pointer (some ⟨bL,0,none⟩)] w (RetR w (leastQ lo gl K)):=by
 have hl1:=h1.n2;have hl2:=h2.n2;have p1:=hF.p1.two;have p2:=hF.p2.two;have A4:=ζ (fun W (hW:Below w.heap.size w W)=>pbetween_any W al nl cl lo ag ng cg gl (h1.below hW) (h2.below hW) (by omega) (by omega) F T hF.f hF.t);rw [decide_eq_true hF.lt]at A4;have Ag:=ζ (fun W (hW:Below w.heap.size w W)=>pleast_any W al nl cl lo ag ng cg gl F T K (h1.below hW) (h2.below hW) hF);have hlt:=World.block_lt_of_cell? _ _ hL;dsimp only at hlt;have HL:=ζ (fun W (hW:Below w.heap.size w W)=>show W.cell? ⟨bL,10,none⟩=some (.slice al nl cl)from(hW.cell (World.block_lt_of_cell? _ _ hL)).trans hL);have hC:=ζ ((Sy.enter w).al w.heap.size zR 72 rfl);generalize leastQ lo gl K=q at*;clear h1 h2 hF hl1 hl2 p1 p2 hL;go_enter Tryz.func71,Tryz.ntmps71;go_upto_region 1 with fail
 obtain ⟨b1,hb1⟩:∃b,w.heap.size=b:=⟨_,rfl⟩
 rw [hb1]at hC⊢;refine wp_geny (show Sy w _ [(b1,zR,72)] [] []from hC.out) ?_;intro V0 hc;have hD:=ζ hc;clear hc hC hb1 hlt;have z0:=HL.out _ hD.out.be;go_wp2_with fail
 refine(A4.out _ hD.out.be).mono ?_;rintro e w1 ⟨rfl,hb⟩;have hE:=ζ ((hD.out.call hb).al w1.heap.size #[.slice al nl cl,.slice ag ng cg,.int .i64 F,.int .i64 T] 156 rfl);clear hb hD z0;go_upto_region 2 with fail
 obtain ⟨b2,hb2⟩:∃b,w1.heap.size=b:=⟨_,rfl⟩
 rw [hb2]at hE⊢;refine wp_geny (show Sy w _ [(b1,zR,72),(b2,#[.slice al nl cl,.slice ag ng cg,.int .i64 F,.int .i64 T],156)] [] []from hE.out) ?_;intro V1 hc;have hF:=ζ hc;clear hc hE hb2;have AZ:=hF.out.c 1 0;have A0:=hF.out.c 1 1;have A1:=hF.out.c 1 2;have A2:=hF.out.c 1 3;go_wp2_with fail
 refine(Ag.out _ hF.out.be).mono ?_;rintro e w2 ⟨a5,n5,c5,m5,d5,e5,f5,a6,n6,c6,m6,d6,e6,f6,rfl,hz,hb⟩;have hG:=ζ ((((hF.out.call hb).pR rfl rfl hz).al w2.heap.size #[.slice a5 n5 c5,.bool m5,.slice d5 e5 f5] 72 rfl).al (w2.heap.size+1) #[.slice a6 n6 c6,.bool m6,.slice d6 e6 f6] 72 (by simp));clear hb hz hF AZ A0 A1 A2;go_upto_region 3 with fail
 obtain ⟨b4,hb4⟩:∃b,w2.heap.size+1=b:=⟨_,rfl⟩
 obtain ⟨b3,hb3⟩:∃b,w2.heap.size=b:=⟨_,rfl⟩
 rw [hb4,hb3]at hG⊢;refine wp_geny (show Sy w _ [(b1,zR,72),(b2,#[.slice al nl cl,.slice ag ng cg,.int .i64 F,.int .i64 T],156),(b3,#[.slice a5 n5 c5,.bool m5,.slice d5 e5 f5],72),(b4,#[.slice a6 n6 c6,.bool m6,.slice d6 e6 f6],72)] [] [(fun V=>Rd V (.slice a6 n6 c6) m6 (.slice d6 e6 f6) (q))]from hG.out) ?_;intro V2 hc;have hH:=ζ hc;clear hc hG hb3 hb4;have Aj:=hH.out.c 3 0;have Ak:=hH.out.c 3 1;have Al:=hH.out.c 3 2;have AT:=hH.out.c 0 0;have AY:=hH.out.c 0 1;have Am:=hH.out.c 0 2;have An:=hH.out.f 0 0;have Ap:=hH.out.f 0 1;have Aq:=hH.out.f 0 2;go_wp2;have hI:=ζ (hH.out|>.set (j:=0) (v:= .slice a6 n6 c6) 0 rfl|>.set (j:=1) (v:= .bool m6) 0 rfl|>.set (j:=2) (v:= .slice d6 e6 f6) 0 rfl);refine ret_sy hI.out (v:= .agg #[.slice a6 n6 c6,.bool m6,.slice d6 e6 f6]) (fun hF=>?_) rfl (fun hF=>⟨_,_,_,_,_,_,_,rfl,hF.r 0 rfl,hF.be⟩);have g0:=hF.c 0 0;have g1:=hF.c 0 1;have g2:=hF.c 0 2;simp [results,Tryz.results71,go_sem,g0,g1,g2]
theorem pbest_line (g c:Nat) (ag:OA) (ng cg:Nat) (f:Value) (cb:Array Value) (fn:Nat) (q:Rat) (hf:f= .func (.func fn) #[] cb) (hx:w.cell? ⟨g,0,none⟩=some (.slice ag ng cg)) (eg:EG fn) (hm:∀W,Below w.heap.size w W->Calls Tryz.prog fn (#[.slice ag ng cg]++cb) W (RetR W q)):
  Calls Tryz.prog 70 #[.slice (some ⟨g,0,none⟩) 1 c,f] w (RetBL w ag ng cg q):=by
 subst hf;have HX:=ζ (fun W (hW:Below w.heap.size w W)=>show W.cell? ⟨g,0,none⟩=some (.slice ag ng cg)from(hW.cell (World.block_lt_of_cell? _ _ hx)).trans hx);have HM:=ζ hm;have hC:=ζ (((Sy.enter w).al w.heap.size zR 72 rfl).al (w.heap.size+1) zR 72 (by simp));clear hx hm;go_enter Tryz.func70,Tryz.ntmps70;go_upto_region 3 with fail
 obtain ⟨b2,hb2⟩:∃b,w.heap.size+1=b:=⟨_,rfl⟩
 obtain ⟨b1,hb1⟩:∃b,w.heap.size=b:=⟨_,rfl⟩
 rw [hb2,hb1]at hC⊢;refine wp_geny (show Sy w _ [(b1,zR,72),(b2,zR,72)] [] []from hC.out) ?_;intro V0 hc;have hD:=ζ hc;clear hc hC hb1 hb2;go_wp2;go_loopw [6,13] (fun tv iv wr=>∃k:Nat,k<=1/\iv= .int .i64 k/\Hid ((k=0/\Sy w wr [(b1,zR,72),(b2,zR,72)] [] [])\/(k=1/\tv= .slice ag ng cg/\∃ (a6:OA) (n6 c6:Nat) (m6:Bool) (d6:OA) (e6 f6:Nat),Sy w wr [(b1,zR,72),(b2,#[.slice a6 n6 c6,.bool m6,.slice d6 e6 f6],72)] [] [(fun V=>Rd V (.slice a6 n6 c6) m6 (.slice d6 e6 f6) (q))]))) (fun _ iv _=>1 - (intOf iv).toNat)
 case atStart=>exact⟨0,by omega,rfl,ζ (.inl ⟨rfl,hD.out⟩)⟩
 case round=>
  clear hD;obtain ⟨k,hk,rfl,hS⟩:=hrel;rcases hS.out with ⟨rfl,hT⟩ | ⟨rfl,rfl,a6,n6,c6,m6,d6,e6,f6,hT⟩
  ·have hU:=ζ hT;clear hT hS;have z0:=HX.out _ hU.out.be;go_wp2_with fail
   refine(HM.out _ hU.out.be).mono ?_;rintro e w3 ⟨a8,n8,c8,m8,d8,e8,f8,rfl,hz,hb⟩;have hV:=ζ (((hU.out.call hb).pR rfl rfl hz).al w3.heap.size #[.slice a8 n8 c8,.bool m8,.slice d8 e8 f8] 72 rfl);clear hb hz hU z0;go_upto_region 8 with fail
   obtain ⟨b3,hb3⟩:∃b,w3.heap.size=b:=⟨_,rfl⟩
   rw [hb3]at hV⊢;refine wp_geny (show Sy w _ [(b1,zR,72),(b2,zR,72),(b3,#[.slice a8 n8 c8,.bool m8,.slice d8 e8 f8],72)] [] [(fun V=>Rd V (.slice a8 n8 c8) m8 (.slice d8 e8 f8) (q))]from hV.out) ?_;intro V2 hc;have hG:=ζ hc;clear hc hV hb3;refine wp_region_held_drew (S:=(fun w'=>w'.cell? ⟨b3,0,none⟩=some (.slice a8 n8 c8)/\w'.cell? ⟨b3,1,none⟩=some (.bool m8)/\w'.cell? ⟨b3,2,none⟩=some (.slice d8 e8 f8)/\True)) (by kernel_rfl) ⟨hG.out.drew.c 2 0,hG.out.drew.c 2 1,hG.out.drew.c 2 2,trivial⟩ (fun hH=>?_);refine wpAnyH_geny (show Sy w _ [(b1,zR,72),(b2,zR,72),(b3,#[.slice a8 n8 c8,.bool m8,.slice d8 e8 f8],72)] [] [(fun V=>Rd V (.slice a8 n8 c8) m8 (.slice d8 e8 f8) (q))]from hG.out.drew) hH ?_;intro Ar hc AK;have AN:=ζ hc;clear hc hH hG;refine tkA 0 rfl AK ?_;(try simp only [zP]);refine tkA 1 rfl AK ?_;(try simp only [zP]);refine rdy1 2 rfl (fun Kq AA=>?_);go_simp;refine stepZ AA (show Sy w _ [(b1,zR,72),(b2,zR,72),(b3,#[.slice a8 n8 c8,.bool m8,.slice d8 e8 f8],72)] [] [(fun V=>Rd V (.slice a8 n8 c8) m8 (.slice d8 e8 f8) (q))]from AN.out) (fun _ hX=>⟨hX.c 2 0,hX.c 2 1,hX.c 2 2,trivial⟩) ?_;intro As AB AU;clear AA Kq AN AK;(try simp only [zP]);refine rdy1 3 rfl (fun Kq AA=>?_);have cQ0:=AB.out.c 1 0;have fQ0:=AB.out.f 1 0;have cQ1:=AB.out.c 1 1;have fQ1:=AB.out.f 1 1;have cQ2:=AB.out.c 1 2;have fQ2:=AB.out.f 1 2;go_simp;refine stepZ AA (show Sy w _ [(b1,zR,72),(b2,#[.slice a8 n8 c8,.bool m8,.slice d8 e8 f8],72),(b3,#[.slice a8 n8 c8,.bool m8,.slice d8 e8 f8],72)] [] [(fun V=>Rd V (.slice a8 n8 c8) m8 (.slice d8 e8 f8) (q))]from(AB.out|>.set (j:=0) (v:= .slice a8 n8 c8) 1 rfl|>.set (j:=1) (v:= .bool m8) 1 rfl|>.set (j:=2) (v:= .slice d8 e8 f8) 1 rfl)) (fun _ hX=>⟨hX.c 2 0,hX.c 2 1,hX.c 2 2,trivial⟩) ?_;intro Av AV A5;clear AA Kq AB cQ0 fQ0 cQ1 fQ1 cQ2 fQ2 AU;(try simp only [Act.put]);refine wpAnyH_done (by kernel_rfl) ?_ _;go_wp2;go_roundw
   case rel=>exact⟨1,by omega,rfl,ζ (.inr ⟨rfl,rfl,a8,n8,c8,m8,d8,e8,f8,AV.out.thin (tkSub 2 _ rfl) (List.nil_sublist _)⟩)⟩
   case measure=>simp [intOf]
  ·have hU:=ζ hT;clear hT hS;go_upto_region 10 with fail
   refine wp_region_held_drew (S:=(fun w'=>w'.cell? ⟨b2,0,none⟩=some (.slice a6 n6 c6)/\w'.cell? ⟨b2,1,none⟩=some (.bool m6)/\w'.cell? ⟨b2,2,none⟩=some (.slice d6 e6 f6)/\True)) (by kernel_rfl) ⟨hU.out.drew.c 1 0,hU.out.drew.c 1 1,hU.out.drew.c 1 2,trivial⟩ (fun hH=>?_);refine wpAnyH_geny (show Sy w _ [(b1,zR,72),(b2,#[.slice a6 n6 c6,.bool m6,.slice d6 e6 f6],72)] [] [(fun V=>Rd V (.slice a6 n6 c6) m6 (.slice d6 e6 f6) (q))]from hU.out.drew) hH ?_;intro Ax hc AL;have AO:=ζ hc;clear hc hH hU;refine tkA 0 rfl AL ?_;(try simp only [zP]);refine tkA 1 rfl AL ?_;(try simp only [zP]);refine rdy1 2 rfl (fun Kq AA=>?_);go_simp;refine stepZ AA (show Sy w _ [(b1,zR,72),(b2,#[.slice a6 n6 c6,.bool m6,.slice d6 e6 f6],72)] [] [(fun V=>Rd V (.slice a6 n6 c6) m6 (.slice d6 e6 f6) (q))]from AO.out) (fun _ hX=>⟨hX.c 1 0,hX.c 1 1,hX.c 1 2,trivial⟩) ?_;intro Az AC AW;clear AA Kq AO AL;(try simp only [zP]);refine rdy1 3 rfl (fun Kq AA=>?_);have cQ0:=AC.out.c 0 0;have fQ0:=AC.out.f 0 0;have cQ1:=AC.out.c 0 1;have fQ1:=AC.out.f 0 1;have cQ2:=AC.out.c 0 2;have fQ2:=AC.out.f 0 2;go_simp;refine stepZ AA (show Sy w _ [(b1,#[.slice a6 n6 c6,.bool m6,.slice d6 e6 f6],72),(b2,#[.slice a6 n6 c6,.bool m6,.slice d6 e6 f6],72)] [] [(fun V=>Rd V (.slice a6 n6 c6) m6 (.slice d6 e6 f6) (q))]from(AC.out|>.set (j:=0) (v:= .slice a6 n6 c6) 0 rfl|>.set (j:=1) (v:= .bool m6) 0 rfl|>.set (j:=2) (v:= .slice d6 e6 f6) 0 rfl)) (fun _ hX=>⟨hX.c 1 0,hX.c 1 1,hX.c 1 2,trivial⟩) ?_;intro BA AX A6;clear AA Kq AC cQ0 fQ0 cQ1 fQ1 cQ2 fQ2 AW;(try simp only [Act.put]);refine wpAnyH_done (by kernel_rfl) ?_ _;go_wp2;refine ret_sy AX.out (v:= .tuple #[.slice ag ng cg,.agg #[.slice a6 n6 c6,.bool m6,.slice d6 e6 f6]]) (fun hF=>?_) rfl (fun hF=>⟨_,_,_,_,_,_,_,rfl,hF.r 0 rfl,hF.be⟩);have g0:=hF.c 0 0;have g1:=hF.c 0 1;have g2:=hF.c 0 2;simp [results,Tryz.results70,go_sem,g0,g1,g2]
end
section
variable {w W W0:World} {bs:List (Nat×Array Value×TypeId)} {os:List Rw} {rs:List (World->Prop)}
theorem Sy.pRead (h:Sy w W0 bs os rs) (hb:Below W0.heap.size W0 W) {e:TypeId} {size n c:Nat} {a:OA} {xs:List Value} (hr:W.ownsRow W0.heap.size e size (.slice a n c) n xs):Sy w W bs os (rs++ [fun V=>Sx size V a n c xs]):=
 (h.call hb).push fun V hV=>(Sx.owns hr).away hV fun g o hg hm=>by
   have h1:=(h.own_ge hm).2;rcases hr.2 with ⟨h2,-⟩ | ⟨k,cap,cur,h2,-⟩
   ·rw [Value.slice.injEq]at h2;rw [h2.1]at hg;cases hg
   ·rw [Value.slice.injEq,hg]at h2;have h3:=h2.1;simp only [Option.some.injEq,Addr.mk.injEq]at h3;have:=(World.ownsRow.lt hr g (by rw [hg,h3.2.1];rfl)).1;omega
end
theorem eg_drop1:EG 71:=enters_of Tryz.func71 (by kernel_rfl) rfl
section
variable (w:World)
theorem pdrop_any (nm:ByteArray) (a:OA) (n c:Nat) (l:List Pt) (dep den gx gz ax az skin:Int) (ag:OA) (ng cg:Nat) (gl:List Pt) (hnm:nm.size<=1000000) (hs:Sx 2 w a n c (L2 l)) (hok:stoneB nm l dep den (gx,gz)=true) (hla:laidB nm l dep den (gx,gz) 0 ax az skin=true) (hax: -100000<=ax/\ax<=100000) (haz: -100000<=az/\az<=100000) (hg:Ways w)
  (hgr:Sx 2 w ag ng cg (L2 gl)) (hpr:profB gl=true) (C LO UP:List Pt) (hCC:(settledL l).map (fun p:Pt=>(p.1+ax,p.2+az))=C) (hLO:Sorts (lowE C n) LO) (hUP:Sorts (upE C n) UP) (hnr:∀p∈C,-1000000<=p.1/\p.1<=1000000)
  (F T:Int) (K:List Int) (hF:Fit LO gl F T K) (q1:hX gl 0<=hX LO 0) (q2:hX LO (LO.length - 1)<=hX gl (gl.length - 1)) (hq:0<=leastQ LO gl K) (m:Int) (hm:(leastQ LO gl K).floor=m) (hmb:0<=m/\m<=1000000):
  Calls Tryz.prog 23 #[.agg #[.slice ag ng cg,.slice none 0 0],.agg #[.string nm,.slice a n c,.int .i64 dep,.int .i64 den,.int .i64 gx,.int .i64 gz,.int .i64 0,.int .i64 ax,.int .i64 az,.int .u8 skin]] w (Gives (.tuple #[.int .i64 m,.int .i64 0]) w):=by
 have hgl2:=hgr.n2;have p1:=hF.p1.two;have p2:=hF.p2.two;have A5:=ζ (fun W (hW:Below w.heap.size w W)=>plaid_any W ag ng cg gl (hgr.below hW) hpr);have A6:=ζ (fun W (hW:Below w.heap.size w W)=>pcheckPl_any W nm a n c l dep den gx gz 0 ax az skin hnm (hs.below hW) hla);have A7:=ζ (fun W (hW:Below w.heap.size w W)=>poutline_zero W nm a n c l dep den gx gz ax az skin hnm (hs.below hW) hok hax haz (hg.below hW) C LO UP hCC hLO hUP hnr);have A8:=ζ (fun W (hW:Below w.heap.size w W) al cl au cu (h1:Sx 2 W al LO.length cl (L2 LO))=>pholds_yes W nm a n c dep den gx gz ax az skin al LO.length cl au UP.length cu ag ng cg LO gl h1 (hgr.below hW) (by omega) (by omega) q1 q2);have A9:=ζ (fun W (hW:Below w.heap.size w W) al cl au cu (h1:Sx 2 W al LO.length cl (L2 LO))=>pclear_nil W nm a n c dep den gx gz ax az skin al LO.length cl au UP.length cu ag ng cg LO gl F T K h1 (hgr.below hW) hF hq);have Ab:=ζ (fun W (hW:Below w.heap.size w W) al cl bL (hL:W.cell? ⟨bL,10,none⟩=some (.slice al LO.length cl)) (h1:Sx 2 W al LO.length cl (L2 LO))=>pdrop1_any W ag ng cg al LO.length cl bL LO gl F T K hL h1 (hgr.below hW) hF);have Ac:=ζ hF.lbq;have HM:=ζ hm;have HI:=ζ (show i64res m=(m,true)by unfold i64res;rw [if_pos (by omega)]);have HB:=ζ (show Bd 20 m by unfold Bd;omega);have hC:=ζ (((Sy.enter w).al w.heap.size #[.slice ag ng cg,.slice none 0 0] 65 rfl).al (w.heap.size+1) #[.string nm,.slice a n c,.int .i64 dep,.int .i64 den,.int .i64 gx,.int .i64 gz,.int .i64 0,.int .i64 ax,.int .i64 az,.int .u8 skin] 89 (by simp));generalize leastQ LO gl K=q at*;clear hs hok hla hax haz hg hgr hpr hCC hLO hUP hnr hF q1 q2 hq hm hgl2 p1 p2 hnm;go_enter Tryz.func23,Tryz.ntmps23;go_upto_region 1 with fail
 obtain ⟨b2,hb2⟩:∃b,w.heap.size+1=b:=⟨_,rfl⟩
 obtain ⟨b1,hb1⟩:∃b,w.heap.size=b:=⟨_,rfl⟩
 rw [hb2,hb1]at hC⊢;refine wp_geny (show Sy w _ [(b1,#[.slice ag ng cg,.slice none 0 0],65),(b2,#[.string nm,.slice a n c,.int .i64 dep,.int .i64 den,.int .i64 gx,.int .i64 gz,.int .i64 0,.int .i64 ax,.int .i64 az,.int .u8 skin],89)] [] []from hC.out) ?_;intro V0 hc;have hD:=ζ hc;clear hc hC hb1 hb2;have AY:=hD.out.c 0 0;have AZ:=hD.out.c 0 1;go_wp2_with fail
 refine(A5.out _ hD.out.be).mono ?_;rintro e w1 ⟨rfl,hb⟩;have hE:=ζ ((hD.out.call hb).al w1.heap.size #[.slice ag ng cg,.slice none 0 0] 124 rfl);clear hb hD AY AZ;go_upto_region 4 with fail
 obtain ⟨b6,hb6⟩:∃b,w1.heap.size=b:=⟨_,rfl⟩
 rw [hb6]at hE⊢;refine wp_geny (show Sy w _ [(b1,#[.slice ag ng cg,.slice none 0 0],65),(b2,#[.string nm,.slice a n c,.int .i64 dep,.int .i64 den,.int .i64 gx,.int .i64 gz,.int .i64 0,.int .i64 ax,.int .i64 az,.int .u8 skin],89),(b6,#[.slice ag ng cg,.slice none 0 0],124)] [] []from hE.out) ?_;intro V1 hc;have hF:=ζ hc;clear hc hE hb6;have AC:=hF.out.c 1 0;have AF:=hF.out.c 1 1;have AG:=hF.out.c 1 2;have AH:=hF.out.c 1 3;have AI:=hF.out.c 1 4;have AJ:=hF.out.c 1 5;have AK:=hF.out.c 1 6;have AL:=hF.out.c 1 7;have AM:=hF.out.c 1 8;have AN:=hF.out.c 1 9;go_wp2_with fail
 refine(A6.out _ hF.out.be).mono ?_;rintro e w2 ⟨rfl,hb⟩;have hG:=ζ (hF.out.call hb);clear hb hF AC AF AG AH AI AJ AK AL AM AN;have AC:=hG.out.c 1 0;have AF:=hG.out.c 1 1;have AG:=hG.out.c 1 2;have AH:=hG.out.c 1 3;have AI:=hG.out.c 1 4;have AJ:=hG.out.c 1 5;have AK:=hG.out.c 1 6;have AL:=hG.out.c 1 7;have AM:=hG.out.c 1 8;have AN:=hG.out.c 1 9;go_wp2_with fail
 refine(A7.out _ hG.out.be).mono ?_;rintro e w3 ⟨al,cl,au,cu,he,hr1,-,hb⟩;replace he:e= .returned (.agg #[.string nm,.slice a n c,.int .i64 dep,.int .i64 den,.int .i64 gx,.int .i64 gz,.int .i64 0,.int .i64 ax,.int .i64 az,.int .u8 skin,.slice al LO.length cl,.slice au UP.length cu]):=he;subst he;have hH:=ζ ((hG.out.pRead hb hr1).al w3.heap.size #[.string nm,.slice a n c,.int .i64 dep,.int .i64 den,.int .i64 gx,.int .i64 gz,.int .i64 0,.int .i64 ax,.int .i64 az,.int .u8 skin,.slice al LO.length cl,.slice au UP.length cu] 133 rfl);clear hb hr1 hG AC AF AG AH AI AJ AK AL AM AN;go_upto_region 7 with fail
 obtain ⟨b8,hb8⟩:∃b,w3.heap.size=b:=⟨_,rfl⟩
 rw [hb8]at hH⊢;refine wp_geny (show Sy w _ [(b1,#[.slice ag ng cg,.slice none 0 0],65),(b2,#[.string nm,.slice a n c,.int .i64 dep,.int .i64 den,.int .i64 gx,.int .i64 gz,.int .i64 0,.int .i64 ax,.int .i64 az,.int .u8 skin],89),(b6,#[.slice ag ng cg,.slice none 0 0],124),(b8,#[.string nm,.slice a n c,.int .i64 dep,.int .i64 den,.int .i64 gx,.int .i64 gz,.int .i64 0,.int .i64 ax,.int .i64 az,.int .u8 skin,.slice al LO.length cl,.slice au UP.length cu],133)] [] [(fun V=>Sx 2 V al LO.length cl (L2 LO))]from hH.out) ?_;intro V2 hc;have hI:=ζ hc;clear hc hH hb8;have AO:=hI.out.c 3 0;have AP:=hI.out.c 3 1;have AQ:=hI.out.c 3 2;have AR:=hI.out.c 3 3;have AS:=hI.out.c 3 4;have AT:=hI.out.c 3 5;have AU:=hI.out.c 3 6;have AV:=hI.out.c 3 7;have AW:=hI.out.c 3 8;have AX:=hI.out.c 3 9;have AD:=hI.out.c 3 10;have AE:=hI.out.c 3 11;have AB:=hI.out.c 2 0;have AA:=hI.out.c 2 1;go_wp2_with fail
 refine(A8.out _ hI.out.be al cl au cu (hI.out.r 0 rfl)).mono ?_;rintro e w4 ⟨rfl,hb⟩;have hJ:=ζ (hI.out.call hb);clear hb hI AO AP AQ AR AS AT AU AV AW AX AD AE AB AA;have AB:=hJ.out.c 2 0;have AA:=hJ.out.c 2 1;have AC:=hJ.out.c 1 0;go_wp2_with fail
 refine(pnamed_nil _ nm ag ng cg).mono ?_;rintro e w5 ⟨rfl,hb⟩;have hK:=ζ (hJ.out.call hb);clear hb hJ AB AA AC;have AO:=hK.out.c 3 0;have AP:=hK.out.c 3 1;have AQ:=hK.out.c 3 2;have AR:=hK.out.c 3 3;have AS:=hK.out.c 3 4;have AT:=hK.out.c 3 5;have AU:=hK.out.c 3 6;have AV:=hK.out.c 3 7;have AW:=hK.out.c 3 8;have AX:=hK.out.c 3 9;have AD:=hK.out.c 3 10;have AE:=hK.out.c 3 11;have AB:=hK.out.c 2 0;have AA:=hK.out.c 2 1;go_wp2_with fail
 refine(A9.out _ hK.out.be al cl au cu (hK.out.r 0 rfl)).mono ?_;rintro e w6 ⟨rfl,hb⟩;have hL:=ζ (hK.out.call hb);clear hb hK AO AP AQ AR AS AT AU AV AW AX AD AE AB AA;have AB:=hL.out.c 2 0;have AA:=hL.out.c 2 1;go_upto_region 14 with fail
 have hM:=ζ (hL.out.onew w6.heap.size #[.slice ag ng cg] 121 1 1 rfl (by omega) rfl);obtain ⟨g9,hg9⟩:∃b,w6.heap.size=b:=⟨_,rfl⟩
 rw [hg9]at hM⊢;refine wp_geny (show Sy w _ [(b1,#[.slice ag ng cg,.slice none 0 0],65),(b2,#[.string nm,.slice a n c,.int .i64 dep,.int .i64 den,.int .i64 gx,.int .i64 gz,.int .i64 0,.int .i64 ax,.int .i64 az,.int .u8 skin],89),(b6,#[.slice ag ng cg,.slice none 0 0],124),(b8,#[.string nm,.slice a n c,.int .i64 dep,.int .i64 den,.int .i64 gx,.int .i64 gz,.int .i64 0,.int .i64 ax,.int .i64 az,.int .u8 skin,.slice al LO.length cl,.slice au UP.length cu],133)] [⟨.slice (some ⟨g9,0,none⟩) 1 1,121,1,1,[.slice ag ng cg]⟩] [(fun V=>Sx 2 V al LO.length cl (L2 LO))]from hM.out) ?_;intro V3 hc;have hN:=ζ hc;clear hc hM hL hg9 AB AA;have AA:=hN.out.c 2 1;go_wp2;refine wp_loop_once ?_;clear AA;have A3:=ζ (hN.out.rcell 0 rfl (k:=0) (u:= .slice ag ng cg) rfl);have A4:=ζ (fun W (hW:Below V3.heap.size V3 W)=>Ab.out W (hN.out.be.trans (hW.mono hN.out.be.size)) al cl b8 ((hN.out.call hW).c 3 10) ((hN.out.call hW).r 0 rfl));go_wp2_with fail
 refine(pbest_line V3 g9 1 ag ng cg _ #[.pointer (some ⟨b8,0,none⟩)] 71 q rfl A3.out eg_drop1 (fun W hW=>A4.out W hW)).mono ?_;rintro e w7 ⟨a6,n6,c6,m6,d6,e6,f6,rfl,hz,hb⟩;have hO:=ζ (((hN.out.call hb).pR rfl rfl hz).al w7.heap.size #[.slice a6 n6 c6,.bool m6,.slice d6 e6 f6] 72 rfl);clear hb hz hN A3 A4;go_upto_region 21 with fail
 obtain ⟨b13,hb13⟩:∃b,w7.heap.size=b:=⟨_,rfl⟩
 rw [hb13]at hO⊢;refine wp_geny (show Sy w _ [(b1,#[.slice ag ng cg,.slice none 0 0],65),(b2,#[.string nm,.slice a n c,.int .i64 dep,.int .i64 den,.int .i64 gx,.int .i64 gz,.int .i64 0,.int .i64 ax,.int .i64 az,.int .u8 skin],89),(b6,#[.slice ag ng cg,.slice none 0 0],124),(b8,#[.string nm,.slice a n c,.int .i64 dep,.int .i64 den,.int .i64 gx,.int .i64 gz,.int .i64 0,.int .i64 ax,.int .i64 az,.int .u8 skin,.slice al LO.length cl,.slice au UP.length cu],133),(b13,#[.slice a6 n6 c6,.bool m6,.slice d6 e6 f6],72)] [⟨.slice (some ⟨g9,0,none⟩) 1 1,121,1,1,[.slice ag ng cg]⟩] [(fun V=>Sx 2 V al LO.length cl (L2 LO)),(fun V=>Rd V (.slice a6 n6 c6) m6 (.slice d6 e6 f6) (q))]from hO.out) ?_;intro V4 hc;have hP:=ζ hc;clear hc hO hb13;have A0:=hP.out.c 4 0;have A1:=hP.out.c 4 1;have A2:=hP.out.c 4 2;go_wp2_with fail
 refine(rfloor_b (hP.out.r 1 rfl) Ac.out (by omega)).mono ?_;rintro e w8 ⟨a7,n7,c7,m7,rfl,hz,hb⟩;rw [HM.out]at hz;have hQ:=ζ ((hP.out.call hb).pZ rfl rfl hz);clear hb hz hP A0 A1 A2;go_wp2_with fail
 refine(int64_any a7 n7 c7 m7 m _ (hQ.out.r 2 rfl) 20 HB.out (by omega)).mono ?_;rintro e w9 ⟨rfl,hb⟩;rw [HI.out];have hR:=ζ (hQ.out.call hb);clear hb hQ;go_wp2;go_ret2;exact⟨rfl,hR.out.be⟩
end
theorem Strt.in100D {l:List Pt} {a b:Int} (h:Strt l a b): -100000<=a/\a < b/\b<=100000:=by
 have h2:=h.ok.two;have f0:=(h.ok.far (l[0]'(by omega)) (List.getElem_mem _)).1;have f1:=(h.ok.far (l[l.length - 1]'(by omega)) (List.getElem_mem _)).1;have h3:=h.lo;have h4:=h.hi;have h5:=h.lt;rw [hX_at (by omega)]at h3 h4;omega
theorem ceil_negD (q:Rat): -((-q).floor)=q.ceil:=by
 have h:∀k:Int,-((-q).floor)<=k↔q.ceil<=k:=fun k=>by
  rw [Rat.ceil_le_iff,show(-((-q).floor)<=k)↔(-k<=(-q).floor)by omega,Rat.le_floor_iff,Rat.intCast_neg];constructor<;>intro h<;>grind
 exact Int.le_antisymm ((h _).2 (Int.le_refl _)) ((h _).1 (Int.le_refl _))
theorem rceil_d {w:World} {a1:Option Addr} {n1 c1:Nat} {m1:Bool} {d1:Option Addr} {e1 f1:Nat} {q1:Rat} {k1:Nat} (h1:Rd w (.slice a1 n1 c1) m1 (.slice d1 e1 f1) q1) (b1:Bq k1 q1) (hk1:k1<=40000) {z:Int} (hz:q1.ceil=z):
  Calls Tryz.prog 21 #[.agg #[.slice a1 n1 c1,.bool m1,.slice d1 e1 f1]] w (RetZ w z):=by
 rw [<-hz,<-ceil_negD];exact rceil_any _ _ _ _ _ _ _ _ _ h1 k1 b1 hk1
theorem drop_block {w:World} {l:List Pt} {x a b up z:Int} {ag:Option Addr} {ng cg:Nat} {ar:Option Addr} {cr:Nat} (hT:Strt l x (x+a)) (hp:profB l=true) (ha:1<=a/\a<=256) (hb:1<=b/\b<=256) (hu:0<=up/\up<=65535)
  (hz:(hiQ l x (x+a)).ceil+up=z) (hz1:z<=100000) (hg:Ways w) (hgr:Sx 2 w ag ng cg (L2 l)) (hs:Sx 2 w ar 4 cr (L2 (rectL a b))):
  Calls Tryz.prog 23 #[.agg #[.slice ag ng cg,.slice none 0 0],.agg #[.string blockN,.slice ar 4 cr,.int .i64 1,.int .i64 1,.int .i64 1,.int .i64 0,.int .i64 0,.int .i64 x,.int .i64 z,.int .u8 1]] w (Gives (.tuple #[.int .i64 up,.int .i64 0]) w):=by
 have h1:=hT.in100D;have h2:=hT.hi_gd.ceil;have hx: -100000<=x/\x<=100000:=⟨h1.1,by omega⟩
 have hzz: -100000<=z/\z<=100000:=⟨by omega,hz1⟩
 obtain ⟨s1,s2⟩:=rect_sorts (b:=b) ha.1 x z;obtain ⟨k1,k2⟩:=block_sinks hu.1 hz;refine pdrop_any w blockN ar 4 cr (rectL a b) 1 1 1 0 x z 1 ag ng cg l (by decide) hs (rect_stone ha hb) (rect_laid ha hb hx hzz) hx hzz hg hgr hp (rectC x z a b) (lowL x z a) [(x,z+b),(x+a,z+b)] (rect_corners ha hb x z) s1 s2 ?_ x (x+a) (cor l x (x+a)) (block_fit hT ha.1 h1.1 h1.2.2 hzz) ?_ ?_ ?_ up ?_ (by omega)
 ·intro p hp;simp only [rectC,List.mem_cons,List.not_mem_nil,or_false]at hp;rcases hp with rfl | rfl | rfl | rfl<;>(dsimp only;omega)
 ·exact hT.lo
 ·exact hT.hi
 ·rw [block_least hT ha.1 h1.1 h1.2.2 hzz];exact k2
 ·rw [block_least hT ha.1 h1.1 h1.2.2 hzz];exact k1
end
end Go.Proofs.YtjpojeapdgjbhaaGreatDoor
