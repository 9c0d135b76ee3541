/- part -/
import Derived.Test.YtjpojeapdgjbhaaGreatDoorQ21
import Derived.Test.YtjpojeapdgjbhaaGreatDoorQ20
set_option maxRecDepth 100000
set_option maxHeartbeats 16000000
namespace Go.Proofs.YtjpojeapdgjbhaaGreatDoor
open Go.RowKit Go.Shelf Dig
theorem pfar_any (w:World) (x:Int) (hx: -100000<=x/\x<=100000):Calls Tryz.prog 119 #[.int .i64 x] w (fun e w'=>e= .returned (.bool false)/\w'=w):=by
 have h1:¬ x < -100000:=by omega
 have h2:¬ 100000 < x:=by omega
 go_enter Tryz.func119,Tryz.ntmps119;go_wp2;go_ret;exact⟨rfl,rfl⟩
theorem mTp1_0 {P_:Prop} (h:P_:=by
 go_big_quiet (first | with_reducible exact Calls.quiet_of_same (HA.out _) | with_reducible exact Calls.quiet_of_same (HB.out _))
 have hZ:=ζ ((hD.out.call (below_dN (Below.refl _ _) nq)).thin (bs':=[]) (os':=[]) (List.nil_sublist _) (List.nil_sublist _));go_wp2;go_roundw
 case rel=>exact⟨k+1,by omega,by go_num,hZ⟩
 case measure=>simp [intOf];omega):P_:=h
theorem pground_any (w:World) (a:OA) (n c:Nat) (l:List Pt) (hs:Sx 2 w a n c (L2 l)) (hp:profB l=true):Calls Tryz.prog 102 #[.slice a n c] w (Gives (.bool true) w):=by
 obtain rfl:=hs.n2;have hP:=prof_iff.1 hp;have HS:=ζ hs;have AA:=ζ (fun k (h:k+1 < l.length)=>show l[k].1 < l[k+1].1 by have:=hP.up k h;rw [hX_at h,hX_at (show k < l.length by omega)]at this;exact this);have AB:=ζ (fun k (h:k < l.length)=>hP.far l[k] (List.getElem_mem h));have hn2:=hP.two;have hn40:=hP.forty;have g1:¬ (l.length:Int) < 2:=by omega
 have g2:¬ (40:Int) < (l.length:Int):=by omega
 obtain ⟨g0,o0,rfl⟩:=hs.addr (by omega);clear hs hp hP;have hC:=ζ (Sy.enter w);go_enter Tryz.func102,Tryz.ntmps102;go_wp2;go_loopw [15] (fun iv wr=>∃k:Nat,k<=l.length/\iv= .int .i64 k/\Hid (Sy w wr [] [] [])) (fun iv _=>l.length - (intOf iv).toNat)
 case atStart=>exact⟨0,Nat.zero_le _,rfl,hC⟩
 case round=>
  clear hC;obtain ⟨k,hk,rfl,hS⟩:=hrel;have i0:(0:Int)<=(k:Int):=by omega
  by_cases hlt:k < l.length
  ·have i1:(k:Int) < (l.length:Int):=(by omega);obtain ⟨x0,x1⟩:=(hS.out.sx HS.out).at2 hlt;have hfr:=AB.out k hlt;have HU:=ζ (fun(h:k - 1 < l.length) (h0:0 < k)=>show l[k - 1].1 < l[k].1 by
    obtain ⟨j,rfl⟩:∃j,k=j+1:=⟨k - 1,by omega⟩
    exact AA.out j hlt)
   have AC:=ζ (fun V (hV:Sx 2 V (some ⟨g0,o0,none⟩) l.length c (L2 l)) (h:k - 1 < l.length)=>(hV.at2 h).1);obtain ⟨u0,hu0⟩:∃u,l[k].1=u:=⟨_,rfl⟩
   obtain ⟨u1,hu1⟩:∃u,l[k].2=u:=⟨_,rfl⟩
   rw [hu0]at x0 HU;rw [hu1]at x1;have HA:=ζ (fun W=>pfar_any W u0 (by rw [<-hu0];exact hfr.1));have HB:=ζ (fun W=>pfar_any W u1 (by rw [<-hu1];exact hfr.2));clear hu0 hu1 hfr;have hX:=ζ (hS.out.al wr.heap.size #[.int .i64 u0,.int .i64 u1] 47 rfl);go_upto_region 6 with fail
   obtain ⟨b4,hb4⟩:∃b,wr.heap.size=b:=⟨_,rfl⟩
   rw [hb4]at hX⊢;refine wp_geny hX.out ?_;intro V1 hc;have hD:=ζ hc;clear hc hX hb4 hS x0 x1;have y0:=hD.out.c 0 0;have y1:=hD.out.c 0 1;rcases Nat.eq_zero_or_pos k with hk0 | hk0
   ·have hkn:decide (0 < k)=false:=decide_eq_false (by omega);have hkn2:decide ((0:Int) < (k:Int))=false:=decide_eq_false (by omega);exact mTp1_0
   ·have hkn:decide (0 < k)=true:=decide_eq_true hk0;have hkn2:decide ((0:Int) < (k:Int))=true:=decide_eq_true (by omega);have p0:=AC.out V1 (hD.out.sx HS.out) (by omega);have hup:=HU.out (by omega) hk0;obtain ⟨v0,hv0⟩:∃v,l[k - 1].1=v:=⟨_,rfl⟩
    rw [hv0]at p0 hup;obtain ⟨j,hj⟩:∃j,k - 1=j:=⟨_,rfl⟩
    rw [hj]at p0;have e1:IntKind.i64.wrap ((k:Int) - 1)=(j:Int):=(by rw [IntWalk.i64_in _ (by omega)];omega);have e2:(0:Int)<=(j:Int):=(by omega);have e3:(j:Int) < (l.length:Int):=(by omega);have d1:decide (u0<=v0)=false:=decide_eq_false (by omega);clear hv0 hj;exact mTp1_0
  ·obtain rfl:k=l.length:=by omega
   have i1:¬ (l.length:Int) < (l.length:Int):=(by omega);go_wp2;go_ret;exact⟨rfl,hS.out.be⟩
theorem pleft_any (w:World) (a:OA) (n c:Nat) (l:List Pt) (hs:Sx 2 w a n c (L2 l)) (h0:0 < n):Calls Tryz.prog 47 #[.slice a n c] w (Gives (.int .i64 (hX l 0)) w):=by
 obtain rfl:=hs.n2;have hcap:=hs.cap;unfold maxLen at hcap;obtain ⟨g0,o0,rfl⟩:=hs.addr h0;obtain ⟨x0,-⟩:=hs.at2 h0;rw [Nat.zero_mul,Nat.add_zero]at x0;rw [hX_at h0];have i1:(0:Int) < (l.length:Int):=by omega
 have HB:=ζ (Below.refl w.heap.size w);clear hs;obtain ⟨u,hu⟩:∃u,l[0].1=u:=⟨_,rfl⟩
 rw [show l[0].x=l[0].1 from rfl,hu];rw [hu]at x0;clear hu;go_enter Tryz.func47,Tryz.ntmps47;go_wp2;go_ret;exact⟨rfl,HB.out⟩
theorem pright_any (w:World) (a:OA) (n c:Nat) (l:List Pt) (hs:Sx 2 w a n c (L2 l)) (h0:0 < n):Calls Tryz.prog 48 #[.slice a n c] w (Gives (.int .i64 (hX l (l.length - 1))) w):=by
 obtain rfl:=hs.n2;have hcap:=hs.cap;unfold maxLen at hcap;obtain ⟨g0,o0,rfl⟩:=hs.addr h0;have hk:l.length - 1 < l.length:=by omega
 obtain ⟨x0,-⟩:=hs.at2 hk;rw [hX_at hk];obtain ⟨m,hm⟩:∃m,l.length - 1=m:=⟨_,rfl⟩
 have i1:IntKind.i64.wrap ((l.length:Int) - 1)=(m:Int):=by rw [IntWalk.i64_in _ (by omega)];omega
 have i2:(0:Int)<=(m:Int):=by omega
 have i3:(m:Int) < (l.length:Int):=by omega
 have HB:=ζ (Below.refl w.heap.size w);obtain ⟨u,hu⟩:∃u,(l[l.length - 1]'hk).1=u:=⟨_,rfl⟩
 rw [show(l[l.length - 1]'hk).x=(l[l.length - 1]'hk).1 from rfl,hu];rw [hu,hm]at x0;clear hs hu hm hk h0;go_enter Tryz.func48,Tryz.ntmps48;go_wp2;go_ret;exact⟨rfl,HB.out⟩
theorem zero_site:(Tryz.prog.info? 124).map (·.zero)=some (some (.agg #[.slice none 0 0,.slice none 0 0])):=by kernel_rfl
theorem plaid_any (w:World) (a:OA) (n c:Nat) (l:List Pt) (hs:Sx 2 w a n c (L2 l)) (hp:profB l=true):
  Calls Tryz.prog 45 #[.agg #[.slice a n c,.slice none 0 0]] w (fun e w'=>e= .returned (.tuple #[.agg #[.slice a n c,.slice none 0 0],.int .i64 0])/\Below w.heap.size w w'):=by
 have HG:=ζ (fun W (hW:Below w.heap.size w W)=>pground_any W a n c l (hs.below hW) hp);clear hs hp;go_enter Tryz.func45,Tryz.ntmps45;go_upto_region 1 with (first | (refine wpList_bx (o:=⟨some 1,_,_,_,_,_⟩) rfl (Sy.enter w) _ _ rfl #[.slice a n c,.slice none 0 0] rfl ?_;intro b1 V1 h1;have hA:=ζ h1;clear h1) | (refine wpList_al (o:=⟨some 2,_,_,_,_,_⟩) rfl hA.out _ rfl _ zero_site ?_;intro b2 V2 h2;have hB:=ζ (show Sy w V2 [(b1,#[.slice a n c,.slice none 0 0],65),(b2,#[.slice none 0 0,.slice none 0 0],124)] [] []from h2);clear h2 hA) | fail)
 have x0:V2.cell? ⟨b1,0,none⟩=some (.slice a n c):=hB.out.c 0 0;go_wp2_with fail
 refine(HG.out _ hB.out.be).mono ?_;rintro e W3 ⟨rfl,hb⟩;have hC:=ζ (hB.out.call hb);clear hb hB x0;have x0:W3.cell? ⟨b1,0,none⟩=some (.slice a n c):=hC.out.c 0 0;have x1:W3.cell? ⟨b1,1,none⟩=some (.slice none 0 0):=hC.out.c 0 1;have hX:=ζ (hC.out.al W3.heap.size #[.slice a n c,.slice none 0 0] 124 rfl);go_upto_region 6 with fail
 obtain ⟨b4,hb4⟩:∃b,W3.heap.size=b:=⟨_,rfl⟩
 rw [hb4]at hX⊢;refine wp_geny hX.out ?_;intro V4 hc;have hD:=ζ hc;clear hc hX hb4 hC x0 x1;have x1:V4.cell? ⟨b1,1,none⟩=some (.slice none 0 0):=hD.out.c 0 1;go_wp2;go_loopw [28] (fun iv wr=>iv= .int .i64 0/\Hid (Sy w wr [(b1,#[.slice a n c,.slice none 0 0],65),(b2,#[.slice none 0 0,.slice none 0 0],124),(b4,#[.slice a n c,.slice none 0 0],124)] [] [])) (fun _ _=>0)
 case atStart=>exact⟨rfl,hD⟩
 case round=>
  clear hD x1;obtain ⟨rfl,hD⟩:=hrel;have y1:wr.cell? ⟨b4,1,none⟩=some (.slice none 0 0):=hD.out.c 2 1;go_wp2;go_loopw [59] (fun iv wr=>iv= .int .i64 0/\Hid (Sy w wr [(b1,#[.slice a n c,.slice none 0 0],65),(b2,#[.slice none 0 0,.slice none 0 0],124),(b4,#[.slice a n c,.slice none 0 0],124)] [] [])) (fun _ _=>0)
  case atStart=>exact⟨rfl,hD⟩
  case round=>
   clear hD y1;obtain ⟨rfl,hD⟩:=hrel;have y0:=hD.out.c 2 0;have y1:=hD.out.c 2 1;have z0:=hD.out.c 1 0;have z1:=hD.out.c 1 1;have f0:=hD.out.f 1 0;have f1:=hD.out.f 1 1;go_wp2;have hZ:=ζ (hD.out|>.set (j:=0) (v:= .slice a n c) 1 rfl|>.set (j:=1) (v:= .slice none 0 0) 1 rfl);refine ret_sy hZ.out (v:= .tuple #[.agg #[.slice a n c,.slice none 0 0],.int .i64 0]) (fun hF=>?_) rfl (fun hF=>⟨rfl,hF.be⟩);have g0:=hF.c 1 0;have g1:=hF.c 1 1;simp [results,Tryz.results45,go_sem,g0,g1]
attribute [local go_sem] Oper.semAt_some
theorem cmp_not_lt {a b:Int} (h:b<=a):¬ cmpQ (a:Rat) (b:Rat) < 0:=by
 unfold cmpQ
 split
 ·omega
 ·split
  ·rename_i e;have:=Rat.intCast_lt_intCast.1 e;omega
  ·omega
theorem cmp_not_gt {a b:Int} (h:a<=b):¬ 0 < cmpQ (a:Rat) (b:Rat):=by
 unfold cmpQ
 split
 ·omega
 ·rename_i e
  split
  ·omega
  ·rename_i e2;have h1:a≠b:=fun q=>e (by rw [q]);exact absurd (Rat.intCast_lt_intCast.2 (show a < b by omega)) e2
def RetH (w:World) (q:Rat) (e:Ending) (w':World):Prop:=∃ (a4:OA) (n4 c4:Nat) (m4:Bool) (d4:OA) (e4 f4:Nat),e= .returned (.tuple #[.agg #[.slice a4 n4 c4,.bool m4,.slice d4 e4 f4],.int .i64 0])/\Rd w' (.slice a4 n4 c4) m4 (.slice d4 e4 f4) (q)/\Below w.heap.size w w'
section
variable (w:World)
theorem psite_in (n:Nat) (a:OA) (nn c:Nat) (k:Int):CallsIn Fence.wide n Tryz.prog 50 #[.agg #[.slice a nn c,.slice none 0 0],.int .u8 k] w fun e w'=>e= .returned (.func (.func 106) #[] #[.pointer (some ⟨w.heap.size,0,none⟩),.pointer (some ⟨w.heap.size+1,0,none⟩)])/\w'=(w.alloc (.cells #[.slice a nn c,.slice none 0 0] 124)).alloc (.cells #[.int .u8 k] (5)):=by
 refine callsIn_of_wp Tryz.func50 rfl trivial ?_ rfl;simp only [Tryz.ntmps50,List.size_toArray,List.length_cons,List.length_nil,Nat.reduceAdd,Nat.reduceSub,Array.replicate_succ,Array.replicate_zero,List.push_toArray,List.append_toArray,List.nil_append,List.cons_append]
 gi_wp2
 go_ret;exact⟨rfl,rfl⟩
theorem site1_at (n:Nat) (bS bK:Nat) (w0:World) (own:List Nat) (h1:w0.cell? ⟨bS,1,none⟩=some (.slice none 0 0)):
  SeqAt n Tryz.prog 106 #[.pointer (some ⟨bS,0,none⟩),.pointer (some ⟨bK,0,none⟩)] (fun x:Value=>#[x]) (fun _ _=>False) (KeepsC own) (fun xs=>xs= []) 0 w0:=by
 intro lp J W hW hJ hY hI;have HI:=ζ hI;have x1:=(hW.cell (World.block_lt_of_cell? _ _ h1)).trans h1;have lb:=World.block_lt_of_cell? _ _ x1;clear hJ hY hI h1;refine callsIn_of_wp Tryz.func106 rfl trivial ?_ rfl;simp only [Tryz.ntmps106,List.size_toArray,List.length_cons,List.length_nil,Nat.reduceAdd,Nat.reduceSub,Array.replicate_succ,Array.replicate_zero,List.push_toArray,List.append_toArray,List.nil_append,List.cons_append]
 gi_wp2
 gi_loopw [9] (fun iv wr=>iv= .int .i64 0/\Hid (J [] wr)) (fun _ _=>0)
 case atStart=>exact⟨rfl,HI⟩
 case round=>
  clear HI x1 lb;obtain ⟨rfl,HI⟩:=hrel
  gi_wp2
  go_end0
  exact⟨⟨_,rfl⟩,[],rfl,HI.out⟩
theorem pheight_in (n:Nat) (hn:6<=n) (a:OA) (nn c:Nat) (l:List Pt) (x:Int) (a1:OA) (n1 c1:Nat) (m1:Bool) (d1:OA) (e1 f1:Nat) (hp:profB l=true) (hP:Prof l) (hs:Sx 2 w a nn c (L2 l)) (hx:Rd w (.slice a1 n1 c1) m1 (.slice d1 e1 f1) ((x:Rat))) (h1:hX l 0<=x) (h2:x<=hX l (l.length - 1)):
  CallsIn Fence.wide n Tryz.prog 16 #[.agg #[.slice a nn c,.slice none 0 0],.int .u8 1,.agg #[.slice a1 n1 c1,.bool m1,.slice d1 e1 f1]] w (RetH w (grd l x)):=by
 have HS:=ζ hs;have HX:=ζ hx;have HP:=ζ hP;have hn0:0 < nn:=by have:=hs.n2;have:=hP.two;omega
 have Af:=ζ (fun W (hW:Below w.heap.size w W)=>pleft_any W a nn c l (hs.below hW) hn0);have Ag:=ζ (fun W (hW:Below w.heap.size w W)=>pright_any W a nn c l (hs.below hW) hn0);have Am:=ζ (fun W (m:Nat) (hm:4<=m) (hW:Below w.heap.size w W) (a4:OA) (n4 c4:Nat) (m4:Bool) (d4:OA) (e4 f4:Nat) (hr:Rd W (.slice a4 n4 c4) m4 (.slice d4 e4 f4) ((x:Rat)))=>pat_in W m hm a nn c l x a4 n4 c4 m4 d4 e4 f4 hP (hs.below hW) hr h1 h2);have An:=ζ (fun W (hW:Below w.heap.size w W)=>plaid_any W a nn c l (hs.below hW) hp);have g3:=hP.bx (i:=0) (by have:=hP.two;omega);have g4:=hP.bx (i:=l.length - 1) (by have:=hP.two;omega);obtain ⟨lf,hlf⟩:∃k,hX l 0=k:=⟨_,rfl⟩
 obtain ⟨rt,hrt⟩:∃k,hX l (l.length - 1)=k:=⟨_,rfl⟩
 rw [hlf]at h1 g3 Af;rw [hrt]at h2 g4 Ag;have BX:=ζ (int_bq (k:=x) (by omega));have BL:=ζ (int_bq (k:=lf) (by omega));have BR:=ζ (int_bq (k:=rt) (by omega));have Ap:=ζ (fun W=>pof_any W lf (by omega));have Aq:=ζ (fun W=>pof_any W rt (by omega));obtain ⟨v1,hv1⟩:∃v,cmpQ (x:Rat) (lf:Rat)=v:=⟨_,rfl⟩
 obtain ⟨v2,hv2⟩:∃v,cmpQ (x:Rat) (rt:Rat)=v:=⟨_,rfl⟩
 have hv3:¬ v1 < 0:=by rw [<-hv1];exact cmp_not_lt h1
 have hv4:¬ 0 < v2:=by rw [<-hv2];exact cmp_not_gt h2
 have Ar:=ζ hv1;have As:=ζ hv2;clear hs hx hP h1 h2 hn0 g3 g4 hlf hrt hp hv1 hv2;refine callsIn_of_wp_marks Tryz.func16 rfl trivial ?_ rfl;simp only [Tryz.ntmps16,List.size_toArray,List.length_cons,List.length_nil,Nat.reduceAdd,Nat.reduceSub,Array.replicate_succ,Array.replicate_zero,List.push_toArray,List.append_toArray,List.nil_append,List.cons_append];have A1:=ζ ((((Sy.enter w).al w.heap.size #[.slice a nn c,.slice none 0 0] 65 rfl).al (w.heap.size+1) #[.slice a1 n1 c1,.bool m1,.slice d1 e1 f1] 72 (by simp)).al (w.heap.size+1+1) zR 72 (by simp))
 gi_wp2_with fail
 refine⟨trivial,fun _=>by omega,(callsIn_wide.2 (An.out _ A1.out.be)).mono ?_⟩;rintro e w3 ⟨rfl,hb⟩;have A2:=ζ (A1.out.call hb);clear hb A1;have x0:=A2.out.c 0 0
 gi_wp2_with fail
 have AY:=ζ ((A2.out.al w3.heap.size #[.slice a nn c,.slice none 0 0] 124 rfl));obtain ⟨W0,Aj⟩:∃W0,w3.alloc (.cells #[.slice a nn c,.slice none 0 0] 124)=W0:=⟨_,rfl⟩
 rw [Aj]at AY⊢;obtain ⟨b4,hb4⟩:∃b,w3.heap.size=b:=⟨_,rfl⟩
 obtain ⟨b3,hb3⟩:∃b,w.heap.size+1+1=b:=⟨_,rfl⟩
 obtain ⟨b2,hb2⟩:∃b,w.heap.size+1=b:=⟨_,rfl⟩
 obtain ⟨b1,hb1⟩:∃b,w.heap.size=b:=⟨_,rfl⟩
 have AK:Hid (Sy w W0 [(b1,#[.slice a nn c,.slice none 0 0],65),(b2,#[.slice a1 n1 c1,.bool m1,.slice d1 e1 f1],72),(b3,zR,72),(b4,#[.slice a nn c,.slice none 0 0],124)] [] [(fun V=>Rd V (.slice a1 n1 c1) m1 (.slice d1 e1 f1) ((x:Rat)))]):=ζ (by rw [<-hb4,<-hb3,<-hb2,<-hb1];exact AY.out.pR rfl rfl (HX.out.keep (Below.keeps AY.out.be)));rw [hb4,hb3,hb2,hb1];clear A2 AY Aj x0 hb4 hb3 hb2 hb1;refine wpIn_mono (Q:=fun e a' W'=>e= .normal/\Hid (∃v31 v32 v33 v34 v35 v36 v37 v38 v39 v40 v41 v42 v43 v44 v45 v46:Value,a'= { tmps:=#[.agg #[.slice a nn c,.slice none 0 0],.int .u8 1,.agg #[.slice a1 n1 c1,.bool m1,.slice d1 e1 f1],.pointer (some ⟨b1,0,none⟩),undef,.pointer (some ⟨b2,0,none⟩),.pointer (some ⟨b3,0,none⟩),.int .i64 0,.pointer (some ⟨b4,0,none⟩),.int .i64 0,undef,undef,.tuple #[.agg #[.slice a nn c,.slice none 0 0],.int .i64 0],.agg #[.slice a nn c,.slice none 0 0],.tuple #[.agg #[.slice a nn c,.slice none 0 0],.int .i64 0],.agg #[.slice a nn c,.slice none 0 0],.int .i64 0,.bool false,.int .i64 0,.bool false,undef,undef,.bool false,.int .u8 1,.bool false,.bool false,undef,undef,.bool false,undef,.bool false,v31,v32,v33,v34,v35,v36,v37,v38,v39,v40,v41,v42,v43,v44,v45,v46,undef,undef,undef,undef,undef,undef,undef,undef,undef,undef,undef,undef,undef,undef,undef,undef,undef,undef,undef,undef,undef,undef,undef,undef,undef,undef,undef,undef,undef,undef,undef,undef,undef],defers:=[] } /\Sy w W' [(b1,#[.slice a nn c,.slice none 0 0],65),(b2,#[.slice a1 n1 c1,.bool m1,.slice d1 e1 f1],72),(b3,zR,72),(b4,#[.slice a nn c,.slice none 0 0],124)] [] [(fun V=>Rd V (.slice a1 n1 c1) m1 (.slice d1 e1 f1) ((x:Rat)))])) ?reg ?rest
 case reg=>
  refine wpIn_region_wide (S:=(fun w'=>w'.cell? ⟨b2,0,none⟩=some (.slice a1 n1 c1)/\w'.cell? ⟨b2,1,none⟩=some (.bool m1)/\w'.cell? ⟨b2,2,none⟩=some (.slice d1 e1 f1)/\w'.cell? ⟨b4,0,none⟩=some (.slice a nn c)/\w'.cell? ⟨b4,1,none⟩=some (.slice none 0 0)/\True)) ?_ (by kernel_rfl) ⟨AK.out.drew.c 1 0,AK.out.drew.c 1 1,AK.out.drew.c 1 2,AK.out.drew.c 3 0,AK.out.drew.c 3 1,trivial⟩ (fun hH=>?_)
  ·kernel_rfl
  refine wpAnyH_geny (show Sy w _ [(b1,#[.slice a nn c,.slice none 0 0],65),(b2,#[.slice a1 n1 c1,.bool m1,.slice d1 e1 f1],72),(b3,zR,72),(b4,#[.slice a nn c,.slice none 0 0],124)] [] [(fun V=>Rd V (.slice a1 n1 c1) m1 (.slice d1 e1 f1) ((x:Rat)))]from AK.out.drew) hH ?_;intro Av hc AD;have AG:=ζ hc;clear hc hH AK;refine wpAnyH_take (i:=0) (oi:=⟨_,_,_,_,_,_⟩) (v:=?_) rfl (by kernel_rfl) (by kernel_rfl) (by kernel_rfl) (fun _ _ _ h=>by cases h.1) (Or.inl ⟨by rfl,?_⟩) AD ?_;rotate_left
  ·intro wS AC;(try dsimp only at AC);go_simp;try with_reducible rfl
  try simp only [zP]
  refine wpAnyH_take (i:=1) (oi:=⟨_,_,_,_,_,_⟩) (v:=?_) rfl (by kernel_rfl) (by kernel_rfl) (by kernel_rfl) (fun _ _ _ h=>by cases h.1) (Or.inl ⟨by rfl,?_⟩) AD ?_;rotate_left
  ·intro wS AC;(try dsimp only at AC);go_simp;try with_reducible rfl
  try simp only [zP]
  refine wpAnyH_take (i:=2) (oi:=⟨_,_,_,_,_,_⟩) (v:=?_) rfl (by kernel_rfl) (by kernel_rfl) (by kernel_rfl) (fun _ _ _ h=>by cases h.1) (Or.inl ⟨by rfl,?_⟩) AD ?_;rotate_left
  ·intro wS AC;(try dsimp only at AC);go_simp;try with_reducible rfl
  try simp only [zP]
  refine rdy1 3 rfl (fun Kq AA=>?_);go_simp;go_at_call 47;refine(Af.out _ AG.out.be).mono ?_;rintro e wT ⟨rfl,hb⟩;(try go_wp2_with fail);refine stepZ AA (show Sy w _ [(b1,#[.slice a nn c,.slice none 0 0],65),(b2,#[.slice a1 n1 c1,.bool m1,.slice d1 e1 f1],72),(b3,zR,72),(b4,#[.slice a nn c,.slice none 0 0],124)] [] [(fun V=>Rd V (.slice a1 n1 c1) m1 (.slice d1 e1 f1) ((x:Rat)))]from(AG.out.call hb)) (fun _ hX=>⟨hX.c 1 0,hX.c 1 1,hX.c 1 2,hX.c 3 0,hX.c 3 1,trivial⟩) ?_;intro Ax AL AQ;clear AA Kq AG hb AD;try simp only [zP]
  refine rdy1 4 rfl (fun Kq AA=>?_);go_simp;go_at_call 46;refine(Ap.out _).mono ?_;rintro e wT ⟨a5,n5,c5,m5,d5,e5,f5,rfl,hz,hb⟩;(try go_wp2_with fail);refine stepZ AA (show Sy w _ [(b1,#[.slice a nn c,.slice none 0 0],65),(b2,#[.slice a1 n1 c1,.bool m1,.slice d1 e1 f1],72),(b3,zR,72),(b4,#[.slice a nn c,.slice none 0 0],124)] [] [(fun V=>Rd V (.slice a1 n1 c1) m1 (.slice d1 e1 f1) ((x:Rat))),(fun V=>Rd V (.slice a5 n5 c5) m5 (.slice d5 e5 f5) ((lf:Rat)))]from((AL.out.call hb).pR rfl rfl hz)) (fun _ hX=>⟨hX.c 1 0,hX.c 1 1,hX.c 1 2,hX.c 3 0,hX.c 3 1,trivial⟩) ?_;intro Az AE AR;clear AA Kq AL hb hz AQ;try simp only [zP]
  refine rdy1 5 rfl (fun Kq AA=>?_);go_simp;go_at_call 19;refine(hcmp_is (AE.out.r 0 rfl) (AE.out.r 1 rfl) BX.out BL.out (by omega) (by omega) Ar.out).mono ?_;rintro e wT ⟨rfl,hb⟩;(try go_wp2_with fail);refine stepZ AA (show Sy w _ [(b1,#[.slice a nn c,.slice none 0 0],65),(b2,#[.slice a1 n1 c1,.bool m1,.slice d1 e1 f1],72),(b3,zR,72),(b4,#[.slice a nn c,.slice none 0 0],124)] [] [(fun V=>Rd V (.slice a1 n1 c1) m1 (.slice d1 e1 f1) ((x:Rat))),(fun V=>Rd V (.slice a5 n5 c5) m5 (.slice d5 e5 f5) ((lf:Rat)))]from(AE.out.call hb)) (fun _ hX=>⟨hX.c 1 0,hX.c 1 1,hX.c 1 2,hX.c 3 0,hX.c 3 1,trivial⟩) ?_;intro BA AH AB;clear AA Kq AE hb AR;try simp only [zP]
  refine wpAnyH_take (i:=6) (oi:=⟨_,_,_,_,_,_⟩) (v:= .bool false) rfl (by kernel_rfl) (by kernel_rfl) (by kernel_rfl) (fun _ _ _ h=>by cases h.1) (Or.inl ⟨by rfl,?_⟩) AB ?_
  ·intro wS AC;(try dsimp only at AC);go_simp;all_goals (first | rfl | (simp;omega))
  try simp only [zP]
  refine wpAnyH_take (i:=7) (oi:=⟨_,_,_,_,_,_⟩) (v:=?_) rfl (by kernel_rfl) (by kernel_rfl) (by kernel_rfl) (fun _ _ _ h=>by cases h.1) (Or.inl ⟨by rfl,?_⟩) AB ?_;rotate_left
  ·intro wS AC;(try dsimp only at AC);go_simp;try with_reducible rfl
  try simp only [zP]
  refine wpAnyH_take (i:=8) (oi:=⟨_,_,_,_,_,_⟩) (v:=?_) rfl (by kernel_rfl) (by kernel_rfl) (by kernel_rfl) (fun _ _ _ h=>by cases h.1) (Or.inl ⟨by rfl,?_⟩) AB ?_;rotate_left
  ·intro wS AC;(try dsimp only at AC);go_simp;try with_reducible rfl
  try simp only [zP]
  refine wpAnyH_take (i:=9) (oi:=⟨_,_,_,_,_,_⟩) (v:=?_) rfl (by kernel_rfl) (by kernel_rfl) (by kernel_rfl) (fun _ _ _ h=>by cases h.1) (Or.inl ⟨by rfl,?_⟩) AB ?_;rotate_left
  ·intro wS AC;(try dsimp only at AC);go_simp;try with_reducible rfl
  try simp only [zP]
  refine wpAnyH_take (i:=10) (oi:=⟨_,_,_,_,_,_⟩) (v:=?_) rfl (by kernel_rfl) (by kernel_rfl) (by kernel_rfl) (fun _ _ _ h=>by cases h.1) (Or.inl ⟨by rfl,?_⟩) AB ?_;rotate_left
  ·intro wS AC;(try dsimp only at AC);go_simp;try with_reducible rfl
  try simp only [zP]
  refine rdy1 11 rfl (fun Kq AA=>?_);go_simp;go_at_call 48;refine(Ag.out _ AH.out.be).mono ?_;rintro e wT ⟨rfl,hb⟩;(try go_wp2_with fail);refine stepZ AA (show Sy w _ [(b1,#[.slice a nn c,.slice none 0 0],65),(b2,#[.slice a1 n1 c1,.bool m1,.slice d1 e1 f1],72),(b3,zR,72),(b4,#[.slice a nn c,.slice none 0 0],124)] [] [(fun V=>Rd V (.slice a1 n1 c1) m1 (.slice d1 e1 f1) ((x:Rat))),(fun V=>Rd V (.slice a5 n5 c5) m5 (.slice d5 e5 f5) ((lf:Rat)))]from(AH.out.call hb)) (fun _ hX=>⟨hX.c 1 0,hX.c 1 1,hX.c 1 2,hX.c 3 0,hX.c 3 1,trivial⟩) ?_;intro BB AM AS;clear AA Kq AH hb AB;try simp only [zP]
  refine rdy1 12 rfl (fun Kq AA=>?_);go_simp;go_at_call 46;refine(Aq.out _).mono ?_;rintro e wT ⟨a6,n6,c6,m6,d6,e6,f6,rfl,hz,hb⟩;(try go_wp2_with fail);refine stepZ AA (show Sy w _ [(b1,#[.slice a nn c,.slice none 0 0],65),(b2,#[.slice a1 n1 c1,.bool m1,.slice d1 e1 f1],72),(b3,zR,72),(b4,#[.slice a nn c,.slice none 0 0],124)] [] [(fun V=>Rd V (.slice a1 n1 c1) m1 (.slice d1 e1 f1) ((x:Rat))),(fun V=>Rd V (.slice a5 n5 c5) m5 (.slice d5 e5 f5) ((lf:Rat))),(fun V=>Rd V (.slice a6 n6 c6) m6 (.slice d6 e6 f6) ((rt:Rat)))]from((AM.out.call hb).pR rfl rfl hz)) (fun _ hX=>⟨hX.c 1 0,hX.c 1 1,hX.c 1 2,hX.c 3 0,hX.c 3 1,trivial⟩) ?_;intro BC AF AT;clear AA Kq AM hb hz AS;try simp only [zP]
  refine rdy1 13 rfl (fun Kq AA=>?_);go_simp;go_at_call 19;refine(hcmp_is (AF.out.r 0 rfl) (AF.out.r 2 rfl) BX.out BR.out (by omega) (by omega) As.out).mono ?_;rintro e wT ⟨rfl,hb⟩;(try go_wp2_with fail);refine stepZ AA (show Sy w _ [(b1,#[.slice a nn c,.slice none 0 0],65),(b2,#[.slice a1 n1 c1,.bool m1,.slice d1 e1 f1],72),(b3,zR,72),(b4,#[.slice a nn c,.slice none 0 0],124)] [] [(fun V=>Rd V (.slice a1 n1 c1) m1 (.slice d1 e1 f1) ((x:Rat))),(fun V=>Rd V (.slice a5 n5 c5) m5 (.slice d5 e5 f5) ((lf:Rat))),(fun V=>Rd V (.slice a6 n6 c6) m6 (.slice d6 e6 f6) ((rt:Rat)))]from(AF.out.call hb)) (fun _ hX=>⟨hX.c 1 0,hX.c 1 1,hX.c 1 2,hX.c 3 0,hX.c 3 1,trivial⟩) ?_;intro BD AN AI;clear AA Kq AF hb AT;try simp only [zP]
  refine wpAnyH_take (i:=14) (oi:=⟨_,_,_,_,_,_⟩) (v:= .bool false) rfl (by kernel_rfl) (by kernel_rfl) (by kernel_rfl) (fun _ _ _ h=>by cases h.1) (Or.inl ⟨by rfl,?_⟩) AI ?_
  ·intro wS AC;(try dsimp only at AC);go_simp;all_goals (first | rfl | (simp;omega))
  try simp only [zP]
  refine wpAnyH_take (i:=15) (oi:=⟨_,_,_,_,_,_⟩) (v:=?_) rfl (by kernel_rfl) (by kernel_rfl) (by kernel_rfl) (fun _ _ _ h=>by cases h.1) (Or.inl ⟨by rfl,?_⟩) AI ?_;rotate_left
  ·intro wS AC;(try dsimp only at AC);go_simp;try with_reducible rfl
  try simp only [zP]
  refine rdy1 16 rfl (fun Kq AA=>?_);go_simp;refine stepZ AA (show Sy w _ [(b1,#[.slice a nn c,.slice none 0 0],65),(b2,#[.slice a1 n1 c1,.bool m1,.slice d1 e1 f1],72),(b3,zR,72),(b4,#[.slice a nn c,.slice none 0 0],124)] [] [(fun V=>Rd V (.slice a1 n1 c1) m1 (.slice d1 e1 f1) ((x:Rat))),(fun V=>Rd V (.slice a5 n5 c5) m5 (.slice d5 e5 f5) ((lf:Rat))),(fun V=>Rd V (.slice a6 n6 c6) m6 (.slice d6 e6 f6) ((rt:Rat)))]from AN.out) (fun _ hX=>⟨hX.c 1 0,hX.c 1 1,hX.c 1 2,hX.c 3 0,hX.c 3 1,trivial⟩) ?_;intro BE AU Ak;clear AA Kq AN AI;try simp only [zP]
  refine wpAnyH_done (by kernel_rfl) ?_ _;exact⟨rfl,ζ ⟨_,_,_,_,_,_,_,_,_,_,_,_,_,_,_,_,rfl,AU.out.pick [0] rfl⟩⟩
 case rest=>
  rintro e a' W' ⟨rfl,h⟩;obtain ⟨v31,v32,v33,v34,v35,v36,v37,v38,v39,v40,v41,v42,v43,v44,v45,v46,rfl,hz⟩:=h.out;have hZ:=ζ hz;clear h hz AK;have AJ:=hZ.out.c 3 0;have AP:=hZ.out.c 3 1;have A3:=hZ.out.c 1 0;have A4:=hZ.out.c 1 1;have A5:=hZ.out.c 1 2
  gi_wp2_with fail
  refine⟨trivial,fun _=>by omega,(Am.out _ (n - 1) (by omega) hZ.out.be a1 n1 c1 m1 d1 e1 f1 (hZ.out.r 0 rfl)).mono ?_⟩;rintro e w6 ⟨a4,n4,c4,m4,d4,e4,f4,rfl,hz,hb⟩;have AO:=ζ ((hZ.out.call hb).pR rfl rfl hz);clear hb hz hZ AJ AP A3 A4 A5;have AJ:=AO.out.c 3 0;have AP:=AO.out.c 3 1;have lb:=World.block_lt_of_cell? _ _ AJ;dsimp only at lb
  gi_wp2_with fail
  refine⟨trivial,fun _=>by omega,(psite_in _ (n - 1) a nn c 1).mono ?_⟩;rintro e w7 ⟨rfl,rfl⟩
  gi_wp2_with fail
  clear AJ AP lb;have AZ:=ζ (((AO.out.al w6.heap.size #[.slice a4 n4 c4,.bool m4,.slice d4 e4 f4] 72 rfl).row (o:= .cells #[.slice a nn c,.slice none 0 0] 124)).row (o:= .cells #[.int .u8 1] (5)));obtain ⟨W9,A0⟩:∃W9,(((w6.alloc (.cells #[.slice a4 n4 c4,.bool m4,.slice d4 e4 f4] 72)).alloc (.cells #[.slice a nn c,.slice none 0 0] 124)).alloc (.cells #[.int .u8 1] (5)))=W9:=⟨_,rfl⟩
  have hsz:W9.heap.size=w6.heap.size+1+1+1:=by rw [<-A0];simp
  have hnew:W9.heap[w6.heap.size+1]? =some (.cells #[.slice a nn c,.slice none 0 0] 124 (0,0)):=by
   rw [<-A0];refine(Below.heap_alloc _ _ _ (by simp)).trans ?_;have:=World.alloc_heap_new (w6.alloc (.cells #[.slice a4 n4 c4,.bool m4,.slice d4 e4 f4] 72)) (.cells #[.slice a nn c,.slice none 0 0] 124);rwa [World.size_alloc]at this
  rw [A0]at AZ⊢;have hlt:b4 < w6.heap.size:=AO.out.lt 3 rfl;have hlt1:b1 < w6.heap.size:=AO.out.lt 0 rfl;have hlt2:b2 < w6.heap.size:=AO.out.lt 1 rfl;have hlt3:b3 < w6.heap.size:=AO.out.lt 2 rfl;obtain ⟨b5,hb5⟩:∃b,w6.heap.size=b:=⟨_,rfl⟩
  rw [hb5]at hsz hnew hlt hlt1 hlt2 hlt3⊢;have A6:Hid (Sy w W9 [(b1,#[.slice a nn c,.slice none 0 0],65),(b2,#[.slice a1 n1 c1,.bool m1,.slice d1 e1 f1],72),(b3,zR,72),(b4,#[.slice a nn c,.slice none 0 0],124),(b5,#[.slice a4 n4 c4,.bool m4,.slice d4 e4 f4],72)] [] []/\Rd W9 (.slice a4 n4 c4) m4 (.slice d4 e4 f4) (grd l x)):=ζ (by rw [<-hb5];exact⟨AZ.out.pick [] rfl,AZ.out.r 1 rfl⟩);have hle:w.heap.size<=W9.heap.size:=A6.out.1.be.size;have hc1:W9.cell? ⟨b5+1,1,none⟩=some (.slice none 0 0):=by simp [World.cell?,hnew]
  have HZ:=ζ (show W9.heap.size=b5+1+1+1/\b1 < b5/\b2 < b5/\b3 < b5/\b4 < b5 from⟨hsz,hlt1,hlt2,hlt3,hlt⟩);clear AZ A0 hb5 hnew hsz hlt hlt1 hlt2 hlt3 AO;refine wpIn_rangeFunc_at (gf:=106) (lb:=#[.pointer (some ⟨b5+1,0,none⟩),.pointer (some ⟨b5+1+1,0,none⟩)]) (w0:=W9) (by omega) rfl (enters_of Tryz.func106 (by kernel_rfl) rfl)
   (site1_at (n - 1) (b5+1) (b5+1+1) W9 [] hc1) (Below.refl _ _) (fun _=>rfl)
   keepsC_t (fun W k o o' _ hl ho=>keepsC_p W k o o' hl ho)
   (fun _ W=>Hid (Sy w W [(b1,#[.slice a nn c,.slice none 0 0],65),(b2,#[.slice a1 n1 c1,.bool m1,.slice d1 e1 f1],72),(b3,zR,72),(b4,#[.slice a nn c,.slice none 0 0],124),(b5,#[.slice a4 n4 c4,.bool m4,.slice d4 e4 f4],72)] [] []/\Rd W (.slice a4 n4 c4) m4 (.slice d4 e4 f4) (grd l x)))
   (fun s A B hs hAB=>ζ ⟨hs.out.1.call hAB,hs.out.2.keep (Below.keeps hAB)⟩)
   (fun s W k o o' hs hk hl ho=>ζ ⟨hs.out.1.put (Nat.le_trans hle hk) hl ho,hs.out.2.putObj k o o' hl ho⟩)
   A6 (fun _ _ _=>False) (fun x a' W k o o' hA hl ho=>hA)
   (fun lr pre x W K hi hx hK=>hx.elim) (fun lr pre x a' W hi hA=>hA.elim) ?done
  case done=>
   rintro D xs W hD hxs hi hdef;have hS:=ζ ((hi.out.1.pR rfl rfl hi.out.2).push (r:=fun V=>Away [b1,b2,b3,b4,b5] W V) (fun V hV=>hV));have Al:=ζ hdef;have HD:=ζ hD;clear hi hdef hxs hD A6 hc1;have A7:=hS.out.c 4 0;have A8:=hS.out.c 4 1;have A9:=hS.out.c 4 2;have Ab:=hS.out.c 2 0;have AV:=hS.out.f 2 0;have Ac:=hS.out.c 2 1;have AW:=hS.out.f 2 1;have Ad:=hS.out.c 2 2;have AX:=hS.out.f 2 2
   gi_wp2
   have hT:=ζ (hS.out|>.set (j:=0) (v:= .slice a4 n4 c4) 2 rfl|>.set (j:=1) (v:= .bool m4) 2 rfl|>.set (j:=2) (v:= .slice d4 e4 f4) 2 rfl);obtain ⟨WE,hWE⟩:∃WE,(((W.setCell ⟨b3,0,none⟩ (.slice a4 n4 c4)).setCell ⟨b3,1,none⟩ (.bool m4)).setCell ⟨b3,2,none⟩ (.slice d4 e4 f4))=WE:=⟨_,rfl⟩
   rw [hWE]at hT⊢;clear hWE A7 Ab AV A8 Ac AW A9 Ad AX hS;have hdf:WE.heap[D]? =some (.deferred (some [])):=by
    refine((hT.out.r 1 rfl).2 D (Array.getElem?_eq_some_iff.1 Al.out).1 (fun hm=>?_)).trans Al.out;simp at hm;have:=HZ.out;have:=HD.out;omega
   have hY:=(hT.out.pick [] rfl).put (o':= .deferred none) (show w.heap.size<=D from Nat.le_trans hle HD.out) hdf rfl;refine⟨by simp,.inl ⟨_,_,rfl,run_takeDeferred hdf,?_⟩⟩;have q0:=hY.c 2 0;have q1:=hY.c 2 1;have q2:=hY.c 2 2;exact⟨_,by simp [results,Tryz.results16,go_sem,q0,q1,q2],a4,n4,c4,m4,d4,e4,f4,rfl,(hT.out.r 0 rfl).putObj D _ _ hdf rfl,hY.be⟩
end
attribute [local go_sem] Oper.semAt_some
def RetHO (w:World) (e:Ending) (w':World):Prop:=e= .returned (.tuple #[.agg #[.slice none 0 0,.bool false,.slice none 0 0],.int .i64 11])/\Below w.heap.size w w'
section
variable (w:World)
theorem mTp7b_0 {P_:Prop} (h:P_:=by
 rintro e a' W' ⟨rfl,h⟩;obtain ⟨v31,v32,v33,v34,v35,v36,v37,v38,v39,v40,v41,v42,v43,v44,v45,v46,rfl,hz⟩:=h.out;have hZ:=ζ hz;clear h hz AF;have A9:=hZ.out.c 2 0;have AS:=hZ.out.f 2 0;have Ab:=hZ.out.c 2 1;have AT:=hZ.out.f 2 1;have Ac:=hZ.out.c 2 2;have AU:=hZ.out.f 2 2;have hT:=ζ (hZ.out|>.set (j:=0) (v:= .slice none 0 0) 2 rfl|>.set (j:=1) (v:= .bool false) 2 rfl|>.set (j:=2) (v:= .slice none 0 0) 2 rfl)
 gi_wp2
 have q0:=hT.out.c 2 0;have q1:=hT.out.c 2 1;have q2:=hT.out.c 2 2;exact⟨_,by simp [results,Tryz.results16,go_sem,q0,q1,q2],rfl,hT.out.be⟩):P_:=h
theorem mTp7b_1 {P_:Prop} (h:P_:=by
 intro wS AC;(try dsimp only at AC);go_simp;all_goals (first | rfl | (simp;omega))):P_:=h
theorem pheight2_in (n:Nat) (hn:6<=n) (a:OA) (nn c:Nat) (l:List Pt) (x:Int) (a1:OA) (n1 c1:Nat) (m1:Bool) (d1:OA) (e1 f1:Nat) (hp:profB l=true) (hP:Prof l) (hs:Sx 2 w a nn c (L2 l)) (hx:Rd w (.slice a1 n1 c1) m1 (.slice d1 e1 f1) ((x:Rat))) (h1:hX l 0<=x) (h2:x<=hX l (l.length - 1)):
  CallsIn Fence.wide n Tryz.prog 16 #[.agg #[.slice a nn c,.slice none 0 0],.int .u8 2,.agg #[.slice a1 n1 c1,.bool m1,.slice d1 e1 f1]] w (RetH w (grd l x)):=by
 have HS:=ζ hs;have HX:=ζ hx;have HP:=ζ hP;have hn0:0 < nn:=by have:=hs.n2;have:=hP.two;omega
 have Ad:=ζ (fun W (hW:Below w.heap.size w W)=>pleft_any W a nn c l (hs.below hW) hn0);have Af:=ζ (fun W (hW:Below w.heap.size w W)=>pright_any W a nn c l (hs.below hW) hn0);have BT:=ζ (fun W (m:Nat) (hm:4<=m) (hW:Below w.heap.size w W) (a4:OA) (n4 c4:Nat) (m4:Bool) (d4:OA) (e4 f4:Nat) (hr:Rd W (.slice a4 n4 c4) m4 (.slice d4 e4 f4) ((x:Rat)))=>pat_in W m hm a nn c l x a4 n4 c4 m4 d4 e4 f4 hP (hs.below hW) hr h1 h2);have Az:=ζ (fun W (hW:Below w.heap.size w W)=>plaid_any W a nn c l (hs.below hW) hp);have g3:=hP.bx (i:=0) (by have:=hP.two;omega);have g4:=hP.bx (i:=l.length - 1) (by have:=hP.two;omega);obtain ⟨lf,hlf⟩:∃k,hX l 0=k:=⟨_,rfl⟩
 obtain ⟨rt,hrt⟩:∃k,hX l (l.length - 1)=k:=⟨_,rfl⟩
 rw [hlf]at h1 g3 Ad;rw [hrt]at h2 g4 Af;have BX:=ζ (int_bq (k:=x) (by omega));have BL:=ζ (int_bq (k:=lf) (by omega));have BR:=ζ (int_bq (k:=rt) (by omega));have Ar:=ζ (fun W=>pof_any W lf (by omega));have BA:=ζ (fun W=>pof_any W rt (by omega));obtain ⟨v1,hv1⟩:∃v,cmpQ (x:Rat) (lf:Rat)=v:=⟨_,rfl⟩
 obtain ⟨v2,hv2⟩:∃v,cmpQ (x:Rat) (rt:Rat)=v:=⟨_,rfl⟩
 have hv3:¬ v1 < 0:=by rw [<-hv1];exact cmp_not_lt h1
 have hv4:¬ 0 < v2:=by rw [<-hv2];exact cmp_not_gt h2
 have As:=ζ hv1;have BB:=ζ hv2;clear hs hx hP h1 h2 hn0 g3 g4 hlf hrt hp hv1 hv2;refine callsIn_of_wp_marks Tryz.func16 rfl trivial ?_ rfl;simp only [Tryz.ntmps16,List.size_toArray,List.length_cons,List.length_nil,Nat.reduceAdd,Nat.reduceSub,Array.replicate_succ,Array.replicate_zero,List.push_toArray,List.append_toArray,List.nil_append,List.cons_append];have A6:=ζ ((((Sy.enter w).al w.heap.size #[.slice a nn c,.slice none 0 0] 65 rfl).al (w.heap.size+1) #[.slice a1 n1 c1,.bool m1,.slice d1 e1 f1] 72 (by simp)).al (w.heap.size+1+1) zR 72 (by simp))
 gi_wp2_with fail
 refine⟨trivial,fun _=>by omega,(callsIn_wide.2 (Az.out _ A6.out.be)).mono ?_⟩;rintro e w3 ⟨rfl,hb⟩;have A7:=ζ (A6.out.call hb);clear hb A6;have x0:=A7.out.c 0 0
 gi_wp2_with fail
 have AY:=ζ ((A7.out.al w3.heap.size #[.slice a nn c,.slice none 0 0] 124 rfl));obtain ⟨W0,Ag⟩:∃W0,w3.alloc (.cells #[.slice a nn c,.slice none 0 0] 124)=W0:=⟨_,rfl⟩
 rw [Ag]at AY⊢;obtain ⟨b4,hb4⟩:∃b,w3.heap.size=b:=⟨_,rfl⟩
 obtain ⟨b3,hb3⟩:∃b,w.heap.size+1+1=b:=⟨_,rfl⟩
 obtain ⟨b2,hb2⟩:∃b,w.heap.size+1=b:=⟨_,rfl⟩
 obtain ⟨b1,hb1⟩:∃b,w.heap.size=b:=⟨_,rfl⟩
 have AF:Hid (Sy w W0 [(b1,#[.slice a nn c,.slice none 0 0],65),(b2,#[.slice a1 n1 c1,.bool m1,.slice d1 e1 f1],72),(b3,zR,72),(b4,#[.slice a nn c,.slice none 0 0],124)] [] [(fun V=>Rd V (.slice a1 n1 c1) m1 (.slice d1 e1 f1) ((x:Rat)))]):=ζ (by rw [<-hb4,<-hb3,<-hb2,<-hb1];exact AY.out.pR rfl rfl (HX.out.keep (Below.keeps AY.out.be)));rw [hb4,hb3,hb2,hb1];clear A7 AY Ag x0 hb4 hb3 hb2 hb1;refine wpIn_mono (Q:=fun e a' W'=>e= .normal/\Hid (∃v31 v32 v33 v34 v35 v36 v37 v38 v39 v40 v41 v42 v43 v44 v45 v46:Value,a'= { tmps:=#[.agg #[.slice a nn c,.slice none 0 0],.int .u8 2,.agg #[.slice a1 n1 c1,.bool m1,.slice d1 e1 f1],.pointer (some ⟨b1,0,none⟩),undef,.pointer (some ⟨b2,0,none⟩),.pointer (some ⟨b3,0,none⟩),.int .i64 0,.pointer (some ⟨b4,0,none⟩),.int .i64 0,undef,undef,.tuple #[.agg #[.slice a nn c,.slice none 0 0],.int .i64 0],.agg #[.slice a nn c,.slice none 0 0],.tuple #[.agg #[.slice a nn c,.slice none 0 0],.int .i64 0],.agg #[.slice a nn c,.slice none 0 0],.int .i64 0,.bool false,.int .i64 0,.bool false,undef,undef,.bool false,.int .u8 2,.bool true,.bool true,.int .u8 2,.bool false,.bool false,undef,.bool false,v31,v32,v33,v34,v35,v36,v37,v38,v39,v40,v41,v42,v43,v44,v45,v46,undef,undef,undef,undef,undef,undef,undef,undef,undef,undef,undef,undef,undef,undef,undef,undef,undef,undef,undef,undef,undef,undef,undef,undef,undef,undef,undef,undef,undef,undef,undef,undef,undef],defers:=[] } /\Sy w W' [(b1,#[.slice a nn c,.slice none 0 0],65),(b2,#[.slice a1 n1 c1,.bool m1,.slice d1 e1 f1],72),(b3,zR,72),(b4,#[.slice a nn c,.slice none 0 0],124)] [] [(fun V=>Rd V (.slice a1 n1 c1) m1 (.slice d1 e1 f1) ((x:Rat)))])) ?reg ?rest
 case reg=>
  refine wpIn_region_wide (S:=(fun w'=>w'.cell? ⟨b2,0,none⟩=some (.slice a1 n1 c1)/\w'.cell? ⟨b2,1,none⟩=some (.bool m1)/\w'.cell? ⟨b2,2,none⟩=some (.slice d1 e1 f1)/\w'.cell? ⟨b4,0,none⟩=some (.slice a nn c)/\w'.cell? ⟨b4,1,none⟩=some (.slice none 0 0)/\True)) ?_ (by kernel_rfl) ⟨AF.out.drew.c 1 0,AF.out.drew.c 1 1,AF.out.drew.c 1 2,AF.out.drew.c 3 0,AF.out.drew.c 3 1,trivial⟩ (fun hH=>?_)
  ·kernel_rfl
  refine wpAnyH_geny (show Sy w _ [(b1,#[.slice a nn c,.slice none 0 0],65),(b2,#[.slice a1 n1 c1,.bool m1,.slice d1 e1 f1],72),(b3,zR,72),(b4,#[.slice a nn c,.slice none 0 0],124)] [] [(fun V=>Rd V (.slice a1 n1 c1) m1 (.slice d1 e1 f1) ((x:Rat)))]from AF.out.drew) hH ?_;intro BC hc AD;have AG:=ζ hc;clear hc hH AF;refine wpAnyH_take (i:=0) (oi:=⟨_,_,_,_,_,_⟩) (v:=?_) rfl (by kernel_rfl) (by kernel_rfl) (by kernel_rfl) (fun _ _ _ h=>by cases h.1) (Or.inl ⟨by rfl,?_⟩) AD ?_;rotate_left
  ·intro wS AC;(try dsimp only at AC);go_simp;try with_reducible rfl
  try simp only [zP]
  refine wpAnyH_take (i:=1) (oi:=⟨_,_,_,_,_,_⟩) (v:=?_) rfl (by kernel_rfl) (by kernel_rfl) (by kernel_rfl) (fun _ _ _ h=>by cases h.1) (Or.inl ⟨by rfl,?_⟩) AD ?_;rotate_left
  ·intro wS AC;(try dsimp only at AC);go_simp;try with_reducible rfl
  try simp only [zP]
  refine wpAnyH_take (i:=2) (oi:=⟨_,_,_,_,_,_⟩) (v:=?_) rfl (by kernel_rfl) (by kernel_rfl) (by kernel_rfl) (fun _ _ _ h=>by cases h.1) (Or.inl ⟨by rfl,?_⟩) AD ?_;rotate_left
  ·intro wS AC;(try dsimp only at AC);go_simp;try with_reducible rfl
  try simp only [zP]
  refine rdy1 3 rfl (fun Kq AB=>?_);go_simp;go_at_call 47;refine(Ad.out _ AG.out.be).mono ?_;rintro e wT ⟨rfl,hb⟩;(try go_wp2_with fail);refine stepZ AB (show Sy w _ [(b1,#[.slice a nn c,.slice none 0 0],65),(b2,#[.slice a1 n1 c1,.bool m1,.slice d1 e1 f1],72),(b3,zR,72),(b4,#[.slice a nn c,.slice none 0 0],124)] [] [(fun V=>Rd V (.slice a1 n1 c1) m1 (.slice d1 e1 f1) ((x:Rat)))]from(AG.out.call hb)) (fun _ hX=>⟨hX.c 1 0,hX.c 1 1,hX.c 1 2,hX.c 3 0,hX.c 3 1,trivial⟩) ?_;intro BD AJ AP;clear AB Kq AG hb AD;try simp only [zP]
  refine rdy1 4 rfl (fun Kq AB=>?_);go_simp;go_at_call 46;refine(Ar.out _).mono ?_;rintro e wT ⟨a5,n5,c5,m5,d5,e5,f5,rfl,hz,hb⟩;(try go_wp2_with fail);refine stepZ AB (show Sy w _ [(b1,#[.slice a nn c,.slice none 0 0],65),(b2,#[.slice a1 n1 c1,.bool m1,.slice d1 e1 f1],72),(b3,zR,72),(b4,#[.slice a nn c,.slice none 0 0],124)] [] [(fun V=>Rd V (.slice a1 n1 c1) m1 (.slice d1 e1 f1) ((x:Rat))),(fun V=>Rd V (.slice a5 n5 c5) m5 (.slice d5 e5 f5) ((lf:Rat)))]from((AJ.out.call hb).pR rfl rfl hz)) (fun _ hX=>⟨hX.c 1 0,hX.c 1 1,hX.c 1 2,hX.c 3 0,hX.c 3 1,trivial⟩) ?_;intro BE AE AQ;clear AB Kq AJ hb hz AP;try simp only [zP]
  refine rdy1 5 rfl (fun Kq AB=>?_);go_simp;go_at_call 19;refine(hcmp_is (AE.out.r 0 rfl) (AE.out.r 1 rfl) BX.out BL.out (by omega) (by omega) As.out).mono ?_;rintro e wT ⟨rfl,hb⟩;(try go_wp2_with fail);refine stepZ AB (show Sy w _ [(b1,#[.slice a nn c,.slice none 0 0],65),(b2,#[.slice a1 n1 c1,.bool m1,.slice d1 e1 f1],72),(b3,zR,72),(b4,#[.slice a nn c,.slice none 0 0],124)] [] [(fun V=>Rd V (.slice a1 n1 c1) m1 (.slice d1 e1 f1) ((x:Rat))),(fun V=>Rd V (.slice a5 n5 c5) m5 (.slice d5 e5 f5) ((lf:Rat)))]from(AE.out.call hb)) (fun _ hX=>⟨hX.c 1 0,hX.c 1 1,hX.c 1 2,hX.c 3 0,hX.c 3 1,trivial⟩) ?_;intro BF AH AA;clear AB Kq AE hb AQ;try simp only [zP]
  refine wpAnyH_take (i:=6) (oi:=⟨_,_,_,_,_,_⟩) (v:= .bool false) rfl (by kernel_rfl) (by kernel_rfl) (by kernel_rfl) (fun _ _ _ h=>by cases h.1) (Or.inl ⟨by rfl,?_⟩) AA ?_
  ·exact mTp7b_1
  try simp only [zP]
  refine wpAnyH_take (i:=7) (oi:=⟨_,_,_,_,_,_⟩) (v:=?_) rfl (by kernel_rfl) (by kernel_rfl) (by kernel_rfl) (fun _ _ _ h=>by cases h.1) (Or.inl ⟨by rfl,?_⟩) AA ?_;rotate_left
  ·intro wS AC;(try dsimp only at AC);go_simp;try with_reducible rfl
  try simp only [zP]
  refine wpAnyH_take (i:=8) (oi:=⟨_,_,_,_,_,_⟩) (v:=?_) rfl (by kernel_rfl) (by kernel_rfl) (by kernel_rfl) (fun _ _ _ h=>by cases h.1) (Or.inl ⟨by rfl,?_⟩) AA ?_;rotate_left
  ·intro wS AC;(try dsimp only at AC);go_simp;try with_reducible rfl
  try simp only [zP]
  refine wpAnyH_take (i:=9) (oi:=⟨_,_,_,_,_,_⟩) (v:=?_) rfl (by kernel_rfl) (by kernel_rfl) (by kernel_rfl) (fun _ _ _ h=>by cases h.1) (Or.inl ⟨by rfl,?_⟩) AA ?_;rotate_left
  ·intro wS AC;(try dsimp only at AC);go_simp;try with_reducible rfl
  try simp only [zP]
  refine wpAnyH_take (i:=10) (oi:=⟨_,_,_,_,_,_⟩) (v:=?_) rfl (by kernel_rfl) (by kernel_rfl) (by kernel_rfl) (fun _ _ _ h=>by cases h.1) (Or.inl ⟨by rfl,?_⟩) AA ?_;rotate_left
  ·intro wS AC;(try dsimp only at AC);go_simp;try with_reducible rfl
  try simp only [zP]
  refine rdy1 11 rfl (fun Kq AB=>?_);go_simp;go_at_call 48;refine(Af.out _ AH.out.be).mono ?_;rintro e wT ⟨rfl,hb⟩;(try go_wp2_with fail);refine stepZ AB (show Sy w _ [(b1,#[.slice a nn c,.slice none 0 0],65),(b2,#[.slice a1 n1 c1,.bool m1,.slice d1 e1 f1],72),(b3,zR,72),(b4,#[.slice a nn c,.slice none 0 0],124)] [] [(fun V=>Rd V (.slice a1 n1 c1) m1 (.slice d1 e1 f1) ((x:Rat))),(fun V=>Rd V (.slice a5 n5 c5) m5 (.slice d5 e5 f5) ((lf:Rat)))]from(AH.out.call hb)) (fun _ hX=>⟨hX.c 1 0,hX.c 1 1,hX.c 1 2,hX.c 3 0,hX.c 3 1,trivial⟩) ?_;intro BG AK A0;clear AB Kq AH hb AA;try simp only [zP]
  refine rdy1 12 rfl (fun Kq AB=>?_);go_simp;go_at_call 46;refine(BA.out _).mono ?_;rintro e wT ⟨a6,n6,c6,m6,d6,e6,f6,rfl,hz,hb⟩;(try go_wp2_with fail);refine stepZ AB (show Sy w _ [(b1,#[.slice a nn c,.slice none 0 0],65),(b2,#[.slice a1 n1 c1,.bool m1,.slice d1 e1 f1],72),(b3,zR,72),(b4,#[.slice a nn c,.slice none 0 0],124)] [] [(fun V=>Rd V (.slice a1 n1 c1) m1 (.slice d1 e1 f1) ((x:Rat))),(fun V=>Rd V (.slice a5 n5 c5) m5 (.slice d5 e5 f5) ((lf:Rat))),(fun V=>Rd V (.slice a6 n6 c6) m6 (.slice d6 e6 f6) ((rt:Rat)))]from((AK.out.call hb).pR rfl rfl hz)) (fun _ hX=>⟨hX.c 1 0,hX.c 1 1,hX.c 1 2,hX.c 3 0,hX.c 3 1,trivial⟩) ?_;intro BU AL Aj;clear AB Kq AK hb hz A0;try simp only [zP]
  refine rdy1 13 rfl (fun Kq AB=>?_);go_simp;go_at_call 19;refine(hcmp_is (AL.out.r 0 rfl) (AL.out.r 2 rfl) BX.out BR.out (by omega) (by omega) BB.out).mono ?_;rintro e wT ⟨rfl,hb⟩;(try go_wp2_with fail);refine stepZ AB (show Sy w _ [(b1,#[.slice a nn c,.slice none 0 0],65),(b2,#[.slice a1 n1 c1,.bool m1,.slice d1 e1 f1],72),(b3,zR,72),(b4,#[.slice a nn c,.slice none 0 0],124)] [] [(fun V=>Rd V (.slice a1 n1 c1) m1 (.slice d1 e1 f1) ((x:Rat))),(fun V=>Rd V (.slice a5 n5 c5) m5 (.slice d5 e5 f5) ((lf:Rat))),(fun V=>Rd V (.slice a6 n6 c6) m6 (.slice d6 e6 f6) ((rt:Rat)))]from(AL.out.call hb)) (fun _ hX=>⟨hX.c 1 0,hX.c 1 1,hX.c 1 2,hX.c 3 0,hX.c 3 1,trivial⟩) ?_;intro BV A1 AR;clear AB Kq AL hb Aj;try simp only [zP]
  refine wpAnyH_take (i:=14) (oi:=⟨_,_,_,_,_,_⟩) (v:= .bool false) rfl (by kernel_rfl) (by kernel_rfl) (by kernel_rfl) (fun _ _ _ h=>by cases h.1) (Or.inl ⟨by rfl,?_⟩) AR ?_
  ·exact mTp7b_1
  try simp only [zP]
  refine wpAnyH_take (i:=15) (oi:=⟨_,_,_,_,_,_⟩) (v:=?_) rfl (by kernel_rfl) (by kernel_rfl) (by kernel_rfl) (fun _ _ _ h=>by cases h.1) (Or.inl ⟨by rfl,?_⟩) AR ?_;rotate_left
  ·intro wS AC;(try dsimp only at AC);go_simp;try with_reducible rfl
  try simp only [zP]
  refine rdy1 16 rfl (fun Kq AB=>?_);go_simp;refine stepZ AB (show Sy w _ [(b1,#[.slice a nn c,.slice none 0 0],65),(b2,#[.slice a1 n1 c1,.bool m1,.slice d1 e1 f1],72),(b3,zR,72),(b4,#[.slice a nn c,.slice none 0 0],124)] [] [(fun V=>Rd V (.slice a1 n1 c1) m1 (.slice d1 e1 f1) ((x:Rat))),(fun V=>Rd V (.slice a5 n5 c5) m5 (.slice d5 e5 f5) ((lf:Rat))),(fun V=>Rd V (.slice a6 n6 c6) m6 (.slice d6 e6 f6) ((rt:Rat)))]from A1.out) (fun _ hX=>⟨hX.c 1 0,hX.c 1 1,hX.c 1 2,hX.c 3 0,hX.c 3 1,trivial⟩) ?_;intro BW Ak BP;clear AB Kq A1 AR;try simp only [zP]
  refine wpAnyH_done (by kernel_rfl) ?_ _;exact⟨rfl,ζ ⟨_,_,_,_,_,_,_,_,_,_,_,_,_,_,_,_,rfl,Ak.out.pick [0] rfl⟩⟩
 case rest=>
  rintro e a' W' ⟨rfl,h⟩;obtain ⟨v31,v32,v33,v34,v35,v36,v37,v38,v39,v40,v41,v42,v43,v44,v45,v46,rfl,hz⟩:=h.out;have hZ:=ζ hz;clear h hz AF;have AZ:=hZ.out.c 3 0;have A8:=hZ.out.c 3 1;have BH:=hZ.out.c 1 0;have BI:=hZ.out.c 1 1;have BJ:=hZ.out.c 1 2
  gi_wp2_with fail
  refine⟨trivial,fun _=>by omega,(BT.out _ (n - 1) (by omega) hZ.out.be a1 n1 c1 m1 d1 e1 f1 (hZ.out.r 0 rfl)).mono ?_⟩;rintro e w6 ⟨a4,n4,c4,m4,d4,e4,f4,rfl,hz,hb⟩;have A2:=ζ ((hZ.out.call hb).pR rfl rfl hz);clear hb hz hZ AZ A8 BH BI BJ;have AZ:=A2.out.c 3 0;have A8:=A2.out.c 3 1;have lb:=World.block_lt_of_cell? _ _ AZ;dsimp only at lb
  gi_wp2_with fail
  refine⟨trivial,fun _=>by omega,(psite_in _ (n - 1) a nn c 2).mono ?_⟩;rintro e w7 ⟨rfl,rfl⟩
  gi_wp2_with fail
  clear AZ A8 lb;have Av:=ζ (((A2.out.al w6.heap.size #[.slice a4 n4 c4,.bool m4,.slice d4 e4 f4] 72 rfl).row (o:= .cells #[.slice a nn c,.slice none 0 0] 124)).row (o:= .cells #[.int .u8 2] (5)));obtain ⟨W9,Ax⟩:∃W9,(((w6.alloc (.cells #[.slice a4 n4 c4,.bool m4,.slice d4 e4 f4] 72)).alloc (.cells #[.slice a nn c,.slice none 0 0] 124)).alloc (.cells #[.int .u8 2] (5)))=W9:=⟨_,rfl⟩
  have hsz:W9.heap.size=w6.heap.size+1+1+1:=by rw [<-Ax];simp
  have hnew:W9.heap[w6.heap.size+1]? =some (.cells #[.slice a nn c,.slice none 0 0] 124 (0,0)):=by
   rw [<-Ax];refine(Below.heap_alloc _ _ _ (by simp)).trans ?_;have:=World.alloc_heap_new (w6.alloc (.cells #[.slice a4 n4 c4,.bool m4,.slice d4 e4 f4] 72)) (.cells #[.slice a nn c,.slice none 0 0] 124);rwa [World.size_alloc]at this
  rw [Ax]at Av⊢;have hlt:b4 < w6.heap.size:=A2.out.lt 3 rfl;have hlt1:b1 < w6.heap.size:=A2.out.lt 0 rfl;have hlt2:b2 < w6.heap.size:=A2.out.lt 1 rfl;have hlt3:b3 < w6.heap.size:=A2.out.lt 2 rfl;obtain ⟨b5,hb5⟩:∃b,w6.heap.size=b:=⟨_,rfl⟩
  rw [hb5]at hsz hnew hlt hlt1 hlt2 hlt3⊢;have BK:Hid (Sy w W9 [(b1,#[.slice a nn c,.slice none 0 0],65),(b2,#[.slice a1 n1 c1,.bool m1,.slice d1 e1 f1],72),(b3,zR,72),(b4,#[.slice a nn c,.slice none 0 0],124),(b5,#[.slice a4 n4 c4,.bool m4,.slice d4 e4 f4],72)] [] []/\Rd W9 (.slice a4 n4 c4) m4 (.slice d4 e4 f4) (grd l x)):=ζ (by rw [<-hb5];exact⟨Av.out.pick [] rfl,Av.out.r 1 rfl⟩);have hle:w.heap.size<=W9.heap.size:=BK.out.1.be.size;have hc1:W9.cell? ⟨b5+1,1,none⟩=some (.slice none 0 0):=by simp [World.cell?,hnew]
  have HZ:=ζ (show W9.heap.size=b5+1+1+1/\b1 < b5/\b2 < b5/\b3 < b5/\b4 < b5 from⟨hsz,hlt1,hlt2,hlt3,hlt⟩);clear Av Ax hb5 hnew hsz hlt hlt1 hlt2 hlt3 A2;refine wpIn_rangeFunc_at (gf:=106) (lb:=#[.pointer (some ⟨b5+1,0,none⟩),.pointer (some ⟨b5+1+1,0,none⟩)]) (w0:=W9) (by omega) rfl (enters_of Tryz.func106 (by kernel_rfl) rfl)
   (site1_at (n - 1) (b5+1) (b5+1+1) W9 [] hc1) (Below.refl _ _) (fun _=>rfl)
   keepsC_t (fun W k o o' _ hl ho=>keepsC_p W k o o' hl ho)
   (fun _ W=>Hid (Sy w W [(b1,#[.slice a nn c,.slice none 0 0],65),(b2,#[.slice a1 n1 c1,.bool m1,.slice d1 e1 f1],72),(b3,zR,72),(b4,#[.slice a nn c,.slice none 0 0],124),(b5,#[.slice a4 n4 c4,.bool m4,.slice d4 e4 f4],72)] [] []/\Rd W (.slice a4 n4 c4) m4 (.slice d4 e4 f4) (grd l x)))
   (fun s A B hs hAB=>ζ ⟨hs.out.1.call hAB,hs.out.2.keep (Below.keeps hAB)⟩)
   (fun s W k o o' hs hk hl ho=>ζ ⟨hs.out.1.put (Nat.le_trans hle hk) hl ho,hs.out.2.putObj k o o' hl ho⟩)
   BK (fun _ _ _=>False) (fun x a' W k o o' hA hl ho=>hA)
   (fun lr pre x W K hi hx hK=>hx.elim) (fun lr pre x a' W hi hA=>hA.elim) ?done
  case done=>
   rintro D xs W hD hxs hi hdef;have hS:=ζ ((hi.out.1.pR rfl rfl hi.out.2).push (r:=fun V=>Away [b1,b2,b3,b4,b5] W V) (fun V hV=>hV));have BQ:=ζ hdef;have HD:=ζ hD;clear hi hdef hxs hD BK hc1;have BM:=hS.out.c 4 0;have BN:=hS.out.c 4 1;have BO:=hS.out.c 4 2;have A9:=hS.out.c 2 0;have AS:=hS.out.f 2 0;have Ab:=hS.out.c 2 1;have AT:=hS.out.f 2 1;have Ac:=hS.out.c 2 2;have AU:=hS.out.f 2 2
   gi_wp2
   have hT:=ζ (hS.out|>.set (j:=0) (v:= .slice a4 n4 c4) 2 rfl|>.set (j:=1) (v:= .bool m4) 2 rfl|>.set (j:=2) (v:= .slice d4 e4 f4) 2 rfl);obtain ⟨WE,hWE⟩:∃WE,(((W.setCell ⟨b3,0,none⟩ (.slice a4 n4 c4)).setCell ⟨b3,1,none⟩ (.bool m4)).setCell ⟨b3,2,none⟩ (.slice d4 e4 f4))=WE:=⟨_,rfl⟩
   rw [hWE]at hT⊢;clear hWE BM A9 AS BN Ab AT BO Ac AU hS;have hdf:WE.heap[D]? =some (.deferred (some [])):=by
    refine((hT.out.r 1 rfl).2 D (Array.getElem?_eq_some_iff.1 BQ.out).1 (fun hm=>?_)).trans BQ.out;simp at hm;have:=HZ.out;have:=HD.out;omega
   have hY:=(hT.out.pick [] rfl).put (o':= .deferred none) (show w.heap.size<=D from Nat.le_trans hle HD.out) hdf rfl;refine⟨by simp,.inl ⟨_,_,rfl,run_takeDeferred hdf,?_⟩⟩;have q0:=hY.c 2 0;have q1:=hY.c 2 1;have q2:=hY.c 2 2;exact⟨_,by simp [results,Tryz.results16,go_sem,q0,q1,q2],a4,n4,c4,m4,d4,e4,f4,rfl,(hT.out.r 0 rfl).putObj D _ _ hdf rfl,hY.be⟩
theorem int_bq64 {k:Int} (h: -9223372036854775808<=k/\k<=9223372036854775807):Bq 65 (k:Rat):=Bq.int (n:=64) (by unfold Bd;omega)
theorem cmp_lt {a b:Int} (h:a < b):cmpQ (a:Rat) (b:Rat) < 0:=by
 unfold cmpQ;rw [if_neg (fun e=>by rw [Rat.intCast_inj]at e;omega),if_pos (Rat.intCast_lt_intCast.2 h)];omega
theorem cmp_gt {a b:Int} (h:b < a):0 < cmpQ (a:Rat) (b:Rat):=by
 unfold cmpQ;rw [if_neg (fun e=>by rw [Rat.intCast_inj]at e;omega),if_neg (fun e=>by have:=Rat.intCast_lt_intCast.1 e;omega)];omega
theorem pheight2_out (n:Nat) (hn:6<=n) (a:OA) (nn c:Nat) (l:List Pt) (x:Int) (a1:OA) (n1 c1:Nat) (m1:Bool) (d1:OA) (e1 f1:Nat) (hp:profB l=true) (hP:Prof l) (hs:Sx 2 w a nn c (L2 l)) (hx:Rd w (.slice a1 n1 c1) m1 (.slice d1 e1 f1) ((x:Rat))) (hxb: -9223372036854775808<=x/\x<=9223372036854775807) (h1:¬ (hX l 0<=x/\x<=hX l (l.length - 1))):
  CallsIn Fence.wide n Tryz.prog 16 #[.agg #[.slice a nn c,.slice none 0 0],.int .u8 2,.agg #[.slice a1 n1 c1,.bool m1,.slice d1 e1 f1]] w (RetHO w):=by
 have HX:=ζ hx;have hn0:0 < nn:=by have:=hs.n2;have:=hP.two;omega
 have Ad:=ζ (fun W (hW:Below w.heap.size w W)=>pleft_any W a nn c l (hs.below hW) hn0);have Af:=ζ (fun W (hW:Below w.heap.size w W)=>pright_any W a nn c l (hs.below hW) hn0);have Az:=ζ (fun W (hW:Below w.heap.size w W)=>plaid_any W a nn c l (hs.below hW) hp);have g3:=hP.bx (i:=0) (by have:=hP.two;omega);have g4:=hP.bx (i:=l.length - 1) (by have:=hP.two;omega);obtain ⟨lf,hlf⟩:∃k,hX l 0=k:=⟨_,rfl⟩
 obtain ⟨rt,hrt⟩:∃k,hX l (l.length - 1)=k:=⟨_,rfl⟩
 rw [hlf]at h1 g3 Ad;rw [hrt]at h1 g4 Af;have BX:=ζ (int_bq64 (k:=x) hxb);have BL:=ζ (int_bq (k:=lf) (by omega));have BR:=ζ (int_bq (k:=rt) (by omega));have Ar:=ζ (fun W=>pof_any W lf (by omega));have BA:=ζ (fun W=>pof_any W rt (by omega));obtain ⟨v1,hv1⟩:∃v,cmpQ (x:Rat) (lf:Rat)=v:=⟨_,rfl⟩
 obtain ⟨v2,hv2⟩:∃v,cmpQ (x:Rat) (rt:Rat)=v:=⟨_,rfl⟩
 have hvv:v1 < 0\/(¬ v1 < 0/\0 < v2):=by
  by_cases hc:lf<=x
  ·exact .inr ⟨by rw [<-hv1];exact cmp_not_lt hc,by rw [<-hv2];exact cmp_gt (by omega)⟩
  ·exact .inl (by rw [<-hv1];exact cmp_lt (by omega))
 have As:=ζ hv1;have BB:=ζ hv2;clear hs hx hP h1 hxb hn0 g3 g4 hlf hrt hp hv1 hv2;refine callsIn_of_wp_marks Tryz.func16 rfl trivial ?_ rfl;simp only [Tryz.ntmps16,List.size_toArray,List.length_cons,List.length_nil,Nat.reduceAdd,Nat.reduceSub,Array.replicate_succ,Array.replicate_zero,List.push_toArray,List.append_toArray,List.nil_append,List.cons_append];have A6:=ζ ((((Sy.enter w).al w.heap.size #[.slice a nn c,.slice none 0 0] 65 rfl).al (w.heap.size+1) #[.slice a1 n1 c1,.bool m1,.slice d1 e1 f1] 72 (by simp)).al (w.heap.size+1+1) zR 72 (by simp))
 gi_wp2_with fail
 refine⟨trivial,fun _=>by omega,(callsIn_wide.2 (Az.out _ A6.out.be)).mono ?_⟩;rintro e w3 ⟨rfl,hb⟩;have A7:=ζ (A6.out.call hb);clear hb A6;have x0:=A7.out.c 0 0
 gi_wp2_with fail
 have AY:=ζ ((A7.out.al w3.heap.size #[.slice a nn c,.slice none 0 0] 124 rfl));obtain ⟨W0,Ag⟩:∃W0,w3.alloc (.cells #[.slice a nn c,.slice none 0 0] 124)=W0:=⟨_,rfl⟩
 rw [Ag]at AY⊢;obtain ⟨b4,hb4⟩:∃b,w3.heap.size=b:=⟨_,rfl⟩
 obtain ⟨b3,hb3⟩:∃b,w.heap.size+1+1=b:=⟨_,rfl⟩
 obtain ⟨b2,hb2⟩:∃b,w.heap.size+1=b:=⟨_,rfl⟩
 obtain ⟨b1,hb1⟩:∃b,w.heap.size=b:=⟨_,rfl⟩
 have AF:Hid (Sy w W0 [(b1,#[.slice a nn c,.slice none 0 0],65),(b2,#[.slice a1 n1 c1,.bool m1,.slice d1 e1 f1],72),(b3,zR,72),(b4,#[.slice a nn c,.slice none 0 0],124)] [] [(fun V=>Rd V (.slice a1 n1 c1) m1 (.slice d1 e1 f1) ((x:Rat)))]):=ζ (by rw [<-hb4,<-hb3,<-hb2,<-hb1];exact AY.out.pR rfl rfl (HX.out.keep (Below.keeps AY.out.be)));rw [hb4,hb3,hb2,hb1];clear A7 AY Ag x0 hb4 hb3 hb2 hb1;rcases hvv with hvv | ⟨hvn,hvv⟩
 ·refine wpIn_mono (Q:=fun e a' W'=>e= .normal/\Hid (∃v31 v32 v33 v34 v35 v36 v37 v38 v39 v40 v41 v42 v43 v44 v45 v46:Value,a'= { tmps:=#[.agg #[.slice a nn c,.slice none 0 0],.int .u8 2,.agg #[.slice a1 n1 c1,.bool m1,.slice d1 e1 f1],.pointer (some ⟨b1,0,none⟩),undef,.pointer (some ⟨b2,0,none⟩),.pointer (some ⟨b3,0,none⟩),.int .i64 0,.pointer (some ⟨b4,0,none⟩),.int .i64 0,undef,undef,.tuple #[.agg #[.slice a nn c,.slice none 0 0],.int .i64 0],.agg #[.slice a nn c,.slice none 0 0],.tuple #[.agg #[.slice a nn c,.slice none 0 0],.int .i64 0],.agg #[.slice a nn c,.slice none 0 0],.int .i64 0,.bool false,.int .i64 0,.bool false,undef,undef,.bool false,.int .u8 2,.bool true,.bool true,.int .u8 2,.bool false,.bool false,undef,.bool true,v31,v32,v33,v34,v35,v36,v37,v38,v39,v40,v41,v42,v43,v44,v45,v46,undef,undef,undef,undef,undef,undef,undef,undef,undef,undef,undef,undef,undef,undef,undef,undef,undef,undef,undef,undef,undef,undef,undef,undef,undef,undef,undef,undef,undef,undef,undef,undef,undef],defers:=[] } /\Sy w W' [(b1,#[.slice a nn c,.slice none 0 0],65),(b2,#[.slice a1 n1 c1,.bool m1,.slice d1 e1 f1],72),(b3,zR,72),(b4,#[.slice a nn c,.slice none 0 0],124)] [] [(fun V=>Rd V (.slice a1 n1 c1) m1 (.slice d1 e1 f1) ((x:Rat)))])) ?reg ?rest
  case reg=>
   refine wpIn_region_wide (S:=(fun w'=>w'.cell? ⟨b2,0,none⟩=some (.slice a1 n1 c1)/\w'.cell? ⟨b2,1,none⟩=some (.bool m1)/\w'.cell? ⟨b2,2,none⟩=some (.slice d1 e1 f1)/\w'.cell? ⟨b4,0,none⟩=some (.slice a nn c)/\w'.cell? ⟨b4,1,none⟩=some (.slice none 0 0)/\True)) ?_ (by kernel_rfl) ⟨AF.out.drew.c 1 0,AF.out.drew.c 1 1,AF.out.drew.c 1 2,AF.out.drew.c 3 0,AF.out.drew.c 3 1,trivial⟩ (fun hH=>?_)
   ·kernel_rfl
   refine wpAnyH_geny (show Sy w _ [(b1,#[.slice a nn c,.slice none 0 0],65),(b2,#[.slice a1 n1 c1,.bool m1,.slice d1 e1 f1],72),(b3,zR,72),(b4,#[.slice a nn c,.slice none 0 0],124)] [] [(fun V=>Rd V (.slice a1 n1 c1) m1 (.slice d1 e1 f1) ((x:Rat)))]from AF.out.drew) hH ?_;intro BC hc AD;have AG:=ζ hc;clear hc hH AF;refine wpAnyH_take (i:=0) (oi:=⟨_,_,_,_,_,_⟩) (v:=?_) rfl (by kernel_rfl) (by kernel_rfl) (by kernel_rfl) (fun _ _ _ h=>by cases h.1) (Or.inl ⟨by rfl,?_⟩) AD ?_;rotate_left
   ·intro wS AC;(try dsimp only at AC);go_simp;try with_reducible rfl
   (try simp only [zP]);refine wpAnyH_take (i:=1) (oi:=⟨_,_,_,_,_,_⟩) (v:=?_) rfl (by kernel_rfl) (by kernel_rfl) (by kernel_rfl) (fun _ _ _ h=>by cases h.1) (Or.inl ⟨by rfl,?_⟩) AD ?_;rotate_left
   ·intro wS AC;(try dsimp only at AC);go_simp;try with_reducible rfl
   (try simp only [zP]);refine wpAnyH_take (i:=2) (oi:=⟨_,_,_,_,_,_⟩) (v:=?_) rfl (by kernel_rfl) (by kernel_rfl) (by kernel_rfl) (fun _ _ _ h=>by cases h.1) (Or.inl ⟨by rfl,?_⟩) AD ?_;rotate_left
   ·intro wS AC;(try dsimp only at AC);go_simp;try with_reducible rfl
   (try simp only [zP]);refine rdy1 3 rfl (fun Kq AB=>?_);go_simp;go_at_call 47;refine(Ad.out _ AG.out.be).mono ?_;rintro e wT ⟨rfl,hb⟩;(try go_wp2_with fail);refine stepZ AB (show Sy w _ [(b1,#[.slice a nn c,.slice none 0 0],65),(b2,#[.slice a1 n1 c1,.bool m1,.slice d1 e1 f1],72),(b3,zR,72),(b4,#[.slice a nn c,.slice none 0 0],124)] [] [(fun V=>Rd V (.slice a1 n1 c1) m1 (.slice d1 e1 f1) ((x:Rat)))]from(AG.out.call hb)) (fun _ hX=>⟨hX.c 1 0,hX.c 1 1,hX.c 1 2,hX.c 3 0,hX.c 3 1,trivial⟩) ?_;intro BD AJ AP;clear AB Kq AG hb AD;(try simp only [zP]);refine rdy1 4 rfl (fun Kq AB=>?_);go_simp;go_at_call 46;refine(Ar.out _).mono ?_;rintro e wT ⟨a5,n5,c5,m5,d5,e5,f5,rfl,hz,hb⟩;(try go_wp2_with fail);refine stepZ AB (show Sy w _ [(b1,#[.slice a nn c,.slice none 0 0],65),(b2,#[.slice a1 n1 c1,.bool m1,.slice d1 e1 f1],72),(b3,zR,72),(b4,#[.slice a nn c,.slice none 0 0],124)] [] [(fun V=>Rd V (.slice a1 n1 c1) m1 (.slice d1 e1 f1) ((x:Rat))),(fun V=>Rd V (.slice a5 n5 c5) m5 (.slice d5 e5 f5) ((lf:Rat)))]from((AJ.out.call hb).pR rfl rfl hz)) (fun _ hX=>⟨hX.c 1 0,hX.c 1 1,hX.c 1 2,hX.c 3 0,hX.c 3 1,trivial⟩) ?_;intro BE AE AQ;clear AB Kq AJ hb hz AP;(try simp only [zP]);refine rdy1 5 rfl (fun Kq AB=>?_);go_simp;go_at_call 19;refine(hcmp_is (AE.out.r 0 rfl) (AE.out.r 1 rfl) BX.out BL.out (by omega) (by omega) As.out).mono ?_;rintro e wT ⟨rfl,hb⟩;(try go_wp2_with fail);refine stepZ AB (show Sy w _ [(b1,#[.slice a nn c,.slice none 0 0],65),(b2,#[.slice a1 n1 c1,.bool m1,.slice d1 e1 f1],72),(b3,zR,72),(b4,#[.slice a nn c,.slice none 0 0],124)] [] [(fun V=>Rd V (.slice a1 n1 c1) m1 (.slice d1 e1 f1) ((x:Rat))),(fun V=>Rd V (.slice a5 n5 c5) m5 (.slice d5 e5 f5) ((lf:Rat)))]from(AE.out.call hb)) (fun _ hX=>⟨hX.c 1 0,hX.c 1 1,hX.c 1 2,hX.c 3 0,hX.c 3 1,trivial⟩) ?_;intro BF AH AA;clear AB Kq AE hb AQ;(try simp only [zP]);refine wpAnyH_take (i:=6) (oi:=⟨_,_,_,_,_,_⟩) (v:= .bool true) rfl (by kernel_rfl) (by kernel_rfl) (by kernel_rfl) (fun _ _ _ h=>by cases h.1) (Or.inl ⟨by rfl,?_⟩) AA ?_
   ·exact mTp7b_1
   (try simp only [zP]);refine wpAnyH_take (i:=7) (oi:=⟨_,_,_,_,_,_⟩) (v:=?_) rfl (by kernel_rfl) (by kernel_rfl) (by kernel_rfl) (fun _ _ _ h=>by cases h.1) (Or.inl ⟨by rfl,?_⟩) AA ?_;rotate_left
   ·intro wS AC;(try dsimp only at AC);go_simp;try with_reducible rfl
   (try simp only [zP]);refine wpAnyH_take (i:=8) (oi:=⟨_,_,_,_,_,_⟩) (v:=undef) rfl (by kernel_rfl) (by kernel_rfl) (by kernel_rfl) (fun _ _ _ h=>by cases h.1) (Or.inr ⟨by rfl,rfl⟩) AA ?_;(try simp only [zP]);refine wpAnyH_take (i:=9) (oi:=⟨_,_,_,_,_,_⟩) (v:=undef) rfl (by kernel_rfl) (by kernel_rfl) (by kernel_rfl) (fun _ _ _ h=>by cases h.1) (Or.inr ⟨by rfl,rfl⟩) AA ?_;(try simp only [zP]);refine wpAnyH_take (i:=10) (oi:=⟨_,_,_,_,_,_⟩) (v:=undef) rfl (by kernel_rfl) (by kernel_rfl) (by kernel_rfl) (fun _ _ _ h=>by cases h.1) (Or.inr ⟨by rfl,rfl⟩) AA ?_;(try simp only [zP]);refine wpAnyH_take (i:=11) (oi:=⟨_,_,_,_,_,_⟩) (v:=undef) rfl (by kernel_rfl) (by kernel_rfl) (by kernel_rfl) (fun _ _ _ h=>by cases h.1) (Or.inr ⟨by rfl,rfl⟩) AA ?_;(try simp only [zP]);refine wpAnyH_take (i:=12) (oi:=⟨_,_,_,_,_,_⟩) (v:=undef) rfl (by kernel_rfl) (by kernel_rfl) (by kernel_rfl) (fun _ _ _ h=>by cases h.1) (Or.inr ⟨by rfl,rfl⟩) AA ?_;(try simp only [zP]);refine wpAnyH_take (i:=13) (oi:=⟨_,_,_,_,_,_⟩) (v:=undef) rfl (by kernel_rfl) (by kernel_rfl) (by kernel_rfl) (fun _ _ _ h=>by cases h.1) (Or.inr ⟨by rfl,rfl⟩) AA ?_;(try simp only [zP]);refine wpAnyH_take (i:=14) (oi:=⟨_,_,_,_,_,_⟩) (v:=undef) rfl (by kernel_rfl) (by kernel_rfl) (by kernel_rfl) (fun _ _ _ h=>by cases h.1) (Or.inr ⟨by rfl,rfl⟩) AA ?_;(try simp only [zP]);refine wpAnyH_take (i:=15) (oi:=⟨_,_,_,_,_,_⟩) (v:=?_) rfl (by kernel_rfl) (by kernel_rfl) (by kernel_rfl) (fun _ _ _ h=>by cases h.1) (Or.inl ⟨by rfl,?_⟩) AA ?_;rotate_left
   ·intro wS AC;(try dsimp only at AC);go_simp;try with_reducible rfl
   (try simp only [zP]);refine rdy1 16 rfl (fun Kq AB=>?_);go_simp;refine stepZ AB (show Sy w _ [(b1,#[.slice a nn c,.slice none 0 0],65),(b2,#[.slice a1 n1 c1,.bool m1,.slice d1 e1 f1],72),(b3,zR,72),(b4,#[.slice a nn c,.slice none 0 0],124)] [] [(fun V=>Rd V (.slice a1 n1 c1) m1 (.slice d1 e1 f1) ((x:Rat))),(fun V=>Rd V (.slice a5 n5 c5) m5 (.slice d5 e5 f5) ((lf:Rat)))]from AH.out) (fun _ hX=>⟨hX.c 1 0,hX.c 1 1,hX.c 1 2,hX.c 3 0,hX.c 3 1,trivial⟩) ?_;intro BG AK A0;clear AB Kq AH AA;(try simp only [zP]);refine wpAnyH_done (by kernel_rfl) ?_ _;exact⟨rfl,ζ ⟨_,_,_,_,_,_,_,_,_,_,_,_,_,_,_,_,rfl,AK.out.pick [0] rfl⟩⟩
  case rest=>
   exact mTp7b_0
 ·refine wpIn_mono (Q:=fun e a' W'=>e= .normal/\Hid (∃v31 v32 v33 v34 v35 v36 v37 v38 v39 v40 v41 v42 v43 v44 v45 v46:Value,a'= { tmps:=#[.agg #[.slice a nn c,.slice none 0 0],.int .u8 2,.agg #[.slice a1 n1 c1,.bool m1,.slice d1 e1 f1],.pointer (some ⟨b1,0,none⟩),undef,.pointer (some ⟨b2,0,none⟩),.pointer (some ⟨b3,0,none⟩),.int .i64 0,.pointer (some ⟨b4,0,none⟩),.int .i64 0,undef,undef,.tuple #[.agg #[.slice a nn c,.slice none 0 0],.int .i64 0],.agg #[.slice a nn c,.slice none 0 0],.tuple #[.agg #[.slice a nn c,.slice none 0 0],.int .i64 0],.agg #[.slice a nn c,.slice none 0 0],.int .i64 0,.bool false,.int .i64 0,.bool false,undef,undef,.bool false,.int .u8 2,.bool true,.bool true,.int .u8 2,.bool false,.bool false,undef,.bool true,v31,v32,v33,v34,v35,v36,v37,v38,v39,v40,v41,v42,v43,v44,v45,v46,undef,undef,undef,undef,undef,undef,undef,undef,undef,undef,undef,undef,undef,undef,undef,undef,undef,undef,undef,undef,undef,undef,undef,undef,undef,undef,undef,undef,undef,undef,undef,undef,undef],defers:=[] } /\Sy w W' [(b1,#[.slice a nn c,.slice none 0 0],65),(b2,#[.slice a1 n1 c1,.bool m1,.slice d1 e1 f1],72),(b3,zR,72),(b4,#[.slice a nn c,.slice none 0 0],124)] [] [(fun V=>Rd V (.slice a1 n1 c1) m1 (.slice d1 e1 f1) ((x:Rat)))])) ?reg ?rest
  case reg=>
   refine wpIn_region_wide (S:=(fun w'=>w'.cell? ⟨b2,0,none⟩=some (.slice a1 n1 c1)/\w'.cell? ⟨b2,1,none⟩=some (.bool m1)/\w'.cell? ⟨b2,2,none⟩=some (.slice d1 e1 f1)/\w'.cell? ⟨b4,0,none⟩=some (.slice a nn c)/\w'.cell? ⟨b4,1,none⟩=some (.slice none 0 0)/\True)) ?_ (by kernel_rfl) ⟨AF.out.drew.c 1 0,AF.out.drew.c 1 1,AF.out.drew.c 1 2,AF.out.drew.c 3 0,AF.out.drew.c 3 1,trivial⟩ (fun hH=>?_)
   ·kernel_rfl
   refine wpAnyH_geny (show Sy w _ [(b1,#[.slice a nn c,.slice none 0 0],65),(b2,#[.slice a1 n1 c1,.bool m1,.slice d1 e1 f1],72),(b3,zR,72),(b4,#[.slice a nn c,.slice none 0 0],124)] [] [(fun V=>Rd V (.slice a1 n1 c1) m1 (.slice d1 e1 f1) ((x:Rat)))]from AF.out.drew) hH ?_;intro BY hc AM;have AV:=ζ hc;clear hc hH AF;refine wpAnyH_take (i:=0) (oi:=⟨_,_,_,_,_,_⟩) (v:=?_) rfl (by kernel_rfl) (by kernel_rfl) (by kernel_rfl) (fun _ _ _ h=>by cases h.1) (Or.inl ⟨by rfl,?_⟩) AM ?_;rotate_left
   ·intro wS AC;(try dsimp only at AC);go_simp;try with_reducible rfl
   (try simp only [zP]);refine wpAnyH_take (i:=1) (oi:=⟨_,_,_,_,_,_⟩) (v:=?_) rfl (by kernel_rfl) (by kernel_rfl) (by kernel_rfl) (fun _ _ _ h=>by cases h.1) (Or.inl ⟨by rfl,?_⟩) AM ?_;rotate_left
   ·intro wS AC;(try dsimp only at AC);go_simp;try with_reducible rfl
   (try simp only [zP]);refine wpAnyH_take (i:=2) (oi:=⟨_,_,_,_,_,_⟩) (v:=?_) rfl (by kernel_rfl) (by kernel_rfl) (by kernel_rfl) (fun _ _ _ h=>by cases h.1) (Or.inl ⟨by rfl,?_⟩) AM ?_;rotate_left
   ·intro wS AC;(try dsimp only at AC);go_simp;try with_reducible rfl
   (try simp only [zP]);refine rdy1 3 rfl (fun Kq AB=>?_);go_simp;go_at_call 47;refine(Ad.out _ AV.out.be).mono ?_;rintro e wT ⟨rfl,hb⟩;(try go_wp2_with fail);refine stepZ AB (show Sy w _ [(b1,#[.slice a nn c,.slice none 0 0],65),(b2,#[.slice a1 n1 c1,.bool m1,.slice d1 e1 f1],72),(b3,zR,72),(b4,#[.slice a nn c,.slice none 0 0],124)] [] [(fun V=>Rd V (.slice a1 n1 c1) m1 (.slice d1 e1 f1) ((x:Rat)))]from(AV.out.call hb)) (fun _ hX=>⟨hX.c 1 0,hX.c 1 1,hX.c 1 2,hX.c 3 0,hX.c 3 1,trivial⟩) ?_;intro BZ A3 Al;clear AB Kq AV hb AM;(try simp only [zP]);refine rdy1 4 rfl (fun Kq AB=>?_);go_simp;go_at_call 46;refine(Ar.out _).mono ?_;rintro e wT ⟨a5,n5,c5,m5,d5,e5,f5,rfl,hz,hb⟩;(try go_wp2_with fail);refine stepZ AB (show Sy w _ [(b1,#[.slice a nn c,.slice none 0 0],65),(b2,#[.slice a1 n1 c1,.bool m1,.slice d1 e1 f1],72),(b3,zR,72),(b4,#[.slice a nn c,.slice none 0 0],124)] [] [(fun V=>Rd V (.slice a1 n1 c1) m1 (.slice d1 e1 f1) ((x:Rat))),(fun V=>Rd V (.slice a5 n5 c5) m5 (.slice d5 e5 f5) ((lf:Rat)))]from((A3.out.call hb).pR rfl rfl hz)) (fun _ hX=>⟨hX.c 1 0,hX.c 1 1,hX.c 1 2,hX.c 3 0,hX.c 3 1,trivial⟩) ?_;intro B0 AN Am;clear AB Kq A3 hb hz Al;(try simp only [zP]);refine rdy1 5 rfl (fun Kq AB=>?_);go_simp;go_at_call 19;refine(hcmp_is (AN.out.r 0 rfl) (AN.out.r 1 rfl) BX.out BL.out (by omega) (by omega) As.out).mono ?_;rintro e wT ⟨rfl,hb⟩;(try go_wp2_with fail);refine stepZ AB (show Sy w _ [(b1,#[.slice a nn c,.slice none 0 0],65),(b2,#[.slice a1 n1 c1,.bool m1,.slice d1 e1 f1],72),(b3,zR,72),(b4,#[.slice a nn c,.slice none 0 0],124)] [] [(fun V=>Rd V (.slice a1 n1 c1) m1 (.slice d1 e1 f1) ((x:Rat))),(fun V=>Rd V (.slice a5 n5 c5) m5 (.slice d5 e5 f5) ((lf:Rat)))]from(AN.out.call hb)) (fun _ hX=>⟨hX.c 1 0,hX.c 1 1,hX.c 1 2,hX.c 3 0,hX.c 3 1,trivial⟩) ?_;intro B1 AW AI;clear AB Kq AN hb Am;(try simp only [zP]);refine wpAnyH_take (i:=6) (oi:=⟨_,_,_,_,_,_⟩) (v:= .bool false) rfl (by kernel_rfl) (by kernel_rfl) (by kernel_rfl) (fun _ _ _ h=>by cases h.1) (Or.inl ⟨by rfl,?_⟩) AI ?_
   ·exact mTp7b_1
   (try simp only [zP]);refine wpAnyH_take (i:=7) (oi:=⟨_,_,_,_,_,_⟩) (v:=?_) rfl (by kernel_rfl) (by kernel_rfl) (by kernel_rfl) (fun _ _ _ h=>by cases h.1) (Or.inl ⟨by rfl,?_⟩) AI ?_;rotate_left
   ·intro wS AC;(try dsimp only at AC);go_simp;try with_reducible rfl
   (try simp only [zP]);refine wpAnyH_take (i:=8) (oi:=⟨_,_,_,_,_,_⟩) (v:=?_) rfl (by kernel_rfl) (by kernel_rfl) (by kernel_rfl) (fun _ _ _ h=>by cases h.1) (Or.inl ⟨by rfl,?_⟩) AI ?_;rotate_left
   ·intro wS AC;(try dsimp only at AC);go_simp;try with_reducible rfl
   (try simp only [zP]);refine wpAnyH_take (i:=9) (oi:=⟨_,_,_,_,_,_⟩) (v:=?_) rfl (by kernel_rfl) (by kernel_rfl) (by kernel_rfl) (fun _ _ _ h=>by cases h.1) (Or.inl ⟨by rfl,?_⟩) AI ?_;rotate_left
   ·intro wS AC;(try dsimp only at AC);go_simp;try with_reducible rfl
   (try simp only [zP]);refine wpAnyH_take (i:=10) (oi:=⟨_,_,_,_,_,_⟩) (v:=?_) rfl (by kernel_rfl) (by kernel_rfl) (by kernel_rfl) (fun _ _ _ h=>by cases h.1) (Or.inl ⟨by rfl,?_⟩) AI ?_;rotate_left
   ·intro wS AC;(try dsimp only at AC);go_simp;try with_reducible rfl
   (try simp only [zP]);refine rdy1 11 rfl (fun Kq AB=>?_);go_simp;go_at_call 48;refine(Af.out _ AW.out.be).mono ?_;rintro e wT ⟨rfl,hb⟩;(try go_wp2_with fail);refine stepZ AB (show Sy w _ [(b1,#[.slice a nn c,.slice none 0 0],65),(b2,#[.slice a1 n1 c1,.bool m1,.slice d1 e1 f1],72),(b3,zR,72),(b4,#[.slice a nn c,.slice none 0 0],124)] [] [(fun V=>Rd V (.slice a1 n1 c1) m1 (.slice d1 e1 f1) ((x:Rat))),(fun V=>Rd V (.slice a5 n5 c5) m5 (.slice d5 e5 f5) ((lf:Rat)))]from(AW.out.call hb)) (fun _ hX=>⟨hX.c 1 0,hX.c 1 1,hX.c 1 2,hX.c 3 0,hX.c 3 1,trivial⟩) ?_;intro B2 A4 An;clear AB Kq AW hb AI;(try simp only [zP]);refine rdy1 12 rfl (fun Kq AB=>?_);go_simp;go_at_call 46;refine(BA.out _).mono ?_;rintro e wT ⟨a6,n6,c6,m6,d6,e6,f6,rfl,hz,hb⟩;(try go_wp2_with fail);refine stepZ AB (show Sy w _ [(b1,#[.slice a nn c,.slice none 0 0],65),(b2,#[.slice a1 n1 c1,.bool m1,.slice d1 e1 f1],72),(b3,zR,72),(b4,#[.slice a nn c,.slice none 0 0],124)] [] [(fun V=>Rd V (.slice a1 n1 c1) m1 (.slice d1 e1 f1) ((x:Rat))),(fun V=>Rd V (.slice a5 n5 c5) m5 (.slice d5 e5 f5) ((lf:Rat))),(fun V=>Rd V (.slice a6 n6 c6) m6 (.slice d6 e6 f6) ((rt:Rat)))]from((A4.out.call hb).pR rfl rfl hz)) (fun _ hX=>⟨hX.c 1 0,hX.c 1 1,hX.c 1 2,hX.c 3 0,hX.c 3 1,trivial⟩) ?_;intro B3 AO Ap;clear AB Kq A4 hb hz An;(try simp only [zP]);refine rdy1 13 rfl (fun Kq AB=>?_);go_simp;go_at_call 19;refine(hcmp_is (AO.out.r 0 rfl) (AO.out.r 2 rfl) BX.out BR.out (by omega) (by omega) BB.out).mono ?_;rintro e wT ⟨rfl,hb⟩;(try go_wp2_with fail);refine stepZ AB (show Sy w _ [(b1,#[.slice a nn c,.slice none 0 0],65),(b2,#[.slice a1 n1 c1,.bool m1,.slice d1 e1 f1],72),(b3,zR,72),(b4,#[.slice a nn c,.slice none 0 0],124)] [] [(fun V=>Rd V (.slice a1 n1 c1) m1 (.slice d1 e1 f1) ((x:Rat))),(fun V=>Rd V (.slice a5 n5 c5) m5 (.slice d5 e5 f5) ((lf:Rat))),(fun V=>Rd V (.slice a6 n6 c6) m6 (.slice d6 e6 f6) ((rt:Rat)))]from(AO.out.call hb)) (fun _ hX=>⟨hX.c 1 0,hX.c 1 1,hX.c 1 2,hX.c 3 0,hX.c 3 1,trivial⟩) ?_;intro B4 A5 AX;clear AB Kq AO hb Ap;(try simp only [zP]);refine wpAnyH_take (i:=14) (oi:=⟨_,_,_,_,_,_⟩) (v:= .bool true) rfl (by kernel_rfl) (by kernel_rfl) (by kernel_rfl) (fun _ _ _ h=>by cases h.1) (Or.inl ⟨by rfl,?_⟩) AX ?_
   ·exact mTp7b_1
   (try simp only [zP]);refine wpAnyH_take (i:=15) (oi:=⟨_,_,_,_,_,_⟩) (v:=?_) rfl (by kernel_rfl) (by kernel_rfl) (by kernel_rfl) (fun _ _ _ h=>by cases h.1) (Or.inl ⟨by rfl,?_⟩) AX ?_;rotate_left
   ·intro wS AC;(try dsimp only at AC);go_simp;try with_reducible rfl
   (try simp only [zP]);refine rdy1 16 rfl (fun Kq AB=>?_);go_simp;refine stepZ AB (show Sy w _ [(b1,#[.slice a nn c,.slice none 0 0],65),(b2,#[.slice a1 n1 c1,.bool m1,.slice d1 e1 f1],72),(b3,zR,72),(b4,#[.slice a nn c,.slice none 0 0],124)] [] [(fun V=>Rd V (.slice a1 n1 c1) m1 (.slice d1 e1 f1) ((x:Rat))),(fun V=>Rd V (.slice a5 n5 c5) m5 (.slice d5 e5 f5) ((lf:Rat))),(fun V=>Rd V (.slice a6 n6 c6) m6 (.slice d6 e6 f6) ((rt:Rat)))]from A5.out) (fun _ hX=>⟨hX.c 1 0,hX.c 1 1,hX.c 1 2,hX.c 3 0,hX.c 3 1,trivial⟩) ?_;intro B5 Aq BS;clear AB Kq A5 AX;(try simp only [zP]);refine wpAnyH_done (by kernel_rfl) ?_ _;exact⟨rfl,ζ ⟨_,_,_,_,_,_,_,_,_,_,_,_,_,_,_,_,rfl,Aq.out.pick [0] rfl⟩⟩
  case rest=>
   exact mTp7b_0
end
end Go.Proofs.YtjpojeapdgjbhaaGreatDoor
