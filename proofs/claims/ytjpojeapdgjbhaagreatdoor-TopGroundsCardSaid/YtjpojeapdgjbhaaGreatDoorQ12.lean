/- part -/
import Derived.Test.YtjpojeapdgjbhaaGreatDoorQ11
set_option maxRecDepth 100000
set_option maxHeartbeats 2000000
namespace Go.Proofs.YtjpojeapdgjbhaaGreatDoor
open Go.RowKit Dig
theorem qZ6_0 {P_:Prop} (h:P_:=by exact⟨Yx.c 0 1,Yx.c 4 0,Yx.c 5 0,trivial⟩):P_:=h
theorem qZ6_1 {P_:Prop} (h:P_:=by exact⟨Yx.c 2 0,Yx.c 2 1,Yx.c 3 0,Yx.c 3 1,trivial⟩):P_:=h
theorem qZ6_2 {P_:Prop} (h:P_:=by exact⟨Yx.c 1 0,Yx.c 1 1,trivial⟩):P_:=h
theorem ediv_of {z1 z2 q r:Int} (h:z1=q*z2.natAbs+r) (h0:0<=r) (h1:r < z2.natAbs):z1 / z2=(if z2 < 0 then -q else q)/\z1 % z2=r:=by
 have hb:(0:Int) < z2.natAbs:=by omega
 obtain ⟨e1,e2⟩:=(Int.ediv_emod_unique hb).2 ⟨(show r+(z2.natAbs:Int)*q=z1 by rw [h,Int.mul_comm];omega),h0,h1⟩;by_cases hn:z2 < 0
 ·have e:(z2.natAbs:Int)= -z2:=by omega
  rw [e]at e1 e2;rw [Int.ediv_neg]at e1;rw [Int.emod_neg]at e2;rw [if_pos hn];exact⟨by omega,e2⟩
 ·have e:(z2.natAbs:Int)=z2:=by omega
  rw [e]at e1 e2;rw [if_neg hn];exact⟨e1,e2⟩
def RetQ (w:World) (q r:Int) (k:Int) (e:Ending) (w':World):Prop:=
 ∃a n c m a2 n2 c2 m2,e= .returned (.tuple #[.agg #[.slice a n c,.bool m],.agg #[.slice a2 n2 c2,.bool m2],.int .i64 k])/\Zd w' (.slice a n c) m q/\Zd w' (.slice a2 n2 c2) m2 r/\Below w.heap.size w w'
theorem Zd.nil {w:World} :Zd w (.slice none 0 0) false 0:=⟨by unfold Dg;rw [Int.natAbs_zero,dg_zero];exact Sl.nil,by simp⟩
theorem Zd.len0 {w:World} {a:OA} {n c:Nat} {m:Bool} {z:Int} (h:Zd w (.slice a n c) m z):(n=0)↔z=0:=by
 have hn:=Sl.len h.d;rw [hn,List.length_eq_zero_iff,dg_nil_iff (b:=16777216) (by omega)];omega
theorem mZ6_3 {P_:Prop} (h:P_:=by
 (try dsimp only);all_goals (first
  | (with_reducible refine aG (World.setCell (World.setCell (World.setCell (World.setCell wd _ _) _ _) _ _) _ _) ?_;refine aH ((AA.out|>.t2 2 rfl)|>.t2 3 rfl) (fun Yx=>?_);exact qZ6_2)
  | (with_reducible refine aG (World.setCell (World.setCell wd _ _) _ _) ?_;refine aH (AA.out|>.t2 2 rfl) (fun Yx=>?_);exact qZ6_2)
  | (with_reducible refine aG wd ?_;have Yx:=AA.out;exact qZ6_2)|fail)):P_:=h
theorem mZ6_0 {P_:Prop} (h:P_:=by
 refine hK.out _ _ ?_ (fun BC=>?_)
 ·(try dsimp only);all_goals (with_reducible refine aG wc ?_;have Yx:=AB.out;exact qZ6_2)
 clear hK K BB;try simp only [zP]
 refine rdyL [6] ?_;refine arc rfl (fun K hK=>?_) ?_
 ·go_simp
  (go_at_call 112;refine(sub_any _ _ _ _ _ _ _ _ _ _ _ (AB.out.z 8 rfl) (AB.out.z 5 rfl) BZ.out B0.out).mono ?_;rintro e wd ⟨bd,kd,ld,md,rfl,hzd,hb⟩;have AA:=ζ ((AB.out.call hb).pz hzd);clear hzd hb;clear AD AF AH AJ AE AG AI AK;have A4:=AA.out.c 2 0;have A5:=AA.out.f 2 0;have A6:=AA.out.c 2 1;have A7:=AA.out.f 2 1;have A8:=AA.out.c 3 0;have A9:=AA.out.f 3 0;have Ab:=AA.out.c 3 1;have Ac:=AA.out.f 3 1)
  (try go_wp2_with fail);refine hK.out _ _ ?_ (fun BD=>?_)
  ·exact mZ6_3
  clear hK K BC;try simp only [zP]
  refine rdyL [7] ?_;refine arc rfl (fun K hK=>?_) ?_
  ·go_simp;refine hK.out _ _ ?_ (fun BE=>?_)
   ·exact mZ6_3
   clear hK K BD;(try simp only [zP]);refine rdyL [8] ?_;refine arc rfl (fun K hK=>?_) ?_
   ·go_simp;refine hK.out _ _ ?_ (fun Bc=>?_)
    ·exact mZ6_3
    clear hK K BE;(try simp only [zP]);refine wpAnyH_done (by kernel_rfl) ?_ _;refine NoPanic.normal ?_;all_goals (go_wp2_with fail;go_meet;exact⟨bb,kb,lb,mb,bd,kd,ld,md,St.pick ((AA.out|>.t2 2 rfl)|>.t2 3 rfl) [0,1,7,9] rfl⟩)
   exact AllReadyH.nil
  exact AllReadyH.nil
 exact AllReadyH.nil):P_:=h
theorem mZ6_7 {P_:Prop} (h:P_:=by
 (try dsimp only);all_goals (with_reducible refine aG wa ?_;have Yx:=AL.out;exact qZ6_2)):P_:=h
theorem mZ6_5 {P_:Prop} (h:P_:=by
 refine hK.out _ _ ?_ (fun BB=>?_)
 ·(try dsimp only);all_goals (with_reducible refine aG wb ?_;have Yx:=AC.out;exact qZ6_2)
 clear hK K BF;try simp only [zP]
 refine rdyL [4] ?_;refine arc rfl (fun K hK=>?_) ?_
 ·go_simp
  (go_at_call 152;refine(abs_any _ _ _ _ _ _ (AC.out.z 1 rfl)).mono ?_;rintro e wc ⟨bc,kc,lc,mc,rfl,hzc,hb⟩;have AB:=ζ ((AC.out.call hb).pz hzc);clear hzc hb;clear AM AO AQ AS AN AP AR AT;have AD:=AB.out.c 2 0;have AE:=AB.out.f 2 0;have AF:=AB.out.c 2 1;have AG:=AB.out.f 2 1;have AH:=AB.out.c 3 0;have AI:=AB.out.f 3 0;have AJ:=AB.out.c 3 1;have AK:=AB.out.f 3 1)
  (try go_wp2_with fail);exact mZ6_0
 exact AllReadyH.nil):P_:=h
theorem mZ6_1 {P_:Prop} (h:P_:=by
 refine hK.out _ _ ?_ (fun BF=>?_)
 ·exact mZ6_7
 clear hK K BW;try simp only [zP]
 refine rdyL [2] ?_;refine arc rfl (fun K hK=>?_) ?_
 ·go_simp
  (go_at_call 112;refine(sub_any _ _ _ _ _ _ _ _ _ _ _ (AL.out.z 4 rfl) (AL.out.z 6 rfl) Bj.out Bk.out).mono ?_;rintro e wb ⟨bb,kb,lb,mb,rfl,hzb,hb⟩;have AC:=ζ ((AL.out.call hb).pz hzb);clear hzb hb;clear AV AX AZ A1 AW AY A0 A2;have AM:=AC.out.c 2 0;have AN:=AC.out.f 2 0;have AO:=AC.out.c 2 1;have AP:=AC.out.f 2 1;have AQ:=AC.out.c 3 0;have AR:=AC.out.f 3 0;have AS:=AC.out.c 3 1;have AT:=AC.out.f 3 1)
  (try go_wp2_with fail);exact mZ6_5
 exact AllReadyH.nil):P_:=h
theorem mZ6_2 {P_:Prop} (h:P_:=by
 refine hK.out _ _ ?_ (fun BW=>?_)
 ·exact mZ6_7
 clear hK K Bl;try simp only [zP]
 refine rdyL [2,5] ?_;refine arc rfl (fun K hK=>?_) ?_
 ·go_simp
  (go_at_call 112;refine(sub_any _ _ _ _ _ _ _ _ _ _ _ (AL.out.z 4 rfl) (AL.out.z 6 rfl) Bj.out Bk.out).mono ?_;rintro e wb ⟨bb,kb,lb,mb,rfl,hzb,hb⟩;have AC:=ζ ((AL.out.call hb).pz hzb);clear hzb hb;clear AV AX AZ A1 AW AY A0 A2;have AM:=AC.out.c 2 0;have AN:=AC.out.f 2 0;have AO:=AC.out.c 2 1;have AP:=AC.out.f 2 1;have AQ:=AC.out.c 3 0;have AR:=AC.out.f 3 0;have AS:=AC.out.c 3 1;have AT:=AC.out.f 3 1)
  (try go_wp2_with fail);refine hK.out _ _ ?_ (fun BF=>?_)
  ·(try dsimp only);all_goals (with_reducible refine aG wb ?_;have Yx:=AC.out;exact qZ6_2)
  clear hK K BW;try simp only [zP]
  refine rdyL [4,5] ?_;refine arc rfl (fun K hK=>?_) ?_
  ·go_simp
   (go_at_call 152;refine(abs_any _ _ _ _ _ _ (AC.out.z 1 rfl)).mono ?_;rintro e wc ⟨bc,kc,lc,mc,rfl,hzc,hb⟩;have AB:=ζ ((AC.out.call hb).pz hzc);clear hzc hb;clear AM AO AQ AS AN AP AR AT;have AD:=AB.out.c 2 0;have AE:=AB.out.f 2 0;have AF:=AB.out.c 2 1;have AG:=AB.out.f 2 1;have AH:=AB.out.c 3 0;have AI:=AB.out.f 3 0;have AJ:=AB.out.c 3 1;have AK:=AB.out.f 3 1)
   (try go_wp2_with fail);refine hK.out _ _ ?_ (fun BB=>?_)
   ·(try dsimp only);all_goals (with_reducible refine aG wc ?_;have Yx:=AB.out;exact qZ6_2)
   clear hK K BF;(try simp only [zP]);refine rdyL [5] ?_;refine arc rfl (fun K hK=>?_) ?_
   ·go_simp;exact mZ6_0
   exact AllReadyH.nil
  refine arc rfl (fun K hK=>?_) ?_
  ·go_simp;exact mZ6_5
  exact AllReadyH.nil
 refine arc rfl (fun K hK=>?_) ?_
 ·go_simp;exact mZ6_1
 exact AllReadyH.nil):P_:=h
theorem mZ6_9 {P_:Prop} (h:P_:=by
 (try dsimp only);all_goals (with_reducible refine aG _ ?_;have Yx:=A3.out.drew;exact qZ6_2)):P_:=h
theorem mZ6_4 {P_:Prop} (h:P_:=by
 go_simp;refine hK.out _ _ ?_ (fun BW=>?_)
 ·exact mZ6_9
 clear hK K Bl;try simp only [zP]
 refine rdyL [1] ?_;refine arc rfl (fun K hK=>?_) ?_
 ·go_simp
  (go_at_call 53;refine(int_any 1 (by omega) _).mono ?_;rintro e wa ⟨ba,ka,la,ma,rfl,hza,hb⟩;have AL:=ζ ((A3.out.drew.call hb).pz hza);clear hza hb;clear Ad Ag Al An Af Aj Am Ap;have AV:=AL.out.c 2 0;have AW:=AL.out.f 2 0;have AX:=AL.out.c 2 1;have AY:=AL.out.f 2 1;have AZ:=AL.out.c 3 0;have A0:=AL.out.f 3 0;have A1:=AL.out.c 3 1;have A2:=AL.out.f 3 1)
  (try go_wp2_with fail);exact mZ6_1
 exact AllReadyH.nil):P_:=h
theorem mZ6_6 {P_:Prop} (h:P_:=by
 have e0:=hF.c 2 0;have e1:=hF.c 2 1;have e2:=hF.c 3 0;have e3:=hF.c 3 1;simp [results,Tryz.results116,go_sem,e0,e1,e2,e3]):P_:=h
theorem mZ6_8 {P_:Prop} (h:P_:=by
 have e:=Nat.div_add_mod z.natAbs z2.natAbs;have l:=Nat.mod_lt z.natAbs (show 0 < z2.natAbs by omega);refine⟨?_,by omega,by omega⟩;have:((z2.natAbs*(z.natAbs / z2.natAbs)+z.natAbs % z2.natAbs:Nat):Int)=z.natAbs:=by rw [e]
 rw [Int.natCast_add,Int.natCast_mul,Int.mul_comm]at this;omega):P_:=h
theorem mZ6_10 {P_:Prop} (h:P_:=by
 refine hK.out _ _ ?_ (fun BW=>?_)
 ·exact mZ6_7
 clear hK K Bl;try simp only [zP]
 refine rdyL [0] ?_;refine arc rfl (fun K hK=>?_) ?_
 ·go_simp;exact mZ6_1
 exact AllReadyH.nil):P_:=h
theorem q_pos {z z2:Int} (h1:false=decide (z < 0)) (hz:z2≠0):z=((z.natAbs / z2.natAbs:Nat):Int)*z2.natAbs+(z.natAbs % z2.natAbs:Nat)/\(0:Int)<=(z.natAbs % z2.natAbs:Nat)/\((z.natAbs % z2.natAbs:Nat):Int) < z2.natAbs:=by
 have h:¬ z < 0:=by simpa using h1.symm
 exact mZ6_8
theorem q_ff {z z2:Int} (h1:false=decide (z < 0)) (h2:false=decide (z2 < 0)) (hz:z2≠0):z / z2=(if false=true then -((z.natAbs / z2.natAbs:Nat):Int)else((z.natAbs / z2.natAbs:Nat):Int))/\z % z2=((z.natAbs % z2.natAbs:Nat):Int):=by
 obtain ⟨a,b,c⟩:=q_pos h1 hz;have h:¬ z2 < 0:=by simpa using h2.symm
 have:=ediv_of a b c;rw [if_neg h]at this;simpa using this
theorem q_ft {z z2:Int} (h1:false=decide (z < 0)) (h2:true=decide (z2 < 0)) (hz:z2≠0):z / z2= -(if false=true then -((z.natAbs / z2.natAbs:Nat):Int)else((z.natAbs / z2.natAbs:Nat):Int))/\z % z2=((z.natAbs % z2.natAbs:Nat):Int):=by
 obtain ⟨a,b,c⟩:=q_pos h1 hz;have h:z2 < 0:=by simpa using h2.symm
 have:=ediv_of a b c;rw [if_pos h]at this;simpa using this
theorem dlm {m n:Nat} (h:m<=n):(dg 16777216 m).length<=(dg 16777216 n).length:=dg_len_le (by omega) (Nat.lt_of_le_of_lt h (dg_len_lt (by omega) n))
theorem q_neg {z z2:Int} (h1:true=decide (z < 0)) (hz:z2≠0):z= -(((z.natAbs / z2.natAbs:Nat):Int)*z2.natAbs) - (z.natAbs % z2.natAbs:Nat)/\(0:Int)<=(z.natAbs % z2.natAbs:Nat)/\((z.natAbs % z2.natAbs:Nat):Int) < z2.natAbs:=by
 have h:z < 0:=by simpa using h1.symm
 exact mZ6_8
theorem q_0 {z z2:Int} (h1:true=decide (z < 0)) (hz:z2≠0) (h0:z.natAbs % z2.natAbs=0):z / z2=(if z2 < 0 then -(-((z.natAbs / z2.natAbs:Nat):Int))else -((z.natAbs / z2.natAbs:Nat):Int))/\z % z2=((z.natAbs % z2.natAbs:Nat):Int):=by
 obtain ⟨a,b,c⟩:=q_neg h1 hz;rw [h0]at a;rw [h0];exact ediv_of (by rw [Int.neg_mul];omega) (by omega) (by omega)
theorem q_0f {z z2:Int} (h1:true=decide (z < 0)) (h2:false=decide (z2 < 0)) (hz:z2≠0) (h0:z.natAbs % z2.natAbs=0):z / z2=(if true=true then -((z.natAbs / z2.natAbs:Nat):Int)else((z.natAbs / z2.natAbs:Nat):Int))/\z % z2=((z.natAbs % z2.natAbs:Nat):Int):=by
 have h:¬ z2 < 0:=by simpa using h2.symm
 have:=q_0 h1 hz h0;rw [if_neg h]at this;exact this
theorem q_0t {z z2:Int} (h1:true=decide (z < 0)) (h2:true=decide (z2 < 0)) (hz:z2≠0) (h0:z.natAbs % z2.natAbs=0):z / z2= -(if true=true then -((z.natAbs / z2.natAbs:Nat):Int)else((z.natAbs / z2.natAbs:Nat):Int))/\z % z2=((z.natAbs % z2.natAbs:Nat):Int):=by
 have h:z2 < 0:=by simpa using h2.symm
 have:=q_0 h1 hz h0;rw [if_pos h]at this;exact this
theorem q_1 {z z2:Int} (h1:true=decide (z < 0)) (hz:z2≠0) (h0:¬ z.natAbs % z2.natAbs=0):z / z2=(if z2 < 0 then -(-((z.natAbs / z2.natAbs:Nat):Int) - 1)else -((z.natAbs / z2.natAbs:Nat):Int) - 1)/\z % z2=((z2.natAbs:Nat):Int) - ((z.natAbs % z2.natAbs:Nat):Int):=by
 obtain ⟨a,b,c⟩:=q_neg h1 hz;exact ediv_of (by rw [Int.sub_mul,Int.neg_mul];omega) (by omega) (by omega)
theorem q_1f {z z2:Int} (h1:true=decide (z < 0)) (h2:false=decide (z2 < 0)) (hz:z2≠0) (h0:¬ z.natAbs % z2.natAbs=0):z / z2=(if true=true then -((z.natAbs / z2.natAbs:Nat):Int)else((z.natAbs / z2.natAbs:Nat):Int)) - 1/\z % z2=((z2.natAbs:Nat):Int) - ((z.natAbs % z2.natAbs:Nat):Int):=by
 have h:¬ z2 < 0:=by simpa using h2.symm
 have:=q_1 h1 hz h0;rw [if_neg h]at this;exact this
theorem q_1t {z z2:Int} (h1:true=decide (z < 0)) (h2:true=decide (z2 < 0)) (hz:z2≠0) (h0:¬ z.natAbs % z2.natAbs=0):z / z2= -((if true=true then -((z.natAbs / z2.natAbs:Nat):Int)else((z.natAbs / z2.natAbs:Nat):Int)) - 1)/\z % z2=((z2.natAbs:Nat):Int) - ((z.natAbs % z2.natAbs:Nat):Int):=by
 have h:z2 < 0:=by simpa using h2.symm
 have:=q_1 h1 hz h0;rw [if_pos h]at this;exact this
theorem quotient_nz (a:OA) (n c:Nat) (m:Bool) (z:Int) (a2:OA) (n2 c2:Nat) (m2:Bool) (z2:Int) (w:World) (h:Zd w (.slice a n c) m z) (h2:Zd w (.slice a2 n2 c2) m2 z2) (hz:z2≠0)
  (hl:(dg 16777216 z.natAbs).length<=1000000) (hl2:(dg 16777216 z2.natAbs).length<=1000000):
  Calls Tryz.prog 116 #[.agg #[.slice a n c,.bool m],.agg #[.slice a2 n2 c2,.bool m2]] w (RetQ w (z / z2) (z % z2) 0):=by
 have hn0:((n2:Int)==0)=false:=by simpa using fun e=>hz (h2.len0.1 e)
 have HN:=ζ hn0;have HZ:=ζ hz;have hC:=ζ ((((((St.enter w).pz h).pz h2).al w.heap.size #[.slice a n c,.bool m] 70 rfl rfl).al (w.heap.size+1) #[.slice a2 n2 c2,.bool m2] 70 (by simp) rfl).al (w.heap.size+2) #[.slice none 0 0,.bool false] 70 (by simp) rfl|>.al (w.heap.size+3) #[.slice none 0 0,.bool false] 70 (by simp) rfl);clear h h2 hz hn0;go_enter Tryz.func116,Tryz.ntmps116;go_wp2_with fail
 refine(none_any _ _ _ _).mono ?_;rintro e w1 ⟨rfl,hw1⟩;have Bg:=ζ (hC.out.call (W':=w1) (by rw [hw1];exact(Below.refl _ _).alloc (Nat.le_refl _) _));clear hC hw1;rw [HN.out];have h10:=Bg.out.c 0 0;have h20:=Bg.out.c 1 0;go_wp2_with fail
 refine(over_any _ _ _ _ _ _ z.natAbs z2.natAbs _ (Bg.out.z 0 rfl).d (Bg.out.z 1 rfl).d (by have:=HZ.out;omega) hl hl2).mono ?_;rintro e w2 ⟨b1,k1,l1,b2,k2,l2,rfl,hdq,hdr,hb⟩;have Bm:=ζ (((Bg.out.call hb).pd hdq).pd hdr|>.al w2.heap.size #[.slice b1 k1 l1] 68 rfl rfl|>.al (w2.heap.size+1) #[.slice b2 k2 l2] 68 (by simp) rfl);have BX:=ζ (Bg.out.z 0 rfl).m;have BY:=ζ (Bg.out.z 1 rfl).m;have HR:=ζ (Zd.len0 (m:=false) (z:=(z.natAbs % z2.natAbs:Nat)) ⟨by rw [Int.natAbs_natCast];exact hdr,by simp;omega⟩);have DF:=ζ (show((z.natAbs % z2.natAbs:Nat):Int)=if false=true then -((z.natAbs % z2.natAbs:Nat):Int)else((z.natAbs % z2.natAbs:Nat):Int)from rfl);clear Bg h10 h20 hb hdq hdr;go_wp2_with fail
 go_region_held3 (fun w'=>w'.cell? ⟨w.heap.size,1,none⟩=some (.bool m)/\w'.cell? ⟨w2.heap.size,0,none⟩=some (.slice b1 k1 l1)/\w'.cell? ⟨w2.heap.size+1,0,none⟩=some (.slice b2 k2 l2)/\True)
  (first
   | (with_reducible refine aG (World.setCell (World.setCell (World.setCell (World.setCell w4 _ _) _ _) _ _) _ _) ?_;refine aH ((BA.out|>.t2 2 rfl)|>.t2 3 rfl) (fun Yx=>?_);exact qZ6_0)
   | (with_reducible refine aG (World.setCell (World.setCell w4 _ _) _ _) ?_;refine aH (BA.out|>.t2 2 rfl) (fun Yx=>?_);exact qZ6_0)
   | (with_reducible refine aG w4 ?_;have Yx:=BA.out;exact qZ6_0)
   | (with_reducible refine aG w3 ?_;have Yx:=Bn.out;exact qZ6_0)
   | (with_reducible refine aG _ ?_;have Yx:=Bm.out.drew;exact qZ6_0)|fail)
  (first
   | (go_at_call 108;refine(made_any false b2 k2 l2 (z.natAbs % z2.natAbs) _ (Bn.out.d 3 rfl) ((z.natAbs % z2.natAbs:Nat):Int) DF.out).mono ?_;rintro e w4 ⟨b4,k4,l4,m4,rfl,hz4,hb⟩;have BA:=ζ ((Bn.out.call hb).pz hz4);clear hz4 hb;have B1:=BA.out.c 2 0;have B2:=BA.out.f 2 0;have B3:=BA.out.c 2 1;have B4:=BA.out.f 2 1;have B5:=BA.out.c 3 0;have B6:=BA.out.f 3 0;have B7:=BA.out.c 3 1;have B8:=BA.out.f 3 1)
   | (go_at_call 108;refine(made_any m b1 k1 l1 (z.natAbs / z2.natAbs) _ (Bm.out.drew.d 2 rfl) _ rfl).mono ?_;rintro e w3 ⟨b3,k3,l3,m3,rfl,hz3,hb⟩;have Bn:=ζ ((Bm.out.drew.call hb).pz hz3);clear hz3 hb))
 refine gen_app ((BA.out|>.t2 2 rfl)|>.t2 3 rfl) ?_;intro W5 hc5;have Ak:Hid (St w W5 [(w.heap.size,#[.slice a n c,.bool m],70),(w.heap.size+1,#[.slice a2 n2 c2,.bool m2],70),(w.heap.size+2,#[.slice b3 k3 l3,.bool m3],70),(w.heap.size+3,#[.slice b4 k4 l4,.bool m4],70),(w2.heap.size,#[.slice b1 k1 l1],68),(w2.heap.size+1,#[.slice b2 k2 l2],68)] _):=ζ hc5;clear hc5 Bm Bn BA B1 B3 B5 B7 B2 B4 B6 B8;cases m
 ·have DE:=Ak.out.c 0 1;have B9:=Ak.out.c 1 1;cases m2
  ·have BG:=Ak.out.c 2 0;have BH:=Ak.out.f 2 0;have BI:=Ak.out.c 2 1;have BJ:=Ak.out.f 2 1;have Bp:=Ak.out.c 3 0;have Br:=Ak.out.f 3 0;have Bs:=Ak.out.c 3 1;have Bx:=Ak.out.f 3 1;go_wp2_with fail
   go_region_held3 (fun w'=>w'.cell? ⟨w.heap.size+2,0,none⟩=some (.slice b3 k3 l3)/\w'.cell? ⟨w.heap.size+2,1,none⟩=some (.bool m3)/\w'.cell? ⟨w.heap.size+3,0,none⟩=some (.slice b4 k4 l4)/\w'.cell? ⟨w.heap.size+3,1,none⟩=some (.bool m4)/\True)
    (first
     | (with_reducible refine aG (World.drew (World.setCell (World.setCell (World.setCell (World.setCell W5 _ _) _ _) _ _) _ _)) ?_;refine aH (((Ak.out|>.t2 2 rfl)|>.t2 3 rfl).drew) (fun Yx=>?_);exact qZ6_1)
     | (with_reducible refine aG (World.drew (World.setCell (World.setCell W5 _ _) _ _)) ?_;refine aH ((Ak.out|>.t2 2 rfl).drew) (fun Yx=>?_);exact qZ6_1)
     | (with_reducible refine aG _ ?_;have Yx:=Ak.out.drew;exact qZ6_1)|fail)
    (first
     | (fail))
   go_wp2;refine ret_st ((Ak.out|>.t2 2 rfl)|>.t2 3 rfl).drew (v:= .tuple #[.agg #[.slice b3 k3 l3,.bool m3],.agg #[.slice b4 k4 l4,.bool m4],.int .i64 0]) (fun hF=>?_) rfl (fun hF=>⟨_,_,_,_,_,_,_,_,rfl,?_,?_,hF.be⟩)
   ·exact mZ6_6
   ·rw [(q_ff BX.out BY.out HZ.out).1];exact hF.z 4 rfl
   ·rw [(q_ff BX.out BY.out HZ.out).2];exact hF.z 5 rfl
  ·have BG:=Ak.out.c 2 0;have BH:=Ak.out.f 2 0;have BI:=Ak.out.c 2 1;have BJ:=Ak.out.f 2 1;go_wp2_with fail
   refine(neg_any _ _ _ _ _ _ (Ak.out.z 4 rfl)).mono ?_;rintro e w7 ⟨b7,k7,l7,m7,rfl,hz7,hb⟩;have Az:=ζ ((Ak.out.call hb).pz hz7);clear hz7 hb;clear BG BI BH BJ B9;have Aq:=Az.out.c 2 0;have Ar:=Az.out.f 2 0;have As:=Az.out.c 2 1;have Av:=Az.out.f 2 1;go_wp2_with fail
   refine wp_gen (Az.out|>.t2 2 rfl) ?_;intro W8 hc8;have AU:Hid (St w W8 [(w.heap.size,#[.slice a n c,.bool false],70),(w.heap.size+1,#[.slice a2 n2 c2,.bool true],70),(w.heap.size+2,#[.slice b7 k7 l7,.bool m7],70),(w.heap.size+3,#[.slice b4 k4 l4,.bool m4],70),(w2.heap.size,#[.slice b1 k1 l1],68),(w2.heap.size+1,#[.slice b2 k2 l2],68)] _):=ζ hc8;clear hc8 Az Ak Aq As Ar Av;have BK:=AU.out.c 2 0;have BL:=AU.out.f 2 0;have BM:=AU.out.c 2 1;have BN:=AU.out.f 2 1;have BO:=AU.out.c 3 0;have BP:=AU.out.f 3 0;have BQ:=AU.out.c 3 1;have BR:=AU.out.f 3 1;go_wp2_with fail
   go_region_held3 (fun w'=>w'.cell? ⟨w.heap.size+2,0,none⟩=some (.slice b7 k7 l7)/\w'.cell? ⟨w.heap.size+2,1,none⟩=some (.bool m7)/\w'.cell? ⟨w.heap.size+3,0,none⟩=some (.slice b4 k4 l4)/\w'.cell? ⟨w.heap.size+3,1,none⟩=some (.bool m4)/\True)
    (first
     | (with_reducible refine aG (World.drew (World.setCell (World.setCell (World.setCell (World.setCell W8 _ _) _ _) _ _) _ _)) ?_;refine aH (((AU.out|>.t2 2 rfl)|>.t2 3 rfl).drew) (fun Yx=>?_);exact qZ6_1)
     | (with_reducible refine aG (World.drew (World.setCell (World.setCell W8 _ _) _ _)) ?_;refine aH ((AU.out|>.t2 2 rfl).drew) (fun Yx=>?_);exact qZ6_1)
     | (with_reducible refine aG _ ?_;have Yx:=AU.out.drew;exact qZ6_1)|fail)
    (first
     | (fail))
   go_wp2;refine ret_st ((AU.out|>.t2 2 rfl)|>.t2 3 rfl).drew (v:= .tuple #[.agg #[.slice b7 k7 l7,.bool m7],.agg #[.slice b4 k4 l4,.bool m4],.int .i64 0]) (fun hF=>?_) rfl (fun hF=>⟨_,_,_,_,_,_,_,_,rfl,?_,?_,hF.be⟩)
   ·exact mZ6_6
   ·rw [(q_ft BX.out BY.out HZ.out).1];exact hF.z 6 rfl
   ·rw [(q_ft BX.out BY.out HZ.out).2];exact hF.z 5 rfl
 ·have DE:=Ak.out.c 0 1;have DG:=Ak.out.c 5 0;go_wp2_with fail
  refine(none_any _ _ _ _).mono ?_;rintro e w6 ⟨rfl,hw6⟩;have A3:=ζ (Ak.out.call (W':=w6) (by rw [hw6];exact(Below.refl _ _).alloc (Nat.le_refl _) _));clear Ak hw6 DE DG;by_cases hr:z.natAbs % z2.natAbs=0
  ·have hk:((k2:Int)==0)=true:=(by simpa using HR.out.2 (by omega));have H0:=ζ hr;rw [hk];clear hr hk;have Bb:=A3.out.c 1 1;cases m2
   ·have Ad:=A3.out.c 2 0;have Af:=A3.out.f 2 0;have Ag:=A3.out.c 2 1;have Aj:=A3.out.f 2 1;have Al:=A3.out.c 3 0;have Am:=A3.out.f 3 0;have An:=A3.out.c 3 1;have Ap:=A3.out.f 3 1;go_wp2_with fail
    go_region_held3 (fun w'=>w'.cell? ⟨w.heap.size+2,0,none⟩=some (.slice b3 k3 l3)/\w'.cell? ⟨w.heap.size+2,1,none⟩=some (.bool m3)/\w'.cell? ⟨w.heap.size+3,0,none⟩=some (.slice b4 k4 l4)/\w'.cell? ⟨w.heap.size+3,1,none⟩=some (.bool m4)/\True)
     (first
      | (with_reducible refine aG (World.drew (World.setCell (World.setCell (World.setCell (World.setCell w6 _ _) _ _) _ _) _ _)) ?_;refine aH (((A3.out|>.t2 2 rfl)|>.t2 3 rfl).drew) (fun Yx=>?_);exact qZ6_1)
      | (with_reducible refine aG (World.drew (World.setCell (World.setCell w6 _ _) _ _)) ?_;refine aH ((A3.out|>.t2 2 rfl).drew) (fun Yx=>?_);exact qZ6_1)
      | (with_reducible refine aG _ ?_;have Yx:=A3.out.drew;exact qZ6_1)|fail)
     (first
      | (fail))
    go_wp2;refine ret_st ((A3.out|>.t2 2 rfl)|>.t2 3 rfl).drew (v:= .tuple #[.agg #[.slice b3 k3 l3,.bool m3],.agg #[.slice b4 k4 l4,.bool m4],.int .i64 0]) (fun hF=>?_) rfl (fun hF=>⟨_,_,_,_,_,_,_,_,rfl,?_,?_,hF.be⟩)
    ·exact mZ6_6
    ·rw [(q_0f BX.out BY.out HZ.out H0.out).1];exact hF.z 4 rfl
    ·rw [(q_0f BX.out BY.out HZ.out H0.out).2];exact hF.z 5 rfl
   ·have Ad:=A3.out.c 2 0;have Af:=A3.out.f 2 0;have Ag:=A3.out.c 2 1;have Aj:=A3.out.f 2 1;go_wp2_with fail
    refine(neg_any _ _ _ _ _ _ (A3.out.z 4 rfl)).mono ?_;rintro e w7 ⟨b7,k7,l7,m7,rfl,hz7,hb⟩;have Az:=ζ ((A3.out.call hb).pz hz7);clear hz7 hb;clear Ad Ag Af Aj Bb;have Aq:=Az.out.c 2 0;have Ar:=Az.out.f 2 0;have As:=Az.out.c 2 1;have Av:=Az.out.f 2 1;go_wp2_with fail
    refine wp_gen (Az.out|>.t2 2 rfl) ?_;intro W8 hc8;have AU:Hid (St w W8 [(w.heap.size,#[.slice a n c,.bool true],70),(w.heap.size+1,#[.slice a2 n2 c2,.bool true],70),(w.heap.size+2,#[.slice b7 k7 l7,.bool m7],70),(w.heap.size+3,#[.slice b4 k4 l4,.bool m4],70),(w2.heap.size,#[.slice b1 k1 l1],68),(w2.heap.size+1,#[.slice b2 k2 l2],68)] _):=ζ hc8;clear hc8 Az A3 Aq As Ar Av;have BK:=AU.out.c 2 0;have BL:=AU.out.f 2 0;have BM:=AU.out.c 2 1;have BN:=AU.out.f 2 1;have BO:=AU.out.c 3 0;have BP:=AU.out.f 3 0;have BQ:=AU.out.c 3 1;have BR:=AU.out.f 3 1;go_wp2_with fail
    go_region_held3 (fun w'=>w'.cell? ⟨w.heap.size+2,0,none⟩=some (.slice b7 k7 l7)/\w'.cell? ⟨w.heap.size+2,1,none⟩=some (.bool m7)/\w'.cell? ⟨w.heap.size+3,0,none⟩=some (.slice b4 k4 l4)/\w'.cell? ⟨w.heap.size+3,1,none⟩=some (.bool m4)/\True)
     (first
      | (with_reducible refine aG (World.drew (World.setCell (World.setCell (World.setCell (World.setCell W8 _ _) _ _) _ _) _ _)) ?_;refine aH (((AU.out|>.t2 2 rfl)|>.t2 3 rfl).drew) (fun Yx=>?_);exact qZ6_1)
      | (with_reducible refine aG (World.drew (World.setCell (World.setCell W8 _ _) _ _)) ?_;refine aH ((AU.out|>.t2 2 rfl).drew) (fun Yx=>?_);exact qZ6_1)
      | (with_reducible refine aG _ ?_;have Yx:=AU.out.drew;exact qZ6_1)|fail)
     (first
      | (fail))
    go_wp2;refine ret_st ((AU.out|>.t2 2 rfl)|>.t2 3 rfl).drew (v:= .tuple #[.agg #[.slice b7 k7 l7,.bool m7],.agg #[.slice b4 k4 l4,.bool m4],.int .i64 0]) (fun hF=>?_) rfl (fun hF=>⟨_,_,_,_,_,_,_,_,rfl,?_,?_,hF.be⟩)
    ·exact mZ6_6
    ·rw [(q_0t BX.out BY.out HZ.out H0.out).1];exact hF.z 6 rfl
    ·rw [(q_0t BX.out BY.out HZ.out H0.out).2];exact hF.z 5 rfl
  ·have hk:((k2:Int)==0)=false:=(by simpa using fun e=>hr (by have:=HR.out.1 e;omega));have H0:=ζ hr;rw [hk];clear hr hk;have Bj:=ζ (show(dg 16777216 (if true=true then -((z.natAbs / z2.natAbs:Nat):Int)else((z.natAbs / z2.natAbs:Nat):Int)).natAbs).length<=10000000 from Nat.le_trans (dlm (by simp only [if_true,Int.natAbs_neg,Int.natAbs_natCast];exact Nat.div_le_self _ _)) (Nat.le_trans hl (by omega)));have BZ:=ζ (show(dg 16777216 (((z2.natAbs:Nat):Int)).natAbs).length<=10000000 by rw [Int.natAbs_natCast];omega);have B0:=ζ (show(dg 16777216 (((z.natAbs % z2.natAbs:Nat):Int)).natAbs).length<=10000000 by rw [Int.natAbs_natCast];exact Nat.le_trans (dlm (Nat.le_of_lt (Nat.mod_lt _ (by have:=HZ.out;omega)))) (Nat.le_trans hl2 (by omega)));have Bk:=ζ (show(dg 16777216 ((1:Int)).natAbs).length<=10000000 from Nat.le_trans (dg_len_le (k:=1) (by omega) (by decide)) (by omega));go_upto_region 6 with fail
   go_cut [] (fun wx=>∃bb kb lb mb bd kd ld md,St w wx [(w.heap.size,#[.slice a n c,.bool true],70),(w.heap.size+1,#[.slice a2 n2 c2,.bool m2],70),(w.heap.size+2,#[.slice bb kb lb,.bool mb],70),(w.heap.size+3,#[.slice bd kd ld,.bool md],70),(w2.heap.size,#[.slice b1 k1 l1],68),(w2.heap.size+1,#[.slice b2 k2 l2],68)] [fun V=>Zd V (.slice a n c) true z,fun V=>Zd V (.slice a2 n2 c2) m2 z2,fun V=>Zd V (.slice bb kb lb) mb ((if true=true then -((z.natAbs / z2.natAbs:Nat):Int)else((z.natAbs / z2.natAbs:Nat):Int)) - 1),fun V=>Zd V (.slice bd kd ld) md (((z2.natAbs:Nat):Int) - ((z.natAbs % z2.natAbs:Nat):Int))])
   case first=>
    have Ad:=A3.out.c 2 0;have Af:=A3.out.f 2 0;have Ag:=A3.out.c 2 1;have Aj:=A3.out.f 2 1;have Al:=A3.out.c 3 0;have Am:=A3.out.f 3 0;have An:=A3.out.c 3 1;have Ap:=A3.out.f 3 1;refine wp_region_noPanic ?_;refine wp_region_held_drew (S:=(fun w'=>w'.cell? ⟨w.heap.size+1,0,none⟩=some (.slice a2 n2 c2)/\w'.cell? ⟨w.heap.size+1,1,none⟩=some (.bool m2)/\True)) (by kernel_rfl) ?_ (fun Bz=>?_)
    ·exact mZ6_9
    refine tkA 3 rfl Bz ?_;(try simp only [zP]);refine rdyL [0,1,5] ?_;refine arc rfl (fun K hK=>?_) ?_
    ·go_simp;refine hK.out _ _ ?_ (fun Bl=>?_)
     ·exact mZ6_9
     clear hK K Bz;(try simp only [zP]);refine rdyL [1,5] ?_;refine arc rfl (fun K hK=>?_) ?_
     ·go_simp
      (go_at_call 53;refine(int_any 1 (by omega) _).mono ?_;rintro e wa ⟨ba,ka,la,ma,rfl,hza,hb⟩;have AL:=ζ ((A3.out.drew.call hb).pz hza);clear hza hb;clear Ad Ag Al An Af Aj Am Ap;have AV:=AL.out.c 2 0;have AW:=AL.out.f 2 0;have AX:=AL.out.c 2 1;have AY:=AL.out.f 2 1;have AZ:=AL.out.c 3 0;have A0:=AL.out.f 3 0;have A1:=AL.out.c 3 1;have A2:=AL.out.f 3 1)
      (try go_wp2_with fail);exact mZ6_2
     refine arc rfl (fun K hK=>?_) ?_
     ·exact mZ6_4
     exact AllReadyH.nil
    refine arc rfl (fun K hK=>?_) ?_
    ·go_simp
     (go_at_call 53;refine(int_any 1 (by omega) _).mono ?_;rintro e wa ⟨ba,ka,la,ma,rfl,hza,hb⟩;have AL:=ζ ((A3.out.drew.call hb).pz hza);clear hza hb;clear Ad Ag Al An Af Aj Am Ap;have AV:=AL.out.c 2 0;have AW:=AL.out.f 2 0;have AX:=AL.out.c 2 1;have AY:=AL.out.f 2 1;have AZ:=AL.out.c 3 0;have A0:=AL.out.f 3 0;have A1:=AL.out.c 3 1;have A2:=AL.out.f 3 1)
     (try go_wp2_with fail);refine hK.out _ _ ?_ (fun Bl=>?_)
     ·exact mZ6_7
     clear hK K Bz;(try simp only [zP]);refine rdyL [0,5] ?_;refine arc rfl (fun K hK=>?_) ?_
     ·go_simp;exact mZ6_2
     refine arc rfl (fun K hK=>?_) ?_
     ·go_simp;exact mZ6_10
     exact AllReadyH.nil
    refine arc rfl (fun K hK=>?_) ?_
    ·go_simp;refine hK.out _ _ ?_ (fun Bl=>?_)
     ·exact mZ6_9
     clear hK K Bz;(try simp only [zP]);refine rdyL [0,1] ?_;refine arc rfl (fun K hK=>?_) ?_
     ·exact mZ6_4
     refine arc rfl (fun K hK=>?_) ?_
     ·go_simp
      (go_at_call 53;refine(int_any 1 (by omega) _).mono ?_;rintro e wa ⟨ba,ka,la,ma,rfl,hza,hb⟩;have AL:=ζ ((A3.out.drew.call hb).pz hza);clear hza hb;clear Ad Ag Al An Af Aj Am Ap;have AV:=AL.out.c 2 0;have AW:=AL.out.f 2 0;have AX:=AL.out.c 2 1;have AY:=AL.out.f 2 1;have AZ:=AL.out.c 3 0;have A0:=AL.out.f 3 0;have A1:=AL.out.c 3 1;have A2:=AL.out.f 3 1)
      (try go_wp2_with fail);exact mZ6_10
     exact AllReadyH.nil
    exact AllReadyH.nil
   case rest=>
    obtain ⟨bb,kb,lb,mb,bd,kd,ld,md,hc9⟩:=hcut;have Ax:=ζ hc9;clear hc9 A3;have Bf:=Ax.out.c 1 1;cases m2
    ·have BS:=Ax.out.c 2 0;have BT:=Ax.out.f 2 0;have BU:=Ax.out.c 2 1;have BV:=Ax.out.f 2 1;have DA:=Ax.out.c 3 0;have DB:=Ax.out.f 3 0;have DC:=Ax.out.c 3 1;have DD:=Ax.out.f 3 1;go_wp2_with fail
     go_region_held3 (fun w'=>w'.cell? ⟨w.heap.size+2,0,none⟩=some (.slice bb kb lb)/\w'.cell? ⟨w.heap.size+2,1,none⟩=some (.bool mb)/\w'.cell? ⟨w.heap.size+3,0,none⟩=some (.slice bd kd ld)/\w'.cell? ⟨w.heap.size+3,1,none⟩=some (.bool md)/\True)
      (first
       | (with_reducible refine aG (World.drew (World.setCell (World.setCell (World.setCell (World.setCell wc _ _) _ _) _ _) _ _)) ?_;refine aH (((Ax.out|>.t2 2 rfl)|>.t2 3 rfl).drew) (fun Yx=>?_);exact qZ6_1)
       | (with_reducible refine aG (World.drew (World.setCell (World.setCell wc _ _) _ _)) ?_;refine aH ((Ax.out|>.t2 2 rfl).drew) (fun Yx=>?_);exact qZ6_1)
       | (with_reducible refine aG _ ?_;have Yx:=Ax.out.drew;exact qZ6_1)|fail)
      (first
       | (fail))
     go_wp2;refine ret_st ((Ax.out|>.t2 2 rfl)|>.t2 3 rfl).drew (v:= .tuple #[.agg #[.slice bb kb lb,.bool mb],.agg #[.slice bd kd ld,.bool md],.int .i64 0]) (fun hF=>?_) rfl (fun hF=>⟨_,_,_,_,_,_,_,_,rfl,?_,?_,hF.be⟩)
     ·exact mZ6_6
     ·rw [(q_1f BX.out BY.out HZ.out H0.out).1];exact hF.z 2 rfl
     ·rw [(q_1f BX.out BY.out HZ.out H0.out).2];exact hF.z 3 rfl
    ·have BS:=Ax.out.c 2 0;have BT:=Ax.out.f 2 0;have BU:=Ax.out.c 2 1;have BV:=Ax.out.f 2 1;go_wp2_with fail
     refine(neg_any _ _ _ _ _ _ (Ax.out.z 2 rfl)).mono ?_;rintro e w7 ⟨b7,k7,l7,m7,rfl,hz7,hb⟩;have Az:=ζ ((Ax.out.call hb).pz hz7);clear hz7 hb;clear BS BU BT BV Bf;have Aq:=Az.out.c 2 0;have Ar:=Az.out.f 2 0;have As:=Az.out.c 2 1;have Av:=Az.out.f 2 1;go_wp2_with fail
     refine wp_gen (Az.out|>.t2 2 rfl) ?_;intro W8 hc8;have AU:Hid (St w W8 [(w.heap.size,#[.slice a n c,.bool true],70),(w.heap.size+1,#[.slice a2 n2 c2,.bool true],70),(w.heap.size+2,#[.slice b7 k7 l7,.bool m7],70),(w.heap.size+3,#[.slice bd kd ld,.bool md],70),(w2.heap.size,#[.slice b1 k1 l1],68),(w2.heap.size+1,#[.slice b2 k2 l2],68)] _):=ζ hc8;clear hc8 Az Ax Aq As Ar Av;have BK:=AU.out.c 2 0;have BL:=AU.out.f 2 0;have BM:=AU.out.c 2 1;have BN:=AU.out.f 2 1;have BO:=AU.out.c 3 0;have BP:=AU.out.f 3 0;have BQ:=AU.out.c 3 1;have BR:=AU.out.f 3 1;go_wp2_with fail
     go_region_held3 (fun w'=>w'.cell? ⟨w.heap.size+2,0,none⟩=some (.slice b7 k7 l7)/\w'.cell? ⟨w.heap.size+2,1,none⟩=some (.bool m7)/\w'.cell? ⟨w.heap.size+3,0,none⟩=some (.slice bd kd ld)/\w'.cell? ⟨w.heap.size+3,1,none⟩=some (.bool md)/\True)
      (first
       | (with_reducible refine aG (World.drew (World.setCell (World.setCell (World.setCell (World.setCell W8 _ _) _ _) _ _) _ _)) ?_;refine aH (((AU.out|>.t2 2 rfl)|>.t2 3 rfl).drew) (fun Yx=>?_);exact qZ6_1)
       | (with_reducible refine aG (World.drew (World.setCell (World.setCell W8 _ _) _ _)) ?_;refine aH ((AU.out|>.t2 2 rfl).drew) (fun Yx=>?_);exact qZ6_1)
       | (with_reducible refine aG _ ?_;have Yx:=AU.out.drew;exact qZ6_1)|fail)
      (first
       | (fail))
     go_wp2;refine ret_st ((AU.out|>.t2 2 rfl)|>.t2 3 rfl).drew (v:= .tuple #[.agg #[.slice b7 k7 l7,.bool m7],.agg #[.slice bd kd ld,.bool md],.int .i64 0]) (fun hF=>?_) rfl (fun hF=>⟨_,_,_,_,_,_,_,_,rfl,?_,?_,hF.be⟩)
     ·exact mZ6_6
     ·rw [(q_1t BX.out BY.out HZ.out H0.out).1];exact hF.z 4 rfl
     ·rw [(q_1t BX.out BY.out HZ.out H0.out).2];exact hF.z 3 rfl
end Go.Proofs.YtjpojeapdgjbhaaGreatDoor
