/- a part of the proof -/
import Derived.Test.YthmdhlopeponcaaGreatDoorJ0
import Derived.Test.YthmdhlopeponcaaGreatDoorJ7
import Derived.Test.YthmdhlopeponcaaGreatDoorJ12
import Derived.Deep.DeepCutAuto
set_option maxRecDepth 100000
set_option maxHeartbeats 2000000
namespace Go.Proofs.YthmdhlopeponcaaGreatDoor
open Go.RowKit Dig
theorem qZ6_0 {P_ : Prop} (h : P_ := by exact ⟨Yx.c 0 1,Yx.c 4 0,Yx.c 5 0,trivial⟩) : P_ := h
theorem qZ6_1 {P_ : Prop} (h : P_ := by exact ⟨Yx.c 2 0,Yx.c 2 1,Yx.c 3 0,Yx.c 3 1,trivial⟩) : P_ := h
theorem qZ6_2 {P_ : Prop} (h : P_ := by exact ⟨Yx.c 1 0,Yx.c 1 1,trivial⟩) : P_ := h
theorem ediv_of {z1 z2 q r:Int} (h:z1=q*z2.natAbs+r) (h0:0<=r) (h1:r < z2.natAbs):z1 / z2=(if z2 < 0 then -q else q)/\z1 % z2=r:=by
 have hb:(0:Int) < z2.natAbs:=by omega
 obtain ⟨e1,e2⟩:=(Int.ediv_emod_unique hb).2 ⟨(show r+(z2.natAbs:Int)*q=z1 by rw [h,Int.mul_comm];omega),h0,h1⟩
 by_cases hn:z2 < 0
 ·have e:(z2.natAbs:Int)= -z2:=by omega
  rw [e]at e1 e2
  rw [Int.ediv_neg]at e1
  rw [Int.emod_neg]at e2
  rw [if_pos hn]
  exact⟨by omega,e2⟩
 ·have e:(z2.natAbs:Int)=z2:=by omega
  rw [e]at e1 e2
  rw [if_neg hn]
  exact⟨e1,e2⟩
def RetQ (w:World) (q r:Int) (k:Int) (e:Ending) (w':World):Prop:=
 ∃a n c m a2 n2 c2 m2,e= .returned (.tuple #[.agg #[.slice a n c,.bool m],.agg #[.slice a2 n2 c2,.bool m2],.int .i64 k])/\Zd w' (.slice a n c) m q/\Zd w' (.slice a2 n2 c2) m2 r/\Below w.heap.size w w'
theorem Zd.nil {w:World} :Zd w (.slice none 0 0) false 0:=⟨by unfold Dg;rw [Int.natAbs_zero,dg_zero];exact Sl.nil,by simp⟩
theorem Zd.len0 {w:World} {a:OA} {n c:Nat} {m:Bool} {z:Int} (h:Zd w (.slice a n c) m z):(n=0)↔z=0:=by
 have hn:=Sl.len h.d
 rw [hn,List.length_eq_zero_iff,dg_nil_iff (b:=16777216) (by omega)];omega
theorem mZ6_3 {P_ : Prop} (h : P_ := by
 (try dsimp only)
 all_goals (first
  | (with_reducible refine aG (World.setCell (World.setCell (World.setCell (World.setCell wd _ _) _ _) _ _) _ _) ?_;refine aH ((AA.out|>.t2 2 rfl)|>.t2 3 rfl) (fun Yx=>?_);exact qZ6_2)
  | (with_reducible refine aG (World.setCell (World.setCell wd _ _) _ _) ?_;refine aH (AA.out|>.t2 2 rfl) (fun Yx=>?_);exact qZ6_2)
  | (with_reducible refine aG wd ?_;have Yx:=AA.out;exact qZ6_2)|fail)) : P_ := h
theorem mZ6_0 {P_ : Prop} (h : P_ := by
 refine hK.out _ _ ?_ (fun hH5=>?_)
 ·(try dsimp only)
  all_goals (with_reducible refine aG wc ?_;have Yx:=AB.out;exact qZ6_2)
 clear hK K hH4
 try simp only [zP]
 refine rdyL [6] ?_
 refine arc rfl (fun K hK=>?_) ?_
 ·go_simp
  (go_at_call 152;refine(sub_any _ _ _ _ _ _ _ _ _ _ _ (AB.out.z 8 rfl) (AB.out.z 5 rfl) HL2.out HL3.out).mono ?_;rintro e wd ⟨bd,kd,ld,md,rfl,hzd,hb⟩;have AA:=ζ ((AB.out.call hb).pz hzd);clear hzd hb;clear AD AF AH AJ AE AG AI AK;have A2:=AA.out.c 2 0;have A3:=AA.out.f 2 0;have A4:=AA.out.c 2 1;have A5:=AA.out.f 2 1;have A6:=AA.out.c 3 0;have A7:=AA.out.f 3 0;have A8:=AA.out.c 3 1;have A9:=AA.out.f 3 1)
  (try go_wp2_with fail)
  refine hK.out _ _ ?_ (fun hH6=>?_)
  ·exact mZ6_3
  clear hK K hH5
  try simp only [zP]
  refine rdyL [7] ?_
  refine arc rfl (fun K hK=>?_) ?_
  ·go_simp
   refine hK.out _ _ ?_ (fun hH7=>?_)
   ·exact mZ6_3
   clear hK K hH6
   try simp only [zP]
   refine rdyL [8] ?_
   refine arc rfl (fun K hK=>?_) ?_
   ·go_simp
    refine hK.out _ _ ?_ (fun hH8=>?_)
    ·exact mZ6_3
    clear hK K hH7
    try simp only [zP]
    refine wpAnyH_done (by kernel_rfl) ?_ _
    refine NoPanic.normal ?_
    all_goals (go_wp2_with fail;go_meet;exact⟨bb,kb,lb,mb,bd,kd,ld,md,St.pick ((AA.out|>.t2 2 rfl)|>.t2 3 rfl) [0,1,7,9] rfl⟩)
   exact AllReadyH.nil
  exact AllReadyH.nil
 exact AllReadyH.nil) : P_ := h
theorem mZ6_7 {P_ : Prop} (h : P_ := by
 (try dsimp only)
 all_goals (with_reducible refine aG wa ?_;have Yx:=AL.out;exact qZ6_2)) : P_ := h
theorem mZ6_5 {P_ : Prop} (h : P_ := by
 refine hK.out _ _ ?_ (fun hH4=>?_)
 ·(try dsimp only)
  all_goals (with_reducible refine aG wb ?_;have Yx:=AC.out;exact qZ6_2)
 clear hK K hH3
 try simp only [zP]
 refine rdyL [4] ?_
 refine arc rfl (fun K hK=>?_) ?_
 ·go_simp
  (go_at_call 175;refine(abs_any _ _ _ _ _ _ (AC.out.z 1 rfl)).mono ?_;rintro e wc ⟨bc,kc,lc,mc,rfl,hzc,hb⟩;have AB:=ζ ((AC.out.call hb).pz hzc);clear hzc hb;clear AM AO AQ AS AN AP AR AT;have AD:=AB.out.c 2 0;have AE:=AB.out.f 2 0;have AF:=AB.out.c 2 1;have AG:=AB.out.f 2 1;have AH:=AB.out.c 3 0;have AI:=AB.out.f 3 0;have AJ:=AB.out.c 3 1;have AK:=AB.out.f 3 1)
  (try go_wp2_with fail)
  exact mZ6_0
 exact AllReadyH.nil) : P_ := h
theorem mZ6_1 {P_ : Prop} (h : P_ := by
 refine hK.out _ _ ?_ (fun hH3=>?_)
 ·exact mZ6_7
 clear hK K hH2
 try simp only [zP]
 refine rdyL [2] ?_
 refine arc rfl (fun K hK=>?_) ?_
 ·go_simp
  (go_at_call 152;refine(sub_any _ _ _ _ _ _ _ _ _ _ _ (AL.out.z 4 rfl) (AL.out.z 6 rfl) HL1.out HL4.out).mono ?_;rintro e wb ⟨bb,kb,lb,mb,rfl,hzb,hb⟩;have AC:=ζ ((AL.out.call hb).pz hzb);clear hzb hb;clear AU AW AY A0 AV AX AZ A1;have AM:=AC.out.c 2 0;have AN:=AC.out.f 2 0;have AO:=AC.out.c 2 1;have AP:=AC.out.f 2 1;have AQ:=AC.out.c 3 0;have AR:=AC.out.f 3 0;have AS:=AC.out.c 3 1;have AT:=AC.out.f 3 1)
  (try go_wp2_with fail)
  exact mZ6_5
 exact AllReadyH.nil) : P_ := h
theorem mZ6_2 {P_ : Prop} (h : P_ := by
 refine hK.out _ _ ?_ (fun hH2=>?_)
 ·exact mZ6_7
 clear hK K hH1
 try simp only [zP]
 refine rdyL [2,5] ?_
 refine arc rfl (fun K hK=>?_) ?_
 ·go_simp
  (go_at_call 152;refine(sub_any _ _ _ _ _ _ _ _ _ _ _ (AL.out.z 4 rfl) (AL.out.z 6 rfl) HL1.out HL4.out).mono ?_;rintro e wb ⟨bb,kb,lb,mb,rfl,hzb,hb⟩;have AC:=ζ ((AL.out.call hb).pz hzb);clear hzb hb;clear AU AW AY A0 AV AX AZ A1;have AM:=AC.out.c 2 0;have AN:=AC.out.f 2 0;have AO:=AC.out.c 2 1;have AP:=AC.out.f 2 1;have AQ:=AC.out.c 3 0;have AR:=AC.out.f 3 0;have AS:=AC.out.c 3 1;have AT:=AC.out.f 3 1)
  (try go_wp2_with fail)
  refine hK.out _ _ ?_ (fun hH3=>?_)
  ·(try dsimp only)
   all_goals (with_reducible refine aG wb ?_;have Yx:=AC.out;exact qZ6_2)
  clear hK K hH2
  try simp only [zP]
  refine rdyL [4,5] ?_
  refine arc rfl (fun K hK=>?_) ?_
  ·go_simp
   (go_at_call 175;refine(abs_any _ _ _ _ _ _ (AC.out.z 1 rfl)).mono ?_;rintro e wc ⟨bc,kc,lc,mc,rfl,hzc,hb⟩;have AB:=ζ ((AC.out.call hb).pz hzc);clear hzc hb;clear AM AO AQ AS AN AP AR AT;have AD:=AB.out.c 2 0;have AE:=AB.out.f 2 0;have AF:=AB.out.c 2 1;have AG:=AB.out.f 2 1;have AH:=AB.out.c 3 0;have AI:=AB.out.f 3 0;have AJ:=AB.out.c 3 1;have AK:=AB.out.f 3 1)
   (try go_wp2_with fail)
   refine hK.out _ _ ?_ (fun hH4=>?_)
   ·(try dsimp only)
    all_goals (with_reducible refine aG wc ?_;have Yx:=AB.out;exact qZ6_2)
   clear hK K hH3
   try simp only [zP]
   refine rdyL [5] ?_
   refine arc rfl (fun K hK=>?_) ?_
   ·go_simp
    exact mZ6_0
   exact AllReadyH.nil
  refine arc rfl (fun K hK=>?_) ?_
  ·go_simp
   exact mZ6_5
  exact AllReadyH.nil
 refine arc rfl (fun K hK=>?_) ?_
 ·go_simp
  exact mZ6_1
 exact AllReadyH.nil) : P_ := h
theorem mZ6_9 {P_ : Prop} (h : P_ := by
 (try dsimp only)
 all_goals (with_reducible refine aG _ ?_;have Yx:=hC6.out.drew;exact qZ6_2)) : P_ := h
theorem mZ6_4 {P_ : Prop} (h : P_ := by
 go_simp
 refine hK.out _ _ ?_ (fun hH2=>?_)
 ·exact mZ6_9
 clear hK K hH1
 try simp only [zP]
 refine rdyL [1] ?_
 refine arc rfl (fun K hK=>?_) ?_
 ·go_simp
  (go_at_call 99;refine(int_any 1 (by omega) _).mono ?_;rintro e wa ⟨ba,ka,la,ma,rfl,hza,hb⟩;have AL:=ζ ((hC6.out.drew.call hb).pz hza);clear hza hb;clear Ab Ad Ag Ak Ac Af Aj Al;have AU:=AL.out.c 2 0;have AV:=AL.out.f 2 0;have AW:=AL.out.c 2 1;have AX:=AL.out.f 2 1;have AY:=AL.out.c 3 0;have AZ:=AL.out.f 3 0;have A0:=AL.out.c 3 1;have A1:=AL.out.f 3 1)
  (try go_wp2_with fail)
  exact mZ6_1
 exact AllReadyH.nil) : P_ := h
theorem mZ6_6 {P_ : Prop} (h : P_ := by
 have e0:=hF.c 2 0
 have e1:=hF.c 2 1
 have e2:=hF.c 3 0
 have e3:=hF.c 3 1
 simp [results,Tryz.results148,go_sem,e0,e1,e2,e3]) : P_ := h
theorem mZ6_8 {P_ : Prop} (h : P_ := by
 have e:=Nat.div_add_mod z.natAbs z2.natAbs
 have l:=Nat.mod_lt z.natAbs (show 0 < z2.natAbs by omega)
 refine⟨?_,by omega,by omega⟩
 have:((z2.natAbs*(z.natAbs / z2.natAbs)+z.natAbs % z2.natAbs:Nat):Int)=z.natAbs:=by rw [e]
 rw [Int.natCast_add,Int.natCast_mul,Int.mul_comm]at this
 omega) : P_ := h
theorem mZ6_10 {P_ : Prop} (h : P_ := by
 refine hK.out _ _ ?_ (fun hH2=>?_)
 ·exact mZ6_7
 clear hK K hH1
 try simp only [zP]
 refine rdyL [0] ?_
 refine arc rfl (fun K hK=>?_) ?_
 ·go_simp
  exact mZ6_1
 exact AllReadyH.nil) : P_ := h
theorem q_pos {z z2:Int} (h1:false=decide (z < 0)) (hz:z2≠0):z=((z.natAbs / z2.natAbs:Nat):Int)*z2.natAbs+(z.natAbs % z2.natAbs:Nat)/\(0:Int)<=(z.natAbs % z2.natAbs:Nat)/\((z.natAbs % z2.natAbs:Nat):Int) < z2.natAbs:=by
 have h:¬ z < 0:=by simpa using h1.symm
 exact mZ6_8
theorem q_ff {z z2:Int} (h1:false=decide (z < 0)) (h2:false=decide (z2 < 0)) (hz:z2≠0):z / z2=(if false=true then -((z.natAbs / z2.natAbs:Nat):Int)else((z.natAbs / z2.natAbs:Nat):Int))/\z % z2=((z.natAbs % z2.natAbs:Nat):Int):=by
 obtain ⟨a,b,c⟩:=q_pos h1 hz
 have h:¬ z2 < 0:=by simpa using h2.symm
 have:=ediv_of a b c
 rw [if_neg h]at this
 simpa using this
theorem q_ft {z z2:Int} (h1:false=decide (z < 0)) (h2:true=decide (z2 < 0)) (hz:z2≠0):z / z2= -(if false=true then -((z.natAbs / z2.natAbs:Nat):Int)else((z.natAbs / z2.natAbs:Nat):Int))/\z % z2=((z.natAbs % z2.natAbs:Nat):Int):=by
 obtain ⟨a,b,c⟩:=q_pos h1 hz
 have h:z2 < 0:=by simpa using h2.symm
 have:=ediv_of a b c
 rw [if_pos h]at this
 simpa using this
theorem dlm {m n:Nat} (h:m<=n):(dg 16777216 m).length<=(dg 16777216 n).length:=dg_len_le (by omega) (Nat.lt_of_le_of_lt h (dg_len_lt (by omega) n))
theorem q_neg {z z2:Int} (h1:true=decide (z < 0)) (hz:z2≠0):z= -(((z.natAbs / z2.natAbs:Nat):Int)*z2.natAbs) - (z.natAbs % z2.natAbs:Nat)/\(0:Int)<=(z.natAbs % z2.natAbs:Nat)/\((z.natAbs % z2.natAbs:Nat):Int) < z2.natAbs:=by
 have h:z < 0:=by simpa using h1.symm
 exact mZ6_8
theorem q_0 {z z2:Int} (h1:true=decide (z < 0)) (hz:z2≠0) (h0:z.natAbs % z2.natAbs=0):z / z2=(if z2 < 0 then -(-((z.natAbs / z2.natAbs:Nat):Int))else -((z.natAbs / z2.natAbs:Nat):Int))/\z % z2=((z.natAbs % z2.natAbs:Nat):Int):=by
 obtain ⟨a,b,c⟩:=q_neg h1 hz
 rw [h0]at a
 rw [h0]
 exact ediv_of (by rw [Int.neg_mul];omega) (by omega) (by omega)
theorem q_0f {z z2:Int} (h1:true=decide (z < 0)) (h2:false=decide (z2 < 0)) (hz:z2≠0) (h0:z.natAbs % z2.natAbs=0):z / z2=(if true=true then -((z.natAbs / z2.natAbs:Nat):Int)else((z.natAbs / z2.natAbs:Nat):Int))/\z % z2=((z.natAbs % z2.natAbs:Nat):Int):=by
 have h:¬ z2 < 0:=by simpa using h2.symm
 have:=q_0 h1 hz h0
 rw [if_neg h]at this
 exact this
theorem q_0t {z z2:Int} (h1:true=decide (z < 0)) (h2:true=decide (z2 < 0)) (hz:z2≠0) (h0:z.natAbs % z2.natAbs=0):z / z2= -(if true=true then -((z.natAbs / z2.natAbs:Nat):Int)else((z.natAbs / z2.natAbs:Nat):Int))/\z % z2=((z.natAbs % z2.natAbs:Nat):Int):=by
 have h:z2 < 0:=by simpa using h2.symm
 have:=q_0 h1 hz h0
 rw [if_pos h]at this
 exact this
theorem q_1 {z z2:Int} (h1:true=decide (z < 0)) (hz:z2≠0) (h0:¬ z.natAbs % z2.natAbs=0):z / z2=(if z2 < 0 then -(-((z.natAbs / z2.natAbs:Nat):Int) - 1)else -((z.natAbs / z2.natAbs:Nat):Int) - 1)/\z % z2=((z2.natAbs:Nat):Int) - ((z.natAbs % z2.natAbs:Nat):Int):=by
 obtain ⟨a,b,c⟩:=q_neg h1 hz
 exact ediv_of (by rw [Int.sub_mul,Int.neg_mul];omega) (by omega) (by omega)
theorem q_1f {z z2:Int} (h1:true=decide (z < 0)) (h2:false=decide (z2 < 0)) (hz:z2≠0) (h0:¬ z.natAbs % z2.natAbs=0):z / z2=(if true=true then -((z.natAbs / z2.natAbs:Nat):Int)else((z.natAbs / z2.natAbs:Nat):Int)) - 1/\z % z2=((z2.natAbs:Nat):Int) - ((z.natAbs % z2.natAbs:Nat):Int):=by
 have h:¬ z2 < 0:=by simpa using h2.symm
 have:=q_1 h1 hz h0
 rw [if_neg h]at this
 exact this
theorem q_1t {z z2:Int} (h1:true=decide (z < 0)) (h2:true=decide (z2 < 0)) (hz:z2≠0) (h0:¬ z.natAbs % z2.natAbs=0):z / z2= -((if true=true then -((z.natAbs / z2.natAbs:Nat):Int)else((z.natAbs / z2.natAbs:Nat):Int)) - 1)/\z % z2=((z2.natAbs:Nat):Int) - ((z.natAbs % z2.natAbs:Nat):Int):=by
 have h:z2 < 0:=by simpa using h2.symm
 have:=q_1 h1 hz h0
 rw [if_pos h]at this
 exact this
theorem quotient_nz (a:OA) (n c:Nat) (m:Bool) (z:Int) (a2:OA) (n2 c2:Nat) (m2:Bool) (z2:Int) (w:World) (h:Zd w (.slice a n c) m z) (h2:Zd w (.slice a2 n2 c2) m2 z2) (hz:z2≠0)
  (hl:(dg 16777216 z.natAbs).length<=1000000) (hl2:(dg 16777216 z2.natAbs).length<=1000000):
  Calls Tryz.prog 148 #[.agg #[.slice a n c,.bool m],.agg #[.slice a2 n2 c2,.bool m2]] w (RetQ w (z / z2) (z % z2) 0):=by
 have hn0:((n2:Int)==0)=false:=by simpa using fun e=>hz (h2.len0.1 e)
 have HN:=ζ hn0
 have HZ:=ζ hz
 have hC:=ζ ((((((St.enter w).pz h).pz h2).al w.heap.size #[.slice a n c,.bool m] 40 rfl rfl).al (w.heap.size+1) #[.slice a2 n2 c2,.bool m2] 40 (by simp) rfl).al (w.heap.size+2) #[.slice none 0 0,.bool false] 40 (by simp) rfl|>.al (w.heap.size+3) #[.slice none 0 0,.bool false] 40 (by simp) rfl)
 clear h h2 hz hn0
 go_enter Tryz.func148,Tryz.ntmps148
 go_wp2_with fail
 refine(none_any _ _ _ _).mono ?_
 rintro e w1 ⟨rfl,hw1⟩
 have hC1:=ζ (hC.out.call (W':=w1) (by rw [hw1];exact(Below.refl _ _).alloc (Nat.le_refl _) _))
 clear hC hw1
 rw [HN.out]
 have h10:=hC1.out.c 0 0
 have h20:=hC1.out.c 1 0
 go_wp2_with fail
 refine(over_any _ _ _ _ _ _ z.natAbs z2.natAbs _ (hC1.out.z 0 rfl).d (hC1.out.z 1 rfl).d (by have:=HZ.out;omega) hl hl2).mono ?_
 rintro e w2 ⟨b1,k1,l1,b2,k2,l2,rfl,hdq,hdr,hb⟩
 have hC2:=ζ (((hC1.out.call hb).pd hdq).pd hdr|>.al w2.heap.size #[.slice b1 k1 l1] 38 rfl rfl|>.al (w2.heap.size+1) #[.slice b2 k2 l2] 38 (by simp) rfl)
 have HM1:=ζ (hC1.out.z 0 rfl).m
 have HM2:=ζ (hC1.out.z 1 rfl).m
 have HR:=ζ (Zd.len0 (m:=false) (z:=(z.natAbs % z2.natAbs:Nat)) ⟨by rw [Int.natAbs_natCast];exact hdr,by simp;omega⟩)
 have HZ3:=ζ (show((z.natAbs % z2.natAbs:Nat):Int)=if false=true then -((z.natAbs % z2.natAbs:Nat):Int)else((z.natAbs % z2.natAbs:Nat):Int)from rfl)
 clear hC1 h10 h20 hb hdq hdr
 go_wp2_with fail
 go_region_held3 (fun w'=>w'.cell? ⟨w.heap.size,1,none⟩=some (.bool m)/\w'.cell? ⟨w2.heap.size,0,none⟩=some (.slice b1 k1 l1)/\w'.cell? ⟨w2.heap.size+1,0,none⟩=some (.slice b2 k2 l2)/\True)
  (first
   | (with_reducible refine aG (World.setCell (World.setCell (World.setCell (World.setCell w4 _ _) _ _) _ _) _ _) ?_;refine aH ((hC4.out|>.t2 2 rfl)|>.t2 3 rfl) (fun Yx=>?_);exact qZ6_0)
   | (with_reducible refine aG (World.setCell (World.setCell w4 _ _) _ _) ?_;refine aH (hC4.out|>.t2 2 rfl) (fun Yx=>?_);exact qZ6_0)
   | (with_reducible refine aG w4 ?_;have Yx:=hC4.out;exact qZ6_0)
   | (with_reducible refine aG w3 ?_;have Yx:=hC3.out;exact qZ6_0)
   | (with_reducible refine aG _ ?_;have Yx:=hC2.out.drew;exact qZ6_0)|fail)
  (first
   | (go_at_call 149;refine(made_any false b2 k2 l2 (z.natAbs % z2.natAbs) _ (hC3.out.d 3 rfl) ((z.natAbs % z2.natAbs:Nat):Int) HZ3.out).mono ?_;rintro e w4 ⟨b4,k4,l4,m4,rfl,hz4,hb⟩;have hC4:=ζ ((hC3.out.call hb).pz hz4);clear hz4 hb;have BL:=hC4.out.c 2 0;have BM:=hC4.out.f 2 0;have BN:=hC4.out.c 2 1;have BO:=hC4.out.f 2 1;have BP:=hC4.out.c 3 0;have BQ:=hC4.out.f 3 0;have BR:=hC4.out.c 3 1;have BS:=hC4.out.f 3 1)
   | (go_at_call 149;refine(made_any m b1 k1 l1 (z.natAbs / z2.natAbs) _ (hC2.out.drew.d 2 rfl) _ rfl).mono ?_;rintro e w3 ⟨b3,k3,l3,m3,rfl,hz3,hb⟩;have hC3:=ζ ((hC2.out.drew.call hb).pz hz3);clear hz3 hb))
 refine gen_app ((hC4.out|>.t2 2 rfl)|>.t2 3 rfl) ?_
 intro W5 hc5
 have hC5:Hid (St w W5 [(w.heap.size,#[.slice a n c,.bool m],40),(w.heap.size+1,#[.slice a2 n2 c2,.bool m2],40),(w.heap.size+2,#[.slice b3 k3 l3,.bool m3],40),(w.heap.size+3,#[.slice b4 k4 l4,.bool m4],40),(w2.heap.size,#[.slice b1 k1 l1],38),(w2.heap.size+1,#[.slice b2 k2 l2],38)] _):=ζ hc5
 clear hc5 hC2 hC3 hC4 BL BN BP BR BM BO BQ BS
 cases m
 ·have x01:=hC5.out.c 0 1
  have BT:=hC5.out.c 1 1
  cases m2
  ·have Ar:=hC5.out.c 2 0
   have As:=hC5.out.f 2 0
   have Av:=hC5.out.c 2 1
   have Ax:=hC5.out.f 2 1
   have BW:=hC5.out.c 3 0
   have BX:=hC5.out.f 3 0
   have BY:=hC5.out.c 3 1
   have BZ:=hC5.out.f 3 1
   go_wp2_with fail
   go_region_held3 (fun w'=>w'.cell? ⟨w.heap.size+2,0,none⟩=some (.slice b3 k3 l3)/\w'.cell? ⟨w.heap.size+2,1,none⟩=some (.bool m3)/\w'.cell? ⟨w.heap.size+3,0,none⟩=some (.slice b4 k4 l4)/\w'.cell? ⟨w.heap.size+3,1,none⟩=some (.bool m4)/\True)
    (first
     | (with_reducible refine aG (World.drew (World.setCell (World.setCell (World.setCell (World.setCell W5 _ _) _ _) _ _) _ _)) ?_;refine aH (((hC5.out|>.t2 2 rfl)|>.t2 3 rfl).drew) (fun Yx=>?_);exact qZ6_1)
     | (with_reducible refine aG (World.drew (World.setCell (World.setCell W5 _ _) _ _)) ?_;refine aH ((hC5.out|>.t2 2 rfl).drew) (fun Yx=>?_);exact qZ6_1)
     | (with_reducible refine aG _ ?_;have Yx:=hC5.out.drew;exact qZ6_1)|fail)
    (first
     | (fail))
   go_wp2
   refine ret_st ((hC5.out|>.t2 2 rfl)|>.t2 3 rfl).drew (v:= .tuple #[.agg #[.slice b3 k3 l3,.bool m3],.agg #[.slice b4 k4 l4,.bool m4],.int .i64 0]) (fun hF=>?_) rfl (fun hF=>⟨_,_,_,_,_,_,_,_,rfl,?_,?_,hF.be⟩)
   ·exact mZ6_6
   ·rw [(q_ff HM1.out HM2.out HZ.out).1];exact hF.z 4 rfl
   ·rw [(q_ff HM1.out HM2.out HZ.out).2];exact hF.z 5 rfl
  ·have Ar:=hC5.out.c 2 0
   have As:=hC5.out.f 2 0
   have Av:=hC5.out.c 2 1
   have Ax:=hC5.out.f 2 1
   go_wp2_with fail
   refine(neg_any _ _ _ _ _ _ (hC5.out.z 4 rfl)).mono ?_
   rintro e w7 ⟨b7,k7,l7,m7,rfl,hz7,hb⟩
   have hC7:=ζ ((hC5.out.call hb).pz hz7)
   clear hz7 hb
   clear Ar Av As Ax BT
   have Am:=hC7.out.c 2 0
   have An:=hC7.out.f 2 0
   have Ap:=hC7.out.c 2 1
   have Aq:=hC7.out.f 2 1
   go_wp2_with fail
   refine wp_gen (hC7.out|>.t2 2 rfl) ?_
   intro W8 hc8
   have hC8:Hid (St w W8 [(w.heap.size,#[.slice a n c,.bool false],40),(w.heap.size+1,#[.slice a2 n2 c2,.bool true],40),(w.heap.size+2,#[.slice b7 k7 l7,.bool m7],40),(w.heap.size+3,#[.slice b4 k4 l4,.bool m4],40),(w2.heap.size,#[.slice b1 k1 l1],38),(w2.heap.size+1,#[.slice b2 k2 l2],38)] _):=ζ hc8
   clear hc8 hC7 hC5 Am Ap An Aq
   have Az:=hC8.out.c 2 0
   have BA:=hC8.out.f 2 0
   have BB:=hC8.out.c 2 1
   have BC:=hC8.out.f 2 1
   have BD:=hC8.out.c 3 0
   have BE:=hC8.out.f 3 0
   have BF:=hC8.out.c 3 1
   have BG:=hC8.out.f 3 1
   go_wp2_with fail
   go_region_held3 (fun w'=>w'.cell? ⟨w.heap.size+2,0,none⟩=some (.slice b7 k7 l7)/\w'.cell? ⟨w.heap.size+2,1,none⟩=some (.bool m7)/\w'.cell? ⟨w.heap.size+3,0,none⟩=some (.slice b4 k4 l4)/\w'.cell? ⟨w.heap.size+3,1,none⟩=some (.bool m4)/\True)
    (first
     | (with_reducible refine aG (World.drew (World.setCell (World.setCell (World.setCell (World.setCell W8 _ _) _ _) _ _) _ _)) ?_;refine aH (((hC8.out|>.t2 2 rfl)|>.t2 3 rfl).drew) (fun Yx=>?_);exact qZ6_1)
     | (with_reducible refine aG (World.drew (World.setCell (World.setCell W8 _ _) _ _)) ?_;refine aH ((hC8.out|>.t2 2 rfl).drew) (fun Yx=>?_);exact qZ6_1)
     | (with_reducible refine aG _ ?_;have Yx:=hC8.out.drew;exact qZ6_1)|fail)
    (first
     | (fail))
   go_wp2
   refine ret_st ((hC8.out|>.t2 2 rfl)|>.t2 3 rfl).drew (v:= .tuple #[.agg #[.slice b7 k7 l7,.bool m7],.agg #[.slice b4 k4 l4,.bool m4],.int .i64 0]) (fun hF=>?_) rfl (fun hF=>⟨_,_,_,_,_,_,_,_,rfl,?_,?_,hF.be⟩)
   ·exact mZ6_6
   ·rw [(q_ft HM1.out HM2.out HZ.out).1];exact hF.z 6 rfl
   ·rw [(q_ft HM1.out HM2.out HZ.out).2];exact hF.z 5 rfl
 ·have x01:=hC5.out.c 0 1
  have x50:=hC5.out.c 5 0
  go_wp2_with fail
  refine(none_any _ _ _ _).mono ?_
  rintro e w6 ⟨rfl,hw6⟩
  have hC6:=ζ (hC5.out.call (W':=w6) (by rw [hw6];exact(Below.refl _ _).alloc (Nat.le_refl _) _))
  clear hC5 hw6 x01 x50
  by_cases hr:z.natAbs % z2.natAbs=0
  ·have hk:((k2:Int)==0)=true:=by simpa using HR.out.2 (by omega)
   have H0:=ζ hr
   rw [hk]
   clear hr hk
   have BU:=hC6.out.c 1 1
   cases m2
   ·have Ab:=hC6.out.c 2 0
    have Ac:=hC6.out.f 2 0
    have Ad:=hC6.out.c 2 1
    have Af:=hC6.out.f 2 1
    have Ag:=hC6.out.c 3 0
    have Aj:=hC6.out.f 3 0
    have Ak:=hC6.out.c 3 1
    have Al:=hC6.out.f 3 1
    go_wp2_with fail
    go_region_held3 (fun w'=>w'.cell? ⟨w.heap.size+2,0,none⟩=some (.slice b3 k3 l3)/\w'.cell? ⟨w.heap.size+2,1,none⟩=some (.bool m3)/\w'.cell? ⟨w.heap.size+3,0,none⟩=some (.slice b4 k4 l4)/\w'.cell? ⟨w.heap.size+3,1,none⟩=some (.bool m4)/\True)
     (first
      | (with_reducible refine aG (World.drew (World.setCell (World.setCell (World.setCell (World.setCell w6 _ _) _ _) _ _) _ _)) ?_;refine aH (((hC6.out|>.t2 2 rfl)|>.t2 3 rfl).drew) (fun Yx=>?_);exact qZ6_1)
      | (with_reducible refine aG (World.drew (World.setCell (World.setCell w6 _ _) _ _)) ?_;refine aH ((hC6.out|>.t2 2 rfl).drew) (fun Yx=>?_);exact qZ6_1)
      | (with_reducible refine aG _ ?_;have Yx:=hC6.out.drew;exact qZ6_1)|fail)
     (first
      | (fail))
    go_wp2
    refine ret_st ((hC6.out|>.t2 2 rfl)|>.t2 3 rfl).drew (v:= .tuple #[.agg #[.slice b3 k3 l3,.bool m3],.agg #[.slice b4 k4 l4,.bool m4],.int .i64 0]) (fun hF=>?_) rfl (fun hF=>⟨_,_,_,_,_,_,_,_,rfl,?_,?_,hF.be⟩)
    ·exact mZ6_6
    ·rw [(q_0f HM1.out HM2.out HZ.out H0.out).1];exact hF.z 4 rfl
    ·rw [(q_0f HM1.out HM2.out HZ.out H0.out).2];exact hF.z 5 rfl
   ·have Ab:=hC6.out.c 2 0
    have Ac:=hC6.out.f 2 0
    have Ad:=hC6.out.c 2 1
    have Af:=hC6.out.f 2 1
    go_wp2_with fail
    refine(neg_any _ _ _ _ _ _ (hC6.out.z 4 rfl)).mono ?_
    rintro e w7 ⟨b7,k7,l7,m7,rfl,hz7,hb⟩
    have hC7:=ζ ((hC6.out.call hb).pz hz7)
    clear hz7 hb
    clear Ab Ad Ac Af BU
    have Am:=hC7.out.c 2 0
    have An:=hC7.out.f 2 0
    have Ap:=hC7.out.c 2 1
    have Aq:=hC7.out.f 2 1
    go_wp2_with fail
    refine wp_gen (hC7.out|>.t2 2 rfl) ?_
    intro W8 hc8
    have hC8:Hid (St w W8 [(w.heap.size,#[.slice a n c,.bool true],40),(w.heap.size+1,#[.slice a2 n2 c2,.bool true],40),(w.heap.size+2,#[.slice b7 k7 l7,.bool m7],40),(w.heap.size+3,#[.slice b4 k4 l4,.bool m4],40),(w2.heap.size,#[.slice b1 k1 l1],38),(w2.heap.size+1,#[.slice b2 k2 l2],38)] _):=ζ hc8
    clear hc8 hC7 hC6 Am Ap An Aq
    have Az:=hC8.out.c 2 0
    have BA:=hC8.out.f 2 0
    have BB:=hC8.out.c 2 1
    have BC:=hC8.out.f 2 1
    have BD:=hC8.out.c 3 0
    have BE:=hC8.out.f 3 0
    have BF:=hC8.out.c 3 1
    have BG:=hC8.out.f 3 1
    go_wp2_with fail
    go_region_held3 (fun w'=>w'.cell? ⟨w.heap.size+2,0,none⟩=some (.slice b7 k7 l7)/\w'.cell? ⟨w.heap.size+2,1,none⟩=some (.bool m7)/\w'.cell? ⟨w.heap.size+3,0,none⟩=some (.slice b4 k4 l4)/\w'.cell? ⟨w.heap.size+3,1,none⟩=some (.bool m4)/\True)
     (first
      | (with_reducible refine aG (World.drew (World.setCell (World.setCell (World.setCell (World.setCell W8 _ _) _ _) _ _) _ _)) ?_;refine aH (((hC8.out|>.t2 2 rfl)|>.t2 3 rfl).drew) (fun Yx=>?_);exact qZ6_1)
      | (with_reducible refine aG (World.drew (World.setCell (World.setCell W8 _ _) _ _)) ?_;refine aH ((hC8.out|>.t2 2 rfl).drew) (fun Yx=>?_);exact qZ6_1)
      | (with_reducible refine aG _ ?_;have Yx:=hC8.out.drew;exact qZ6_1)|fail)
     (first
      | (fail))
    go_wp2
    refine ret_st ((hC8.out|>.t2 2 rfl)|>.t2 3 rfl).drew (v:= .tuple #[.agg #[.slice b7 k7 l7,.bool m7],.agg #[.slice b4 k4 l4,.bool m4],.int .i64 0]) (fun hF=>?_) rfl (fun hF=>⟨_,_,_,_,_,_,_,_,rfl,?_,?_,hF.be⟩)
    ·exact mZ6_6
    ·rw [(q_0t HM1.out HM2.out HZ.out H0.out).1];exact hF.z 6 rfl
    ·rw [(q_0t HM1.out HM2.out HZ.out H0.out).2];exact hF.z 5 rfl
  ·have hk:((k2:Int)==0)=false:=by simpa using fun e=>hr (by have:=HR.out.1 e;omega)
   have H0:=ζ hr
   rw [hk]
   clear hr hk
   have HL1:=ζ (show(dg 16777216 (if true=true then -((z.natAbs / z2.natAbs:Nat):Int)else((z.natAbs / z2.natAbs:Nat):Int)).natAbs).length<=10000000 from Nat.le_trans (dlm (by simp only [if_true,Int.natAbs_neg,Int.natAbs_natCast];exact Nat.div_le_self _ _)) (Nat.le_trans hl (by omega)))
   have HL2:=ζ (show(dg 16777216 (((z2.natAbs:Nat):Int)).natAbs).length<=10000000 by rw [Int.natAbs_natCast];omega)
   have HL3:=ζ (show(dg 16777216 (((z.natAbs % z2.natAbs:Nat):Int)).natAbs).length<=10000000 by rw [Int.natAbs_natCast];exact Nat.le_trans (dlm (Nat.le_of_lt (Nat.mod_lt _ (by have:=HZ.out;omega)))) (Nat.le_trans hl2 (by omega)))
   have HL4:=ζ (show(dg 16777216 ((1:Int)).natAbs).length<=10000000 from Nat.le_trans (dg_len_le (k:=1) (by omega) (by decide)) (by omega))
   go_upto_region 6 with fail
   go_cut [] (fun wx=>∃bb kb lb mb bd kd ld md,St w wx [(w.heap.size,#[.slice a n c,.bool true],40),(w.heap.size+1,#[.slice a2 n2 c2,.bool m2],40),(w.heap.size+2,#[.slice bb kb lb,.bool mb],40),(w.heap.size+3,#[.slice bd kd ld,.bool md],40),(w2.heap.size,#[.slice b1 k1 l1],38),(w2.heap.size+1,#[.slice b2 k2 l2],38)] [fun V=>Zd V (.slice a n c) true z,fun V=>Zd V (.slice a2 n2 c2) m2 z2,fun V=>Zd V (.slice bb kb lb) mb ((if true=true then -((z.natAbs / z2.natAbs:Nat):Int)else((z.natAbs / z2.natAbs:Nat):Int)) - 1),fun V=>Zd V (.slice bd kd ld) md (((z2.natAbs:Nat):Int) - ((z.natAbs % z2.natAbs:Nat):Int))])
   case first=>
    have Ab:=hC6.out.c 2 0
    have Ac:=hC6.out.f 2 0
    have Ad:=hC6.out.c 2 1
    have Af:=hC6.out.f 2 1
    have Ag:=hC6.out.c 3 0
    have Aj:=hC6.out.f 3 0
    have Ak:=hC6.out.c 3 1
    have Al:=hC6.out.f 3 1
    refine wp_region_noPanic ?_
    refine wp_region_held_drew (S:=(fun w'=>w'.cell? ⟨w.heap.size+1,0,none⟩=some (.slice a2 n2 c2)/\w'.cell? ⟨w.heap.size+1,1,none⟩=some (.bool m2)/\True)) (by kernel_rfl) ?_ (fun hH0=>?_)
    ·exact mZ6_9
    refine tkA 3 rfl hH0 ?_
    try simp only [zP]
    refine rdyL [0,1,5] ?_
    refine arc rfl (fun K hK=>?_) ?_
    ·go_simp
     refine hK.out _ _ ?_ (fun hH1=>?_)
     ·exact mZ6_9
     clear hK K hH0
     try simp only [zP]
     refine rdyL [1,5] ?_
     refine arc rfl (fun K hK=>?_) ?_
     ·go_simp
      (go_at_call 99;refine(int_any 1 (by omega) _).mono ?_;rintro e wa ⟨ba,ka,la,ma,rfl,hza,hb⟩;have AL:=ζ ((hC6.out.drew.call hb).pz hza);clear hza hb;clear Ab Ad Ag Ak Ac Af Aj Al;have AU:=AL.out.c 2 0;have AV:=AL.out.f 2 0;have AW:=AL.out.c 2 1;have AX:=AL.out.f 2 1;have AY:=AL.out.c 3 0;have AZ:=AL.out.f 3 0;have A0:=AL.out.c 3 1;have A1:=AL.out.f 3 1)
      (try go_wp2_with fail)
      exact mZ6_2
     refine arc rfl (fun K hK=>?_) ?_
     ·exact mZ6_4
     exact AllReadyH.nil
    refine arc rfl (fun K hK=>?_) ?_
    ·go_simp
     (go_at_call 99;refine(int_any 1 (by omega) _).mono ?_;rintro e wa ⟨ba,ka,la,ma,rfl,hza,hb⟩;have AL:=ζ ((hC6.out.drew.call hb).pz hza);clear hza hb;clear Ab Ad Ag Ak Ac Af Aj Al;have AU:=AL.out.c 2 0;have AV:=AL.out.f 2 0;have AW:=AL.out.c 2 1;have AX:=AL.out.f 2 1;have AY:=AL.out.c 3 0;have AZ:=AL.out.f 3 0;have A0:=AL.out.c 3 1;have A1:=AL.out.f 3 1)
     (try go_wp2_with fail)
     refine hK.out _ _ ?_ (fun hH1=>?_)
     ·exact mZ6_7
     clear hK K hH0
     try simp only [zP]
     refine rdyL [0,5] ?_
     refine arc rfl (fun K hK=>?_) ?_
     ·go_simp
      exact mZ6_2
     refine arc rfl (fun K hK=>?_) ?_
     ·go_simp
      exact mZ6_10
     exact AllReadyH.nil
    refine arc rfl (fun K hK=>?_) ?_
    ·go_simp
     refine hK.out _ _ ?_ (fun hH1=>?_)
     ·exact mZ6_9
     clear hK K hH0
     try simp only [zP]
     refine rdyL [0,1] ?_
     refine arc rfl (fun K hK=>?_) ?_
     ·exact mZ6_4
     refine arc rfl (fun K hK=>?_) ?_
     ·go_simp
      (go_at_call 99;refine(int_any 1 (by omega) _).mono ?_;rintro e wa ⟨ba,ka,la,ma,rfl,hza,hb⟩;have AL:=ζ ((hC6.out.drew.call hb).pz hza);clear hza hb;clear Ab Ad Ag Ak Ac Af Aj Al;have AU:=AL.out.c 2 0;have AV:=AL.out.f 2 0;have AW:=AL.out.c 2 1;have AX:=AL.out.f 2 1;have AY:=AL.out.c 3 0;have AZ:=AL.out.f 3 0;have A0:=AL.out.c 3 1;have A1:=AL.out.f 3 1)
      (try go_wp2_with fail)
      exact mZ6_10
     exact AllReadyH.nil
    exact AllReadyH.nil
   case rest=>
    obtain ⟨bb,kb,lb,mb,bd,kd,ld,md,hc9⟩:=hcut
    have hC9:=ζ hc9
    clear hc9 hC6
    have BV:=hC9.out.c 1 1
    cases m2
    ·have BH:=hC9.out.c 2 0
     have BI:=hC9.out.f 2 0
     have BJ:=hC9.out.c 2 1
     have BK:=hC9.out.f 2 1
     have B0:=hC9.out.c 3 0
     have B1:=hC9.out.f 3 0
     have B2:=hC9.out.c 3 1
     have B3:=hC9.out.f 3 1
     go_wp2_with fail
     go_region_held3 (fun w'=>w'.cell? ⟨w.heap.size+2,0,none⟩=some (.slice bb kb lb)/\w'.cell? ⟨w.heap.size+2,1,none⟩=some (.bool mb)/\w'.cell? ⟨w.heap.size+3,0,none⟩=some (.slice bd kd ld)/\w'.cell? ⟨w.heap.size+3,1,none⟩=some (.bool md)/\True)
      (first
       | (with_reducible refine aG (World.drew (World.setCell (World.setCell (World.setCell (World.setCell wc _ _) _ _) _ _) _ _)) ?_;refine aH (((hC9.out|>.t2 2 rfl)|>.t2 3 rfl).drew) (fun Yx=>?_);exact qZ6_1)
       | (with_reducible refine aG (World.drew (World.setCell (World.setCell wc _ _) _ _)) ?_;refine aH ((hC9.out|>.t2 2 rfl).drew) (fun Yx=>?_);exact qZ6_1)
       | (with_reducible refine aG _ ?_;have Yx:=hC9.out.drew;exact qZ6_1)|fail)
      (first
       | (fail))
     go_wp2
     refine ret_st ((hC9.out|>.t2 2 rfl)|>.t2 3 rfl).drew (v:= .tuple #[.agg #[.slice bb kb lb,.bool mb],.agg #[.slice bd kd ld,.bool md],.int .i64 0]) (fun hF=>?_) rfl (fun hF=>⟨_,_,_,_,_,_,_,_,rfl,?_,?_,hF.be⟩)
     ·exact mZ6_6
     ·rw [(q_1f HM1.out HM2.out HZ.out H0.out).1];exact hF.z 2 rfl
     ·rw [(q_1f HM1.out HM2.out HZ.out H0.out).2];exact hF.z 3 rfl
    ·have BH:=hC9.out.c 2 0
     have BI:=hC9.out.f 2 0
     have BJ:=hC9.out.c 2 1
     have BK:=hC9.out.f 2 1
     go_wp2_with fail
     refine(neg_any _ _ _ _ _ _ (hC9.out.z 2 rfl)).mono ?_
     rintro e w7 ⟨b7,k7,l7,m7,rfl,hz7,hb⟩
     have hC7:=ζ ((hC9.out.call hb).pz hz7)
     clear hz7 hb
     clear BH BJ BI BK BV
     have Am:=hC7.out.c 2 0
     have An:=hC7.out.f 2 0
     have Ap:=hC7.out.c 2 1
     have Aq:=hC7.out.f 2 1
     go_wp2_with fail
     refine wp_gen (hC7.out|>.t2 2 rfl) ?_
     intro W8 hc8
     have hC8:Hid (St w W8 [(w.heap.size,#[.slice a n c,.bool true],40),(w.heap.size+1,#[.slice a2 n2 c2,.bool true],40),(w.heap.size+2,#[.slice b7 k7 l7,.bool m7],40),(w.heap.size+3,#[.slice bd kd ld,.bool md],40),(w2.heap.size,#[.slice b1 k1 l1],38),(w2.heap.size+1,#[.slice b2 k2 l2],38)] _):=ζ hc8
     clear hc8 hC7 hC9 Am Ap An Aq
     have Az:=hC8.out.c 2 0
     have BA:=hC8.out.f 2 0
     have BB:=hC8.out.c 2 1
     have BC:=hC8.out.f 2 1
     have BD:=hC8.out.c 3 0
     have BE:=hC8.out.f 3 0
     have BF:=hC8.out.c 3 1
     have BG:=hC8.out.f 3 1
     go_wp2_with fail
     go_region_held3 (fun w'=>w'.cell? ⟨w.heap.size+2,0,none⟩=some (.slice b7 k7 l7)/\w'.cell? ⟨w.heap.size+2,1,none⟩=some (.bool m7)/\w'.cell? ⟨w.heap.size+3,0,none⟩=some (.slice bd kd ld)/\w'.cell? ⟨w.heap.size+3,1,none⟩=some (.bool md)/\True)
      (first
       | (with_reducible refine aG (World.drew (World.setCell (World.setCell (World.setCell (World.setCell W8 _ _) _ _) _ _) _ _)) ?_;refine aH (((hC8.out|>.t2 2 rfl)|>.t2 3 rfl).drew) (fun Yx=>?_);exact qZ6_1)
       | (with_reducible refine aG (World.drew (World.setCell (World.setCell W8 _ _) _ _)) ?_;refine aH ((hC8.out|>.t2 2 rfl).drew) (fun Yx=>?_);exact qZ6_1)
       | (with_reducible refine aG _ ?_;have Yx:=hC8.out.drew;exact qZ6_1)|fail)
      (first
       | (fail))
     go_wp2
     refine ret_st ((hC8.out|>.t2 2 rfl)|>.t2 3 rfl).drew (v:= .tuple #[.agg #[.slice b7 k7 l7,.bool m7],.agg #[.slice bd kd ld,.bool md],.int .i64 0]) (fun hF=>?_) rfl (fun hF=>⟨_,_,_,_,_,_,_,_,rfl,?_,?_,hF.be⟩)
     ·exact mZ6_6
     ·rw [(q_1t HM1.out HM2.out HZ.out H0.out).1];exact hF.z 4 rfl
     ·rw [(q_1t HM1.out HM2.out HZ.out H0.out).2];exact hF.z 3 rfl
end Go.Proofs.YthmdhlopeponcaaGreatDoor
