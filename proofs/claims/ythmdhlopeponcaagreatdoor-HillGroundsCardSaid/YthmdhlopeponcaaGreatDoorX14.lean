/- the integers: Quotient -/
import Derived.Test.YthmdhlopeponcaaGreatDoorX0
import Derived.Test.YthmdhlopeponcaaGreatDoorX8
import Derived.Test.YthmdhlopeponcaaGreatDoorX13
import Derived.Deep.DeepCutAuto
set_option maxRecDepth 100000
set_option maxHeartbeats 2000000
namespace Go.Proofs.YthmdhlopeponcaaGreatDoor
open Go.RowKit Dig
theorem ediv_of {z1 z2 q r:Int} (h:z1=q*z2.natAbs+r) (h0:0≤r) (h1:r < z2.natAbs):z1 / z2=(if z2 < 0 then -q else q)∧z1 % z2=r:=by
 have hb:(0:Int) < z2.natAbs:=by omega
 obtain ⟨e1,e2⟩:=(Int.ediv_emod_unique hb).2 ⟨(show r+(z2.natAbs:Int)*q=z1 by rw [h,Int.mul_comm];omega),h0,h1⟩
 by_cases hn:z2 < 0
 ·have e:(z2.natAbs:Int)= -z2:=by omega
  rw [e]at e1 e2
  rw [Int.ediv_neg]at e1
  rw [Int.emod_neg]at e2
  rw [if_pos hn]
  exact⟨by omega,e2⟩
 ·have e:(z2.natAbs:Int)=z2:=by omega
  rw [e]at e1 e2
  rw [if_neg hn]
  exact⟨e1,e2⟩
def RetQ (w:World) (q r:Int) (k:Int) (e:Ending) (w':World):Prop:=
 ∃a n c m a2 n2 c2 m2,e= .returned (.tuple #[.agg #[.slice a n c,.bool m],.agg #[.slice a2 n2 c2,.bool m2],.int .i64 k])∧Zd w' (.slice a n c) m q∧Zd w' (.slice a2 n2 c2) m2 r∧Below w.heap.size w w'
theorem Zd.nil {w:World} :Zd w (.slice none 0 0) false 0:=⟨by unfold Dg;rw [Int.natAbs_zero,dg_zero];exact Sl.nil,by simp⟩
theorem Zd.len0 {w:World} {a:Option Addr} {n c:Nat} {m:Bool} {z:Int} (h:Zd w (.slice a n c) m z):(n=0)↔z=0:=by
 have hn:=Sl.len h.d
 rw [hn,List.length_eq_zero_iff,dg_nil_iff (b:=16777216) (by omega)];omega
theorem mZ6_11 {P_ : Prop} (h : P_ := by
 (try dsimp only)
 all_goals (with_reducible refine And.intro (?_:World.cell? wc _=_) ?_;exact hCc.out.cell 1 0 rfl rfl;exact⟨hCc.out.cell 1 1 rfl rfl,trivial⟩)) : P_ := h
theorem mZ6_3 {P_ : Prop} (h : P_ := by
 (try dsimp only)
 all_goals (first
  | (with_reducible refine And.intro (?_:World.cell? (World.setCell (World.setCell (World.setCell (World.setCell wd _ _) _ _) _ _) _ _) _=_) ?_;exact((hCd.out|>.set 2 rfl|>.set 2 rfl)|>.set 3 rfl|>.set 3 rfl).cell 1 0 rfl rfl;exact⟨((hCd.out|>.set 2 rfl|>.set 2 rfl)|>.set 3 rfl|>.set 3 rfl).cell 1 1 rfl rfl,trivial⟩)
  | (with_reducible refine And.intro (?_:World.cell? (World.setCell (World.setCell wd _ _) _ _) _=_) ?_;exact(hCd.out|>.set 2 rfl|>.set 2 rfl).cell 1 0 rfl rfl;exact⟨(hCd.out|>.set 2 rfl|>.set 2 rfl).cell 1 1 rfl rfl,trivial⟩)
  | (with_reducible refine And.intro (?_:World.cell? wd _=_) ?_;exact hCd.out.cell 1 0 rfl rfl;exact⟨hCd.out.cell 1 1 rfl rfl,trivial⟩))) : P_ := h
theorem mZ6_0 {P_ : Prop} (h : P_ := by
 refine hK.out _ _ ?_ (fun hH5=>?_)
 ·exact mZ6_11
 clear hK K hH4
 try simp only [Act.put,zI,z0,zS]
 refine rdyL [6] ?_
 refine arc rfl (fun K hK=>?_) ?_
 ·go_simp
  (go_at_call 152;refine(sub_any _ _ _ _ _ _ _ _ _ _ _ (hCc.out.z 8 rfl) (hCc.out.z 5 rfl) HL2.out HL3.out).mono ?_;rintro e wd ⟨bd,kd,ld,md,rfl,hzd,hb⟩;have hCd:=ζ ((hCc.out.call hb).pz hzd);clear hzd hb;clear hCc_c20 hCc_c21 hCc_c30 hCc_c31 hCc_f20 hCc_f21 hCc_f30 hCc_f31;have hCd_c20:=hCd.out.cell 2 0 rfl rfl;have hCd_f20:=hCd.out.free 2 0 rfl;have hCd_c21:=hCd.out.cell 2 1 rfl rfl;have hCd_f21:=hCd.out.free 2 1 rfl;have hCd_c30:=hCd.out.cell 3 0 rfl rfl;have hCd_f30:=hCd.out.free 3 0 rfl;have hCd_c31:=hCd.out.cell 3 1 rfl rfl;have hCd_f31:=hCd.out.free 3 1 rfl)
  (try go_wp2_with fail)
  refine hK.out _ _ ?_ (fun hH6=>?_)
  ·exact mZ6_3
  clear hK K hH5
  try simp only [Act.put,zI,z0,zS]
  refine rdyL [7] ?_
  refine arc rfl (fun K hK=>?_) ?_
  ·go_simp
   refine hK.out _ _ ?_ (fun hH7=>?_)
   ·exact mZ6_3
   clear hK K hH6
   try simp only [Act.put,zI,z0,zS]
   refine rdyL [8] ?_
   refine arc rfl (fun K hK=>?_) ?_
   ·go_simp
    refine hK.out _ _ ?_ (fun hH8=>?_)
    ·exact mZ6_3
    clear hK K hH7
    try simp only [Act.put,zI,z0,zS]
    refine wpAnyH_done (by kernel_rfl) ?_ _
    refine NoPanic.normal ?_
    all_goals (go_wp2_with fail;go_meet;exact⟨bb,kb,lb,mb,bd,kd,ld,md,St.pick ((hCd.out|>.set 2 rfl|>.set 2 rfl)|>.set 3 rfl|>.set 3 rfl) [0,1,7,9] rfl⟩)
   exact AllReadyH.nil
  exact AllReadyH.nil
 exact AllReadyH.nil) : P_ := h
theorem mZ6_7 {P_ : Prop} (h : P_ := by
 (try dsimp only)
 all_goals (with_reducible refine And.intro (?_:World.cell? wa _=_) ?_;exact hCa.out.cell 1 0 rfl rfl;exact⟨hCa.out.cell 1 1 rfl rfl,trivial⟩)) : P_ := h
theorem mZ6_12 {P_ : Prop} (h : P_ := by
 (try dsimp only)
 all_goals (with_reducible refine And.intro (?_:World.cell? wb _=_) ?_;exact hCb.out.cell 1 0 rfl rfl;exact⟨hCb.out.cell 1 1 rfl rfl,trivial⟩)) : P_ := h
theorem mZ6_5 {P_ : Prop} (h : P_ := by
 refine hK.out _ _ ?_ (fun hH4=>?_)
 ·exact mZ6_12
 clear hK K hH3
 try simp only [Act.put,zI,z0,zS]
 refine rdyL [4] ?_
 refine arc rfl (fun K hK=>?_) ?_
 ·go_simp
  (go_at_call 175;refine(abs_any _ _ _ _ _ _ (hCb.out.z 1 rfl)).mono ?_;rintro e wc ⟨bc,kc,lc,mc,rfl,hzc,hb⟩;have hCc:=ζ ((hCb.out.call hb).pz hzc);clear hzc hb;clear hCb_c20 hCb_c21 hCb_c30 hCb_c31 hCb_f20 hCb_f21 hCb_f30 hCb_f31;have hCc_c20:=hCc.out.cell 2 0 rfl rfl;have hCc_f20:=hCc.out.free 2 0 rfl;have hCc_c21:=hCc.out.cell 2 1 rfl rfl;have hCc_f21:=hCc.out.free 2 1 rfl;have hCc_c30:=hCc.out.cell 3 0 rfl rfl;have hCc_f30:=hCc.out.free 3 0 rfl;have hCc_c31:=hCc.out.cell 3 1 rfl rfl;have hCc_f31:=hCc.out.free 3 1 rfl)
  (try go_wp2_with fail)
  exact mZ6_0
 exact AllReadyH.nil) : P_ := h
theorem mZ6_1 {P_ : Prop} (h : P_ := by
 refine hK.out _ _ ?_ (fun hH3=>?_)
 ·exact mZ6_7
 clear hK K hH2
 try simp only [Act.put,zI,z0,zS]
 refine rdyL [2] ?_
 refine arc rfl (fun K hK=>?_) ?_
 ·go_simp
  (go_at_call 152;refine(sub_any _ _ _ _ _ _ _ _ _ _ _ (hCa.out.z 4 rfl) (hCa.out.z 6 rfl) HL1.out HL4.out).mono ?_;rintro e wb ⟨bb,kb,lb,mb,rfl,hzb,hb⟩;have hCb:=ζ ((hCa.out.call hb).pz hzb);clear hzb hb;clear hCa_c20 hCa_c21 hCa_c30 hCa_c31 hCa_f20 hCa_f21 hCa_f30 hCa_f31;have hCb_c20:=hCb.out.cell 2 0 rfl rfl;have hCb_f20:=hCb.out.free 2 0 rfl;have hCb_c21:=hCb.out.cell 2 1 rfl rfl;have hCb_f21:=hCb.out.free 2 1 rfl;have hCb_c30:=hCb.out.cell 3 0 rfl rfl;have hCb_f30:=hCb.out.free 3 0 rfl;have hCb_c31:=hCb.out.cell 3 1 rfl rfl;have hCb_f31:=hCb.out.free 3 1 rfl)
  (try go_wp2_with fail)
  exact mZ6_5
 exact AllReadyH.nil) : P_ := h
theorem mZ6_2 {P_ : Prop} (h : P_ := by
 refine hK.out _ _ ?_ (fun hH2=>?_)
 ·exact mZ6_7
 clear hK K hH1
 try simp only [Act.put,zI,z0,zS]
 refine rdyL [2,5] ?_
 refine arc rfl (fun K hK=>?_) ?_
 ·go_simp
  (go_at_call 152;refine(sub_any _ _ _ _ _ _ _ _ _ _ _ (hCa.out.z 4 rfl) (hCa.out.z 6 rfl) HL1.out HL4.out).mono ?_;rintro e wb ⟨bb,kb,lb,mb,rfl,hzb,hb⟩;have hCb:=ζ ((hCa.out.call hb).pz hzb);clear hzb hb;clear hCa_c20 hCa_c21 hCa_c30 hCa_c31 hCa_f20 hCa_f21 hCa_f30 hCa_f31;have hCb_c20:=hCb.out.cell 2 0 rfl rfl;have hCb_f20:=hCb.out.free 2 0 rfl;have hCb_c21:=hCb.out.cell 2 1 rfl rfl;have hCb_f21:=hCb.out.free 2 1 rfl;have hCb_c30:=hCb.out.cell 3 0 rfl rfl;have hCb_f30:=hCb.out.free 3 0 rfl;have hCb_c31:=hCb.out.cell 3 1 rfl rfl;have hCb_f31:=hCb.out.free 3 1 rfl)
  (try go_wp2_with fail)
  refine hK.out _ _ ?_ (fun hH3=>?_)
  ·exact mZ6_12
  clear hK K hH2
  try simp only [Act.put,zI,z0,zS]
  refine rdyL [4,5] ?_
  refine arc rfl (fun K hK=>?_) ?_
  ·go_simp
   (go_at_call 175;refine(abs_any _ _ _ _ _ _ (hCb.out.z 1 rfl)).mono ?_;rintro e wc ⟨bc,kc,lc,mc,rfl,hzc,hb⟩;have hCc:=ζ ((hCb.out.call hb).pz hzc);clear hzc hb;clear hCb_c20 hCb_c21 hCb_c30 hCb_c31 hCb_f20 hCb_f21 hCb_f30 hCb_f31;have hCc_c20:=hCc.out.cell 2 0 rfl rfl;have hCc_f20:=hCc.out.free 2 0 rfl;have hCc_c21:=hCc.out.cell 2 1 rfl rfl;have hCc_f21:=hCc.out.free 2 1 rfl;have hCc_c30:=hCc.out.cell 3 0 rfl rfl;have hCc_f30:=hCc.out.free 3 0 rfl;have hCc_c31:=hCc.out.cell 3 1 rfl rfl;have hCc_f31:=hCc.out.free 3 1 rfl)
   (try go_wp2_with fail)
   refine hK.out _ _ ?_ (fun hH4=>?_)
   ·exact mZ6_11
   clear hK K hH3
   try simp only [Act.put,zI,z0,zS]
   refine rdyL [5] ?_
   refine arc rfl (fun K hK=>?_) ?_
   ·go_simp
    exact mZ6_0
   exact AllReadyH.nil
  refine arc rfl (fun K hK=>?_) ?_
  ·go_simp
   exact mZ6_5
  exact AllReadyH.nil
 refine arc rfl (fun K hK=>?_) ?_
 ·go_simp
  exact mZ6_1
 exact AllReadyH.nil) : P_ := h
theorem mZ6_8 {P_ : Prop} (h : P_ := by
 (try dsimp only)
 all_goals (with_reducible refine And.intro (?_:World.cell? _ _=_) ?_;exact hC6.out.drew.cell 1 0 rfl rfl;exact⟨hC6.out.drew.cell 1 1 rfl rfl,trivial⟩)) : P_ := h
theorem mZ6_4 {P_ : Prop} (h : P_ := by
 go_simp
 refine hK.out _ _ ?_ (fun hH2=>?_)
 ·exact mZ6_8
 clear hK K hH1
 try simp only [Act.put,zI,z0,zS]
 refine rdyL [1] ?_
 refine arc rfl (fun K hK=>?_) ?_
 ·go_simp
  (go_at_call 99;refine(int_any 1 (by omega) _).mono ?_;rintro e wa ⟨ba,ka,la,ma,rfl,hza,hb⟩;have hCa:=ζ ((hC6.out.drew.call hb).pz hza);clear hza hb;clear hC6_c20 hC6_c21 hC6_c30 hC6_c31 hC6_f20 hC6_f21 hC6_f30 hC6_f31;have hCa_c20:=hCa.out.cell 2 0 rfl rfl;have hCa_f20:=hCa.out.free 2 0 rfl;have hCa_c21:=hCa.out.cell 2 1 rfl rfl;have hCa_f21:=hCa.out.free 2 1 rfl;have hCa_c30:=hCa.out.cell 3 0 rfl rfl;have hCa_f30:=hCa.out.free 3 0 rfl;have hCa_c31:=hCa.out.cell 3 1 rfl rfl;have hCa_f31:=hCa.out.free 3 1 rfl)
  (try go_wp2_with fail)
  exact mZ6_1
 exact AllReadyH.nil) : P_ := h
theorem mZ6_6 {P_ : Prop} (h : P_ := by
 have e0:=hF.cell 2 0 rfl rfl
 have e1:=hF.cell 2 1 rfl rfl
 have e2:=hF.cell 3 0 rfl rfl
 have e3:=hF.cell 3 1 rfl rfl
 simp [results,Tryz.results148,go_sem,e0,e1,e2,e3]) : P_ := h
theorem mZ6_9 {P_ : Prop} (h : P_ := by
 have e:=Nat.div_add_mod z.natAbs z2.natAbs
 have l:=Nat.mod_lt z.natAbs (show 0 < z2.natAbs by omega)
 refine⟨?_,by omega,by omega⟩
 have:((z2.natAbs*(z.natAbs / z2.natAbs)+z.natAbs % z2.natAbs:Nat):Int)=z.natAbs:=by rw [e]
 rw [Int.natCast_add,Int.natCast_mul,Int.mul_comm]at this
 omega) : P_ := h
theorem mZ6_10 {P_ : Prop} (h : P_ := by
 refine hK.out _ _ ?_ (fun hH2=>?_)
 ·exact mZ6_7
 clear hK K hH1
 try simp only [Act.put,zI,z0,zS]
 refine rdyL [0] ?_
 refine arc rfl (fun K hK=>?_) ?_
 ·go_simp
  exact mZ6_1
 exact AllReadyH.nil) : P_ := h
theorem q_pos {z z2:Int} (h1:false=decide (z < 0)) (hz:z2≠0):z=((z.natAbs / z2.natAbs:Nat):Int)*z2.natAbs+(z.natAbs % z2.natAbs:Nat)∧(0:Int)≤(z.natAbs % z2.natAbs:Nat)∧((z.natAbs % z2.natAbs:Nat):Int) < z2.natAbs:=by
 have h:¬ z < 0:=by simpa using h1.symm
 exact mZ6_9
theorem q_ff {z z2:Int} (h1:false=decide (z < 0)) (h2:false=decide (z2 < 0)) (hz:z2≠0):z / z2=(if false=true then -((z.natAbs / z2.natAbs:Nat):Int)else((z.natAbs / z2.natAbs:Nat):Int))∧z % z2=((z.natAbs % z2.natAbs:Nat):Int):=by
 obtain ⟨a,b,c⟩:=q_pos h1 hz
 have h:¬ z2 < 0:=by simpa using h2.symm
 have:=ediv_of a b c
 rw [if_neg h]at this
 simpa using this
theorem q_ft {z z2:Int} (h1:false=decide (z < 0)) (h2:true=decide (z2 < 0)) (hz:z2≠0):z / z2= -(if false=true then -((z.natAbs / z2.natAbs:Nat):Int)else((z.natAbs / z2.natAbs:Nat):Int))∧z % z2=((z.natAbs % z2.natAbs:Nat):Int):=by
 obtain ⟨a,b,c⟩:=q_pos h1 hz
 have h:z2 < 0:=by simpa using h2.symm
 have:=ediv_of a b c
 rw [if_pos h]at this
 simpa using this
theorem dlm {m n:Nat} (h:m≤n):(dg 16777216 m).length≤(dg 16777216 n).length:=dg_len_le (by omega) (Nat.lt_of_le_of_lt h (dg_len_lt (by omega) n))
theorem q_neg {z z2:Int} (h1:true=decide (z < 0)) (hz:z2≠0):z= -(((z.natAbs / z2.natAbs:Nat):Int)*z2.natAbs) - (z.natAbs % z2.natAbs:Nat)∧(0:Int)≤(z.natAbs % z2.natAbs:Nat)∧((z.natAbs % z2.natAbs:Nat):Int) < z2.natAbs:=by
 have h:z < 0:=by simpa using h1.symm
 exact mZ6_9
theorem q_0 {z z2:Int} (h1:true=decide (z < 0)) (hz:z2≠0) (h0:z.natAbs % z2.natAbs=0):z / z2=(if z2 < 0 then -(-((z.natAbs / z2.natAbs:Nat):Int))else -((z.natAbs / z2.natAbs:Nat):Int))∧z % z2=((z.natAbs % z2.natAbs:Nat):Int):=by
 obtain ⟨a,b,c⟩:=q_neg h1 hz
 rw [h0]at a
 rw [h0]
 exact ediv_of (by rw [Int.neg_mul];omega) (by omega) (by omega)
theorem q_0f {z z2:Int} (h1:true=decide (z < 0)) (h2:false=decide (z2 < 0)) (hz:z2≠0) (h0:z.natAbs % z2.natAbs=0):z / z2=(if true=true then -((z.natAbs / z2.natAbs:Nat):Int)else((z.natAbs / z2.natAbs:Nat):Int))∧z % z2=((z.natAbs % z2.natAbs:Nat):Int):=by
 have h:¬ z2 < 0:=by simpa using h2.symm
 have:=q_0 h1 hz h0
 rw [if_neg h]at this
 exact this
theorem q_0t {z z2:Int} (h1:true=decide (z < 0)) (h2:true=decide (z2 < 0)) (hz:z2≠0) (h0:z.natAbs % z2.natAbs=0):z / z2= -(if true=true then -((z.natAbs / z2.natAbs:Nat):Int)else((z.natAbs / z2.natAbs:Nat):Int))∧z % z2=((z.natAbs % z2.natAbs:Nat):Int):=by
 have h:z2 < 0:=by simpa using h2.symm
 have:=q_0 h1 hz h0
 rw [if_pos h]at this
 exact this
theorem q_1 {z z2:Int} (h1:true=decide (z < 0)) (hz:z2≠0) (h0:¬ z.natAbs % z2.natAbs=0):z / z2=(if z2 < 0 then -(-((z.natAbs / z2.natAbs:Nat):Int) - 1)else -((z.natAbs / z2.natAbs:Nat):Int) - 1)∧z % z2=((z2.natAbs:Nat):Int) - ((z.natAbs % z2.natAbs:Nat):Int):=by
 obtain ⟨a,b,c⟩:=q_neg h1 hz
 exact ediv_of (by rw [Int.sub_mul,Int.neg_mul];omega) (by omega) (by omega)
theorem q_1f {z z2:Int} (h1:true=decide (z < 0)) (h2:false=decide (z2 < 0)) (hz:z2≠0) (h0:¬ z.natAbs % z2.natAbs=0):z / z2=(if true=true then -((z.natAbs / z2.natAbs:Nat):Int)else((z.natAbs / z2.natAbs:Nat):Int)) - 1∧z % z2=((z2.natAbs:Nat):Int) - ((z.natAbs % z2.natAbs:Nat):Int):=by
 have h:¬ z2 < 0:=by simpa using h2.symm
 have:=q_1 h1 hz h0
 rw [if_neg h]at this
 exact this
theorem q_1t {z z2:Int} (h1:true=decide (z < 0)) (h2:true=decide (z2 < 0)) (hz:z2≠0) (h0:¬ z.natAbs % z2.natAbs=0):z / z2= -((if true=true then -((z.natAbs / z2.natAbs:Nat):Int)else((z.natAbs / z2.natAbs:Nat):Int)) - 1)∧z % z2=((z2.natAbs:Nat):Int) - ((z.natAbs % z2.natAbs:Nat):Int):=by
 have h:z2 < 0:=by simpa using h2.symm
 have:=q_1 h1 hz h0
 rw [if_pos h]at this
 exact this
theorem quotient_nz (a:Option Addr) (n c:Nat) (m:Bool) (z:Int) (a2:Option Addr) (n2 c2:Nat) (m2:Bool) (z2:Int) (w:World) (h:Zd w (.slice a n c) m z) (h2:Zd w (.slice a2 n2 c2) m2 z2) (hz:z2≠0)
  (hl:(dg 16777216 z.natAbs).length≤1000000) (hl2:(dg 16777216 z2.natAbs).length≤1000000):
  Calls Tryz.prog 148 #[.agg #[.slice a n c,.bool m],.agg #[.slice a2 n2 c2,.bool m2]] w (RetQ w (z / z2) (z % z2) 0):=by
 have hn0:((n2:Int)==0)=false:=by simpa using fun e=>hz (h2.len0.1 e)
 have HN:=ζ hn0
 have HZ:=ζ hz
 have hC:=ζ ((((((St.enter w).pz h).pz h2).al w.heap.size #[.slice a n c,.bool m] 40 rfl rfl).al (w.heap.size+1) #[.slice a2 n2 c2,.bool m2] 40 (by simp) rfl).al (w.heap.size+2) #[.slice none 0 0,.bool false] 40 (by simp) rfl|>.al (w.heap.size+3) #[.slice none 0 0,.bool false] 40 (by simp) rfl)
 clear h h2 hz hn0
 go_enter Tryz.func148,Tryz.ntmps148
 go_wp2_with fail
 refine(none_any _ _ _ _).mono ?_
 rintro e w1 ⟨rfl,hw1⟩
 have hC1:=ζ (hC.out.call (W':=w1) (by rw [hw1];exact(Below.refl _ _).alloc (Nat.le_refl _) _))
 clear hC hw1
 rw [HN.out]
 have h10:=hC1.out.cell 0 0 rfl rfl
 have h20:=hC1.out.cell 1 0 rfl rfl
 go_wp2_with fail
 refine(over_any _ _ _ _ _ _ z.natAbs z2.natAbs _ (hC1.out.z 0 rfl).d (hC1.out.z 1 rfl).d (by have:=HZ.out;omega) hl hl2).mono ?_
 rintro e w2 ⟨b1,k1,l1,b2,k2,l2,rfl,hdq,hdr,hb⟩
 have hC2:=ζ (((hC1.out.call hb).pd hdq).pd hdr|>.al w2.heap.size #[.slice b1 k1 l1] 38 rfl rfl|>.al (w2.heap.size+1) #[.slice b2 k2 l2] 38 (by simp) rfl)
 have HM1:=ζ (hC1.out.z 0 rfl).m
 have HM2:=ζ (hC1.out.z 1 rfl).m
 have HR:=ζ (Zd.len0 (m:=false) (z:=(z.natAbs % z2.natAbs:Nat)) ⟨by rw [Int.natAbs_natCast];exact hdr,by simp;omega⟩)
 have HZ3:=ζ (show((z.natAbs % z2.natAbs:Nat):Int)=if false=true then -((z.natAbs % z2.natAbs:Nat):Int)else((z.natAbs % z2.natAbs:Nat):Int)from rfl)
 clear hC1 h10 h20 hb hdq hdr
 go_wp2_with fail
 go_region_held3 (fun w'=>w'.cell? ⟨w.heap.size,1,none⟩=some (.bool m)∧w'.cell? ⟨w2.heap.size,0,none⟩=some (.slice b1 k1 l1)∧w'.cell? ⟨w2.heap.size+1,0,none⟩=some (.slice b2 k2 l2)∧True)
  (first
   | (with_reducible refine And.intro (?_:World.cell? (World.setCell (World.setCell (World.setCell (World.setCell w4 _ _) _ _) _ _) _ _) _=_) ?_;exact((hC4.out|>.set 2 rfl|>.set 2 rfl)|>.set 3 rfl|>.set 3 rfl).cell 0 1 rfl rfl;exact⟨((hC4.out|>.set 2 rfl|>.set 2 rfl)|>.set 3 rfl|>.set 3 rfl).cell 4 0 rfl rfl,((hC4.out|>.set 2 rfl|>.set 2 rfl)|>.set 3 rfl|>.set 3 rfl).cell 5 0 rfl rfl,trivial⟩)
   | (with_reducible refine And.intro (?_:World.cell? (World.setCell (World.setCell w4 _ _) _ _) _=_) ?_;exact(hC4.out|>.set 2 rfl|>.set 2 rfl).cell 0 1 rfl rfl;exact⟨(hC4.out|>.set 2 rfl|>.set 2 rfl).cell 4 0 rfl rfl,(hC4.out|>.set 2 rfl|>.set 2 rfl).cell 5 0 rfl rfl,trivial⟩)
   | (with_reducible refine And.intro (?_:World.cell? w4 _=_) ?_;exact hC4.out.cell 0 1 rfl rfl;exact⟨hC4.out.cell 4 0 rfl rfl,hC4.out.cell 5 0 rfl rfl,trivial⟩)
   | (with_reducible refine And.intro (?_:World.cell? w3 _=_) ?_;exact hC3.out.cell 0 1 rfl rfl;exact⟨hC3.out.cell 4 0 rfl rfl,hC3.out.cell 5 0 rfl rfl,trivial⟩)
   | (with_reducible refine And.intro (?_:World.cell? _ _=_) ?_;exact hC2.out.drew.cell 0 1 rfl rfl;exact⟨hC2.out.drew.cell 4 0 rfl rfl,hC2.out.drew.cell 5 0 rfl rfl,trivial⟩))
  (first
   | (go_at_call 149;refine(made_any false b2 k2 l2 (z.natAbs % z2.natAbs) _ (hC3.out.d 3 rfl) ((z.natAbs % z2.natAbs:Nat):Int) HZ3.out).mono ?_;rintro e w4 ⟨b4,k4,l4,m4,rfl,hz4,hb⟩;have hC4:=ζ ((hC3.out.call hb).pz hz4);clear hz4 hb;have hC4_c20:=hC4.out.cell 2 0 rfl rfl;have hC4_f20:=hC4.out.free 2 0 rfl;have hC4_c21:=hC4.out.cell 2 1 rfl rfl;have hC4_f21:=hC4.out.free 2 1 rfl;have hC4_c30:=hC4.out.cell 3 0 rfl rfl;have hC4_f30:=hC4.out.free 3 0 rfl;have hC4_c31:=hC4.out.cell 3 1 rfl rfl;have hC4_f31:=hC4.out.free 3 1 rfl)
   | (go_at_call 149;refine(made_any m b1 k1 l1 (z.natAbs / z2.natAbs) _ (hC2.out.drew.d 2 rfl) _ rfl).mono ?_;rintro e w3 ⟨b3,k3,l3,m3,rfl,hz3,hb⟩;have hC3:=ζ ((hC2.out.drew.call hb).pz hz3);clear hz3 hb))
 refine gen_app ((hC4.out|>.set 2 rfl|>.set 2 rfl)|>.set 3 rfl|>.set 3 rfl) ?_
 intro W5 hc5
 have hC5:Hid (St w W5 [(w.heap.size,#[.slice a n c,.bool m],40),(w.heap.size+1,#[.slice a2 n2 c2,.bool m2],40),(w.heap.size+2,#[.slice b3 k3 l3,.bool m3],40),(w.heap.size+3,#[.slice b4 k4 l4,.bool m4],40),(w2.heap.size,#[.slice b1 k1 l1],38),(w2.heap.size+1,#[.slice b2 k2 l2],38)] _):=ζ hc5
 clear hc5 hC2 hC3 hC4 hC4_c20 hC4_c21 hC4_c30 hC4_c31 hC4_f20 hC4_f21 hC4_f30 hC4_f31
 cases m
 ·have x01:=hC5.out.cell 0 1 rfl rfl
  have hC5_c11:=hC5.out.cell 1 1 rfl rfl
  cases m2
  ·have hC5_c20:=hC5.out.cell 2 0 rfl rfl
   have hC5_f20:=hC5.out.free 2 0 rfl
   have hC5_c21:=hC5.out.cell 2 1 rfl rfl
   have hC5_f21:=hC5.out.free 2 1 rfl
   have hC5_c30:=hC5.out.cell 3 0 rfl rfl
   have hC5_f30:=hC5.out.free 3 0 rfl
   have hC5_c31:=hC5.out.cell 3 1 rfl rfl
   have hC5_f31:=hC5.out.free 3 1 rfl
   go_wp2_with fail
   go_region_held3 (fun w'=>w'.cell? ⟨w.heap.size+2,0,none⟩=some (.slice b3 k3 l3)∧w'.cell? ⟨w.heap.size+2,1,none⟩=some (.bool m3)∧w'.cell? ⟨w.heap.size+3,0,none⟩=some (.slice b4 k4 l4)∧w'.cell? ⟨w.heap.size+3,1,none⟩=some (.bool m4)∧True)
    (first
     | (with_reducible refine And.intro (?_:World.cell? (World.drew (World.setCell (World.setCell (World.setCell (World.setCell W5 _ _) _ _) _ _) _ _)) _=_) ?_;exact((hC5.out|>.set 2 rfl|>.set 2 rfl)|>.set 3 rfl|>.set 3 rfl).drew.cell 2 0 rfl rfl;exact⟨((hC5.out|>.set 2 rfl|>.set 2 rfl)|>.set 3 rfl|>.set 3 rfl).drew.cell 2 1 rfl rfl,((hC5.out|>.set 2 rfl|>.set 2 rfl)|>.set 3 rfl|>.set 3 rfl).drew.cell 3 0 rfl rfl,((hC5.out|>.set 2 rfl|>.set 2 rfl)|>.set 3 rfl|>.set 3 rfl).drew.cell 3 1 rfl rfl,trivial⟩)
     | (with_reducible refine And.intro (?_:World.cell? (World.drew (World.setCell (World.setCell W5 _ _) _ _)) _=_) ?_;exact(hC5.out|>.set 2 rfl|>.set 2 rfl).drew.cell 2 0 rfl rfl;exact⟨(hC5.out|>.set 2 rfl|>.set 2 rfl).drew.cell 2 1 rfl rfl,(hC5.out|>.set 2 rfl|>.set 2 rfl).drew.cell 3 0 rfl rfl,(hC5.out|>.set 2 rfl|>.set 2 rfl).drew.cell 3 1 rfl rfl,trivial⟩)
     | (with_reducible refine And.intro (?_:World.cell? _ _=_) ?_;exact hC5.out.drew.cell 2 0 rfl rfl;exact⟨hC5.out.drew.cell 2 1 rfl rfl,hC5.out.drew.cell 3 0 rfl rfl,hC5.out.drew.cell 3 1 rfl rfl,trivial⟩))
    (first
     | (fail))
   go_wp2
   refine ret_st ((hC5.out|>.set 2 rfl|>.set 2 rfl)|>.set 3 rfl|>.set 3 rfl).drew (v:= .tuple #[.agg #[.slice b3 k3 l3,.bool m3],.agg #[.slice b4 k4 l4,.bool m4],.int .i64 0]) (fun hF=>?_) rfl (fun hF=>⟨_,_,_,_,_,_,_,_,rfl,?_,?_,hF.be⟩)
   ·exact mZ6_6
   ·rw [(q_ff HM1.out HM2.out HZ.out).1];exact hF.z 4 rfl
   ·rw [(q_ff HM1.out HM2.out HZ.out).2];exact hF.z 5 rfl
  ·have hC5_c20:=hC5.out.cell 2 0 rfl rfl
   have hC5_f20:=hC5.out.free 2 0 rfl
   have hC5_c21:=hC5.out.cell 2 1 rfl rfl
   have hC5_f21:=hC5.out.free 2 1 rfl
   go_wp2_with fail
   refine(neg_any _ _ _ _ _ _ (hC5.out.z 4 rfl)).mono ?_
   rintro e w7 ⟨b7,k7,l7,m7,rfl,hz7,hb⟩
   have hC7:=ζ ((hC5.out.call hb).pz hz7)
   clear hz7 hb
   clear hC5_c20 hC5_c21 hC5_f20 hC5_f21 hC5_c11
   have hC7_c20:=hC7.out.cell 2 0 rfl rfl
   have hC7_f20:=hC7.out.free 2 0 rfl
   have hC7_c21:=hC7.out.cell 2 1 rfl rfl
   have hC7_f21:=hC7.out.free 2 1 rfl
   go_wp2_with fail
   refine wp_gen (hC7.out|>.set 2 rfl|>.set 2 rfl) ?_
   intro W8 hc8
   have hC8:Hid (St w W8 [(w.heap.size,#[.slice a n c,.bool false],40),(w.heap.size+1,#[.slice a2 n2 c2,.bool true],40),(w.heap.size+2,#[.slice b7 k7 l7,.bool m7],40),(w.heap.size+3,#[.slice b4 k4 l4,.bool m4],40),(w2.heap.size,#[.slice b1 k1 l1],38),(w2.heap.size+1,#[.slice b2 k2 l2],38)] _):=ζ hc8
   clear hc8 hC7 hC5 hC7_c20 hC7_c21 hC7_f20 hC7_f21
   have hC8_c20:=hC8.out.cell 2 0 rfl rfl
   have hC8_f20:=hC8.out.free 2 0 rfl
   have hC8_c21:=hC8.out.cell 2 1 rfl rfl
   have hC8_f21:=hC8.out.free 2 1 rfl
   have hC8_c30:=hC8.out.cell 3 0 rfl rfl
   have hC8_f30:=hC8.out.free 3 0 rfl
   have hC8_c31:=hC8.out.cell 3 1 rfl rfl
   have hC8_f31:=hC8.out.free 3 1 rfl
   go_wp2_with fail
   go_region_held3 (fun w'=>w'.cell? ⟨w.heap.size+2,0,none⟩=some (.slice b7 k7 l7)∧w'.cell? ⟨w.heap.size+2,1,none⟩=some (.bool m7)∧w'.cell? ⟨w.heap.size+3,0,none⟩=some (.slice b4 k4 l4)∧w'.cell? ⟨w.heap.size+3,1,none⟩=some (.bool m4)∧True)
    (first
     | (with_reducible refine And.intro (?_:World.cell? (World.drew (World.setCell (World.setCell (World.setCell (World.setCell W8 _ _) _ _) _ _) _ _)) _=_) ?_;exact((hC8.out|>.set 2 rfl|>.set 2 rfl)|>.set 3 rfl|>.set 3 rfl).drew.cell 2 0 rfl rfl;exact⟨((hC8.out|>.set 2 rfl|>.set 2 rfl)|>.set 3 rfl|>.set 3 rfl).drew.cell 2 1 rfl rfl,((hC8.out|>.set 2 rfl|>.set 2 rfl)|>.set 3 rfl|>.set 3 rfl).drew.cell 3 0 rfl rfl,((hC8.out|>.set 2 rfl|>.set 2 rfl)|>.set 3 rfl|>.set 3 rfl).drew.cell 3 1 rfl rfl,trivial⟩)
     | (with_reducible refine And.intro (?_:World.cell? (World.drew (World.setCell (World.setCell W8 _ _) _ _)) _=_) ?_;exact(hC8.out|>.set 2 rfl|>.set 2 rfl).drew.cell 2 0 rfl rfl;exact⟨(hC8.out|>.set 2 rfl|>.set 2 rfl).drew.cell 2 1 rfl rfl,(hC8.out|>.set 2 rfl|>.set 2 rfl).drew.cell 3 0 rfl rfl,(hC8.out|>.set 2 rfl|>.set 2 rfl).drew.cell 3 1 rfl rfl,trivial⟩)
     | (with_reducible refine And.intro (?_:World.cell? _ _=_) ?_;exact hC8.out.drew.cell 2 0 rfl rfl;exact⟨hC8.out.drew.cell 2 1 rfl rfl,hC8.out.drew.cell 3 0 rfl rfl,hC8.out.drew.cell 3 1 rfl rfl,trivial⟩))
    (first
     | (fail))
   go_wp2
   refine ret_st ((hC8.out|>.set 2 rfl|>.set 2 rfl)|>.set 3 rfl|>.set 3 rfl).drew (v:= .tuple #[.agg #[.slice b7 k7 l7,.bool m7],.agg #[.slice b4 k4 l4,.bool m4],.int .i64 0]) (fun hF=>?_) rfl (fun hF=>⟨_,_,_,_,_,_,_,_,rfl,?_,?_,hF.be⟩)
   ·exact mZ6_6
   ·rw [(q_ft HM1.out HM2.out HZ.out).1];exact hF.z 6 rfl
   ·rw [(q_ft HM1.out HM2.out HZ.out).2];exact hF.z 5 rfl
 ·have x01:=hC5.out.cell 0 1 rfl rfl
  have x50:=hC5.out.cell 5 0 rfl rfl
  go_wp2_with fail
  refine(none_any _ _ _ _).mono ?_
  rintro e w6 ⟨rfl,hw6⟩
  have hC6:=ζ (hC5.out.call (W':=w6) (by rw [hw6];exact(Below.refl _ _).alloc (Nat.le_refl _) _))
  clear hC5 hw6 x01 x50
  by_cases hr:z.natAbs % z2.natAbs=0
  ·have hk:((k2:Int)==0)=true:=by simpa using HR.out.2 (by omega)
   have H0:=ζ hr
   rw [hk]
   clear hr hk
   have hC6_c11:=hC6.out.cell 1 1 rfl rfl
   cases m2
   ·have hC6_c20:=hC6.out.cell 2 0 rfl rfl
    have hC6_f20:=hC6.out.free 2 0 rfl
    have hC6_c21:=hC6.out.cell 2 1 rfl rfl
    have hC6_f21:=hC6.out.free 2 1 rfl
    have hC6_c30:=hC6.out.cell 3 0 rfl rfl
    have hC6_f30:=hC6.out.free 3 0 rfl
    have hC6_c31:=hC6.out.cell 3 1 rfl rfl
    have hC6_f31:=hC6.out.free 3 1 rfl
    go_wp2_with fail
    go_region_held3 (fun w'=>w'.cell? ⟨w.heap.size+2,0,none⟩=some (.slice b3 k3 l3)∧w'.cell? ⟨w.heap.size+2,1,none⟩=some (.bool m3)∧w'.cell? ⟨w.heap.size+3,0,none⟩=some (.slice b4 k4 l4)∧w'.cell? ⟨w.heap.size+3,1,none⟩=some (.bool m4)∧True)
     (first
      | (with_reducible refine And.intro (?_:World.cell? (World.drew (World.setCell (World.setCell (World.setCell (World.setCell w6 _ _) _ _) _ _) _ _)) _=_) ?_;exact((hC6.out|>.set 2 rfl|>.set 2 rfl)|>.set 3 rfl|>.set 3 rfl).drew.cell 2 0 rfl rfl;exact⟨((hC6.out|>.set 2 rfl|>.set 2 rfl)|>.set 3 rfl|>.set 3 rfl).drew.cell 2 1 rfl rfl,((hC6.out|>.set 2 rfl|>.set 2 rfl)|>.set 3 rfl|>.set 3 rfl).drew.cell 3 0 rfl rfl,((hC6.out|>.set 2 rfl|>.set 2 rfl)|>.set 3 rfl|>.set 3 rfl).drew.cell 3 1 rfl rfl,trivial⟩)
      | (with_reducible refine And.intro (?_:World.cell? (World.drew (World.setCell (World.setCell w6 _ _) _ _)) _=_) ?_;exact(hC6.out|>.set 2 rfl|>.set 2 rfl).drew.cell 2 0 rfl rfl;exact⟨(hC6.out|>.set 2 rfl|>.set 2 rfl).drew.cell 2 1 rfl rfl,(hC6.out|>.set 2 rfl|>.set 2 rfl).drew.cell 3 0 rfl rfl,(hC6.out|>.set 2 rfl|>.set 2 rfl).drew.cell 3 1 rfl rfl,trivial⟩)
      | (with_reducible refine And.intro (?_:World.cell? _ _=_) ?_;exact hC6.out.drew.cell 2 0 rfl rfl;exact⟨hC6.out.drew.cell 2 1 rfl rfl,hC6.out.drew.cell 3 0 rfl rfl,hC6.out.drew.cell 3 1 rfl rfl,trivial⟩))
     (first
      | (fail))
    go_wp2
    refine ret_st ((hC6.out|>.set 2 rfl|>.set 2 rfl)|>.set 3 rfl|>.set 3 rfl).drew (v:= .tuple #[.agg #[.slice b3 k3 l3,.bool m3],.agg #[.slice b4 k4 l4,.bool m4],.int .i64 0]) (fun hF=>?_) rfl (fun hF=>⟨_,_,_,_,_,_,_,_,rfl,?_,?_,hF.be⟩)
    ·exact mZ6_6
    ·rw [(q_0f HM1.out HM2.out HZ.out H0.out).1];exact hF.z 4 rfl
    ·rw [(q_0f HM1.out HM2.out HZ.out H0.out).2];exact hF.z 5 rfl
   ·have hC6_c20:=hC6.out.cell 2 0 rfl rfl
    have hC6_f20:=hC6.out.free 2 0 rfl
    have hC6_c21:=hC6.out.cell 2 1 rfl rfl
    have hC6_f21:=hC6.out.free 2 1 rfl
    go_wp2_with fail
    refine(neg_any _ _ _ _ _ _ (hC6.out.z 4 rfl)).mono ?_
    rintro e w7 ⟨b7,k7,l7,m7,rfl,hz7,hb⟩
    have hC7:=ζ ((hC6.out.call hb).pz hz7)
    clear hz7 hb
    clear hC6_c20 hC6_c21 hC6_f20 hC6_f21 hC6_c11
    have hC7_c20:=hC7.out.cell 2 0 rfl rfl
    have hC7_f20:=hC7.out.free 2 0 rfl
    have hC7_c21:=hC7.out.cell 2 1 rfl rfl
    have hC7_f21:=hC7.out.free 2 1 rfl
    go_wp2_with fail
    refine wp_gen (hC7.out|>.set 2 rfl|>.set 2 rfl) ?_
    intro W8 hc8
    have hC8:Hid (St w W8 [(w.heap.size,#[.slice a n c,.bool true],40),(w.heap.size+1,#[.slice a2 n2 c2,.bool true],40),(w.heap.size+2,#[.slice b7 k7 l7,.bool m7],40),(w.heap.size+3,#[.slice b4 k4 l4,.bool m4],40),(w2.heap.size,#[.slice b1 k1 l1],38),(w2.heap.size+1,#[.slice b2 k2 l2],38)] _):=ζ hc8
    clear hc8 hC7 hC6 hC7_c20 hC7_c21 hC7_f20 hC7_f21
    have hC8_c20:=hC8.out.cell 2 0 rfl rfl
    have hC8_f20:=hC8.out.free 2 0 rfl
    have hC8_c21:=hC8.out.cell 2 1 rfl rfl
    have hC8_f21:=hC8.out.free 2 1 rfl
    have hC8_c30:=hC8.out.cell 3 0 rfl rfl
    have hC8_f30:=hC8.out.free 3 0 rfl
    have hC8_c31:=hC8.out.cell 3 1 rfl rfl
    have hC8_f31:=hC8.out.free 3 1 rfl
    go_wp2_with fail
    go_region_held3 (fun w'=>w'.cell? ⟨w.heap.size+2,0,none⟩=some (.slice b7 k7 l7)∧w'.cell? ⟨w.heap.size+2,1,none⟩=some (.bool m7)∧w'.cell? ⟨w.heap.size+3,0,none⟩=some (.slice b4 k4 l4)∧w'.cell? ⟨w.heap.size+3,1,none⟩=some (.bool m4)∧True)
     (first
      | (with_reducible refine And.intro (?_:World.cell? (World.drew (World.setCell (World.setCell (World.setCell (World.setCell W8 _ _) _ _) _ _) _ _)) _=_) ?_;exact((hC8.out|>.set 2 rfl|>.set 2 rfl)|>.set 3 rfl|>.set 3 rfl).drew.cell 2 0 rfl rfl;exact⟨((hC8.out|>.set 2 rfl|>.set 2 rfl)|>.set 3 rfl|>.set 3 rfl).drew.cell 2 1 rfl rfl,((hC8.out|>.set 2 rfl|>.set 2 rfl)|>.set 3 rfl|>.set 3 rfl).drew.cell 3 0 rfl rfl,((hC8.out|>.set 2 rfl|>.set 2 rfl)|>.set 3 rfl|>.set 3 rfl).drew.cell 3 1 rfl rfl,trivial⟩)
      | (with_reducible refine And.intro (?_:World.cell? (World.drew (World.setCell (World.setCell W8 _ _) _ _)) _=_) ?_;exact(hC8.out|>.set 2 rfl|>.set 2 rfl).drew.cell 2 0 rfl rfl;exact⟨(hC8.out|>.set 2 rfl|>.set 2 rfl).drew.cell 2 1 rfl rfl,(hC8.out|>.set 2 rfl|>.set 2 rfl).drew.cell 3 0 rfl rfl,(hC8.out|>.set 2 rfl|>.set 2 rfl).drew.cell 3 1 rfl rfl,trivial⟩)
      | (with_reducible refine And.intro (?_:World.cell? _ _=_) ?_;exact hC8.out.drew.cell 2 0 rfl rfl;exact⟨hC8.out.drew.cell 2 1 rfl rfl,hC8.out.drew.cell 3 0 rfl rfl,hC8.out.drew.cell 3 1 rfl rfl,trivial⟩))
     (first
      | (fail))
    go_wp2
    refine ret_st ((hC8.out|>.set 2 rfl|>.set 2 rfl)|>.set 3 rfl|>.set 3 rfl).drew (v:= .tuple #[.agg #[.slice b7 k7 l7,.bool m7],.agg #[.slice b4 k4 l4,.bool m4],.int .i64 0]) (fun hF=>?_) rfl (fun hF=>⟨_,_,_,_,_,_,_,_,rfl,?_,?_,hF.be⟩)
    ·exact mZ6_6
    ·rw [(q_0t HM1.out HM2.out HZ.out H0.out).1];exact hF.z 6 rfl
    ·rw [(q_0t HM1.out HM2.out HZ.out H0.out).2];exact hF.z 5 rfl
  ·have hk:((k2:Int)==0)=false:=by simpa using fun e=>hr (by have:=HR.out.1 e;omega)
   have H0:=ζ hr
   rw [hk]
   clear hr hk
   have HL1:=ζ (show(dg 16777216 (if true=true then -((z.natAbs / z2.natAbs:Nat):Int)else((z.natAbs / z2.natAbs:Nat):Int)).natAbs).length≤10000000 from Nat.le_trans (dlm (by simp only [if_true,Int.natAbs_neg,Int.natAbs_natCast];exact Nat.div_le_self _ _)) (Nat.le_trans hl (by omega)))
   have HL2:=ζ (show(dg 16777216 (((z2.natAbs:Nat):Int)).natAbs).length≤10000000 from by rw [Int.natAbs_natCast];omega)
   have HL3:=ζ (show(dg 16777216 (((z.natAbs % z2.natAbs:Nat):Int)).natAbs).length≤10000000 from by rw [Int.natAbs_natCast];exact Nat.le_trans (dlm (Nat.le_of_lt (Nat.mod_lt _ (by have:=HZ.out;omega)))) (Nat.le_trans hl2 (by omega)))
   have HL4:=ζ (show(dg 16777216 ((1:Int)).natAbs).length≤10000000 from Nat.le_trans (dg_len_le (k:=1) (by omega) (by decide)) (by omega))
   go_upto_region 6 with fail
   go_cut [] (fun wx=>∃bb kb lb mb bd kd ld md,St w wx [(w.heap.size,#[.slice a n c,.bool true],40),(w.heap.size+1,#[.slice a2 n2 c2,.bool m2],40),(w.heap.size+2,#[.slice bb kb lb,.bool mb],40),(w.heap.size+3,#[.slice bd kd ld,.bool md],40),(w2.heap.size,#[.slice b1 k1 l1],38),(w2.heap.size+1,#[.slice b2 k2 l2],38)] [fun V=>Zd V (.slice a n c) true z,fun V=>Zd V (.slice a2 n2 c2) m2 z2,fun V=>Zd V (.slice bb kb lb) mb ((if true=true then -((z.natAbs / z2.natAbs:Nat):Int)else((z.natAbs / z2.natAbs:Nat):Int)) - 1),fun V=>Zd V (.slice bd kd ld) md (((z2.natAbs:Nat):Int) - ((z.natAbs % z2.natAbs:Nat):Int))])
   case first=>
    have hC6_c20:=hC6.out.cell 2 0 rfl rfl
    have hC6_f20:=hC6.out.free 2 0 rfl
    have hC6_c21:=hC6.out.cell 2 1 rfl rfl
    have hC6_f21:=hC6.out.free 2 1 rfl
    have hC6_c30:=hC6.out.cell 3 0 rfl rfl
    have hC6_f30:=hC6.out.free 3 0 rfl
    have hC6_c31:=hC6.out.cell 3 1 rfl rfl
    have hC6_f31:=hC6.out.free 3 1 rfl
    refine wp_region_noPanic ?_
    refine wp_region_held_drew (S:=(fun w'=>w'.cell? ⟨w.heap.size+1,0,none⟩=some (.slice a2 n2 c2)∧w'.cell? ⟨w.heap.size+1,1,none⟩=some (.bool m2)∧True)) (by kernel_rfl) ?_ (fun hH0=>?_)
    ·exact mZ6_8
    refine tkA 3 rfl hH0 ?_
    try simp only [Act.put,zI,z0,zS]
    refine rdyL [0,1,5] ?_
    refine arc rfl (fun K hK=>?_) ?_
    ·go_simp
     refine hK.out _ _ ?_ (fun hH1=>?_)
     ·exact mZ6_8
     clear hK K hH0
     try simp only [Act.put,zI,z0,zS]
     refine rdyL [1,5] ?_
     refine arc rfl (fun K hK=>?_) ?_
     ·go_simp
      (go_at_call 99;refine(int_any 1 (by omega) _).mono ?_;rintro e wa ⟨ba,ka,la,ma,rfl,hza,hb⟩;have hCa:=ζ ((hC6.out.drew.call hb).pz hza);clear hza hb;clear hC6_c20 hC6_c21 hC6_c30 hC6_c31 hC6_f20 hC6_f21 hC6_f30 hC6_f31;have hCa_c20:=hCa.out.cell 2 0 rfl rfl;have hCa_f20:=hCa.out.free 2 0 rfl;have hCa_c21:=hCa.out.cell 2 1 rfl rfl;have hCa_f21:=hCa.out.free 2 1 rfl;have hCa_c30:=hCa.out.cell 3 0 rfl rfl;have hCa_f30:=hCa.out.free 3 0 rfl;have hCa_c31:=hCa.out.cell 3 1 rfl rfl;have hCa_f31:=hCa.out.free 3 1 rfl)
      (try go_wp2_with fail)
      exact mZ6_2
     refine arc rfl (fun K hK=>?_) ?_
     ·exact mZ6_4
     exact AllReadyH.nil
    refine arc rfl (fun K hK=>?_) ?_
    ·go_simp
     (go_at_call 99;refine(int_any 1 (by omega) _).mono ?_;rintro e wa ⟨ba,ka,la,ma,rfl,hza,hb⟩;have hCa:=ζ ((hC6.out.drew.call hb).pz hza);clear hza hb;clear hC6_c20 hC6_c21 hC6_c30 hC6_c31 hC6_f20 hC6_f21 hC6_f30 hC6_f31;have hCa_c20:=hCa.out.cell 2 0 rfl rfl;have hCa_f20:=hCa.out.free 2 0 rfl;have hCa_c21:=hCa.out.cell 2 1 rfl rfl;have hCa_f21:=hCa.out.free 2 1 rfl;have hCa_c30:=hCa.out.cell 3 0 rfl rfl;have hCa_f30:=hCa.out.free 3 0 rfl;have hCa_c31:=hCa.out.cell 3 1 rfl rfl;have hCa_f31:=hCa.out.free 3 1 rfl)
     (try go_wp2_with fail)
     refine hK.out _ _ ?_ (fun hH1=>?_)
     ·exact mZ6_7
     clear hK K hH0
     try simp only [Act.put,zI,z0,zS]
     refine rdyL [0,5] ?_
     refine arc rfl (fun K hK=>?_) ?_
     ·go_simp
      exact mZ6_2
     refine arc rfl (fun K hK=>?_) ?_
     ·go_simp
      exact mZ6_10
     exact AllReadyH.nil
    refine arc rfl (fun K hK=>?_) ?_
    ·go_simp
     refine hK.out _ _ ?_ (fun hH1=>?_)
     ·exact mZ6_8
     clear hK K hH0
     try simp only [Act.put,zI,z0,zS]
     refine rdyL [0,1] ?_
     refine arc rfl (fun K hK=>?_) ?_
     ·exact mZ6_4
     refine arc rfl (fun K hK=>?_) ?_
     ·go_simp
      (go_at_call 99;refine(int_any 1 (by omega) _).mono ?_;rintro e wa ⟨ba,ka,la,ma,rfl,hza,hb⟩;have hCa:=ζ ((hC6.out.drew.call hb).pz hza);clear hza hb;clear hC6_c20 hC6_c21 hC6_c30 hC6_c31 hC6_f20 hC6_f21 hC6_f30 hC6_f31;have hCa_c20:=hCa.out.cell 2 0 rfl rfl;have hCa_f20:=hCa.out.free 2 0 rfl;have hCa_c21:=hCa.out.cell 2 1 rfl rfl;have hCa_f21:=hCa.out.free 2 1 rfl;have hCa_c30:=hCa.out.cell 3 0 rfl rfl;have hCa_f30:=hCa.out.free 3 0 rfl;have hCa_c31:=hCa.out.cell 3 1 rfl rfl;have hCa_f31:=hCa.out.free 3 1 rfl)
      (try go_wp2_with fail)
      exact mZ6_10
     exact AllReadyH.nil
    exact AllReadyH.nil
   case rest=>
    obtain ⟨bb,kb,lb,mb,bd,kd,ld,md,hc9⟩:=hcut
    have hC9:=ζ hc9
    clear hc9 hC6
    have hC9_c11:=hC9.out.cell 1 1 rfl rfl
    cases m2
    ·have hC9_c20:=hC9.out.cell 2 0 rfl rfl
     have hC9_f20:=hC9.out.free 2 0 rfl
     have hC9_c21:=hC9.out.cell 2 1 rfl rfl
     have hC9_f21:=hC9.out.free 2 1 rfl
     have hC9_c30:=hC9.out.cell 3 0 rfl rfl
     have hC9_f30:=hC9.out.free 3 0 rfl
     have hC9_c31:=hC9.out.cell 3 1 rfl rfl
     have hC9_f31:=hC9.out.free 3 1 rfl
     go_wp2_with fail
     go_region_held3 (fun w'=>w'.cell? ⟨w.heap.size+2,0,none⟩=some (.slice bb kb lb)∧w'.cell? ⟨w.heap.size+2,1,none⟩=some (.bool mb)∧w'.cell? ⟨w.heap.size+3,0,none⟩=some (.slice bd kd ld)∧w'.cell? ⟨w.heap.size+3,1,none⟩=some (.bool md)∧True)
      (first
       | (with_reducible refine And.intro (?_:World.cell? (World.drew (World.setCell (World.setCell (World.setCell (World.setCell wc _ _) _ _) _ _) _ _)) _=_) ?_;exact((hC9.out|>.set 2 rfl|>.set 2 rfl)|>.set 3 rfl|>.set 3 rfl).drew.cell 2 0 rfl rfl;exact⟨((hC9.out|>.set 2 rfl|>.set 2 rfl)|>.set 3 rfl|>.set 3 rfl).drew.cell 2 1 rfl rfl,((hC9.out|>.set 2 rfl|>.set 2 rfl)|>.set 3 rfl|>.set 3 rfl).drew.cell 3 0 rfl rfl,((hC9.out|>.set 2 rfl|>.set 2 rfl)|>.set 3 rfl|>.set 3 rfl).drew.cell 3 1 rfl rfl,trivial⟩)
       | (with_reducible refine And.intro (?_:World.cell? (World.drew (World.setCell (World.setCell wc _ _) _ _)) _=_) ?_;exact(hC9.out|>.set 2 rfl|>.set 2 rfl).drew.cell 2 0 rfl rfl;exact⟨(hC9.out|>.set 2 rfl|>.set 2 rfl).drew.cell 2 1 rfl rfl,(hC9.out|>.set 2 rfl|>.set 2 rfl).drew.cell 3 0 rfl rfl,(hC9.out|>.set 2 rfl|>.set 2 rfl).drew.cell 3 1 rfl rfl,trivial⟩)
       | (with_reducible refine And.intro (?_:World.cell? _ _=_) ?_;exact hC9.out.drew.cell 2 0 rfl rfl;exact⟨hC9.out.drew.cell 2 1 rfl rfl,hC9.out.drew.cell 3 0 rfl rfl,hC9.out.drew.cell 3 1 rfl rfl,trivial⟩))
      (first
       | (fail))
     go_wp2
     refine ret_st ((hC9.out|>.set 2 rfl|>.set 2 rfl)|>.set 3 rfl|>.set 3 rfl).drew (v:= .tuple #[.agg #[.slice bb kb lb,.bool mb],.agg #[.slice bd kd ld,.bool md],.int .i64 0]) (fun hF=>?_) rfl (fun hF=>⟨_,_,_,_,_,_,_,_,rfl,?_,?_,hF.be⟩)
     ·exact mZ6_6
     ·rw [(q_1f HM1.out HM2.out HZ.out H0.out).1];exact hF.z 2 rfl
     ·rw [(q_1f HM1.out HM2.out HZ.out H0.out).2];exact hF.z 3 rfl
    ·have hC9_c20:=hC9.out.cell 2 0 rfl rfl
     have hC9_f20:=hC9.out.free 2 0 rfl
     have hC9_c21:=hC9.out.cell 2 1 rfl rfl
     have hC9_f21:=hC9.out.free 2 1 rfl
     go_wp2_with fail
     refine(neg_any _ _ _ _ _ _ (hC9.out.z 2 rfl)).mono ?_
     rintro e w7 ⟨b7,k7,l7,m7,rfl,hz7,hb⟩
     have hC7:=ζ ((hC9.out.call hb).pz hz7)
     clear hz7 hb
     clear hC9_c20 hC9_c21 hC9_f20 hC9_f21 hC9_c11
     have hC7_c20:=hC7.out.cell 2 0 rfl rfl
     have hC7_f20:=hC7.out.free 2 0 rfl
     have hC7_c21:=hC7.out.cell 2 1 rfl rfl
     have hC7_f21:=hC7.out.free 2 1 rfl
     go_wp2_with fail
     refine wp_gen (hC7.out|>.set 2 rfl|>.set 2 rfl) ?_
     intro W8 hc8
     have hC8:Hid (St w W8 [(w.heap.size,#[.slice a n c,.bool true],40),(w.heap.size+1,#[.slice a2 n2 c2,.bool true],40),(w.heap.size+2,#[.slice b7 k7 l7,.bool m7],40),(w.heap.size+3,#[.slice bd kd ld,.bool md],40),(w2.heap.size,#[.slice b1 k1 l1],38),(w2.heap.size+1,#[.slice b2 k2 l2],38)] _):=ζ hc8
     clear hc8 hC7 hC9 hC7_c20 hC7_c21 hC7_f20 hC7_f21
     have hC8_c20:=hC8.out.cell 2 0 rfl rfl
     have hC8_f20:=hC8.out.free 2 0 rfl
     have hC8_c21:=hC8.out.cell 2 1 rfl rfl
     have hC8_f21:=hC8.out.free 2 1 rfl
     have hC8_c30:=hC8.out.cell 3 0 rfl rfl
     have hC8_f30:=hC8.out.free 3 0 rfl
     have hC8_c31:=hC8.out.cell 3 1 rfl rfl
     have hC8_f31:=hC8.out.free 3 1 rfl
     go_wp2_with fail
     go_region_held3 (fun w'=>w'.cell? ⟨w.heap.size+2,0,none⟩=some (.slice b7 k7 l7)∧w'.cell? ⟨w.heap.size+2,1,none⟩=some (.bool m7)∧w'.cell? ⟨w.heap.size+3,0,none⟩=some (.slice bd kd ld)∧w'.cell? ⟨w.heap.size+3,1,none⟩=some (.bool md)∧True)
      (first
       | (with_reducible refine And.intro (?_:World.cell? (World.drew (World.setCell (World.setCell (World.setCell (World.setCell W8 _ _) _ _) _ _) _ _)) _=_) ?_;exact((hC8.out|>.set 2 rfl|>.set 2 rfl)|>.set 3 rfl|>.set 3 rfl).drew.cell 2 0 rfl rfl;exact⟨((hC8.out|>.set 2 rfl|>.set 2 rfl)|>.set 3 rfl|>.set 3 rfl).drew.cell 2 1 rfl rfl,((hC8.out|>.set 2 rfl|>.set 2 rfl)|>.set 3 rfl|>.set 3 rfl).drew.cell 3 0 rfl rfl,((hC8.out|>.set 2 rfl|>.set 2 rfl)|>.set 3 rfl|>.set 3 rfl).drew.cell 3 1 rfl rfl,trivial⟩)
       | (with_reducible refine And.intro (?_:World.cell? (World.drew (World.setCell (World.setCell W8 _ _) _ _)) _=_) ?_;exact(hC8.out|>.set 2 rfl|>.set 2 rfl).drew.cell 2 0 rfl rfl;exact⟨(hC8.out|>.set 2 rfl|>.set 2 rfl).drew.cell 2 1 rfl rfl,(hC8.out|>.set 2 rfl|>.set 2 rfl).drew.cell 3 0 rfl rfl,(hC8.out|>.set 2 rfl|>.set 2 rfl).drew.cell 3 1 rfl rfl,trivial⟩)
       | (with_reducible refine And.intro (?_:World.cell? _ _=_) ?_;exact hC8.out.drew.cell 2 0 rfl rfl;exact⟨hC8.out.drew.cell 2 1 rfl rfl,hC8.out.drew.cell 3 0 rfl rfl,hC8.out.drew.cell 3 1 rfl rfl,trivial⟩))
      (first
       | (fail))
     go_wp2
     refine ret_st ((hC8.out|>.set 2 rfl|>.set 2 rfl)|>.set 3 rfl|>.set 3 rfl).drew (v:= .tuple #[.agg #[.slice b7 k7 l7,.bool m7],.agg #[.slice bd kd ld,.bool md],.int .i64 0]) (fun hF=>?_) rfl (fun hF=>⟨_,_,_,_,_,_,_,_,rfl,?_,?_,hF.be⟩)
     ·exact mZ6_6
     ·rw [(q_1t HM1.out HM2.out HZ.out H0.out).1];exact hF.z 4 rfl
     ·rw [(q_1t HM1.out HM2.out HZ.out H0.out).2];exact hF.z 3 rfl
end Go.Proofs.YthmdhlopeponcaaGreatDoor
