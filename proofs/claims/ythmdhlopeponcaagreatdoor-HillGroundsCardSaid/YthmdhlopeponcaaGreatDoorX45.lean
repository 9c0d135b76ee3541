/- the reference's ratios: what they read as; Den, OfZ -/
import Derived.Test.YthmdhlopeponcaaGreatDoorX0
import Derived.Test.YthmdhlopeponcaaGreatDoorX44
import Derived.Test.YthmdhlopeponcaaGreatDoorX17
import Derived.Test.YthmdhlopeponcaaGreatDoorX1
import Derived.Test.YthmdhlopeponcaaGreatDoorX36
import Derived.Test.YthmdhlopeponcaaGreatDoorX29
set_option maxRecDepth 100000
set_option maxHeartbeats 8000000
namespace Go.Proofs.YthmdhlopeponcaaGreatDoor
open Go.RowKit Dig
structure Nq (w:World) (s:Int) (g:Value) (t:Int) (h:Value) (q:Rat):Prop where
 n:Nz w s g q.num
 d:Nz w t h (q.den:Int)∨(Nz w t h 0∧q.den=1)
theorem Nq.keep {w w':World} {s t:Int} {g h:Value} {q:Rat} (x:Nq w s g t h q) (hk:Keeps w w'):Nq w' s g t h q:=⟨x.n.keep hk,x.d.imp (fun y=>y.keep hk) (fun y=>⟨y.1.keep hk,y.2⟩)⟩
section
variable {w W:World} {bs:List (Nat×Array Value×TypeId)} {rs:List (World→Prop)}
theorem St.pq (h:St w W bs rs) {s t:Int} {g g':Value} {q:Rat} (hz:Nq W s g t g' q):St w W bs (rs++ [fun V=>Nq V s g t g' q]):=h.push (fun _ _ k hz=>hz.keep k) hz
theorem St.rq (h:St w W bs rs) (i:Nat) {s t:Int} {g g':Value} {q:Rat} (hx:rs[i]? =some (fun V=>Nq V s g t g' q)):Nq W s g t g' q:=(h.rd _ (List.mem_of_getElem? hx)).2
end
def RetNQ (w:World) (q:Rat) (e:Ending) (w':World):Prop:=∃s a n c t d e' f,e= .returned (.agg #[.int .i64 s,.slice a n c,.int .i64 t,.slice d e' f])∧Nq w' s (.slice a n c) t (.slice d e' f) q∧Below w.heap.size w w'
theorem Nq.of {w:World} {s t:Int} {g h:Value} {q:Rat} {x y:Int} (hx:Nz w s g x) (hy:Nz w t h y) (ex:q.num=x) (ey:(q.den:Int)=y):Nq w s g t h q:=⟨by rw [ex];exact hx,.inl (by rw [ey];exact hy)⟩
theorem Nq.nil {w:World} :Nq w 0 (.slice none 0 0) 0 (.slice none 0 0) 0:=⟨Nz.nil,.inr ⟨Nz.nil,rfl⟩⟩
section
variable {w:World} {s1:Int} {a1:Option Addr} {n1 c1:Nat} {z1:Int} {s2:Int} {a2:Option Addr} {n2 c2:Nat} {z2:Int} {k:Nat}
theorem gcdN_b (h1:Nz w s1 (.slice a1 n1 c1) z1) (h2:Nz w s2 (.slice a2 n2 c2) z2) (b1:Bd k z1) (b2:Bd k z2) (hk:k≤300000):
  Calls Tryz.prog 167 #[.agg #[.int .i64 s1,.slice a1 n1 c1],.agg #[.int .i64 s2,.slice a2 n2 c2]] w (RetN w ((Int.gcd z1 z2:Nat):Int)):=zgcdN_any _ _ _ _ _ _ _ _ _ _ _ h1 h2 k b1 b2 hk
end
theorem divInt_parts {x y:Int} (hy:0 < y):(Rat.divInt x y).num=x / ((Int.gcd x y:Nat):Int)∧((Rat.divInt x y).den:Int)=y / ((Int.gcd x y:Nat):Int):=by
 constructor
 ·rw [Rat.num_divInt,Int.sign_eq_one_of_pos hy,Int.one_mul,Int.gcd_comm]
 ·rw [Rat.den_divInt,if_neg (by omega),Int.gcd_comm]
  obtain ⟨m,rfl⟩:=Int.eq_ofNat_of_zero_le (Int.le_of_lt hy)
  rw [Int.natAbs_natCast]
  rfl
theorem divInt_flip {x y:Int} :Rat.divInt (-x) (-y)=Rat.divInt x y:=by
 exact Rat.neg_divInt_neg _ _
theorem denN_some (s1:Int) (a1:Option Addr) (n1 c1:Nat) (t1:Int) (d1:Option Addr) (e1 f1:Nat) (q1:Rat) (w:World) (_h1:Nq w s1 (.slice a1 n1 c1) t1 (.slice d1 e1 f1) q1) (hd:Nz w t1 (.slice d1 e1 f1) (q1.den:Int)):
  Calls Tryz.prog 136 #[.agg #[.int .i64 s1,.slice a1 n1 c1,.int .i64 t1,.slice d1 e1 f1]] w (RetN w (q1.den:Int)):=by
 have d0:(t1==0)=false:=by
  have:=hd.s0.2
  have:=q1.den_nz
  simp;omega
 have hC:=ζ ((((St.enter w).pn hd).al w.heap.size #[.int .i64 s1,.slice a1 n1 c1,.int .i64 t1,.slice d1 e1 f1] 50 rfl rfl).al (w.heap.size+1) #[.int .i64 t1,.slice d1 e1 f1] 48 (by simp) rfl)
 clear _h1 hd
 go_enter Tryz.func136,Tryz.ntmps136
 go_wp2
 refine ret_st hC.out (v:= .agg #[.int .i64 t1,.slice d1 e1 f1]) (fun hF=>?_) rfl (fun hF=>⟨_,_,_,_,rfl,hF.n 0 rfl,hF.be⟩)
 ·have e0:=hF.cell 1 0 rfl rfl
  have e1:=hF.cell 1 1 rfl rfl
  simp [results,Tryz.results136,go_sem,e0,e1]
theorem denN_none (s1:Int) (a1:Option Addr) (n1 c1:Nat) (t1:Int) (d1:Option Addr) (e1 f1:Nat) (q1:Rat) (w:World) (_h1:Nq w s1 (.slice a1 n1 c1) t1 (.slice d1 e1 f1) q1) (hd:Nz w t1 (.slice d1 e1 f1) 0) (h1d:q1.den=1):
  Calls Tryz.prog 136 #[.agg #[.int .i64 s1,.slice a1 n1 c1,.int .i64 t1,.slice d1 e1 f1]] w (RetN w (q1.den:Int)):=by
 have d0:(t1==0)=true:=by
  have:=hd.s0.2
  simp;omega
 have HD:=ζ h1d
 have hC:=ζ (((St.enter w).al w.heap.size #[.int .i64 s1,.slice a1 n1 c1,.int .i64 t1,.slice d1 e1 f1] 50 rfl rfl).al (w.heap.size+1) #[.int .i64 0,.slice none 0 0] 48 (by simp) rfl)
 clear _h1 hd h1d
 go_enter Tryz.func136,Tryz.ntmps136
 go_wp2_with fail
 refine(zint_any 1 (by omega) _).mono ?_
 rintro e w3 ⟨s3,a3,n3,c3,rfl,hz,hb⟩
 have hC3:=ζ ((hC.out.call hb).pn hz)
 clear hC hz hb
 have hC3_c10:=hC3.out.cell 1 0 rfl rfl
 have hC3_f10:=hC3.out.free 1 0 rfl
 have hC3_c11:=hC3.out.cell 1 1 rfl rfl
 have hC3_f11:=hC3.out.free 1 1 rfl
 go_wp2
 refine ret_st (hC3.out|>.set 1 rfl|>.set 1 rfl) (v:= .agg #[.int .i64 s3,.slice a3 n3 c3]) (fun hF=>?_) rfl (fun hF=>⟨_,_,_,_,rfl,by rw [HD.out];exact hF.n 0 rfl,hF.be⟩)
 ·have e0:=hF.cell 1 0 rfl rfl
  have e1:=hF.cell 1 1 rfl rfl
  simp [results,Tryz.results136,go_sem,e0,e1]
section
variable {w:World} {s1:Int} {a1:Option Addr} {n1 c1:Nat} {t1:Int} {d1:Option Addr} {e1 f1:Nat} {q1:Rat}
theorem denN_b (h1:Nq w s1 (.slice a1 n1 c1) t1 (.slice d1 e1 f1) q1):Calls Tryz.prog 136 #[.agg #[.int .i64 s1,.slice a1 n1 c1,.int .i64 t1,.slice d1 e1 f1]] w (RetN w (q1.den:Int)):=by
 rcases h1.d with h | h
 ·exact denN_some _ _ _ _ _ _ _ _ _ _ h1 h
 ·exact denN_none _ _ _ _ _ _ _ _ _ _ h1 h.1 h.2
end
theorem mN17_0 {P_ : Prop} (h : P_ := by
 have e0:=hF.cell 2 0 rfl rfl
 have e1:=hF.cell 2 1 rfl rfl
 have e2:=hF.cell 2 2 rfl rfl
 have e3:=hF.cell 2 3 rfl rfl
 simp [results,Tryz.results137,go_sem,e0,e1,e2,e3]) : P_ := h
theorem ofzN_any (s1:Int) (a1:Option Addr) (n1 c1:Nat) (z1:Int) (s2:Int) (a2:Option Addr) (n2 c2:Nat) (z2:Int) (w:World) (h1:Nz w s1 (.slice a1 n1 c1) z1) (h2:Nz w s2 (.slice a2 n2 c2) z2) (hz:z2≠0) (k:Nat) (b1:Bd k z1) (b2:Bd k z2) (hk:k≤300000):
  Calls Tryz.prog 137 #[.agg #[.int .i64 s1,.slice a1 n1 c1],.agg #[.int .i64 s2,.slice a2 n2 c2]] w (RetNQ w (Rat.divInt z1 z2)):=by
 have HS2:=ζ h2.s0
 have B1:=ζ b1
 have B2:=ζ b2
 have HZ:=ζ hz
 clear b1 b2 hz
 have hC:=ζ ((((((St.enter w).pn h1).pn h2).al (w.heap.size) #[.int .i64 s1,.slice a1 n1 c1] 48 rfl rfl).al (w.heap.size+1) #[.int .i64 s2,.slice a2 n2 c2] 48 (by simp) rfl).al (w.heap.size+2) #[.int .i64 0,.slice none 0 0,.int .i64 0,.slice none 0 0] 50 (by simp) rfl)
 clear h1 h2
 go_enter Tryz.func137,Tryz.ntmps137
 have x10:=hC.out.cell 1 0 rfl rfl
 by_cases hn:z2 < 0
 ·have d0:decide (s2 < 0)=true:=by simpa using HS2.out.1.2 hn
  have HP:=ζ (show 0 < -z2 from by omega)
  have HR:=ζ (show Rat.divInt z1 z2=Rat.divInt (-z1) (-z2)from divInt_flip.symm)
  have BX:=ζ B1.out.neg
  have BY:=ζ B2.out.neg
  clear hn
  go_upto_region 2 with fail
  clear d0 x10
  refine wp_gen hC.out ?_
  intro W hc
  clear hC
  have hC:=ζ hc
  clear hc
  go_cut [] (fun wx=>∃ (s3:Int) (a3:Option Addr) (n3 c3:Nat) (s4:Int) (a4:Option Addr) (n4 c4:Nat),Hid (St w wx [(w.heap.size,#[.int .i64 s3,.slice a3 n3 c3],48),(w.heap.size+1,#[.int .i64 s4,.slice a4 n4 c4],48),(w.heap.size+2,#[.int .i64 0,.slice none 0 0,.int .i64 0,.slice none 0 0],50)] [fun V=>Nz V s3 (.slice a3 n3 c3) (-z1),fun V=>Nz V s4 (.slice a4 n4 c4) (-z2)]))
  case first=>
   have x00:=hC.out.cell 0 0 rfl rfl
   have x01:=hC.out.cell 0 1 rfl rfl
   have x10:=hC.out.cell 1 0 rfl rfl
   have x11:=hC.out.cell 1 1 rfl rfl
   go_region_with (first
    | (have _t:=hCa;go_at_call 164;refine(negN_b (hCa.out.n 1 rfl)).mono ?_;rintro e wb ⟨s4,a4,n4,c4,rfl,hz,hb⟩;have hCb:=ζ ((hCa.out.call hb).pn hz);clear hz hb;have y00:=hCb.out.cell 0 0 rfl rfl;have y01:=hCb.out.cell 0 1 rfl rfl;have y10:=hCb.out.cell 1 0 rfl rfl;have y11:=hCb.out.cell 1 1 rfl rfl;have f00:=hCb.out.free 0 0 rfl;have f01:=hCb.out.free 0 1 rfl;have f10:=hCb.out.free 1 0 rfl;have f11:=hCb.out.free 1 1 rfl;clear _t hCa)
    | (have _t:=hC;go_at_call 164;refine(negN_b (hC.out.drew.n 0 rfl)).mono ?_;rintro e wa ⟨s3,a3,n3,c3,rfl,hz,hb⟩;have hCa:=ζ ((hC.out.drew.call hb).pn hz);clear hz hb;have z10:=hCa.out.cell 1 0 rfl rfl;have z11:=hCa.out.cell 1 1 rfl rfl;clear _t hC)
    | fail)
   all_goals (go_wp2_with fail;go_meet;exact⟨s3,a3,n3,c3,s4,a4,n4,c4,ζ ((hCb.out.set 0 rfl|>.set 0 rfl|>.set 1 rfl|>.set 1 rfl).pick [2,3] rfl)⟩)
  case rest=>
   clear hC
   obtain ⟨s3,a3,n3,c3,s4,a4,n4,c4,hC⟩:=hcut
   go_upto_region 3 with fail
   refine wp_gen hC.out ?_
   intro W3 hc
   clear hC
   have hC:=ζ hc
   clear hc
   have HPT:=ζ (divInt_parts (x:= -z1) HP.out)
   obtain ⟨G,hG⟩:∃G:Nat,Int.gcd (-z1) (-z2)=G:=⟨_,rfl⟩
   have hG0:0 < G:=by
    have:=HP.out
    rw [←hG]
    exact Nat.pos_of_ne_zero (fun e=>by have:=(Int.gcd_eq_zero_iff.1 e).2;omega)
   have BG:=ζ (show Bd k (G:Int)from by
    rw [←hG]
    have h1:=HP.out
    have h2:=BY.out
    unfold Bd at*
    rw [Int.natAbs_natCast]
    exact Nat.lt_of_le_of_lt (Nat.gcd_le_right _ (by omega)) h2)
   rw [hG]at HPT
   have HG:=ζ hG
   clear hG
   have x00:=hC.out.cell 0 0 rfl rfl
   have x01:=hC.out.cell 0 1 rfl rfl
   have x10:=hC.out.cell 1 0 rfl rfl
   have x11:=hC.out.cell 1 1 rfl rfl
   go_wp2_with fail
   refine(gcdN_b (hC.out.n 0 rfl) (hC.out.n 1 rfl) BX.out BY.out hk).mono ?_
   rintro e w5 ⟨s5,a5,n5,c5,rfl,hz,hb⟩
   rw [HG.out]at hz
   have hC5:=ζ (((hC.out.call hb).pn hz).al w5.heap.size #[.int .i64 s5,.slice a5 n5 c5] 48 rfl rfl)
   clear hz hb hC x00 x01 x10 x11
   go_upto_region 4 with fail
   refine wp_gen hC5.out ?_
   intro W5 hc
   clear hC5
   have hC:=ζ hc
   clear hc
   obtain ⟨v,hv⟩:∃v:Int,sgnN ((G:Int) - 1)=v:=⟨_,rfl⟩
   have HV:=ζ hv
   by_cases hg1:1 < G
   ·have dv:decide (0 < v)=true:=by rw [←hv,sgnN_pos (by omega)];rfl
    clear hv
    go_region_held3 (fun w'=>w'.cell? ⟨w5.heap.size,0,none⟩=some (.int .i64 s5)∧w'.cell? ⟨w5.heap.size,1,none⟩=some (.slice a5 n5 c5)∧True)
     (first
      | (with_reducible refine And.intro (?_:World.cell? wb _=_) ?_;exact hCb.out.cell 3 0 rfl rfl;exact⟨hCb.out.cell 3 1 rfl rfl,trivial⟩)
      | (with_reducible refine And.intro (?_:World.cell? wa _=_) ?_;exact hCa.out.cell 3 0 rfl rfl;exact⟨hCa.out.cell 3 1 rfl rfl,trivial⟩)
      | (with_reducible refine And.intro (?_:World.cell? (World.drew W5) _=_) ?_;exact hC.out.drew.cell 3 0 rfl rfl;exact⟨hC.out.drew.cell 3 1 rfl rfl,trivial⟩))
     (first
      | (have _t:=hCa;go_at_call 141;refine(cmpN_b (hCa.out.n 2 rfl) (hCa.out.n 3 rfl) BG.out (Bd.i64 (k:=1) (by omega)) (by omega) (by omega)).mono ?_;rintro e wb ⟨rfl,hb⟩;have hCb:=ζ (hCa.out.call hb);clear hb;try rw [HV.out];clear _t hCa)
      | (have _t:=hC;go_at_call 143;refine(zint_any 1 (by omega) _).mono ?_;rintro e wa ⟨s6,a6,n6,c6,rfl,hz,hb⟩;have hCa:=ζ ((hC.out.drew.call hb).pn hz);clear hb hz;clear _t hC)
      | fail)
    have x00:=hCb.out.cell 0 0 rfl rfl
    have x01:=hCb.out.cell 0 1 rfl rfl
    have x30:=hCb.out.cell 3 0 rfl rfl
    have x31:=hCb.out.cell 3 1 rfl rfl
    go_wp2_with fail
    refine(zquotN_b (hCb.out.n 0 rfl) (hCb.out.n 2 rfl) (by omega) BX.out BG.out hk hk).mono ?_
    rintro e w8 ⟨s8,a8,n8,c8,s9,a9,n9,c9,rfl,hz,hz2,hb⟩
    have hC8:=ζ ((hCb.out.call hb).pn hz)
    clear hz hz2 hb hCb x00 x01 x30 x31
    have x00:=hC8.out.cell 0 0 rfl rfl
    have x01:=hC8.out.cell 0 1 rfl rfl
    have f00:=hC8.out.free 0 0 rfl
    have f01:=hC8.out.free 0 1 rfl
    go_upto_region 6 with fail
    refine wp_gen (hC8.out.set 0 rfl|>.set 0 rfl) ?_
    intro W8 hc
    clear hC8 x00 x01 f00 f01
    have hC:=ζ hc
    clear hc
    have x10:=hC.out.cell 1 0 rfl rfl
    have x11:=hC.out.cell 1 1 rfl rfl
    have x30:=hC.out.cell 3 0 rfl rfl
    have x31:=hC.out.cell 3 1 rfl rfl
    go_wp2_with fail
    refine(zquotN_b (hC.out.n 1 rfl) (hC.out.n 2 rfl) (by omega) BY.out BG.out hk hk).mono ?_
    rintro e w9 ⟨s10,a10,n10,c10,s11,a11,n11,c11,rfl,hz,hz2,hb⟩
    have hC9:=ζ ((hC.out.call hb).pn hz)
    clear hz hz2 hb hC x10 x11 x30 x31
    have x10:=hC9.out.cell 1 0 rfl rfl
    have x11:=hC9.out.cell 1 1 rfl rfl
    have f10:=hC9.out.free 1 0 rfl
    have f11:=hC9.out.free 1 1 rfl
    go_upto_region 7 with fail
    refine wp_gen (hC9.out.set 1 rfl|>.set 1 rfl) ?_
    intro W9 hc
    clear hC9 x10 x11 f10 f11
    have hC:=ζ hc
    clear hc
    have hC_c00:=hC.out.cell 0 0 rfl rfl
    have hC_f00:=hC.out.free 0 0 rfl
    have hC_c01:=hC.out.cell 0 1 rfl rfl
    have hC_f01:=hC.out.free 0 1 rfl
    have hC_c10:=hC.out.cell 1 0 rfl rfl
    have hC_f10:=hC.out.free 1 0 rfl
    have hC_c11:=hC.out.cell 1 1 rfl rfl
    have hC_f11:=hC.out.free 1 1 rfl
    have hC_c20:=hC.out.cell 2 0 rfl rfl
    have hC_f20:=hC.out.free 2 0 rfl
    have hC_c21:=hC.out.cell 2 1 rfl rfl
    have hC_f21:=hC.out.free 2 1 rfl
    have hC_c22:=hC.out.cell 2 2 rfl rfl
    have hC_f22:=hC.out.free 2 2 rfl
    have hC_c23:=hC.out.cell 2 3 rfl rfl
    have hC_f23:=hC.out.free 2 3 rfl
    go_wp2
    refine ret_st (hC.out|>.set 2 rfl|>.set 2 rfl|>.set 2 rfl|>.set 2 rfl) (v:= .agg #[.int .i64 s8,.slice a8 n8 c8,.int .i64 s10,.slice a10 n10 c10]) (fun hF=>?_) rfl (fun hF=>⟨_,_,_,_,_,_,_,_,rfl,by rw [HR.out];exact Nq.of (hF.n 4 rfl) (hF.n 5 rfl) HPT.out.1 HPT.out.2,hF.be⟩)
    ·exact mN17_0
   ·have hg:G=1:=by omega
    have dv:decide (0 < v)=false:=by rw [←hv,hg];rfl
    subst hg
    clear hv hg1
    go_region_held3 (fun w'=>w'.cell? ⟨w5.heap.size,0,none⟩=some (.int .i64 s5)∧w'.cell? ⟨w5.heap.size,1,none⟩=some (.slice a5 n5 c5)∧True)
     (first
      | (with_reducible refine And.intro (?_:World.cell? wb _=_) ?_;exact hCb.out.cell 3 0 rfl rfl;exact⟨hCb.out.cell 3 1 rfl rfl,trivial⟩)
      | (with_reducible refine And.intro (?_:World.cell? wa _=_) ?_;exact hCa.out.cell 3 0 rfl rfl;exact⟨hCa.out.cell 3 1 rfl rfl,trivial⟩)
      | (with_reducible refine And.intro (?_:World.cell? (World.drew W5) _=_) ?_;exact hC.out.drew.cell 3 0 rfl rfl;exact⟨hC.out.drew.cell 3 1 rfl rfl,trivial⟩))
     (first
      | (have _t:=hCa;go_at_call 141;refine(cmpN_b (hCa.out.n 2 rfl) (hCa.out.n 3 rfl) BG.out (Bd.i64 (k:=1) (by omega)) (by omega) (by omega)).mono ?_;rintro e wb ⟨rfl,hb⟩;have hCb:=ζ (hCa.out.call hb);clear hb;try rw [HV.out];clear _t hCa)
      | (have _t:=hC;go_at_call 143;refine(zint_any 1 (by omega) _).mono ?_;rintro e wa ⟨s6,a6,n6,c6,rfl,hz,hb⟩;have hCa:=ζ ((hC.out.drew.call hb).pn hz);clear hb hz;clear _t hC)
      | fail)
    have hCb_c00:=hCb.out.cell 0 0 rfl rfl
    have hCb_f00:=hCb.out.free 0 0 rfl
    have hCb_c01:=hCb.out.cell 0 1 rfl rfl
    have hCb_f01:=hCb.out.free 0 1 rfl
    have hCb_c10:=hCb.out.cell 1 0 rfl rfl
    have hCb_f10:=hCb.out.free 1 0 rfl
    have hCb_c11:=hCb.out.cell 1 1 rfl rfl
    have hCb_f11:=hCb.out.free 1 1 rfl
    have hCb_c20:=hCb.out.cell 2 0 rfl rfl
    have hCb_f20:=hCb.out.free 2 0 rfl
    have hCb_c21:=hCb.out.cell 2 1 rfl rfl
    have hCb_f21:=hCb.out.free 2 1 rfl
    have hCb_c22:=hCb.out.cell 2 2 rfl rfl
    have hCb_f22:=hCb.out.free 2 2 rfl
    have hCb_c23:=hCb.out.cell 2 3 rfl rfl
    have hCb_f23:=hCb.out.free 2 3 rfl
    go_wp2
    refine ret_st (hCb.out|>.set 2 rfl|>.set 2 rfl|>.set 2 rfl|>.set 2 rfl) (v:= .agg #[.int .i64 s3,.slice a3 n3 c3,.int .i64 s4,.slice a4 n4 c4]) (fun hF=>?_) rfl (fun hF=>⟨_,_,_,_,_,_,_,_,rfl,by rw [HR.out];exact Nq.of (hF.n 0 rfl) (hF.n 1 rfl) (by have:=HPT.out.1;rwa [Int.natCast_one,Int.ediv_one]at this) (by have:=HPT.out.2;rwa [Int.natCast_one,Int.ediv_one]at this),hF.be⟩)
    ·exact mN17_0
 ·have d0:decide (s2 < 0)=false:=by have:=fun h=>hn (HS2.out.1.1 h);simpa using this
  have HP:=ζ (show 0 < z2 from by have:=HZ.out;omega)
  have BX:=ζ B1.out
  have BY:=ζ B2.out
  clear hn
  go_upto_region 3 with fail
  refine wp_gen hC.out ?_
  intro W3 hc
  clear hC x10 d0
  have hC:=ζ hc
  clear hc
  have HPT:=ζ (divInt_parts (x:=z1) HP.out)
  obtain ⟨G,hG⟩:∃G:Nat,Int.gcd (z1) (z2)=G:=⟨_,rfl⟩
  have hG0:0 < G:=by
   have:=HP.out
   rw [←hG]
   exact Nat.pos_of_ne_zero (fun e=>by have:=(Int.gcd_eq_zero_iff.1 e).2;omega)
  have BG:=ζ (show Bd k (G:Int)from by
   rw [←hG]
   have h1:=HP.out
   have h2:=BY.out
   unfold Bd at*
   rw [Int.natAbs_natCast]
   exact Nat.lt_of_le_of_lt (Nat.gcd_le_right _ (by omega)) h2)
  rw [hG]at HPT
  have HG:=ζ hG
  clear hG
  have x00:=hC.out.cell 0 0 rfl rfl
  have x01:=hC.out.cell 0 1 rfl rfl
  have x10:=hC.out.cell 1 0 rfl rfl
  have x11:=hC.out.cell 1 1 rfl rfl
  go_wp2_with fail
  refine(gcdN_b (hC.out.n 0 rfl) (hC.out.n 1 rfl) BX.out BY.out hk).mono ?_
  rintro e w5 ⟨s5,a5,n5,c5,rfl,hz,hb⟩
  rw [HG.out]at hz
  have hC5:=ζ (((hC.out.call hb).pn hz).al w5.heap.size #[.int .i64 s5,.slice a5 n5 c5] 48 rfl rfl)
  clear hz hb hC x00 x01 x10 x11
  go_upto_region 4 with fail
  refine wp_gen hC5.out ?_
  intro W5 hc
  clear hC5
  have hC:=ζ hc
  clear hc
  obtain ⟨v,hv⟩:∃v:Int,sgnN ((G:Int) - 1)=v:=⟨_,rfl⟩
  have HV:=ζ hv
  by_cases hg1:1 < G
  ·have dv:decide (0 < v)=true:=by rw [←hv,sgnN_pos (by omega)];rfl
   clear hv
   go_region_held3 (fun w'=>w'.cell? ⟨w5.heap.size,0,none⟩=some (.int .i64 s5)∧w'.cell? ⟨w5.heap.size,1,none⟩=some (.slice a5 n5 c5)∧True)
    (first
     | (with_reducible refine And.intro (?_:World.cell? wb _=_) ?_;exact hCb.out.cell 3 0 rfl rfl;exact⟨hCb.out.cell 3 1 rfl rfl,trivial⟩)
     | (with_reducible refine And.intro (?_:World.cell? wa _=_) ?_;exact hCa.out.cell 3 0 rfl rfl;exact⟨hCa.out.cell 3 1 rfl rfl,trivial⟩)
     | (with_reducible refine And.intro (?_:World.cell? (World.drew W5) _=_) ?_;exact hC.out.drew.cell 3 0 rfl rfl;exact⟨hC.out.drew.cell 3 1 rfl rfl,trivial⟩))
    (first
     | (have _t:=hCa;go_at_call 141;refine(cmpN_b (hCa.out.n 2 rfl) (hCa.out.n 3 rfl) BG.out (Bd.i64 (k:=1) (by omega)) (by omega) (by omega)).mono ?_;rintro e wb ⟨rfl,hb⟩;have hCb:=ζ (hCa.out.call hb);clear hb;try rw [HV.out];clear _t hCa)
     | (have _t:=hC;go_at_call 143;refine(zint_any 1 (by omega) _).mono ?_;rintro e wa ⟨s6,a6,n6,c6,rfl,hz,hb⟩;have hCa:=ζ ((hC.out.drew.call hb).pn hz);clear hb hz;clear _t hC)
     | fail)
   have x00:=hCb.out.cell 0 0 rfl rfl
   have x01:=hCb.out.cell 0 1 rfl rfl
   have x30:=hCb.out.cell 3 0 rfl rfl
   have x31:=hCb.out.cell 3 1 rfl rfl
   go_wp2_with fail
   refine(zquotN_b (hCb.out.n 0 rfl) (hCb.out.n 2 rfl) (by omega) BX.out BG.out hk hk).mono ?_
   rintro e w8 ⟨s8,a8,n8,c8,s9,a9,n9,c9,rfl,hz,hz2,hb⟩
   have hC8:=ζ ((hCb.out.call hb).pn hz)
   clear hz hz2 hb hCb x00 x01 x30 x31
   have x00:=hC8.out.cell 0 0 rfl rfl
   have x01:=hC8.out.cell 0 1 rfl rfl
   have f00:=hC8.out.free 0 0 rfl
   have f01:=hC8.out.free 0 1 rfl
   go_upto_region 6 with fail
   refine wp_gen (hC8.out.set 0 rfl|>.set 0 rfl) ?_
   intro W8 hc
   clear hC8 x00 x01 f00 f01
   have hC:=ζ hc
   clear hc
   have x10:=hC.out.cell 1 0 rfl rfl
   have x11:=hC.out.cell 1 1 rfl rfl
   have x30:=hC.out.cell 3 0 rfl rfl
   have x31:=hC.out.cell 3 1 rfl rfl
   go_wp2_with fail
   refine(zquotN_b (hC.out.n 1 rfl) (hC.out.n 2 rfl) (by omega) BY.out BG.out hk hk).mono ?_
   rintro e w9 ⟨s10,a10,n10,c10,s11,a11,n11,c11,rfl,hz,hz2,hb⟩
   have hC9:=ζ ((hC.out.call hb).pn hz)
   clear hz hz2 hb hC x10 x11 x30 x31
   have x10:=hC9.out.cell 1 0 rfl rfl
   have x11:=hC9.out.cell 1 1 rfl rfl
   have f10:=hC9.out.free 1 0 rfl
   have f11:=hC9.out.free 1 1 rfl
   go_upto_region 7 with fail
   refine wp_gen (hC9.out.set 1 rfl|>.set 1 rfl) ?_
   intro W9 hc
   clear hC9 x10 x11 f10 f11
   have hC:=ζ hc
   clear hc
   have hC_c00:=hC.out.cell 0 0 rfl rfl
   have hC_f00:=hC.out.free 0 0 rfl
   have hC_c01:=hC.out.cell 0 1 rfl rfl
   have hC_f01:=hC.out.free 0 1 rfl
   have hC_c10:=hC.out.cell 1 0 rfl rfl
   have hC_f10:=hC.out.free 1 0 rfl
   have hC_c11:=hC.out.cell 1 1 rfl rfl
   have hC_f11:=hC.out.free 1 1 rfl
   have hC_c20:=hC.out.cell 2 0 rfl rfl
   have hC_f20:=hC.out.free 2 0 rfl
   have hC_c21:=hC.out.cell 2 1 rfl rfl
   have hC_f21:=hC.out.free 2 1 rfl
   have hC_c22:=hC.out.cell 2 2 rfl rfl
   have hC_f22:=hC.out.free 2 2 rfl
   have hC_c23:=hC.out.cell 2 3 rfl rfl
   have hC_f23:=hC.out.free 2 3 rfl
   go_wp2
   refine ret_st (hC.out|>.set 2 rfl|>.set 2 rfl|>.set 2 rfl|>.set 2 rfl) (v:= .agg #[.int .i64 s8,.slice a8 n8 c8,.int .i64 s10,.slice a10 n10 c10]) (fun hF=>?_) rfl (fun hF=>⟨_,_,_,_,_,_,_,_,rfl,by exact Nq.of (hF.n 4 rfl) (hF.n 5 rfl) HPT.out.1 HPT.out.2,hF.be⟩)
   ·exact mN17_0
  ·have hg:G=1:=by omega
   have dv:decide (0 < v)=false:=by rw [←hv,hg];rfl
   subst hg
   clear hv hg1
   go_region_held3 (fun w'=>w'.cell? ⟨w5.heap.size,0,none⟩=some (.int .i64 s5)∧w'.cell? ⟨w5.heap.size,1,none⟩=some (.slice a5 n5 c5)∧True)
    (first
     | (with_reducible refine And.intro (?_:World.cell? wb _=_) ?_;exact hCb.out.cell 3 0 rfl rfl;exact⟨hCb.out.cell 3 1 rfl rfl,trivial⟩)
     | (with_reducible refine And.intro (?_:World.cell? wa _=_) ?_;exact hCa.out.cell 3 0 rfl rfl;exact⟨hCa.out.cell 3 1 rfl rfl,trivial⟩)
     | (with_reducible refine And.intro (?_:World.cell? (World.drew W5) _=_) ?_;exact hC.out.drew.cell 3 0 rfl rfl;exact⟨hC.out.drew.cell 3 1 rfl rfl,trivial⟩))
    (first
     | (have _t:=hCa;go_at_call 141;refine(cmpN_b (hCa.out.n 2 rfl) (hCa.out.n 3 rfl) BG.out (Bd.i64 (k:=1) (by omega)) (by omega) (by omega)).mono ?_;rintro e wb ⟨rfl,hb⟩;have hCb:=ζ (hCa.out.call hb);clear hb;try rw [HV.out];clear _t hCa)
     | (have _t:=hC;go_at_call 143;refine(zint_any 1 (by omega) _).mono ?_;rintro e wa ⟨s6,a6,n6,c6,rfl,hz,hb⟩;have hCa:=ζ ((hC.out.drew.call hb).pn hz);clear hb hz;clear _t hC)
     | fail)
   have hCb_c00:=hCb.out.cell 0 0 rfl rfl
   have hCb_f00:=hCb.out.free 0 0 rfl
   have hCb_c01:=hCb.out.cell 0 1 rfl rfl
   have hCb_f01:=hCb.out.free 0 1 rfl
   have hCb_c10:=hCb.out.cell 1 0 rfl rfl
   have hCb_f10:=hCb.out.free 1 0 rfl
   have hCb_c11:=hCb.out.cell 1 1 rfl rfl
   have hCb_f11:=hCb.out.free 1 1 rfl
   have hCb_c20:=hCb.out.cell 2 0 rfl rfl
   have hCb_f20:=hCb.out.free 2 0 rfl
   have hCb_c21:=hCb.out.cell 2 1 rfl rfl
   have hCb_f21:=hCb.out.free 2 1 rfl
   have hCb_c22:=hCb.out.cell 2 2 rfl rfl
   have hCb_f22:=hCb.out.free 2 2 rfl
   have hCb_c23:=hCb.out.cell 2 3 rfl rfl
   have hCb_f23:=hCb.out.free 2 3 rfl
   go_wp2
   refine ret_st (hCb.out|>.set 2 rfl|>.set 2 rfl|>.set 2 rfl|>.set 2 rfl) (v:= .agg #[.int .i64 s1,.slice a1 n1 c1,.int .i64 s2,.slice a2 n2 c2]) (fun hF=>?_) rfl (fun hF=>⟨_,_,_,_,_,_,_,_,rfl,by exact Nq.of (hF.n 0 rfl) (hF.n 1 rfl) (by have:=HPT.out.1;rwa [Int.natCast_one,Int.ediv_one]at this) (by have:=HPT.out.2;rwa [Int.natCast_one,Int.ediv_one]at this),hF.be⟩)
   ·exact mN17_0
section
variable {w W:World} {bs:List (Nat×Array Value×TypeId)} {os:List Rw} {rs:List (World→Prop)}
theorem Sy.away_keeps (h:Sy w W bs os rs) (hb:(bs.all fun x=> !rowT x.2.2)=true) (ho:(os.all fun o=> !rowT o.e)=true) {V:World} (hV:Away (ownOf bs os) W V):Keeps W V:=
 ⟨hV.1,fun k o hk hr=>(hV.2 k (Array.getElem?_eq_some_iff.1 hk).1 (fun hm=>by
  rcases mem_own.1 hm with ⟨x,hx,rfl⟩ | ⟨q,hq,he⟩
  ·rw [(h.bx x hx).2]at hk
   simp only [Option.some.injEq]at hk
   subst hk
   have:=List.all_eq_true.1 hb x hx
   simp only [rowO]at hr
   rw [hr]at this
   exact Bool.noConfusion this
  ·rcases(h.ow q hq).2 with ⟨h1,_⟩ | ⟨g,cap,cur,h1,_,hg,_⟩
   ·rw [h1]at he;simp [Value.ownBlock]at he
   ·rw [h1]at he
    simp only [Value.ownBlock,Option.some.injEq]at he
    subst he
    rw [hg]at hk
    simp only [Option.some.injEq]at hk
    subst hk
    have:=List.all_eq_true.1 ho q hq
    simp only [rowO]at hr
    rw [hr]at this
    exact Bool.noConfusion this)).trans hk⟩
theorem Sy.pushK (h:Sy w W bs os rs) (hb:(bs.all fun x=> !rowT x.2.2)=true) (ho:(os.all fun o=> !rowT o.e)=true) {r:World→Prop} (hk:∀V V',Keeps V V'→r V→r V') (hr:r W):Sy w W bs os (rs++ [r]):=
 h.push (fun V hV=>hk W V (h.away_keeps hb ho hV) hr)
theorem Sy.pr (h:Sy w W bs os rs) (hb:(bs.all fun x=> !rowT x.2.2)=true) (ho:(os.all fun o=> !rowT o.e)=true) {s s':Value} {m:Bool} {q:Rat} (hz:Rd W s m s' q):Sy w W bs os (rs++ [fun V=>Rd V s m s' q]):=h.pushK hb ho (fun _ _ k hz=>hz.keep k) hz
theorem Sy.pq (h:Sy w W bs os rs) (hb:(bs.all fun x=> !rowT x.2.2)=true) (ho:(os.all fun o=> !rowT o.e)=true) {s t:Int} {g g':Value} {q:Rat} (hz:Nq W s g t g' q):Sy w W bs os (rs++ [fun V=>Nq V s g t g' q]):=h.pushK hb ho (fun _ _ k hz=>hz.keep k) hz
end
section
variable {w W:World} {bs:List (Nat×Array Value×TypeId)} {rs:List (World→Prop)}
end
section
variable {w:World} {s1:Int} {a1:Option Addr} {n1 c1:Nat} {z1:Int} {s2:Int} {a2:Option Addr} {n2 c2:Nat} {z2:Int} {k1 k2:Nat}
theorem ofzN_b (h1:Nz w s1 (.slice a1 n1 c1) z1) (h2:Nz w s2 (.slice a2 n2 c2) z2) (b1:Bd k1 z1) (b2:Bd k2 z2) (hk1:k1≤180000) (hk2:k2≤120000) (hz:z2≠0):
  Calls Tryz.prog 137 #[.agg #[.int .i64 s1,.slice a1 n1 c1],.agg #[.int .i64 s2,.slice a2 n2 c2]] w (RetNQ w (Rat.divInt z1 z2)):=
 ofzN_any _ _ _ _ _ _ _ _ _ _ _ h1 h2 hz (k1+k2) (b1.mono (by omega)) (b2.mono (by omega)) (by omega)
end
theorem ofN_any (k:Int) (hk: -9223372036854775808≤k∧k < 9223372036854775808) (w:World):Calls Tryz.prog 90 #[.int .i64 k] w (RetNQ w (k:Rat)):=by
 have HK:=ζ hk
 clear hk
 have hC:=ζ ((St.enter w).al (w.heap.size) #[.int .i64 0,.slice none 0 0,.int .i64 0,.slice none 0 0] 50 rfl rfl)
 go_enter Tryz.func90,Tryz.ntmps90
 go_wp2_with fail
 refine(zint_any k HK.out _).mono ?_
 rintro e w3 ⟨s3,a3,n3,c3,rfl,hz,hb⟩
 have hC3:=ζ ((hC.out.call hb).pn hz)
 clear hb hz
 clear hC
 go_wp2_with fail
 refine(zint_any 1 (by omega) _).mono ?_
 rintro e w4 ⟨s4,a4,n4,c4,rfl,hz,hb⟩
 have hC4:=ζ ((hC3.out.call hb).pn hz)
 clear hb hz
 clear hC3
 have hC4_c00:=hC4.out.cell 0 0 rfl rfl
 have hC4_f00:=hC4.out.free 0 0 rfl
 have hC4_c01:=hC4.out.cell 0 1 rfl rfl
 have hC4_f01:=hC4.out.free 0 1 rfl
 have hC4_c02:=hC4.out.cell 0 2 rfl rfl
 have hC4_f02:=hC4.out.free 0 2 rfl
 have hC4_c03:=hC4.out.cell 0 3 rfl rfl
 have hC4_f03:=hC4.out.free 0 3 rfl
 go_wp2
 refine ret_st (hC4.out|>.set 0 rfl|>.set 0 rfl|>.set 0 rfl|>.set 0 rfl) (v:= .agg #[.int .i64 s3,.slice a3 n3 c3,.int .i64 s4,.slice a4 n4 c4]) (fun hF=>?_) rfl (fun hF=>⟨_,_,_,_,_,_,_,_,rfl,Nq.of (hF.n 0 rfl) (hF.n 1 rfl) (Rat.num_intCast _) (by rw [Rat.den_intCast];rfl),hF.be⟩)
 ·have e0:=hF.cell 0 0 rfl rfl
  have e1:=hF.cell 0 1 rfl rfl
  have e2:=hF.cell 0 2 rfl rfl
  have e3:=hF.cell 0 3 rfl rfl
  simp [results,Tryz.results90,go_sem,e0,e1,e2,e3]
theorem ratioN_any (x y:Int) (hx: -9223372036854775808≤x∧x < 9223372036854775808) (hy: -9223372036854775808≤y∧y < 9223372036854775808) (h0:y≠0) (w:World):Calls Tryz.prog 114 #[.int .i64 x,.int .i64 y] w (RetNQ w (Rat.divInt x y)):=by
 have HX:=ζ hx
 have HY:=ζ hy
 have H0:=ζ h0
 clear hx hy h0
 have hC:=ζ ((St.enter w).al (w.heap.size) #[.int .i64 0,.slice none 0 0,.int .i64 0,.slice none 0 0] 50 rfl rfl)
 go_enter Tryz.func114,Tryz.ntmps114
 go_wp2_with fail
 refine(zint_any x HX.out _).mono ?_
 rintro e w3 ⟨s3,a3,n3,c3,rfl,hz,hb⟩
 have hC3:=ζ ((hC.out.call hb).pn hz)
 clear hb hz
 clear hC
 go_wp2_with fail
 refine(zint_any y HY.out _).mono ?_
 rintro e w4 ⟨s4,a4,n4,c4,rfl,hz,hb⟩
 have hC4:=ζ ((hC3.out.call hb).pn hz)
 clear hb hz
 clear hC3
 go_wp2_with fail
 refine(ofzN_b (hC4.out.n 0 rfl) (hC4.out.n 1 rfl) (Bd.i64 HX.out) (Bd.i64 HY.out) (by omega) (by omega) H0.out).mono ?_
 rintro e w5 ⟨s5,a5,n5,c5,t5,d5,e5,f5,rfl,hz,hb⟩
 have hC5:=ζ ((hC4.out.call hb).pq hz)
 clear hb hz
 clear hC4
 have hC5_c00:=hC5.out.cell 0 0 rfl rfl
 have hC5_f00:=hC5.out.free 0 0 rfl
 have hC5_c01:=hC5.out.cell 0 1 rfl rfl
 have hC5_f01:=hC5.out.free 0 1 rfl
 have hC5_c02:=hC5.out.cell 0 2 rfl rfl
 have hC5_f02:=hC5.out.free 0 2 rfl
 have hC5_c03:=hC5.out.cell 0 3 rfl rfl
 have hC5_f03:=hC5.out.free 0 3 rfl
 go_wp2
 refine ret_st (hC5.out|>.set 0 rfl|>.set 0 rfl|>.set 0 rfl|>.set 0 rfl) (v:= .agg #[.int .i64 s5,.slice a5 n5 c5,.int .i64 t5,.slice d5 e5 f5]) (fun hF=>?_) rfl (fun hF=>⟨_,_,_,_,_,_,_,_,rfl,hF.rq 2 rfl,hF.be⟩)
 ·have e0:=hF.cell 0 0 rfl rfl
  have e1:=hF.cell 0 1 rfl rfl
  have e2:=hF.cell 0 2 rfl rfl
  have e3:=hF.cell 0 3 rfl rfl
  simp [results,Tryz.results114,go_sem,e0,e1,e2,e3]
theorem rnegN_any (s1:Int) (a1:Option Addr) (n1 c1:Nat) (t1:Int) (d1:Option Addr) (e1 f1:Nat) (q1:Rat) (w:World) (h1:Nq w s1 (.slice a1 n1 c1) t1 (.slice d1 e1 f1) q1):
  Calls Tryz.prog 155 #[.agg #[.int .i64 s1,.slice a1 n1 c1,.int .i64 t1,.slice d1 e1 f1]] w (RetNQ w (-q1)):=by
 have hC:=ζ ((((St.enter w).pq h1).al (w.heap.size) #[.int .i64 s1,.slice a1 n1 c1,.int .i64 t1,.slice d1 e1 f1] 50 rfl rfl).al (w.heap.size+1) #[.int .i64 0,.slice none 0 0,.int .i64 0,.slice none 0 0] 50 (by simp) rfl)
 clear h1
 go_enter Tryz.func155,Tryz.ntmps155
 go_wp2
 go_region_held3 (fun w'=>w'.cell? ⟨w.heap.size,0,none⟩=some (.int .i64 s1)∧w'.cell? ⟨w.heap.size,1,none⟩=some (.slice a1 n1 c1)∧w'.cell? ⟨w.heap.size,2,none⟩=some (.int .i64 t1)∧w'.cell? ⟨w.heap.size,3,none⟩=some (.slice d1 e1 f1)∧True)
  (first
   | (with_reducible refine And.intro (?_:World.cell? (World.setCell (World.setCell (World.setCell (World.setCell w4 _ _) _ _) _ _) _ _) _=_) ?_;exact(hC4.out|>.set 1 rfl|>.set 1 rfl|>.set 1 rfl|>.set 1 rfl).cell 0 0 rfl rfl;exact⟨(hC4.out|>.set 1 rfl|>.set 1 rfl|>.set 1 rfl|>.set 1 rfl).cell 0 1 rfl rfl,(hC4.out|>.set 1 rfl|>.set 1 rfl|>.set 1 rfl|>.set 1 rfl).cell 0 2 rfl rfl,(hC4.out|>.set 1 rfl|>.set 1 rfl|>.set 1 rfl|>.set 1 rfl).cell 0 3 rfl rfl,trivial⟩)
   | (with_reducible refine And.intro (?_:World.cell? w4 _=_) ?_;exact hC4.out.cell 0 0 rfl rfl;exact⟨hC4.out.cell 0 1 rfl rfl,hC4.out.cell 0 2 rfl rfl,hC4.out.cell 0 3 rfl rfl,trivial⟩)
   | (with_reducible refine And.intro (?_:World.cell? w3 _=_) ?_;exact hC3.out.cell 0 0 rfl rfl;exact⟨hC3.out.cell 0 1 rfl rfl,hC3.out.cell 0 2 rfl rfl,hC3.out.cell 0 3 rfl rfl,trivial⟩)
   | (with_reducible refine And.intro (?_:World.cell? _ _=_) ?_;exact hC.out.drew.cell 0 0 rfl rfl;exact⟨hC.out.drew.cell 0 1 rfl rfl,hC.out.drew.cell 0 2 rfl rfl,hC.out.drew.cell 0 3 rfl rfl,trivial⟩))
  (first
   | (have _t:=hC3;go_at_call 136;refine(denN_b (hC3.out.rq 0 rfl)).mono ?_;rintro e w4 ⟨s4,a4,n4,c4,rfl,hz,hb⟩;have hC4:=ζ ((hC3.out.call hb).pn hz);clear hb hz;have hC4_c10:=hC4.out.cell 1 0 rfl rfl;have hC4_f10:=hC4.out.free 1 0 rfl;have hC4_c11:=hC4.out.cell 1 1 rfl rfl;have hC4_f11:=hC4.out.free 1 1 rfl;have hC4_c12:=hC4.out.cell 1 2 rfl rfl;have hC4_f12:=hC4.out.free 1 2 rfl;have hC4_c13:=hC4.out.cell 1 3 rfl rfl;have hC4_f13:=hC4.out.free 1 3 rfl;clear _t hC3)
   | (have _t:=hC;go_at_call 164;refine(negN_b (hC.out.drew.rq 0 rfl).n).mono ?_;rintro e w3 ⟨s3,a3,n3,c3,rfl,hz,hb⟩;have hC3:=ζ ((hC.out.drew.call hb).pn hz);clear hb hz;clear _t hC)
   | fail)
 go_wp2
 refine ret_st (hC4.out|>.set 1 rfl|>.set 1 rfl|>.set 1 rfl|>.set 1 rfl) (v:= .agg #[.int .i64 s3,.slice a3 n3 c3,.int .i64 s4,.slice a4 n4 c4]) (fun hF=>?_) rfl (fun hF=>⟨_,_,_,_,_,_,_,_,rfl,Nq.of (hF.n 1 rfl) (hF.n 2 rfl) (Rat.neg_num _) (by rw [Rat.neg_den]),hF.be⟩)
 ·have e0:=hF.cell 1 0 rfl rfl
  have e1:=hF.cell 1 1 rfl rfl
  have e2:=hF.cell 1 2 rfl rfl
  have e3:=hF.cell 1 3 rfl rfl
  simp [results,Tryz.results155,go_sem,e0,e1,e2,e3]
theorem rcmpN_any (s1:Int) (a1:Option Addr) (n1 c1:Nat) (t1:Int) (d1:Option Addr) (e1 f1:Nat) (q1:Rat) (s2:Int) (a2:Option Addr) (n2 c2:Nat) (t2:Int) (d2:Option Addr) (e2 f2:Nat) (q2:Rat) (w:World) (h1:Nq w s1 (.slice a1 n1 c1) t1 (.slice d1 e1 f1) q1) (h2:Nq w s2 (.slice a2 n2 c2) t2 (.slice d2 e2 f2) q2) (k1 k2:Nat) (b1:Bq k1 q1) (b2:Bq k2 q2) (hk1:k1≤40000) (hk2:k2≤40000):
  Calls Tryz.prog 81 #[.agg #[.int .i64 s1,.slice a1 n1 c1,.int .i64 t1,.slice d1 e1 f1],.agg #[.int .i64 s2,.slice a2 n2 c2,.int .i64 t2,.slice d2 e2 f2]] w (fun e w'=>e= .returned (.int .i64 (sgnN (q1.num*q2.den - q2.num*q1.den)))∧Below w.heap.size w w'):=by
 have B1:=ζ b1
 have B2:=ζ b2
 clear b1 b2
 have hC:=ζ (((((St.enter w).pq h1).pq h2).al (w.heap.size) #[.int .i64 s1,.slice a1 n1 c1,.int .i64 t1,.slice d1 e1 f1] 50 rfl rfl).al (w.heap.size+1) #[.int .i64 s2,.slice a2 n2 c2,.int .i64 t2,.slice d2 e2 f2] 50 (by simp) rfl)
 clear h1 h2
 go_enter Tryz.func81,Tryz.ntmps81
 go_wp2
 go_region_held3 (fun w'=>w'.cell? ⟨w.heap.size,0,none⟩=some (.int .i64 s1)∧w'.cell? ⟨w.heap.size,1,none⟩=some (.slice a1 n1 c1)∧w'.cell? ⟨w.heap.size,2,none⟩=some (.int .i64 t1)∧w'.cell? ⟨w.heap.size,3,none⟩=some (.slice d1 e1 f1)∧w'.cell? ⟨w.heap.size+1,0,none⟩=some (.int .i64 s2)∧w'.cell? ⟨w.heap.size+1,1,none⟩=some (.slice a2 n2 c2)∧w'.cell? ⟨w.heap.size+1,2,none⟩=some (.int .i64 t2)∧w'.cell? ⟨w.heap.size+1,3,none⟩=some (.slice d2 e2 f2)∧True)
  (first
   | (with_reducible refine And.intro (?_:World.cell? w7 _=_) ?_;exact hC7.out.cell 0 0 rfl rfl;exact⟨hC7.out.cell 0 1 rfl rfl,hC7.out.cell 0 2 rfl rfl,hC7.out.cell 0 3 rfl rfl,hC7.out.cell 1 0 rfl rfl,hC7.out.cell 1 1 rfl rfl,hC7.out.cell 1 2 rfl rfl,hC7.out.cell 1 3 rfl rfl,trivial⟩)
   | (with_reducible refine And.intro (?_:World.cell? w6 _=_) ?_;exact hC6.out.cell 0 0 rfl rfl;exact⟨hC6.out.cell 0 1 rfl rfl,hC6.out.cell 0 2 rfl rfl,hC6.out.cell 0 3 rfl rfl,hC6.out.cell 1 0 rfl rfl,hC6.out.cell 1 1 rfl rfl,hC6.out.cell 1 2 rfl rfl,hC6.out.cell 1 3 rfl rfl,trivial⟩)
   | (with_reducible refine And.intro (?_:World.cell? w5 _=_) ?_;exact hC5.out.cell 0 0 rfl rfl;exact⟨hC5.out.cell 0 1 rfl rfl,hC5.out.cell 0 2 rfl rfl,hC5.out.cell 0 3 rfl rfl,hC5.out.cell 1 0 rfl rfl,hC5.out.cell 1 1 rfl rfl,hC5.out.cell 1 2 rfl rfl,hC5.out.cell 1 3 rfl rfl,trivial⟩)
   | (with_reducible refine And.intro (?_:World.cell? w4 _=_) ?_;exact hC4.out.cell 0 0 rfl rfl;exact⟨hC4.out.cell 0 1 rfl rfl,hC4.out.cell 0 2 rfl rfl,hC4.out.cell 0 3 rfl rfl,hC4.out.cell 1 0 rfl rfl,hC4.out.cell 1 1 rfl rfl,hC4.out.cell 1 2 rfl rfl,hC4.out.cell 1 3 rfl rfl,trivial⟩)
   | (with_reducible refine And.intro (?_:World.cell? w3 _=_) ?_;exact hC3.out.cell 0 0 rfl rfl;exact⟨hC3.out.cell 0 1 rfl rfl,hC3.out.cell 0 2 rfl rfl,hC3.out.cell 0 3 rfl rfl,hC3.out.cell 1 0 rfl rfl,hC3.out.cell 1 1 rfl rfl,hC3.out.cell 1 2 rfl rfl,hC3.out.cell 1 3 rfl rfl,trivial⟩)
   | (with_reducible refine And.intro (?_:World.cell? _ _=_) ?_;exact hC.out.drew.cell 0 0 rfl rfl;exact⟨hC.out.drew.cell 0 1 rfl rfl,hC.out.drew.cell 0 2 rfl rfl,hC.out.drew.cell 0 3 rfl rfl,hC.out.drew.cell 1 0 rfl rfl,hC.out.drew.cell 1 1 rfl rfl,hC.out.drew.cell 1 2 rfl rfl,hC.out.drew.cell 1 3 rfl rfl,trivial⟩))
  (first
   | (have _t:=hC6;go_at_call 141;refine(cmpN_b (hC6.out.n 3 rfl) (hC6.out.n 5 rfl) (B1.out.num.mul B2.out.den) (B2.out.num.mul B1.out.den) (by omega) (by omega)).mono ?_;rintro e w7 ⟨rfl,hb⟩;have hC7:=ζ ((hC6.out.call hb));clear hb;clear _t hC6)
   | (have _t:=hC5;go_at_call 139;refine(mulN_b (hC5.out.rq 1 rfl).n (hC5.out.n 4 rfl) B2.out.num B1.out.den (by omega) (by omega)).mono ?_;rintro e w6 ⟨s6,a6,n6,c6,rfl,hz,hb⟩;have hC6:=ζ ((hC5.out.call hb).pn hz);clear hb hz;clear _t hC5)
   | (have _t:=hC4;go_at_call 136;refine(denN_b (hC4.out.rq 0 rfl)).mono ?_;rintro e w5 ⟨s5,a5,n5,c5,rfl,hz,hb⟩;have hC5:=ζ ((hC4.out.call hb).pn hz);clear hb hz;clear _t hC4)
   | (have _t:=hC3;go_at_call 139;refine(mulN_b (hC3.out.rq 0 rfl).n (hC3.out.n 2 rfl) B1.out.num B2.out.den (by omega) (by omega)).mono ?_;rintro e w4 ⟨s4,a4,n4,c4,rfl,hz,hb⟩;have hC4:=ζ ((hC3.out.call hb).pn hz);clear hb hz;clear _t hC3)
   | (have _t:=hC;go_at_call 136;refine(denN_b (hC.out.drew.rq 1 rfl)).mono ?_;rintro e w3 ⟨s3,a3,n3,c3,rfl,hz,hb⟩;have hC3:=ζ ((hC.out.drew.call hb).pn hz);clear hb hz;clear _t hC)
   | fail)
 go_wp2
 go_ret
 exact⟨rfl,hC7.out.be⟩
theorem rmulN_any (s1:Int) (a1:Option Addr) (n1 c1:Nat) (t1:Int) (d1:Option Addr) (e1 f1:Nat) (q1:Rat) (s2:Int) (a2:Option Addr) (n2 c2:Nat) (t2:Int) (d2:Option Addr) (e2 f2:Nat) (q2:Rat) (w:World) (h1:Nq w s1 (.slice a1 n1 c1) t1 (.slice d1 e1 f1) q1) (h2:Nq w s2 (.slice a2 n2 c2) t2 (.slice d2 e2 f2) q2) (k1 k2:Nat) (b1:Bq k1 q1) (b2:Bq k2 q2) (hk1:k1≤40000) (hk2:k2≤40000):
  Calls Tryz.prog 108 #[.agg #[.int .i64 s1,.slice a1 n1 c1,.int .i64 t1,.slice d1 e1 f1],.agg #[.int .i64 s2,.slice a2 n2 c2,.int .i64 t2,.slice d2 e2 f2]] w (RetNQ w (Rat.divInt (q1.num*q2.num) (q1.den*q2.den))):=by
 have B1:=ζ b1
 have B2:=ζ b2
 clear b1 b2
 have hC:=ζ ((((((St.enter w).pq h1).pq h2).al (w.heap.size) #[.int .i64 s1,.slice a1 n1 c1,.int .i64 t1,.slice d1 e1 f1] 50 rfl rfl).al (w.heap.size+1) #[.int .i64 s2,.slice a2 n2 c2,.int .i64 t2,.slice d2 e2 f2] 50 (by simp) rfl).al (w.heap.size+2) #[.int .i64 0,.slice none 0 0,.int .i64 0,.slice none 0 0] 50 (by simp) rfl)
 clear h1 h2
 go_enter Tryz.func108,Tryz.ntmps108
 go_wp2
 go_region_held3 (fun w'=>w'.cell? ⟨w.heap.size,0,none⟩=some (.int .i64 s1)∧w'.cell? ⟨w.heap.size,1,none⟩=some (.slice a1 n1 c1)∧w'.cell? ⟨w.heap.size,2,none⟩=some (.int .i64 t1)∧w'.cell? ⟨w.heap.size,3,none⟩=some (.slice d1 e1 f1)∧w'.cell? ⟨w.heap.size+1,0,none⟩=some (.int .i64 s2)∧w'.cell? ⟨w.heap.size+1,1,none⟩=some (.slice a2 n2 c2)∧w'.cell? ⟨w.heap.size+1,2,none⟩=some (.int .i64 t2)∧w'.cell? ⟨w.heap.size+1,3,none⟩=some (.slice d2 e2 f2)∧True)
  (first
   | (with_reducible refine And.intro (?_:World.cell? (World.setCell (World.setCell (World.setCell (World.setCell w7 _ _) _ _) _ _) _ _) _=_) ?_;exact(hC7.out|>.set 2 rfl|>.set 2 rfl|>.set 2 rfl|>.set 2 rfl).cell 0 0 rfl rfl;exact⟨(hC7.out|>.set 2 rfl|>.set 2 rfl|>.set 2 rfl|>.set 2 rfl).cell 0 1 rfl rfl,(hC7.out|>.set 2 rfl|>.set 2 rfl|>.set 2 rfl|>.set 2 rfl).cell 0 2 rfl rfl,(hC7.out|>.set 2 rfl|>.set 2 rfl|>.set 2 rfl|>.set 2 rfl).cell 0 3 rfl rfl,(hC7.out|>.set 2 rfl|>.set 2 rfl|>.set 2 rfl|>.set 2 rfl).cell 1 0 rfl rfl,(hC7.out|>.set 2 rfl|>.set 2 rfl|>.set 2 rfl|>.set 2 rfl).cell 1 1 rfl rfl,(hC7.out|>.set 2 rfl|>.set 2 rfl|>.set 2 rfl|>.set 2 rfl).cell 1 2 rfl rfl,(hC7.out|>.set 2 rfl|>.set 2 rfl|>.set 2 rfl|>.set 2 rfl).cell 1 3 rfl rfl,trivial⟩)
   | (with_reducible refine And.intro (?_:World.cell? w7 _=_) ?_;exact hC7.out.cell 0 0 rfl rfl;exact⟨hC7.out.cell 0 1 rfl rfl,hC7.out.cell 0 2 rfl rfl,hC7.out.cell 0 3 rfl rfl,hC7.out.cell 1 0 rfl rfl,hC7.out.cell 1 1 rfl rfl,hC7.out.cell 1 2 rfl rfl,hC7.out.cell 1 3 rfl rfl,trivial⟩)
   | (with_reducible refine And.intro (?_:World.cell? w6 _=_) ?_;exact hC6.out.cell 0 0 rfl rfl;exact⟨hC6.out.cell 0 1 rfl rfl,hC6.out.cell 0 2 rfl rfl,hC6.out.cell 0 3 rfl rfl,hC6.out.cell 1 0 rfl rfl,hC6.out.cell 1 1 rfl rfl,hC6.out.cell 1 2 rfl rfl,hC6.out.cell 1 3 rfl rfl,trivial⟩)
   | (with_reducible refine And.intro (?_:World.cell? w5 _=_) ?_;exact hC5.out.cell 0 0 rfl rfl;exact⟨hC5.out.cell 0 1 rfl rfl,hC5.out.cell 0 2 rfl rfl,hC5.out.cell 0 3 rfl rfl,hC5.out.cell 1 0 rfl rfl,hC5.out.cell 1 1 rfl rfl,hC5.out.cell 1 2 rfl rfl,hC5.out.cell 1 3 rfl rfl,trivial⟩)
   | (with_reducible refine And.intro (?_:World.cell? w4 _=_) ?_;exact hC4.out.cell 0 0 rfl rfl;exact⟨hC4.out.cell 0 1 rfl rfl,hC4.out.cell 0 2 rfl rfl,hC4.out.cell 0 3 rfl rfl,hC4.out.cell 1 0 rfl rfl,hC4.out.cell 1 1 rfl rfl,hC4.out.cell 1 2 rfl rfl,hC4.out.cell 1 3 rfl rfl,trivial⟩)
   | (with_reducible refine And.intro (?_:World.cell? w3 _=_) ?_;exact hC3.out.cell 0 0 rfl rfl;exact⟨hC3.out.cell 0 1 rfl rfl,hC3.out.cell 0 2 rfl rfl,hC3.out.cell 0 3 rfl rfl,hC3.out.cell 1 0 rfl rfl,hC3.out.cell 1 1 rfl rfl,hC3.out.cell 1 2 rfl rfl,hC3.out.cell 1 3 rfl rfl,trivial⟩)
   | (with_reducible refine And.intro (?_:World.cell? _ _=_) ?_;exact hC.out.drew.cell 0 0 rfl rfl;exact⟨hC.out.drew.cell 0 1 rfl rfl,hC.out.drew.cell 0 2 rfl rfl,hC.out.drew.cell 0 3 rfl rfl,hC.out.drew.cell 1 0 rfl rfl,hC.out.drew.cell 1 1 rfl rfl,hC.out.drew.cell 1 2 rfl rfl,hC.out.drew.cell 1 3 rfl rfl,trivial⟩))
  (first
   | (have _t:=hC6;go_at_call 137;refine(ofzN_b (hC6.out.n 2 rfl) (hC6.out.n 5 rfl) (B1.out.num.mul B2.out.num) (B1.out.den.mul B2.out.den) (by omega) (by omega) (Int.mul_ne_zero (den_ne q1) (den_ne q2))).mono ?_;rintro e w7 ⟨s7,a7,n7,c7,t7,d7,e7,f7,rfl,hz,hb⟩;have hC7:=ζ ((hC6.out.call hb).pq hz);clear hb hz;have hC7_c20:=hC7.out.cell 2 0 rfl rfl;have hC7_f20:=hC7.out.free 2 0 rfl;have hC7_c21:=hC7.out.cell 2 1 rfl rfl;have hC7_f21:=hC7.out.free 2 1 rfl;have hC7_c22:=hC7.out.cell 2 2 rfl rfl;have hC7_f22:=hC7.out.free 2 2 rfl;have hC7_c23:=hC7.out.cell 2 3 rfl rfl;have hC7_f23:=hC7.out.free 2 3 rfl;clear _t hC6)
   | (have _t:=hC5;go_at_call 139;refine(mulN_b (hC5.out.n 3 rfl) (hC5.out.n 4 rfl) B1.out.den B2.out.den (by omega) (by omega)).mono ?_;rintro e w6 ⟨s6,a6,n6,c6,rfl,hz,hb⟩;have hC6:=ζ ((hC5.out.call hb).pn hz);clear hb hz;clear _t hC5)
   | (have _t:=hC4;go_at_call 136;refine(denN_b (hC4.out.rq 1 rfl)).mono ?_;rintro e w5 ⟨s5,a5,n5,c5,rfl,hz,hb⟩;have hC5:=ζ ((hC4.out.call hb).pn hz);clear hb hz;clear _t hC4)
   | (have _t:=hC3;go_at_call 136;refine(denN_b (hC3.out.rq 0 rfl)).mono ?_;rintro e w4 ⟨s4,a4,n4,c4,rfl,hz,hb⟩;have hC4:=ζ ((hC3.out.call hb).pn hz);clear hb hz;clear _t hC3)
   | (have _t:=hC;go_at_call 139;refine(mulN_b (hC.out.drew.rq 0 rfl).n (hC.out.drew.rq 1 rfl).n B1.out.num B2.out.num (by omega) (by omega)).mono ?_;rintro e w3 ⟨s3,a3,n3,c3,rfl,hz,hb⟩;have hC3:=ζ ((hC.out.drew.call hb).pn hz);clear hb hz;clear _t hC)
   | fail)
 go_wp2
 refine ret_st (hC7.out|>.set 2 rfl|>.set 2 rfl|>.set 2 rfl|>.set 2 rfl) (v:= .agg #[.int .i64 s7,.slice a7 n7 c7,.int .i64 t7,.slice d7 e7 f7]) (fun hF=>?_) rfl (fun hF=>⟨_,_,_,_,_,_,_,_,rfl,hF.rq 6 rfl,hF.be⟩)
 ·have e0:=hF.cell 2 0 rfl rfl
  have e1:=hF.cell 2 1 rfl rfl
  have e2:=hF.cell 2 2 rfl rfl
  have e3:=hF.cell 2 3 rfl rfl
  simp [results,Tryz.results108,go_sem,e0,e1,e2,e3]
theorem raddN_any (s1:Int) (a1:Option Addr) (n1 c1:Nat) (t1:Int) (d1:Option Addr) (e1 f1:Nat) (q1:Rat) (s2:Int) (a2:Option Addr) (n2 c2:Nat) (t2:Int) (d2:Option Addr) (e2 f2:Nat) (q2:Rat) (w:World) (h1:Nq w s1 (.slice a1 n1 c1) t1 (.slice d1 e1 f1) q1) (h2:Nq w s2 (.slice a2 n2 c2) t2 (.slice d2 e2 f2) q2) (k1 k2:Nat) (b1:Bq k1 q1) (b2:Bq k2 q2) (hk1:k1≤40000) (hk2:k2≤40000):
  Calls Tryz.prog 73 #[.agg #[.int .i64 s1,.slice a1 n1 c1,.int .i64 t1,.slice d1 e1 f1],.agg #[.int .i64 s2,.slice a2 n2 c2,.int .i64 t2,.slice d2 e2 f2]] w (RetNQ w (Rat.divInt (q1.num*q2.den+q2.num*q1.den) (q1.den*q2.den))):=by
 have B1:=ζ b1
 have B2:=ζ b2
 clear b1 b2
 have hC:=ζ ((((((St.enter w).pq h1).pq h2).al (w.heap.size) #[.int .i64 s1,.slice a1 n1 c1,.int .i64 t1,.slice d1 e1 f1] 50 rfl rfl).al (w.heap.size+1) #[.int .i64 s2,.slice a2 n2 c2,.int .i64 t2,.slice d2 e2 f2] 50 (by simp) rfl).al (w.heap.size+2) #[.int .i64 0,.slice none 0 0,.int .i64 0,.slice none 0 0] 50 (by simp) rfl)
 clear h1 h2
 go_enter Tryz.func73,Tryz.ntmps73
 go_wp2
 go_region_held3 (fun w'=>w'.cell? ⟨w.heap.size,0,none⟩=some (.int .i64 s1)∧w'.cell? ⟨w.heap.size,1,none⟩=some (.slice a1 n1 c1)∧w'.cell? ⟨w.heap.size,2,none⟩=some (.int .i64 t1)∧w'.cell? ⟨w.heap.size,3,none⟩=some (.slice d1 e1 f1)∧w'.cell? ⟨w.heap.size+1,0,none⟩=some (.int .i64 s2)∧w'.cell? ⟨w.heap.size+1,1,none⟩=some (.slice a2 n2 c2)∧w'.cell? ⟨w.heap.size+1,2,none⟩=some (.int .i64 t2)∧w'.cell? ⟨w.heap.size+1,3,none⟩=some (.slice d2 e2 f2)∧True)
  (first
   | (with_reducible refine And.intro (?_:World.cell? (World.setCell (World.setCell (World.setCell (World.setCell w11 _ _) _ _) _ _) _ _) _=_) ?_;exact(hC11.out|>.set 2 rfl|>.set 2 rfl|>.set 2 rfl|>.set 2 rfl).cell 0 0 rfl rfl;exact⟨(hC11.out|>.set 2 rfl|>.set 2 rfl|>.set 2 rfl|>.set 2 rfl).cell 0 1 rfl rfl,(hC11.out|>.set 2 rfl|>.set 2 rfl|>.set 2 rfl|>.set 2 rfl).cell 0 2 rfl rfl,(hC11.out|>.set 2 rfl|>.set 2 rfl|>.set 2 rfl|>.set 2 rfl).cell 0 3 rfl rfl,(hC11.out|>.set 2 rfl|>.set 2 rfl|>.set 2 rfl|>.set 2 rfl).cell 1 0 rfl rfl,(hC11.out|>.set 2 rfl|>.set 2 rfl|>.set 2 rfl|>.set 2 rfl).cell 1 1 rfl rfl,(hC11.out|>.set 2 rfl|>.set 2 rfl|>.set 2 rfl|>.set 2 rfl).cell 1 2 rfl rfl,(hC11.out|>.set 2 rfl|>.set 2 rfl|>.set 2 rfl|>.set 2 rfl).cell 1 3 rfl rfl,trivial⟩)
   | (with_reducible refine And.intro (?_:World.cell? w11 _=_) ?_;exact hC11.out.cell 0 0 rfl rfl;exact⟨hC11.out.cell 0 1 rfl rfl,hC11.out.cell 0 2 rfl rfl,hC11.out.cell 0 3 rfl rfl,hC11.out.cell 1 0 rfl rfl,hC11.out.cell 1 1 rfl rfl,hC11.out.cell 1 2 rfl rfl,hC11.out.cell 1 3 rfl rfl,trivial⟩)
   | (with_reducible refine And.intro (?_:World.cell? w10 _=_) ?_;exact hC10.out.cell 0 0 rfl rfl;exact⟨hC10.out.cell 0 1 rfl rfl,hC10.out.cell 0 2 rfl rfl,hC10.out.cell 0 3 rfl rfl,hC10.out.cell 1 0 rfl rfl,hC10.out.cell 1 1 rfl rfl,hC10.out.cell 1 2 rfl rfl,hC10.out.cell 1 3 rfl rfl,trivial⟩)
   | (with_reducible refine And.intro (?_:World.cell? w9 _=_) ?_;exact hC9.out.cell 0 0 rfl rfl;exact⟨hC9.out.cell 0 1 rfl rfl,hC9.out.cell 0 2 rfl rfl,hC9.out.cell 0 3 rfl rfl,hC9.out.cell 1 0 rfl rfl,hC9.out.cell 1 1 rfl rfl,hC9.out.cell 1 2 rfl rfl,hC9.out.cell 1 3 rfl rfl,trivial⟩)
   | (with_reducible refine And.intro (?_:World.cell? w8 _=_) ?_;exact hC8.out.cell 0 0 rfl rfl;exact⟨hC8.out.cell 0 1 rfl rfl,hC8.out.cell 0 2 rfl rfl,hC8.out.cell 0 3 rfl rfl,hC8.out.cell 1 0 rfl rfl,hC8.out.cell 1 1 rfl rfl,hC8.out.cell 1 2 rfl rfl,hC8.out.cell 1 3 rfl rfl,trivial⟩)
   | (with_reducible refine And.intro (?_:World.cell? w7 _=_) ?_;exact hC7.out.cell 0 0 rfl rfl;exact⟨hC7.out.cell 0 1 rfl rfl,hC7.out.cell 0 2 rfl rfl,hC7.out.cell 0 3 rfl rfl,hC7.out.cell 1 0 rfl rfl,hC7.out.cell 1 1 rfl rfl,hC7.out.cell 1 2 rfl rfl,hC7.out.cell 1 3 rfl rfl,trivial⟩)
   | (with_reducible refine And.intro (?_:World.cell? w6 _=_) ?_;exact hC6.out.cell 0 0 rfl rfl;exact⟨hC6.out.cell 0 1 rfl rfl,hC6.out.cell 0 2 rfl rfl,hC6.out.cell 0 3 rfl rfl,hC6.out.cell 1 0 rfl rfl,hC6.out.cell 1 1 rfl rfl,hC6.out.cell 1 2 rfl rfl,hC6.out.cell 1 3 rfl rfl,trivial⟩)
   | (with_reducible refine And.intro (?_:World.cell? w5 _=_) ?_;exact hC5.out.cell 0 0 rfl rfl;exact⟨hC5.out.cell 0 1 rfl rfl,hC5.out.cell 0 2 rfl rfl,hC5.out.cell 0 3 rfl rfl,hC5.out.cell 1 0 rfl rfl,hC5.out.cell 1 1 rfl rfl,hC5.out.cell 1 2 rfl rfl,hC5.out.cell 1 3 rfl rfl,trivial⟩)
   | (with_reducible refine And.intro (?_:World.cell? w4 _=_) ?_;exact hC4.out.cell 0 0 rfl rfl;exact⟨hC4.out.cell 0 1 rfl rfl,hC4.out.cell 0 2 rfl rfl,hC4.out.cell 0 3 rfl rfl,hC4.out.cell 1 0 rfl rfl,hC4.out.cell 1 1 rfl rfl,hC4.out.cell 1 2 rfl rfl,hC4.out.cell 1 3 rfl rfl,trivial⟩)
   | (with_reducible refine And.intro (?_:World.cell? w3 _=_) ?_;exact hC3.out.cell 0 0 rfl rfl;exact⟨hC3.out.cell 0 1 rfl rfl,hC3.out.cell 0 2 rfl rfl,hC3.out.cell 0 3 rfl rfl,hC3.out.cell 1 0 rfl rfl,hC3.out.cell 1 1 rfl rfl,hC3.out.cell 1 2 rfl rfl,hC3.out.cell 1 3 rfl rfl,trivial⟩)
   | (with_reducible refine And.intro (?_:World.cell? _ _=_) ?_;exact hC.out.drew.cell 0 0 rfl rfl;exact⟨hC.out.drew.cell 0 1 rfl rfl,hC.out.drew.cell 0 2 rfl rfl,hC.out.drew.cell 0 3 rfl rfl,hC.out.drew.cell 1 0 rfl rfl,hC.out.drew.cell 1 1 rfl rfl,hC.out.drew.cell 1 2 rfl rfl,hC.out.drew.cell 1 3 rfl rfl,trivial⟩))
  (first
   | (have _t:=hC10;go_at_call 137;refine(ofzN_b (hC10.out.n 6 rfl) (hC10.out.n 9 rfl) ((B1.out.num.mul B2.out.den).add (B2.out.num.mul B1.out.den)) (B1.out.den.mul B2.out.den) (by omega) (by omega) (Int.mul_ne_zero (den_ne q1) (den_ne q2))).mono ?_;rintro e w11 ⟨s11,a11,n11,c11,t11,d11,e11,f11,rfl,hz,hb⟩;have hC11:=ζ ((hC10.out.call hb).pq hz);clear hb hz;have hC11_c20:=hC11.out.cell 2 0 rfl rfl;have hC11_f20:=hC11.out.free 2 0 rfl;have hC11_c21:=hC11.out.cell 2 1 rfl rfl;have hC11_f21:=hC11.out.free 2 1 rfl;have hC11_c22:=hC11.out.cell 2 2 rfl rfl;have hC11_f22:=hC11.out.free 2 2 rfl;have hC11_c23:=hC11.out.cell 2 3 rfl rfl;have hC11_f23:=hC11.out.free 2 3 rfl;clear _t hC10)
   | (have _t:=hC9;go_at_call 139;refine(mulN_b (hC9.out.n 7 rfl) (hC9.out.n 8 rfl) B1.out.den B2.out.den (by omega) (by omega)).mono ?_;rintro e w10 ⟨s10,a10,n10,c10,rfl,hz,hb⟩;have hC10:=ζ ((hC9.out.call hb).pn hz);clear hb hz;clear _t hC9)
   | (have _t:=hC8;go_at_call 136;refine(denN_b (hC8.out.rq 1 rfl)).mono ?_;rintro e w9 ⟨s9,a9,n9,c9,rfl,hz,hb⟩;have hC9:=ζ ((hC8.out.call hb).pn hz);clear hb hz;clear _t hC8)
   | (have _t:=hC7;go_at_call 136;refine(denN_b (hC7.out.rq 0 rfl)).mono ?_;rintro e w8 ⟨s8,a8,n8,c8,rfl,hz,hb⟩;have hC8:=ζ ((hC7.out.call hb).pn hz);clear hb hz;clear _t hC7)
   | (have _t:=hC6;go_at_call 138;refine(addN_b (hC6.out.n 3 rfl) (hC6.out.n 5 rfl) (B1.out.num.mul B2.out.den) (B2.out.num.mul B1.out.den) (by omega) (by omega)).mono ?_;rintro e w7 ⟨s7,a7,n7,c7,rfl,hz,hb⟩;have hC7:=ζ ((hC6.out.call hb).pn hz);clear hb hz;clear _t hC6)
   | (have _t:=hC5;go_at_call 139;refine(mulN_b (hC5.out.rq 1 rfl).n (hC5.out.n 4 rfl) B2.out.num B1.out.den (by omega) (by omega)).mono ?_;rintro e w6 ⟨s6,a6,n6,c6,rfl,hz,hb⟩;have hC6:=ζ ((hC5.out.call hb).pn hz);clear hb hz;clear _t hC5)
   | (have _t:=hC4;go_at_call 136;refine(denN_b (hC4.out.rq 0 rfl)).mono ?_;rintro e w5 ⟨s5,a5,n5,c5,rfl,hz,hb⟩;have hC5:=ζ ((hC4.out.call hb).pn hz);clear hb hz;clear _t hC4)
   | (have _t:=hC3;go_at_call 139;refine(mulN_b (hC3.out.rq 0 rfl).n (hC3.out.n 2 rfl) B1.out.num B2.out.den (by omega) (by omega)).mono ?_;rintro e w4 ⟨s4,a4,n4,c4,rfl,hz,hb⟩;have hC4:=ζ ((hC3.out.call hb).pn hz);clear hb hz;clear _t hC3)
   | (have _t:=hC;go_at_call 136;refine(denN_b (hC.out.drew.rq 1 rfl)).mono ?_;rintro e w3 ⟨s3,a3,n3,c3,rfl,hz,hb⟩;have hC3:=ζ ((hC.out.drew.call hb).pn hz);clear hb hz;clear _t hC)
   | fail)
 go_wp2
 refine ret_st (hC11.out|>.set 2 rfl|>.set 2 rfl|>.set 2 rfl|>.set 2 rfl) (v:= .agg #[.int .i64 s11,.slice a11 n11 c11,.int .i64 t11,.slice d11 e11 f11]) (fun hF=>?_) rfl (fun hF=>⟨_,_,_,_,_,_,_,_,rfl,hF.rq 10 rfl,hF.be⟩)
 ·have e0:=hF.cell 2 0 rfl rfl
  have e1:=hF.cell 2 1 rfl rfl
  have e2:=hF.cell 2 2 rfl rfl
  have e3:=hF.cell 2 3 rfl rfl
  simp [results,Tryz.results73,go_sem,e0,e1,e2,e3]
section
variable {w:World} {s1:Int} {a1:Option Addr} {n1 c1:Nat} {t1:Int} {d1:Option Addr} {e1 f1:Nat} {q1:Rat} {s2:Int} {a2:Option Addr} {n2 c2:Nat} {t2:Int} {d2:Option Addr} {e2 f2:Nat} {q2:Rat} {k1 k2:Nat}
theorem raddN_b (h1:Nq w s1 (.slice a1 n1 c1) t1 (.slice d1 e1 f1) q1) (h2:Nq w s2 (.slice a2 n2 c2) t2 (.slice d2 e2 f2) q2) (b1:Bq k1 q1) (b2:Bq k2 q2) (hk1:k1≤40000) (hk2:k2≤40000):
  Calls Tryz.prog 73 #[.agg #[.int .i64 s1,.slice a1 n1 c1,.int .i64 t1,.slice d1 e1 f1],.agg #[.int .i64 s2,.slice a2 n2 c2,.int .i64 t2,.slice d2 e2 f2]] w (RetNQ w (q1+q2)):=by
 rw [add_eq];exact raddN_any _ _ _ _ _ _ _ _ _ _ _ _ _ _ _ _ _ _ _ h1 h2 k1 k2 b1 b2 hk1 hk2
theorem rmulN_b (h1:Nq w s1 (.slice a1 n1 c1) t1 (.slice d1 e1 f1) q1) (h2:Nq w s2 (.slice a2 n2 c2) t2 (.slice d2 e2 f2) q2) (b1:Bq k1 q1) (b2:Bq k2 q2) (hk1:k1≤40000) (hk2:k2≤40000):
  Calls Tryz.prog 108 #[.agg #[.int .i64 s1,.slice a1 n1 c1,.int .i64 t1,.slice d1 e1 f1],.agg #[.int .i64 s2,.slice a2 n2 c2,.int .i64 t2,.slice d2 e2 f2]] w (RetNQ w (q1*q2)):=by
 rw [mul_eq];exact rmulN_any _ _ _ _ _ _ _ _ _ _ _ _ _ _ _ _ _ _ _ h1 h2 k1 k2 b1 b2 hk1 hk2
theorem rnegN_b (h1:Nq w s1 (.slice a1 n1 c1) t1 (.slice d1 e1 f1) q1):Calls Tryz.prog 155 #[.agg #[.int .i64 s1,.slice a1 n1 c1,.int .i64 t1,.slice d1 e1 f1]] w (RetNQ w (-q1)):=rnegN_any _ _ _ _ _ _ _ _ _ _ h1
end
section
open Go.RowKit Go.Shelf Dig
section
variable (w:World)
theorem rOf_any (k:Int) (hk: -9223372036854775808≤k∧k < 9223372036854775808):Calls Tryz.prog 72 #[.int .i64 k] w (RetNQ w (k:Rat)):=by
 have hC:=ζ ((Sy.enter w).al w.heap.size #[.int .i64 0,.slice none 0 0,.int .i64 0,.slice none 0 0] 50 rfl)
 have HK:=ζ (fun W=>ofN_any k hk W)
 clear hk
 go_enter Tryz.func72,Tryz.ntmps72
 go_wp2_with fail
 refine(HK.out _).mono ?_
 rintro e w3 ⟨s3,a3,n3,c3,t3,d3,e3,f3,rfl,hz,hb⟩
 have hD:=ζ ((hC.out.call hb).pq rfl rfl hz)
 clear hb hz hC
 have x0_0:=hD.out.cell 0 0 rfl rfl
 have xf0_0:=hD.out.free 0 0 rfl
 have x0_1:=hD.out.cell 0 1 rfl rfl
 have xf0_1:=hD.out.free 0 1 rfl
 have x0_2:=hD.out.cell 0 2 rfl rfl
 have xf0_2:=hD.out.free 0 2 rfl
 have x0_3:=hD.out.cell 0 3 rfl rfl
 have xf0_3:=hD.out.free 0 3 rfl
 go_wp2
 have hE:=ζ (hD.out|>.set (j:=0) (v:= .int .i64 s3) 0 rfl|>.set (j:=1) (v:= .slice a3 n3 c3) 0 rfl|>.set (j:=2) (v:= .int .i64 t3) 0 rfl|>.set (j:=3) (v:= .slice d3 e3 f3) 0 rfl)
 clear hD
 refine ret_sy hE.out (v:= .agg #[.int .i64 s3,.slice a3 n3 c3,.int .i64 t3,.slice d3 e3 f3]) (fun hF=>?_) rfl (fun hF=>⟨_,_,_,_,_,_,_,_,rfl,hF.r 0 rfl,hF.be⟩)
 have g0:=hF.cell 0 0 rfl rfl
 have g1:=hF.cell 0 1 rfl rfl
 have g2:=hF.cell 0 2 rfl rfl
 have g3:=hF.cell 0 3 rfl rfl
 simp [results,Tryz.results72,go_sem,g0,g1,g2,g3]
def corT (l:List Pt) (a b:Int) (k:Nat):List Int:=a::ins (l.take k) a b
theorem corT_end (l:List Pt) (a b:Int):corT l a b l.length++ [b]=cor l a b:=by unfold corT cor;rw [List.take_length];rfl
theorem corT_step {l:List Pt} {a b:Int} {k:Nat} (h:k < l.length):corT l a b (k+1)=corT l a b k++(if a < l[k].1∧l[k].1 < b then [l[k].1]else []):=by
 unfold corT ins
 rw [List.take_succ_eq_append_getElem h,List.map_append,List.filter_append]
 show _=a::_++_
 rw [List.cons_append]
 congr 2
 by_cases h1:a < l[k].1<;>by_cases h2:l[k].1 < b
 all_goals
  simp only [List.map_cons,List.map_nil,List.filter_cons,List.filter_nil,h1,h2,decide_true,decide_false,Bool.and_true,Bool.and_false,if_true,and_self,and_false,false_and,if_false,Bool.false_eq_true,Bool.and_self]
  try rfl
theorem corT_len (l:List Pt) (a b:Int) (k:Nat):(corT l a b k).length≤k+1:=by
 unfold corT ins
 rw [List.length_cons]
 have:=List.length_filter_le (fun x=>decide (a < x) && decide (x < b)) ((l.take k).map (·.x))
 rw [List.length_map,List.length_take]at this
 omega
theorem rcorners_any (a0:Option Addr) (n c:Nat) (l:List Pt) (a b:Int) (hs:Sx 2 w a0 n c (L2 l)) (hn:n≤1000):Calls Tryz.prog 105 #[.slice a0 n c,.int .i64 a,.int .i64 b] w (fun e w'=>∃a' c',e= .returned (.slice a' (cor l a b).length c')∧Hid (w'.ownsRow w.heap.size 3 1 (.slice a' (cor l a b).length c') (cor l a b).length (L1 (cor l a b)))∧Below w.heap.size w w'):=by
 obtain rfl:=hs.n2
 have HS:=ζ hs
 have HEN:=ζ (corT_end l a b)
 have HLE:=ζ (corT_len l a b)
 generalize cor l a b=R at*
 clear hs
 have hA:=ζ ((Sy.enter w).onew w.heap.size #[.int .i64 a] 3 1 1 rfl (by omega) rfl)
 go_enter Tryz.func105,Tryz.ntmps105
 go_upto_region 2 with fail
 obtain ⟨gA,hgA⟩:∃g,w.heap.size=g:=⟨_,rfl⟩
 have HGA:=ζ hgA
 clear hgA
 refine wp_geny hA.out ?_
 intro W0 hc
 have hC:=ζ hc
 clear hc hA
 go_wp2
 go_loopw [8,7] (fun iv ov wr=>∃ (k:Nat) (n':Nat) (a':Option Addr) (c':Nat),k≤l.length∧iv= .int .i64 k∧ov= .slice a' n' c'∧n'≤k+1∧Hid ((corT l a b k).length=n')∧Hid (Sy w wr [] [⟨.slice a' n' c',3,1,n',L1 (corT l a b k)⟩] [])) (fun iv _ _=>l.length - (intOf iv).toNat)
 case atStart=>exact⟨0,1,_,1,Nat.zero_le _,rfl,rfl,by omega,ζ (by unfold corT ins;simp),ζ (by have h:=hC.out;unfold corT ins;simpa [L1] using h)⟩
 case round=>
  clear hC
  obtain ⟨k,n',a',c',hk,rfl,rfl,hnk,HLN,hC⟩:=hrel
  by_cases hlt:k < l.length
  ·obtain ⟨g0,o0,rfl⟩:=HS.out.addr (by omega)
   obtain ⟨x0,-⟩:=(hC.out.sx HS.out).at2 hlt
   have HX:=ζ (fun V (hV:Below w.heap.size w V)=>((HS.out.below hV).at2 hlt).1)
   have HST:=ζ (corT_step (a:=a) (b:=b) hlt)
   have i0:(0:Int)≤(k:Int):=by omega
   have i1:(k:Int) < (l.length:Int):=by omega
   generalize l[k].1=u at*
   by_cases h1:a < u
   ·by_cases h2:u < b
    ·have HT:=ζ (show corT l a b (k+1)=corT l a b k++ [u]from by rw [HST.out,if_pos ⟨h1,h2⟩])
     have HT2:=ζ (show L1 (corT l a b (k+1))=L1 (corT l a b k)++ [.int .i64 u]from by rw [HT.out];unfold L1;rw [List.map_append];rfl)
     go_wp2_with (refine wpList_append_sy (o:=⟨some 40,_,_,_,_,_⟩) rfl (hC.out.onew wr.heap.size #[.int .i64 u] 3 1 1 rfl (by omega) rfl) 0 1 rfl rfl _ _ _ rfl und_hint info_hint rfl (by omega) rfl rfl (by intro u hu;simp at hu;rcases hu with rfl;rfl) (by omega) (by omega) ?_;intro a3 c3 V3 hV3;have hJ:=ζ hV3;clear hV3)
     have hK:=ζ (hJ.out.thin (bs':=[]) (List.nil_sublist _) (List.Sublist.cons_cons _ (List.nil_sublist _)))
     clear hJ
     go_roundw
     case rel=>exact⟨k+1,n'+1,a3,c3,by omega,by go_num,rfl,by omega,ζ (by rw [HT.out,List.length_append,HLN.out];rfl),ζ (by rw [HT2.out];exact hK.out)⟩
     case measure=>simp [intOf];omega
    ·have HT:=ζ (show corT l a b (k+1)=corT l a b k from by rw [HST.out,if_neg (fun h=>h2 h.2),List.append_nil])
     have d2:=decide_eq_false h2
     go_wp2
     go_roundw
     case rel=>exact⟨k+1,n',a',c',by omega,by go_num,rfl,by omega,ζ (by rw [HT.out];exact HLN.out),ζ (by rw [HT.out];exact hC.out)⟩
     case measure=>simp [intOf];omega
   ·have HT:=ζ (show corT l a b (k+1)=corT l a b k from by rw [HST.out,if_neg (fun h=>h1 h.1),List.append_nil])
    have d1:=decide_eq_false h1
    go_wp2
    go_roundw
    case rel=>exact⟨k+1,n',a',c',by omega,by go_num,rfl,by omega,ζ (by rw [HT.out];exact HLN.out),ζ (by rw [HT.out];exact hC.out)⟩
    case measure=>simp [intOf];omega
  ·obtain rfl:k=l.length:=by omega
   have HT2:=ζ (show L1 R=L1 (corT l a b l.length)++ [.int .i64 b]from by rw [←HEN.out];unfold L1;rw [List.map_append];rfl)
   have HRL:=ζ (show R.length=n'+1 from by rw [←HEN.out,List.length_append,HLN.out];rfl)
   go_wp2_with (refine wpList_append_sy (o:=⟨some 44,_,_,_,_,_⟩) rfl (hC.out.onew wr.heap.size #[.int .i64 b] 3 1 1 rfl (by omega) rfl) 0 1 rfl rfl _ _ _ rfl und_hint info_hint rfl (by omega) rfl rfl (by intro u hu;simp at hu;rcases hu with rfl;rfl) (by omega) (by omega) ?_;intro a3 c3 V3 hV3;have hJ:=ζ hV3;clear hV3)
   go_ret
   exact⟨a3,c3,(by rw [HRL.out];first | done | rfl),ζ (by rw [HRL.out,HT2.out];exact hJ.out.orow 0 rfl),hJ.out.be⟩
end
end
end Go.Proofs.YthmdhlopeponcaaGreatDoor
