/- part -/
import Derived.Test.YthmdhlopeponcaaGreatDoorK36
import Derived.Test.YthmdhlopeponcaaGreatDoorK29
import Derived.Test.YthmdhlopeponcaaGreatDoorK22
set_option maxRecDepth 100000
set_option maxHeartbeats 8000000
namespace Go.Proofs.YthmdhlopeponcaaGreatDoor
open Go.RowKit Dig
theorem qN17_0 {P_:Prop} (h:P_:=by exact⟨Yx.c 3 0,Yx.c 3 1,trivial⟩):P_:=h
structure Nq (w:World) (s:Int) (g:Value) (t:Int) (h:Value) (q:Rat):Prop where
 n:Nz w s g q.num
 d:Nz w t h (q.den:Int)\/(Nz w t h 0/\q.den=1)
theorem Nq.keep {w w':World} {s t:Int} {g h:Value} {q:Rat} (x:Nq w s g t h q) (hk:Keeps w w'):Nq w' s g t h q:=⟨x.n.keep hk,x.d.imp (fun y=>y.keep hk) (fun y=>⟨y.1.keep hk,y.2⟩)⟩
section
variable {w W:World} {bs:List (Nat×Array Value×TypeId)} {rs:List (World->Prop)}
theorem St.pq (h:St w W bs rs) {s t:Int} {g g':Value} {q:Rat} (hz:Nq W s g t g' q):St w W bs (rs++ [fun V=>Nq V s g t g' q]):=h.push (fun _ _ k hz=>hz.keep k) hz
theorem St.rq (h:St w W bs rs) (i:Nat) {s t:Int} {g g':Value} {q:Rat} (hx:rs[i]? =some (fun V=>Nq V s g t g' q)):Nq W s g t g' q:=(h.rd _ (List.mem_of_getElem? hx)).2
end
def RetNQ (w:World) (q:Rat) (e:Ending) (w':World):Prop:=∃s a n c t d e' f,e= .returned (.agg #[.int .i64 s,.slice a n c,.int .i64 t,.slice d e' f])/\Nq w' s (.slice a n c) t (.slice d e' f) q/\Below w.heap.size w w'
theorem Nq.of {w:World} {s t:Int} {g h:Value} {q:Rat} {x y:Int} (hx:Nz w s g x) (hy:Nz w t h y) (ex:q.num=x) (ey:(q.den:Int)=y):Nq w s g t h q:=⟨by rw [ex];exact hx,.inl (by rw [ey];exact hy)⟩
theorem Nq.nil {w:World} :Nq w 0 (.slice none 0 0) 0 (.slice none 0 0) 0:=⟨Nz.nil,.inr ⟨Nz.nil,rfl⟩⟩
section
variable {w:World} {s1:Int} {a1:OA} {n1 c1:Nat} {z1:Int} {s2:Int} {a2:OA} {n2 c2:Nat} {z2:Int} {k:Nat}
theorem gcdN_b (h1:Nz w s1 (.slice a1 n1 c1) z1) (h2:Nz w s2 (.slice a2 n2 c2) z2) (b1:Bd k z1) (b2:Bd k z2) (hk:k<=300000):
  Calls Tryz.prog 167 #[.agg #[.int .i64 s1,.slice a1 n1 c1],.agg #[.int .i64 s2,.slice a2 n2 c2]] w (RetN w ((Int.gcd z1 z2:Nat):Int)):=zgcdN_any _ _ _ _ _ _ _ _ _ _ _ h1 h2 k b1 b2 hk
end
theorem divInt_parts {x y:Int} (hy:0 < y):(Rat.divInt x y).num=x / ((Int.gcd x y:Nat):Int)/\((Rat.divInt x y).den:Int)=y / ((Int.gcd x y:Nat):Int):=by
 constructor
 ·rw [Rat.num_divInt,Int.sign_eq_one_of_pos hy,Int.one_mul,Int.gcd_comm]
 ·rw [Rat.den_divInt,if_neg (by omega),Int.gcd_comm];obtain ⟨m,rfl⟩:=Int.eq_ofNat_of_zero_le (Int.le_of_lt hy);rw [Int.natAbs_natCast];rfl
theorem divInt_flip {x y:Int} :Rat.divInt (-x) (-y)=Rat.divInt x y:=by
 exact Rat.neg_divInt_neg _ _
theorem denN_some (s1:Int) (a1:OA) (n1 c1:Nat) (t1:Int) (d1:OA) (e1 f1:Nat) (q1:Rat) (w:World) (_h1:Nq w s1 (.slice a1 n1 c1) t1 (.slice d1 e1 f1) q1) (hd:Nz w t1 (.slice d1 e1 f1) (q1.den:Int)):
  Calls Tryz.prog 136 #[.agg #[.int .i64 s1,.slice a1 n1 c1,.int .i64 t1,.slice d1 e1 f1]] w (RetN w (q1.den:Int)):=by
 have d0:(t1==0)=false:=by
  have:=hd.s0.2;have:=q1.den_nz;simp;omega
 have hC:=ζ ((((St.enter w).pn hd).al w.heap.size #[.int .i64 s1,.slice a1 n1 c1,.int .i64 t1,.slice d1 e1 f1] 50 rfl rfl).al (w.heap.size+1) #[.int .i64 t1,.slice d1 e1 f1] 48 (by simp) rfl);clear _h1 hd;go_enter Tryz.func136,Tryz.ntmps136;go_wp2;refine ret_st hC.out (v:= .agg #[.int .i64 t1,.slice d1 e1 f1]) (fun hF=>?_) rfl (fun hF=>⟨_,_,_,_,rfl,hF.n 0 rfl,hF.be⟩)
 ·have e0:=hF.c 1 0;have e1:=hF.c 1 1;simp [results,Tryz.results136,go_sem,e0,e1]
theorem denN_none (s1:Int) (a1:OA) (n1 c1:Nat) (t1:Int) (d1:OA) (e1 f1:Nat) (q1:Rat) (w:World) (_h1:Nq w s1 (.slice a1 n1 c1) t1 (.slice d1 e1 f1) q1) (hd:Nz w t1 (.slice d1 e1 f1) 0) (h1d:q1.den=1):
  Calls Tryz.prog 136 #[.agg #[.int .i64 s1,.slice a1 n1 c1,.int .i64 t1,.slice d1 e1 f1]] w (RetN w (q1.den:Int)):=by
 have d0:(t1==0)=true:=by
  have:=hd.s0.2;simp;omega
 have HD:=ζ h1d;have hC:=ζ (((St.enter w).al w.heap.size #[.int .i64 s1,.slice a1 n1 c1,.int .i64 t1,.slice d1 e1 f1] 50 rfl rfl).al (w.heap.size+1) #[.int .i64 0,.slice none 0 0] 48 (by simp) rfl);clear _h1 hd h1d;go_enter Tryz.func136,Tryz.ntmps136;go_wp2_with fail
 refine(zint_any 1 (by omega) _).mono ?_;rintro e w3 ⟨s3,a3,n3,c3,rfl,hz,hb⟩;have Al:=ζ ((hC.out.call hb).pn hz);clear hC hz hb;have An:=Al.out.c 1 0;have Ap:=Al.out.f 1 0;have Aq:=Al.out.c 1 1;have Ar:=Al.out.f 1 1;go_wp2;refine ret_st (Al.out|>.t2 1 rfl) (v:= .agg #[.int .i64 s3,.slice a3 n3 c3]) (fun hF=>?_) rfl (fun hF=>⟨_,_,_,_,rfl,by rw [HD.out];exact hF.n 0 rfl,hF.be⟩)
 ·have e0:=hF.c 1 0;have e1:=hF.c 1 1;simp [results,Tryz.results136,go_sem,e0,e1]
section
variable {w:World} {s1:Int} {a1:OA} {n1 c1:Nat} {t1:Int} {d1:OA} {e1 f1:Nat} {q1:Rat}
theorem denN_b (h1:Nq w s1 (.slice a1 n1 c1) t1 (.slice d1 e1 f1) q1):Calls Tryz.prog 136 #[.agg #[.int .i64 s1,.slice a1 n1 c1,.int .i64 t1,.slice d1 e1 f1]] w (RetN w (q1.den:Int)):=by
 rcases h1.d with h | h
 ·exact denN_some _ _ _ _ _ _ _ _ _ _ h1 h
 ·exact denN_none _ _ _ _ _ _ _ _ _ _ h1 h.1 h.2
end
theorem mN17_0 {P_:Prop} (h:P_:=by
 have e0:=hF.c 2 0;have e1:=hF.c 2 1;have e2:=hF.c 2 2;have e3:=hF.c 2 3;simp [results,Tryz.results137,go_sem,e0,e1,e2,e3]):P_:=h
theorem ofzN_any (s1:Int) (a1:OA) (n1 c1:Nat) (z1:Int) (s2:Int) (a2:OA) (n2 c2:Nat) (z2:Int) (w:World) (h1:Nz w s1 (.slice a1 n1 c1) z1) (h2:Nz w s2 (.slice a2 n2 c2) z2) (hz:z2≠0) (k:Nat) (b1:Bd k z1) (b2:Bd k z2) (hk:k<=300000):
  Calls Tryz.prog 137 #[.agg #[.int .i64 s1,.slice a1 n1 c1],.agg #[.int .i64 s2,.slice a2 n2 c2]] w (RetNQ w (Rat.divInt z1 z2)):=by
 have As:=ζ h2.s0;have B1:=ζ b1;have B2:=ζ b2;have HZ:=ζ hz;clear b1 b2 hz;have hC:=ζ ((((((St.enter w).pn h1).pn h2).al (w.heap.size) #[.int .i64 s1,.slice a1 n1 c1] 48 rfl rfl).al (w.heap.size+1) #[.int .i64 s2,.slice a2 n2 c2] 48 (by simp) rfl).al (w.heap.size+2) zQ 50 (by simp) rfl);clear h1 h2;go_enter Tryz.func137,Tryz.ntmps137;have AC:=hC.out.c 1 0;by_cases hn:z2 < 0
 ·have d0:decide (s2 < 0)=true:=by simpa using As.out.1.2 hn
  have HP:=ζ (show 0 < -z2 by omega);have HR:=ζ (show Rat.divInt z1 z2=Rat.divInt (-z1) (-z2)from divInt_flip.symm);have BX:=ζ B1.out.neg;have BY:=ζ B2.out.neg;clear hn;go_upto_region 2 with fail
  clear d0 AC;refine wp_gen hC.out ?_;intro W hc;clear hC;have hC:=ζ hc;clear hc;go_cut [] (fun wx=>∃ (s3:Int) (a3:OA) (n3 c3:Nat) (s4:Int) (a4:OA) (n4 c4:Nat),Hid (St w wx [(w.heap.size,#[.int .i64 s3,.slice a3 n3 c3],48),(w.heap.size+1,#[.int .i64 s4,.slice a4 n4 c4],48),(w.heap.size+2,zQ,50)] [fun V=>Nz V s3 (.slice a3 n3 c3) (-z1),fun V=>Nz V s4 (.slice a4 n4 c4) (-z2)]))
  case first=>
   have AF:=hC.out.c 0 0;have AG:=hC.out.c 0 1;have AC:=hC.out.c 1 0;have AH:=hC.out.c 1 1;go_region_with (first
    | (have _t:=AB;go_at_call 164;refine(negN_b (AB.out.n 1 rfl)).mono ?_;rintro e wb ⟨s4,a4,n4,c4,rfl,hz,hb⟩;have AA:=ζ ((AB.out.call hb).pn hz);clear hz hb;have y00:=AA.out.c 0 0;have y01:=AA.out.c 0 1;have y10:=AA.out.c 1 0;have y11:=AA.out.c 1 1;have f00:=AA.out.f 0 0;have f01:=AA.out.f 0 1;have f10:=AA.out.f 1 0;have f11:=AA.out.f 1 1;clear _t AB)
    | (have _t:=hC;go_at_call 164;refine(negN_b (hC.out.drew.n 0 rfl)).mono ?_;rintro e wa ⟨s3,a3,n3,c3,rfl,hz,hb⟩;have AB:=ζ ((hC.out.drew.call hb).pn hz);clear hz hb;have z10:=AB.out.c 1 0;have z11:=AB.out.c 1 1;clear _t hC)
    | fail)
   all_goals (go_wp2_with fail;go_meet;exact⟨s3,a3,n3,c3,s4,a4,n4,c4,ζ ((AA.out.set 0 rfl|>.set 0 rfl|>.t2 1 rfl).pick [2,3] rfl)⟩)
  case rest=>
   clear hC;obtain ⟨s3,a3,n3,c3,s4,a4,n4,c4,hC⟩:=hcut;go_upto_region 3 with fail
   refine wp_gen hC.out ?_;intro W3 hc;clear hC;have hC:=ζ hc;clear hc;have AI:=ζ (divInt_parts (x:= -z1) HP.out);obtain ⟨G,hG⟩:∃G:Nat,Int.gcd (-z1) (-z2)=G:=⟨_,rfl⟩
   have Av:0 < G:=by
    have:=HP.out;rw [<-hG];exact Nat.pos_of_ne_zero (fun e=>by have:=(Int.gcd_eq_zero_iff.1 e).2;omega)
   have BG:=ζ (show Bd k (G:Int)by
    rw [<-hG];have h1:=HP.out;have h2:=BY.out;unfold Bd at*;rw [Int.natAbs_natCast];exact Nat.lt_of_le_of_lt (Nat.gcd_le_right _ (by omega)) h2)
   rw [hG]at AI;have HG:=ζ hG;clear hG;have AF:=hC.out.c 0 0;have AG:=hC.out.c 0 1;have AC:=hC.out.c 1 0;have AH:=hC.out.c 1 1;go_wp2_with fail
   refine(gcdN_b (hC.out.n 0 rfl) (hC.out.n 1 rfl) BX.out BY.out hk).mono ?_;rintro e w5 ⟨s5,a5,n5,c5,rfl,hz,hb⟩;rw [HG.out]at hz;have Am:=ζ (((hC.out.call hb).pn hz).al w5.heap.size #[.int .i64 s5,.slice a5 n5 c5] 48 rfl rfl);clear hz hb hC AF AG AC AH;go_upto_region 4 with fail
   refine wp_gen Am.out ?_;intro W5 hc;clear Am;have hC:=ζ hc;clear hc;obtain ⟨v,hv⟩:∃v:Int,sgnN ((G:Int) - 1)=v:=⟨_,rfl⟩
   have HV:=ζ hv;by_cases hg1:1 < G
   ·have dv:decide (0 < v)=true:=(by rw [<-hv,sgnN_pos (by omega)];rfl);clear hv;go_region_held3 (fun w'=>w'.cell? ⟨w5.heap.size,0,none⟩=some (.int .i64 s5)/\w'.cell? ⟨w5.heap.size,1,none⟩=some (.slice a5 n5 c5)/\True)
     (first
      | (with_reducible refine aG wb ?_;have Yx:=AA.out;exact qN17_0)
      | (with_reducible refine aG wa ?_;have Yx:=AB.out;exact qN17_0)
      | (with_reducible refine aG (World.drew W5) ?_;have Yx:=hC.out.drew;exact qN17_0)|fail)
     (first
      | (have _t:=AB;go_at_call 141;refine(cmpN_b (AB.out.n 2 rfl) (AB.out.n 3 rfl) BG.out (Bd.i64 (k:=1) (by omega)) (by omega) (by omega)).mono ?_;rintro e wb ⟨rfl,hb⟩;have AA:=ζ (AB.out.call hb);clear hb;try rw [HV.out];clear _t AB)
      | (have _t:=hC;go_at_call 143;refine(zint_any 1 (by omega) _).mono ?_;rintro e wa ⟨s6,a6,n6,c6,rfl,hz,hb⟩;have AB:=ζ ((hC.out.drew.call hb).pn hz);clear hb hz;clear _t hC)
      | fail)
    have AF:=AA.out.c 0 0;have AG:=AA.out.c 0 1;have AZ:=AA.out.c 3 0;have A0:=AA.out.c 3 1;go_wp2_with fail
    refine(zquotN_b (AA.out.n 0 rfl) (AA.out.n 2 rfl) (by omega) BX.out BG.out hk hk).mono ?_;rintro e w8 ⟨s8,a8,n8,c8,s9,a9,n9,c9,rfl,hz,hz2,hb⟩;have AD:=ζ ((AA.out.call hb).pn hz);clear hz hz2 hb AA AF AG AZ A0;have AF:=AD.out.c 0 0;have AG:=AD.out.c 0 1;have f00:=AD.out.f 0 0;have f01:=AD.out.f 0 1;go_upto_region 6 with fail
    refine wp_gen (AD.out.set 0 rfl|>.set 0 rfl) ?_;intro W8 hc;clear AD AF AG f00 f01;have hC:=ζ hc;clear hc;have AC:=hC.out.c 1 0;have AH:=hC.out.c 1 1;have AZ:=hC.out.c 3 0;have A0:=hC.out.c 3 1;go_wp2_with fail
    refine(zquotN_b (hC.out.n 1 rfl) (hC.out.n 2 rfl) (by omega) BY.out BG.out hk hk).mono ?_;rintro e w9 ⟨s10,a10,n10,c10,s11,a11,n11,c11,rfl,hz,hz2,hb⟩;have AE:=ζ ((hC.out.call hb).pn hz);clear hz hz2 hb hC AC AH AZ A0;have AC:=AE.out.c 1 0;have AH:=AE.out.c 1 1;have f10:=AE.out.f 1 0;have f11:=AE.out.f 1 1;go_upto_region 7 with fail
    refine wp_gen (AE.out.set 1 rfl|>.set 1 rfl) ?_;intro W9 hc;clear AE AC AH f10 f11;have hC:=ζ hc;clear hc;have A1:=hC.out.c 0 0;have A2:=hC.out.f 0 0;have A3:=hC.out.c 0 1;have A4:=hC.out.f 0 1;have A5:=hC.out.c 1 0;have A6:=hC.out.f 1 0;have A7:=hC.out.c 1 1;have A8:=hC.out.f 1 1;have A9:=hC.out.c 2 0;have Ab:=hC.out.f 2 0;have Ac:=hC.out.c 2 1;have Ad:=hC.out.f 2 1;have Af:=hC.out.c 2 2;have Ag:=hC.out.f 2 2;have Aj:=hC.out.c 2 3;have Ak:=hC.out.f 2 3;go_wp2;refine ret_st (hC.out|>.t4 2 rfl) (v:= .agg #[.int .i64 s8,.slice a8 n8 c8,.int .i64 s10,.slice a10 n10 c10]) (fun hF=>?_) rfl (fun hF=>⟨_,_,_,_,_,_,_,_,rfl,by rw [HR.out];exact Nq.of (hF.n 4 rfl) (hF.n 5 rfl) AI.out.1 AI.out.2,hF.be⟩)
    ·exact mN17_0
   ·have hg:G=1:=(by omega);have dv:decide (0 < v)=false:=(by rw [<-hv,hg];rfl);subst hg;clear hv hg1;go_region_held3 (fun w'=>w'.cell? ⟨w5.heap.size,0,none⟩=some (.int .i64 s5)/\w'.cell? ⟨w5.heap.size,1,none⟩=some (.slice a5 n5 c5)/\True)
     (first
      | (with_reducible refine aG wb ?_;have Yx:=AA.out;exact qN17_0)
      | (with_reducible refine aG wa ?_;have Yx:=AB.out;exact qN17_0)
      | (with_reducible refine aG (World.drew W5) ?_;have Yx:=hC.out.drew;exact qN17_0)|fail)
     (first
      | (have _t:=AB;go_at_call 141;refine(cmpN_b (AB.out.n 2 rfl) (AB.out.n 3 rfl) BG.out (Bd.i64 (k:=1) (by omega)) (by omega) (by omega)).mono ?_;rintro e wb ⟨rfl,hb⟩;have AA:=ζ (AB.out.call hb);clear hb;try rw [HV.out];clear _t AB)
      | (have _t:=hC;go_at_call 143;refine(zint_any 1 (by omega) _).mono ?_;rintro e wa ⟨s6,a6,n6,c6,rfl,hz,hb⟩;have AB:=ζ ((hC.out.drew.call hb).pn hz);clear hb hz;clear _t hC)
      | fail)
    have AJ:=AA.out.c 0 0;have AK:=AA.out.f 0 0;have AL:=AA.out.c 0 1;have AM:=AA.out.f 0 1;have AN:=AA.out.c 1 0;have AO:=AA.out.f 1 0;have AP:=AA.out.c 1 1;have AQ:=AA.out.f 1 1;have AR:=AA.out.c 2 0;have AS:=AA.out.f 2 0;have AT:=AA.out.c 2 1;have AU:=AA.out.f 2 1;have AV:=AA.out.c 2 2;have AW:=AA.out.f 2 2;have AX:=AA.out.c 2 3;have AY:=AA.out.f 2 3;go_wp2;refine ret_st (AA.out|>.t4 2 rfl) (v:= .agg #[.int .i64 s3,.slice a3 n3 c3,.int .i64 s4,.slice a4 n4 c4]) (fun hF=>?_) rfl (fun hF=>⟨_,_,_,_,_,_,_,_,rfl,by rw [HR.out];exact Nq.of (hF.n 0 rfl) (hF.n 1 rfl) (by have:=AI.out.1;rwa [Int.natCast_one,Int.ediv_one]at this) (by have:=AI.out.2;rwa [Int.natCast_one,Int.ediv_one]at this),hF.be⟩)
    ·exact mN17_0
 ·have d0:decide (s2 < 0)=false:=by have:=fun h=>hn (As.out.1.1 h);simpa using this
  have HP:=ζ (show 0 < z2 by have:=HZ.out;omega);have BX:=ζ B1.out;have BY:=ζ B2.out;clear hn;go_upto_region 3 with fail
  refine wp_gen hC.out ?_;intro W3 hc;clear hC AC d0;have hC:=ζ hc;clear hc;have AI:=ζ (divInt_parts (x:=z1) HP.out);obtain ⟨G,hG⟩:∃G:Nat,Int.gcd (z1) (z2)=G:=⟨_,rfl⟩
  have Av:0 < G:=by
   have:=HP.out;rw [<-hG];exact Nat.pos_of_ne_zero (fun e=>by have:=(Int.gcd_eq_zero_iff.1 e).2;omega)
  have BG:=ζ (show Bd k (G:Int)by
   rw [<-hG];have h1:=HP.out;have h2:=BY.out;unfold Bd at*;rw [Int.natAbs_natCast];exact Nat.lt_of_le_of_lt (Nat.gcd_le_right _ (by omega)) h2)
  rw [hG]at AI;have HG:=ζ hG;clear hG;have AF:=hC.out.c 0 0;have AG:=hC.out.c 0 1;have AC:=hC.out.c 1 0;have AH:=hC.out.c 1 1;go_wp2_with fail
  refine(gcdN_b (hC.out.n 0 rfl) (hC.out.n 1 rfl) BX.out BY.out hk).mono ?_;rintro e w5 ⟨s5,a5,n5,c5,rfl,hz,hb⟩;rw [HG.out]at hz;have Am:=ζ (((hC.out.call hb).pn hz).al w5.heap.size #[.int .i64 s5,.slice a5 n5 c5] 48 rfl rfl);clear hz hb hC AF AG AC AH;go_upto_region 4 with fail
  refine wp_gen Am.out ?_;intro W5 hc;clear Am;have hC:=ζ hc;clear hc;obtain ⟨v,hv⟩:∃v:Int,sgnN ((G:Int) - 1)=v:=⟨_,rfl⟩
  have HV:=ζ hv;by_cases hg1:1 < G
  ·have dv:decide (0 < v)=true:=(by rw [<-hv,sgnN_pos (by omega)];rfl);clear hv;go_region_held3 (fun w'=>w'.cell? ⟨w5.heap.size,0,none⟩=some (.int .i64 s5)/\w'.cell? ⟨w5.heap.size,1,none⟩=some (.slice a5 n5 c5)/\True)
    (first
     | (with_reducible refine aG wb ?_;have Yx:=AA.out;exact qN17_0)
     | (with_reducible refine aG wa ?_;have Yx:=AB.out;exact qN17_0)
     | (with_reducible refine aG (World.drew W5) ?_;have Yx:=hC.out.drew;exact qN17_0)|fail)
    (first
     | (have _t:=AB;go_at_call 141;refine(cmpN_b (AB.out.n 2 rfl) (AB.out.n 3 rfl) BG.out (Bd.i64 (k:=1) (by omega)) (by omega) (by omega)).mono ?_;rintro e wb ⟨rfl,hb⟩;have AA:=ζ (AB.out.call hb);clear hb;try rw [HV.out];clear _t AB)
     | (have _t:=hC;go_at_call 143;refine(zint_any 1 (by omega) _).mono ?_;rintro e wa ⟨s6,a6,n6,c6,rfl,hz,hb⟩;have AB:=ζ ((hC.out.drew.call hb).pn hz);clear hb hz;clear _t hC)
     | fail)
   have AF:=AA.out.c 0 0;have AG:=AA.out.c 0 1;have AZ:=AA.out.c 3 0;have A0:=AA.out.c 3 1;go_wp2_with fail
   refine(zquotN_b (AA.out.n 0 rfl) (AA.out.n 2 rfl) (by omega) BX.out BG.out hk hk).mono ?_;rintro e w8 ⟨s8,a8,n8,c8,s9,a9,n9,c9,rfl,hz,hz2,hb⟩;have AD:=ζ ((AA.out.call hb).pn hz);clear hz hz2 hb AA AF AG AZ A0;have AF:=AD.out.c 0 0;have AG:=AD.out.c 0 1;have f00:=AD.out.f 0 0;have f01:=AD.out.f 0 1;go_upto_region 6 with fail
   refine wp_gen (AD.out.set 0 rfl|>.set 0 rfl) ?_;intro W8 hc;clear AD AF AG f00 f01;have hC:=ζ hc;clear hc;have AC:=hC.out.c 1 0;have AH:=hC.out.c 1 1;have AZ:=hC.out.c 3 0;have A0:=hC.out.c 3 1;go_wp2_with fail
   refine(zquotN_b (hC.out.n 1 rfl) (hC.out.n 2 rfl) (by omega) BY.out BG.out hk hk).mono ?_;rintro e w9 ⟨s10,a10,n10,c10,s11,a11,n11,c11,rfl,hz,hz2,hb⟩;have AE:=ζ ((hC.out.call hb).pn hz);clear hz hz2 hb hC AC AH AZ A0;have AC:=AE.out.c 1 0;have AH:=AE.out.c 1 1;have f10:=AE.out.f 1 0;have f11:=AE.out.f 1 1;go_upto_region 7 with fail
   refine wp_gen (AE.out.set 1 rfl|>.set 1 rfl) ?_;intro W9 hc;clear AE AC AH f10 f11;have hC:=ζ hc;clear hc;have A1:=hC.out.c 0 0;have A2:=hC.out.f 0 0;have A3:=hC.out.c 0 1;have A4:=hC.out.f 0 1;have A5:=hC.out.c 1 0;have A6:=hC.out.f 1 0;have A7:=hC.out.c 1 1;have A8:=hC.out.f 1 1;have A9:=hC.out.c 2 0;have Ab:=hC.out.f 2 0;have Ac:=hC.out.c 2 1;have Ad:=hC.out.f 2 1;have Af:=hC.out.c 2 2;have Ag:=hC.out.f 2 2;have Aj:=hC.out.c 2 3;have Ak:=hC.out.f 2 3;go_wp2;refine ret_st (hC.out|>.t4 2 rfl) (v:= .agg #[.int .i64 s8,.slice a8 n8 c8,.int .i64 s10,.slice a10 n10 c10]) (fun hF=>?_) rfl (fun hF=>⟨_,_,_,_,_,_,_,_,rfl,by exact Nq.of (hF.n 4 rfl) (hF.n 5 rfl) AI.out.1 AI.out.2,hF.be⟩)
   ·exact mN17_0
  ·have hg:G=1:=(by omega);have dv:decide (0 < v)=false:=(by rw [<-hv,hg];rfl);subst hg;clear hv hg1;go_region_held3 (fun w'=>w'.cell? ⟨w5.heap.size,0,none⟩=some (.int .i64 s5)/\w'.cell? ⟨w5.heap.size,1,none⟩=some (.slice a5 n5 c5)/\True)
    (first
     | (with_reducible refine aG wb ?_;have Yx:=AA.out;exact qN17_0)
     | (with_reducible refine aG wa ?_;have Yx:=AB.out;exact qN17_0)
     | (with_reducible refine aG (World.drew W5) ?_;have Yx:=hC.out.drew;exact qN17_0)|fail)
    (first
     | (have _t:=AB;go_at_call 141;refine(cmpN_b (AB.out.n 2 rfl) (AB.out.n 3 rfl) BG.out (Bd.i64 (k:=1) (by omega)) (by omega) (by omega)).mono ?_;rintro e wb ⟨rfl,hb⟩;have AA:=ζ (AB.out.call hb);clear hb;try rw [HV.out];clear _t AB)
     | (have _t:=hC;go_at_call 143;refine(zint_any 1 (by omega) _).mono ?_;rintro e wa ⟨s6,a6,n6,c6,rfl,hz,hb⟩;have AB:=ζ ((hC.out.drew.call hb).pn hz);clear hb hz;clear _t hC)
     | fail)
   have AJ:=AA.out.c 0 0;have AK:=AA.out.f 0 0;have AL:=AA.out.c 0 1;have AM:=AA.out.f 0 1;have AN:=AA.out.c 1 0;have AO:=AA.out.f 1 0;have AP:=AA.out.c 1 1;have AQ:=AA.out.f 1 1;have AR:=AA.out.c 2 0;have AS:=AA.out.f 2 0;have AT:=AA.out.c 2 1;have AU:=AA.out.f 2 1;have AV:=AA.out.c 2 2;have AW:=AA.out.f 2 2;have AX:=AA.out.c 2 3;have AY:=AA.out.f 2 3;go_wp2;refine ret_st (AA.out|>.t4 2 rfl) (v:= .agg #[.int .i64 s1,.slice a1 n1 c1,.int .i64 s2,.slice a2 n2 c2]) (fun hF=>?_) rfl (fun hF=>⟨_,_,_,_,_,_,_,_,rfl,by exact Nq.of (hF.n 0 rfl) (hF.n 1 rfl) (by have:=AI.out.1;rwa [Int.natCast_one,Int.ediv_one]at this) (by have:=AI.out.2;rwa [Int.natCast_one,Int.ediv_one]at this),hF.be⟩)
   ·exact mN17_0
section
variable {w W:World} {bs:List (Nat×Array Value×TypeId)} {os:List Rw} {rs:List (World->Prop)}
theorem Sy.away_keeps (h:Sy w W bs os rs) (hb:(bs.all fun x=> !rowT x.2.2)=true) (ho:(os.all fun o=> !rowT o.e)=true) {V:World} (hV:Away (ownOf bs os) W V):Keeps W V:=
 ⟨hV.1,fun k o hk hr=>(hV.2 k (Array.getElem?_eq_some_iff.1 hk).1 (fun hm=>by
  rcases mem_own.1 hm with ⟨x,hx,rfl⟩ | ⟨q,hq,he⟩
  ·rw [(h.bx x hx).2]at hk;simp only [Option.some.injEq]at hk;subst hk;have:=List.all_eq_true.1 hb x hx;simp only [rowO]at hr;rw [hr]at this;exact Bool.noConfusion this
  ·rcases(h.ow q hq).2 with ⟨h1,_⟩ | ⟨g,cap,cur,h1,_,hg,_⟩
   ·rw [h1]at he;simp [Value.ownBlock]at he
   ·rw [h1]at he;simp only [Value.ownBlock,Option.some.injEq]at he;subst he;rw [hg]at hk;simp only [Option.some.injEq]at hk;subst hk;have:=List.all_eq_true.1 ho q hq;simp only [rowO]at hr;rw [hr]at this;exact Bool.noConfusion this)).trans hk⟩
theorem Sy.pushK (h:Sy w W bs os rs) (hb:(bs.all fun x=> !rowT x.2.2)=true) (ho:(os.all fun o=> !rowT o.e)=true) {r:World->Prop} (hk:∀V V',Keeps V V'->r V->r V') (hr:r W):Sy w W bs os (rs++ [r]):=
 h.push (fun V hV=>hk W V (h.away_keeps hb ho hV) hr)
theorem Sy.pr (h:Sy w W bs os rs) (hb:(bs.all fun x=> !rowT x.2.2)=true) (ho:(os.all fun o=> !rowT o.e)=true) {s s':Value} {m:Bool} {q:Rat} (hz:Rd W s m s' q):Sy w W bs os (rs++ [fun V=>Rd V s m s' q]):=h.pushK hb ho (fun _ _ k hz=>hz.keep k) hz
theorem Sy.pq (h:Sy w W bs os rs) (hb:(bs.all fun x=> !rowT x.2.2)=true) (ho:(os.all fun o=> !rowT o.e)=true) {s t:Int} {g g':Value} {q:Rat} (hz:Nq W s g t g' q):Sy w W bs os (rs++ [fun V=>Nq V s g t g' q]):=h.pushK hb ho (fun _ _ k hz=>hz.keep k) hz
end
section
variable {w W:World} {bs:List (Nat×Array Value×TypeId)} {rs:List (World->Prop)}
end
theorem qN18_0 {P_:Prop} (h:P_:=by exact⟨Yx.c 0 0,Yx.c 0 1,Yx.c 0 2,Yx.c 0 3,trivial⟩):P_:=h
theorem qN18_1 {P_:Prop} (h:P_:=by exact⟨Yx.c 0 0,Yx.c 0 1,Yx.c 0 2,Yx.c 0 3,Yx.c 1 0,Yx.c 1 1,Yx.c 1 2,Yx.c 1 3,trivial⟩):P_:=h
section
variable {w:World} {s1:Int} {a1:OA} {n1 c1:Nat} {z1:Int} {s2:Int} {a2:OA} {n2 c2:Nat} {z2:Int} {k1 k2:Nat}
theorem ofzN_b (h1:Nz w s1 (.slice a1 n1 c1) z1) (h2:Nz w s2 (.slice a2 n2 c2) z2) (b1:Bd k1 z1) (b2:Bd k2 z2) (hk1:k1<=180000) (hk2:k2<=120000) (hz:z2≠0):
  Calls Tryz.prog 137 #[.agg #[.int .i64 s1,.slice a1 n1 c1],.agg #[.int .i64 s2,.slice a2 n2 c2]] w (RetNQ w (Rat.divInt z1 z2)):=
 ofzN_any _ _ _ _ _ _ _ _ _ _ _ h1 h2 hz (k1+k2) (b1.mono (by omega)) (b2.mono (by omega)) (by omega)
end
theorem ofN_any (k:Int) (hk: -9223372036854775808<=k/\k < 9223372036854775808) (w:World):Calls Tryz.prog 90 #[.int .i64 k] w (RetNQ w (k:Rat)):=by
 have HK:=ζ hk;clear hk;have hC:=ζ ((St.enter w).al (w.heap.size) zQ 50 rfl rfl);go_enter Tryz.func90,Tryz.ntmps90;go_wp2_with fail
 refine(zint_any k HK.out _).mono ?_;rintro e w3 ⟨s3,a3,n3,c3,rfl,hz,hb⟩;have AB:=ζ ((hC.out.call hb).pn hz);clear hb hz;clear hC;go_wp2_with fail
 refine(zint_any 1 (by omega) _).mono ?_;rintro e w4 ⟨s4,a4,n4,c4,rfl,hz,hb⟩;have AA:=ζ ((AB.out.call hb).pn hz);clear hb hz;clear AB;have AZ:=AA.out.c 0 0;have A0:=AA.out.f 0 0;have A1:=AA.out.c 0 1;have A2:=AA.out.f 0 1;have A3:=AA.out.c 0 2;have A4:=AA.out.f 0 2;have A5:=AA.out.c 0 3;have A6:=AA.out.f 0 3;go_wp2;refine ret_st (AA.out|>.t4 0 rfl) (v:= .agg #[.int .i64 s3,.slice a3 n3 c3,.int .i64 s4,.slice a4 n4 c4]) (fun hF=>?_) rfl (fun hF=>⟨_,_,_,_,_,_,_,_,rfl,Nq.of (hF.n 0 rfl) (hF.n 1 rfl) (Rat.num_intCast _) (by rw [Rat.den_intCast];rfl),hF.be⟩)
 ·have e0:=hF.c 0 0;have e1:=hF.c 0 1;have e2:=hF.c 0 2;have e3:=hF.c 0 3;simp [results,Tryz.results90,go_sem,e0,e1,e2,e3]
theorem ratioN_any (x y:Int) (hx: -9223372036854775808<=x/\x < 9223372036854775808) (hy: -9223372036854775808<=y/\y < 9223372036854775808) (h0:y≠0) (w:World):Calls Tryz.prog 114 #[.int .i64 x,.int .i64 y] w (RetNQ w (Rat.divInt x y)):=by
 have HX:=ζ hx;have HY:=ζ hy;have H0:=ζ h0;clear hx hy h0;have hC:=ζ ((St.enter w).al (w.heap.size) zQ 50 rfl rfl);go_enter Tryz.func114,Tryz.ntmps114;go_wp2_with fail
 refine(zint_any x HX.out _).mono ?_;rintro e w3 ⟨s3,a3,n3,c3,rfl,hz,hb⟩;have AB:=ζ ((hC.out.call hb).pn hz);clear hb hz;clear hC;go_wp2_with fail
 refine(zint_any y HY.out _).mono ?_;rintro e w4 ⟨s4,a4,n4,c4,rfl,hz,hb⟩;have AA:=ζ ((AB.out.call hb).pn hz);clear hb hz;clear AB;go_wp2_with fail
 refine(ofzN_b (AA.out.n 0 rfl) (AA.out.n 1 rfl) (Bd.i64 HX.out) (Bd.i64 HY.out) (by omega) (by omega) H0.out).mono ?_;rintro e w5 ⟨s5,a5,n5,c5,t5,d5,e5,f5,rfl,hz,hb⟩;have AD:=ζ ((AA.out.call hb).pq hz);clear hb hz;clear AA;have A7:=AD.out.c 0 0;have A8:=AD.out.f 0 0;have A9:=AD.out.c 0 1;have Ab:=AD.out.f 0 1;have Ac:=AD.out.c 0 2;have Ad:=AD.out.f 0 2;have Af:=AD.out.c 0 3;have Ag:=AD.out.f 0 3;go_wp2;refine ret_st (AD.out|>.t4 0 rfl) (v:= .agg #[.int .i64 s5,.slice a5 n5 c5,.int .i64 t5,.slice d5 e5 f5]) (fun hF=>?_) rfl (fun hF=>⟨_,_,_,_,_,_,_,_,rfl,hF.rq 2 rfl,hF.be⟩)
 ·have e0:=hF.c 0 0;have e1:=hF.c 0 1;have e2:=hF.c 0 2;have e3:=hF.c 0 3;simp [results,Tryz.results114,go_sem,e0,e1,e2,e3]
theorem rnegN_any (s1:Int) (a1:OA) (n1 c1:Nat) (t1:Int) (d1:OA) (e1 f1:Nat) (q1:Rat) (w:World) (h1:Nq w s1 (.slice a1 n1 c1) t1 (.slice d1 e1 f1) q1):
  Calls Tryz.prog 155 #[.agg #[.int .i64 s1,.slice a1 n1 c1,.int .i64 t1,.slice d1 e1 f1]] w (RetNQ w (-q1)):=by
 have hC:=ζ ((((St.enter w).pq h1).al (w.heap.size) #[.int .i64 s1,.slice a1 n1 c1,.int .i64 t1,.slice d1 e1 f1] 50 rfl rfl).al (w.heap.size+1) zQ 50 (by simp) rfl);clear h1;go_enter Tryz.func155,Tryz.ntmps155;go_wp2;go_region_held3 (fun w'=>w'.cell? ⟨w.heap.size,0,none⟩=some (.int .i64 s1)/\w'.cell? ⟨w.heap.size,1,none⟩=some (.slice a1 n1 c1)/\w'.cell? ⟨w.heap.size,2,none⟩=some (.int .i64 t1)/\w'.cell? ⟨w.heap.size,3,none⟩=some (.slice d1 e1 f1)/\True)
  (first
   | (with_reducible refine aG (World.setCell (World.setCell (World.setCell (World.setCell w4 _ _) _ _) _ _) _ _) ?_;refine aH (AA.out|>.t4 1 rfl) (fun Yx=>?_);exact qN18_0)
   | (with_reducible refine aG w4 ?_;have Yx:=AA.out;exact qN18_0)
   | (with_reducible refine aG w3 ?_;have Yx:=AB.out;exact qN18_0)
   | (with_reducible refine aG _ ?_;have Yx:=hC.out.drew;exact qN18_0)|fail)
  (first
   | (have _t:=AB;go_at_call 136;refine(denN_b (AB.out.rq 0 rfl)).mono ?_;rintro e w4 ⟨s4,a4,n4,c4,rfl,hz,hb⟩;have AA:=ζ ((AB.out.call hb).pn hz);clear hb hz;have Aj:=AA.out.c 1 0;have Ak:=AA.out.f 1 0;have Al:=AA.out.c 1 1;have Am:=AA.out.f 1 1;have An:=AA.out.c 1 2;have Ap:=AA.out.f 1 2;have Aq:=AA.out.c 1 3;have Ar:=AA.out.f 1 3;clear _t AB)
   | (have _t:=hC;go_at_call 164;refine(negN_b (hC.out.drew.rq 0 rfl).n).mono ?_;rintro e w3 ⟨s3,a3,n3,c3,rfl,hz,hb⟩;have AB:=ζ ((hC.out.drew.call hb).pn hz);clear hb hz;clear _t hC)
   | fail)
 go_wp2;refine ret_st (AA.out|>.t4 1 rfl) (v:= .agg #[.int .i64 s3,.slice a3 n3 c3,.int .i64 s4,.slice a4 n4 c4]) (fun hF=>?_) rfl (fun hF=>⟨_,_,_,_,_,_,_,_,rfl,Nq.of (hF.n 1 rfl) (hF.n 2 rfl) (Rat.neg_num _) (by rw [Rat.neg_den]),hF.be⟩)
 ·have e0:=hF.c 1 0;have e1:=hF.c 1 1;have e2:=hF.c 1 2;have e3:=hF.c 1 3;simp [results,Tryz.results155,go_sem,e0,e1,e2,e3]
theorem rsignN_any (s1:Int) (a1:OA) (n1 c1:Nat) (t1:Int) (d1:OA) (e1 f1:Nat) (q1:Rat) (w:World) (h1:Nq w s1 (.slice a1 n1 c1) t1 (.slice d1 e1 f1) q1):
  Calls Tryz.prog 106 #[.agg #[.int .i64 s1,.slice a1 n1 c1,.int .i64 t1,.slice d1 e1 f1]] w (fun e w'=>e= .returned (.int .i64 (sgnN q1.num))/\Below w.heap.size w w'):=by
 have HS:=ζ h1.n.s;have hC:=ζ (((St.enter w).pq h1).al (w.heap.size) #[.int .i64 s1,.slice a1 n1 c1,.int .i64 t1,.slice d1 e1 f1] 50 rfl rfl);clear h1;go_enter Tryz.func106,Tryz.ntmps106;go_wp2;go_ret;exact⟨ret_int HS.out,hC.out.be⟩
theorem rcmpN_any (s1:Int) (a1:OA) (n1 c1:Nat) (t1:Int) (d1:OA) (e1 f1:Nat) (q1:Rat) (s2:Int) (a2:OA) (n2 c2:Nat) (t2:Int) (d2:OA) (e2 f2:Nat) (q2:Rat) (w:World) (h1:Nq w s1 (.slice a1 n1 c1) t1 (.slice d1 e1 f1) q1) (h2:Nq w s2 (.slice a2 n2 c2) t2 (.slice d2 e2 f2) q2) (k1 k2:Nat) (b1:Bq k1 q1) (b2:Bq k2 q2) (hk1:k1<=40000) (hk2:k2<=40000):
  Calls Tryz.prog 81 #[.agg #[.int .i64 s1,.slice a1 n1 c1,.int .i64 t1,.slice d1 e1 f1],.agg #[.int .i64 s2,.slice a2 n2 c2,.int .i64 t2,.slice d2 e2 f2]] w (fun e w'=>e= .returned (.int .i64 (sgnN (q1.num*q2.den - q2.num*q1.den)))/\Below w.heap.size w w'):=by
 have B1:=ζ b1;have B2:=ζ b2;clear b1 b2;have hC:=ζ (((((St.enter w).pq h1).pq h2).al (w.heap.size) #[.int .i64 s1,.slice a1 n1 c1,.int .i64 t1,.slice d1 e1 f1] 50 rfl rfl).al (w.heap.size+1) #[.int .i64 s2,.slice a2 n2 c2,.int .i64 t2,.slice d2 e2 f2] 50 (by simp) rfl);clear h1 h2;go_enter Tryz.func81,Tryz.ntmps81;go_wp2;go_region_held3 (fun w'=>w'.cell? ⟨w.heap.size,0,none⟩=some (.int .i64 s1)/\w'.cell? ⟨w.heap.size,1,none⟩=some (.slice a1 n1 c1)/\w'.cell? ⟨w.heap.size,2,none⟩=some (.int .i64 t1)/\w'.cell? ⟨w.heap.size,3,none⟩=some (.slice d1 e1 f1)/\w'.cell? ⟨w.heap.size+1,0,none⟩=some (.int .i64 s2)/\w'.cell? ⟨w.heap.size+1,1,none⟩=some (.slice a2 n2 c2)/\w'.cell? ⟨w.heap.size+1,2,none⟩=some (.int .i64 t2)/\w'.cell? ⟨w.heap.size+1,3,none⟩=some (.slice d2 e2 f2)/\True)
  (first
   | (with_reducible refine aG w7 ?_;have Yx:=AC.out;exact qN18_1)
   | (with_reducible refine aG w6 ?_;have Yx:=AE.out;exact qN18_1)
   | (with_reducible refine aG w5 ?_;have Yx:=AD.out;exact qN18_1)
   | (with_reducible refine aG w4 ?_;have Yx:=AA.out;exact qN18_1)
   | (with_reducible refine aG w3 ?_;have Yx:=AB.out;exact qN18_1)
   | (with_reducible refine aG _ ?_;have Yx:=hC.out.drew;exact qN18_1)|fail)
  (first
   | (have _t:=AE;go_at_call 141;refine(cmpN_b (AE.out.n 3 rfl) (AE.out.n 5 rfl) (B1.out.num.mul B2.out.den) (B2.out.num.mul B1.out.den) (by omega) (by omega)).mono ?_;rintro e w7 ⟨rfl,hb⟩;have AC:=ζ ((AE.out.call hb));clear hb;clear _t AE)
   | (have _t:=AD;go_at_call 139;refine(mulN_b (AD.out.rq 1 rfl).n (AD.out.n 4 rfl) B2.out.num B1.out.den (by omega) (by omega)).mono ?_;rintro e w6 ⟨s6,a6,n6,c6,rfl,hz,hb⟩;have AE:=ζ ((AD.out.call hb).pn hz);clear hb hz;clear _t AD)
   | (have _t:=AA;go_at_call 136;refine(denN_b (AA.out.rq 0 rfl)).mono ?_;rintro e w5 ⟨s5,a5,n5,c5,rfl,hz,hb⟩;have AD:=ζ ((AA.out.call hb).pn hz);clear hb hz;clear _t AA)
   | (have _t:=AB;go_at_call 139;refine(mulN_b (AB.out.rq 0 rfl).n (AB.out.n 2 rfl) B1.out.num B2.out.den (by omega) (by omega)).mono ?_;rintro e w4 ⟨s4,a4,n4,c4,rfl,hz,hb⟩;have AA:=ζ ((AB.out.call hb).pn hz);clear hb hz;clear _t AB)
   | (have _t:=hC;go_at_call 136;refine(denN_b (hC.out.drew.rq 1 rfl)).mono ?_;rintro e w3 ⟨s3,a3,n3,c3,rfl,hz,hb⟩;have AB:=ζ ((hC.out.drew.call hb).pn hz);clear hb hz;clear _t hC)
   | fail)
 go_wp2;go_ret;exact⟨rfl,AC.out.be⟩
theorem rmulN_any (s1:Int) (a1:OA) (n1 c1:Nat) (t1:Int) (d1:OA) (e1 f1:Nat) (q1:Rat) (s2:Int) (a2:OA) (n2 c2:Nat) (t2:Int) (d2:OA) (e2 f2:Nat) (q2:Rat) (w:World) (h1:Nq w s1 (.slice a1 n1 c1) t1 (.slice d1 e1 f1) q1) (h2:Nq w s2 (.slice a2 n2 c2) t2 (.slice d2 e2 f2) q2) (k1 k2:Nat) (b1:Bq k1 q1) (b2:Bq k2 q2) (hk1:k1<=40000) (hk2:k2<=40000):
  Calls Tryz.prog 108 #[.agg #[.int .i64 s1,.slice a1 n1 c1,.int .i64 t1,.slice d1 e1 f1],.agg #[.int .i64 s2,.slice a2 n2 c2,.int .i64 t2,.slice d2 e2 f2]] w (RetNQ w (Rat.divInt (q1.num*q2.num) (q1.den*q2.den))):=by
 have B1:=ζ b1;have B2:=ζ b2;clear b1 b2;have hC:=ζ ((((((St.enter w).pq h1).pq h2).al (w.heap.size) #[.int .i64 s1,.slice a1 n1 c1,.int .i64 t1,.slice d1 e1 f1] 50 rfl rfl).al (w.heap.size+1) #[.int .i64 s2,.slice a2 n2 c2,.int .i64 t2,.slice d2 e2 f2] 50 (by simp) rfl).al (w.heap.size+2) zQ 50 (by simp) rfl);clear h1 h2;go_enter Tryz.func108,Tryz.ntmps108;go_wp2;go_region_held3 (fun w'=>w'.cell? ⟨w.heap.size,0,none⟩=some (.int .i64 s1)/\w'.cell? ⟨w.heap.size,1,none⟩=some (.slice a1 n1 c1)/\w'.cell? ⟨w.heap.size,2,none⟩=some (.int .i64 t1)/\w'.cell? ⟨w.heap.size,3,none⟩=some (.slice d1 e1 f1)/\w'.cell? ⟨w.heap.size+1,0,none⟩=some (.int .i64 s2)/\w'.cell? ⟨w.heap.size+1,1,none⟩=some (.slice a2 n2 c2)/\w'.cell? ⟨w.heap.size+1,2,none⟩=some (.int .i64 t2)/\w'.cell? ⟨w.heap.size+1,3,none⟩=some (.slice d2 e2 f2)/\True)
  (first
   | (with_reducible refine aG (World.setCell (World.setCell (World.setCell (World.setCell w7 _ _) _ _) _ _) _ _) ?_;refine aH (AC.out|>.t4 2 rfl) (fun Yx=>?_);exact qN18_1)
   | (with_reducible refine aG w7 ?_;have Yx:=AC.out;exact qN18_1)
   | (with_reducible refine aG w6 ?_;have Yx:=AE.out;exact qN18_1)
   | (with_reducible refine aG w5 ?_;have Yx:=AD.out;exact qN18_1)
   | (with_reducible refine aG w4 ?_;have Yx:=AA.out;exact qN18_1)
   | (with_reducible refine aG w3 ?_;have Yx:=AB.out;exact qN18_1)
   | (with_reducible refine aG _ ?_;have Yx:=hC.out.drew;exact qN18_1)|fail)
  (first
   | (have _t:=AE;go_at_call 137;refine(ofzN_b (AE.out.n 2 rfl) (AE.out.n 5 rfl) (B1.out.num.mul B2.out.num) (B1.out.den.mul B2.out.den) (by omega) (by omega) (Int.mul_ne_zero (den_ne q1) (den_ne q2))).mono ?_;rintro e w7 ⟨s7,a7,n7,c7,t7,d7,e7,f7,rfl,hz,hb⟩;have AC:=ζ ((AE.out.call hb).pq hz);clear hb hz;have AJ:=AC.out.c 2 0;have AK:=AC.out.f 2 0;have AL:=AC.out.c 2 1;have AM:=AC.out.f 2 1;have AN:=AC.out.c 2 2;have AO:=AC.out.f 2 2;have AP:=AC.out.c 2 3;have AQ:=AC.out.f 2 3;clear _t AE)
   | (have _t:=AD;go_at_call 139;refine(mulN_b (AD.out.n 3 rfl) (AD.out.n 4 rfl) B1.out.den B2.out.den (by omega) (by omega)).mono ?_;rintro e w6 ⟨s6,a6,n6,c6,rfl,hz,hb⟩;have AE:=ζ ((AD.out.call hb).pn hz);clear hb hz;clear _t AD)
   | (have _t:=AA;go_at_call 136;refine(denN_b (AA.out.rq 1 rfl)).mono ?_;rintro e w5 ⟨s5,a5,n5,c5,rfl,hz,hb⟩;have AD:=ζ ((AA.out.call hb).pn hz);clear hb hz;clear _t AA)
   | (have _t:=AB;go_at_call 136;refine(denN_b (AB.out.rq 0 rfl)).mono ?_;rintro e w4 ⟨s4,a4,n4,c4,rfl,hz,hb⟩;have AA:=ζ ((AB.out.call hb).pn hz);clear hb hz;clear _t AB)
   | (have _t:=hC;go_at_call 139;refine(mulN_b (hC.out.drew.rq 0 rfl).n (hC.out.drew.rq 1 rfl).n B1.out.num B2.out.num (by omega) (by omega)).mono ?_;rintro e w3 ⟨s3,a3,n3,c3,rfl,hz,hb⟩;have AB:=ζ ((hC.out.drew.call hb).pn hz);clear hb hz;clear _t hC)
   | fail)
 go_wp2;refine ret_st (AC.out|>.t4 2 rfl) (v:= .agg #[.int .i64 s7,.slice a7 n7 c7,.int .i64 t7,.slice d7 e7 f7]) (fun hF=>?_) rfl (fun hF=>⟨_,_,_,_,_,_,_,_,rfl,hF.rq 6 rfl,hF.be⟩)
 ·have e0:=hF.c 2 0;have e1:=hF.c 2 1;have e2:=hF.c 2 2;have e3:=hF.c 2 3;simp [results,Tryz.results108,go_sem,e0,e1,e2,e3]
theorem rdivN_any (s1:Int) (a1:OA) (n1 c1:Nat) (t1:Int) (d1:OA) (e1 f1:Nat) (q1:Rat) (s2:Int) (a2:OA) (n2 c2:Nat) (t2:Int) (d2:OA) (e2 f2:Nat) (q2:Rat) (w:World) (h1:Nq w s1 (.slice a1 n1 c1) t1 (.slice d1 e1 f1) q1) (h2:Nq w s2 (.slice a2 n2 c2) t2 (.slice d2 e2 f2) q2) (k1 k2:Nat) (b1:Bq k1 q1) (b2:Bq k2 q2) (hk1:k1<=40000) (hk2:k2<=40000) (hq:q2≠0):
  Calls Tryz.prog 107 #[.agg #[.int .i64 s1,.slice a1 n1 c1,.int .i64 t1,.slice d1 e1 f1],.agg #[.int .i64 s2,.slice a2 n2 c2,.int .i64 t2,.slice d2 e2 f2]] w (RetNQ w (Rat.divInt (q1.num*q2.den) (q1.den*q2.num))):=by
 have B1:=ζ b1;have B2:=ζ b2;clear b1 b2;have HQ:=ζ hq;clear hq;have hC:=ζ ((((((St.enter w).pq h1).pq h2).al (w.heap.size) #[.int .i64 s1,.slice a1 n1 c1,.int .i64 t1,.slice d1 e1 f1] 50 rfl rfl).al (w.heap.size+1) #[.int .i64 s2,.slice a2 n2 c2,.int .i64 t2,.slice d2 e2 f2] 50 (by simp) rfl).al (w.heap.size+2) zQ 50 (by simp) rfl);clear h1 h2;go_enter Tryz.func107,Tryz.ntmps107;go_wp2;go_region_held3 (fun w'=>w'.cell? ⟨w.heap.size,0,none⟩=some (.int .i64 s1)/\w'.cell? ⟨w.heap.size,1,none⟩=some (.slice a1 n1 c1)/\w'.cell? ⟨w.heap.size,2,none⟩=some (.int .i64 t1)/\w'.cell? ⟨w.heap.size,3,none⟩=some (.slice d1 e1 f1)/\w'.cell? ⟨w.heap.size+1,0,none⟩=some (.int .i64 s2)/\w'.cell? ⟨w.heap.size+1,1,none⟩=some (.slice a2 n2 c2)/\w'.cell? ⟨w.heap.size+1,2,none⟩=some (.int .i64 t2)/\w'.cell? ⟨w.heap.size+1,3,none⟩=some (.slice d2 e2 f2)/\True)
  (first
   | (with_reducible refine aG (World.setCell (World.setCell (World.setCell (World.setCell w7 _ _) _ _) _ _) _ _) ?_;refine aH (AC.out|>.t4 2 rfl) (fun Yx=>?_);exact qN18_1)
   | (with_reducible refine aG w7 ?_;have Yx:=AC.out;exact qN18_1)
   | (with_reducible refine aG w6 ?_;have Yx:=AE.out;exact qN18_1)
   | (with_reducible refine aG w5 ?_;have Yx:=AD.out;exact qN18_1)
   | (with_reducible refine aG w4 ?_;have Yx:=AA.out;exact qN18_1)
   | (with_reducible refine aG w3 ?_;have Yx:=AB.out;exact qN18_1)
   | (with_reducible refine aG _ ?_;have Yx:=hC.out.drew;exact qN18_1)|fail)
  (first
   | (have _t:=AE;go_at_call 137;refine(ofzN_b (AE.out.n 3 rfl) (AE.out.n 5 rfl) (B1.out.num.mul B2.out.den) (B1.out.den.mul B2.out.num) (by omega) (by omega) (Int.mul_ne_zero (den_ne q1) (fun e=>HQ.out (Rat.num_eq_zero.1 e)))).mono ?_;rintro e w7 ⟨s7,a7,n7,c7,t7,d7,e7,f7,rfl,hz,hb⟩;have AC:=ζ ((AE.out.call hb).pq hz);clear hb hz;have AJ:=AC.out.c 2 0;have AK:=AC.out.f 2 0;have AL:=AC.out.c 2 1;have AM:=AC.out.f 2 1;have AN:=AC.out.c 2 2;have AO:=AC.out.f 2 2;have AP:=AC.out.c 2 3;have AQ:=AC.out.f 2 3;clear _t AE)
   | (have _t:=AD;go_at_call 139;refine(mulN_b (AD.out.n 4 rfl) (AD.out.rq 1 rfl).n B1.out.den B2.out.num (by omega) (by omega)).mono ?_;rintro e w6 ⟨s6,a6,n6,c6,rfl,hz,hb⟩;have AE:=ζ ((AD.out.call hb).pn hz);clear hb hz;clear _t AD)
   | (have _t:=AA;go_at_call 136;refine(denN_b (AA.out.rq 0 rfl)).mono ?_;rintro e w5 ⟨s5,a5,n5,c5,rfl,hz,hb⟩;have AD:=ζ ((AA.out.call hb).pn hz);clear hb hz;clear _t AA)
   | (have _t:=AB;go_at_call 139;refine(mulN_b (AB.out.rq 0 rfl).n (AB.out.n 2 rfl) B1.out.num B2.out.den (by omega) (by omega)).mono ?_;rintro e w4 ⟨s4,a4,n4,c4,rfl,hz,hb⟩;have AA:=ζ ((AB.out.call hb).pn hz);clear hb hz;clear _t AB)
   | (have _t:=hC;go_at_call 136;refine(denN_b (hC.out.drew.rq 1 rfl)).mono ?_;rintro e w3 ⟨s3,a3,n3,c3,rfl,hz,hb⟩;have AB:=ζ ((hC.out.drew.call hb).pn hz);clear hb hz;clear _t hC)
   | fail)
 go_wp2;refine ret_st (AC.out|>.t4 2 rfl) (v:= .agg #[.int .i64 s7,.slice a7 n7 c7,.int .i64 t7,.slice d7 e7 f7]) (fun hF=>?_) rfl (fun hF=>⟨_,_,_,_,_,_,_,_,rfl,hF.rq 6 rfl,hF.be⟩)
 ·have e0:=hF.c 2 0;have e1:=hF.c 2 1;have e2:=hF.c 2 2;have e3:=hF.c 2 3;simp [results,Tryz.results107,go_sem,e0,e1,e2,e3]
theorem raddN_any (s1:Int) (a1:OA) (n1 c1:Nat) (t1:Int) (d1:OA) (e1 f1:Nat) (q1:Rat) (s2:Int) (a2:OA) (n2 c2:Nat) (t2:Int) (d2:OA) (e2 f2:Nat) (q2:Rat) (w:World) (h1:Nq w s1 (.slice a1 n1 c1) t1 (.slice d1 e1 f1) q1) (h2:Nq w s2 (.slice a2 n2 c2) t2 (.slice d2 e2 f2) q2) (k1 k2:Nat) (b1:Bq k1 q1) (b2:Bq k2 q2) (hk1:k1<=40000) (hk2:k2<=40000):
  Calls Tryz.prog 73 #[.agg #[.int .i64 s1,.slice a1 n1 c1,.int .i64 t1,.slice d1 e1 f1],.agg #[.int .i64 s2,.slice a2 n2 c2,.int .i64 t2,.slice d2 e2 f2]] w (RetNQ w (Rat.divInt (q1.num*q2.den+q2.num*q1.den) (q1.den*q2.den))):=by
 have B1:=ζ b1;have B2:=ζ b2;clear b1 b2;have hC:=ζ ((((((St.enter w).pq h1).pq h2).al (w.heap.size) #[.int .i64 s1,.slice a1 n1 c1,.int .i64 t1,.slice d1 e1 f1] 50 rfl rfl).al (w.heap.size+1) #[.int .i64 s2,.slice a2 n2 c2,.int .i64 t2,.slice d2 e2 f2] 50 (by simp) rfl).al (w.heap.size+2) zQ 50 (by simp) rfl);clear h1 h2;go_enter Tryz.func73,Tryz.ntmps73;go_wp2;go_region_held3 (fun w'=>w'.cell? ⟨w.heap.size,0,none⟩=some (.int .i64 s1)/\w'.cell? ⟨w.heap.size,1,none⟩=some (.slice a1 n1 c1)/\w'.cell? ⟨w.heap.size,2,none⟩=some (.int .i64 t1)/\w'.cell? ⟨w.heap.size,3,none⟩=some (.slice d1 e1 f1)/\w'.cell? ⟨w.heap.size+1,0,none⟩=some (.int .i64 s2)/\w'.cell? ⟨w.heap.size+1,1,none⟩=some (.slice a2 n2 c2)/\w'.cell? ⟨w.heap.size+1,2,none⟩=some (.int .i64 t2)/\w'.cell? ⟨w.heap.size+1,3,none⟩=some (.slice d2 e2 f2)/\True)
  (first
   | (with_reducible refine aG (World.setCell (World.setCell (World.setCell (World.setCell w11 _ _) _ _) _ _) _ _) ?_;refine aH (AF.out|>.t4 2 rfl) (fun Yx=>?_);exact qN18_1)
   | (with_reducible refine aG w11 ?_;have Yx:=AF.out;exact qN18_1)
   | (with_reducible refine aG w10 ?_;have Yx:=AG.out;exact qN18_1)
   | (with_reducible refine aG w9 ?_;have Yx:=AH.out;exact qN18_1)
   | (with_reducible refine aG w8 ?_;have Yx:=AI.out;exact qN18_1)
   | (with_reducible refine aG w7 ?_;have Yx:=AC.out;exact qN18_1)
   | (with_reducible refine aG w6 ?_;have Yx:=AE.out;exact qN18_1)
   | (with_reducible refine aG w5 ?_;have Yx:=AD.out;exact qN18_1)
   | (with_reducible refine aG w4 ?_;have Yx:=AA.out;exact qN18_1)
   | (with_reducible refine aG w3 ?_;have Yx:=AB.out;exact qN18_1)
   | (with_reducible refine aG _ ?_;have Yx:=hC.out.drew;exact qN18_1)|fail)
  (first
   | (have _t:=AG;go_at_call 137;refine(ofzN_b (AG.out.n 6 rfl) (AG.out.n 9 rfl) ((B1.out.num.mul B2.out.den).add (B2.out.num.mul B1.out.den)) (B1.out.den.mul B2.out.den) (by omega) (by omega) (Int.mul_ne_zero (den_ne q1) (den_ne q2))).mono ?_;rintro e w11 ⟨s11,a11,n11,c11,t11,d11,e11,f11,rfl,hz,hb⟩;have AF:=ζ ((AG.out.call hb).pq hz);clear hb hz;have AR:=AF.out.c 2 0;have AS:=AF.out.f 2 0;have AT:=AF.out.c 2 1;have AU:=AF.out.f 2 1;have AV:=AF.out.c 2 2;have AW:=AF.out.f 2 2;have AX:=AF.out.c 2 3;have AY:=AF.out.f 2 3;clear _t AG)
   | (have _t:=AH;go_at_call 139;refine(mulN_b (AH.out.n 7 rfl) (AH.out.n 8 rfl) B1.out.den B2.out.den (by omega) (by omega)).mono ?_;rintro e w10 ⟨s10,a10,n10,c10,rfl,hz,hb⟩;have AG:=ζ ((AH.out.call hb).pn hz);clear hb hz;clear _t AH)
   | (have _t:=AI;go_at_call 136;refine(denN_b (AI.out.rq 1 rfl)).mono ?_;rintro e w9 ⟨s9,a9,n9,c9,rfl,hz,hb⟩;have AH:=ζ ((AI.out.call hb).pn hz);clear hb hz;clear _t AI)
   | (have _t:=AC;go_at_call 136;refine(denN_b (AC.out.rq 0 rfl)).mono ?_;rintro e w8 ⟨s8,a8,n8,c8,rfl,hz,hb⟩;have AI:=ζ ((AC.out.call hb).pn hz);clear hb hz;clear _t AC)
   | (have _t:=AE;go_at_call 138;refine(addN_b (AE.out.n 3 rfl) (AE.out.n 5 rfl) (B1.out.num.mul B2.out.den) (B2.out.num.mul B1.out.den) (by omega) (by omega)).mono ?_;rintro e w7 ⟨s7,a7,n7,c7,rfl,hz,hb⟩;have AC:=ζ ((AE.out.call hb).pn hz);clear hb hz;clear _t AE)
   | (have _t:=AD;go_at_call 139;refine(mulN_b (AD.out.rq 1 rfl).n (AD.out.n 4 rfl) B2.out.num B1.out.den (by omega) (by omega)).mono ?_;rintro e w6 ⟨s6,a6,n6,c6,rfl,hz,hb⟩;have AE:=ζ ((AD.out.call hb).pn hz);clear hb hz;clear _t AD)
   | (have _t:=AA;go_at_call 136;refine(denN_b (AA.out.rq 0 rfl)).mono ?_;rintro e w5 ⟨s5,a5,n5,c5,rfl,hz,hb⟩;have AD:=ζ ((AA.out.call hb).pn hz);clear hb hz;clear _t AA)
   | (have _t:=AB;go_at_call 139;refine(mulN_b (AB.out.rq 0 rfl).n (AB.out.n 2 rfl) B1.out.num B2.out.den (by omega) (by omega)).mono ?_;rintro e w4 ⟨s4,a4,n4,c4,rfl,hz,hb⟩;have AA:=ζ ((AB.out.call hb).pn hz);clear hb hz;clear _t AB)
   | (have _t:=hC;go_at_call 136;refine(denN_b (hC.out.drew.rq 1 rfl)).mono ?_;rintro e w3 ⟨s3,a3,n3,c3,rfl,hz,hb⟩;have AB:=ζ ((hC.out.drew.call hb).pn hz);clear hb hz;clear _t hC)
   | fail)
 go_wp2;refine ret_st (AF.out|>.t4 2 rfl) (v:= .agg #[.int .i64 s11,.slice a11 n11 c11,.int .i64 t11,.slice d11 e11 f11]) (fun hF=>?_) rfl (fun hF=>⟨_,_,_,_,_,_,_,_,rfl,hF.rq 10 rfl,hF.be⟩)
 ·have e0:=hF.c 2 0;have e1:=hF.c 2 1;have e2:=hF.c 2 2;have e3:=hF.c 2 3;simp [results,Tryz.results73,go_sem,e0,e1,e2,e3]
section
variable {w:World} {s1:Int} {a1:OA} {n1 c1:Nat} {t1:Int} {d1:OA} {e1 f1:Nat} {q1:Rat} {s2:Int} {a2:OA} {n2 c2:Nat} {t2:Int} {d2:OA} {e2 f2:Nat} {q2:Rat} {k1 k2:Nat}
theorem raddN_b (h1:Nq w s1 (.slice a1 n1 c1) t1 (.slice d1 e1 f1) q1) (h2:Nq w s2 (.slice a2 n2 c2) t2 (.slice d2 e2 f2) q2) (b1:Bq k1 q1) (b2:Bq k2 q2) (hk1:k1<=40000) (hk2:k2<=40000):
  Calls Tryz.prog 73 #[.agg #[.int .i64 s1,.slice a1 n1 c1,.int .i64 t1,.slice d1 e1 f1],.agg #[.int .i64 s2,.slice a2 n2 c2,.int .i64 t2,.slice d2 e2 f2]] w (RetNQ w (q1+q2)):=by
 rw [add_eq];exact raddN_any _ _ _ _ _ _ _ _ _ _ _ _ _ _ _ _ _ _ _ h1 h2 k1 k2 b1 b2 hk1 hk2
theorem rmulN_b (h1:Nq w s1 (.slice a1 n1 c1) t1 (.slice d1 e1 f1) q1) (h2:Nq w s2 (.slice a2 n2 c2) t2 (.slice d2 e2 f2) q2) (b1:Bq k1 q1) (b2:Bq k2 q2) (hk1:k1<=40000) (hk2:k2<=40000):
  Calls Tryz.prog 108 #[.agg #[.int .i64 s1,.slice a1 n1 c1,.int .i64 t1,.slice d1 e1 f1],.agg #[.int .i64 s2,.slice a2 n2 c2,.int .i64 t2,.slice d2 e2 f2]] w (RetNQ w (q1*q2)):=by
 rw [mul_eq];exact rmulN_any _ _ _ _ _ _ _ _ _ _ _ _ _ _ _ _ _ _ _ h1 h2 k1 k2 b1 b2 hk1 hk2
theorem rdivN_b (h1:Nq w s1 (.slice a1 n1 c1) t1 (.slice d1 e1 f1) q1) (h2:Nq w s2 (.slice a2 n2 c2) t2 (.slice d2 e2 f2) q2) (b1:Bq k1 q1) (b2:Bq k2 q2) (hk1:k1<=40000) (hk2:k2<=40000) (hq:q2≠0):
  Calls Tryz.prog 107 #[.agg #[.int .i64 s1,.slice a1 n1 c1,.int .i64 t1,.slice d1 e1 f1],.agg #[.int .i64 s2,.slice a2 n2 c2,.int .i64 t2,.slice d2 e2 f2]] w (RetNQ w (q1 / q2)):=by
 rw [div_eq];exact rdivN_any _ _ _ _ _ _ _ _ _ _ _ _ _ _ _ _ _ _ _ h1 h2 k1 k2 b1 b2 hk1 hk2 hq
theorem rnegN_b (h1:Nq w s1 (.slice a1 n1 c1) t1 (.slice d1 e1 f1) q1):Calls Tryz.prog 155 #[.agg #[.int .i64 s1,.slice a1 n1 c1,.int .i64 t1,.slice d1 e1 f1]] w (RetNQ w (-q1)):=rnegN_any _ _ _ _ _ _ _ _ _ _ h1
end
theorem rsubN_any (s1:Int) (a1:OA) (n1 c1:Nat) (t1:Int) (d1:OA) (e1 f1:Nat) (q1:Rat) (s2:Int) (a2:OA) (n2 c2:Nat) (t2:Int) (d2:OA) (e2 f2:Nat) (q2:Rat) (w:World) (h1:Nq w s1 (.slice a1 n1 c1) t1 (.slice d1 e1 f1) q1) (h2:Nq w s2 (.slice a2 n2 c2) t2 (.slice d2 e2 f2) q2) (k1 k2:Nat) (b1:Bq k1 q1) (b2:Bq k2 q2) (hk1:k1<=40000) (hk2:k2<=40000):
  Calls Tryz.prog 103 #[.agg #[.int .i64 s1,.slice a1 n1 c1,.int .i64 t1,.slice d1 e1 f1],.agg #[.int .i64 s2,.slice a2 n2 c2,.int .i64 t2,.slice d2 e2 f2]] w (RetNQ w (q1+ -q2)):=by
 have B1:=ζ b1;have B2:=ζ b2;clear b1 b2;have hC:=ζ ((((((St.enter w).pq h1).pq h2).al (w.heap.size) #[.int .i64 s1,.slice a1 n1 c1,.int .i64 t1,.slice d1 e1 f1] 50 rfl rfl).al (w.heap.size+1) #[.int .i64 s2,.slice a2 n2 c2,.int .i64 t2,.slice d2 e2 f2] 50 (by simp) rfl).al (w.heap.size+2) zQ 50 (by simp) rfl);clear h1 h2;go_enter Tryz.func103,Tryz.ntmps103;go_wp2;go_region_held3 (fun w'=>w'.cell? ⟨w.heap.size,0,none⟩=some (.int .i64 s1)/\w'.cell? ⟨w.heap.size,1,none⟩=some (.slice a1 n1 c1)/\w'.cell? ⟨w.heap.size,2,none⟩=some (.int .i64 t1)/\w'.cell? ⟨w.heap.size,3,none⟩=some (.slice d1 e1 f1)/\w'.cell? ⟨w.heap.size+1,0,none⟩=some (.int .i64 s2)/\w'.cell? ⟨w.heap.size+1,1,none⟩=some (.slice a2 n2 c2)/\w'.cell? ⟨w.heap.size+1,2,none⟩=some (.int .i64 t2)/\w'.cell? ⟨w.heap.size+1,3,none⟩=some (.slice d2 e2 f2)/\True)
  (first
   | (with_reducible refine aG (World.setCell (World.setCell (World.setCell (World.setCell w4 _ _) _ _) _ _) _ _) ?_;refine aH (AA.out|>.t4 2 rfl) (fun Yx=>?_);exact qN18_1)
   | (with_reducible refine aG w4 ?_;have Yx:=AA.out;exact qN18_1)
   | (with_reducible refine aG w3 ?_;have Yx:=AB.out;exact qN18_1)
   | (with_reducible refine aG _ ?_;have Yx:=hC.out.drew;exact qN18_1)|fail)
  (first
   | (have _t:=AB;go_at_call 73;refine(raddN_b (AB.out.rq 0 rfl) (AB.out.rq 2 rfl) B1.out B2.out.neg (by omega) (by omega)).mono ?_;rintro e w4 ⟨s4,a4,n4,c4,t4,d4,e4,f4,rfl,hz,hb⟩;have AA:=ζ ((AB.out.call hb).pq hz);clear hb hz;have As:=AA.out.c 2 0;have Av:=AA.out.f 2 0;have Ax:=AA.out.c 2 1;have Az:=AA.out.f 2 1;have BA:=AA.out.c 2 2;have BB:=AA.out.f 2 2;have BC:=AA.out.c 2 3;have BD:=AA.out.f 2 3;clear _t AB)
   | (have _t:=hC;go_at_call 155;refine(rnegN_b (hC.out.drew.rq 1 rfl)).mono ?_;rintro e w3 ⟨s3,a3,n3,c3,t3,d3,e3,f3,rfl,hz,hb⟩;have AB:=ζ ((hC.out.drew.call hb).pq hz);clear hb hz;clear _t hC)
   | fail)
 go_wp2;refine ret_st (AA.out|>.t4 2 rfl) (v:= .agg #[.int .i64 s4,.slice a4 n4 c4,.int .i64 t4,.slice d4 e4 f4]) (fun hF=>?_) rfl (fun hF=>⟨_,_,_,_,_,_,_,_,rfl,hF.rq 3 rfl,hF.be⟩)
 ·have e0:=hF.c 2 0;have e1:=hF.c 2 1;have e2:=hF.c 2 2;have e3:=hF.c 2 3;simp [results,Tryz.results103,go_sem,e0,e1,e2,e3]
section
open Go.RowKit Go.Shelf Dig
section
variable (w:World)
theorem rOf_any (k:Int) (hk: -9223372036854775808<=k/\k < 9223372036854775808):Calls Tryz.prog 72 #[.int .i64 k] w (RetNQ w (k:Rat)):=by
 have hC:=ζ ((Sy.enter w).al w.heap.size zQ 50 rfl);have HK:=ζ (fun W=>ofN_any k hk W);clear hk;go_enter Tryz.func72,Tryz.ntmps72;go_wp2_with fail
 refine(HK.out _).mono ?_;rintro e w3 ⟨s3,a3,n3,c3,t3,d3,e3,f3,rfl,hz,hb⟩;have hD:=ζ ((hC.out.call hb).pq rfl rfl hz);clear hb hz hC;have AK:=hD.out.c 0 0;have AE:=hD.out.f 0 0;have AL:=hD.out.c 0 1;have AF:=hD.out.f 0 1;have AM:=hD.out.c 0 2;have AG:=hD.out.f 0 2;have AN:=hD.out.c 0 3;have AH:=hD.out.f 0 3;go_wp2;have hE:=ζ (hD.out|>.set (j:=0) (v:= .int .i64 s3) 0 rfl|>.set (j:=1) (v:= .slice a3 n3 c3) 0 rfl|>.set (j:=2) (v:= .int .i64 t3) 0 rfl|>.set (j:=3) (v:= .slice d3 e3 f3) 0 rfl);clear hD;refine ret_sy hE.out (v:= .agg #[.int .i64 s3,.slice a3 n3 c3,.int .i64 t3,.slice d3 e3 f3]) (fun hF=>?_) rfl (fun hF=>⟨_,_,_,_,_,_,_,_,rfl,hF.r 0 rfl,hF.be⟩);have g0:=hF.c 0 0;have g1:=hF.c 0 1;have g2:=hF.c 0 2;have g3:=hF.c 0 3;simp [results,Tryz.results72,go_sem,g0,g1,g2,g3]
def corT (l:List Pt) (a b:Int) (k:Nat):List Int:=a::ins (l.take k) a b
theorem corT_end (l:List Pt) (a b:Int):corT l a b l.length++ [b]=cor l a b:=by unfold corT cor;rw [List.take_length];rfl
theorem corT_step {l:List Pt} {a b:Int} {k:Nat} (h:k < l.length):corT l a b (k+1)=corT l a b k++(if a < l[k].1/\l[k].1 < b then [l[k].1]else []):=by
 unfold corT ins;rw [List.take_succ_eq_append_getElem h,List.map_append,List.filter_append];show _=a::_++_;rw [List.cons_append];congr 2;by_cases h1:a < l[k].1<;>by_cases h2:l[k].1 < b
 all_goals
  simp only [List.map_cons,List.map_nil,List.filter_cons,List.filter_nil,h1,h2,decide_true,decide_false,Bool.and_true,Bool.and_false,if_true,and_self,and_false,false_and,if_false,Bool.false_eq_true,Bool.and_self];try rfl
theorem corT_len (l:List Pt) (a b:Int) (k:Nat):(corT l a b k).length<=k+1:=by
 unfold corT ins;rw [List.length_cons];have:=List.length_filter_le (fun x=>decide (a < x) && decide (x < b)) ((l.take k).map (·.x));rw [List.length_map,List.length_take]at this;omega
theorem rcorners_any (a0:OA) (n c:Nat) (l:List Pt) (a b:Int) (hs:Sx 2 w a0 n c (L2 l)) (hn:n<=1000):Calls Tryz.prog 105 #[.slice a0 n c,.int .i64 a,.int .i64 b] w (fun e w'=>∃a' c',e= .returned (.slice a' (cor l a b).length c')/\Hid (w'.ownsRow w.heap.size 3 1 (.slice a' (cor l a b).length c') (cor l a b).length (L1 (cor l a b)))/\Below w.heap.size w w'):=by
 obtain rfl:=hs.n2;have HS:=ζ hs;have AI:=ζ (corT_end l a b);have AO:=ζ (corT_len l a b);generalize cor l a b=R at*;clear hs;have hA:=ζ ((Sy.enter w).onew w.heap.size #[.int .i64 a] 3 1 1 rfl (by omega) rfl);go_enter Tryz.func105,Tryz.ntmps105;go_upto_region 2 with fail
 obtain ⟨gA,hgA⟩:∃g,w.heap.size=g:=⟨_,rfl⟩
 have AP:=ζ hgA;clear hgA;refine wp_geny hA.out ?_;intro W0 hc;have hC:=ζ hc;clear hc hA;go_wp2;go_loopw [8,7] (fun iv ov wr=>∃ (k:Nat) (n':Nat) (a':OA) (c':Nat),k<=l.length/\iv= .int .i64 k/\ov= .slice a' n' c'/\n'<=k+1/\Hid ((corT l a b k).length=n')/\Hid (Sy w wr [] [⟨.slice a' n' c',3,1,n',L1 (corT l a b k)⟩] [])) (fun iv _ _=>l.length - (intOf iv).toNat)
 case atStart=>exact⟨0,1,_,1,Nat.zero_le _,rfl,rfl,by omega,ζ (by unfold corT ins;simp),ζ (by have h:=hC.out;unfold corT ins;simpa [L1] using h)⟩
 case round=>
  clear hC;obtain ⟨k,n',a',c',hk,rfl,rfl,hnk,AB,hC⟩:=hrel;by_cases hlt:k < l.length
  ·obtain ⟨g0,o0,rfl⟩:=HS.out.addr (by omega);obtain ⟨x0,-⟩:=(hC.out.sx HS.out).at2 hlt;have HX:=ζ (fun V (hV:Below w.heap.size w V)=>((HS.out.below hV).at2 hlt).1);have AC:=ζ (corT_step (a:=a) (b:=b) hlt);have i0:(0:Int)<=(k:Int):=(by omega);have i1:(k:Int) < (l.length:Int):=(by omega);generalize l[k].1=u at*;by_cases h1:a < u
   ·by_cases h2:u < b
    ·have HT:=ζ (show corT l a b (k+1)=corT l a b k++ [u]by rw [AC.out,if_pos ⟨h1,h2⟩]);have AD:=ζ (show L1 (corT l a b (k+1))=L1 (corT l a b k)++ [.int .i64 u]by rw [HT.out];unfold L1;rw [List.map_append];rfl);go_wp2_with (refine wpList_append_sy (o:=⟨some 40,_,_,_,_,_⟩) rfl (hC.out.onew wr.heap.size #[.int .i64 u] 3 1 1 rfl (by omega) rfl) 0 1 rfl rfl _ _ _ rfl und_hint info_hint rfl (by omega) rfl rfl (by intro u hu;simp at hu;rcases hu with rfl;rfl) (by omega) (by omega) ?_;intro a3 c3 V3 AA;have hJ:=ζ AA;clear AA)
     have hK:=ζ (hJ.out.thin (bs':=[]) (List.nil_sublist _) (List.Sublist.cons_cons _ (List.nil_sublist _)));clear hJ;go_roundw
     case rel=>exact⟨k+1,n'+1,a3,c3,by omega,by go_num,rfl,by omega,ζ (by rw [HT.out,List.length_append,AB.out];rfl),ζ (by rw [AD.out];exact hK.out)⟩
     case measure=>simp [intOf];omega
    ·have HT:=ζ (show corT l a b (k+1)=corT l a b k by rw [AC.out,if_neg (fun h=>h2 h.2),List.append_nil]);have d2:=decide_eq_false h2;go_wp2;go_roundw
     case rel=>exact⟨k+1,n',a',c',by omega,by go_num,rfl,by omega,ζ (by rw [HT.out];exact AB.out),ζ (by rw [HT.out];exact hC.out)⟩
     case measure=>simp [intOf];omega
   ·have HT:=ζ (show corT l a b (k+1)=corT l a b k by rw [AC.out,if_neg (fun h=>h1 h.1),List.append_nil]);have d1:=decide_eq_false h1;go_wp2;go_roundw
    case rel=>exact⟨k+1,n',a',c',by omega,by go_num,rfl,by omega,ζ (by rw [HT.out];exact AB.out),ζ (by rw [HT.out];exact hC.out)⟩
    case measure=>simp [intOf];omega
  ·obtain rfl:k=l.length:=by omega
   have AD:=ζ (show L1 R=L1 (corT l a b l.length)++ [.int .i64 b]by rw [<-AI.out];unfold L1;rw [List.map_append];rfl);have AJ:=ζ (show R.length=n'+1 by rw [<-AI.out,List.length_append,AB.out];rfl);go_wp2_with (refine wpList_append_sy (o:=⟨some 44,_,_,_,_,_⟩) rfl (hC.out.onew wr.heap.size #[.int .i64 b] 3 1 1 rfl (by omega) rfl) 0 1 rfl rfl _ _ _ rfl und_hint info_hint rfl (by omega) rfl rfl (by intro u hu;simp at hu;rcases hu with rfl;rfl) (by omega) (by omega) ?_;intro a3 c3 V3 AA;have hJ:=ζ AA;clear AA)
   go_ret;exact⟨a3,c3,(by rw [AJ.out];first | done | rfl),ζ (by rw [AJ.out,AD.out];exact hJ.out.orow 0 rfl),hJ.out.be⟩
end
section
variable (w:World)
theorem rGround_any (a:OA) (n c:Nat) (l:List Pt) (x:Int) (hs:Sx 2 w a n c (L2 l)) (hP:Prof l) (h1:hX l 0<=x) (h2:x<=hX l (l.length - 1)):
  Calls Tryz.prog 54 #[.slice a n c,.int .i64 x] w (RetNQ w (grd l x)):=by
 obtain rfl:=hs.n2;have htwo:=hP.two;have hforty:=hP.forty;obtain ⟨g0,o0,rfl⟩:=hs.addr (by omega);have HS:=ζ (fun W (hW:Below w.heap.size w W)=>hs.below hW);obtain ⟨hin1,hin2,hin3⟩:=hP.sg_in h1 h2;have A7:=ζ (show ∀k,k < sg l x->hX l (k+1) < x from fun k hk=>(hP.sg x).2.1 k hk);have HG:=ζ (show grd l x=grdI l (sg l x) x from rfl);have HP:=ζ hP;rw [HG.out];generalize sg l x=s at*;have A8:=ζ (show hX l s<=x/\x<=hX l (s+1)from⟨hin2,hin3⟩);have hs1:s+1 < l.length:=hin1;have A9:=ζ (show -100000<=x/\x<=100000 by
  have q1:=hP.bx (i:=0) (by omega);have q2:=hP.bx (i:=l.length - 1) (by omega);omega)
 clear hs hP h1 h2 hin1 hin2 hin3 HG;have hC:=ζ ((Sy.enter w).al w.heap.size zQ 50 rfl);go_enter Tryz.func54,Tryz.ntmps54;go_upto_region 1 with fail
 obtain ⟨b4,hb4⟩:∃b,w.heap.size=b:=⟨_,rfl⟩
 have An:=ζ hb4;rw [hb4]at hC⊢;clear hb4;refine wp_geny hC.out ?_;intro V1 hc;have A4:=ζ hc;clear hc hC;go_wp2;go_loopw [5] (fun iv wr=>∃k:Nat,k<=s/\iv= .int .i64 k/\Hid (Sy w wr [(b4,zQ,50)] [] [])) (fun iv _=>l.length - (intOf iv).toNat)
 case atStart=>exact⟨0,Nat.zero_le _,rfl,A4⟩
 case round=>
  clear A4;obtain ⟨k,hk,rfl,hS⟩:=hrel;have hk1:k+1 < l.length:=by omega
  have e1:=hX_at (l:=l) (i:=k) (by omega);have e2:=hX_at (l:=l) (i:=k+1) hk1;have e3:=hZ_at (l:=l) (i:=k) (by omega);have e4:=hZ_at (l:=l) (i:=k+1) hk1;have HA:=ζ (fun W (hW:Below w.heap.size w W)=>(HS.out W hW).at2 (show k < l.length by omega));have HB:=ζ (fun W (hW:Below w.heap.size w W)=>(HS.out W hW).at2 hk1);have q1:=HP.out.bx (i:=k) (by omega);have q2:=HP.out.bx (i:=k+1) hk1;have q3:=HP.out.bz (i:=k) (by omega);have q4:=HP.out.bz (i:=k+1) hk1;have hu:=HP.out.up k hk1;have A5:=ζ (show k < s->hX l (k+1) < x from A7.out k);have AT:=ζ (show grdI l k x=((hZ l k:Int):Rat)+((hZ l (k+1) - hZ l k:Int):Rat)*((x - hX l k:Int):Rat) / ((hX l (k+1) - hX l k:Int):Rat)from rfl);have AZ:=ζ (show k=s->hX l k<=x/\x<=hX l (k+1)from fun h=>by rw [h];exact A8.out);rw [e1]at q1 hu AT AZ;rw [e2]at q2 hu A5 AT AZ;rw [e3]at q3 AT;rw [e4]at q4 AT;clear e1 e2 e3 e4;generalize l[k]=p at*;generalize l[k+1]=q at*;obtain ⟨p0,p1⟩:=p;obtain ⟨r0,r1⟩:=q;dsimp only [Pt.x,Pt.z]at*;obtain ⟨t,ht⟩:∃t:Nat,t=k+1:=⟨_,rfl⟩
  rw [<-ht]at HB;have hx:=A9.out;have i1:IntKind.i64.wrap ((k:Int)+1)=(t:Int):=by rw [IntWalk.i64_in _ (by omega)];omega
  have j0:(0:Int)<=(k:Int):=by omega
  have j1:(k:Int) < (l.length:Int):=by omega
  have j2:(0:Int)<=(t:Int):=by omega
  have j3:(t:Int) < (l.length:Int):=by omega
  have HT:=ζ ht;clear ht;go_upto_region 4 with fail
  go_cut [6,7] (fun s6 s7 wx=>∃b6 b7:Nat,s6= .pointer (some ⟨b6,0,none⟩)/\s7= .pointer (some ⟨b7,0,none⟩)/\Hid (Sy w wx [(b4,zQ,50),(b6,#[.int .i64 p0,.int .i64 p1],90),(b7,#[.int .i64 r0,.int .i64 r1],90)] [] []))
  case first=>
   refine wp_region_noPanic ?_;refine wp_region_held_drew (S:=(fun w'=>w'.cell? ⟨g0,o0+k*2,none⟩=some (.int .i64 p0)/\w'.cell? ⟨g0,o0+k*2+1,none⟩=some (.int .i64 p1)/\w'.cell? ⟨g0,o0+t*2,none⟩=some (.int .i64 r0)/\w'.cell? ⟨g0,o0+t*2+1,none⟩=some (.int .i64 r1)/\True)) (by kernel_rfl) ⟨(HA.out _ hS.out.drew.be).1,(HA.out _ hS.out.drew.be).2,(HB.out _ hS.out.drew.be).1,(HB.out _ hS.out.drew.be).2,trivial⟩ (fun hH=>?_);refine wpAnyH_geny (show Sy w _ [(b4,zQ,50)] [] []from hS.out.drew) hH ?_;intro AG hc AD;have AJ:=ζ hc;clear hc hH hS;refine tkA 0 rfl AD ?_;(try simp only [zP]);refine tkA 1 rfl AD ?_;(try simp only [zP]);refine tkA 2 rfl AD ?_;(try simp only [zP]);refine tkA 3 rfl AD ?_;(try simp only [zP]);refine tkA 4 rfl AD ?_;(try simp only [zP]);refine tkA 5 rfl AD ?_;(try simp only [zP]);refine tkA 6 rfl AD ?_;(try simp only [zP]);refine tkA 7 rfl AD ?_;(try simp only [zP]);refine tkA 8 rfl AD ?_;(try simp only [zP]);refine rdyL [9,10] ?_;refine arc rfl (fun Kq AC=>?_) ?_
   ·go_simp;refine stepZ AC (show Sy w _ [(b4,zQ,50),(AG.heap.size,#[.int .i64 0,.int .i64 0],90)] [] []from(AJ.out.al AG.heap.size #[.int .i64 0,.int .i64 0] 90 rfl)) (fun _ hX=>⟨(HA.out _ hX.be).1,(HA.out _ hX.be).2,(HB.out _ hX.be).1,(HB.out _ hX.be).2,trivial⟩) ?_;intro AH AI AM;clear AC Kq AJ AD;(try simp only [zP]);refine rdy1 10 rfl (fun Kq AC=>?_);go_simp;refine stepZ AC (show Sy w _ [(b4,zQ,50),(AG.heap.size,#[.int .i64 0,.int .i64 0],90),(AH.heap.size,#[.int .i64 0,.int .i64 0],90)] [] []from(AI.out.al AH.heap.size #[.int .i64 0,.int .i64 0] 90 rfl)) (fun _ hX=>⟨(HA.out _ hX.be).1,(HA.out _ hX.be).2,(HB.out _ hX.be).1,(HB.out _ hX.be).2,trivial⟩) ?_;intro A1 AA AN;clear AC Kq AI AM;(try simp only [zP]);refine rdy1 11 rfl (fun Kq AC=>?_);have cQ0:=AA.out.c 1 0;have fQ0:=AA.out.f 1 0;have cQ1:=AA.out.c 1 1;have fQ1:=AA.out.f 1 1;go_simp;refine stepZ AC (show Sy w _ [(b4,zQ,50),(AG.heap.size,#[.int .i64 p0,.int .i64 p1],90),(AH.heap.size,#[.int .i64 0,.int .i64 0],90)] [] []from(AA.out|>.set (j:=0) (v:= .int .i64 p0) 1 rfl|>.set (j:=1) (v:= .int .i64 p1) 1 rfl)) (fun _ hX=>⟨(HA.out _ hX.be).1,(HA.out _ hX.be).2,(HB.out _ hX.be).1,(HB.out _ hX.be).2,trivial⟩) ?_;intro A2 AB AO;clear AC Kq AA cQ0 fQ0 cQ1 fQ1 AN;(try simp only [Act.put]);refine rdy1 12 rfl (fun Kq AC=>?_);have cQ0:=AB.out.c 2 0;have fQ0:=AB.out.f 2 0;have cQ1:=AB.out.c 2 1;have fQ1:=AB.out.f 2 1;go_simp;refine stepZ AC (show Sy w _ [(b4,zQ,50),(AG.heap.size,#[.int .i64 p0,.int .i64 p1],90),(AH.heap.size,#[.int .i64 r0,.int .i64 r1],90)] [] []from(AB.out|>.set (j:=0) (v:= .int .i64 r0) 2 rfl|>.set (j:=1) (v:= .int .i64 r1) 2 rfl)) (fun _ hX=>⟨(HA.out _ hX.be).1,(HA.out _ hX.be).2,(HB.out _ hX.be).1,(HB.out _ hX.be).2,trivial⟩) ?_;intro A3 AP AU;clear AC Kq AB cQ0 fQ0 cQ1 fQ1 AO;(try simp only [Act.put]);refine wpAnyH_done (by kernel_rfl) ?_ _;refine NoPanic.normal ?_;go_wp2_with fail
    go_meet;exact⟨_,_,rfl,rfl,ζ AP.out⟩
   refine arc rfl (fun Kq AC=>?_) ?_
   ·go_simp;refine stepZ AC (show Sy w _ [(b4,zQ,50),(AG.heap.size,#[.int .i64 0,.int .i64 0],90)] [] []from(AJ.out.al AG.heap.size #[.int .i64 0,.int .i64 0] 90 rfl)) (fun _ hX=>⟨(HA.out _ hX.be).1,(HA.out _ hX.be).2,(HB.out _ hX.be).1,(HB.out _ hX.be).2,trivial⟩) ?_;intro AH AI AM;clear AC Kq AJ AD;(try simp only [zP]);refine rdy1 9 rfl (fun Kq AC=>?_);go_simp;refine stepZ AC (show Sy w _ [(b4,zQ,50),(AG.heap.size,#[.int .i64 0,.int .i64 0],90),(AH.heap.size,#[.int .i64 0,.int .i64 0],90)] [] []from(AI.out.al AH.heap.size #[.int .i64 0,.int .i64 0] 90 rfl)) (fun _ hX=>⟨(HA.out _ hX.be).1,(HA.out _ hX.be).2,(HB.out _ hX.be).1,(HB.out _ hX.be).2,trivial⟩) ?_;intro A1 AA AN;clear AC Kq AI AM;(try simp only [zP]);refine rdy1 11 rfl (fun Kq AC=>?_);have cQ0:=AA.out.c 2 0;have fQ0:=AA.out.f 2 0;have cQ1:=AA.out.c 2 1;have fQ1:=AA.out.f 2 1;go_simp;refine stepZ AC (show Sy w _ [(b4,zQ,50),(AG.heap.size,#[.int .i64 0,.int .i64 0],90),(AH.heap.size,#[.int .i64 p0,.int .i64 p1],90)] [] []from(AA.out|>.set (j:=0) (v:= .int .i64 p0) 2 rfl|>.set (j:=1) (v:= .int .i64 p1) 2 rfl)) (fun _ hX=>⟨(HA.out _ hX.be).1,(HA.out _ hX.be).2,(HB.out _ hX.be).1,(HB.out _ hX.be).2,trivial⟩) ?_;intro A2 AB AO;clear AC Kq AA cQ0 fQ0 cQ1 fQ1 AN;(try simp only [Act.put]);refine rdy1 12 rfl (fun Kq AC=>?_);have cQ0:=AB.out.c 1 0;have fQ0:=AB.out.f 1 0;have cQ1:=AB.out.c 1 1;have fQ1:=AB.out.f 1 1;go_simp;refine stepZ AC (show Sy w _ [(b4,zQ,50),(AG.heap.size,#[.int .i64 r0,.int .i64 r1],90),(AH.heap.size,#[.int .i64 p0,.int .i64 p1],90)] [] []from(AB.out|>.set (j:=0) (v:= .int .i64 r0) 1 rfl|>.set (j:=1) (v:= .int .i64 r1) 1 rfl)) (fun _ hX=>⟨(HA.out _ hX.be).1,(HA.out _ hX.be).2,(HB.out _ hX.be).1,(HB.out _ hX.be).2,trivial⟩) ?_;intro A3 AP AU;clear AC Kq AB cQ0 fQ0 cQ1 fQ1 AO;(try simp only [Act.put]);refine wpAnyH_done (by kernel_rfl) ?_ _;refine NoPanic.normal ?_;go_wp2_with fail
    go_meet;exact⟨_,_,rfl,rfl,ζ (AP.out.bperm (perm_132 _ _ _))⟩
   exact AllReadyH.nil
  case rest=>
   clear hS;obtain ⟨b6,b7,rfl,rfl,hS⟩:=hcut;have z60:wc.cell? ⟨b6,0,none⟩=some (.int .i64 p0):=hS.out.c 1 0;have z70:wc.cell? ⟨b7,0,none⟩=some (.int .i64 r0):=hS.out.c 2 0;have A0:=ζ (fun W=>rIn_any W x p0 r0);by_cases hlt:k < s
   ·have hne:inB x p0 r0=false:=by
     cases e:inB x p0 r0
     ·rfl
     ·have h3:=inB_iff.1 e;have h4:=A5.out hlt;omega
    rw [hne]at A0;clear hne;go_wp2_with ((with_reducible refine(A0.out _).mono ?_);rintro e w1 ⟨rfl,rfl⟩)
    go_roundw
    case rel=>exact⟨k+1,by omega,by rw [HT.out],ζ (hS.out.thin (bs':=[(b4,zQ,50)]) (List.sublist_append_left [_] _) (List.Sublist.refl _))⟩
    case measure=>have:=HT.out;simp [intOf];omega
   ·have hks:k=s:=(by omega);have hki:=AZ.out hks;have hye:inB x p0 r0=true:=inB_iff.2 hki;rw [hye]at A0;have Ab:=ζ (show grdI l s x=(p1:Rat)+Rat.divInt (r1 - p1) (r0 - p0)*((x - p0:Int):Rat)by
     rw [<-hks,AT.out,Rat.divInt_eq_div];grind)
    clear hye AT AZ;have v1:IntKind.i64.wrap (r1 - p1)=r1 - p1:=IntWalk.i64_in _ (by omega);have v2:IntKind.i64.wrap (x - p0)=x - p0:=IntWalk.i64_in _ (by omega);have v3:IntKind.i64.wrap (r0 - p0)=r0 - p0:=IntWalk.i64_in _ (by omega);have B1:=ζ (show InI p1 by unfold InI;omega);have B2:=ζ (show InI (r1 - p1)by unfold InI;omega);have B3:=ζ (show InI (x - p0)by unfold InI;omega);have B4:=ζ (show InI (r0 - p0)by unfold InI;omega);have Ac:=ζ (show((r0 - p0:Int):Rat)≠0 from cast_ne (by omega));have Ad:=ζ (show r0 - p0≠0 by omega);have BS:=ζ (show Bq 40 (Rat.divInt (r1 - p1) (r0 - p0))by rw [Rat.divInt_eq_div];exact((int_bq B2.out).div (int_bq B4.out) Ac.out).mono (by omega));have z61:wc.cell? ⟨b6,1,none⟩=some (.int .i64 p1):=hS.out.c 1 1;have z71:wc.cell? ⟨b7,1,none⟩=some (.int .i64 r1):=hS.out.c 2 1;clear hks hki hlt;go_wp2_with ((with_reducible refine(A0.out _).mono ?_);rintro e w1 ⟨rfl,rfl⟩)
    refine(ratioN_any _ _ B2.out.i64 B4.out.i64 Ad.out _).mono ?_;rintro e w3 ⟨s3,a3,n3,c3,t3,d3,e3,f3,rfl,hz,hb⟩;have hD:=ζ (((hS.out.call hb).pq rfl rfl hz).al w3.heap.size #[.int .i64 s3,.slice a3 n3 c3,.int .i64 t3,.slice d3 e3 f3] 50 rfl);clear hb hz hS z60 z61 z70 z71;go_upto_region 7 with fail
    obtain ⟨b8,hb8⟩:∃b,w3.heap.size=b:=⟨_,rfl⟩
    rw [hb8]at hD⊢;refine wp_geny hD.out ?_;intro V5 hc;have hE:=ζ hc;clear hc hD hb8;refine wp_region_held_drew (S:=(fun w'=>w'.cell? ⟨b6,0,none⟩=some (.int .i64 p0)/\w'.cell? ⟨b6,1,none⟩=some (.int .i64 p1)/\w'.cell? ⟨b8,0,none⟩=some (.int .i64 s3)/\w'.cell? ⟨b8,1,none⟩=some (.slice a3 n3 c3)/\w'.cell? ⟨b8,2,none⟩=some (.int .i64 t3)/\w'.cell? ⟨b8,3,none⟩=some (.slice d3 e3 f3)/\True)) (by kernel_rfl) ⟨hE.out.drew.c 1 0,hE.out.drew.c 1 1,hE.out.drew.c 3 0,hE.out.drew.c 3 1,hE.out.drew.c 3 2,hE.out.drew.c 3 3,trivial⟩ (fun hH=>?_);refine wpAnyH_geny (show Sy w _ [(b4,zQ,50),(b6,#[.int .i64 p0,.int .i64 p1],90),(b7,#[.int .i64 r0,.int .i64 r1],90),(b8,#[.int .i64 s3,.slice a3 n3 c3,.int .i64 t3,.slice d3 e3 f3],50)] [] [(fun V=>Nq V s3 (.slice a3 n3 c3) t3 (.slice d3 e3 f3) (Rat.divInt (r1 - p1) (r0 - p0)))]from hE.out.drew) hH ?_;intro Af hc AF;have AQ:=ζ hc;clear hc hH hE;refine tkA 0 rfl AF ?_;(try simp only [zP]);refine tkA 1 rfl AF ?_;(try simp only [zP]);refine tkA 3 rfl AF ?_;(try simp only [zP]);refine tkA 4 rfl AF ?_;(try simp only [zP]);refine tkA 5 rfl AF ?_;(try simp only [zP]);refine tkA 6 rfl AF ?_;(try simp only [zP]);refine tkA 7 rfl AF ?_;(try simp only [zP]);refine rdy1 2 rfl (fun Kq AC=>?_);go_simp;go_at_call 72;refine(rOf_any _ _ B1.out.i64).mono ?_;rintro e wT ⟨s4,a4,n4,c4,t4,d4,e4,f4,rfl,hz,hb⟩;(try go_wp2_with fail);refine stepZ AC (show Sy w _ [(b4,zQ,50),(b6,#[.int .i64 p0,.int .i64 p1],90),(b7,#[.int .i64 r0,.int .i64 r1],90),(b8,#[.int .i64 s3,.slice a3 n3 c3,.int .i64 t3,.slice d3 e3 f3],50)] [] [(fun V=>Nq V s3 (.slice a3 n3 c3) t3 (.slice d3 e3 f3) (Rat.divInt (r1 - p1) (r0 - p0))),(fun V=>Nq V s4 (.slice a4 n4 c4) t4 (.slice d4 e4 f4) ((p1:Rat)))]from((AQ.out.call hb).pq rfl rfl hz)) (fun _ hX=>⟨hX.c 1 0,hX.c 1 1,hX.c 3 0,hX.c 3 1,hX.c 3 2,hX.c 3 3,trivial⟩) ?_;intro Ag AR AV;clear AC Kq AQ hb hz AF;(try simp only [zP]);refine rdy1 8 rfl (fun Kq AC=>?_);go_simp;go_at_call 72;refine(rOf_any _ _ B3.out.i64).mono ?_;rintro e wT ⟨s5,a5,n5,c5,t5,d5,e5,f5,rfl,hz,hb⟩;(try go_wp2_with fail);refine stepZ AC (show Sy w _ [(b4,zQ,50),(b6,#[.int .i64 p0,.int .i64 p1],90),(b7,#[.int .i64 r0,.int .i64 r1],90),(b8,#[.int .i64 s3,.slice a3 n3 c3,.int .i64 t3,.slice d3 e3 f3],50)] [] [(fun V=>Nq V s3 (.slice a3 n3 c3) t3 (.slice d3 e3 f3) (Rat.divInt (r1 - p1) (r0 - p0))),(fun V=>Nq V s4 (.slice a4 n4 c4) t4 (.slice d4 e4 f4) ((p1:Rat))),(fun V=>Nq V s5 (.slice a5 n5 c5) t5 (.slice d5 e5 f5) (((x - p0:Int):Rat)))]from((AR.out.call hb).pq rfl rfl hz)) (fun _ hX=>⟨hX.c 1 0,hX.c 1 1,hX.c 3 0,hX.c 3 1,hX.c 3 2,hX.c 3 3,trivial⟩) ?_;intro Aj AK AW;clear AC Kq AR hb hz AV;(try simp only [zP]);refine rdy1 9 rfl (fun Kq AC=>?_);go_simp;go_at_call 108;refine(rmulN_b (AK.out.r 0 rfl) (AK.out.r 2 rfl) BS.out (int_bq B3.out) (by omega) (by omega)).mono ?_;rintro e wT ⟨s6,a6,n6,c6,t6,d6,e6,f6,rfl,hz,hb⟩;(try go_wp2_with fail);refine stepZ AC (show Sy w _ [(b4,zQ,50),(b6,#[.int .i64 p0,.int .i64 p1],90),(b7,#[.int .i64 r0,.int .i64 r1],90),(b8,#[.int .i64 s3,.slice a3 n3 c3,.int .i64 t3,.slice d3 e3 f3],50)] [] [(fun V=>Nq V s3 (.slice a3 n3 c3) t3 (.slice d3 e3 f3) (Rat.divInt (r1 - p1) (r0 - p0))),(fun V=>Nq V s4 (.slice a4 n4 c4) t4 (.slice d4 e4 f4) ((p1:Rat))),(fun V=>Nq V s5 (.slice a5 n5 c5) t5 (.slice d5 e5 f5) (((x - p0:Int):Rat))),(fun V=>Nq V s6 (.slice a6 n6 c6) t6 (.slice d6 e6 f6) (Rat.divInt (r1 - p1) (r0 - p0)*((x - p0:Int):Rat)))]from((AK.out.call hb).pq rfl rfl hz)) (fun _ hX=>⟨hX.c 1 0,hX.c 1 1,hX.c 3 0,hX.c 3 1,hX.c 3 2,hX.c 3 3,trivial⟩) ?_;intro Ak AL AX;clear AC Kq AK hb hz AW;(try simp only [zP]);refine rdy1 10 rfl (fun Kq AC=>?_);go_simp;go_at_call 73;refine(raddN_b (AL.out.r 1 rfl) (AL.out.r 3 rfl) (int_bq B1.out) (BS.out.mul (int_bq B3.out)) (by omega) (by omega)).mono ?_;rintro e wT ⟨s7,a7,n7,c7,t7,d7,e7,f7,rfl,hz,hb⟩;(try go_wp2_with fail);refine stepZ AC (show Sy w _ [(b4,zQ,50),(b6,#[.int .i64 p0,.int .i64 p1],90),(b7,#[.int .i64 r0,.int .i64 r1],90),(b8,#[.int .i64 s3,.slice a3 n3 c3,.int .i64 t3,.slice d3 e3 f3],50)] [] [(fun V=>Nq V s3 (.slice a3 n3 c3) t3 (.slice d3 e3 f3) (Rat.divInt (r1 - p1) (r0 - p0))),(fun V=>Nq V s4 (.slice a4 n4 c4) t4 (.slice d4 e4 f4) ((p1:Rat))),(fun V=>Nq V s5 (.slice a5 n5 c5) t5 (.slice d5 e5 f5) (((x - p0:Int):Rat))),(fun V=>Nq V s6 (.slice a6 n6 c6) t6 (.slice d6 e6 f6) (Rat.divInt (r1 - p1) (r0 - p0)*((x - p0:Int):Rat))),(fun V=>Nq V s7 (.slice a7 n7 c7) t7 (.slice d7 e7 f7) ((p1:Rat)+Rat.divInt (r1 - p1) (r0 - p0)*((x - p0:Int):Rat)))]from((AL.out.call hb).pq rfl rfl hz)) (fun _ hX=>⟨hX.c 1 0,hX.c 1 1,hX.c 3 0,hX.c 3 1,hX.c 3 2,hX.c 3 3,trivial⟩) ?_;intro Al AE AY;clear AC Kq AL hb hz AX;(try simp only [zP]);refine rdy1 11 rfl (fun Kq AC=>?_);have cQ0:=AE.out.c 0 0;have fQ0:=AE.out.f 0 0;have cQ1:=AE.out.c 0 1;have fQ1:=AE.out.f 0 1;have cQ2:=AE.out.c 0 2;have fQ2:=AE.out.f 0 2;have cQ3:=AE.out.c 0 3;have fQ3:=AE.out.f 0 3;go_simp;refine stepZ AC (show Sy w _ [(b4,#[.int .i64 s7,.slice a7 n7 c7,.int .i64 t7,.slice d7 e7 f7],50),(b6,#[.int .i64 p0,.int .i64 p1],90),(b7,#[.int .i64 r0,.int .i64 r1],90),(b8,#[.int .i64 s3,.slice a3 n3 c3,.int .i64 t3,.slice d3 e3 f3],50)] [] [(fun V=>Nq V s3 (.slice a3 n3 c3) t3 (.slice d3 e3 f3) (Rat.divInt (r1 - p1) (r0 - p0))),(fun V=>Nq V s4 (.slice a4 n4 c4) t4 (.slice d4 e4 f4) ((p1:Rat))),(fun V=>Nq V s5 (.slice a5 n5 c5) t5 (.slice d5 e5 f5) (((x - p0:Int):Rat))),(fun V=>Nq V s6 (.slice a6 n6 c6) t6 (.slice d6 e6 f6) (Rat.divInt (r1 - p1) (r0 - p0)*((x - p0:Int):Rat))),(fun V=>Nq V s7 (.slice a7 n7 c7) t7 (.slice d7 e7 f7) ((p1:Rat)+Rat.divInt (r1 - p1) (r0 - p0)*((x - p0:Int):Rat)))]from(AE.out|>.set (j:=0) (v:= .int .i64 s7) 0 rfl|>.set (j:=1) (v:= .slice a7 n7 c7) 0 rfl|>.set (j:=2) (v:= .int .i64 t7) 0 rfl|>.set (j:=3) (v:= .slice d7 e7 f7) 0 rfl)) (fun _ hX=>⟨hX.c 1 0,hX.c 1 1,hX.c 3 0,hX.c 3 1,hX.c 3 2,hX.c 3 3,trivial⟩) ?_;intro Am AS A6;clear AC Kq AE cQ0 fQ0 cQ1 fQ1 cQ2 fQ2 cQ3 fQ3 AY;(try simp only [Act.put]);refine wpAnyH_done (by kernel_rfl) ?_ _;rw [<-Ab.out]at AS;go_wp2;refine ret_sy AS.out (v:= .agg #[.int .i64 s7,.slice a7 n7 c7,.int .i64 t7,.slice d7 e7 f7]) (fun hF=>?_) rfl (fun hF=>⟨_,_,_,_,_,_,_,_,rfl,hF.r 4 rfl,hF.be⟩);have g0:=hF.c 0 0;have g1:=hF.c 0 1;have g2:=hF.c 0 2;have g3:=hF.c 0 3;simp [results,Tryz.results54,go_sem,g0,g1,g2,g3]
end
end
section
open Go.RowKit Dig
theorem qN19_0 {P_:Prop} (h:P_:=by exact⟨Yx.c 0 0,Yx.c 0 1,Yx.c 0 2,Yx.c 0 3,trivial⟩):P_:=h
theorem Bq.abs {n:Nat} {a:Rat} (h:Bq n a):Bq n a.abs:=by
 unfold Rat.abs
 split
 ·exact h
 ·exact h.neg
theorem Bd.floor {n:Nat} {q:Rat} (h:Bq n q):Bd n q.floor:=by rw [Rat.floor_def];exact h.num.div _
theorem sgnQ_0 {q:Rat} (h:q=0):sgnQ q=0:=by rw [h];rfl
theorem cmpQ_lt {a b:Rat} (h:a < b):cmpQ a b= -1:=by
 unfold cmpQ;rw [if_neg (by grind),if_pos h]
theorem cmpQ_gt {a b:Rat} (h:b < a):cmpQ a b=1:=by
 unfold cmpQ;rw [if_neg (by grind),if_neg (by grind)]
theorem rfloorN_any (s1:Int) (a1:OA) (n1 c1:Nat) (t1:Int) (d1:OA) (e1 f1:Nat) (q1:Rat) (w:World) (h1:Nq w s1 (.slice a1 n1 c1) t1 (.slice d1 e1 f1) q1) (k1:Nat) (b1:Bq k1 q1) (hk1:k1<=40000):
  Calls Tryz.prog 125 #[.agg #[.int .i64 s1,.slice a1 n1 c1,.int .i64 t1,.slice d1 e1 f1]] w (RetN w (q1.num / (q1.den:Int))):=by
 have B1:=ζ b1;clear b1;have hC:=ζ ((((St.enter w).pq h1).al (w.heap.size) #[.int .i64 s1,.slice a1 n1 c1,.int .i64 t1,.slice d1 e1 f1] 50 rfl rfl).al (w.heap.size+1) #[.int .i64 0,.slice none 0 0] 48 (by simp) rfl);clear h1;go_enter Tryz.func125,Tryz.ntmps125;go_upto_region 1 with fail
 go_cut [3] (fun s3 wx=>∃bx s4 a4 n4 c4,s3= .pointer (some ⟨bx,0,none⟩)/\Hid (St w wx [(w.heap.size,#[.int .i64 s1,.slice a1 n1 c1,.int .i64 t1,.slice d1 e1 f1],50),(w.heap.size+1,#[.int .i64 0,.slice none 0 0],48),(bx,#[.int .i64 s4,.slice a4 n4 c4],48)] [fun V=>Nz V s4 (.slice a4 n4 c4) (q1.num / (q1.den:Int))]))
 case first=>
  refine wp_gen hC.out ?_;intro W1 hc;clear hC;have hC:=ζ hc;have AC:=ζ (show k1<=300000 by omega);have HD:=ζ (den_ne q1);clear hc;go_region_held3 (fun w'=>w'.cell? ⟨w.heap.size,0,none⟩=some (.int .i64 s1)/\w'.cell? ⟨w.heap.size,1,none⟩=some (.slice a1 n1 c1)/\w'.cell? ⟨w.heap.size,2,none⟩=some (.int .i64 t1)/\w'.cell? ⟨w.heap.size,3,none⟩=some (.slice d1 e1 f1)/\True)
   (first
    | (with_reducible refine aG (World.setCell (World.setCell (World.setCell (World.setCell (World.alloc (World.alloc wb _) _) _ _) _ _) _ _) _ _) ?_;refine aH ((((AA.out.al (wb.heap.size) #[.int .i64 0,.slice none 0 0] 48 rfl rfl).al (wb.heap.size+1) #[.int .i64 0,.slice none 0 0] 48 (by simp) rfl)|>.t2 2 rfl)|>.t2 3 rfl) (fun Yx=>?_);exact qN19_0)
    | (with_reducible refine aG (World.setCell (World.setCell (World.setCell (World.setCell (World.alloc (World.alloc wb _) _) _ _) _ _) _ _) _ _) ?_;refine aH ((((AA.out.al (wb.heap.size) #[.int .i64 0,.slice none 0 0] 48 rfl rfl).al (wb.heap.size+1) #[.int .i64 0,.slice none 0 0] 48 (by simp) rfl)|>.t2 3 rfl)|>.t2 2 rfl) (fun Yx=>?_);exact qN19_0)
    | (with_reducible refine aG (World.setCell (World.setCell (World.setCell (World.setCell (World.alloc wb _) _ _) _ _) _ _) _ _) ?_;refine aH (((AA.out.al (wb.heap.size) #[.int .i64 0,.slice none 0 0] 48 rfl rfl)|>.t2 2 rfl)|>.t2 3 rfl) (fun Yx=>?_);exact qN19_0)
    | (with_reducible refine aG (World.setCell (World.setCell (World.setCell (World.setCell (World.alloc wb _) _ _) _ _) _ _) _ _) ?_;refine aH (((AA.out.al (wb.heap.size) #[.int .i64 0,.slice none 0 0] 48 rfl rfl)|>.t2 3 rfl)|>.t2 2 rfl) (fun Yx=>?_);exact qN19_0)
    | (with_reducible refine aG (World.alloc (World.setCell (World.setCell (World.alloc (World.alloc wb _) _) _ _) _ _) _) ?_;refine aH ((((AA.out.al (wb.heap.size) #[.int .i64 0,.slice none 0 0] 48 rfl rfl).al (wb.heap.size+1) #[.int .i64 0,.slice none 0 0] 48 (by simp) rfl)|>.t2 2 rfl).row) (fun Yx=>?_);exact qN19_0)
    | (with_reducible refine aG (World.alloc (World.setCell (World.setCell (World.alloc (World.alloc wb _) _) _ _) _ _) _) ?_;refine aH ((((AA.out.al (wb.heap.size) #[.int .i64 0,.slice none 0 0] 48 rfl rfl).al (wb.heap.size+1) #[.int .i64 0,.slice none 0 0] 48 (by simp) rfl)|>.t2 3 rfl).row) (fun Yx=>?_);exact qN19_0)
    | (with_reducible refine aG (World.setCell (World.setCell (World.setCell (World.setCell wb _ _) _ _) _ _) _ _) ?_;refine aH ((AA.out|>.t2 2 rfl)|>.t2 3 rfl) (fun Yx=>?_);exact qN19_0)
    | (with_reducible refine aG (World.setCell (World.setCell (World.setCell (World.setCell wb _ _) _ _) _ _) _ _) ?_;refine aH ((AA.out|>.t2 3 rfl)|>.t2 2 rfl) (fun Yx=>?_);exact qN19_0)
    | (with_reducible refine aG (World.alloc (World.setCell (World.setCell (World.alloc wb _) _ _) _ _) _) ?_;refine aH (((AA.out.al (wb.heap.size) #[.int .i64 0,.slice none 0 0] 48 rfl rfl)|>.t2 2 rfl).row) (fun Yx=>?_);exact qN19_0)
    | (with_reducible refine aG (World.alloc (World.setCell (World.setCell (World.alloc wb _) _ _) _ _) _) ?_;refine aH (((AA.out.al (wb.heap.size) #[.int .i64 0,.slice none 0 0] 48 rfl rfl)|>.t2 3 rfl).row) (fun Yx=>?_);exact qN19_0)
    | (with_reducible refine aG (World.setCell (World.setCell (World.alloc (World.alloc wb _) _) _ _) _ _) ?_;refine aH (((AA.out.al (wb.heap.size) #[.int .i64 0,.slice none 0 0] 48 rfl rfl).al (wb.heap.size+1) #[.int .i64 0,.slice none 0 0] 48 (by simp) rfl)|>.t2 2 rfl) (fun Yx=>?_);exact qN19_0)
    | (with_reducible refine aG (World.setCell (World.setCell (World.alloc (World.alloc wb _) _) _ _) _ _) ?_;refine aH (((AA.out.al (wb.heap.size) #[.int .i64 0,.slice none 0 0] 48 rfl rfl).al (wb.heap.size+1) #[.int .i64 0,.slice none 0 0] 48 (by simp) rfl)|>.t2 3 rfl) (fun Yx=>?_);exact qN19_0)
    | (with_reducible refine aG (World.alloc (World.setCell (World.setCell wb _ _) _ _) _) ?_;refine aH ((AA.out|>.t2 2 rfl).row) (fun Yx=>?_);exact qN19_0)
    | (with_reducible refine aG (World.alloc (World.setCell (World.setCell wb _ _) _ _) _) ?_;refine aH ((AA.out|>.t2 3 rfl).row) (fun Yx=>?_);exact qN19_0)
    | (with_reducible refine aG (World.setCell (World.setCell (World.alloc wb _) _ _) _ _) ?_;refine aH ((AA.out.al (wb.heap.size) #[.int .i64 0,.slice none 0 0] 48 rfl rfl)|>.t2 2 rfl) (fun Yx=>?_);exact qN19_0)
    | (with_reducible refine aG (World.setCell (World.setCell (World.alloc wb _) _ _) _ _) ?_;refine aH ((AA.out.al (wb.heap.size) #[.int .i64 0,.slice none 0 0] 48 rfl rfl)|>.t2 3 rfl) (fun Yx=>?_);exact qN19_0)
    | (with_reducible refine aG (World.setCell (World.setCell wb _ _) _ _) ?_;refine aH (AA.out|>.t2 2 rfl) (fun Yx=>?_);exact qN19_0)
    | (with_reducible refine aG (World.setCell (World.setCell wb _ _) _ _) ?_;refine aH (AA.out|>.t2 3 rfl) (fun Yx=>?_);exact qN19_0)
    | (with_reducible refine aG (World.alloc (World.alloc wb _) _) ?_;have Yx:=(AA.out.al (wb.heap.size) #[.int .i64 0,.slice none 0 0] 48 rfl rfl).al (wb.heap.size+1) #[.int .i64 0,.slice none 0 0] 48 (by simp) rfl;exact qN19_0)
    | (with_reducible refine aG (World.alloc wb _) ?_;have Yx:=AA.out.al (wb.heap.size) #[.int .i64 0,.slice none 0 0] 48 rfl rfl;exact qN19_0)
    | (with_reducible refine aG wb ?_;have Yx:=AA.out;exact qN19_0)
    | (with_reducible refine aG (World.alloc (World.alloc wa _) _) ?_;have Yx:=(AB.out.al (wa.heap.size) #[.int .i64 0,.slice none 0 0] 48 rfl rfl).al (wa.heap.size+1) #[.int .i64 0,.slice none 0 0] 48 (by simp) rfl;exact qN19_0)
    | (with_reducible refine aG (World.alloc wa _) ?_;have Yx:=AB.out.al (wa.heap.size) #[.int .i64 0,.slice none 0 0] 48 rfl rfl;exact qN19_0)
    | (with_reducible refine aG wa ?_;have Yx:=AB.out;exact qN19_0)
    | (with_reducible refine aG (World.drew (World.alloc (World.alloc W1 _) _)) ?_;have Yx:=((hC.out.al (W1.heap.size) #[.int .i64 0,.slice none 0 0] 48 rfl rfl).al (W1.heap.size+1) #[.int .i64 0,.slice none 0 0] 48 (by simp) rfl).drew;exact qN19_0)
    | (with_reducible refine aG (World.drew (World.alloc W1 _)) ?_;have Yx:=(hC.out.al (W1.heap.size) #[.int .i64 0,.slice none 0 0] 48 rfl rfl).drew;exact qN19_0)
    | (with_reducible refine aG (World.drew W1) ?_;have Yx:=hC.out.drew;exact qN19_0)
    | (with_reducible refine aG (World.alloc (World.alloc wb _) _) ?_;refine aH (AA.out.row.row) (fun Yx=>?_);exact qN19_0)
    | (with_reducible refine aG (World.alloc wb _) ?_;refine aH (AA.out.row) (fun Yx=>?_);exact qN19_0)|fail)
   (first
    | (have _t:=AB;go_at_call 163;(first | (have P:=(AB.out.rq 0 rfl).n;have P2:=AB.out.n 1 rfl;(with_reducible refine(zquotN_b P P2 HD.out B1.out.num B1.out.den AC.out AC.out).mono ?_);rintro e wb ⟨s4,a4,n4,c4,s5,a5,n5,c5,rfl,hz,hr,hb⟩;have AA:=ζ ((AB.out.call hb).pn hz);clear hz hb P P2 hr) | (have P:=((AB.out.al (wa.heap.size) #[.int .i64 0,.slice none 0 0] 48 rfl rfl).rq 0 rfl).n;have P2:=(AB.out.al (wa.heap.size) #[.int .i64 0,.slice none 0 0] 48 rfl rfl).n 1 rfl;(with_reducible refine(zquotN_b P P2 HD.out B1.out.num B1.out.den AC.out AC.out).mono ?_);rintro e wb ⟨s4,a4,n4,c4,s5,a5,n5,c5,rfl,hz,hr,hb⟩;have AA:=ζ (((AB.out.al (wa.heap.size) #[.int .i64 0,.slice none 0 0] 48 rfl rfl).call hb).pn hz);clear hz hb P P2 hr) | (have P:=(((AB.out.al (wa.heap.size) #[.int .i64 0,.slice none 0 0] 48 rfl rfl).al (wa.heap.size+1) #[.int .i64 0,.slice none 0 0] 48 (by simp) rfl).rq 0 rfl).n;have P2:=((AB.out.al (wa.heap.size) #[.int .i64 0,.slice none 0 0] 48 rfl rfl).al (wa.heap.size+1) #[.int .i64 0,.slice none 0 0] 48 (by simp) rfl).n 1 rfl;(with_reducible refine(zquotN_b P P2 HD.out B1.out.num B1.out.den AC.out AC.out).mono ?_);rintro e wb ⟨s4,a4,n4,c4,s5,a5,n5,c5,rfl,hz,hr,hb⟩;have AA:=ζ ((((AB.out.al (wa.heap.size) #[.int .i64 0,.slice none 0 0] 48 rfl rfl).al (wa.heap.size+1) #[.int .i64 0,.slice none 0 0] 48 (by simp) rfl).call hb).pn hz);clear hz hb P P2 hr));(try have c20:=AA.out.c 2 0);(try have c21:=AA.out.c 2 1);(try have c30:=AA.out.c 3 0);(try have c31:=AA.out.c 3 1);(try have f20:=AA.out.f 2 0);(try have f21:=AA.out.f 2 1);(try have f30:=AA.out.f 3 0);(try have f31:=AA.out.f 3 1);(try have l2:=AA.out.lt 2 rfl);(try have l3:=AA.out.lt 3 rfl);(try have l23:=AA.out.apart 2 3 rfl rfl (by omega));(try have l32:=(AA.out.apart 2 3 rfl rfl (by omega)).symm);clear _t AB)
    | (have _t:=hC;go_at_call 136;(first | (have P:=(hC.out.drew).rq 0 rfl;(with_reducible refine(denN_b P).mono ?_);rintro e wa ⟨s3,a3,n3,c3,rfl,hz,hb⟩;have AB:=ζ ((hC.out.drew.call hb).pn hz);clear hz hb P) | (have P:=((hC.out.al (W1.heap.size) #[.int .i64 0,.slice none 0 0] 48 rfl rfl).drew).rq 0 rfl;(with_reducible refine(denN_b P).mono ?_);rintro e wa ⟨s3,a3,n3,c3,rfl,hz,hb⟩;have AB:=ζ (((hC.out.al (W1.heap.size) #[.int .i64 0,.slice none 0 0] 48 rfl rfl).drew.call hb).pn hz);clear hz hb P) | (have P:=(((hC.out.al (W1.heap.size) #[.int .i64 0,.slice none 0 0] 48 rfl rfl).al (W1.heap.size+1) #[.int .i64 0,.slice none 0 0] 48 (by simp) rfl).drew).rq 0 rfl;(with_reducible refine(denN_b P).mono ?_);rintro e wa ⟨s3,a3,n3,c3,rfl,hz,hb⟩;have AB:=ζ ((((hC.out.al (W1.heap.size) #[.int .i64 0,.slice none 0 0] 48 rfl rfl).al (W1.heap.size+1) #[.int .i64 0,.slice none 0 0] 48 (by simp) rfl).drew.call hb).pn hz);clear hz hb P));clear _t hC)
    | fail)
  all_goals (go_wp2_with fail;go_meet)
  all_goals (first
   | (refine⟨_,s4,a4,n4,c4,rfl,?_⟩;(with_reducible refine(?_:Hid (St w (World.alloc (World.alloc wb _) _) _ _)));exact ζ (St.pick (St.bpick ((AA.out.al (wb.heap.size) #[.int .i64 s4,.slice a4 n4 c4] 48 rfl rfl).al (wb.heap.size+1) #[.int .i64 s5,.slice a5 n5 c5] 48 (by simp) rfl) [0,1,2] (by decide) rfl) [2] rfl))
   | (refine⟨_,s4,a4,n4,c4,rfl,?_⟩;(with_reducible refine(?_:Hid (St w (World.alloc (World.setCell (World.setCell wb _ _) _ _) _) _ _)));exact ζ (St.pick (St.bpick ((AA.out|>.t2 2 rfl).al (wb.heap.size) #[.int .i64 s5,.slice a5 n5 c5] 48 (by simp [World.setCell]) rfl) [0,1,2] (by decide) rfl) [2] rfl))
   | (refine⟨_,s4,a4,n4,c4,rfl,?_⟩;(with_reducible refine(?_:Hid (St w (World.alloc (World.alloc wb _) _) _ _)));exact ζ (St.pick (St.bpick ((AA.out.al (wb.heap.size) #[.int .i64 s5,.slice a5 n5 c5] 48 rfl rfl).al (wb.heap.size+1) #[.int .i64 s4,.slice a4 n4 c4] 48 (by simp) rfl) [0,1,3] (by decide) rfl) [2] rfl))
   | (refine⟨_,s4,a4,n4,c4,rfl,?_⟩;(with_reducible refine(?_:Hid (St w (World.alloc (World.setCell (World.setCell wb _ _) _ _) _) _ _)));exact ζ (St.pick (St.bpick ((AA.out|>.t2 2 rfl).al (wb.heap.size) #[.int .i64 s4,.slice a4 n4 c4] 48 (by simp [World.setCell]) rfl) [0,1,3] (by decide) rfl) [2] rfl))
   | (refine⟨_,s4,a4,n4,c4,rfl,?_⟩;(with_reducible refine(?_:Hid (St w (World.setCell (World.setCell (World.setCell (World.setCell wb _ _) _ _) _ _) _ _) _ _)));exact ζ (St.pick (St.bpick ((AA.out|>.t2 2 rfl)|>.t2 3 rfl) [0,1,2] (by decide) rfl) [2] rfl))
   | (refine⟨_,s4,a4,n4,c4,rfl,?_⟩;(with_reducible refine(?_:Hid (St w (World.setCell (World.setCell (World.setCell (World.setCell wb _ _) _ _) _ _) _ _) _ _)));exact ζ (St.pick (St.bpick ((AA.out|>.t2 3 rfl)|>.t2 2 rfl) [0,1,3] (by decide) rfl) [2] rfl)))
 case rest=>
  obtain ⟨bx,s4,a4,n4,c4,rfl,hD⟩:=hcut;clear hC;have AD:=hD.out.c 1 0;have AE:=hD.out.f 1 0;have AF:=hD.out.c 1 1;have AG:=hD.out.f 1 1;have AH:=hD.out.c 2 0;have AI:=hD.out.f 2 0;have AJ:=hD.out.c 2 1;have AK:=hD.out.f 2 1;go_wp2;refine ret_st (hD.out|>.t2 1 rfl) (v:= .agg #[.int .i64 s4,.slice a4 n4 c4]) (fun hF=>?_) rfl (fun hF=>⟨_,_,_,_,rfl,hF.n 0 rfl,hF.be⟩)
  ·have e0:=hF.c 1 0;have e1:=hF.c 1 1;simp [results,Tryz.results125,go_sem,e0,e1]
section
variable {w:World} {s1:Int} {a1:OA} {n1 c1:Nat} {t1:Int} {d1:OA} {e1 f1:Nat} {q1:Rat} {s2:Int} {a2:OA} {n2 c2:Nat} {t2:Int} {d2:OA} {e2 f2:Nat} {q2:Rat} {k1 k2:Nat}
theorem rfloorN_b (h1:Nq w s1 (.slice a1 n1 c1) t1 (.slice d1 e1 f1) q1) (b1:Bq k1 q1) (hk1:k1<=40000):
  Calls Tryz.prog 125 #[.agg #[.int .i64 s1,.slice a1 n1 c1,.int .i64 t1,.slice d1 e1 f1]] w (RetN w q1.floor):=by
 rw [<-floor_eq];exact rfloorN_any _ _ _ _ _ _ _ _ _ _ h1 k1 b1 hk1
theorem rsubN_b (h1:Nq w s1 (.slice a1 n1 c1) t1 (.slice d1 e1 f1) q1) (h2:Nq w s2 (.slice a2 n2 c2) t2 (.slice d2 e2 f2) q2) (b1:Bq k1 q1) (b2:Bq k2 q2) (hk1:k1<=40000) (hk2:k2<=40000):
  Calls Tryz.prog 103 #[.agg #[.int .i64 s1,.slice a1 n1 c1,.int .i64 t1,.slice d1 e1 f1],.agg #[.int .i64 s2,.slice a2 n2 c2,.int .i64 t2,.slice d2 e2 f2]] w (RetNQ w (q1 - q2)):=by
 rw [Rat.sub_eq_add_neg];exact rsubN_any _ _ _ _ _ _ _ _ _ _ _ _ _ _ _ _ _ _ _ h1 h2 k1 k2 b1 b2 hk1 hk2
theorem sgnN_num (q:Rat):sgnN q.num=sgnQ q:=by
 have h:=sgn_cross q 0;rw [show(0:Rat).den=1 from rfl,show(0:Rat).num=0 from rfl,show(q.num*((1:Nat):Int) - 0*(q.den:Int))=q.num by simp]at h;exact h
theorem rsignN_is {v:Int} (h1:Nq w s1 (.slice a1 n1 c1) t1 (.slice d1 e1 f1) q1) (hv:sgnQ q1=v):Calls Tryz.prog 106 #[.agg #[.int .i64 s1,.slice a1 n1 c1,.int .i64 t1,.slice d1 e1 f1]] w fun e w'=>e= .returned (.int .i64 v)/\Below w.heap.size w w':=by
 subst hv;rw [<-sgnN_num];exact rsignN_any _ _ _ _ _ _ _ _ _ _ h1
theorem rcmpN_is {v:Int} (h1:Nq w s1 (.slice a1 n1 c1) t1 (.slice d1 e1 f1) q1) (h2:Nq w s2 (.slice a2 n2 c2) t2 (.slice d2 e2 f2) q2) (b1:Bq k1 q1) (b2:Bq k2 q2) (hk1:k1<=40000) (hk2:k2<=40000) (hv:cmpQ q1 q2=v):
  Calls Tryz.prog 81 #[.agg #[.int .i64 s1,.slice a1 n1 c1,.int .i64 t1,.slice d1 e1 f1],.agg #[.int .i64 s2,.slice a2 n2 c2,.int .i64 t2,.slice d2 e2 f2]] w fun e w'=>e= .returned (.int .i64 v)/\Below w.heap.size w w':=by
 subst hv;rw [<-sgn_cross];exact rcmpN_any _ _ _ _ _ _ _ _ _ _ _ _ _ _ _ _ _ _ _ h1 h2 k1 k2 b1 b2 hk1 hk2
end
end
end Go.Proofs.YthmdhlopeponcaaGreatDoor
