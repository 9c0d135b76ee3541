/- part -/
import Derived.Test.YtjpojeapdgjbhaaGreatDoorQ14
import Derived.Test.YtjpojeapdgjbhaaGreatDoorQ9
import Derived.Test.YtjpojeapdgjbhaaGreatDoorQ12
set_option maxRecDepth 100000
set_option maxHeartbeats 2000000
namespace Go.Proofs.YtjpojeapdgjbhaaGreatDoor
open Go.RowKit Dig
theorem qParseZ_0 {P_:Prop} (h:P_:=by exact⟨Yx.c 0 0,Yx.c 0 1,trivial⟩):P_:=h
theorem ret_str {a b:ByteArray} (h:a=b):Ending.returned (.string a)= .returned (.string b):=by rw [h]
theorem ba_append (a b:List UInt8):(⟨a.toArray⟩:ByteArray)++⟨b.toArray⟩=⟨(a++b).toArray⟩:=by
 apply ByteArray.ext;simp [ByteArray.data_append]
theorem dec_len_m (m:Nat) {k:Nat} {z:Int} (h:Bd k z) (hk:k<=m):(Dec.dec z.natAbs).length<=m+1:=by
 refine Dec.dec_len (Nat.lt_of_lt_of_le (h.mono hk) (Nat.le_trans (Nat.pow_le_pow_left (show 2<=10 by omega) _) (Nat.pow_le_pow_right (by omega) (by omega))))
theorem dec_len_bd {k:Nat} {z:Int} (h:Bd k z) (hk:k<=1000000):(Dec.dec z.natAbs).length<=1000001:=dec_len_m 1000000 h hk
theorem ztext_len {k:Nat} {z:Int} (h:Bd k z) (hk:k<=1000000):(Dec.ztext z).length<=1000002:=by
 have:=dec_len_bd h hk;unfold Dec.ztext
 split
 ·rw [List.length_cons];omega
 ·omega
theorem ztext_any (a:OA) (n c:Nat) (m:Bool) (z:Int) (w:World) (h:Zd w (.slice a n c) m z) (k:Nat) (hb:Bd k z) (hk:k<=1000000):
  Calls Tryz.prog 79 #[.agg #[.slice a n c,.bool m]] w fun e w'=>e= .returned (.string ⟨(Dec.ztext z).toArray⟩)/\Below w.heap.size w w':=by
 have hC:=ζ (((St.enter w).pz h).al w.heap.size #[.slice a n c,.bool m] 70 rfl rfl);have HL:=ζ (hb.len hk);have hm:=h.m;have hlen:=dec_len_bd hb hk;clear h hb;by_cases hz:z < 0
 ·obtain rfl:m=true:=by rw [hm];simpa using hz
  have HT:=ζ (show Dec.ztext z=45::Dec.dec z.natAbs by unfold Dec.ztext;rw [if_pos hz]);clear hm hz;go_enter Tryz.func79,Tryz.ntmps79;have c0:=hC.out.c 0 0;go_wp2_with fail
  refine(text_any _ _ _ _ _ (hC.out.zd 0 rfl) HL.out).mono ?_;rintro e w1 ⟨rfl,hb⟩;have AE:=ζ (hC.out.call hb);clear hC hb c0;go_wp2;go_ret;exact⟨ret_str (by rw [HT.out];exact ba_append [45] _),AE.out.be⟩
 ·obtain rfl:m=false:=by rw [hm];simpa using hz
  have HT:=ζ (show Dec.ztext z=Dec.dec z.natAbs by unfold Dec.ztext;rw [if_neg hz]);clear hm hz;go_enter Tryz.func79,Tryz.ntmps79;have c0:=hC.out.c 0 0;go_wp2_with fail
  refine(text_any _ _ _ _ _ (hC.out.zd 0 rfl) HL.out).mono ?_;rintro e w1 ⟨rfl,hb⟩;have AE:=ζ (hC.out.call hb);clear hC hb c0;go_wp2;go_ret;exact⟨by rw [HT.out];rfl,AE.out.be⟩
def i64res (z:Int):Int×Bool:=if -9223372036854775808<=z/\z<=9223372036854775807 then(z,true)else(0,false)
theorem sgn_neg {z:Int} (h:z < 0):sgn z= -1:=by unfold sgn;rw [if_neg (by omega),if_pos h]
theorem sgn_nonneg {z:Int} (h:0<=z):0<=sgn z:=by unfold sgn;split;omega;split<;>omega
theorem sgn_pos {z:Int} (h:0 < z):sgn z=1:=by unfold sgn;rw [if_neg (by omega),if_neg (by omega)]
theorem sgn_nonpos {z:Int} (h:z<=0):sgn z<=0:=by unfold sgn;split;omega;split<;>omega
theorem int64_any (a:OA) (n c:Nat) (m:Bool) (z:Int) (w:World) (h:Zd w (.slice a n c) m z) (k:Nat) (hb:Bd k z) (hk:k<=1000000):
  Calls Tryz.prog 22 #[.agg #[.slice a n c,.bool m]] w fun e w'=>e= .returned (.tuple #[.int .i64 (i64res z).1,.bool (i64res z).2])/\Below w.heap.size w w':=by
 have hC:=ζ (((St.enter w).pz h).al w.heap.size #[.slice a n c,.bool m] 70 rfl rfl);have HL:=ζ (Nat.le_trans (hb.len hk) (show 50000<=10000000 by omega));have HLm:=ζ (Nat.le_trans ((Bd.i64 (k:= -9223372036854775808) (by omega)).len (by omega)) (show 50000<=10000000 by omega));have HLx:=ζ (Nat.le_trans ((Bd.i64 (k:=9223372036854775807) (by omega)).len (by omega)) (show 50000<=10000000 by omega));have HM:=ζ h.m;clear h hb;by_cases h1:z < -9223372036854775808
 ·have V1:=ζ (sgn_neg (z:=z - -9223372036854775808) (by omega));have HR:=ζ (show i64res z=(0,false)by unfold i64res;rw [if_neg (by omega)]);clear h1;go_enter Tryz.func22,Tryz.ntmps22;have x0:=hC.out.c 0 0;have x1:=hC.out.c 0 1;go_wp2;go_region_with (first
   | (go_at_call 56;refine(cmp_any _ _ _ _ _ _ _ _ _ _ _ (AA.out.z 0 rfl) (AA.out.z 1 rfl) HL.out HLm.out).mono ?_;rintro e wb ⟨rfl,hb⟩;have AC:=ζ (AA.out.call hb);clear hb;rw [V1.out])
   | (go_at_call 53;refine(int_any (-9223372036854775808) (by omega) _).mono ?_;rintro e wa ⟨ba,ka,la,ma,rfl,hza,hb⟩;have AA:=ζ ((hC.out.drew.call hb).pz hza);clear hza hb;have y0:=AA.out.c 0 0;have y1:=AA.out.c 0 1))
  all_goals
   go_wp2;go_ret2;exact⟨by rw [HR.out];rfl,AC.out.be⟩
 ·obtain ⟨v,hv⟩:∃v:Int,sgn (z - -9223372036854775808)=v:=⟨_,rfl⟩
  have d1:decide (v < 0)=false:=by have:=sgn_nonneg (z:=z - -9223372036854775808) (by omega);simp;omega
  have V1:=ζ hv;clear hv;by_cases h2:9223372036854775807 < z
  ·have V2:=ζ (sgn_pos (z:=z - 9223372036854775807) (by omega));have HR:=ζ (show i64res z=(0,false)by unfold i64res;rw [if_neg (by omega)]);clear h1 h2;go_enter Tryz.func22,Tryz.ntmps22;go_wp2;go_region_held3 (fun w'=>w'.cell? ⟨w.heap.size,0,none⟩=some (.slice a n c)/\w'.cell? ⟨w.heap.size,1,none⟩=some (.bool m)/\True)
    (first
     | (with_reducible refine aG wd ?_;have Yx:=AD.out;exact qParseZ_0)
     | (with_reducible refine aG wc ?_;have Yx:=AB.out;exact qParseZ_0)
     | (with_reducible refine aG wb ?_;have Yx:=AC.out;exact qParseZ_0)
     | (with_reducible refine aG wa ?_;have Yx:=AA.out;exact qParseZ_0)
     | (with_reducible refine aG _ ?_;have Yx:=hC.out.drew;exact qParseZ_0)|fail)
    (first
     | (have _t:=AB;go_at_call 56;refine(cmp_any _ _ _ _ _ _ _ _ _ _ _ (AB.out.z 0 rfl) (AB.out.z 2 rfl) HL.out HLx.out).mono ?_;rintro e wd ⟨rfl,hb⟩;have AD:=ζ (AB.out.call hb);clear hb;rw [V2.out];clear _t AB)
     | (have _t:=AC;go_at_call 53;refine(int_any 9223372036854775807 (by omega) _).mono ?_;rintro e wc ⟨bc,kc,lc,mc,rfl,hzc,hb⟩;have AB:=ζ ((AC.out.call hb).pz hzc);clear hzc hb;clear _t AC)
     | (have _t:=AA;go_at_call 56;refine(cmp_any _ _ _ _ _ _ _ _ _ _ _ (AA.out.z 0 rfl) (AA.out.z 1 rfl) HL.out HLm.out).mono ?_;rintro e wb ⟨rfl,hb⟩;have AC:=ζ (AA.out.call hb);clear hb;rw [V1.out];clear _t AA)
     | (have _t:=hC;go_at_call 53;refine(int_any (-9223372036854775808) (by omega) _).mono ?_;rintro e wa ⟨ba,ka,la,ma,rfl,hza,hb⟩;have AA:=ζ ((hC.out.drew.call hb).pz hza);clear hza hb;clear _t hC))
   go_wp2;go_ret2;exact⟨by rw [HR.out];rfl,AD.out.be⟩
  ·obtain ⟨v2,hv2⟩:∃v:Int,sgn (z - 9223372036854775807)=v:=⟨_,rfl⟩
   have d2:decide (0 < v2)=false:=(by have:=sgn_nonpos (z:=z - 9223372036854775807) (by omega);simp;omega);have V2:=ζ hv2;clear hv2;have HR:=ζ (show i64res z=(z,true)by unfold i64res;rw [if_pos (by omega)]);have HB:=ζ (show z.natAbs < 18446744073709551616 by omega);obtain ⟨u,hu⟩:∃u:Int,IntKind.i64.wrap ((z.natAbs:Nat):Int)=u:=⟨_,rfl⟩
   have HU:=ζ (show if m then IntKind.i64.wrap (-u)=z else u=z by
    have hm:=HM.out;rw [IntKind.wrap_i64]at hu;cases m
    ·have:¬ z < 0:=(by simpa using hm.symm);simp only [Bool.false_eq_true,if_false];omega
    ·have:z < 0:=(by simpa using hm.symm);simp only [if_true];rw [IntKind.wrap_i64];omega)
   clear h1 h2;go_enter Tryz.func22,Tryz.ntmps22;go_wp2;go_region_held3 (fun w'=>w'.cell? ⟨w.heap.size,0,none⟩=some (.slice a n c)/\w'.cell? ⟨w.heap.size,1,none⟩=some (.bool m)/\True)
    (first
     | (with_reducible refine aG wd ?_;have Yx:=AD.out;exact qParseZ_0)
     | (with_reducible refine aG wc ?_;have Yx:=AB.out;exact qParseZ_0)
     | (with_reducible refine aG wb ?_;have Yx:=AC.out;exact qParseZ_0)
     | (with_reducible refine aG wa ?_;have Yx:=AA.out;exact qParseZ_0)
     | (with_reducible refine aG _ ?_;have Yx:=hC.out.drew;exact qParseZ_0)|fail)
    (first
     | (have _t:=AB;go_at_call 56;refine(cmp_any _ _ _ _ _ _ _ _ _ _ _ (AB.out.z 0 rfl) (AB.out.z 2 rfl) HL.out HLx.out).mono ?_;rintro e wd ⟨rfl,hb⟩;have AD:=ζ (AB.out.call hb);clear hb;rw [V2.out];clear _t AB)
     | (have _t:=AC;go_at_call 53;refine(int_any 9223372036854775807 (by omega) _).mono ?_;rintro e wc ⟨bc,kc,lc,mc,rfl,hzc,hb⟩;have AB:=ζ ((AC.out.call hb).pz hzc);clear hzc hb;clear _t AC)
     | (have _t:=AA;go_at_call 56;refine(cmp_any _ _ _ _ _ _ _ _ _ _ _ (AA.out.z 0 rfl) (AA.out.z 1 rfl) HL.out HLm.out).mono ?_;rintro e wb ⟨rfl,hb⟩;have AC:=ζ (AA.out.call hb);clear hb;rw [V1.out];clear _t AA)
     | (have _t:=hC;go_at_call 53;refine(int_any (-9223372036854775808) (by omega) _).mono ?_;rintro e wa ⟨ba,ka,la,ma,rfl,hza,hb⟩;have AA:=ζ ((hC.out.drew.call hb).pz hza);clear hza hb;clear _t hC))
   have x0:=AD.out.c 0 0;have x1:=AD.out.c 0 1;go_wp2_with fail
   refine(dword_any _ _ _ _ _ (AD.out.zd 0 rfl) HB.out).mono ?_;rintro e we ⟨rfl,hb⟩;have AF:=ζ (AD.out.call hb);clear hb x0 x1;have x1:=AF.out.c 0 1;cases m
   ·go_wp2;go_ret2;exact⟨by rw [HR.out];have:=HU.out;simp only [Bool.false_eq_true,if_false]at this;rw [<-this];rfl,AF.out.be⟩
   ·have hu2:IntKind.i64.wrap (-u)=z:=(by have:=HU.out;simpa using this);go_wp2;go_ret2;exact⟨by rw [HR.out];rfl,AF.out.be⟩
theorem qR1_0 {P_:Prop} (h:P_:=by exact⟨Yx.c 0 0,Yx.c 0 1,Yx.c 1 0,trivial⟩):P_:=h
section
variable {w:World} {a1:OA} {n1 c1:Nat} {m1:Bool} {z1:Int} {a2:OA} {n2 c2:Nat} {m2:Bool} {z2:Int} {k1 k2:Nat}
theorem mul_b (h1:Zd w (.slice a1 n1 c1) m1 z1) (h2:Zd w (.slice a2 n2 c2) m2 z2) (b1:Bd k1 z1) (b2:Bd k2 z2) (hk1:k1<=1000000) (hk2:k2<=1000000):
  Calls Tryz.prog 54 #[.agg #[.slice a1 n1 c1,.bool m1],.agg #[.slice a2 n2 c2,.bool m2]] w (RetZ w (z1*z2)):=
 mul_any _ _ _ _ _ _ _ _ _ _ _ h1 h2 (Nat.le_trans (b1.len hk1) (by omega)) (Nat.le_trans (b2.len hk2) (by omega))
theorem add_b (h1:Zd w (.slice a1 n1 c1) m1 z1) (h2:Zd w (.slice a2 n2 c2) m2 z2) (b1:Bd k1 z1) (b2:Bd k2 z2) (hk1:k1<=1000000) (hk2:k2<=1000000):
  Calls Tryz.prog 144 #[.agg #[.slice a1 n1 c1,.bool m1],.agg #[.slice a2 n2 c2,.bool m2]] w (RetZ w (z1+z2)):=
 add_any _ _ _ _ _ _ _ _ _ _ _ h1 h2 (Nat.le_trans (b1.len hk1) (by omega)) (Nat.le_trans (b2.len hk2) (by omega))
theorem cmp_b (h1:Zd w (.slice a1 n1 c1) m1 z1) (h2:Zd w (.slice a2 n2 c2) m2 z2) (b1:Bd k1 z1) (b2:Bd k2 z2) (hk1:k1<=1000000) (hk2:k2<=1000000):
  Calls Tryz.prog 56 #[.agg #[.slice a1 n1 c1,.bool m1],.agg #[.slice a2 n2 c2,.bool m2]] w fun e w'=>e= .returned (.int .i64 (sgn (z1 - z2)))/\Below w.heap.size w w':=
 cmp_any _ _ _ _ _ _ _ _ _ _ _ h1 h2 (Nat.le_trans (b1.len hk1) (by omega)) (Nat.le_trans (b2.len hk2) (by omega))
theorem gcd_b (h1:Zd w (.slice a1 n1 c1) m1 z1) (h2:Zd w (.slice a2 n2 c2) m2 z2) (b1:Bd k1 z1) (b2:Bd k2 z2) (hk1:k1<=1000000) (hk2:k2<=1000000):
  Calls Tryz.prog 172 #[.agg #[.slice a1 n1 c1,.bool m1],.agg #[.slice a2 n2 c2,.bool m2]] w (RetZ w (Int.gcd z1 z2)):=
 gcd_any _ _ _ _ _ _ _ _ _ _ _ h1 h2 (Nat.le_trans (b1.len hk1) (by omega)) (Nat.le_trans (b2.len hk2) (by omega))
theorem quo_b (h1:Zd w (.slice a1 n1 c1) m1 z1) (h2:Zd w (.slice a2 n2 c2) m2 z2) (hz:z2≠0) (b1:Bd k1 z1) (b2:Bd k2 z2) (hk1:k1<=1000000) (hk2:k2<=1000000):
  Calls Tryz.prog 116 #[.agg #[.slice a1 n1 c1,.bool m1],.agg #[.slice a2 n2 c2,.bool m2]] w (RetQ w (z1 / z2) (z1 % z2) 0):=
 quotient_nz _ _ _ _ _ _ _ _ _ _ _ h1 h2 hz (Nat.le_trans (b1.len hk1) (by omega)) (Nat.le_trans (b2.len hk2) (by omega))
theorem neg_b (h1:Zd w (.slice a1 n1 c1) m1 z1):Calls Tryz.prog 61 #[.agg #[.slice a1 n1 c1,.bool m1]] w (RetZ w (-z1)):=neg_any _ _ _ _ _ _ h1
theorem sign_b (h1:Zd w (.slice a1 n1 c1) m1 z1):Calls Tryz.prog 113 #[.agg #[.slice a1 n1 c1,.bool m1]] w fun e w'=>e= .returned (.int .i64 (sgn z1))/\Below w.heap.size w w':=sign_any _ _ _ _ _ _ h1
end
theorem ratio_any (a1:OA) (n1 c1:Nat) (m1:Bool) (z1:Int) (a2:OA) (n2 c2:Nat) (m2:Bool) (z2:Int) (w:World) (h1:Zd w (.slice a1 n1 c1) m1 z1) (h2:Zd w (.slice a2 n2 c2) m2 z2) (k1 k2:Nat) (b1:Bd k1 z1) (b2:Bd k2 z2) (hk1:k1<=200000) (hk2:k2<=200000) (hz:z2≠0):
  Calls Tryz.prog 143 #[.agg #[.slice a1 n1 c1,.bool m1],.agg #[.slice a2 n2 c2,.bool m2]] w (RetR w (Rat.divInt z1 z2)):=by
 obtain ⟨g,hg⟩:∃g:Int,g=(if z2 < 0 then -(Int.gcd z1 z2:Int)else(Int.gcd z1 z2:Int)):=⟨_,rfl⟩
 have hp:=ratio_parts z1 z2 hz;rw [<-hg]at hp;have HP:=ζ hp;have HG:=ζ hg;have hg0:g≠0:=by have:=gcd_pos' z1 hz;rw [hg];split<;>omega
 have An:=ζ hg0;have BG:=ζ (show Bd (k1+k2) g by rw [hg];split;exact(b1.gcd b2).neg;exact b1.gcd b2);have B1:=ζ b1;have B2:=ζ b2;have HM:=ζ h2.m;have HLd:=ζ (show(dg 16777216 (Rat.divInt z1 z2).den).length<=10000000 by
  have:=((b2.of_le (y:=((Rat.divInt z1 z2).den:Int)) (by rw [Int.natAbs_natCast];exact divInt_den_le z1 hz)).len (by omega))
  rw [Int.natAbs_natCast]at this;omega)
 have Ap:=ζ (show((((Rat.divInt z1 z2).den:Nat):Int)+ -1*((1:Nat):Int)).toNat=(Rat.divInt z1 z2).den - 1 by have:=(Rat.divInt z1 z2).den_nz;omega);clear hp hg hg0 b1 b2 hz;have hC:=ζ ((((((St.enter w).pz h1).pz h2).al (w.heap.size) #[.slice a1 n1 c1,.bool m1] 70 rfl rfl).al (w.heap.size+1) #[.slice a2 n2 c2,.bool m2] 70 (by simp) rfl).al (w.heap.size+2) zR 72 (by simp) rfl);clear h1 h2;go_enter Tryz.func143,Tryz.ntmps143;go_wp2_with fail
 refine(gcd_b (hC.out.z 0 rfl) (hC.out.z 1 rfl) B1.out B2.out (by omega) (by omega)).mono ?_;rintro e w3 ⟨a3,n3,c3,m3,rfl,hz,hb⟩;have AC:=ζ (((hC.out.call hb).pz hz).al w3.heap.size #[.slice a3 n3 c3,.bool m3] 70 rfl rfl);clear hb hz hC;cases m2
 ·have A2:=AC.out.c 0 0;have A3:=AC.out.f 0 0;have A4:=AC.out.c 0 1;have A5:=AC.out.f 0 1;have A6:=AC.out.c 1 1;have A7:=AC.out.f 1 1;have A8:=AC.out.c 3 0;have A9:=AC.out.f 3 0;have Ab:=AC.out.c 3 1;have Ac:=AC.out.f 3 1;have o03:=AC.out.apart 0 3 rfl rfl (by omega);have o13:=AC.out.apart 1 3 rfl rfl (by omega);have Am:=ζ (show((Int.gcd z1 z2:Nat):Int)=g by rw [HG.out];have:=HM.out;simp at this;rw [if_neg (by omega)]);go_wp2_with fail
  refine(quo_b (AC.out.z 0 rfl) (Am.out ▸ AC.out.z 2 rfl) An.out B1.out BG.out (by omega) (by omega)).mono ?_;rintro e w5 ⟨a5,n5,c5,m5,_,_,_,_,rfl,hz,_,hb⟩;have AB:=ζ ((AC.out.call hb).pz hz);clear hz hb AC A2 A4 A6 A8 Ab A3 A5 A7 A9 Ac;have AD:=AB.out.c 0 0;have AE:=AB.out.f 0 0;have AF:=AB.out.c 0 1;have AG:=AB.out.f 0 1;have AH:=AB.out.c 1 0;have AI:=AB.out.f 1 0;have AJ:=AB.out.c 1 1;have AK:=AB.out.f 1 1;have AL:=AB.out.c 3 0;have AM:=AB.out.f 3 0;have AN:=AB.out.c 3 1;have AO:=AB.out.f 3 1;go_wp2_with fail
  refine(quo_b ((AB.out|>.t2 0 rfl).z 1 rfl) (Am.out ▸ (AB.out|>.t2 0 rfl).z 2 rfl) An.out B2.out BG.out (by omega) (by omega)).mono ?_;rintro e w6 ⟨a6,n6,c6,m6,_,_,_,_,rfl,hz,_,hb⟩;have AU:=ζ (((AB.out|>.t2 0 rfl).call hb).pz hz);clear hz hb AB AD AF AH AJ AL AN AE AG AI AK AM AO;have AP:=AU.out.c 1 0;have AQ:=AU.out.f 1 0;have AR:=AU.out.c 1 1;have AS:=AU.out.f 1 1;go_wp2_with fail
  refine gen_app (AU.out|>.t2 1 rfl) ?_;intro W7 hc7;have Ad:=ζ hc7;clear hc7 AU AP AR AQ AS;have HN:=ζ (show Zd W7 (.slice a5 n5 c5) m5 (Rat.divInt z1 z2).num by have:=Ad.out.z 3 rfl;rwa [HP.out.1]at this);have HDn:=ζ (show Dg W7 (.slice a6 n6 c6) (Rat.divInt z1 z2).den by have:=(Ad.out.z 4 rfl).d;rwa [HP.out.2,Int.natAbs_natCast]at this);have AV:=ζ ((Ad.out.pz HN.out).pd HDn.out);clear Ad HN HDn;go_region_held3 (fun w'=>w'.cell? ⟨w.heap.size,0,none⟩=some (.slice a5 n5 c5)/\w'.cell? ⟨w.heap.size,1,none⟩=some (.bool m5)/\w'.cell? ⟨w.heap.size+1,0,none⟩=some (.slice a6 n6 c6)/\True)
   (first
    | (with_reducible refine aG (World.setCell (World.setCell (World.setCell w10 _ _) _ _) _ _) ?_;refine aH (AA.out|>.t3 2 rfl) (fun Yx=>?_);exact qR1_0)
    | (with_reducible refine aG w10 ?_;have Yx:=AA.out;exact qR1_0)
    | (with_reducible refine aG w9 ?_;have Yx:=AT.out;exact qR1_0)
    | (with_reducible refine aG _ ?_;have Yx:=AV.out.drew;exact qR1_0)|fail)
   (first
    | (have _t:=AT;go_at_call 111;refine(plus_any _ _ _ _ _ _ (-1) _ 1 _ (AT.out.d 6 rfl) (AT.out.d 7 rfl) (.inr rfl) (by have:=(Rat.divInt z1 z2).den_nz;omega) HLd.out (dg_len_le (by omega) (by omega))).mono ?_;rintro e w10 ⟨a10,n10,c10,rfl,hz,hb⟩;have AA:=ζ ((AT.out.call hb).pd hz);clear hz hb;have AW:=AA.out.c 2 0;have AX:=AA.out.f 2 0;have AY:=AA.out.c 2 1;have AZ:=AA.out.f 2 1;have A0:=AA.out.c 2 2;have A1:=AA.out.f 2 2;clear _t AT)
    | (have _t:=AV;go_at_call 109;refine(word_any 1 _ (by omega)).mono ?_;rintro e w9 ⟨a9,n9,c9,rfl,hz,hb⟩;have AT:=ζ ((AV.out.drew.call hb).pd hz);clear hz hb;clear _t AV)
    | fail)
  go_wp2;refine ret_st (AA.out|>.t3 2 rfl) (v:= .agg #[.slice a5 n5 c5,.bool m5,.slice a10 n10 c10]) (fun hF=>?_) rfl (fun hF=>⟨_,_,_,_,_,_,_,rfl,⟨hF.z 5 rfl,?_⟩,hF.be⟩)
  ·have e0:=hF.c 2 0;have e1:=hF.c 2 1;have e2:=hF.c 2 2;simp [results,Tryz.results143,go_sem,e0,e1,e2]
  ·have:=hF.d 8 rfl;rwa [Ap.out]at this
 ·have y30:=AC.out.c 3 0;have y31:=AC.out.c 3 1;have y11:=AC.out.c 1 1;go_wp2_with fail
  refine(neg_b (AC.out.z 2 rfl)).mono ?_;rintro e w4 ⟨a4,n4,c4,m4,rfl,hz,hb⟩;have Al:=ζ ((AC.out.call hb).pz hz);clear hb hz AC;have Af:=Al.out.c 3 0;have Ag:=Al.out.f 3 0;have Aj:=Al.out.c 3 1;have Ak:=Al.out.f 3 1;go_upto_region 4 with fail
  refine wp_gen (Al.out|>.t2 3 rfl) ?_;intro W4 hc4;have hC4b:=ζ hc4;clear hc4 Al y30 y31 y11 Af Aj Ag Ak;have hC4b_c00:=hC4b.out.c 0 0;have hC4b_f00:=hC4b.out.f 0 0;have hC4b_c01:=hC4b.out.c 0 1;have hC4b_f01:=hC4b.out.f 0 1;have hC4b_c11:=hC4b.out.c 1 1;have hC4b_f11:=hC4b.out.f 1 1;have hC4b_c30:=hC4b.out.c 3 0;have hC4b_f30:=hC4b.out.f 3 0;have hC4b_c31:=hC4b.out.c 3 1;have hC4b_f31:=hC4b.out.f 3 1;have o03:=hC4b.out.apart 0 3 rfl rfl (by omega);have o13:=hC4b.out.apart 1 3 rfl rfl (by omega);have Am:=ζ (show(-((Int.gcd z1 z2:Nat):Int))=g by rw [HG.out];have:=HM.out;simp at this;rw [if_pos (by omega)]);go_wp2_with fail
  refine(quo_b (hC4b.out.z 0 rfl) (Am.out ▸ hC4b.out.z 3 rfl) An.out B1.out BG.out (by omega) (by omega)).mono ?_;rintro e w5 ⟨a5,n5,c5,m5,_,_,_,_,rfl,hz,_,hb⟩;have AB:=ζ ((hC4b.out.call hb).pz hz);clear hz hb hC4b hC4b_c00 hC4b_c01 hC4b_c11 hC4b_c30 hC4b_c31 hC4b_f00 hC4b_f01 hC4b_f11 hC4b_f30 hC4b_f31;have AD:=AB.out.c 0 0;have AE:=AB.out.f 0 0;have AF:=AB.out.c 0 1;have AG:=AB.out.f 0 1;have AH:=AB.out.c 1 0;have AI:=AB.out.f 1 0;have AJ:=AB.out.c 1 1;have AK:=AB.out.f 1 1;have AL:=AB.out.c 3 0;have AM:=AB.out.f 3 0;have AN:=AB.out.c 3 1;have AO:=AB.out.f 3 1;go_wp2_with fail
  refine(quo_b ((AB.out|>.t2 0 rfl).z 1 rfl) (Am.out ▸ (AB.out|>.t2 0 rfl).z 3 rfl) An.out B2.out BG.out (by omega) (by omega)).mono ?_;rintro e w6 ⟨a6,n6,c6,m6,_,_,_,_,rfl,hz,_,hb⟩;have AU:=ζ (((AB.out|>.t2 0 rfl).call hb).pz hz);clear hz hb AB AD AF AH AJ AL AN AE AG AI AK AM AO;have AP:=AU.out.c 1 0;have AQ:=AU.out.f 1 0;have AR:=AU.out.c 1 1;have AS:=AU.out.f 1 1;go_wp2_with fail
  refine gen_app (AU.out|>.t2 1 rfl) ?_;intro W7 hc7;have Ad:=ζ hc7;clear hc7 AU AP AR AQ AS;have HN:=ζ (show Zd W7 (.slice a5 n5 c5) m5 (Rat.divInt z1 z2).num by have:=Ad.out.z 4 rfl;rwa [HP.out.1]at this);have HDn:=ζ (show Dg W7 (.slice a6 n6 c6) (Rat.divInt z1 z2).den by have:=(Ad.out.z 5 rfl).d;rwa [HP.out.2,Int.natAbs_natCast]at this);have AV:=ζ ((Ad.out.pz HN.out).pd HDn.out);clear Ad HN HDn;go_region_held3 (fun w'=>w'.cell? ⟨w.heap.size,0,none⟩=some (.slice a5 n5 c5)/\w'.cell? ⟨w.heap.size,1,none⟩=some (.bool m5)/\w'.cell? ⟨w.heap.size+1,0,none⟩=some (.slice a6 n6 c6)/\True)
   (first
    | (with_reducible refine aG (World.setCell (World.setCell (World.setCell w10 _ _) _ _) _ _) ?_;refine aH (AA.out|>.t3 2 rfl) (fun Yx=>?_);exact qR1_0)
    | (with_reducible refine aG w10 ?_;have Yx:=AA.out;exact qR1_0)
    | (with_reducible refine aG w9 ?_;have Yx:=AT.out;exact qR1_0)
    | (with_reducible refine aG _ ?_;have Yx:=AV.out.drew;exact qR1_0)|fail)
   (first
    | (have _t:=AT;go_at_call 111;refine(plus_any _ _ _ _ _ _ (-1) _ 1 _ (AT.out.d 7 rfl) (AT.out.d 8 rfl) (.inr rfl) (by have:=(Rat.divInt z1 z2).den_nz;omega) HLd.out (dg_len_le (by omega) (by omega))).mono ?_;rintro e w10 ⟨a10,n10,c10,rfl,hz,hb⟩;have AA:=ζ ((AT.out.call hb).pd hz);clear hz hb;have AW:=AA.out.c 2 0;have AX:=AA.out.f 2 0;have AY:=AA.out.c 2 1;have AZ:=AA.out.f 2 1;have A0:=AA.out.c 2 2;have A1:=AA.out.f 2 2;clear _t AT)
    | (have _t:=AV;go_at_call 109;refine(word_any 1 _ (by omega)).mono ?_;rintro e w9 ⟨a9,n9,c9,rfl,hz,hb⟩;have AT:=ζ ((AV.out.drew.call hb).pd hz);clear hz hb;clear _t AV)
    | fail)
  go_wp2;refine ret_st (AA.out|>.t3 2 rfl) (v:= .agg #[.slice a5 n5 c5,.bool m5,.slice a10 n10 c10]) (fun hF=>?_) rfl (fun hF=>⟨_,_,_,_,_,_,_,rfl,⟨hF.z 6 rfl,?_⟩,hF.be⟩)
  ·have e0:=hF.c 2 0;have e1:=hF.c 2 1;have e2:=hF.c 2 2;simp [results,Tryz.results143,go_sem,e0,e1,e2]
  ·have:=hF.d 9 rfl;rwa [Ap.out]at this
theorem qR2_0 {P_:Prop} (h:P_:=by exact⟨Yx.c 0 0,Yx.c 0 1,Yx.c 0 2,trivial⟩):P_:=h
theorem qR2_1 {P_:Prop} (h:P_:=by exact⟨Yx.c 0 0,Yx.c 0 1,Yx.c 0 2,Yx.c 1 0,Yx.c 1 1,Yx.c 1 2,trivial⟩):P_:=h
section
variable {w:World} {a1:OA} {n1 c1:Nat} {m1:Bool} {z1:Int} {a2:OA} {n2 c2:Nat} {m2:Bool} {z2:Int} {k1 k2:Nat}
theorem ratio_b (h1:Zd w (.slice a1 n1 c1) m1 z1) (h2:Zd w (.slice a2 n2 c2) m2 z2) (b1:Bd k1 z1) (b2:Bd k2 z2) (hk1:k1<=200000) (hk2:k2<=200000) (hz:z2≠0):
  Calls Tryz.prog 143 #[.agg #[.slice a1 n1 c1,.bool m1],.agg #[.slice a2 n2 c2,.bool m2]] w (RetR w (Rat.divInt z1 z2)):=
 ratio_any _ _ _ _ _ _ _ _ _ _ _ h1 h2 k1 k2 b1 b2 hk1 hk2 hz
variable {d1:OA} {e1 f1:Nat} {q1:Rat}
theorem bottom_b (h1:Rd w (.slice a1 n1 c1) m1 (.slice d1 e1 f1) q1) (b1:Bq k1 q1) (hk1:k1<=1000000):
  Calls Tryz.prog 55 #[.agg #[.slice a1 n1 c1,.bool m1,.slice d1 e1 f1]] w (RetZ w q1.den):=bottom_any _ _ _ _ _ _ _ _ _ h1 k1 b1 hk1
end
theorem Dg.nil {w:World} :Dg w (.slice none 0 0) 0:=by unfold Dg;rw [dg_zero];exact Sl.nil
theorem Rd.nil {w:World} :Rd w (.slice none 0 0) false (.slice none 0 0) 0:=⟨Zd.nil,Dg.nil⟩
theorem whole_any (a1:OA) (n1 c1:Nat) (m1:Bool) (z1:Int) (w:World) (h1:Zd w (.slice a1 n1 c1) m1 z1):
  Calls Tryz.prog 52 #[.agg #[.slice a1 n1 c1,.bool m1]] w (RetR w (z1:Rat)):=by
 have hC:=ζ ((((St.enter w).pz h1).al (w.heap.size) #[.slice a1 n1 c1,.bool m1] 70 rfl rfl).al (w.heap.size+1) #[.slice a1 n1 c1,.bool m1,.slice none 0 0] 72 (by simp) rfl);clear h1;go_enter Tryz.func52,Tryz.ntmps52;go_wp2;refine ret_st hC.out (v:= .agg #[.slice a1 n1 c1,.bool m1,.slice none 0 0]) (fun hF=>?_) rfl (fun hF=>⟨_,_,_,_,_,_,_,rfl,⟨by rw [Rat.num_intCast];exact hF.z 0 rfl,by rw [Rat.den_intCast];exact Dg.nil⟩,hF.be⟩)
 ·have e0:=hF.c 1 0;have e1:=hF.c 1 1;have e2:=hF.c 1 2;simp [results,Tryz.results52,go_sem,e0,e1,e2]
theorem rneg_any (a1:OA) (n1 c1:Nat) (m1:Bool) (d1:OA) (e1 f1:Nat) (q1:Rat) (w:World) (h1:Rd w (.slice a1 n1 c1) m1 (.slice d1 e1 f1) q1):
  Calls Tryz.prog 59 #[.agg #[.slice a1 n1 c1,.bool m1,.slice d1 e1 f1]] w (RetR w (-q1)):=by
 have hC:=ζ ((((St.enter w).pr h1).al (w.heap.size) #[.slice a1 n1 c1,.bool m1,.slice d1 e1 f1] 72 rfl rfl).al (w.heap.size+1) zR 72 (by simp) rfl);clear h1;go_enter Tryz.func59,Tryz.ntmps59;go_wp2;go_region_held3 (fun w'=>w'.cell? ⟨w.heap.size,0,none⟩=some (.slice a1 n1 c1)/\w'.cell? ⟨w.heap.size,1,none⟩=some (.bool m1)/\w'.cell? ⟨w.heap.size,2,none⟩=some (.slice d1 e1 f1)/\True)
  (first
   | (with_reducible refine aG (World.setCell (World.setCell (World.setCell w3 _ _) _ _) _ _) ?_;refine aH (AA.out|>.t3 1 rfl) (fun Yx=>?_);exact qR2_0)
   | (with_reducible refine aG w3 ?_;have Yx:=AA.out;exact qR2_0)
   | (with_reducible refine aG _ ?_;have Yx:=hC.out.drew;exact qR2_0)|fail)
  (first
   | (have _t:=hC;go_at_call 61;refine(neg_b (hC.out.drew.r 0 rfl).z).mono ?_;rintro e w3 ⟨a3,n3,c3,m3,rfl,hz,hb⟩;have AA:=ζ ((hC.out.drew.call hb).pz hz);clear hb hz;have AF:=AA.out.c 1 0;have AG:=AA.out.f 1 0;have AH:=AA.out.c 1 1;have AI:=AA.out.f 1 1;have AJ:=AA.out.c 1 2;have AK:=AA.out.f 1 2;clear _t hC)
   | fail)
 go_wp2;refine ret_st (AA.out|>.t3 1 rfl) (v:= .agg #[.slice a3 n3 c3,.bool m3,.slice d1 e1 f1]) (fun hF=>?_) rfl (fun hF=>⟨_,_,_,_,_,_,_,rfl,⟨by rw [Rat.neg_num];exact hF.z 1 rfl,by rw [Rat.neg_den];exact(hF.r 0 rfl).d⟩,hF.be⟩)
 ·have e0:=hF.c 1 0;have e1:=hF.c 1 1;have e2:=hF.c 1 2;simp [results,Tryz.results59,go_sem,e0,e1,e2]
theorem rmul_any (a1:OA) (n1 c1:Nat) (m1:Bool) (d1:OA) (e1 f1:Nat) (q1:Rat) (a2:OA) (n2 c2:Nat) (m2:Bool) (d2:OA) (e2 f2:Nat) (q2:Rat) (w:World) (h1:Rd w (.slice a1 n1 c1) m1 (.slice d1 e1 f1) q1) (h2:Rd w (.slice a2 n2 c2) m2 (.slice d2 e2 f2) q2) (k1 k2:Nat) (b1:Bq k1 q1) (b2:Bq k2 q2) (hk1:k1<=40000) (hk2:k2<=40000):
  Calls Tryz.prog 101 #[.agg #[.slice a1 n1 c1,.bool m1,.slice d1 e1 f1],.agg #[.slice a2 n2 c2,.bool m2,.slice d2 e2 f2]] w (RetR w (Rat.divInt (q1.num*q2.num) (q1.den*q2.den))):=by
 have B1:=ζ b1;have B2:=ζ b2;clear b1 b2;have hC:=ζ ((((((St.enter w).pr h1).pr h2).al (w.heap.size) #[.slice a1 n1 c1,.bool m1,.slice d1 e1 f1] 72 rfl rfl).al (w.heap.size+1) #[.slice a2 n2 c2,.bool m2,.slice d2 e2 f2] 72 (by simp) rfl).al (w.heap.size+2) zR 72 (by simp) rfl);clear h1 h2;go_enter Tryz.func101,Tryz.ntmps101;go_wp2;go_region_held3 (fun w'=>w'.cell? ⟨w.heap.size,0,none⟩=some (.slice a1 n1 c1)/\w'.cell? ⟨w.heap.size,1,none⟩=some (.bool m1)/\w'.cell? ⟨w.heap.size,2,none⟩=some (.slice d1 e1 f1)/\w'.cell? ⟨w.heap.size+1,0,none⟩=some (.slice a2 n2 c2)/\w'.cell? ⟨w.heap.size+1,1,none⟩=some (.bool m2)/\w'.cell? ⟨w.heap.size+1,2,none⟩=some (.slice d2 e2 f2)/\True)
  (first
   | (with_reducible refine aG (World.setCell (World.setCell (World.setCell w7 _ _) _ _) _ _) ?_;refine aH (AB.out|>.t3 2 rfl) (fun Yx=>?_);exact qR2_1)
   | (with_reducible refine aG w7 ?_;have Yx:=AB.out;exact qR2_1)
   | (with_reducible refine aG w6 ?_;have Yx:=AC.out;exact qR2_1)
   | (with_reducible refine aG w5 ?_;have Yx:=AD.out;exact qR2_1)
   | (with_reducible refine aG w4 ?_;have Yx:=AE.out;exact qR2_1)
   | (with_reducible refine aG w3 ?_;have Yx:=AA.out;exact qR2_1)
   | (with_reducible refine aG _ ?_;have Yx:=hC.out.drew;exact qR2_1)|fail)
  (first
   | (have _t:=AC;go_at_call 143;refine(ratio_b (AC.out.z 2 rfl) (AC.out.z 5 rfl) (B1.out.num.mul B2.out.num) (B1.out.den.mul B2.out.den) (by omega) (by omega) (Int.mul_ne_zero (den_ne q1) (den_ne q2))).mono ?_;rintro e w7 ⟨a7,n7,c7,m7,d7,e7,f7,rfl,hz,hb⟩;have AB:=ζ ((AC.out.call hb).pr hz);clear hb hz;have AL:=AB.out.c 2 0;have AM:=AB.out.f 2 0;have AN:=AB.out.c 2 1;have AO:=AB.out.f 2 1;have AP:=AB.out.c 2 2;have AQ:=AB.out.f 2 2;clear _t AC)
   | (have _t:=AD;go_at_call 54;refine(mul_b (AD.out.z 3 rfl) (AD.out.z 4 rfl) B1.out.den B2.out.den (by omega) (by omega)).mono ?_;rintro e w6 ⟨a6,n6,c6,m6,rfl,hz,hb⟩;have AC:=ζ ((AD.out.call hb).pz hz);clear hb hz;clear _t AD)
   | (have _t:=AE;go_at_call 55;refine(bottom_b (AE.out.r 1 rfl) B2.out (by omega)).mono ?_;rintro e w5 ⟨a5,n5,c5,m5,rfl,hz,hb⟩;have AD:=ζ ((AE.out.call hb).pz hz);clear hb hz;clear _t AE)
   | (have _t:=AA;go_at_call 55;refine(bottom_b (AA.out.r 0 rfl) B1.out (by omega)).mono ?_;rintro e w4 ⟨a4,n4,c4,m4,rfl,hz,hb⟩;have AE:=ζ ((AA.out.call hb).pz hz);clear hb hz;clear _t AA)
   | (have _t:=hC;go_at_call 54;refine(mul_b (hC.out.drew.r 0 rfl).z (hC.out.drew.r 1 rfl).z B1.out.num B2.out.num (by omega) (by omega)).mono ?_;rintro e w3 ⟨a3,n3,c3,m3,rfl,hz,hb⟩;have AA:=ζ ((hC.out.drew.call hb).pz hz);clear hb hz;clear _t hC)
   | fail)
 go_wp2;refine ret_st (AB.out|>.t3 2 rfl) (v:= .agg #[.slice a7 n7 c7,.bool m7,.slice d7 e7 f7]) (fun hF=>?_) rfl (fun hF=>⟨_,_,_,_,_,_,_,rfl,hF.r 6 rfl,hF.be⟩)
 ·have e0:=hF.c 2 0;have e1:=hF.c 2 1;have e2:=hF.c 2 2;simp [results,Tryz.results101,go_sem,e0,e1,e2]
theorem rsign_any (a1:OA) (n1 c1:Nat) (m1:Bool) (d1:OA) (e1 f1:Nat) (q1:Rat) (w:World) (h1:Rd w (.slice a1 n1 c1) m1 (.slice d1 e1 f1) q1):
  Calls Tryz.prog 161 #[.agg #[.slice a1 n1 c1,.bool m1,.slice d1 e1 f1]] w (fun e w'=>e= .returned (.int .i64 (sgnQ q1))/\Below w.heap.size w w'):=by
 have hC:=ζ (((St.enter w).pr h1).al (w.heap.size) #[.slice a1 n1 c1,.bool m1,.slice d1 e1 f1] 72 rfl rfl);clear h1;go_enter Tryz.func161,Tryz.ntmps161;have AR:=hC.out.c 0 0;have AS:=hC.out.f 0 0;have AT:=hC.out.c 0 1;have AU:=hC.out.f 0 1;go_wp2_with fail
 refine(sign_b (hC.out.r 0 rfl).z).mono ?_;rintro e w3 ⟨rfl,hb⟩;have AA:=ζ ((hC.out.call hb));clear hb;clear hC;go_wp2;go_ret;exact⟨by rw [<-sgn_num];rfl,AA.out.be⟩
theorem rcmp_any (a1:OA) (n1 c1:Nat) (m1:Bool) (d1:OA) (e1 f1:Nat) (q1:Rat) (a2:OA) (n2 c2:Nat) (m2:Bool) (d2:OA) (e2 f2:Nat) (q2:Rat) (w:World) (h1:Rd w (.slice a1 n1 c1) m1 (.slice d1 e1 f1) q1) (h2:Rd w (.slice a2 n2 c2) m2 (.slice d2 e2 f2) q2) (k1 k2:Nat) (b1:Bq k1 q1) (b2:Bq k2 q2) (hk1:k1<=40000) (hk2:k2<=40000):
  Calls Tryz.prog 19 #[.agg #[.slice a1 n1 c1,.bool m1,.slice d1 e1 f1],.agg #[.slice a2 n2 c2,.bool m2,.slice d2 e2 f2]] w (fun e w'=>e= .returned (.int .i64 (cmpQ q1 q2))/\Below w.heap.size w w'):=by
 have B1:=ζ b1;have B2:=ζ b2;clear b1 b2;have hC:=ζ (((((St.enter w).pr h1).pr h2).al (w.heap.size) #[.slice a1 n1 c1,.bool m1,.slice d1 e1 f1] 72 rfl rfl).al (w.heap.size+1) #[.slice a2 n2 c2,.bool m2,.slice d2 e2 f2] 72 (by simp) rfl);clear h1 h2;go_enter Tryz.func19,Tryz.ntmps19;go_wp2;go_region_held3 (fun w'=>w'.cell? ⟨w.heap.size,0,none⟩=some (.slice a1 n1 c1)/\w'.cell? ⟨w.heap.size,1,none⟩=some (.bool m1)/\w'.cell? ⟨w.heap.size,2,none⟩=some (.slice d1 e1 f1)/\w'.cell? ⟨w.heap.size+1,0,none⟩=some (.slice a2 n2 c2)/\w'.cell? ⟨w.heap.size+1,1,none⟩=some (.bool m2)/\w'.cell? ⟨w.heap.size+1,2,none⟩=some (.slice d2 e2 f2)/\True)
  (first
   | (with_reducible refine aG w7 ?_;have Yx:=AB.out;exact qR2_1)
   | (with_reducible refine aG w6 ?_;have Yx:=AC.out;exact qR2_1)
   | (with_reducible refine aG w5 ?_;have Yx:=AD.out;exact qR2_1)
   | (with_reducible refine aG w4 ?_;have Yx:=AE.out;exact qR2_1)
   | (with_reducible refine aG w3 ?_;have Yx:=AA.out;exact qR2_1)
   | (with_reducible refine aG _ ?_;have Yx:=hC.out.drew;exact qR2_1)|fail)
  (first
   | (have _t:=AC;go_at_call 56;refine(cmp_b (AC.out.z 3 rfl) (AC.out.z 5 rfl) (B1.out.num.mul B2.out.den) (B2.out.num.mul B1.out.den) (by omega) (by omega)).mono ?_;rintro e w7 ⟨rfl,hb⟩;have AB:=ζ ((AC.out.call hb));clear hb;clear _t AC)
   | (have _t:=AD;go_at_call 54;refine(mul_b (AD.out.r 1 rfl).z (AD.out.z 4 rfl) B2.out.num B1.out.den (by omega) (by omega)).mono ?_;rintro e w6 ⟨a6,n6,c6,m6,rfl,hz,hb⟩;have AC:=ζ ((AD.out.call hb).pz hz);clear hb hz;clear _t AD)
   | (have _t:=AE;go_at_call 55;refine(bottom_b (AE.out.r 0 rfl) B1.out (by omega)).mono ?_;rintro e w5 ⟨a5,n5,c5,m5,rfl,hz,hb⟩;have AD:=ζ ((AE.out.call hb).pz hz);clear hb hz;clear _t AE)
   | (have _t:=AA;go_at_call 54;refine(mul_b (AA.out.r 0 rfl).z (AA.out.z 2 rfl) B1.out.num B2.out.den (by omega) (by omega)).mono ?_;rintro e w4 ⟨a4,n4,c4,m4,rfl,hz,hb⟩;have AE:=ζ ((AA.out.call hb).pz hz);clear hb hz;clear _t AA)
   | (have _t:=hC;go_at_call 55;refine(bottom_b (hC.out.drew.r 1 rfl) B2.out (by omega)).mono ?_;rintro e w3 ⟨a3,n3,c3,m3,rfl,hz,hb⟩;have AA:=ζ ((hC.out.drew.call hb).pz hz);clear hb hz;clear _t hC)
   | fail)
 go_wp2;go_ret;exact⟨by rw [<-sgn_cross];rfl,AB.out.be⟩
theorem qR3_0 {P_:Prop} (h:P_:=by exact⟨Yx.c 0 0,Yx.c 0 1,Yx.c 0 2,Yx.c 1 0,Yx.c 1 1,Yx.c 1 2,trivial⟩):P_:=h
theorem ofz_zero (a1:OA) (n1 c1:Nat) (m1:Bool) (z1:Int) (a2:OA) (n2 c2:Nat) (m2:Bool) (z2:Int) (w:World) (h1:Zd w (.slice a1 n1 c1) m1 z1) (h2:Zd w (.slice a2 n2 c2) m2 z2) (hz:z2=0):
  Calls Tryz.prog 174 #[.agg #[.slice a1 n1 c1,.bool m1],.agg #[.slice a2 n2 c2,.bool m2]] w (RetRE w 0 9):=by
 have hn0:((n2:Int)==0)=true:=by simpa using h2.len0.2 hz
 have HN:=ζ hn0;clear hn0 hz;have hC:=ζ ((((((St.enter w).pz h1).pz h2).al (w.heap.size) #[.slice a1 n1 c1,.bool m1] 70 rfl rfl).al (w.heap.size+1) #[.slice a2 n2 c2,.bool m2] 70 (by simp) rfl).al (w.heap.size+2) zR 72 (by simp) rfl);clear h1 h2;go_enter Tryz.func174,Tryz.ntmps174;have AF:=hC.out.c 1 0;have AG:=hC.out.f 1 0;go_wp2_with fail
 refine(none_any _ _ _ _).mono ?_;rintro e w3 ⟨rfl,hw⟩;have AA:=ζ (hC.out.call (W':=w3) (by rw [hw];exact(Below.refl _ _).alloc (Nat.le_refl _) _));clear hC hw;rw [HN.out];have AH:=AA.out.c 2 0;have AI:=AA.out.f 2 0;have AJ:=AA.out.c 2 1;have AK:=AA.out.f 2 1;have AL:=AA.out.c 2 2;have AM:=AA.out.f 2 2;go_wp2;refine ret_st (AA.out|>.t3 2 rfl) (v:= .tuple #[.agg #[.slice none 0 0,.bool false,.slice none 0 0],.int .i64 9]) (fun hF=>?_) rfl (fun hF=>⟨_,_,_,_,_,_,_,rfl,Rd.nil,hF.be⟩)
 ·have e0:=hF.c 2 0;have e1:=hF.c 2 1;have e2:=hF.c 2 2;simp [results,Tryz.results174,go_sem,e0,e1,e2]
theorem ofz_nz (a1:OA) (n1 c1:Nat) (m1:Bool) (z1:Int) (a2:OA) (n2 c2:Nat) (m2:Bool) (z2:Int) (w:World) (h1:Zd w (.slice a1 n1 c1) m1 z1) (h2:Zd w (.slice a2 n2 c2) m2 z2) (k1 k2:Nat) (b1:Bd k1 z1) (b2:Bd k2 z2) (hk1:k1<=200000) (hk2:k2<=200000) (hz:z2≠0):
  Calls Tryz.prog 174 #[.agg #[.slice a1 n1 c1,.bool m1],.agg #[.slice a2 n2 c2,.bool m2]] w (RetRE w (Rat.divInt z1 z2) 0):=by
 have hn0:((n2:Int)==0)=false:=by simpa using fun e=>hz (h2.len0.1 e)
 have HN:=ζ hn0;have HZ:=ζ hz;have B1:=ζ b1;have B2:=ζ b2;clear b1 b2;clear hn0 hz;have hC:=ζ ((((((St.enter w).pz h1).pz h2).al (w.heap.size) #[.slice a1 n1 c1,.bool m1] 70 rfl rfl).al (w.heap.size+1) #[.slice a2 n2 c2,.bool m2] 70 (by simp) rfl).al (w.heap.size+2) zR 72 (by simp) rfl);clear h1 h2;go_enter Tryz.func174,Tryz.ntmps174;have AF:=hC.out.c 1 0;have AG:=hC.out.f 1 0;go_wp2_with fail
 refine(none_any _ _ _ _).mono ?_;rintro e w3 ⟨rfl,hw⟩;have AA:=ζ (hC.out.call (W':=w3) (by rw [hw];exact(Below.refl _ _).alloc (Nat.le_refl _) _));clear hC hw;rw [HN.out];have AN:=AA.out.c 0 0;have AO:=AA.out.f 0 0;have AP:=AA.out.c 0 1;have AQ:=AA.out.f 0 1;have AR:=AA.out.c 1 0;have AS:=AA.out.f 1 0;have AT:=AA.out.c 1 1;have AU:=AA.out.f 1 1;go_wp2_with fail
 refine(ratio_b (AA.out.z 0 rfl) (AA.out.z 1 rfl) B1.out B2.out (by omega) (by omega) HZ.out).mono ?_;rintro e w4 ⟨a4,n4,c4,m4,d4,e4,f4,rfl,hz,hb⟩;have AB:=ζ ((AA.out.call hb).pr hz);clear hb hz;have AV:=AB.out.c 2 0;have AW:=AB.out.f 2 0;have AX:=AB.out.c 2 1;have AY:=AB.out.f 2 1;have AZ:=AB.out.c 2 2;have A0:=AB.out.f 2 2;clear AA;go_wp2;refine ret_st (AB.out|>.t3 2 rfl) (v:= .tuple #[.agg #[.slice a4 n4 c4,.bool m4,.slice d4 e4 f4],.int .i64 0]) (fun hF=>?_) rfl (fun hF=>⟨_,_,_,_,_,_,_,rfl,hF.r 2 rfl,hF.be⟩)
 ·have e0:=hF.c 2 0;have e1:=hF.c 2 1;have e2:=hF.c 2 2;simp [results,Tryz.results174,go_sem,e0,e1,e2]
section
variable {w:World} {a1:OA} {n1 c1:Nat} {m1:Bool} {z1:Int} {a2:OA} {n2 c2:Nat} {m2:Bool} {z2:Int} {k1 k2:Nat}
def ofzE (z2:Int):Int:=if z2=0 then 9 else 0
theorem ofz_b (h1:Zd w (.slice a1 n1 c1) m1 z1) (h2:Zd w (.slice a2 n2 c2) m2 z2) (b1:Bd k1 z1) (b2:Bd k2 z2) (hk1:k1<=200000) (hk2:k2<=200000):
  Calls Tryz.prog 174 #[.agg #[.slice a1 n1 c1,.bool m1],.agg #[.slice a2 n2 c2,.bool m2]] w (RetRE w (Rat.divInt z1 z2) (ofzE z2)):=by
 by_cases hz:z2=0
 ·have:=ofz_zero _ _ _ _ _ _ _ _ _ _ _ h1 h2 hz;unfold ofzE;rw [if_pos hz,hz,Rat.divInt_zero];exact this
 ·have:=ofz_nz _ _ _ _ _ _ _ _ _ _ _ h1 h2 k1 k2 b1 b2 hk1 hk2 hz;unfold ofzE;rw [if_neg hz];exact this
end
theorem of_any (k:Int) (hk: -9223372036854775808<=k/\k < 9223372036854775808) (w:World):Calls Tryz.prog 17 #[.int .i64 k] w (RetR w (k:Rat)):=by
 have hC:=ζ ((St.enter w).al (w.heap.size) zR 72 rfl rfl);go_enter Tryz.func17,Tryz.ntmps17;go_wp2_with fail
 refine(int_any k hk _).mono ?_;rintro e w3 ⟨a3,n3,c3,m3,rfl,hz,hb⟩;have AA:=ζ ((hC.out.call hb).pz hz);clear hb hz;clear hC;go_wp2_with fail
 refine(whole_any _ _ _ _ _ _ (AA.out.z 0 rfl)).mono ?_;rintro e w4 ⟨a4,n4,c4,m4,d4,e4,f4,rfl,hz,hb⟩;have AB:=ζ ((AA.out.call hb).pr hz);clear hb hz;have A1:=AB.out.c 0 0;have A2:=AB.out.f 0 0;have A3:=AB.out.c 0 1;have A4:=AB.out.f 0 1;have A5:=AB.out.c 0 2;have A6:=AB.out.f 0 2;clear AA;go_wp2;refine ret_st (AB.out|>.t3 0 rfl) (v:= .agg #[.slice a4 n4 c4,.bool m4,.slice d4 e4 f4]) (fun hF=>?_) rfl (fun hF=>⟨_,_,_,_,_,_,_,rfl,hF.r 1 rfl,hF.be⟩)
 ·have e0:=hF.c 0 0;have e1:=hF.c 0 1;have e2:=hF.c 0 2;simp [results,Tryz.results17,go_sem,e0,e1,e2]
theorem rdiv_any (a1:OA) (n1 c1:Nat) (m1:Bool) (d1:OA) (e1 f1:Nat) (q1:Rat) (a2:OA) (n2 c2:Nat) (m2:Bool) (d2:OA) (e2 f2:Nat) (q2:Rat) (w:World) (h1:Rd w (.slice a1 n1 c1) m1 (.slice d1 e1 f1) q1) (h2:Rd w (.slice a2 n2 c2) m2 (.slice d2 e2 f2) q2) (k1 k2:Nat) (b1:Bq k1 q1) (b2:Bq k2 q2) (hk1:k1<=40000) (hk2:k2<=40000):
  Calls Tryz.prog 145 #[.agg #[.slice a1 n1 c1,.bool m1,.slice d1 e1 f1],.agg #[.slice a2 n2 c2,.bool m2,.slice d2 e2 f2]] w (RetRE w (Rat.divInt (q1.num*q2.den) (q1.den*q2.num)) (ofzE (q1.den*q2.num))):=by
 have B1:=ζ b1;have B2:=ζ b2;clear b1 b2;have hC:=ζ ((((((St.enter w).pr h1).pr h2).al (w.heap.size) #[.slice a1 n1 c1,.bool m1,.slice d1 e1 f1] 72 rfl rfl).al (w.heap.size+1) #[.slice a2 n2 c2,.bool m2,.slice d2 e2 f2] 72 (by simp) rfl).al (w.heap.size+2) zR 72 (by simp) rfl);clear h1 h2;go_enter Tryz.func145,Tryz.ntmps145;go_wp2;go_region_held3 (fun w'=>w'.cell? ⟨w.heap.size,0,none⟩=some (.slice a1 n1 c1)/\w'.cell? ⟨w.heap.size,1,none⟩=some (.bool m1)/\w'.cell? ⟨w.heap.size,2,none⟩=some (.slice d1 e1 f1)/\w'.cell? ⟨w.heap.size+1,0,none⟩=some (.slice a2 n2 c2)/\w'.cell? ⟨w.heap.size+1,1,none⟩=some (.bool m2)/\w'.cell? ⟨w.heap.size+1,2,none⟩=some (.slice d2 e2 f2)/\True)
  (first
   | (with_reducible refine aG (World.setCell (World.setCell (World.setCell w7 _ _) _ _) _ _) ?_;refine aH (AC.out|>.t3 2 rfl) (fun Yx=>?_);exact qR3_0)
   | (with_reducible refine aG w7 ?_;have Yx:=AC.out;exact qR3_0)
   | (with_reducible refine aG w6 ?_;have Yx:=AD.out;exact qR3_0)
   | (with_reducible refine aG w5 ?_;have Yx:=AE.out;exact qR3_0)
   | (with_reducible refine aG w4 ?_;have Yx:=AB.out;exact qR3_0)
   | (with_reducible refine aG w3 ?_;have Yx:=AA.out;exact qR3_0)
   | (with_reducible refine aG _ ?_;have Yx:=hC.out.drew;exact qR3_0)|fail)
  (first
   | (have _t:=AD;go_at_call 174;refine(ofz_b (AD.out.z 3 rfl) (AD.out.z 5 rfl) (B1.out.num.mul B2.out.den) (B1.out.den.mul B2.out.num) (by omega) (by omega)).mono ?_;rintro e w7 ⟨a7,n7,c7,m7,d7,e7,f7,rfl,hz,hb⟩;have AC:=ζ ((AD.out.call hb).pr hz);clear hb hz;have A7:=AC.out.c 2 0;have A8:=AC.out.f 2 0;have A9:=AC.out.c 2 1;have Ab:=AC.out.f 2 1;have Ac:=AC.out.c 2 2;have Ad:=AC.out.f 2 2;clear _t AD)
   | (have _t:=AE;go_at_call 54;refine(mul_b (AE.out.z 4 rfl) (AE.out.r 1 rfl).z B1.out.den B2.out.num (by omega) (by omega)).mono ?_;rintro e w6 ⟨a6,n6,c6,m6,rfl,hz,hb⟩;have AD:=ζ ((AE.out.call hb).pz hz);clear hb hz;clear _t AE)
   | (have _t:=AB;go_at_call 55;refine(bottom_b (AB.out.r 0 rfl) B1.out (by omega)).mono ?_;rintro e w5 ⟨a5,n5,c5,m5,rfl,hz,hb⟩;have AE:=ζ ((AB.out.call hb).pz hz);clear hb hz;clear _t AB)
   | (have _t:=AA;go_at_call 54;refine(mul_b (AA.out.r 0 rfl).z (AA.out.z 2 rfl) B1.out.num B2.out.den (by omega) (by omega)).mono ?_;rintro e w4 ⟨a4,n4,c4,m4,rfl,hz,hb⟩;have AB:=ζ ((AA.out.call hb).pz hz);clear hb hz;clear _t AA)
   | (have _t:=hC;go_at_call 55;refine(bottom_b (hC.out.drew.r 1 rfl) B2.out (by omega)).mono ?_;rintro e w3 ⟨a3,n3,c3,m3,rfl,hz,hb⟩;have AA:=ζ ((hC.out.drew.call hb).pz hz);clear hb hz;clear _t hC)
   | fail)
 go_wp2;refine ret_st (AC.out|>.t3 2 rfl) (v:= .tuple #[.agg #[.slice a7 n7 c7,.bool m7,.slice d7 e7 f7],.int .i64 (ofzE (q1.den*q2.num))]) (fun hF=>?_) rfl (fun hF=>⟨_,_,_,_,_,_,_,rfl,hF.r 6 rfl,hF.be⟩)
 ·have e0:=hF.c 2 0;have e1:=hF.c 2 1;have e2:=hF.c 2 2;simp [results,Tryz.results145,go_sem,e0,e1,e2]
end Go.Proofs.YtjpojeapdgjbhaaGreatDoor
