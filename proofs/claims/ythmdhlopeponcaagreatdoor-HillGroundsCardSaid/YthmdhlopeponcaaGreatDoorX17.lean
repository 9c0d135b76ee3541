/- texts: ParseZ, Text, Int64 -/
import Derived.Test.YthmdhlopeponcaaGreatDoorX0
import Derived.Test.YthmdhlopeponcaaGreatDoorX16
import Derived.Test.YthmdhlopeponcaaGreatDoorX8
import Derived.Test.YthmdhlopeponcaaGreatDoorX10
import Derived.Test.YthmdhlopeponcaaGreatDoorX14
set_option maxRecDepth 100000
set_option maxHeartbeats 2000000
namespace Go.Proofs.YthmdhlopeponcaaGreatDoor
open Go.RowKit Dig
theorem Zd.nil0 {w:World} :Zd w (.slice none 0 0) false 0:=⟨by unfold Dg;rw [Int.natAbs_zero,dg_zero];exact Sl.nil,by simp⟩
theorem ret_str {a b:ByteArray} (h:a=b):Ending.returned (.string a)= .returned (.string b):=by rw [h]
theorem ba_append (a b:List UInt8):(⟨a.toArray⟩:ByteArray)++⟨b.toArray⟩=⟨(a++b).toArray⟩:=by
 apply ByteArray.ext;simp [ByteArray.data_append]
theorem dec_len_m (m:Nat) {k:Nat} {z:Int} (h:Bd k z) (hk:k≤m):(Dec.dec z.natAbs).length≤m+1:=by
 refine Dec.dec_len (Nat.lt_of_lt_of_le (h.mono hk) (Nat.le_trans (Nat.pow_le_pow_left (show 2≤10 by omega) _) (Nat.pow_le_pow_right (by omega) (by omega))))
theorem dec_len_bd {k:Nat} {z:Int} (h:Bd k z) (hk:k≤1000000):(Dec.dec z.natAbs).length≤1000001:=dec_len_m 1000000 h hk
theorem ztext_len {k:Nat} {z:Int} (h:Bd k z) (hk:k≤1000000):(Dec.ztext z).length≤1000002:=by
 have:=dec_len_bd h hk
 unfold Dec.ztext
 split
 ·rw [List.length_cons];omega
 ·omega
theorem ztext_any (a:Option Addr) (n c:Nat) (m:Bool) (z:Int) (w:World) (h:Zd w (.slice a n c) m z) (k:Nat) (hb:Bd k z) (hk:k≤1000000):
  Calls Tryz.prog 120 #[.agg #[.slice a n c,.bool m]] w fun e w'=>e= .returned (.string ⟨(Dec.ztext z).toArray⟩)∧Below w.heap.size w w':=by
 have hC:=ζ (((St.enter w).pz h).al w.heap.size #[.slice a n c,.bool m] 40 rfl rfl)
 have HL:=ζ (hb.len hk)
 have hm:=h.m
 have hlen:=dec_len_bd hb hk
 clear h hb
 by_cases hz:z < 0
 ·obtain rfl:m=true:=by rw [hm];simpa using hz
  have HT:=ζ (show Dec.ztext z=45::Dec.dec z.natAbs from by unfold Dec.ztext;rw [if_pos hz])
  clear hm hz
  go_enter Tryz.func120,Tryz.ntmps120
  have c0:=hC.out.cell 0 0 rfl rfl
  go_wp2_with fail
  refine(text_any _ _ _ _ _ (hC.out.zd 0 rfl) HL.out).mono ?_
  rintro e w1 ⟨rfl,hb⟩
  have hC1:=ζ (hC.out.call hb)
  clear hC hb c0
  go_wp2
  go_ret
  exact⟨ret_str (by rw [HT.out];exact ba_append [45] _),hC1.out.be⟩
 ·obtain rfl:m=false:=by rw [hm];simpa using hz
  have HT:=ζ (show Dec.ztext z=Dec.dec z.natAbs from by unfold Dec.ztext;rw [if_neg hz])
  clear hm hz
  go_enter Tryz.func120,Tryz.ntmps120
  have c0:=hC.out.cell 0 0 rfl rfl
  go_wp2_with fail
  refine(text_any _ _ _ _ _ (hC.out.zd 0 rfl) HL.out).mono ?_
  rintro e w1 ⟨rfl,hb⟩
  have hC1:=ζ (hC.out.call hb)
  clear hC hb c0
  go_wp2
  go_ret
  exact⟨by rw [HT.out];rfl,hC1.out.be⟩
def i64res (z:Int):Int×Bool:=if -9223372036854775808≤z∧z≤9223372036854775807 then(z,true)else(0,false)
theorem sgn_neg {z:Int} (h:z < 0):sgn z= -1:=by unfold sgn;rw [if_neg (by omega),if_pos h]
theorem sgn_nonneg {z:Int} (h:0≤z):0≤sgn z:=by unfold sgn;split;omega;split<;>omega
theorem sgn_pos {z:Int} (h:0 < z):sgn z=1:=by unfold sgn;rw [if_neg (by omega),if_neg (by omega)]
theorem sgn_nonpos {z:Int} (h:z≤0):sgn z≤0:=by unfold sgn;split;omega;split<;>omega
theorem int64_any (a:Option Addr) (n c:Nat) (m:Bool) (z:Int) (w:World) (h:Zd w (.slice a n c) m z) (k:Nat) (hb:Bd k z) (hk:k≤1000000):
  Calls Tryz.prog 118 #[.agg #[.slice a n c,.bool m]] w fun e w'=>e= .returned (.tuple #[.int .i64 (i64res z).1,.bool (i64res z).2])∧Below w.heap.size w w':=by
 have hC:=ζ (((St.enter w).pz h).al w.heap.size #[.slice a n c,.bool m] 40 rfl rfl)
 have HL:=ζ (Nat.le_trans (hb.len hk) (show 50000≤10000000 by omega))
 have HLm:=ζ (Nat.le_trans ((Bd.i64 (k:= -9223372036854775808) (by omega)).len (by omega)) (show 50000≤10000000 by omega))
 have HLx:=ζ (Nat.le_trans ((Bd.i64 (k:=9223372036854775807) (by omega)).len (by omega)) (show 50000≤10000000 by omega))
 have HM:=ζ h.m
 clear h hb
 by_cases h1:z < -9223372036854775808
 ·have V1:=ζ (sgn_neg (z:=z - -9223372036854775808) (by omega))
  have HR:=ζ (show i64res z=(0,false)from by unfold i64res;rw [if_neg (by omega)])
  clear h1
  go_enter Tryz.func118,Tryz.ntmps118
  have x0:=hC.out.cell 0 0 rfl rfl
  have x1:=hC.out.cell 0 1 rfl rfl
  go_wp2
  go_region_with (first
   | (go_at_call 95;refine(cmp_any _ _ _ _ _ _ _ _ _ _ _ (hCa.out.z 0 rfl) (hCa.out.z 1 rfl) HL.out HLm.out).mono ?_;rintro e wb ⟨rfl,hb⟩;have hCb:=ζ (hCa.out.call hb);clear hb;rw [V1.out])
   | (go_at_call 99;refine(int_any (-9223372036854775808) (by omega) _).mono ?_;rintro e wa ⟨ba,ka,la,ma,rfl,hza,hb⟩;have hCa:=ζ ((hC.out.drew.call hb).pz hza);clear hza hb;have y0:=hCa.out.cell 0 0 rfl rfl;have y1:=hCa.out.cell 0 1 rfl rfl))
  all_goals
   go_wp2
   go_ret2
   exact⟨by rw [HR.out];rfl,hCb.out.be⟩
 ·obtain ⟨v,hv⟩:∃v:Int,sgn (z - -9223372036854775808)=v:=⟨_,rfl⟩
  have d1:decide (v < 0)=false:=by have:=sgn_nonneg (z:=z - -9223372036854775808) (by omega);simp;omega
  have V1:=ζ hv
  clear hv
  by_cases h2:9223372036854775807 < z
  ·have V2:=ζ (sgn_pos (z:=z - 9223372036854775807) (by omega))
   have HR:=ζ (show i64res z=(0,false)from by unfold i64res;rw [if_neg (by omega)])
   clear h1 h2
   go_enter Tryz.func118,Tryz.ntmps118
   go_wp2
   go_region_held3 (fun w'=>w'.cell? ⟨w.heap.size,0,none⟩=some (.slice a n c)∧w'.cell? ⟨w.heap.size,1,none⟩=some (.bool m)∧True)
    (first
     | (with_reducible refine And.intro (?_:World.cell? wd _=_) ?_;exact hCd.out.cell 0 0 rfl rfl;exact⟨hCd.out.cell 0 1 rfl rfl,trivial⟩)
     | (with_reducible refine And.intro (?_:World.cell? wc _=_) ?_;exact hCc.out.cell 0 0 rfl rfl;exact⟨hCc.out.cell 0 1 rfl rfl,trivial⟩)
     | (with_reducible refine And.intro (?_:World.cell? wb _=_) ?_;exact hCb.out.cell 0 0 rfl rfl;exact⟨hCb.out.cell 0 1 rfl rfl,trivial⟩)
     | (with_reducible refine And.intro (?_:World.cell? wa _=_) ?_;exact hCa.out.cell 0 0 rfl rfl;exact⟨hCa.out.cell 0 1 rfl rfl,trivial⟩)
     | (with_reducible refine And.intro (?_:World.cell? _ _=_) ?_;exact hC.out.drew.cell 0 0 rfl rfl;exact⟨hC.out.drew.cell 0 1 rfl rfl,trivial⟩))
    (first
     | (have _t:=hCc;go_at_call 95;refine(cmp_any _ _ _ _ _ _ _ _ _ _ _ (hCc.out.z 0 rfl) (hCc.out.z 2 rfl) HL.out HLx.out).mono ?_;rintro e wd ⟨rfl,hb⟩;have hCd:=ζ (hCc.out.call hb);clear hb;rw [V2.out];clear _t hCc)
     | (have _t:=hCb;go_at_call 99;refine(int_any 9223372036854775807 (by omega) _).mono ?_;rintro e wc ⟨bc,kc,lc,mc,rfl,hzc,hb⟩;have hCc:=ζ ((hCb.out.call hb).pz hzc);clear hzc hb;clear _t hCb)
     | (have _t:=hCa;go_at_call 95;refine(cmp_any _ _ _ _ _ _ _ _ _ _ _ (hCa.out.z 0 rfl) (hCa.out.z 1 rfl) HL.out HLm.out).mono ?_;rintro e wb ⟨rfl,hb⟩;have hCb:=ζ (hCa.out.call hb);clear hb;rw [V1.out];clear _t hCa)
     | (have _t:=hC;go_at_call 99;refine(int_any (-9223372036854775808) (by omega) _).mono ?_;rintro e wa ⟨ba,ka,la,ma,rfl,hza,hb⟩;have hCa:=ζ ((hC.out.drew.call hb).pz hza);clear hza hb;clear _t hC))
   go_wp2
   go_ret2
   exact⟨by rw [HR.out];rfl,hCd.out.be⟩
  ·obtain ⟨v2,hv2⟩:∃v:Int,sgn (z - 9223372036854775807)=v:=⟨_,rfl⟩
   have d2:decide (0 < v2)=false:=by have:=sgn_nonpos (z:=z - 9223372036854775807) (by omega);simp;omega
   have V2:=ζ hv2
   clear hv2
   have HR:=ζ (show i64res z=(z,true)from by unfold i64res;rw [if_pos (by omega)])
   have HB:=ζ (show z.natAbs < 18446744073709551616 by omega)
   obtain ⟨u,hu⟩:∃u:Int,IntKind.i64.wrap ((z.natAbs:Nat):Int)=u:=⟨_,rfl⟩
   have HU:=ζ (show if m then IntKind.i64.wrap (-u)=z else u=z from by
    have hm:=HM.out
    rw [IntKind.wrap_i64]at hu
    cases m
    ·have:¬ z < 0:=by simpa using hm.symm
     simp only [Bool.false_eq_true,if_false];omega
    ·have:z < 0:=by simpa using hm.symm
     simp only [if_true]
     rw [IntKind.wrap_i64];omega)
   clear h1 h2
   go_enter Tryz.func118,Tryz.ntmps118
   go_wp2
   go_region_held3 (fun w'=>w'.cell? ⟨w.heap.size,0,none⟩=some (.slice a n c)∧w'.cell? ⟨w.heap.size,1,none⟩=some (.bool m)∧True)
    (first
     | (with_reducible refine And.intro (?_:World.cell? wd _=_) ?_;exact hCd.out.cell 0 0 rfl rfl;exact⟨hCd.out.cell 0 1 rfl rfl,trivial⟩)
     | (with_reducible refine And.intro (?_:World.cell? wc _=_) ?_;exact hCc.out.cell 0 0 rfl rfl;exact⟨hCc.out.cell 0 1 rfl rfl,trivial⟩)
     | (with_reducible refine And.intro (?_:World.cell? wb _=_) ?_;exact hCb.out.cell 0 0 rfl rfl;exact⟨hCb.out.cell 0 1 rfl rfl,trivial⟩)
     | (with_reducible refine And.intro (?_:World.cell? wa _=_) ?_;exact hCa.out.cell 0 0 rfl rfl;exact⟨hCa.out.cell 0 1 rfl rfl,trivial⟩)
     | (with_reducible refine And.intro (?_:World.cell? _ _=_) ?_;exact hC.out.drew.cell 0 0 rfl rfl;exact⟨hC.out.drew.cell 0 1 rfl rfl,trivial⟩))
    (first
     | (have _t:=hCc;go_at_call 95;refine(cmp_any _ _ _ _ _ _ _ _ _ _ _ (hCc.out.z 0 rfl) (hCc.out.z 2 rfl) HL.out HLx.out).mono ?_;rintro e wd ⟨rfl,hb⟩;have hCd:=ζ (hCc.out.call hb);clear hb;rw [V2.out];clear _t hCc)
     | (have _t:=hCb;go_at_call 99;refine(int_any 9223372036854775807 (by omega) _).mono ?_;rintro e wc ⟨bc,kc,lc,mc,rfl,hzc,hb⟩;have hCc:=ζ ((hCb.out.call hb).pz hzc);clear hzc hb;clear _t hCb)
     | (have _t:=hCa;go_at_call 95;refine(cmp_any _ _ _ _ _ _ _ _ _ _ _ (hCa.out.z 0 rfl) (hCa.out.z 1 rfl) HL.out HLm.out).mono ?_;rintro e wb ⟨rfl,hb⟩;have hCb:=ζ (hCa.out.call hb);clear hb;rw [V1.out];clear _t hCa)
     | (have _t:=hC;go_at_call 99;refine(int_any (-9223372036854775808) (by omega) _).mono ?_;rintro e wa ⟨ba,ka,la,ma,rfl,hza,hb⟩;have hCa:=ζ ((hC.out.drew.call hb).pz hza);clear hza hb;clear _t hC))
   have x0:=hCd.out.cell 0 0 rfl rfl
   have x1:=hCd.out.cell 0 1 rfl rfl
   go_wp2_with fail
   refine(dword_any _ _ _ _ _ (hCd.out.zd 0 rfl) HB.out).mono ?_
   rintro e we ⟨rfl,hb⟩
   have hCe:=ζ (hCd.out.call hb)
   clear hb x0 x1
   have x1:=hCe.out.cell 0 1 rfl rfl
   cases m
   ·go_wp2
    go_ret2
    exact⟨by rw [HR.out];have:=HU.out;simp only [Bool.false_eq_true,if_false]at this;rw [←this];rfl,hCe.out.be⟩
   ·have hu2:IntKind.i64.wrap (-u)=z:=by have:=HU.out;simpa using this
    go_wp2
    go_ret2
    exact⟨by rw [HR.out];rfl,hCe.out.be⟩
section
variable {w:World} {a1:Option Addr} {n1 c1:Nat} {m1:Bool} {z1:Int} {a2:Option Addr} {n2 c2:Nat} {m2:Bool} {z2:Int} {k1 k2:Nat}
theorem mul_b (h1:Zd w (.slice a1 n1 c1) m1 z1) (h2:Zd w (.slice a2 n2 c2) m2 z2) (b1:Bd k1 z1) (b2:Bd k2 z2) (hk1:k1≤1000000) (hk2:k2≤1000000):
  Calls Tryz.prog 93 #[.agg #[.slice a1 n1 c1,.bool m1],.agg #[.slice a2 n2 c2,.bool m2]] w (RetZ w (z1*z2)):=
 mul_any _ _ _ _ _ _ _ _ _ _ _ h1 h2 (Nat.le_trans (b1.len hk1) (by omega)) (Nat.le_trans (b2.len hk2) (by omega))
theorem add_b (h1:Zd w (.slice a1 n1 c1) m1 z1) (h2:Zd w (.slice a2 n2 c2) m2 z2) (b1:Bd k1 z1) (b2:Bd k2 z2) (hk1:k1≤1000000) (hk2:k2≤1000000):
  Calls Tryz.prog 94 #[.agg #[.slice a1 n1 c1,.bool m1],.agg #[.slice a2 n2 c2,.bool m2]] w (RetZ w (z1+z2)):=
 add_any _ _ _ _ _ _ _ _ _ _ _ h1 h2 (Nat.le_trans (b1.len hk1) (by omega)) (Nat.le_trans (b2.len hk2) (by omega))
theorem cmp_b (h1:Zd w (.slice a1 n1 c1) m1 z1) (h2:Zd w (.slice a2 n2 c2) m2 z2) (b1:Bd k1 z1) (b2:Bd k2 z2) (hk1:k1≤1000000) (hk2:k2≤1000000):
  Calls Tryz.prog 95 #[.agg #[.slice a1 n1 c1,.bool m1],.agg #[.slice a2 n2 c2,.bool m2]] w fun e w'=>e= .returned (.int .i64 (sgn (z1 - z2)))∧Below w.heap.size w w':=
 cmp_any _ _ _ _ _ _ _ _ _ _ _ h1 h2 (Nat.le_trans (b1.len hk1) (by omega)) (Nat.le_trans (b2.len hk2) (by omega))
theorem gcd_b (h1:Zd w (.slice a1 n1 c1) m1 z1) (h2:Zd w (.slice a2 n2 c2) m2 z2) (b1:Bd k1 z1) (b2:Bd k2 z2) (hk1:k1≤1000000) (hk2:k2≤1000000):
  Calls Tryz.prog 146 #[.agg #[.slice a1 n1 c1,.bool m1],.agg #[.slice a2 n2 c2,.bool m2]] w (RetZ w (Int.gcd z1 z2)):=
 gcd_any _ _ _ _ _ _ _ _ _ _ _ h1 h2 (Nat.le_trans (b1.len hk1) (by omega)) (Nat.le_trans (b2.len hk2) (by omega))
theorem quo_b (h1:Zd w (.slice a1 n1 c1) m1 z1) (h2:Zd w (.slice a2 n2 c2) m2 z2) (hz:z2≠0) (b1:Bd k1 z1) (b2:Bd k2 z2) (hk1:k1≤1000000) (hk2:k2≤1000000):
  Calls Tryz.prog 148 #[.agg #[.slice a1 n1 c1,.bool m1],.agg #[.slice a2 n2 c2,.bool m2]] w (RetQ w (z1 / z2) (z1 % z2) 0):=
 quotient_nz _ _ _ _ _ _ _ _ _ _ _ h1 h2 hz (Nat.le_trans (b1.len hk1) (by omega)) (Nat.le_trans (b2.len hk2) (by omega))
theorem neg_b (h1:Zd w (.slice a1 n1 c1) m1 z1):Calls Tryz.prog 147 #[.agg #[.slice a1 n1 c1,.bool m1]] w (RetZ w (-z1)):=neg_any _ _ _ _ _ _ h1
theorem abs_b (h1:Zd w (.slice a1 n1 c1) m1 z1):Calls Tryz.prog 175 #[.agg #[.slice a1 n1 c1,.bool m1]] w (RetZ w z1.natAbs):=abs_any _ _ _ _ _ _ h1
theorem sign_b (h1:Zd w (.slice a1 n1 c1) m1 z1):Calls Tryz.prog 102 #[.agg #[.slice a1 n1 c1,.bool m1]] w fun e w'=>e= .returned (.int .i64 (sgn z1))∧Below w.heap.size w w':=sign_any _ _ _ _ _ _ h1
end
theorem ratio_any (a1:Option Addr) (n1 c1:Nat) (m1:Bool) (z1:Int) (a2:Option Addr) (n2 c2:Nat) (m2:Bool) (z2:Int) (w:World) (h1:Zd w (.slice a1 n1 c1) m1 z1) (h2:Zd w (.slice a2 n2 c2) m2 z2) (k1 k2:Nat) (b1:Bd k1 z1) (b2:Bd k2 z2) (hk1:k1≤200000) (hk2:k2≤200000) (hz:z2≠0):
  Calls Tryz.prog 92 #[.agg #[.slice a1 n1 c1,.bool m1],.agg #[.slice a2 n2 c2,.bool m2]] w (RetR w (Rat.divInt z1 z2)):=by
 obtain ⟨g,hg⟩:∃g:Int,g=(if z2 < 0 then -(Int.gcd z1 z2:Int)else(Int.gcd z1 z2:Int)):=⟨_,rfl⟩
 have hp:=ratio_parts z1 z2 hz
 rw [←hg]at hp
 have HP:=ζ hp
 have HG:=ζ hg
 have hg0:g≠0:=by have:=gcd_pos' z1 hz;rw [hg];split<;>omega
 have HG0:=ζ hg0
 have BG:=ζ (show Bd (k1+k2) g from by rw [hg];split;exact(b1.gcd b2).neg;exact b1.gcd b2)
 have B1:=ζ b1
 have B2:=ζ b2
 have HM:=ζ h2.m
 have HLd:=ζ (show(dg 16777216 (Rat.divInt z1 z2).den).length≤10000000 from by
  have:=((b2.of_le (y:=((Rat.divInt z1 z2).den:Int)) (by rw [Int.natAbs_natCast];exact divInt_den_le z1 hz)).len (by omega))
  rw [Int.natAbs_natCast]at this;omega)
 have HDE:=ζ (show((((Rat.divInt z1 z2).den:Nat):Int)+ -1*((1:Nat):Int)).toNat=(Rat.divInt z1 z2).den - 1 from by have:=(Rat.divInt z1 z2).den_nz;omega)
 clear hp hg hg0 b1 b2 hz
 have hC:=ζ ((((((St.enter w).pz h1).pz h2).al (w.heap.size) #[.slice a1 n1 c1,.bool m1] 40 rfl rfl).al (w.heap.size+1) #[.slice a2 n2 c2,.bool m2] 40 (by simp) rfl).al (w.heap.size+2) #[.slice none 0 0,.bool false,.slice none 0 0] 42 (by simp) rfl)
 clear h1 h2
 go_enter Tryz.func92,Tryz.ntmps92
 go_wp2_with fail
 refine(gcd_b (hC.out.z 0 rfl) (hC.out.z 1 rfl) B1.out B2.out (by omega) (by omega)).mono ?_
 rintro e w3 ⟨a3,n3,c3,m3,rfl,hz,hb⟩
 have hC3:=ζ (((hC.out.call hb).pz hz).al w3.heap.size #[.slice a3 n3 c3,.bool m3] 40 rfl rfl)
 clear hb hz hC
 cases m2
 ·have hC3_c00:=hC3.out.cell 0 0 rfl rfl
  have hC3_f00:=hC3.out.free 0 0 rfl
  have hC3_c01:=hC3.out.cell 0 1 rfl rfl
  have hC3_f01:=hC3.out.free 0 1 rfl
  have hC3_c11:=hC3.out.cell 1 1 rfl rfl
  have hC3_f11:=hC3.out.free 1 1 rfl
  have hC3_c30:=hC3.out.cell 3 0 rfl rfl
  have hC3_f30:=hC3.out.free 3 0 rfl
  have hC3_c31:=hC3.out.cell 3 1 rfl rfl
  have hC3_f31:=hC3.out.free 3 1 rfl
  have o03:=hC3.out.apart 0 3 rfl rfl (by omega)
  have o13:=hC3.out.apart 1 3 rfl rfl (by omega)
  have HGE:=ζ (show((Int.gcd z1 z2:Nat):Int)=g from by rw [HG.out];have:=HM.out;simp at this;rw [if_neg (by omega)])
  go_wp2_with fail
  refine(quo_b (hC3.out.z 0 rfl) (HGE.out ▸ hC3.out.z 2 rfl) HG0.out B1.out BG.out (by omega) (by omega)).mono ?_
  rintro e w5 ⟨a5,n5,c5,m5,_,_,_,_,rfl,hz,_,hb⟩
  have hC5:=ζ ((hC3.out.call hb).pz hz)
  clear hz hb hC3 hC3_c00 hC3_c01 hC3_c11 hC3_c30 hC3_c31 hC3_f00 hC3_f01 hC3_f11 hC3_f30 hC3_f31
  have hC5_c00:=hC5.out.cell 0 0 rfl rfl
  have hC5_f00:=hC5.out.free 0 0 rfl
  have hC5_c01:=hC5.out.cell 0 1 rfl rfl
  have hC5_f01:=hC5.out.free 0 1 rfl
  have hC5_c10:=hC5.out.cell 1 0 rfl rfl
  have hC5_f10:=hC5.out.free 1 0 rfl
  have hC5_c11:=hC5.out.cell 1 1 rfl rfl
  have hC5_f11:=hC5.out.free 1 1 rfl
  have hC5_c30:=hC5.out.cell 3 0 rfl rfl
  have hC5_f30:=hC5.out.free 3 0 rfl
  have hC5_c31:=hC5.out.cell 3 1 rfl rfl
  have hC5_f31:=hC5.out.free 3 1 rfl
  go_wp2_with fail
  refine(quo_b ((hC5.out|>.set 0 rfl|>.set 0 rfl).z 1 rfl) (HGE.out ▸ (hC5.out|>.set 0 rfl|>.set 0 rfl).z 2 rfl) HG0.out B2.out BG.out (by omega) (by omega)).mono ?_
  rintro e w6 ⟨a6,n6,c6,m6,_,_,_,_,rfl,hz,_,hb⟩
  have hC6:=ζ (((hC5.out|>.set 0 rfl|>.set 0 rfl).call hb).pz hz)
  clear hz hb hC5 hC5_c00 hC5_c01 hC5_c10 hC5_c11 hC5_c30 hC5_c31 hC5_f00 hC5_f01 hC5_f10 hC5_f11 hC5_f30 hC5_f31
  have hC6_c10:=hC6.out.cell 1 0 rfl rfl
  have hC6_f10:=hC6.out.free 1 0 rfl
  have hC6_c11:=hC6.out.cell 1 1 rfl rfl
  have hC6_f11:=hC6.out.free 1 1 rfl
  go_wp2_with fail
  refine gen_app (hC6.out|>.set 1 rfl|>.set 1 rfl) ?_
  intro W7 hc7
  have hC7:=ζ hc7
  clear hc7 hC6 hC6_c10 hC6_c11 hC6_f10 hC6_f11
  have HN:=ζ (show Zd W7 (.slice a5 n5 c5) m5 (Rat.divInt z1 z2).num from by have:=hC7.out.z 3 rfl;rwa [HP.out.1]at this)
  have HDn:=ζ (show Dg W7 (.slice a6 n6 c6) (Rat.divInt z1 z2).den from by have:=(hC7.out.z 4 rfl).d;rwa [HP.out.2,Int.natAbs_natCast]at this)
  have hC8:=ζ ((hC7.out.pz HN.out).pd HDn.out)
  clear hC7 HN HDn
  go_region_held3 (fun w'=>w'.cell? ⟨w.heap.size,0,none⟩=some (.slice a5 n5 c5)∧w'.cell? ⟨w.heap.size,1,none⟩=some (.bool m5)∧w'.cell? ⟨w.heap.size+1,0,none⟩=some (.slice a6 n6 c6)∧True)
   (first
    | (with_reducible refine And.intro (?_:World.cell? (World.setCell (World.setCell (World.setCell w10 _ _) _ _) _ _) _=_) ?_;exact(hC10.out|>.set 2 rfl|>.set 2 rfl|>.set 2 rfl).cell 0 0 rfl rfl;exact⟨(hC10.out|>.set 2 rfl|>.set 2 rfl|>.set 2 rfl).cell 0 1 rfl rfl,(hC10.out|>.set 2 rfl|>.set 2 rfl|>.set 2 rfl).cell 1 0 rfl rfl,trivial⟩)
    | (with_reducible refine And.intro (?_:World.cell? w10 _=_) ?_;exact hC10.out.cell 0 0 rfl rfl;exact⟨hC10.out.cell 0 1 rfl rfl,hC10.out.cell 1 0 rfl rfl,trivial⟩)
    | (with_reducible refine And.intro (?_:World.cell? w9 _=_) ?_;exact hC9.out.cell 0 0 rfl rfl;exact⟨hC9.out.cell 0 1 rfl rfl,hC9.out.cell 1 0 rfl rfl,trivial⟩)
    | (with_reducible refine And.intro (?_:World.cell? _ _=_) ?_;exact hC8.out.drew.cell 0 0 rfl rfl;exact⟨hC8.out.drew.cell 0 1 rfl rfl,hC8.out.drew.cell 1 0 rfl rfl,trivial⟩))
   (first
    | (have _t:=hC9;go_at_call 144;refine(plus_any _ _ _ _ _ _ (-1) _ 1 _ (hC9.out.d 6 rfl) (hC9.out.d 7 rfl) (.inr rfl) (by have:=(Rat.divInt z1 z2).den_nz;omega) HLd.out (dg_len_le (by omega) (by omega))).mono ?_;rintro e w10 ⟨a10,n10,c10,rfl,hz,hb⟩;have hC10:=ζ ((hC9.out.call hb).pd hz);clear hz hb;have hC10_c20:=hC10.out.cell 2 0 rfl rfl;have hC10_f20:=hC10.out.free 2 0 rfl;have hC10_c21:=hC10.out.cell 2 1 rfl rfl;have hC10_f21:=hC10.out.free 2 1 rfl;have hC10_c22:=hC10.out.cell 2 2 rfl rfl;have hC10_f22:=hC10.out.free 2 2 rfl;clear _t hC9)
    | (have _t:=hC8;go_at_call 145;refine(word_any 1 _ (by omega)).mono ?_;rintro e w9 ⟨a9,n9,c9,rfl,hz,hb⟩;have hC9:=ζ ((hC8.out.drew.call hb).pd hz);clear hz hb;clear _t hC8)
    | fail)
  go_wp2
  refine ret_st (hC10.out|>.set 2 rfl|>.set 2 rfl|>.set 2 rfl) (v:= .agg #[.slice a5 n5 c5,.bool m5,.slice a10 n10 c10]) (fun hF=>?_) rfl (fun hF=>⟨_,_,_,_,_,_,_,rfl,⟨hF.z 5 rfl,?_⟩,hF.be⟩)
  ·have e0:=hF.cell 2 0 rfl rfl
   have e1:=hF.cell 2 1 rfl rfl
   have e2:=hF.cell 2 2 rfl rfl
   simp [results,Tryz.results92,go_sem,e0,e1,e2]
  ·have:=hF.d 8 rfl
   rwa [HDE.out]at this
 ·have y30:=hC3.out.cell 3 0 rfl rfl
  have y31:=hC3.out.cell 3 1 rfl rfl
  have y11:=hC3.out.cell 1 1 rfl rfl
  go_wp2_with fail
  refine(neg_b (hC3.out.z 2 rfl)).mono ?_
  rintro e w4 ⟨a4,n4,c4,m4,rfl,hz,hb⟩
  have hC4:=ζ ((hC3.out.call hb).pz hz)
  clear hb hz hC3
  have hC4_c30:=hC4.out.cell 3 0 rfl rfl
  have hC4_f30:=hC4.out.free 3 0 rfl
  have hC4_c31:=hC4.out.cell 3 1 rfl rfl
  have hC4_f31:=hC4.out.free 3 1 rfl
  go_upto_region 4 with fail
  refine wp_gen (hC4.out|>.set 3 rfl|>.set 3 rfl) ?_
  intro W4 hc4
  have hC4b:=ζ hc4
  clear hc4 hC4 y30 y31 y11 hC4_c30 hC4_c31 hC4_f30 hC4_f31
  have hC4b_c00:=hC4b.out.cell 0 0 rfl rfl
  have hC4b_f00:=hC4b.out.free 0 0 rfl
  have hC4b_c01:=hC4b.out.cell 0 1 rfl rfl
  have hC4b_f01:=hC4b.out.free 0 1 rfl
  have hC4b_c11:=hC4b.out.cell 1 1 rfl rfl
  have hC4b_f11:=hC4b.out.free 1 1 rfl
  have hC4b_c30:=hC4b.out.cell 3 0 rfl rfl
  have hC4b_f30:=hC4b.out.free 3 0 rfl
  have hC4b_c31:=hC4b.out.cell 3 1 rfl rfl
  have hC4b_f31:=hC4b.out.free 3 1 rfl
  have o03:=hC4b.out.apart 0 3 rfl rfl (by omega)
  have o13:=hC4b.out.apart 1 3 rfl rfl (by omega)
  have HGE:=ζ (show(-((Int.gcd z1 z2:Nat):Int))=g from by rw [HG.out];have:=HM.out;simp at this;rw [if_pos (by omega)])
  go_wp2_with fail
  refine(quo_b (hC4b.out.z 0 rfl) (HGE.out ▸ hC4b.out.z 3 rfl) HG0.out B1.out BG.out (by omega) (by omega)).mono ?_
  rintro e w5 ⟨a5,n5,c5,m5,_,_,_,_,rfl,hz,_,hb⟩
  have hC5:=ζ ((hC4b.out.call hb).pz hz)
  clear hz hb hC4b hC4b_c00 hC4b_c01 hC4b_c11 hC4b_c30 hC4b_c31 hC4b_f00 hC4b_f01 hC4b_f11 hC4b_f30 hC4b_f31
  have hC5_c00:=hC5.out.cell 0 0 rfl rfl
  have hC5_f00:=hC5.out.free 0 0 rfl
  have hC5_c01:=hC5.out.cell 0 1 rfl rfl
  have hC5_f01:=hC5.out.free 0 1 rfl
  have hC5_c10:=hC5.out.cell 1 0 rfl rfl
  have hC5_f10:=hC5.out.free 1 0 rfl
  have hC5_c11:=hC5.out.cell 1 1 rfl rfl
  have hC5_f11:=hC5.out.free 1 1 rfl
  have hC5_c30:=hC5.out.cell 3 0 rfl rfl
  have hC5_f30:=hC5.out.free 3 0 rfl
  have hC5_c31:=hC5.out.cell 3 1 rfl rfl
  have hC5_f31:=hC5.out.free 3 1 rfl
  go_wp2_with fail
  refine(quo_b ((hC5.out|>.set 0 rfl|>.set 0 rfl).z 1 rfl) (HGE.out ▸ (hC5.out|>.set 0 rfl|>.set 0 rfl).z 3 rfl) HG0.out B2.out BG.out (by omega) (by omega)).mono ?_
  rintro e w6 ⟨a6,n6,c6,m6,_,_,_,_,rfl,hz,_,hb⟩
  have hC6:=ζ (((hC5.out|>.set 0 rfl|>.set 0 rfl).call hb).pz hz)
  clear hz hb hC5 hC5_c00 hC5_c01 hC5_c10 hC5_c11 hC5_c30 hC5_c31 hC5_f00 hC5_f01 hC5_f10 hC5_f11 hC5_f30 hC5_f31
  have hC6_c10:=hC6.out.cell 1 0 rfl rfl
  have hC6_f10:=hC6.out.free 1 0 rfl
  have hC6_c11:=hC6.out.cell 1 1 rfl rfl
  have hC6_f11:=hC6.out.free 1 1 rfl
  go_wp2_with fail
  refine gen_app (hC6.out|>.set 1 rfl|>.set 1 rfl) ?_
  intro W7 hc7
  have hC7:=ζ hc7
  clear hc7 hC6 hC6_c10 hC6_c11 hC6_f10 hC6_f11
  have HN:=ζ (show Zd W7 (.slice a5 n5 c5) m5 (Rat.divInt z1 z2).num from by have:=hC7.out.z 4 rfl;rwa [HP.out.1]at this)
  have HDn:=ζ (show Dg W7 (.slice a6 n6 c6) (Rat.divInt z1 z2).den from by have:=(hC7.out.z 5 rfl).d;rwa [HP.out.2,Int.natAbs_natCast]at this)
  have hC8:=ζ ((hC7.out.pz HN.out).pd HDn.out)
  clear hC7 HN HDn
  go_region_held3 (fun w'=>w'.cell? ⟨w.heap.size,0,none⟩=some (.slice a5 n5 c5)∧w'.cell? ⟨w.heap.size,1,none⟩=some (.bool m5)∧w'.cell? ⟨w.heap.size+1,0,none⟩=some (.slice a6 n6 c6)∧True)
   (first
    | (with_reducible refine And.intro (?_:World.cell? (World.setCell (World.setCell (World.setCell w10 _ _) _ _) _ _) _=_) ?_;exact(hC10.out|>.set 2 rfl|>.set 2 rfl|>.set 2 rfl).cell 0 0 rfl rfl;exact⟨(hC10.out|>.set 2 rfl|>.set 2 rfl|>.set 2 rfl).cell 0 1 rfl rfl,(hC10.out|>.set 2 rfl|>.set 2 rfl|>.set 2 rfl).cell 1 0 rfl rfl,trivial⟩)
    | (with_reducible refine And.intro (?_:World.cell? w10 _=_) ?_;exact hC10.out.cell 0 0 rfl rfl;exact⟨hC10.out.cell 0 1 rfl rfl,hC10.out.cell 1 0 rfl rfl,trivial⟩)
    | (with_reducible refine And.intro (?_:World.cell? w9 _=_) ?_;exact hC9.out.cell 0 0 rfl rfl;exact⟨hC9.out.cell 0 1 rfl rfl,hC9.out.cell 1 0 rfl rfl,trivial⟩)
    | (with_reducible refine And.intro (?_:World.cell? _ _=_) ?_;exact hC8.out.drew.cell 0 0 rfl rfl;exact⟨hC8.out.drew.cell 0 1 rfl rfl,hC8.out.drew.cell 1 0 rfl rfl,trivial⟩))
   (first
    | (have _t:=hC9;go_at_call 144;refine(plus_any _ _ _ _ _ _ (-1) _ 1 _ (hC9.out.d 7 rfl) (hC9.out.d 8 rfl) (.inr rfl) (by have:=(Rat.divInt z1 z2).den_nz;omega) HLd.out (dg_len_le (by omega) (by omega))).mono ?_;rintro e w10 ⟨a10,n10,c10,rfl,hz,hb⟩;have hC10:=ζ ((hC9.out.call hb).pd hz);clear hz hb;have hC10_c20:=hC10.out.cell 2 0 rfl rfl;have hC10_f20:=hC10.out.free 2 0 rfl;have hC10_c21:=hC10.out.cell 2 1 rfl rfl;have hC10_f21:=hC10.out.free 2 1 rfl;have hC10_c22:=hC10.out.cell 2 2 rfl rfl;have hC10_f22:=hC10.out.free 2 2 rfl;clear _t hC9)
    | (have _t:=hC8;go_at_call 145;refine(word_any 1 _ (by omega)).mono ?_;rintro e w9 ⟨a9,n9,c9,rfl,hz,hb⟩;have hC9:=ζ ((hC8.out.drew.call hb).pd hz);clear hz hb;clear _t hC8)
    | fail)
  go_wp2
  refine ret_st (hC10.out|>.set 2 rfl|>.set 2 rfl|>.set 2 rfl) (v:= .agg #[.slice a5 n5 c5,.bool m5,.slice a10 n10 c10]) (fun hF=>?_) rfl (fun hF=>⟨_,_,_,_,_,_,_,rfl,⟨hF.z 6 rfl,?_⟩,hF.be⟩)
  ·have e0:=hF.cell 2 0 rfl rfl
   have e1:=hF.cell 2 1 rfl rfl
   have e2:=hF.cell 2 2 rfl rfl
   simp [results,Tryz.results92,go_sem,e0,e1,e2]
  ·have:=hF.d 9 rfl
   rwa [HDE.out]at this
section
variable {w:World} {a1:Option Addr} {n1 c1:Nat} {m1:Bool} {z1:Int} {a2:Option Addr} {n2 c2:Nat} {m2:Bool} {z2:Int} {k1 k2:Nat}
theorem ratio_b (h1:Zd w (.slice a1 n1 c1) m1 z1) (h2:Zd w (.slice a2 n2 c2) m2 z2) (b1:Bd k1 z1) (b2:Bd k2 z2) (hk1:k1≤200000) (hk2:k2≤200000) (hz:z2≠0):
  Calls Tryz.prog 92 #[.agg #[.slice a1 n1 c1,.bool m1],.agg #[.slice a2 n2 c2,.bool m2]] w (RetR w (Rat.divInt z1 z2)):=
 ratio_any _ _ _ _ _ _ _ _ _ _ _ h1 h2 k1 k2 b1 b2 hk1 hk2 hz
variable {d1:Option Addr} {e1 f1:Nat} {q1:Rat}
theorem bottom_b (h1:Rd w (.slice a1 n1 c1) m1 (.slice d1 e1 f1) q1) (b1:Bq k1 q1) (hk1:k1≤1000000):
  Calls Tryz.prog 91 #[.agg #[.slice a1 n1 c1,.bool m1,.slice d1 e1 f1]] w (RetZ w q1.den):=bottom_any _ _ _ _ _ _ _ _ _ h1 k1 b1 hk1
end
theorem Dg.nil {w:World} :Dg w (.slice none 0 0) 0:=by unfold Dg;rw [dg_zero];exact Sl.nil
theorem Rd.nil {w:World} :Rd w (.slice none 0 0) false (.slice none 0 0) 0:=⟨Zd.nil,Dg.nil⟩
theorem whole_any (a1:Option Addr) (n1 c1:Nat) (m1:Bool) (z1:Int) (w:World) (h1:Zd w (.slice a1 n1 c1) m1 z1):
  Calls Tryz.prog 101 #[.agg #[.slice a1 n1 c1,.bool m1]] w (RetR w (z1:Rat)):=by
 have hC:=ζ ((((St.enter w).pz h1).al (w.heap.size) #[.slice a1 n1 c1,.bool m1] 40 rfl rfl).al (w.heap.size+1) #[.slice a1 n1 c1,.bool m1,.slice none 0 0] 42 (by simp) rfl)
 clear h1
 go_enter Tryz.func101,Tryz.ntmps101
 go_wp2
 refine ret_st hC.out (v:= .agg #[.slice a1 n1 c1,.bool m1,.slice none 0 0]) (fun hF=>?_) rfl (fun hF=>⟨_,_,_,_,_,_,_,rfl,⟨by rw [Rat.num_intCast];exact hF.z 0 rfl,by rw [Rat.den_intCast];exact Dg.nil⟩,hF.be⟩)
 ·have e0:=hF.cell 1 0 rfl rfl
  have e1:=hF.cell 1 1 rfl rfl
  have e2:=hF.cell 1 2 rfl rfl
  simp [results,Tryz.results101,go_sem,e0,e1,e2]
theorem rneg_any (a1:Option Addr) (n1 c1:Nat) (m1:Bool) (d1:Option Addr) (e1 f1:Nat) (q1:Rat) (w:World) (h1:Rd w (.slice a1 n1 c1) m1 (.slice d1 e1 f1) q1):
  Calls Tryz.prog 100 #[.agg #[.slice a1 n1 c1,.bool m1,.slice d1 e1 f1]] w (RetR w (-q1)):=by
 have hC:=ζ ((((St.enter w).pr h1).al (w.heap.size) #[.slice a1 n1 c1,.bool m1,.slice d1 e1 f1] 42 rfl rfl).al (w.heap.size+1) #[.slice none 0 0,.bool false,.slice none 0 0] 42 (by simp) rfl)
 clear h1
 go_enter Tryz.func100,Tryz.ntmps100
 go_wp2
 go_region_held3 (fun w'=>w'.cell? ⟨w.heap.size,0,none⟩=some (.slice a1 n1 c1)∧w'.cell? ⟨w.heap.size,1,none⟩=some (.bool m1)∧w'.cell? ⟨w.heap.size,2,none⟩=some (.slice d1 e1 f1)∧True)
  (first
   | (with_reducible refine And.intro (?_:World.cell? (World.setCell (World.setCell (World.setCell w3 _ _) _ _) _ _) _=_) ?_;exact(hC3.out|>.set 1 rfl|>.set 1 rfl|>.set 1 rfl).cell 0 0 rfl rfl;exact⟨(hC3.out|>.set 1 rfl|>.set 1 rfl|>.set 1 rfl).cell 0 1 rfl rfl,(hC3.out|>.set 1 rfl|>.set 1 rfl|>.set 1 rfl).cell 0 2 rfl rfl,trivial⟩)
   | (with_reducible refine And.intro (?_:World.cell? w3 _=_) ?_;exact hC3.out.cell 0 0 rfl rfl;exact⟨hC3.out.cell 0 1 rfl rfl,hC3.out.cell 0 2 rfl rfl,trivial⟩)
   | (with_reducible refine And.intro (?_:World.cell? _ _=_) ?_;exact hC.out.drew.cell 0 0 rfl rfl;exact⟨hC.out.drew.cell 0 1 rfl rfl,hC.out.drew.cell 0 2 rfl rfl,trivial⟩))
  (first
   | (have _t:=hC;go_at_call 147;refine(neg_b (hC.out.drew.r 0 rfl).z).mono ?_;rintro e w3 ⟨a3,n3,c3,m3,rfl,hz,hb⟩;have hC3:=ζ ((hC.out.drew.call hb).pz hz);clear hb hz;have hC3_c10:=hC3.out.cell 1 0 rfl rfl;have hC3_f10:=hC3.out.free 1 0 rfl;have hC3_c11:=hC3.out.cell 1 1 rfl rfl;have hC3_f11:=hC3.out.free 1 1 rfl;have hC3_c12:=hC3.out.cell 1 2 rfl rfl;have hC3_f12:=hC3.out.free 1 2 rfl;clear _t hC)
   | fail)
 go_wp2
 refine ret_st (hC3.out|>.set 1 rfl|>.set 1 rfl|>.set 1 rfl) (v:= .agg #[.slice a3 n3 c3,.bool m3,.slice d1 e1 f1]) (fun hF=>?_) rfl (fun hF=>⟨_,_,_,_,_,_,_,rfl,⟨by rw [Rat.neg_num];exact hF.z 1 rfl,by rw [Rat.neg_den];exact(hF.r 0 rfl).d⟩,hF.be⟩)
 ·have e0:=hF.cell 1 0 rfl rfl
  have e1:=hF.cell 1 1 rfl rfl
  have e2:=hF.cell 1 2 rfl rfl
  simp [results,Tryz.results100,go_sem,e0,e1,e2]
theorem rabs_any (a1:Option Addr) (n1 c1:Nat) (m1:Bool) (d1:Option Addr) (e1 f1:Nat) (q1:Rat) (w:World) (h1:Rd w (.slice a1 n1 c1) m1 (.slice d1 e1 f1) q1):
  Calls Tryz.prog 166 #[.agg #[.slice a1 n1 c1,.bool m1,.slice d1 e1 f1]] w (RetR w (q1.abs)):=by
 have hC:=ζ ((((St.enter w).pr h1).al (w.heap.size) #[.slice a1 n1 c1,.bool m1,.slice d1 e1 f1] 42 rfl rfl).al (w.heap.size+1) #[.slice none 0 0,.bool false,.slice none 0 0] 42 (by simp) rfl)
 clear h1
 go_enter Tryz.func166,Tryz.ntmps166
 go_wp2
 go_region_held3 (fun w'=>w'.cell? ⟨w.heap.size,0,none⟩=some (.slice a1 n1 c1)∧w'.cell? ⟨w.heap.size,1,none⟩=some (.bool m1)∧w'.cell? ⟨w.heap.size,2,none⟩=some (.slice d1 e1 f1)∧True)
  (first
   | (with_reducible refine And.intro (?_:World.cell? (World.setCell (World.setCell (World.setCell w3 _ _) _ _) _ _) _=_) ?_;exact(hC3.out|>.set 1 rfl|>.set 1 rfl|>.set 1 rfl).cell 0 0 rfl rfl;exact⟨(hC3.out|>.set 1 rfl|>.set 1 rfl|>.set 1 rfl).cell 0 1 rfl rfl,(hC3.out|>.set 1 rfl|>.set 1 rfl|>.set 1 rfl).cell 0 2 rfl rfl,trivial⟩)
   | (with_reducible refine And.intro (?_:World.cell? w3 _=_) ?_;exact hC3.out.cell 0 0 rfl rfl;exact⟨hC3.out.cell 0 1 rfl rfl,hC3.out.cell 0 2 rfl rfl,trivial⟩)
   | (with_reducible refine And.intro (?_:World.cell? _ _=_) ?_;exact hC.out.drew.cell 0 0 rfl rfl;exact⟨hC.out.drew.cell 0 1 rfl rfl,hC.out.drew.cell 0 2 rfl rfl,trivial⟩))
  (first
   | (have _t:=hC;go_at_call 175;refine(abs_b (hC.out.drew.r 0 rfl).z).mono ?_;rintro e w3 ⟨a3,n3,c3,m3,rfl,hz,hb⟩;have hC3:=ζ ((hC.out.drew.call hb).pz hz);clear hb hz;have hC3_c10:=hC3.out.cell 1 0 rfl rfl;have hC3_f10:=hC3.out.free 1 0 rfl;have hC3_c11:=hC3.out.cell 1 1 rfl rfl;have hC3_f11:=hC3.out.free 1 1 rfl;have hC3_c12:=hC3.out.cell 1 2 rfl rfl;have hC3_f12:=hC3.out.free 1 2 rfl;clear _t hC)
   | fail)
 go_wp2
 refine ret_st (hC3.out|>.set 1 rfl|>.set 1 rfl|>.set 1 rfl) (v:= .agg #[.slice a3 n3 c3,.bool m3,.slice d1 e1 f1]) (fun hF=>?_) rfl (fun hF=>⟨_,_,_,_,_,_,_,rfl,⟨by have:=abs_num q1;unfold Rat.abs;rw [this];exact hF.z 1 rfl,by have:=abs_den q1;unfold Rat.abs;rw [this];exact(hF.r 0 rfl).d⟩,hF.be⟩)
 ·have e0:=hF.cell 1 0 rfl rfl
  have e1:=hF.cell 1 1 rfl rfl
  have e2:=hF.cell 1 2 rfl rfl
  simp [results,Tryz.results166,go_sem,e0,e1,e2]
theorem rmul_any (a1:Option Addr) (n1 c1:Nat) (m1:Bool) (d1:Option Addr) (e1 f1:Nat) (q1:Rat) (a2:Option Addr) (n2 c2:Nat) (m2:Bool) (d2:Option Addr) (e2 f2:Nat) (q2:Rat) (w:World) (h1:Rd w (.slice a1 n1 c1) m1 (.slice d1 e1 f1) q1) (h2:Rd w (.slice a2 n2 c2) m2 (.slice d2 e2 f2) q2) (k1 k2:Nat) (b1:Bq k1 q1) (b2:Bq k2 q2) (hk1:k1≤40000) (hk2:k2≤40000):
  Calls Tryz.prog 46 #[.agg #[.slice a1 n1 c1,.bool m1,.slice d1 e1 f1],.agg #[.slice a2 n2 c2,.bool m2,.slice d2 e2 f2]] w (RetR w (Rat.divInt (q1.num*q2.num) (q1.den*q2.den))):=by
 have B1:=ζ b1
 have B2:=ζ b2
 clear b1 b2
 have hC:=ζ ((((((St.enter w).pr h1).pr h2).al (w.heap.size) #[.slice a1 n1 c1,.bool m1,.slice d1 e1 f1] 42 rfl rfl).al (w.heap.size+1) #[.slice a2 n2 c2,.bool m2,.slice d2 e2 f2] 42 (by simp) rfl).al (w.heap.size+2) #[.slice none 0 0,.bool false,.slice none 0 0] 42 (by simp) rfl)
 clear h1 h2
 go_enter Tryz.func46,Tryz.ntmps46
 go_wp2
 go_region_held3 (fun w'=>w'.cell? ⟨w.heap.size,0,none⟩=some (.slice a1 n1 c1)∧w'.cell? ⟨w.heap.size,1,none⟩=some (.bool m1)∧w'.cell? ⟨w.heap.size,2,none⟩=some (.slice d1 e1 f1)∧w'.cell? ⟨w.heap.size+1,0,none⟩=some (.slice a2 n2 c2)∧w'.cell? ⟨w.heap.size+1,1,none⟩=some (.bool m2)∧w'.cell? ⟨w.heap.size+1,2,none⟩=some (.slice d2 e2 f2)∧True)
  (first
   | (with_reducible refine And.intro (?_:World.cell? (World.setCell (World.setCell (World.setCell w7 _ _) _ _) _ _) _=_) ?_;exact(hC7.out|>.set 2 rfl|>.set 2 rfl|>.set 2 rfl).cell 0 0 rfl rfl;exact⟨(hC7.out|>.set 2 rfl|>.set 2 rfl|>.set 2 rfl).cell 0 1 rfl rfl,(hC7.out|>.set 2 rfl|>.set 2 rfl|>.set 2 rfl).cell 0 2 rfl rfl,(hC7.out|>.set 2 rfl|>.set 2 rfl|>.set 2 rfl).cell 1 0 rfl rfl,(hC7.out|>.set 2 rfl|>.set 2 rfl|>.set 2 rfl).cell 1 1 rfl rfl,(hC7.out|>.set 2 rfl|>.set 2 rfl|>.set 2 rfl).cell 1 2 rfl rfl,trivial⟩)
   | (with_reducible refine And.intro (?_:World.cell? w7 _=_) ?_;exact hC7.out.cell 0 0 rfl rfl;exact⟨hC7.out.cell 0 1 rfl rfl,hC7.out.cell 0 2 rfl rfl,hC7.out.cell 1 0 rfl rfl,hC7.out.cell 1 1 rfl rfl,hC7.out.cell 1 2 rfl rfl,trivial⟩)
   | (with_reducible refine And.intro (?_:World.cell? w6 _=_) ?_;exact hC6.out.cell 0 0 rfl rfl;exact⟨hC6.out.cell 0 1 rfl rfl,hC6.out.cell 0 2 rfl rfl,hC6.out.cell 1 0 rfl rfl,hC6.out.cell 1 1 rfl rfl,hC6.out.cell 1 2 rfl rfl,trivial⟩)
   | (with_reducible refine And.intro (?_:World.cell? w5 _=_) ?_;exact hC5.out.cell 0 0 rfl rfl;exact⟨hC5.out.cell 0 1 rfl rfl,hC5.out.cell 0 2 rfl rfl,hC5.out.cell 1 0 rfl rfl,hC5.out.cell 1 1 rfl rfl,hC5.out.cell 1 2 rfl rfl,trivial⟩)
   | (with_reducible refine And.intro (?_:World.cell? w4 _=_) ?_;exact hC4.out.cell 0 0 rfl rfl;exact⟨hC4.out.cell 0 1 rfl rfl,hC4.out.cell 0 2 rfl rfl,hC4.out.cell 1 0 rfl rfl,hC4.out.cell 1 1 rfl rfl,hC4.out.cell 1 2 rfl rfl,trivial⟩)
   | (with_reducible refine And.intro (?_:World.cell? w3 _=_) ?_;exact hC3.out.cell 0 0 rfl rfl;exact⟨hC3.out.cell 0 1 rfl rfl,hC3.out.cell 0 2 rfl rfl,hC3.out.cell 1 0 rfl rfl,hC3.out.cell 1 1 rfl rfl,hC3.out.cell 1 2 rfl rfl,trivial⟩)
   | (with_reducible refine And.intro (?_:World.cell? _ _=_) ?_;exact hC.out.drew.cell 0 0 rfl rfl;exact⟨hC.out.drew.cell 0 1 rfl rfl,hC.out.drew.cell 0 2 rfl rfl,hC.out.drew.cell 1 0 rfl rfl,hC.out.drew.cell 1 1 rfl rfl,hC.out.drew.cell 1 2 rfl rfl,trivial⟩))
  (first
   | (have _t:=hC6;go_at_call 92;refine(ratio_b (hC6.out.z 2 rfl) (hC6.out.z 5 rfl) (B1.out.num.mul B2.out.num) (B1.out.den.mul B2.out.den) (by omega) (by omega) (Int.mul_ne_zero (den_ne q1) (den_ne q2))).mono ?_;rintro e w7 ⟨a7,n7,c7,m7,d7,e7,f7,rfl,hz,hb⟩;have hC7:=ζ ((hC6.out.call hb).pr hz);clear hb hz;have hC7_c20:=hC7.out.cell 2 0 rfl rfl;have hC7_f20:=hC7.out.free 2 0 rfl;have hC7_c21:=hC7.out.cell 2 1 rfl rfl;have hC7_f21:=hC7.out.free 2 1 rfl;have hC7_c22:=hC7.out.cell 2 2 rfl rfl;have hC7_f22:=hC7.out.free 2 2 rfl;clear _t hC6)
   | (have _t:=hC5;go_at_call 93;refine(mul_b (hC5.out.z 3 rfl) (hC5.out.z 4 rfl) B1.out.den B2.out.den (by omega) (by omega)).mono ?_;rintro e w6 ⟨a6,n6,c6,m6,rfl,hz,hb⟩;have hC6:=ζ ((hC5.out.call hb).pz hz);clear hb hz;clear _t hC5)
   | (have _t:=hC4;go_at_call 91;refine(bottom_b (hC4.out.r 1 rfl) B2.out (by omega)).mono ?_;rintro e w5 ⟨a5,n5,c5,m5,rfl,hz,hb⟩;have hC5:=ζ ((hC4.out.call hb).pz hz);clear hb hz;clear _t hC4)
   | (have _t:=hC3;go_at_call 91;refine(bottom_b (hC3.out.r 0 rfl) B1.out (by omega)).mono ?_;rintro e w4 ⟨a4,n4,c4,m4,rfl,hz,hb⟩;have hC4:=ζ ((hC3.out.call hb).pz hz);clear hb hz;clear _t hC3)
   | (have _t:=hC;go_at_call 93;refine(mul_b (hC.out.drew.r 0 rfl).z (hC.out.drew.r 1 rfl).z B1.out.num B2.out.num (by omega) (by omega)).mono ?_;rintro e w3 ⟨a3,n3,c3,m3,rfl,hz,hb⟩;have hC3:=ζ ((hC.out.drew.call hb).pz hz);clear hb hz;clear _t hC)
   | fail)
 go_wp2
 refine ret_st (hC7.out|>.set 2 rfl|>.set 2 rfl|>.set 2 rfl) (v:= .agg #[.slice a7 n7 c7,.bool m7,.slice d7 e7 f7]) (fun hF=>?_) rfl (fun hF=>⟨_,_,_,_,_,_,_,rfl,hF.r 6 rfl,hF.be⟩)
 ·have e0:=hF.cell 2 0 rfl rfl
  have e1:=hF.cell 2 1 rfl rfl
  have e2:=hF.cell 2 2 rfl rfl
  simp [results,Tryz.results46,go_sem,e0,e1,e2]
theorem rsign_any (a1:Option Addr) (n1 c1:Nat) (m1:Bool) (d1:Option Addr) (e1 f1:Nat) (q1:Rat) (w:World) (h1:Rd w (.slice a1 n1 c1) m1 (.slice d1 e1 f1) q1):
  Calls Tryz.prog 47 #[.agg #[.slice a1 n1 c1,.bool m1,.slice d1 e1 f1]] w (fun e w'=>e= .returned (.int .i64 (sgnQ q1))∧Below w.heap.size w w'):=by
 have hC:=ζ (((St.enter w).pr h1).al (w.heap.size) #[.slice a1 n1 c1,.bool m1,.slice d1 e1 f1] 42 rfl rfl)
 clear h1
 go_enter Tryz.func47,Tryz.ntmps47
 have hC_c00:=hC.out.cell 0 0 rfl rfl
 have hC_f00:=hC.out.free 0 0 rfl
 have hC_c01:=hC.out.cell 0 1 rfl rfl
 have hC_f01:=hC.out.free 0 1 rfl
 go_wp2_with fail
 refine(sign_b (hC.out.r 0 rfl).z).mono ?_
 rintro e w3 ⟨rfl,hb⟩
 have hC3:=ζ ((hC.out.call hb))
 clear hb
 clear hC
 go_wp2
 go_ret
 exact⟨by rw [←sgn_num];rfl,hC3.out.be⟩
theorem rcmp_any (a1:Option Addr) (n1 c1:Nat) (m1:Bool) (d1:Option Addr) (e1 f1:Nat) (q1:Rat) (a2:Option Addr) (n2 c2:Nat) (m2:Bool) (d2:Option Addr) (e2 f2:Nat) (q2:Rat) (w:World) (h1:Rd w (.slice a1 n1 c1) m1 (.slice d1 e1 f1) q1) (h2:Rd w (.slice a2 n2 c2) m2 (.slice d2 e2 f2) q2) (k1 k2:Nat) (b1:Bq k1 q1) (b2:Bq k2 q2) (hk1:k1≤40000) (hk2:k2≤40000):
  Calls Tryz.prog 41 #[.agg #[.slice a1 n1 c1,.bool m1,.slice d1 e1 f1],.agg #[.slice a2 n2 c2,.bool m2,.slice d2 e2 f2]] w (fun e w'=>e= .returned (.int .i64 (cmpQ q1 q2))∧Below w.heap.size w w'):=by
 have B1:=ζ b1
 have B2:=ζ b2
 clear b1 b2
 have hC:=ζ (((((St.enter w).pr h1).pr h2).al (w.heap.size) #[.slice a1 n1 c1,.bool m1,.slice d1 e1 f1] 42 rfl rfl).al (w.heap.size+1) #[.slice a2 n2 c2,.bool m2,.slice d2 e2 f2] 42 (by simp) rfl)
 clear h1 h2
 go_enter Tryz.func41,Tryz.ntmps41
 go_wp2
 go_region_held3 (fun w'=>w'.cell? ⟨w.heap.size,0,none⟩=some (.slice a1 n1 c1)∧w'.cell? ⟨w.heap.size,1,none⟩=some (.bool m1)∧w'.cell? ⟨w.heap.size,2,none⟩=some (.slice d1 e1 f1)∧w'.cell? ⟨w.heap.size+1,0,none⟩=some (.slice a2 n2 c2)∧w'.cell? ⟨w.heap.size+1,1,none⟩=some (.bool m2)∧w'.cell? ⟨w.heap.size+1,2,none⟩=some (.slice d2 e2 f2)∧True)
  (first
   | (with_reducible refine And.intro (?_:World.cell? w7 _=_) ?_;exact hC7.out.cell 0 0 rfl rfl;exact⟨hC7.out.cell 0 1 rfl rfl,hC7.out.cell 0 2 rfl rfl,hC7.out.cell 1 0 rfl rfl,hC7.out.cell 1 1 rfl rfl,hC7.out.cell 1 2 rfl rfl,trivial⟩)
   | (with_reducible refine And.intro (?_:World.cell? w6 _=_) ?_;exact hC6.out.cell 0 0 rfl rfl;exact⟨hC6.out.cell 0 1 rfl rfl,hC6.out.cell 0 2 rfl rfl,hC6.out.cell 1 0 rfl rfl,hC6.out.cell 1 1 rfl rfl,hC6.out.cell 1 2 rfl rfl,trivial⟩)
   | (with_reducible refine And.intro (?_:World.cell? w5 _=_) ?_;exact hC5.out.cell 0 0 rfl rfl;exact⟨hC5.out.cell 0 1 rfl rfl,hC5.out.cell 0 2 rfl rfl,hC5.out.cell 1 0 rfl rfl,hC5.out.cell 1 1 rfl rfl,hC5.out.cell 1 2 rfl rfl,trivial⟩)
   | (with_reducible refine And.intro (?_:World.cell? w4 _=_) ?_;exact hC4.out.cell 0 0 rfl rfl;exact⟨hC4.out.cell 0 1 rfl rfl,hC4.out.cell 0 2 rfl rfl,hC4.out.cell 1 0 rfl rfl,hC4.out.cell 1 1 rfl rfl,hC4.out.cell 1 2 rfl rfl,trivial⟩)
   | (with_reducible refine And.intro (?_:World.cell? w3 _=_) ?_;exact hC3.out.cell 0 0 rfl rfl;exact⟨hC3.out.cell 0 1 rfl rfl,hC3.out.cell 0 2 rfl rfl,hC3.out.cell 1 0 rfl rfl,hC3.out.cell 1 1 rfl rfl,hC3.out.cell 1 2 rfl rfl,trivial⟩)
   | (with_reducible refine And.intro (?_:World.cell? _ _=_) ?_;exact hC.out.drew.cell 0 0 rfl rfl;exact⟨hC.out.drew.cell 0 1 rfl rfl,hC.out.drew.cell 0 2 rfl rfl,hC.out.drew.cell 1 0 rfl rfl,hC.out.drew.cell 1 1 rfl rfl,hC.out.drew.cell 1 2 rfl rfl,trivial⟩))
  (first
   | (have _t:=hC6;go_at_call 95;refine(cmp_b (hC6.out.z 3 rfl) (hC6.out.z 5 rfl) (B1.out.num.mul B2.out.den) (B2.out.num.mul B1.out.den) (by omega) (by omega)).mono ?_;rintro e w7 ⟨rfl,hb⟩;have hC7:=ζ ((hC6.out.call hb));clear hb;clear _t hC6)
   | (have _t:=hC5;go_at_call 93;refine(mul_b (hC5.out.r 1 rfl).z (hC5.out.z 4 rfl) B2.out.num B1.out.den (by omega) (by omega)).mono ?_;rintro e w6 ⟨a6,n6,c6,m6,rfl,hz,hb⟩;have hC6:=ζ ((hC5.out.call hb).pz hz);clear hb hz;clear _t hC5)
   | (have _t:=hC4;go_at_call 91;refine(bottom_b (hC4.out.r 0 rfl) B1.out (by omega)).mono ?_;rintro e w5 ⟨a5,n5,c5,m5,rfl,hz,hb⟩;have hC5:=ζ ((hC4.out.call hb).pz hz);clear hb hz;clear _t hC4)
   | (have _t:=hC3;go_at_call 93;refine(mul_b (hC3.out.r 0 rfl).z (hC3.out.z 2 rfl) B1.out.num B2.out.den (by omega) (by omega)).mono ?_;rintro e w4 ⟨a4,n4,c4,m4,rfl,hz,hb⟩;have hC4:=ζ ((hC3.out.call hb).pz hz);clear hb hz;clear _t hC3)
   | (have _t:=hC;go_at_call 91;refine(bottom_b (hC.out.drew.r 1 rfl) B2.out (by omega)).mono ?_;rintro e w3 ⟨a3,n3,c3,m3,rfl,hz,hb⟩;have hC3:=ζ ((hC.out.drew.call hb).pz hz);clear hb hz;clear _t hC)
   | fail)
 go_wp2
 go_ret
 exact⟨by rw [←sgn_cross];rfl,hC7.out.be⟩
theorem ofz_zero (a1:Option Addr) (n1 c1:Nat) (m1:Bool) (z1:Int) (a2:Option Addr) (n2 c2:Nat) (m2:Bool) (z2:Int) (w:World) (h1:Zd w (.slice a1 n1 c1) m1 z1) (h2:Zd w (.slice a2 n2 c2) m2 z2) (hz:z2=0):
  Calls Tryz.prog 98 #[.agg #[.slice a1 n1 c1,.bool m1],.agg #[.slice a2 n2 c2,.bool m2]] w (RetRE w 0 9):=by
 have hn0:((n2:Int)==0)=true:=by simpa using h2.len0.2 hz
 have HN:=ζ hn0
 clear hn0 hz
 have hC:=ζ ((((((St.enter w).pz h1).pz h2).al (w.heap.size) #[.slice a1 n1 c1,.bool m1] 40 rfl rfl).al (w.heap.size+1) #[.slice a2 n2 c2,.bool m2] 40 (by simp) rfl).al (w.heap.size+2) #[.slice none 0 0,.bool false,.slice none 0 0] 42 (by simp) rfl)
 clear h1 h2
 go_enter Tryz.func98,Tryz.ntmps98
 have hC_c10:=hC.out.cell 1 0 rfl rfl
 have hC_f10:=hC.out.free 1 0 rfl
 go_wp2_with fail
 refine(none_any _ _ _ _).mono ?_
 rintro e w3 ⟨rfl,hw⟩
 have hC3:=ζ (hC.out.call (W':=w3) (by rw [hw];exact(Below.refl _ _).alloc (Nat.le_refl _) _))
 clear hC hw
 rw [HN.out]
 have hC3_c20:=hC3.out.cell 2 0 rfl rfl
 have hC3_f20:=hC3.out.free 2 0 rfl
 have hC3_c21:=hC3.out.cell 2 1 rfl rfl
 have hC3_f21:=hC3.out.free 2 1 rfl
 have hC3_c22:=hC3.out.cell 2 2 rfl rfl
 have hC3_f22:=hC3.out.free 2 2 rfl
 go_wp2
 refine ret_st (hC3.out|>.set 2 rfl|>.set 2 rfl|>.set 2 rfl) (v:= .tuple #[.agg #[.slice none 0 0,.bool false,.slice none 0 0],.int .i64 9]) (fun hF=>?_) rfl (fun hF=>⟨_,_,_,_,_,_,_,rfl,Rd.nil,hF.be⟩)
 ·have e0:=hF.cell 2 0 rfl rfl
  have e1:=hF.cell 2 1 rfl rfl
  have e2:=hF.cell 2 2 rfl rfl
  simp [results,Tryz.results98,go_sem,e0,e1,e2]
theorem ofz_nz (a1:Option Addr) (n1 c1:Nat) (m1:Bool) (z1:Int) (a2:Option Addr) (n2 c2:Nat) (m2:Bool) (z2:Int) (w:World) (h1:Zd w (.slice a1 n1 c1) m1 z1) (h2:Zd w (.slice a2 n2 c2) m2 z2) (k1 k2:Nat) (b1:Bd k1 z1) (b2:Bd k2 z2) (hk1:k1≤200000) (hk2:k2≤200000) (hz:z2≠0):
  Calls Tryz.prog 98 #[.agg #[.slice a1 n1 c1,.bool m1],.agg #[.slice a2 n2 c2,.bool m2]] w (RetRE w (Rat.divInt z1 z2) 0):=by
 have hn0:((n2:Int)==0)=false:=by simpa using fun e=>hz (h2.len0.1 e)
 have HN:=ζ hn0
 have HZ:=ζ hz
 have B1:=ζ b1
 have B2:=ζ b2
 clear b1 b2
 clear hn0 hz
 have hC:=ζ ((((((St.enter w).pz h1).pz h2).al (w.heap.size) #[.slice a1 n1 c1,.bool m1] 40 rfl rfl).al (w.heap.size+1) #[.slice a2 n2 c2,.bool m2] 40 (by simp) rfl).al (w.heap.size+2) #[.slice none 0 0,.bool false,.slice none 0 0] 42 (by simp) rfl)
 clear h1 h2
 go_enter Tryz.func98,Tryz.ntmps98
 have hC_c10:=hC.out.cell 1 0 rfl rfl
 have hC_f10:=hC.out.free 1 0 rfl
 go_wp2_with fail
 refine(none_any _ _ _ _).mono ?_
 rintro e w3 ⟨rfl,hw⟩
 have hC3:=ζ (hC.out.call (W':=w3) (by rw [hw];exact(Below.refl _ _).alloc (Nat.le_refl _) _))
 clear hC hw
 rw [HN.out]
 have hC3_c00:=hC3.out.cell 0 0 rfl rfl
 have hC3_f00:=hC3.out.free 0 0 rfl
 have hC3_c01:=hC3.out.cell 0 1 rfl rfl
 have hC3_f01:=hC3.out.free 0 1 rfl
 have hC3_c10:=hC3.out.cell 1 0 rfl rfl
 have hC3_f10:=hC3.out.free 1 0 rfl
 have hC3_c11:=hC3.out.cell 1 1 rfl rfl
 have hC3_f11:=hC3.out.free 1 1 rfl
 go_wp2_with fail
 refine(ratio_b (hC3.out.z 0 rfl) (hC3.out.z 1 rfl) B1.out B2.out (by omega) (by omega) HZ.out).mono ?_
 rintro e w4 ⟨a4,n4,c4,m4,d4,e4,f4,rfl,hz,hb⟩
 have hC4:=ζ ((hC3.out.call hb).pr hz)
 clear hb hz
 have hC4_c20:=hC4.out.cell 2 0 rfl rfl
 have hC4_f20:=hC4.out.free 2 0 rfl
 have hC4_c21:=hC4.out.cell 2 1 rfl rfl
 have hC4_f21:=hC4.out.free 2 1 rfl
 have hC4_c22:=hC4.out.cell 2 2 rfl rfl
 have hC4_f22:=hC4.out.free 2 2 rfl
 clear hC3
 go_wp2
 refine ret_st (hC4.out|>.set 2 rfl|>.set 2 rfl|>.set 2 rfl) (v:= .tuple #[.agg #[.slice a4 n4 c4,.bool m4,.slice d4 e4 f4],.int .i64 0]) (fun hF=>?_) rfl (fun hF=>⟨_,_,_,_,_,_,_,rfl,hF.r 2 rfl,hF.be⟩)
 ·have e0:=hF.cell 2 0 rfl rfl
  have e1:=hF.cell 2 1 rfl rfl
  have e2:=hF.cell 2 2 rfl rfl
  simp [results,Tryz.results98,go_sem,e0,e1,e2]
section
variable {w:World} {a1:Option Addr} {n1 c1:Nat} {m1:Bool} {z1:Int} {a2:Option Addr} {n2 c2:Nat} {m2:Bool} {z2:Int} {k1 k2:Nat}
def ofzE (z2:Int):Int:=if z2=0 then 9 else 0
theorem ofz_b (h1:Zd w (.slice a1 n1 c1) m1 z1) (h2:Zd w (.slice a2 n2 c2) m2 z2) (b1:Bd k1 z1) (b2:Bd k2 z2) (hk1:k1≤200000) (hk2:k2≤200000):
  Calls Tryz.prog 98 #[.agg #[.slice a1 n1 c1,.bool m1],.agg #[.slice a2 n2 c2,.bool m2]] w (RetRE w (Rat.divInt z1 z2) (ofzE z2)):=by
 by_cases hz:z2=0
 ·have:=ofz_zero _ _ _ _ _ _ _ _ _ _ _ h1 h2 hz
  unfold ofzE;rw [if_pos hz,hz,Rat.divInt_zero];exact this
 ·have:=ofz_nz _ _ _ _ _ _ _ _ _ _ _ h1 h2 k1 k2 b1 b2 hk1 hk2 hz
  unfold ofzE;rw [if_neg hz];exact this
end
theorem of_any (k:Int) (hk: -9223372036854775808≤k∧k < 9223372036854775808) (w:World):Calls Tryz.prog 45 #[.int .i64 k] w (RetR w (k:Rat)):=by
 have hC:=ζ ((St.enter w).al (w.heap.size) #[.slice none 0 0,.bool false,.slice none 0 0] 42 rfl rfl)
 go_enter Tryz.func45,Tryz.ntmps45
 go_wp2_with fail
 refine(int_any k hk _).mono ?_
 rintro e w3 ⟨a3,n3,c3,m3,rfl,hz,hb⟩
 have hC3:=ζ ((hC.out.call hb).pz hz)
 clear hb hz
 clear hC
 go_wp2_with fail
 refine(whole_any _ _ _ _ _ _ (hC3.out.z 0 rfl)).mono ?_
 rintro e w4 ⟨a4,n4,c4,m4,d4,e4,f4,rfl,hz,hb⟩
 have hC4:=ζ ((hC3.out.call hb).pr hz)
 clear hb hz
 have hC4_c00:=hC4.out.cell 0 0 rfl rfl
 have hC4_f00:=hC4.out.free 0 0 rfl
 have hC4_c01:=hC4.out.cell 0 1 rfl rfl
 have hC4_f01:=hC4.out.free 0 1 rfl
 have hC4_c02:=hC4.out.cell 0 2 rfl rfl
 have hC4_f02:=hC4.out.free 0 2 rfl
 clear hC3
 go_wp2
 refine ret_st (hC4.out|>.set 0 rfl|>.set 0 rfl|>.set 0 rfl) (v:= .agg #[.slice a4 n4 c4,.bool m4,.slice d4 e4 f4]) (fun hF=>?_) rfl (fun hF=>⟨_,_,_,_,_,_,_,rfl,hF.r 1 rfl,hF.be⟩)
 ·have e0:=hF.cell 0 0 rfl rfl
  have e1:=hF.cell 0 1 rfl rfl
  have e2:=hF.cell 0 2 rfl rfl
  simp [results,Tryz.results45,go_sem,e0,e1,e2]
theorem rdiv_any (a1:Option Addr) (n1 c1:Nat) (m1:Bool) (d1:Option Addr) (e1 f1:Nat) (q1:Rat) (a2:Option Addr) (n2 c2:Nat) (m2:Bool) (d2:Option Addr) (e2 f2:Nat) (q2:Rat) (w:World) (h1:Rd w (.slice a1 n1 c1) m1 (.slice d1 e1 f1) q1) (h2:Rd w (.slice a2 n2 c2) m2 (.slice d2 e2 f2) q2) (k1 k2:Nat) (b1:Bq k1 q1) (b2:Bq k2 q2) (hk1:k1≤40000) (hk2:k2≤40000):
  Calls Tryz.prog 176 #[.agg #[.slice a1 n1 c1,.bool m1,.slice d1 e1 f1],.agg #[.slice a2 n2 c2,.bool m2,.slice d2 e2 f2]] w (RetRE w (Rat.divInt (q1.num*q2.den) (q1.den*q2.num)) (ofzE (q1.den*q2.num))):=by
 have B1:=ζ b1
 have B2:=ζ b2
 clear b1 b2
 have hC:=ζ ((((((St.enter w).pr h1).pr h2).al (w.heap.size) #[.slice a1 n1 c1,.bool m1,.slice d1 e1 f1] 42 rfl rfl).al (w.heap.size+1) #[.slice a2 n2 c2,.bool m2,.slice d2 e2 f2] 42 (by simp) rfl).al (w.heap.size+2) #[.slice none 0 0,.bool false,.slice none 0 0] 42 (by simp) rfl)
 clear h1 h2
 go_enter Tryz.func176,Tryz.ntmps176
 go_wp2
 go_region_held3 (fun w'=>w'.cell? ⟨w.heap.size,0,none⟩=some (.slice a1 n1 c1)∧w'.cell? ⟨w.heap.size,1,none⟩=some (.bool m1)∧w'.cell? ⟨w.heap.size,2,none⟩=some (.slice d1 e1 f1)∧w'.cell? ⟨w.heap.size+1,0,none⟩=some (.slice a2 n2 c2)∧w'.cell? ⟨w.heap.size+1,1,none⟩=some (.bool m2)∧w'.cell? ⟨w.heap.size+1,2,none⟩=some (.slice d2 e2 f2)∧True)
  (first
   | (with_reducible refine And.intro (?_:World.cell? (World.setCell (World.setCell (World.setCell w7 _ _) _ _) _ _) _=_) ?_;exact(hC7.out|>.set 2 rfl|>.set 2 rfl|>.set 2 rfl).cell 0 0 rfl rfl;exact⟨(hC7.out|>.set 2 rfl|>.set 2 rfl|>.set 2 rfl).cell 0 1 rfl rfl,(hC7.out|>.set 2 rfl|>.set 2 rfl|>.set 2 rfl).cell 0 2 rfl rfl,(hC7.out|>.set 2 rfl|>.set 2 rfl|>.set 2 rfl).cell 1 0 rfl rfl,(hC7.out|>.set 2 rfl|>.set 2 rfl|>.set 2 rfl).cell 1 1 rfl rfl,(hC7.out|>.set 2 rfl|>.set 2 rfl|>.set 2 rfl).cell 1 2 rfl rfl,trivial⟩)
   | (with_reducible refine And.intro (?_:World.cell? w7 _=_) ?_;exact hC7.out.cell 0 0 rfl rfl;exact⟨hC7.out.cell 0 1 rfl rfl,hC7.out.cell 0 2 rfl rfl,hC7.out.cell 1 0 rfl rfl,hC7.out.cell 1 1 rfl rfl,hC7.out.cell 1 2 rfl rfl,trivial⟩)
   | (with_reducible refine And.intro (?_:World.cell? w6 _=_) ?_;exact hC6.out.cell 0 0 rfl rfl;exact⟨hC6.out.cell 0 1 rfl rfl,hC6.out.cell 0 2 rfl rfl,hC6.out.cell 1 0 rfl rfl,hC6.out.cell 1 1 rfl rfl,hC6.out.cell 1 2 rfl rfl,trivial⟩)
   | (with_reducible refine And.intro (?_:World.cell? w5 _=_) ?_;exact hC5.out.cell 0 0 rfl rfl;exact⟨hC5.out.cell 0 1 rfl rfl,hC5.out.cell 0 2 rfl rfl,hC5.out.cell 1 0 rfl rfl,hC5.out.cell 1 1 rfl rfl,hC5.out.cell 1 2 rfl rfl,trivial⟩)
   | (with_reducible refine And.intro (?_:World.cell? w4 _=_) ?_;exact hC4.out.cell 0 0 rfl rfl;exact⟨hC4.out.cell 0 1 rfl rfl,hC4.out.cell 0 2 rfl rfl,hC4.out.cell 1 0 rfl rfl,hC4.out.cell 1 1 rfl rfl,hC4.out.cell 1 2 rfl rfl,trivial⟩)
   | (with_reducible refine And.intro (?_:World.cell? w3 _=_) ?_;exact hC3.out.cell 0 0 rfl rfl;exact⟨hC3.out.cell 0 1 rfl rfl,hC3.out.cell 0 2 rfl rfl,hC3.out.cell 1 0 rfl rfl,hC3.out.cell 1 1 rfl rfl,hC3.out.cell 1 2 rfl rfl,trivial⟩)
   | (with_reducible refine And.intro (?_:World.cell? _ _=_) ?_;exact hC.out.drew.cell 0 0 rfl rfl;exact⟨hC.out.drew.cell 0 1 rfl rfl,hC.out.drew.cell 0 2 rfl rfl,hC.out.drew.cell 1 0 rfl rfl,hC.out.drew.cell 1 1 rfl rfl,hC.out.drew.cell 1 2 rfl rfl,trivial⟩))
  (first
   | (have _t:=hC6;go_at_call 98;refine(ofz_b (hC6.out.z 3 rfl) (hC6.out.z 5 rfl) (B1.out.num.mul B2.out.den) (B1.out.den.mul B2.out.num) (by omega) (by omega)).mono ?_;rintro e w7 ⟨a7,n7,c7,m7,d7,e7,f7,rfl,hz,hb⟩;have hC7:=ζ ((hC6.out.call hb).pr hz);clear hb hz;have hC7_c20:=hC7.out.cell 2 0 rfl rfl;have hC7_f20:=hC7.out.free 2 0 rfl;have hC7_c21:=hC7.out.cell 2 1 rfl rfl;have hC7_f21:=hC7.out.free 2 1 rfl;have hC7_c22:=hC7.out.cell 2 2 rfl rfl;have hC7_f22:=hC7.out.free 2 2 rfl;clear _t hC6)
   | (have _t:=hC5;go_at_call 93;refine(mul_b (hC5.out.z 4 rfl) (hC5.out.r 1 rfl).z B1.out.den B2.out.num (by omega) (by omega)).mono ?_;rintro e w6 ⟨a6,n6,c6,m6,rfl,hz,hb⟩;have hC6:=ζ ((hC5.out.call hb).pz hz);clear hb hz;clear _t hC5)
   | (have _t:=hC4;go_at_call 91;refine(bottom_b (hC4.out.r 0 rfl) B1.out (by omega)).mono ?_;rintro e w5 ⟨a5,n5,c5,m5,rfl,hz,hb⟩;have hC5:=ζ ((hC4.out.call hb).pz hz);clear hb hz;clear _t hC4)
   | (have _t:=hC3;go_at_call 93;refine(mul_b (hC3.out.r 0 rfl).z (hC3.out.z 2 rfl) B1.out.num B2.out.den (by omega) (by omega)).mono ?_;rintro e w4 ⟨a4,n4,c4,m4,rfl,hz,hb⟩;have hC4:=ζ ((hC3.out.call hb).pz hz);clear hb hz;clear _t hC3)
   | (have _t:=hC;go_at_call 91;refine(bottom_b (hC.out.drew.r 1 rfl) B2.out (by omega)).mono ?_;rintro e w3 ⟨a3,n3,c3,m3,rfl,hz,hb⟩;have hC3:=ζ ((hC.out.drew.call hb).pz hz);clear hb hz;clear _t hC)
   | fail)
 go_wp2
 refine ret_st (hC7.out|>.set 2 rfl|>.set 2 rfl|>.set 2 rfl) (v:= .tuple #[.agg #[.slice a7 n7 c7,.bool m7,.slice d7 e7 f7],.int .i64 (ofzE (q1.den*q2.num))]) (fun hF=>?_) rfl (fun hF=>⟨_,_,_,_,_,_,_,rfl,hF.r 6 rfl,hF.be⟩)
 ·have e0:=hF.cell 2 0 rfl rfl
  have e1:=hF.cell 2 1 rfl rfl
  have e2:=hF.cell 2 2 rfl rfl
  simp [results,Tryz.results176,go_sem,e0,e1,e2]
end Go.Proofs.YthmdhlopeponcaaGreatDoor
