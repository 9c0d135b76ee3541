/- leading, share: a guess that is not below 0 and not too great -/
import Derived.Test.YthmdhlopeponcaaGreatDoorX0
import Derived.Test.YthmdhlopeponcaaGreatDoorX7
import Derived.Test.YthmdhlopeponcaaGreatDoorX11
set_option maxRecDepth 100000
set_option maxHeartbeats 1000000
namespace Go.Proofs.YthmdhlopeponcaaGreatDoor
open Go.RowKit Dig Flt
def FU (x K:Nat):Prop:=x≤(K+1023)*4503599627370496
def FL (x:Nat):Prop:=1023*4503599627370496≤x
theorem FU.mono {x K L:Nat} (h:FU x K) (hl:K≤L):FU x L:=Nat.le_trans h (Nat.mul_le_mul_right _ (by omega))
theorem near_fu {m:Nat} {p:Int} {K:Nat} (hK:K≤900) (h:Up m p K):FU (Ieee.double.nearest false m p) (K+1):=near_ub m p K hK h
theorem fadd_ub {x y K:Nat} (hK:K≤800) (hx:FU x K) (hy:FU y K):∃r,floatBits .add .f64 x y=some r∧FU r (K+2)∧(FL x→FL r):=by
 obtain ⟨m,i,e1,u1,l1⟩:=read_ub x K (by omega) hx
 obtain ⟨n,j,e2,u2,_⟩:=read_ub y K (by omega) hy
 obtain ⟨t,e,e3,u3,l3⟩:=sum_up u1 u2
 refine⟨Ieee.double.nearest false t e,?_,near_fu (K:=K+1) (by omega) (by rw [Int.natCast_add];exact u3),fun h=>?_⟩
 ·show Ieee.Format.add Ieee.double x y=_
  unfold Ieee.Format.add
  rw [e1,e2,e3];rfl
 ·have l:=l3 (l1 h)
  exact near_lb t e l (by have:=u3.resolve_left l.1;omega)
theorem fmul_ub {x y K L:Nat} (hK:K+L≤800) (hx:FU x K) (hy:FU y L):∃r,floatBits .mul .f64 x y=some r∧FU r (K+L+2):=by
 obtain ⟨m,i,e1,u1,l1⟩:=read_ub x K (by omega) hx
 obtain ⟨n,j,e2,u2,_⟩:=read_ub y L (by omega) hy
 obtain ⟨t,e,e3,u3⟩:=prod_up u1 u2
 refine⟨Ieee.double.nearest false t e,?_,near_fu (K:=K+L+1) (by omega) (by simpa using u3)⟩
 show Ieee.Format.mul Ieee.double x y=_
 unfold Ieee.Format.mul
 rw [e1,e2,e3];rfl
theorem fquo_ub {x y K L:Nat} (hK:K≤800) (hL:L≤800) (hx:FU x K) (hy:FU y L) (hl:FL y):∃r,floatBits .quo .f64 x y=some r∧FU r (K+1):=by
 obtain ⟨m,i,e1,u1,l1⟩:=read_ub x K (by omega) hx
 obtain ⟨n,j,e2,u2,l2⟩:=read_ub y L (by omega) hy
 obtain ⟨hn,hj⟩:=l2 hl
 obtain ⟨t,e,e3,u3⟩:=quot_up (K:=(K:Int)) (j:=j) u1 hn
 refine⟨Ieee.double.nearest false t e,?_,near_fu (K:=K) (by omega) (u3.imp id (fun h=>by omega))⟩
 show Ieee.Format.div Ieee.double x y=_
 unfold Ieee.Format.div
 rw [e1,e2,show Ieee.double.fractionBits+2=54 from rfl,e3];rfl
theorem fint_ub {n:Int} (h:0≤n∧n < 16777216):FU (floatOfInt .f64 n) 24∧(1≤n→FL (floatOfInt .f64 n)):=by
 obtain ⟨m,rfl⟩:=Int.eq_ofNat_of_zero_le h.1
 have e:floatOfInt .f64 (m:Int)=Ieee.double.nearest false m 0:=by
  show Ieee.double.nearest (decide ((m:Int) < 0)) (m:Int).natAbs 0=_
  rw [decide_eq_false (by omega),Int.natAbs_natCast]
 rw [e]
 constructor
 ·refine near_fu (K:=23) (by omega) ?_
  by_cases hm:m=0
  ·exact .inl hm
  ·have:=(Nat.log2_lt (k:=24) hm).2 (by omega)
   exact .inr (by omega)
 ·intro h1
  refine near_lb m 0 ⟨by omega,by omega⟩ ?_
  have:=(Nat.log2_lt (n:=m) (k:=24) (by omega)).2 (by omega)
  omega
theorem ftoint_ub {x K:Nat} (hK:K≤61) (hx:FU x K):∃n:Nat,floatToIntVal .f64 x .i64=some (n:Int)∧n < 2 ^ (K+1):=by
 obtain ⟨m,i,e1,u1,_⟩:=read_ub x K (by omega) hx
 obtain ⟨n,e2,h2⟩:=toInt_up u1
 refine⟨n,?_,h2⟩
 have h3:n < 2 ^ 62:=Nat.lt_of_lt_of_le h2 (Nat.pow_le_pow_right (by omega) (by omega))
 unfold floatToIntVal
 rw [show FloatKind.decode .f64 x=Ieee.Datum.number false m i from e1,e2]
 simp only []
 rw [if_pos]
 constructor
 ·simp [IntKind.min,IntKind.signed,IntKind.bits]
 ·simp [IntKind.max,IntKind.signed,IntKind.bits];omega
theorem unit_fu:FU 4715268809856909312 24:=by unfold FU;decide
theorem unit_fl:FL 4715268809856909312:=by unfold FL;decide
def dgt (xs:List Int) (i:Int):Int:=if 0≤i then xs[i.toNat]?.getD 0 else 0
theorem dgt_bd {xs:List Int} (h:∀x∈xs,0≤x∧x < 16777216) (i:Int):0≤dgt xs i∧dgt xs i < 16777216:=by
 unfold dgt
 split
 ·by_cases hl:i.toNat < xs.length
  ·rw [List.getElem?_eq_getElem hl];exact h _ (List.getElem_mem hl)
  ·rw [List.getElem?_eq_none (by omega)];simp
 ·omega
theorem lead1_any (i:Int) (Bs:Nat) (a:Option Addr) (n c:Nat) (xs:List Int) (w:World) (hi: -10≤i∧i≤1000000000) (hb:Box w Bs (.slice a n c) 38) (hs:Sl 2 w (.slice a n c) xs) (hl:xs.length≤100000000):
  Calls Tryz.prog 207 #[.int .i64 i,.pointer (some ⟨Bs,0,none⟩)] w fun e w'=>e= .returned (.float .f64 (floatOfInt .f64 (dgt xs i)))∧w'=w:=by
 have hn:=hs.len
 subst hn
 have bc:=hb.cell
 by_cases h0:0≤i
 ·obtain ⟨j,rfl⟩:=Int.eq_ofNat_of_zero_le h0
  by_cases hj:j < xs.length
  ·obtain ⟨g,rfl,hg⟩:=hs.row (by omega)
   have hc:=hs.cell hj
   have hd:=ζ (show dgt xs (j:Int)=xs[j]by unfold dgt;rw [if_pos (by omega),Int.toNat_natCast,List.getElem?_eq_getElem hj];rfl)
   clear hs hb
   go_enter Tryz.func207,Tryz.ntmps207
   go_wp2
   go_ret
   exact⟨by rw [hd.out];rfl,rfl⟩
  ·have hd:=ζ (show dgt xs (j:Int)=0 by unfold dgt;rw [if_pos (by omega),Int.toNat_natCast,List.getElem?_eq_none (by omega)];rfl)
   clear hs hb
   go_enter Tryz.func207,Tryz.ntmps207
   go_wp2
   go_ret
   exact⟨by rw [hd.out];rfl,rfl⟩
 ·have hd:=ζ (show dgt xs i=0 by unfold dgt;rw [if_neg h0])
  clear hs hb
  go_enter Tryz.func207,Tryz.ntmps207
  go_wp2
  go_ret
  exact⟨by rw [hd.out];rfl,rfl⟩
theorem leading_any (a:Option Addr) (n c:Nat) (p:Int) (xs:List Int) (w:World) (hp:0≤p∧p≤1000000000) (hs:Sl 2 w (.slice a n c) xs) (hm:∀x∈xs,0≤x∧x < 16777216) (hl:xs.length≤100000000):
  Calls Tryz.prog 201 #[.agg #[.slice a n c],.int .i64 p] w fun e w'=>∃x,e= .returned (.float .f64 x)∧FU x 29∧(1≤dgt xs (p - 1)→FL x)∧Below w.heap.size w w':=by
 obtain ⟨u1,l1⟩:=fint_ub (dgt_bd hm (p - 1))
 obtain ⟨u2,_⟩:=fint_ub (dgt_bd hm (p - 2))
 obtain ⟨u3,_⟩:=fint_ub (dgt_bd hm (p - 3))
 obtain ⟨x1,e1,v1⟩:=fquo_ub (by omega) (by omega) u2 unit_fu unit_fl
 obtain ⟨x2,e2,v2⟩:=fquo_ub (by omega) (by omega) u3 unit_fu unit_fl
 obtain ⟨x3,e3,v3⟩:=fquo_ub (by omega) (by omega) v2 unit_fu unit_fl
 obtain ⟨x4,e4,v4,k4⟩:=fadd_ub (K:=25) (by omega) (u1.mono (by omega)) v1
 obtain ⟨x5,e5,v5,k5⟩:=fadd_ub (K:=27) (by omega) v4 (v3.mono (by omega))
 have q1:∀t w,(binOp .quo t (.float .f64 (floatOfInt .f64 (dgt xs (p - 2)))) (.float .f64 4715268809856909312)).run Tryz.prog w= .ok (.float .f64 x1) w:=fun t w=>run_float_arith w .quo t .f64 _ _ _ e1
 have q2:∀t w,(binOp .quo t (.float .f64 (floatOfInt .f64 (dgt xs (p - 3)))) (.float .f64 4715268809856909312)).run Tryz.prog w= .ok (.float .f64 x2) w:=fun t w=>run_float_arith w .quo t .f64 _ _ _ e2
 have q3:∀t w,(binOp .quo t (.float .f64 x2) (.float .f64 4715268809856909312)).run Tryz.prog w= .ok (.float .f64 x3) w:=fun t w=>run_float_arith w .quo t .f64 _ _ _ e3
 have q4:∀t w,(binOp .add t (.float .f64 (floatOfInt .f64 (dgt xs (p - 1)))) (.float .f64 x1)).run Tryz.prog w= .ok (.float .f64 x4) w:=fun t w=>run_float_arith w .add t .f64 _ _ _ e4
 have q5:∀t w,(binOp .add t (.float .f64 x4) (.float .f64 x3)).run Tryz.prog w= .ok (.float .f64 x5) w:=fun t w=>run_float_arith w .add t .f64 _ _ _ e5
 have HF:=ζ (show FU x5 29∧(1≤dgt xs (p - 1)→FL x5)from⟨v5,fun h=>k5 (k4 (l1 h))⟩)
 clear u1 l1 u2 u3 e1 e2 e3 e4 e5 v1 v2 v3 v4 v5 k4 k5
 have hS:=ζ (hs.alloc (.cells #[.slice a n c] 38))
 have hB:=ζ (Box.new' (w:=w) (v:= .slice a n c) (t:=38) (b:=w.heap.size) rfl)
 clear hs hm
 go_enter Tryz.func201,Tryz.ntmps201
 go_wp2_with (go_at_call 207;refine(lead1_any _ _ _ _ _ xs _ (by omega) hB.out hS.out (by omega)).mono ?_;rintro e w' ⟨rfl,rfl⟩)
 go_ret
 exact⟨x5,rfl,HF.out.1,HF.out.2,(Below.refl _ _).alloc (Nat.le_refl _) _⟩
theorem share_any (a:Option Addr) (n c:Nat) (a2:Option Addr) (n2 c2:Nat) (M N:Nat) (w:World) (h1:Dg w (.slice a n c) M) (h2:Dg w (.slice a2 n2 c2) N) (hN:0 < N)
  (hlM:(dg 16777216 M).length≤10000000) (hlN:(dg 16777216 N).length≤10000000):
  Calls Tryz.prog 190 #[.agg #[.slice a n c],.agg #[.slice a2 n2 c2]] w fun e w'=>∃k:Nat,e= .returned (.int .i64 k)∧k < 288230376151711744∧Below w.heap.size w w':=by
 unfold Dg at h1 h2
 have hn:=h1.len
 have hn2:=h2.len
 have HM:=ζ h1
 have HN:=ζ h2
 have MM:=ζ (show ∀x∈dg 16777216 M,0≤x∧x < 16777216 from dg_mem (b:=16777216) (by omega) M)
 have MN:=ζ (show ∀x∈dg 16777216 N,0≤x∧x < 16777216 from dg_mem (b:=16777216) (by omega) N)
 have htop:=ζ (show 1≤dgt (dg 16777216 N) (((dg 16777216 N).length:Int) - 1)from by
  have hp:0 < (dg 16777216 N).length:=by rw [dg_pos (by omega) hN];simp
  obtain ⟨j,hj⟩:∃j,(dg 16777216 N).length=j+1:=⟨(dg 16777216 N).length - 1,by omega⟩
  have hl:j < (dg 16777216 N).length:=by omega
  unfold dgt
  rw [hj,if_pos (by omega),show(((j+1:Nat):Int) - 1).toNat=j from by omega,List.getElem?_eq_getElem hl]
  have hnm:=dg_norm (b:=16777216) (by omega) N
  have hne:(dg 16777216 N)[j]≠0:=fun e=>hnm.2 ((dg 16777216 N).take j) (by
   have:=List.take_succ_eq_append_getElem hl
   rw [e,←hj,List.take_length]at this
   exact this)
  have:=hnm.1 _ (List.getElem_mem hl)
  simp only [Option.getD_some]
  omega)
 clear h1 h2
 generalize dg 16777216 M=xs at*
 generalize dg 16777216 N=ys at*
 subst hn;subst hn2
 go_enter Tryz.func190,Tryz.ntmps190
 go_wp2
 have hSx:=ζ ((HM.out.alloc (.cells #[.slice a xs.length c] 38)).alloc (.cells #[.slice a2 ys.length c2] 38))
 have hSy:=ζ ((HN.out.alloc (.cells #[.slice a xs.length c] 38)).alloc (.cells #[.slice a2 ys.length c2] 38))
 have hB0:=ζ ((Box.new' (w:=w) (v:= .slice a xs.length c) (t:=38) (b:=w.heap.size) rfl).alloc (.cells #[.slice a2 ys.length c2] 38))
 have hB1:=ζ (Box.new' (w:=w.alloc (.cells #[.slice a xs.length c] 38)) (v:= .slice a2 ys.length c2) (t:=38) (b:=w.heap.size+1) (by simp))
 have hBe:=ζ (((Below.refl w.heap.size w).alloc (Nat.le_refl _) (.cells #[.slice a xs.length c] 38)).alloc (by go_size) (.cells #[.slice a2 ys.length c2] 38))
 generalize (w.alloc (.cells #[.slice a xs.length c] 38)).alloc (.cells #[.slice a2 ys.length c2] 38)=W at*
 have hw1:IntKind.i64.wrap ((ys.length:Int)+1)=(ys.length:Int)+1:=IntWalk.i64_in _ (by omega)
 go_region_held3 (fun w'=>w'.cell? ⟨w.heap.size,0,none⟩=some (.slice a xs.length c)∧w'.cell? ⟨w.heap.size+1,0,none⟩=some (.slice a2 ys.length c2))
  (first | exact⟨(hB0.out.below hb2' hB0.out.lt).cell,(hB1.out.below hb2' hB1.out.lt).cell⟩ | exact⟨(hB0.out.below hb1' hB0.out.lt).cell,(hB1.out.below hb1' hB1.out.lt).cell⟩ | exact⟨hB0.out.cell,hB1.out.cell⟩)
  (first
   | (go_at_call_of 201 (Value.slice a xs.length c);refine(leading_any a xs.length c ((ys.length:Int)+1) xs _ (by omega) (Sl.drew hSx.out) MM.out (by omega)).mono ?_;rintro e w1 ⟨x1,rfl,u1,_,hb⟩
      have hb1':=Below.trans (Below.refl W.heap.size W).drew hb;clear hb
      obtain ⟨x2,e2,u2⟩:=fmul_ub (L:=24) (by omega) u1 unit_fu
      have q2:∀t w,(binOp .mul t (.float .f64 x1) (.float .f64 4715268809856909312)).run Tryz.prog w= .ok (.float .f64 x2) w:=fun t w=>run_float_arith w .mul t .f64 _ _ _ e2)
   | (go_at_call_of 201 (Value.slice a2 ys.length c2);refine(leading_any a2 ys.length c2 (ys.length:Int) ys _ (by omega) (hSy.out.below hb1' hSy.out.lt) MN.out (by omega)).mono ?_;rintro e w2 ⟨x3,rfl,u3,l3,hb⟩
      have hb2':=Below.trans hb1' (hb.mono hb1'.size);clear hb
      obtain ⟨x4,e4,u4⟩:=fquo_ub (by omega) (by omega) u2 u3 (l3 htop.out)
      have q4:∀t w,(binOp .quo t (.float .f64 x2) (.float .f64 x3)).run Tryz.prog w= .ok (.float .f64 x4) w:=fun t w=>run_float_arith w .quo t .f64 _ _ _ e4
      obtain ⟨k,e5,hk⟩:=ftoint_ub (by omega) u4
      have q5:∀w,(convert 246 2 (.float .f64 x4)).run Tryz.prog w= .ok (.int .i64 k) w:=fun w=>run_convert_float_int w 246 2 .f64 .i64 x4 k (by rw [Tryz.underlying246];rfl) Tryz.underlying2 e5))
 go_wp2
 go_ret
 exact⟨k,rfl,Nat.lt_of_lt_of_le hk (by decide),hBe.out.trans (hb2'.mono hBe.out.size)⟩
end Go.Proofs.YthmdhlopeponcaaGreatDoor
