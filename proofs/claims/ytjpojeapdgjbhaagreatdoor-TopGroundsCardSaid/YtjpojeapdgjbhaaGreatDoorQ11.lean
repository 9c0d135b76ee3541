/- part -/
import Derived.Test.YtjpojeapdgjbhaaGreatDoorQ10
import Derived.Test.YtjpojeapdgjbhaaGreatDoorQ8
set_option maxRecDepth 100000
set_option maxHeartbeats 4000000
namespace Go.Proofs.YtjpojeapdgjbhaaGreatDoor
open Go.RowKit Dig Flt
def FU (x K:Nat):Prop:=x<=(K+1023)*4503599627370496
def FL (x:Nat):Prop:=1023*4503599627370496<=x
theorem FU.mono {x K L:Nat} (h:FU x K) (hl:K<=L):FU x L:=Nat.le_trans h (Nat.mul_le_mul_right _ (by omega))
theorem near_fu {m:Nat} {p:Int} {K:Nat} (hK:K<=900) (h:Up m p K):FU (Ieee.double.nearest false m p) (K+1):=near_ub m p K hK h
theorem fadd_ub {x y K:Nat} (hK:K<=800) (hx:FU x K) (hy:FU y K):∃r,floatBits .add .f64 x y=some r/\FU r (K+2)/\(FL x->FL r):=by
 obtain ⟨m,i,e1,u1,l1⟩:=read_ub x K (by omega) hx;obtain ⟨n,j,e2,u2,_⟩:=read_ub y K (by omega) hy;obtain ⟨t,e,e3,u3,l3⟩:=sum_up u1 u2;refine⟨Ieee.double.nearest false t e,?_,near_fu (K:=K+1) (by omega) (by rw [Int.natCast_add];exact u3),fun h=>?_⟩
 ·show Ieee.Format.add Ieee.double x y=_;unfold Ieee.Format.add;rw [e1,e2,e3];rfl
 ·have l:=l3 (l1 h);exact near_lb t e l (by have:=u3.resolve_left l.1;omega)
theorem fmul_ub {x y K L:Nat} (hK:K+L<=800) (hx:FU x K) (hy:FU y L):∃r,floatBits .mul .f64 x y=some r/\FU r (K+L+2):=by
 obtain ⟨m,i,e1,u1,l1⟩:=read_ub x K (by omega) hx;obtain ⟨n,j,e2,u2,_⟩:=read_ub y L (by omega) hy;obtain ⟨t,e,e3,u3⟩:=prod_up u1 u2;refine⟨Ieee.double.nearest false t e,?_,near_fu (K:=K+L+1) (by omega) (by simpa using u3)⟩;show Ieee.Format.mul Ieee.double x y=_;unfold Ieee.Format.mul;rw [e1,e2,e3];rfl
theorem fquo_ub {x y K L:Nat} (hK:K<=800) (hL:L<=800) (hx:FU x K) (hy:FU y L) (hl:FL y):∃r,floatBits .quo .f64 x y=some r/\FU r (K+1):=by
 obtain ⟨m,i,e1,u1,l1⟩:=read_ub x K (by omega) hx;obtain ⟨n,j,e2,u2,l2⟩:=read_ub y L (by omega) hy;obtain ⟨hn,hj⟩:=l2 hl;obtain ⟨t,e,e3,u3⟩:=quot_up (K:=(K:Int)) (j:=j) u1 hn;refine⟨Ieee.double.nearest false t e,?_,near_fu (K:=K) (by omega) (u3.imp id (fun h=>by omega))⟩;show Ieee.Format.div Ieee.double x y=_;unfold Ieee.Format.div;rw [e1,e2,show Ieee.double.fractionBits+2=54 from rfl,e3];rfl
theorem fint_ub {n:Int} (h:0<=n/\n < 16777216):FU (floatOfInt .f64 n) 24/\(1<=n->FL (floatOfInt .f64 n)):=by
 obtain ⟨m,rfl⟩:=Int.eq_ofNat_of_zero_le h.1;have e:floatOfInt .f64 (m:Int)=Ieee.double.nearest false m 0:=by
  show Ieee.double.nearest (decide ((m:Int) < 0)) (m:Int).natAbs 0=_;rw [decide_eq_false (by omega),Int.natAbs_natCast]
 rw [e];constructor
 ·refine near_fu (K:=23) (by omega) ?_;by_cases hm:m=0
  ·exact .inl hm
  ·have:=(Nat.log2_lt (k:=24) hm).2 (by omega);exact .inr (by omega)
 ·intro h1;refine near_lb m 0 ⟨by omega,by omega⟩ ?_;have:=(Nat.log2_lt (n:=m) (k:=24) (by omega)).2 (by omega);omega
theorem ftoint_ub {x K:Nat} (hK:K<=61) (hx:FU x K):∃n:Nat,floatToIntVal .f64 x .i64=some (n:Int)/\n < 2 ^ (K+1):=by
 obtain ⟨m,i,e1,u1,_⟩:=read_ub x K (by omega) hx;obtain ⟨n,e2,h2⟩:=toInt_up u1;refine⟨n,?_,h2⟩;have h3:n < 2 ^ 62:=Nat.lt_of_lt_of_le h2 (Nat.pow_le_pow_right (by omega) (by omega));unfold floatToIntVal;rw [show FloatKind.decode .f64 x=Ieee.Datum.number false m i from e1,e2];simp only [];rw [if_pos];constructor
 ·simp [IntKind.min,IntKind.signed,IntKind.bits]
 ·simp [IntKind.max,IntKind.signed,IntKind.bits];omega
theorem unit_fu:FU 4715268809856909312 24:=by unfold FU;decide
theorem unit_fl:FL 4715268809856909312:=by unfold FL;decide
def dgt (xs:List Int) (i:Int):Int:=if 0<=i then xs[i.toNat]?.getD 0 else 0
theorem dgt_bd {xs:List Int} (h:∀x∈xs,0<=x/\x < 16777216) (i:Int):0<=dgt xs i/\dgt xs i < 16777216:=by
 unfold dgt
 split
 ·by_cases hl:i.toNat < xs.length
  ·rw [List.getElem?_eq_getElem hl];exact h _ (List.getElem_mem hl)
  ·rw [List.getElem?_eq_none (by omega)];simp
 ·omega
theorem lead1_any (i:Int) (Bs:Nat) (a:OA) (n c:Nat) (xs:List Int) (w:World) (hi: -10<=i/\i<=1000000000) (hb:Box w Bs (.slice a n c) 68) (hs:Sl 2 w (.slice a n c) xs) (hl:xs.length<=100000000):
  Calls Tryz.prog 238 #[.int .i64 i,.pointer (some ⟨Bs,0,none⟩)] w fun e w'=>e= .returned (.float .f64 (floatOfInt .f64 (dgt xs i)))/\w'=w:=by
 have hn:=hs.len;subst hn;have bc:=hb.cell;by_cases h0:0<=i
 ·obtain ⟨j,rfl⟩:=Int.eq_ofNat_of_zero_le h0;by_cases hj:j < xs.length
  ·obtain ⟨g,rfl,hg⟩:=hs.row (by omega);have hc:=hs.cell hj;have hd:=ζ (show dgt xs (j:Int)=xs[j]by unfold dgt;rw [if_pos (by omega),Int.toNat_natCast,List.getElem?_eq_getElem hj];rfl);clear hs hb;go_enter Tryz.func238,Tryz.ntmps238;go_wp2;go_ret;exact⟨by rw [hd.out];rfl,rfl⟩
  ·have hd:=ζ (show dgt xs (j:Int)=0 by unfold dgt;rw [if_pos (by omega),Int.toNat_natCast,List.getElem?_eq_none (by omega)];rfl);clear hs hb;go_enter Tryz.func238,Tryz.ntmps238;go_wp2;go_ret;exact⟨by rw [hd.out];rfl,rfl⟩
 ·have hd:=ζ (show dgt xs i=0 by unfold dgt;rw [if_neg h0]);clear hs hb;go_enter Tryz.func238,Tryz.ntmps238;go_wp2;go_ret;exact⟨by rw [hd.out];rfl,rfl⟩
theorem leading_any (a:OA) (n c:Nat) (p:Int) (xs:List Int) (w:World) (hp:0<=p/\p<=1000000000) (hs:Sl 2 w (.slice a n c) xs) (hm:∀x∈xs,0<=x/\x < 16777216) (hl:xs.length<=100000000):
  Calls Tryz.prog 207 #[.agg #[.slice a n c],.int .i64 p] w fun e w'=>∃x,e= .returned (.float .f64 x)/\FU x 29/\(1<=dgt xs (p - 1)->FL x)/\Below w.heap.size w w':=by
 obtain ⟨u1,l1⟩:=fint_ub (dgt_bd hm (p - 1));obtain ⟨u2,_⟩:=fint_ub (dgt_bd hm (p - 2));obtain ⟨u3,_⟩:=fint_ub (dgt_bd hm (p - 3));obtain ⟨x1,e1,v1⟩:=fquo_ub (by omega) (by omega) u2 unit_fu unit_fl;obtain ⟨x2,e2,v2⟩:=fquo_ub (by omega) (by omega) u3 unit_fu unit_fl;obtain ⟨x3,e3,v3⟩:=fquo_ub (by omega) (by omega) v2 unit_fu unit_fl;obtain ⟨x4,e4,v4,k4⟩:=fadd_ub (K:=25) (by omega) (u1.mono (by omega)) v1;obtain ⟨x5,e5,v5,k5⟩:=fadd_ub (K:=27) (by omega) v4 (v3.mono (by omega));have q1:∀t w,(binOp .quo t (.float .f64 (floatOfInt .f64 (dgt xs (p - 2)))) (.float .f64 4715268809856909312)).run Tryz.prog w= .ok (.float .f64 x1) w:=fun t w=>run_float_arith w .quo t .f64 _ _ _ e1;have q2:∀t w,(binOp .quo t (.float .f64 (floatOfInt .f64 (dgt xs (p - 3)))) (.float .f64 4715268809856909312)).run Tryz.prog w= .ok (.float .f64 x2) w:=fun t w=>run_float_arith w .quo t .f64 _ _ _ e2;have q3:∀t w,(binOp .quo t (.float .f64 x2) (.float .f64 4715268809856909312)).run Tryz.prog w= .ok (.float .f64 x3) w:=fun t w=>run_float_arith w .quo t .f64 _ _ _ e3;have q4:∀t w,(binOp .add t (.float .f64 (floatOfInt .f64 (dgt xs (p - 1)))) (.float .f64 x1)).run Tryz.prog w= .ok (.float .f64 x4) w:=fun t w=>run_float_arith w .add t .f64 _ _ _ e4;have q5:∀t w,(binOp .add t (.float .f64 x4) (.float .f64 x3)).run Tryz.prog w= .ok (.float .f64 x5) w:=fun t w=>run_float_arith w .add t .f64 _ _ _ e5;have HF:=ζ (show FU x5 29/\(1<=dgt xs (p - 1)->FL x5)from⟨v5,fun h=>k5 (k4 (l1 h))⟩);clear u1 l1 u2 u3 e1 e2 e3 e4 e5 v1 v2 v3 v4 v5 k4 k5;have hS:=ζ (hs.alloc (.cells #[.slice a n c] 68));have hB:=ζ (Box.new' (w:=w) (v:= .slice a n c) (t:=68) (b:=w.heap.size) rfl);clear hs hm;go_enter Tryz.func207,Tryz.ntmps207;go_wp2_with (go_at_call 238;refine(lead1_any _ _ _ _ _ xs _ (by omega) hB.out hS.out (by omega)).mono ?_;rintro e w' ⟨rfl,rfl⟩)
 go_ret;exact⟨x5,rfl,HF.out.1,HF.out.2,(Below.refl _ _).alloc (Nat.le_refl _) _⟩
theorem share_any (a:OA) (n c:Nat) (a2:OA) (n2 c2:Nat) (M N:Nat) (w:World) (h1:Dg w (.slice a n c) M) (h2:Dg w (.slice a2 n2 c2) N) (hN:0 < N)
  (hlM:(dg 16777216 M).length<=10000000) (hlN:(dg 16777216 N).length<=10000000):
  Calls Tryz.prog 175 #[.agg #[.slice a n c],.agg #[.slice a2 n2 c2]] w fun e w'=>∃k:Nat,e= .returned (.int .i64 k)/\k < 288230376151711744/\Below w.heap.size w w':=by
 unfold Dg at h1 h2;have hn:=h1.len;have hn2:=h2.len;have HM:=ζ h1;have HN:=ζ h2;have MM:=ζ (show ∀x∈dg 16777216 M,0<=x/\x < 16777216 from dg_mem (b:=16777216) (by omega) M);have MN:=ζ (show ∀x∈dg 16777216 N,0<=x/\x < 16777216 from dg_mem (b:=16777216) (by omega) N);have htop:=ζ (show 1<=dgt (dg 16777216 N) (((dg 16777216 N).length:Int) - 1)by
  have hp:0 < (dg 16777216 N).length:=by rw [dg_pos (by omega) hN];simp
  obtain ⟨j,hj⟩:∃j,(dg 16777216 N).length=j+1:=⟨(dg 16777216 N).length - 1,by omega⟩
  have hl:j < (dg 16777216 N).length:=by omega
  unfold dgt;rw [hj,if_pos (by omega),show(((j+1:Nat):Int) - 1).toNat=j by omega,List.getElem?_eq_getElem hl];have hnm:=dg_norm (b:=16777216) (by omega) N;have hne:(dg 16777216 N)[j]≠0:=fun e=>hnm.2 ((dg 16777216 N).take j) (by
   have:=List.take_succ_eq_append_getElem hl;rw [e,<-hj,List.take_length]at this;exact this)
  have:=hnm.1 _ (List.getElem_mem hl);simp only [Option.getD_some];omega)
 clear h1 h2;generalize dg 16777216 M=xs at*;generalize dg 16777216 N=ys at*;subst hn;subst hn2;go_enter Tryz.func175,Tryz.ntmps175;go_wp2;have AE:=ζ ((HM.out.alloc (.cells #[.slice a xs.length c] 68)).alloc (.cells #[.slice a2 ys.length c2] 68));have AC:=ζ ((HN.out.alloc (.cells #[.slice a xs.length c] 68)).alloc (.cells #[.slice a2 ys.length c2] 68));have AA:=ζ ((Box.new' (w:=w) (v:= .slice a xs.length c) (t:=68) (b:=w.heap.size) rfl).alloc (.cells #[.slice a2 ys.length c2] 68));have AB:=ζ (Box.new' (w:=w.alloc (.cells #[.slice a xs.length c] 68)) (v:= .slice a2 ys.length c2) (t:=68) (b:=w.heap.size+1) (by simp));have AD:=ζ (((Below.refl w.heap.size w).alloc (Nat.le_refl _) (.cells #[.slice a xs.length c] 68)).alloc (by go_size) (.cells #[.slice a2 ys.length c2] 68));generalize (w.alloc (.cells #[.slice a xs.length c] 68)).alloc (.cells #[.slice a2 ys.length c2] 68)=W at*;have hw1:IntKind.i64.wrap ((ys.length:Int)+1)=(ys.length:Int)+1:=IntWalk.i64_in _ (by omega);go_region_held3 (fun w'=>w'.cell? ⟨w.heap.size,0,none⟩=some (.slice a xs.length c)/\w'.cell? ⟨w.heap.size+1,0,none⟩=some (.slice a2 ys.length c2))
  (first | exact⟨(AA.out.below hb2' AA.out.lt).cell,(AB.out.below hb2' AB.out.lt).cell⟩ | exact⟨(AA.out.below hb1' AA.out.lt).cell,(AB.out.below hb1' AB.out.lt).cell⟩ | exact⟨AA.out.cell,AB.out.cell⟩)
  (first
   | (go_at_call_of 207 (Value.slice a xs.length c);refine(leading_any a xs.length c ((ys.length:Int)+1) xs _ (by omega) (Sl.drew AE.out) MM.out (by omega)).mono ?_;rintro e w1 ⟨x1,rfl,u1,_,hb⟩
      have hb1':=Below.trans (Below.refl W.heap.size W).drew hb;clear hb;obtain ⟨x2,e2,u2⟩:=fmul_ub (L:=24) (by omega) u1 unit_fu;have q2:∀t w,(binOp .mul t (.float .f64 x1) (.float .f64 4715268809856909312)).run Tryz.prog w= .ok (.float .f64 x2) w:=fun t w=>run_float_arith w .mul t .f64 _ _ _ e2)
   | (go_at_call_of 207 (Value.slice a2 ys.length c2);refine(leading_any a2 ys.length c2 (ys.length:Int) ys _ (by omega) (AC.out.below hb1' AC.out.lt) MN.out (by omega)).mono ?_;rintro e w2 ⟨x3,rfl,u3,l3,hb⟩
      have hb2':=Below.trans hb1' (hb.mono hb1'.size);clear hb;obtain ⟨x4,e4,u4⟩:=fquo_ub (by omega) (by omega) u2 u3 (l3 htop.out);have q4:∀t w,(binOp .quo t (.float .f64 x2) (.float .f64 x3)).run Tryz.prog w= .ok (.float .f64 x4) w:=fun t w=>run_float_arith w .quo t .f64 _ _ _ e4;obtain ⟨k,e5,hk⟩:=ftoint_ub (by omega) u4;have q5:∀w,(convert 286 2 (.float .f64 x4)).run Tryz.prog w= .ok (.int .i64 k) w:=fun w=>run_convert_float_int w 286 2 .f64 .i64 x4 k (by rw [Tryz.underlying286];rfl) Tryz.underlying2 e5))
 go_wp2;go_ret;exact⟨k,rfl,Nat.lt_of_lt_of_le hk (by decide),AD.out.trans (hb2'.mono AD.out.size)⟩
section
open Go.RowKit Go.Shelf Dig
attribute [local go_sem] Oper.semAt_some
theorem wpListIn_append_sl {F:Fence} {nF:Nat} {P:Program} (w:World) {ops:Array Oper} {rest:List Oper} {o:Oper} {a:Act} {Q:Exit->Act->World->Prop} (hgd:o.guard=none) (s x:Operand) (t:TypeId)
  (hop:o.op= .call { callee:= .builtin .append,args:=#[s,x],argTypes:=#[t,t] })
  (e:TypeId) (ht:P.underlying t=some (.slice e)) (hinfo:(P.info? e).map (fun i=>(i.zero,i.size,i.bytes))=some (some (.int .i64 0),1,8))
  (v:Value) (xs:List Int) (hs:a.eval s=v) (hown:Sl e w v xs) (sv:Value) (ys:List Int) (hx:a.eval x=sv) (hsrc:Sl e w sv ys) (hlen:xs.length+ys.length<=1000000000)
  (hK:∀a' n' c' w',Sl e w' (.slice a' n' c') (xs++ys)->w.grownBy w' v.ownBlock->Since w.heap.size v (.slice a' n' c')->wpListIn F nF P ops Q rest (a.put o.dst (.slice a' n' c')) w'):wpListIn F nF P ops Q (o::rest) a w:=by
 obtain ⟨i0,hi,hz0,hz1,hz2⟩:=info_parts hinfo;refine wpListIn_plain hgd fun K hK'=>?_;obtain ⟨a',c',w',hr,h2,h3,h4⟩:=run_append_row (P:=P) w t o.type e i0 (.int .i64 0) 1 8 ht hi hz0 hz1 hz2 rfl (by decide) v xs.length (I64 xs) hown sv ys.length (I64 ys) hsrc (I64_one ys) hlen (by decide);unfold Oper.wpIn;refine⟨?_,?_⟩
 ·simp [Oper.about,hop,resolve,Target.leads,Sem.run_pure]
 ·rw [Oper.semAt_plain F _ _ (by rw [hop];intro c hc';cases hc')];simp [execOp,hop,resolve,invoke,builtin,hs,hx,hr,Result.andThen];refine hK' _ _ (hK a' _ c' w' ?_ h3 h4);unfold Sl;rw [List.length_append,I64_append];exact h2
theorem wlen (k:Nat) (h:k < 288230376151711744):(dg 16777216 k).length<=10000000:=
 Nat.le_trans (dg_len_le (b:=16777216) (k:=3) (by omega) (Nat.lt_of_lt_of_le h (by decide))) (by omega)
theorem plen (N k:Nat) (h:k < 288230376151711744) (hl:(dg 16777216 N).length<=1000000):(dg 16777216 (N*k)).length<=10000000:=by
 have h1:=dg_len_lt (b:=16777216) (by omega) N;have h2:k < 16777216 ^ 3:=Nat.lt_of_lt_of_le h (by decide);refine Nat.le_trans (dg_len_le (b:=16777216) (k:=(dg 16777216 N).length+3) (by omega) ?_) (by omega);rw [Nat.pow_add];exact Nat.mul_lt_mul'' h1 h2
structure OI (w W:World) (sb:Value) (N n:Nat) (s:Value) (R:Nat) (L:List Int) (i:Int):Prop where
 xb:Box W (w.heap.size+1) sb 68
 xq:Box W (w.heap.size+2) (.slice none 0 0) 68
 xl:Box W (w.heap.size+3) s 68
 xo:Box W (w.heap.size+5) (.slice (some ⟨w.heap.size+4,0,none⟩) n n) 66
 xi:Box W (w.heap.size+6) (.int .i64 i) 3
 dl:Dg W s R
 db:Dg W sb N
 ar:Sl 2 W (.slice (some ⟨w.heap.size+4,0,none⟩) n n) L
 be:Below w.heap.size w W
 fs:∀k,s.ownBlock=some k->k≠w.heap.size+4
 fb:∀k,sb.ownBlock=some k->k < w.heap.size
structure Tr (B:Nat) (W W':World):Prop where
 os:W'.os=W.os
 tape:W'.tape=W.tape
 output:W'.output=W.output
 size:W.heap.size<=W'.heap.size
 block:∀k,k < W.heap.size->k≠B+3->k≠B+4->k≠B+6->W'.heap[k]? =W.heap[k]?
theorem Tr.refl (B:Nat) (W:World):Tr B W W:=⟨rfl,rfl,rfl,Nat.le_refl _,fun _ _ _ _ _=>rfl⟩
theorem Tr.trans {B:Nat} {W1 W2 W3:World} (h:Tr B W1 W2) (k:Tr B W2 W3):Tr B W1 W3:=
 ⟨k.os.trans h.os,k.tape.trans h.tape,k.output.trans h.output,Nat.le_trans h.size k.size,fun i hi a b c=>(k.block i (Nat.lt_of_lt_of_le hi h.size) a b c).trans (h.block i hi a b c)⟩
theorem Tr.below {B:Nat} {W W':World} (h:Below W.heap.size W W'):Tr B W W':=⟨h.os,h.tape,h.output,h.size,fun i hi _ _ _=>h.block i hi⟩
theorem Tr.set {B:Nat} (W:World) {g:Nat} (k:Nat) (u:Value) (hg:g=B+3\/g=B+4\/g=B+6):Tr B W (W.setCell ⟨g,k,none⟩ u):=
 ⟨rfl,rfl,rfl,by simp [World.setCell],fun i _ a b c=>Below.heap_setCell _ _ _ _ (by show i≠g;omega)⟩
theorem OI.later {w W W':World} {sb:Value} {N n:Nat} {s:Value} {R:Nat} {L:List Int} {i:Int} (h:OI w W sb N n s R L i) (hb:Below W.heap.size W W'):OI w W' sb N n s R L i:=
 ⟨h.xb.below hb h.xb.lt,h.xq.below hb h.xq.lt,h.xl.below hb h.xl.lt,h.xo.below hb h.xo.lt,h.xi.below hb h.xi.lt,Sl.mono h.dl hb,Sl.mono h.db hb,h.ar.mono hb,h.be.trans (hb.mono h.be.size),h.fs,h.fb⟩
theorem OI.setI {w W:World} {sb:Value} {N n:Nat} {s:Value} {R:Nat} {L:List Int} {i:Int} (h:OI w W sb N n s R L i) (j:Int):OI w (W.setCell ⟨w.heap.size+6,0,none⟩ (.int .i64 j)) sb N n s R L j:=
 ⟨h.xb.other (by omega) _,h.xq.other (by omega) _,h.xl.other (by omega) _,h.xo.other (by omega) _,h.xi.set _,Sl.other h.dl (Sl.ne_box h.dl h.xi (by decide)) _,Sl.other h.db (Sl.ne_box h.db h.xi (by decide)) _,
   h.ar.other (by simp [Value.ownBlock]) _,h.be.setCell (by simp) _,h.fs,h.fb⟩
theorem OI.setL {w W:World} {sb:Value} {N n:Nat} {s s':Value} {R R':Nat} {L:List Int} {i:Int} (h:OI w W sb N n s R L i) (hd:Dg W s' R') (hf:∀k,s'.ownBlock=some k->k≠w.heap.size+4):OI w (W.setCell ⟨w.heap.size+3,0,none⟩ s') sb N n s' R' L i:=
 ⟨h.xb.other (by omega) _,h.xq.other (by omega) _,h.xl.set _,h.xo.other (by omega) _,h.xi.other (by omega) _,Sl.other hd (Sl.ne_box hd h.xl (by decide)) _,Sl.other h.db (Sl.ne_box h.db h.xl (by decide)) _,
   h.ar.other (by simp [Value.ownBlock]) _,h.be.setCell (by simp) _,hf,h.fb⟩
theorem OI.setO {w W:World} {sb:Value} {N n:Nat} {s:Value} {R:Nat} {L:List Int} {i:Int} (h:OI w W sb N n s R L i) (k:Nat) (y:Int):OI w (W.setCell ⟨w.heap.size+4,k,none⟩ (.int .i64 y)) sb N n s R (L.set k y) i:=
 ⟨h.xb.other (by omega) _,h.xq.other (by omega) _,h.xl.other (by omega) _,h.xo.other (by omega) _,h.xi.other (by omega) _,Sl.other h.dl (fun e=>h.fs _ e rfl) _,Sl.other h.db (fun e=>by have:=h.fb _ e;omega) _,
   h.ar.set k y,h.be.setCell (by simp) _,h.fs,h.fb⟩
theorem OI.keep {w W W':World} {sb:Value} {N n:Nat} {s:Value} {R:Nat} {L:List Int} {i:Int} {B:Nat} (hs:OI w W sb N n s R L i) (hB:w.heap.size<=B) {row:Option Nat} (hg:W.grownBy W' row)
  (hr:∀r,row=some r->B<=r/\∃o:Obj,W.heap[r]? =some o/\o.isCells=false):OI w W' sb N n s R L i:=by
 have ne:∀ {b:Nat} {v:Value} {t:TypeId},Box W b v t->Box W' b v t:=fun {b v t} hb=>hb.grown hg (fun e=>by
  obtain ⟨_,o,ho,hc⟩:=hr b e.symm;unfold Box at hb;rw [hb]at ho;cases ho;cases hc)
 have sl:∀ {v:Value} {xs:List Int},Sl 2 W v xs->Sl 2 W' v xs:=fun {v xs} hv=>hv.grown hg (by
  cases hb:v.ownBlock with
  | none=>exact .inl rfl
  | some k=>
    right;intro e;obtain ⟨_,o,ho,hc⟩:=hr k e.symm;rcases hv.2 with ⟨rfl,_⟩ | ⟨g,cap,cur,rfl,_,hg',_⟩
    ·simp [Value.ownBlock]at hb
    ·simp only [Value.ownBlock,Option.some.injEq]at hb;subst hb;rw [hg']at ho;cases ho;cases hc)
 exact⟨ne hs.xb,ne hs.xq,ne hs.xl,ne hs.xo,ne hs.xi,sl hs.dl,sl hs.db,sl hs.ar,hs.be.grown hg hs.be.size (fun k e=>Nat.le_trans hB (hr k e).1),hs.fs,hs.fb⟩
def bv (pre:List Dx):Nat:=pre.foldl (fun n x=>n*16777216+x.1.toNat) 0
theorem bv_snoc (pre:List Dx) (x:Dx):bv (pre++ [x])=bv pre*16777216+x.1.toNat:=by simp [bv]
theorem bv_reverse:∀ds:List Dx,(bv ds.reverse:Int)=vl 16777216 (ds.map (·.1))
 | []=>by simp [bv,vl]
 | x::ds=>by
   have hx:=x.2;have ih:=bv_reverse ds;rw [List.map_cons,vl,List.reverse_cons,bv_snoc];omega
structure OM (L:List Int) (j n R N V:Nat):Prop where
 len:L.length=n
 rng:∀x∈L,0<=x/\x < 16777216
 zer:∀t,t < n - j->L[t]?.getD 0=0
 val:vl 16777216 (L.drop (n - j))*N+R=V
 lt:R < N
 le:j<=n
theorem OM.step {L:List Int} {j n R N V k R':Nat} {x:Int} (h:OM L j n R N V) (hx:0<=x/\x < 16777216) (hj:j < n) (hk:R*16777216+x.toNat=k*N+R') (hR:R' < N):
  OM (L.set (n - j - 1) k) (j+1) n R' N (V*16777216+x.toNat):=by
 have hlt:n - j - 1 < L.length:=by rw [h.len];omega
 have hkU:k < 16777216:=by
  have h1:=h.lt;rcases Nat.lt_or_ge k 16777216 with h' | h'
  ·exact h'
  ·exfalso;have h2:16777216*N<=k*N:=Nat.mul_le_mul_right _ h';have h3:(R+1)*16777216<=N*16777216:=Nat.mul_le_mul_right _ h1;omega
 refine⟨by rw [List.length_set,h.len],?_,?_,?_,hR,by omega⟩
 ·intro y hy;rcases List.mem_or_eq_of_mem_set hy with h' | h'
  ·exact h.rng y h'
  ·omega
 ·intro t ht;rw [List.getElem?_set];rw [if_neg (by omega)];exact h.zer t (by omega)
 ·have e1:(L.set (n - j - 1) (k:Int)).drop (n - (j+1))=(k:Int)::L.drop (n - j):=by
   rw [show n - (j+1)=n - j - 1 by omega,List.drop_eq_getElem_cons (by rw [List.length_set];exact hlt),List.getElem_set_self];congr 1;rw [show n - j - 1+1=n - j by omega,List.drop_set_of_lt (by omega)]
  rw [e1,vl];have hv:=h.val;have hk':(R:Int)*16777216+x=k*N+R':=by
   have:=congrArg (fun t:Nat=>(t:Int)) hk;simp only [Int.natCast_add,Int.natCast_mul]at this;rw [<-this];omega
  have hx':((x.toNat:Nat):Int)=x:=by omega
  rw [Int.natCast_add,Int.natCast_mul,hx',<-hv];generalize vl 16777216 (L.drop (n - j))=W at*;have e2:((k:Int)+16777216*W)*N+R'=(k*N+R')+16777216*W*N:=by grind
  rw [e2,<-hk'];grind
theorem OM.skip {L:List Int} {j n R N V:Nat} {x:Int} (h:OM L j n R N V) (hx:0<=x/\x < 16777216) (hj:j < n) (hR:R*16777216+x.toNat < N):
  OM L (j+1) n (R*16777216+x.toNat) N (V*16777216+x.toNat):=by
 have hlt:n - j - 1 < L.length:=by rw [h.len];omega
 have hs:=h.step (k:=0) hx hj (by rw [Nat.zero_mul,Nat.zero_add]) hR;have hz:L[n - j - 1]=0:=by
  have:=h.zer (n - j - 1) (by omega);rwa [List.getElem?_eq_getElem hlt]at this
 have e:L.set (n - j - 1) ((0:Nat):Int)=L:=by
  have:=List.set_getElem_self hlt;rw [hz]at this;exact this
 rw [e]at hs;exact hs
theorem OM.start (n N:Nat) (hN:0 < N):OM (List.replicate n 0) 0 n 0 N 0:=
 ⟨by simp,fun x hx=>by rw [(List.mem_replicate.1 hx).2];omega,fun t _=>by rw [List.getElem?_replicate];split<;>rfl,by simp [vl],hN,Nat.zero_le _⟩
theorem Tr.from {B base:Nat} {W W':World} (h:Tr B W W') (hb:B+7<=base):KeepsFrom base W W':=
 ⟨h.size,fun k o hk ho _=>(h.block k (Array.getElem?_eq_some_iff.1 ho).1 (by omega) (by omega) (by omega)).trans ho⟩
theorem inCall2 {P:Program} (l n:Nat) {f:FuncId} {args:Array Value} {w:World} {R R':Ending->World->Prop} (h:Calls P f args w R) (hr:∀e w',R e w'->R' e w'):
  Fence.wide.fn f/\CallsIn (Fence.wide.inRound l) n P f args w R':=
 ⟨trivial,(CallsIn.inRound l (callsIn_wide.2 h)).mono hr⟩
theorem over_fin {w w9 W':World} {D R V:Nat} {s1 s2:Value} (hW:W'=(w9.setCell ⟨w.heap.size+2,0,none⟩ s1).setCell ⟨w.heap.size+3,0,none⟩ s2\/W'=(w9.setCell ⟨w.heap.size+3,0,none⟩ s2).setCell ⟨w.heap.size+2,0,none⟩ s1) (hD:w.heap.size+8<=D)
  (h:Box w9 (w.heap.size+2) (.slice none 0 0) 68/\Box w9 (w.heap.size+3) s2 68/\Dg w9 s1 V/\Dg w9 s2 R/\Below w.heap.size w w9/\w9.heap[D]? =some (Obj.deferred (some []))):
  Hid (Dg W' s1 V/\Dg W' s2 R/\Below w.heap.size w W'/\W'.heap[D]? =some (Obj.deferred (some [])))/\W'.cell? ⟨w.heap.size+2,0,none⟩=some s1/\W'.cell? ⟨w.heap.size+3,0,none⟩=some s2:=by
 obtain ⟨b2,b3,d1,d2,be,kD⟩:=h;have n12:=Sl.ne_box d1 b2 (by decide);have n13:=Sl.ne_box d1 b3 (by decide);have n22:=Sl.ne_box d2 b2 (by decide);have n23:=Sl.ne_box d2 b3 (by decide);rcases hW with rfl | rfl
 ·exact⟨ζ ⟨Sl.other (Sl.other d1 n12 _) n13 _,Sl.other (Sl.other d2 n22 _) n23 _,(be.setCell (by simp) _).setCell (by simp) _,(Below.heap_setCell _ _ _ _ (by simp only;omega)).trans ((Below.heap_setCell _ _ _ _ (by simp only;omega)).trans kD)⟩,
   ((b2.set s1).other (by omega) _).cell,((b3.other (by omega) _).set s2).cell⟩
 ·exact⟨ζ ⟨Sl.other (Sl.other d1 n13 _) n12 _,Sl.other (Sl.other d2 n23 _) n22 _,(be.setCell (by simp) _).setCell (by simp) _,(Below.heap_setCell _ _ _ _ (by simp only;omega)).trans ((Below.heap_setCell _ _ _ _ (by simp only;omega)).trans kD)⟩,
   ((b2.other (by omega) _).set s1).cell,((b3.set s2).other (by omega) _).cell⟩
theorem inCallW {P:Program} (n:Nat) {f:FuncId} {args:Array Value} {w:World} {R R':Ending->World->Prop} (h:Calls P f args w R) (hr:∀e w',R e w'->R' e w'):
  Fence.wide.fn f/\CallsIn Fence.wide n P f args w R':=
 ⟨trivial,(callsIn_wide.2 h).mono hr⟩
theorem inCall {P:Program} (l n:Nat) {f:FuncId} {args:Array Value} {w:World} {R R':Ending->World->Prop} (h:Calls P f args w R) (hn:1<=n) (hr:∀e w',R e w'->R' e w'):
  Fence.wide.fn f/\(Fence.wide.depth.isSome=true->1<=n)/\CallsIn (Fence.wide.inRound l) (n - 1) P f args w R':=
 ⟨trivial,fun _=>hn,(CallsIn.inRound l (callsIn_wide.2 h)).mono hr⟩
theorem over_in (n:Nat) (hn:4<=n) (a:OA) (len cap:Nat) (a2:OA) (n2 cap2:Nat) (ds:List Dx) (N:Nat) (hreach:ds.length<=1000000) (w:World)
  (hI:Sl 2 w (.slice a len cap) (ds.map (·.1))) (hD:Dg w (.slice a2 n2 cap2) N) (hN:0 < N) (hlN:(dg 16777216 N).length<=1000000):
  CallsIn Fence.wide n Tryz.prog 151 #[.agg #[.slice a len cap],.agg #[.slice a2 n2 cap2]] w fun e W'=>∃a3 n3 c3 a4 n4 c4,e= .returned (.tuple #[.agg #[.slice a3 n3 c3],.agg #[.slice a4 n4 c4]])/\
   Dg W' (.slice a3 n3 c3) (bv ds.reverse / N)/\Dg W' (.slice a4 n4 c4) (bv ds.reverse % N)/\Below w.heap.size w W':=by
 have h1:1<=n:=by omega
 have hlen:=hI.len;rw [List.length_map]at hlen;subst hlen;have HI:=ζ hI;have HD:=ζ hD;have L1:=ζ hI.lt;have L2:=ζ (Sl.lt hD);clear hI hD;refine callsIn_of_wp_marks Tryz.func151 rfl trivial ?_ rfl;simp only [Tryz.ntmps151,List.size_toArray,List.length_cons,List.length_nil,Nat.reduceAdd,Nat.reduceSub,Array.replicate_succ,Array.replicate_zero,List.push_toArray,List.append_toArray,List.nil_append,List.cons_append];have hmk:∀W:World,(Instr.makeSlice 66 (.int .i64 (ds.length:Int)) (.int .i64 (ds.length:Int))).run Tryz.prog W= .ok (.slice (some ⟨W.heap.size,0,none⟩) ds.length ds.length) (W.alloc (.cells (madeCells #[.int .i64 0] ds.length) 2)):=fun W=>by
  obtain ⟨i0,hi,hz0,hz1,hz2⟩:=info_parts info_i64;have hr:=run_make (P:=Tryz.prog) W 66 2 i0 (.int .i64 0) Tryz.underlying66 hi hz0 .i64 .i64 ds.length ds.length (by omega) (by omega) (by rw [hz2];omega) (by omega);rw [hz1,Int.toNat_natCast,Nat.mul_one]at hr;exact hr
 have hmx:Tryz.prog.follows .mixedOrders=true:=by kernel_rfl
 gi_wp2_with (refine⟨trivial,?_⟩;gi_at_call 117;refine(down_in Fence.wide (n - 1) trivial rfl _ rfl _).mono ?_;rintro e w' ⟨rfl,rfl⟩)
 clear hmk;have hOI:OI w (((((((((w.alloc (.cells #[.slice a ds.length cap] 68)).alloc (.cells #[.slice a2 n2 cap2] 68)).alloc (.cells #[.slice none 0 0] 68)).alloc (.cells #[.slice none 0 0] 68)).alloc (.cells (madeCells #[.int .i64 0] ds.length) 2)).alloc (.cells #[.slice (some ⟨w.heap.size+1+1+1+1,0,none⟩) ds.length ds.length] 66)).alloc (.cells #[.int .i64 (ds.length:Int)] 3)).alloc (.cells #[.slice a ds.length cap] 68))) (.slice a2 n2 cap2) N ds.length (.slice none 0 0) 0 (List.replicate ds.length 0) (ds.length:Int):=by
  have hB:Below w.heap.size w (((((((((w.alloc (.cells #[.slice a ds.length cap] 68)).alloc (.cells #[.slice a2 n2 cap2] 68)).alloc (.cells #[.slice none 0 0] 68)).alloc (.cells #[.slice none 0 0] 68)).alloc (.cells (madeCells #[.int .i64 0] ds.length) 2)).alloc (.cells #[.slice (some ⟨w.heap.size+1+1+1+1,0,none⟩) ds.length ds.length] 66)).alloc (.cells #[.int .i64 (ds.length:Int)] 3)).alloc (.cells #[.slice a ds.length cap] 68))):=((((((((Below.refl _ w).alloc (Nat.le_refl _) _).alloc (by go_size) _).alloc (by go_size) _).alloc (by go_size) _).alloc (by go_size) _).alloc (by go_size) _).alloc (by go_size) _).alloc (by go_size) _;refine⟨((((((Box.new' (by simp)).alloc _).alloc _).alloc _).alloc _).alloc _).alloc _,(((((Box.new' (by simp)).alloc _).alloc _).alloc _).alloc _).alloc _,((((Box.new' (by simp)).alloc _).alloc _).alloc _).alloc _,((Box.new' (by simp)).alloc _).alloc _,(Box.new' (by simp)).alloc _,?_,HD.out.mono hB,?_,hB,fun k hk=>by simp [Value.ownBlock]at hk,L2.out⟩
  ·unfold Dg;rw [dg_zero];exact Sl.nil
  ·have:=Sl.made 2 ((((w.alloc (.cells #[.slice a ds.length cap] 68)).alloc (.cells #[.slice a2 n2 cap2] 68)).alloc (.cells #[.slice none 0 0] 68)).alloc (.cells #[.slice none 0 0] 68)) ds.length (by omega);simp only [World.size_alloc]at this;exact((this.alloc _).alloc _).alloc _
 have bD:Box (((((((((w.alloc (.cells #[.slice a ds.length cap] 68)).alloc (.cells #[.slice a2 n2 cap2] 68)).alloc (.cells #[.slice none 0 0] 68)).alloc (.cells #[.slice none 0 0] 68)).alloc (.cells (madeCells #[.int .i64 0] ds.length) 2)).alloc (.cells #[.slice (some ⟨w.heap.size+1+1+1+1,0,none⟩) ds.length ds.length] 66)).alloc (.cells #[.int .i64 (ds.length:Int)] 3)).alloc (.cells #[.slice a ds.length cap] 68))) (w.heap.size+1+1+1+1+1+1+1) (.slice a ds.length cap) 68:=Box.new' (by simp);have hW:(((((((((w.alloc (.cells #[.slice a ds.length cap] 68)).alloc (.cells #[.slice a2 n2 cap2] 68)).alloc (.cells #[.slice none 0 0] 68)).alloc (.cells #[.slice none 0 0] 68)).alloc (.cells (madeCells #[.int .i64 0] ds.length) 2)).alloc (.cells #[.slice (some ⟨w.heap.size+1+1+1+1,0,none⟩) ds.length ds.length] 66)).alloc (.cells #[.int .i64 (ds.length:Int)] 3)).alloc (.cells #[.slice a ds.length cap] 68))).heap.size=w.heap.size+8:=by simp
 have A7:=ζ hOI;have Aj:=ζ bD;have HW:=ζ hW;clear hOI bD hW;generalize (((((((((w.alloc (.cells #[.slice a ds.length cap] 68)).alloc (.cells #[.slice a2 n2 cap2] 68)).alloc (.cells #[.slice none 0 0] 68)).alloc (.cells #[.slice none 0 0] 68)).alloc (.cells (madeCells #[.int .i64 0] ds.length) 2)).alloc (.cells #[.slice (some ⟨w.heap.size+1+1+1+1,0,none⟩) ds.length ds.length] 66)).alloc (.cells #[.int .i64 (ds.length:Int)] 3)).alloc (.cells #[.slice a ds.length cap] 68)))=W0 at*;have hblk:∀k∈(w.heap.size+1+1+1+1+1+1+1)::(Value.ownBlock (.slice a ds.length cap)).toList,k < w.heap.size+8/\k≠w.heap.size+3/\k≠w.heap.size+4/\k≠w.heap.size+6:=by
  intro k hk;rcases List.mem_cons.1 hk with rfl | hk
  ·omega
  ·have:=L1.out k (by simpa using hk);omega
 refine wpIn_rangeFunc_ownG (F:=Fence.wide) rfl h1 (gf:=153) (lb:=#[.pointer (some ⟨w.heap.size+1+1+1+1+1+1+1,0,none⟩)]) rfl trivial (enters_of Tryz.func153 (by kernel_rfl) rfl)
  (down_stops Fence.wide (n - 1) trivial rfl (by omega) (w.heap.size+1+1+1+1+1+1+1) a ds.length cap ds (by omega) _ (Value.ownBlock (.slice a ds.length cap)).toList (fun k hk=>by simp [hk]) Aj.out (HI.out.mono A7.out.be)) keepsSet_t (keepsSet_b (fun k hk=>by have:=(hblk k hk).1;have:=HW.out;omega)) (Below.refl _ _) (fun _=>rfl)
  (fun pre W=>∃ (s:Value) (R:Nat) (L:List Int),W0.heap.size<=W.heap.size/\(∃b m c,s= .slice b m c)/\OI w W (.slice a2 n2 cap2) N ds.length s R L ((ds.length - pre.length:Nat):Int)/\OM L pre.length ds.length R N (bv pre))
  (fun _ _ _=>False)
  (fun pre A B row ⟨s,R,L,hz,hs,hO,hM⟩ hg hr=>⟨s,R,L,Nat.le_trans hz hg.size,hs,hO.keep (B:=W0.heap.size) (by have:=HW.out;omega) hg hr,hM⟩)
  (fun _ _ _ _ _ hs _ _=>hs)
  ⟨_,_,_,Nat.le_refl _,⟨_,_,_,rfl⟩,A7.out,OM.start _ _ hN⟩
  (fun x=> { tmps:=#[.agg #[.slice a ds.length cap],.agg #[.slice a2 n2 cap2],.pointer (some ⟨w.heap.size,0,none⟩),.pointer (some ⟨w.heap.size+1,0,none⟩),.pointer (some ⟨w.heap.size+2,0,none⟩),.pointer (some ⟨w.heap.size+3,0,none⟩),.pointer (some ⟨w.heap.size+5,0,none⟩),.pointer (some ⟨w.heap.size+6,0,none⟩),.int .i64 x.1,undef,.pointer (some ⟨w.heap.size,0,none⟩),.slice a ds.length cap,.int .i64 (ds.length:Int),.slice (some ⟨w.heap.size+4,0,none⟩) ds.length ds.length,.pointer (some ⟨w.heap.size,0,none⟩),.slice a ds.length cap,.int .i64 (ds.length:Int),.agg #[.slice a ds.length cap],.func (.func 153) #[] #[.pointer (some ⟨w.heap.size+7,0,none⟩)],.int .i64 x.1,undef,undef,undef,undef,undef,undef,undef,undef,undef,undef,undef,undef,undef,undef,undef,undef,undef,undef,undef,undef,undef,undef,undef,undef,undef,undef,undef,undef,undef,undef,undef,undef,undef,undef,undef,undef,undef,undef,undef,undef,undef,undef,undef,undef,undef,undef,undef,undef],defers:=[] }) ?assign ?body ?done ?stop
 case assign=>
  intro l x W K hK
  gi_wp2
  exact hK
 case body=>
  rintro l pre x W ⟨s,R,L,hzz,⟨b,m,c,rfl⟩,hO,hM⟩ hlt;have hx1:0<=x.1/\x.1 < 16777216:=x.2;obtain ⟨q,hq⟩:∃q,ds.length - pre.length=q+1:=⟨ds.length - pre.length - 1,by omega⟩
  rw [hq]at hO;have AE:=ζ (hO.setI (q:Int));have hl1:=ζ (show(dg 16777216 R).length<=1000000 from Nat.le_trans (dg_len_mono (by omega) (Nat.le_of_lt hM.lt)) hlN);have hql:q<=1000000:=by omega
  have ci:=hO.xi.cell;have fi:=hO.xi.free;have cl:=fun o=>(AE.out.xl.alloc o).cell;have hone:=ζ (show ∀y:Int,Sl 2 ((W.setCell ⟨w.heap.size+6,0,none⟩ (.int .i64 (q:Int))).alloc (.cells #[.int .i64 y] 2)) (.slice (some ⟨W.heap.size,0,none⟩) 1 1) [y]from fun y=>by
   have h:=Sl.one 2 (W.setCell ⟨w.heap.size+6,0,none⟩ (.int .i64 (q:Int))) y;rwa [World.size_setCell]at h)
  have HM:=ζ hM;have HQ:=ζ hq;have A8:=ζ hlt;clear hO hM hq hlt
  gi_wp2_with (gi_at_builtin;refine wpListIn_append_sl _ rfl _ _ 66 rfl 2 Tryz.underlying66 info_i64 _ _ rfl (hone.out _) _ _ rfl (Sl.alloc AE.out.dl _) ?c3 ?_)
  case c3=>simp;have:=hl1.out;omega
  intro a5 n5 c5 w5 ho5 hg5 hs5;have hzW:=ζ AE.out.xi.lt;have AV:=ζ (show Below W.heap.size (W.setCell ⟨w.heap.size+6,0,none⟩ (.int .i64 (q:Int))) w5 from
   ((Below.refl _ _).alloc (by simp) _).grown hg5 (by simp) (fun j hj=>by simp only [Value.ownBlock,Option.some.injEq]at hj;omega))
  obtain ⟨R2,AX⟩:∃R2,R2=R*16777216+x.1.toNat:=⟨_,rfl⟩
  have AO:=ζ AX;have hl2:=ζ (show(dg 16777216 R2).length<=1000001 from Nat.le_trans (dg_len_le (k:=(dg 16777216 R).length+1) (by omega) (by
   have:=dg_len_lt (b:=16777216) (by omega) R;rw [Nat.pow_succ,AX];have:=Nat.mul_le_mul_right 16777216 (show R+1<=16777216 ^ (dg 16777216 R).length from this);omega)) (by have:=hl1.out;omega))
  clear AX;have hv5:=ζ (show vl 16777216 (x.1::dg 16777216 R)=((R2:Nat):Int)by
   rw [AO.out,vl,show vl 16777216 (dg 16777216 R)=(R:Int)from vl_dg (b:=16777216) (by omega) R];omega)
  have hbd5:=ζ (show ∀y∈x.1::dg 16777216 R,-4611686018427387904<=y/\y<=4611686018427387904 from fun y hy=>by
   rcases List.mem_cons.1 hy with rfl | hy
   ·omega
   ·have:=dg_mem (b:=16777216) (by omega) R y hy;omega)
  have hf5:=ζ (show ∀k,Value.ownBlock (.slice a5 n5 c5)=some k->W.heap.size<=k from fun k hk=>by
   rcases hs5 k hk with h | h
   ·simp only [Value.ownBlock,Option.some.injEq]at h;omega
   ·omega)
  have A9:=ζ ho5;clear ho5 hg5 hs5 cl ci fi
  gi_wp2_with fail
  refine inCall l _ (settled_any _ (x.1::dg 16777216 R) _ ⟨_,_,_,rfl⟩ A9.out hbd5.out (by rw [hv5.out];omega) (by simp;have:=hl1.out;omega)) (by omega) ?_;rintro e w6 ⟨a6,n6,c6,rfl,hd6,hg6,hs6⟩;rw [hv5.out,Int.toNat_natCast]at hd6;have AY:=ζ (show Below W.heap.size (W.setCell ⟨w.heap.size+6,0,none⟩ (.int .i64 (q:Int))) w6 from AV.out.grown hg6 (by have:=AV.out.size;simp at this;omega) (fun j hj=>hf5.out j hj));have AW:=ζ (OI.later AE.out (W':=w6) (by rw [World.size_setCell];exact AY.out));have hf6:=ζ (show ∀k,Value.ownBlock (.slice a6 n6 c6)=some k->W.heap.size<=k from fun k hk=>by
   rcases hs6 k hk with h | h
   ·exact hf5.out k h
   ·have:=AV.out.size;simp at this;omega)
  have AN:=ζ (OI.setL AW.out hd6 (fun k hk=>by have:=hf6.out k hk;have:=hzW.out;simp at this;omega));have Ab:=ζ (show Tr w.heap.size W (w6.setCell ⟨w.heap.size+3,0,none⟩ (.slice a6 n6 c6))from
   ((Tr.set W 0 (.int .i64 (q:Int)) (.inr (.inr rfl))).trans (Tr.below (by rw [World.size_setCell];exact AY.out))).trans (Tr.set _ 0 _ (.inl rfl)))
  have cl:=AW.out.xl.cell;have fl:=AW.out.xl.free;have cl7:=AN.out.xl.cell;have cb7:=AN.out.xb.cell;clear AV AY AE AW hd6 hg6 hs6 hf5 hf6 A9 hbd5 hv5 hone
  gi_wp2_with fail
  refine inCall l _ (size_any _ _ _ _ _ _ R2 N _ AN.out.dl AN.out.db (Nat.le_trans hl2.out (by omega)) (Nat.le_trans hlN (by omega))) (by omega) ?_;rintro e w7 ⟨rfl,hb⟩;have AL:=ζ (AN.out.later hb);have AP:=ζ (Ab.out.trans (Tr.below hb));clear AN Ab hb cl fl cl7 cb7;by_cases hlt2:R2 < N
  ·have hc:cmpN R2 N= -1:=(by unfold cmpN;rw [if_pos hlt2]);rw [hc]
   gi_wp2
   refine⟨AP.out.from (by have:=HW.out;omega),fun k hk=>?_,⟨.slice a6 n6 c6,R2,L,Nat.le_trans hzz AP.out.size,⟨a6,n6,c6,rfl⟩,?_,?_⟩⟩
   ·obtain ⟨p1,p2,p3,p4⟩:=hblk k hk;exact AP.out.block k (by have:=HW.out;omega) p2 p3 p4
   ·have e:ds.length - (pre++ [x]).length=q:=(by rw [List.length_append,List.length_singleton];have:=HQ.out;omega);rw [e];exact AL.out
   ·rw [List.length_append,List.length_singleton,bv_snoc,AO.out];exact OM.skip HM.out hx1 A8.out (by rw [<-AO.out];exact hlt2)
  ·have hc:¬ cmpN R2 N < 0:=(by unfold cmpN;rw [if_neg hlt2];split<;>omega);have cl:=AL.out.xl.cell;have cb:=AL.out.xb.cell
   gi_wp2_with fail
   refine inCall l _ (share_any _ _ _ _ _ _ R2 N _ AL.out.dl AL.out.db hN (Nat.le_trans hl2.out (by omega)) (Nat.le_trans hlN (by omega))) (by omega) ?_;rintro e w8 ⟨k0,rfl,hk0,hb⟩;have Ac:=ζ (AL.out.later hb);have Ad:=ζ (AP.out.trans (Tr.below hb));clear AL AP hb cl cb hc
   gi_wp2_with fail
   gi_loopw [9] (fun kv wr=>∃k:Nat,kv= .int .i64 k/\k < 288230376151711744/\Hid (OI w wr (.slice a2 n2 cap2) N ds.length (.slice a6 n6 c6) R2 L (q:Int))/\Hid (Tr w.heap.size W wr)) (fun kv _=>(intOf kv).toNat)
   case atStart=>exact⟨k0,rfl,hk0,Ac,Ad⟩
   case round=>
    clear Ac Ad;obtain ⟨k,rfl,hk,AH,AQ⟩:=hrel;have cl:=AH.out.xl.cell;have cb:=AH.out.xb.cell
    gi_wp2_with fail
    clear hmx;have hmx:Tryz.prog.follows .mixedOrders=true:=(by kernel_rfl);have hwk:IntKind.u64.wrap ((k:Nat):Int)=(k:Int):=(by rw [IntKind.wrap_u64];omega);have hk64:k < 18446744073709551616:=(by omega);have hn2:1<=n - 1 - 1:=(by omega);have q1:=ζ (show(dg 16777216 N).length<=10000000 by omega);have q2:=ζ (wlen k hk);have q3:=ζ (show(dg 16777216 R2).length<=10000000 from Nat.le_trans hl2.out (by omega));have q4:=ζ (plen N k hk hlN);refine wpIn_mono (Q:=fun e a' W'=>e= .normal/\∃v35 v36 v37 v38 v39 v40 v41:Value,a'= { tmps:=#[.agg #[.slice a ds.length cap],.agg #[.slice a2 n2 cap2],.pointer (some ⟨w.heap.size,0,none⟩),.pointer (some ⟨w.heap.size+1,0,none⟩),.pointer (some ⟨w.heap.size+2,0,none⟩),.pointer (some ⟨w.heap.size+3,0,none⟩),.pointer (some ⟨w.heap.size+5,0,none⟩),.pointer (some ⟨w.heap.size+6,0,none⟩),.int .i64 x.1,.int .i64 (k:Int),.pointer (some ⟨w.heap.size,0,none⟩),.slice a ds.length cap,.int .i64 (ds.length:Int),.slice (some ⟨w.heap.size+4,0,none⟩) ds.length ds.length,.pointer (some ⟨w.heap.size,0,none⟩),.slice a ds.length cap,.int .i64 (ds.length:Int),.agg #[.slice a ds.length cap],.func (.func 153) #[] #[.pointer (some ⟨w.heap.size+7,0,none⟩)],.int .i64 x.1,.int .i64 ((q:Int)+1),.int .i64 (q:Int),.int .i64 x.1,.slice (some ⟨W.heap.size,0,none⟩) 1 1,.pointer (some ⟨w.heap.size+3,0,none⟩),.slice b m c,.slice a5 n5 c5,.agg #[.slice a6 n6 c6],.agg #[.slice a6 n6 c6],.agg #[.slice a2 n2 cap2],.int .i64 (cmpN R2 N),.bool (decide (cmpN R2 N < 0)),.agg #[.slice a6 n6 c6],.agg #[.slice a2 n2 cap2],.int .i64 (k0:Int),v35,v36,v37,v38,v39,v40,v41,.bool (decide (cmpN R2 (N*k) < 0)),u43,u44,undef,undef,undef,undef,undef,undef,undef,undef,undef,undef,undef,undef,undef,undef,undef,undef,undef,undef,undef,undef,undef,undef,undef],defers:=[] } /\Hid (OI w W' (.slice a2 n2 cap2) N ds.length (.slice a6 n6 c6) R2 L (q:Int))/\Hid (Tr w.heap.size W W')) ?reg ?rest
    case reg=>
     gi_region_with_o (first
      | (with_reducible refine inCall2 l _ (word_any k _ hk64) ?_
         rintro e w9 ⟨b1,m1,d1,rfl,hd1,hb1⟩;have AI:=ζ (OI.later AH.out (Below.trans (Below.refl _ _).drew hb1));have AZ:=ζ hd1;have A0:=ζ (AQ.out.trans (Tr.below (Below.trans (Below.refl _ _).drew hb1)));clear hd1 hb1;have cla:=AI.out.xl.cell;have cba:=AI.out.xb.cell)
      | (with_reducible refine inCall2 l _ (times_any a2 n2 cap2 b1 m1 d1 N k _ AI.out.db AZ.out q1.out q2.out) ?_
         rintro e w10 ⟨b2,m2,d2,rfl,hd1,hb1⟩;have AG:=ζ (OI.later AI.out hb1);have A1:=ζ hd1;have A2:=ζ (A0.out.trans (Tr.below hb1));clear hd1 hb1;have clb:=AG.out.xl.cell;have cbb:=AG.out.xb.cell)
      | (with_reducible refine inCall2 l _ (size_any a6 n6 c6 b2 m2 d2 R2 (N*k) _ AG.out.dl A1.out q3.out q4.out) ?_
         rintro e w11 ⟨rfl,hb1⟩;have AR:=ζ (OI.later AG.out hb1);have A3:=ζ (A2.out.trans (Tr.below hb1));clear hb1))
     all_goals exact⟨rfl,_,_,_,_,_,_,_,rfl,AR,A3⟩
    case rest=>
     rintro e a' W' ⟨rfl,v35,v36,v37,v38,v39,v40,v41,rfl,AF,AM⟩;clear AH AQ cl cb;by_cases hlt3:R2 < N*k
     ·have hc3:cmpN R2 (N*k)= -1:=(by unfold cmpN;rw [if_pos hlt3]);have hk1:1<=k:=by
       rcases Nat.eq_zero_or_pos k with rfl | h
       ·omega
       ·exact h
      rw [hc3]
      gi_wp2
      go_roundw
      case rel=>exact⟨k - 1,by rw [show((k - 1:Nat):Int)=(k:Int) - 1 by omega],by omega,AF,AM⟩
      case measure=>simp [intOf];omega
     ·have hc3:¬ cmpN R2 (N*k) < 0:=by unfold cmpN;rw [if_neg hlt3];split<;>omega
      gi_wp2_with fail
      have hle:N*k<=R2:=Nat.le_of_not_lt hlt3;have key:0<=(R2:Int)+(-1)*((N*k:Nat):Int):=(by generalize N*k=P at hle;omega);obtain ⟨R3,Af⟩:∃R3,R3=((R2:Int)+(-1)*((N*k:Nat):Int)).toNat:=⟨_,rfl⟩
      have AK:=ζ (show R2=N*k+R3 by generalize N*k=P at*;omega);have cl:=AF.out.xl.cell;have cb:=AF.out.xb.cell;refine wpIn_mono (Q:=fun e a' W'=>e= .normal/\∃v45 v46 v47 v48 v49 v50 v51:Value,a'= { tmps:=#[.agg #[.slice a ds.length cap],.agg #[.slice a2 n2 cap2],.pointer (some ⟨w.heap.size,0,none⟩),.pointer (some ⟨w.heap.size+1,0,none⟩),.pointer (some ⟨w.heap.size+2,0,none⟩),.pointer (some ⟨w.heap.size+3,0,none⟩),.pointer (some ⟨w.heap.size+5,0,none⟩),.pointer (some ⟨w.heap.size+6,0,none⟩),.int .i64 x.1,.int .i64 (k:Int),.pointer (some ⟨w.heap.size,0,none⟩),.slice a ds.length cap,.int .i64 (ds.length:Int),.slice (some ⟨w.heap.size+4,0,none⟩) ds.length ds.length,.pointer (some ⟨w.heap.size,0,none⟩),.slice a ds.length cap,.int .i64 (ds.length:Int),.agg #[.slice a ds.length cap],.func (.func 153) #[] #[.pointer (some ⟨w.heap.size+7,0,none⟩)],.int .i64 x.1,.int .i64 ((q:Int)+1),.int .i64 (q:Int),.int .i64 x.1,.slice (some ⟨W.heap.size,0,none⟩) 1 1,.pointer (some ⟨w.heap.size+3,0,none⟩),.slice b m c,.slice a5 n5 c5,.agg #[.slice a6 n6 c6],.agg #[.slice a6 n6 c6],.agg #[.slice a2 n2 cap2],.int .i64 (cmpN R2 N),.bool (decide (cmpN R2 N < 0)),.agg #[.slice a6 n6 c6],.agg #[.slice a2 n2 cap2],.int .i64 (k0:Int),v35,v36,v37,v38,v39,v40,v41,.bool (decide (cmpN R2 (N*k) < 0)),u43,u44,v45,v46,v47,v48,v49,v50,v51,undef,undef,undef,undef,undef,undef,undef,undef,undef,undef,undef,undef,undef,undef,undef,undef],defers:=[] } /\∃a9 n9 c9,Hid (OI w W' (.slice a2 n2 cap2) N ds.length (.slice a9 n9 c9) R3 L (q:Int))/\Hid (Tr w.heap.size W W')) ?reg2 ?rest2
      case reg2=>
       gi_region_with_o (first
        | (with_reducible refine inCall2 l _ (word_any k _ hk64) ?_
           rintro e w9 ⟨b1,m1,d1,rfl,hd1,hb1⟩;have AI:=ζ (OI.later AF.out (Below.trans (Below.refl _ _).drew hb1));have AZ:=ζ hd1;have A0:=ζ (AM.out.trans (Tr.below (Below.trans (Below.refl _ _).drew hb1)));clear hd1 hb1;have cla:=AI.out.xl.cell;have cba:=AI.out.xb.cell)
        | (with_reducible refine inCall2 l _ (times_any a2 n2 cap2 b1 m1 d1 N k _ AI.out.db AZ.out q1.out q2.out) ?_
           rintro e w10 ⟨b2,m2,d2,rfl,hd1,hb1⟩;have AG:=ζ (OI.later AI.out hb1);have A1:=ζ hd1;have A2:=ζ (A0.out.trans (Tr.below hb1));clear hd1 hb1;have clb:=AG.out.xl.cell;have cbb:=AG.out.xb.cell)
        | (with_reducible refine inCall2 l _ (plus_fresh a6 n6 c6 b2 m2 d2 (-1) R2 (N*k) _ AG.out.dl A1.out (.inr rfl) key q3.out q4.out) ?_
           rintro e w11 ⟨b3,m3,d3,rfl,hd1,hb1,hf1⟩;rw [<-Af]at hd1;have AR:=ζ (OI.later AG.out hb1);have A3:=ζ (A2.out.trans (Tr.below hb1));have Ak:=ζ hf1;have Al:=ζ hd1;clear hd1 hb1 hf1;have clc:=AR.out.xl.cell;have clf:=AR.out.xl.free))
       all_goals exact⟨rfl,_,_,_,_,_,_,_,rfl,_,_,_,ζ (OI.setL AR.out Al.out (fun k hk=>by have:=Ak.out k hk;have:=AG.out.xo.lt;omega)),ζ (A3.out.trans (Tr.set _ 0 _ (.inl rfl)))⟩
      case rest2=>
       rintro e a' W9 ⟨rfl,v45,v46,v47,v48,v49,v50,v51,rfl,a9,n9,c9,AS,AT⟩;clear AF AM cl cb key hle hc3;have hkU:=ζ (show ∀k' R':Nat,R2=N*k'+R'->k' < 16777216 from fun k' R' e=>by
        have h1:=HM.out.lt;have h2:=AO.out;rcases Nat.lt_or_ge k' 16777216 with h' | h'
        ·exact h'
        ·exfalso;have h3:N*16777216<=N*k':=Nat.mul_le_mul_left _ h';have h4:(R+1)*16777216<=N*16777216:=Nat.mul_le_mul_right _ h1;omega)
       gi_wp2_with fail
       gi_loopw [9] (fun kv wr=>∃ (k s:Nat) (a9:OA) (n9 c9:Nat),kv= .int .i64 k/\Hid (R2=N*k+s)/\Hid (OI w wr (.slice a2 n2 cap2) N ds.length (.slice a9 n9 c9) s L (q:Int))/\Hid (Tr w.heap.size W wr)) (fun kv _=>R2 - N*(intOf kv).toNat)
       case atStart=>exact⟨k,R3,a9,n9,c9,rfl,AK,AS,AT⟩
       case round=>
        clear AS AT AK Af hwk hk64 hlt3 hk a9 n9 c9;obtain ⟨k,s,a9,n9,c9,rfl,AK,AB,AU⟩:=hrel;have hk:=hkU.out k s AK.out;have cl:=AB.out.xl.cell;have cb:=AB.out.xb.cell;have hsl:=ζ (show(dg 16777216 s).length<=10000000 from Nat.le_trans (dg_len_mono (by omega) (by have:=AK.out;omega)) (q3.out))
        gi_wp2_with fail
        refine inCall2 l _ (size_any _ _ _ _ _ _ s N _ AB.out.dl AB.out.db hsl.out q1.out) ?_;rintro e w12 ⟨rfl,hb⟩;have AA:=ζ (AB.out.later hb);have AJ:=ζ (AU.out.trans (Tr.below hb));clear AB AU hb cl cb;by_cases hlt4:s < N
        ·have hc4:cmpN s N= -1:=(by unfold cmpN;rw [if_pos hlt4]);have co:=AA.out.xo.cell;have ci:=AA.out.xi.cell;have hlen:=ζ HM.out.len;rw [hc4];have hqd:q < ds.length:=(by have:=HQ.out;omega);have fo:=AA.out.ar.free q;obtain ⟨y,cy⟩:∃y,w12.cell? ⟨w.heap.size+4,q,none⟩=some (.int .i64 y):=⟨_,AA.out.ar.cell (k:=q) (by rw [hlen.out];exact hqd)⟩
         have AC:=ζ (AA.out.setO q (k:Int));have AD:=ζ (AJ.out.trans (Tr.set w12 q (.int .i64 (k:Int)) (.inr (.inl rfl))));have hsz:=AA.out.xi.lt;clear AA AJ
         gi_wp2
         refine⟨AD.out.from (by have:=HW.out;omega),fun k hk=>?_,⟨.slice a9 n9 c9,s,L.set q (k:Int),Nat.le_trans hzz AD.out.size,⟨a9,n9,c9,rfl⟩,?_,?_⟩⟩
         ·obtain ⟨p1,p2,p3,p4⟩:=hblk k hk;exact AD.out.block k (by have:=HW.out;omega) p2 p3 p4
         ·have e:ds.length - (pre++ [x]).length=q:=(by rw [List.length_append,List.length_singleton];have:=HQ.out;omega);rw [e];exact AC.out
         ·rw [List.length_append,List.length_singleton,bv_snoc];have e:q=ds.length - pre.length - 1:=(by have:=HQ.out;omega);rw [e];exact OM.step HM.out hx1 A8.out (by rw [<-AO.out,AK.out,Nat.mul_comm]) hlt4
        ·have hc4:¬ cmpN s N < 0:=(by unfold cmpN;rw [if_neg hlt4];split<;>omega);have cl:=AA.out.xl.cell;have cb:=AA.out.xb.cell
         gi_wp2_with fail
         refine inCall2 l _ (plus_fresh _ _ _ _ _ _ (-1) s N _ AA.out.dl AA.out.db (.inr rfl) (by omega) hsl.out q1.out) ?_;rintro e w13 ⟨a10,n10,c10,rfl,hd,hb,hf⟩;obtain ⟨s2,hs2⟩:∃s2,s2=((s:Int)+(-1)*(N:Int)).toNat:=⟨_,rfl⟩
         rw [<-hs2]at hd;have AC:=ζ (AA.out.later hb);have AD:=ζ (AJ.out.trans (Tr.below hb));have hlo:=AA.out.xo.lt;have A4:=ζ (OI.setL AC.out hd (fun k hk=>by have:=hf k hk;omega));have A5:=ζ (AD.out.trans (Tr.set w13 0 (.slice a10 n10 c10) (.inl rfl)));have cl2:=AC.out.xl.cell;have fl2:=AC.out.xl.free;have Am:=ζ (show R2=N*(k+1)+s2 by have:=AK.out;rw [Nat.mul_add,Nat.mul_one];generalize N*k=P at*;omega);clear AA AJ AC AD hb hf hd cl cb hlo hs2
         gi_wp2
         go_roundw
         case rel=>exact⟨k+1,s2,a10,n10,c10,by rw [Int.natCast_add];rfl,Am,A4,A5⟩
         case measure=>
          have:=AK.out;have e1:N*(k+1)=N*k+N:=(by rw [Nat.mul_add,Nat.mul_one]);simp only [intOf,Int.toNat_natCast,show((k:Int)+1).toNat=k+1 by omega];rw [e1];generalize N*k=P at*;omega
 case done=>
  rintro D ys W hD rfl ⟨s,R,L,hzz,⟨b,m,c,rfl⟩,hO,hM⟩ hK;have hlen:L.length=ds.length:=by rw [hM.len]
  have co:=hO.xo.cell;have cl:=hO.xl.cell;have hb4:∀y∈L,-4611686018427387904<=y/\y<=4611686018427387904:=fun y hy=>by have:=hM.rng y hy;omega
  have hv0:0<=vl 16777216 L:=vl_nonneg (b:=16777216) fun y hy=>(hM.rng y hy).1;have hv1:(vl 16777216 L).toNat=bv ds.reverse / N/\R=bv ds.reverse % N:=by
   have h1:=hM.val;have h2:=hM.lt;rw [List.length_reverse,Nat.sub_self,List.drop_zero]at h1;obtain ⟨V,hV⟩:∃V:Nat,vl 16777216 L=(V:Int):=⟨(vl 16777216 L).toNat,by have:0<=vl 16777216 L:=hv0;omega⟩
   rw [hV]at h1⊢;have h3:bv ds.reverse=R+N*V:=by
    have:((bv ds.reverse:Nat):Int)=((R+N*V:Nat):Int):=(by rw [<-h1];push_cast;grind);omega
   rw [h3,Nat.add_mul_div_left _ _ hN,Nat.add_mul_mod_self_left,Nat.div_eq_of_lt h2,Nat.mod_eq_of_lt h2,Nat.zero_add];exact⟨Int.toNat_natCast _,rfl⟩
  have AE:=ζ hO;have As:=ζ hM;have HV:=ζ hv0;have Ag:=ζ hv1;have An:=ζ hb4;have HK:=ζ hK;have Ap:=ζ hlen;have Aq:=ζ (show L.length<=100000000 by omega);have Ar:=ζ (show Sl 2 W.drew _ _ from hO.ar);have HSL:=ζ (show ∃a n c,Value.slice (some ⟨w.heap.size+4,0,none⟩) ds.length ds.length= .slice a n c from⟨_,_,_,rfl⟩);clear hO hM hv0 hv1 hb4 hK hlen;clear hmx;have hmx:Tryz.prog.follows .mixedOrders=true:=by kernel_rfl
  gi_wp2_with fail
  refine wpIn_mono (Q:=fun e a' W'=>e= .normal/\∃v65 v66 v67:Value,a'= { tmps:=#[.agg #[.slice a ds.length cap],.agg #[.slice a2 n2 cap2],.pointer (some ⟨w.heap.size,0,none⟩),.pointer (some ⟨w.heap.size+1,0,none⟩),.pointer (some ⟨w.heap.size+1+1,0,none⟩),.pointer (some ⟨w.heap.size+1+1+1,0,none⟩),.pointer (some ⟨w.heap.size+1+1+1+1+1,0,none⟩),.pointer (some ⟨w.heap.size+1+1+1+1+1+1,0,none⟩),undef,undef,.pointer (some ⟨w.heap.size,0,none⟩),.slice a ds.length cap,.int .i64 (ds.length:Int),.slice (some ⟨w.heap.size+1+1+1+1,0,none⟩) ds.length ds.length,.pointer (some ⟨w.heap.size,0,none⟩),.slice a ds.length cap,.int .i64 (ds.length:Int),.agg #[.slice a ds.length cap],.func (.func 153) #[] #[.pointer (some ⟨w.heap.size+1+1+1+1+1+1+1,0,none⟩)],undef,undef,undef,undef,undef,undef,undef,undef,undef,undef,undef,undef,undef,undef,undef,undef,undef,undef,undef,undef,undef,undef,undef,undef,undef,undef,undef,undef,undef,undef,undef,undef,undef,undef,undef,undef,undef,undef,undef,undef,undef,undef,undef,undef,undef,undef,v65,v66,v67],defers:=[{ target:= .collected D,args:=#[] }] } /\∃a3 n3 c3,Hid (Dg W' (.slice a3 n3 c3) (vl 16777216 L).toNat/\Dg W' (.slice b m c) R/\Below w.heap.size w W'/\W'.heap[D]? =some (Obj.deferred (some [])))/\W'.cell? ⟨w.heap.size+1+1,0,none⟩=some (.slice a3 n3 c3)/\W'.cell? ⟨w.heap.size+1+1+1,0,none⟩=some (.slice b m c)) ?reg4 ?rest4
  case reg4=>
   gi_region_with_o (first
    | (with_reducible refine inCallW _ (settled_any _ L _ HSL.out Ar.out An.out HV.out Aq.out) ?_
       rintro e w9 ⟨b1,m1,d1,rfl,hd1,hb1,hs1⟩;have xq:=(show Box W.drew _ _ _ from AE.out.xq).grown hb1 (by simp [Value.ownBlock]);have xl:=(show Box W.drew _ _ _ from AE.out.xl).grown hb1 (by simp [Value.ownBlock]);have hd2:Dg w9 (.slice b m c) R:=(show Sl _ W.drew _ _ from AE.out.dl).grown hb1 (.inr (fun e=>AE.out.fs (w.heap.size+4) (by rw [e];rfl) rfl));have be:Below w.heap.size w w9:=(show Below w.heap.size w W.drew from AE.out.be.drew).grown hb1 AE.out.be.size (fun j hj=>by simp only [Value.ownBlock,Option.some.injEq]at hj;omega);have kD:w9.heap[D]? =some (Obj.deferred (some [])):=(hb1.block D (Array.getElem?_eq_some_iff.1 HK.out).1 (by have:=HW.out;simp only [Value.ownBlock,ne_eq,Option.some.injEq];omega)).trans HK.out;have cq:=xq.cell;have fq:=xq.free;have cx:=xl.cell;have fx:=xl.free;have HX:=ζ (And.intro xq (And.intro xl (And.intro hd1 (And.intro hd2 (And.intro be kD)))));clear xq xl hd1 hd2 be kD hb1 hs1))
   all_goals exact⟨rfl,_,_,_,rfl,b1,m1,d1,over_fin (by first | exact .inl rfl | exact .inr rfl) (by have:=HW.out;omega) HX.out⟩
  case rest4=>
   rintro e a' W9 ⟨rfl,v65,v66,v67,rfl,a3,n3,c3,hR,hc1,hc2⟩
   gi_wp2_with fail
   have A6:=hR.out;rw [Ag.out.1,Ag.out.2]at A6;refine⟨by simp,.inl ⟨_,_,rfl,run_takeDeferred A6.2.2.2,?_⟩⟩;obtain ⟨r1,r2,r3,r4⟩:=A6;have Av:w.heap.size+8<=D:=(by have:=HW.out;omega);have nd:∀ {v:Value} {xs:List Int},Sl 2 W9 v xs->Sl 2 (W9.putObj D (Obj.deferred none)) v xs:=fun {v xs} hv=>hv.grown (grownBy_putObj' W9 D _) (by
    cases hb:v.ownBlock with
    | none=>exact .inl rfl
    | some k=>
      right;intro e;cases e;rcases hv.2 with ⟨rfl,_⟩ | ⟨g,cap,cur,rfl,_,hg',_⟩
      ·simp [Value.ownBlock]at hb
      ·simp only [Value.ownBlock,Option.some.injEq]at hb;subst hb;rw [hg']at r4;cases r4)
   have e1:=(World.cell?_of_block (World.putObj_heap_other (w:=W9) (r:=D) (k:=w.heap.size+1+1) (o:=Obj.deferred none) (by omega))).trans hc1;have e2:=(World.cell?_of_block (World.putObj_heap_other (w:=W9) (r:=D) (k:=w.heap.size+1+1+1) (o:=Obj.deferred none) (by omega))).trans hc2;refine⟨.tuple #[.agg #[.slice a3 n3 c3],.agg #[.slice b m c]],?_,a3,n3,c3,b,m,c,rfl,nd r1,nd r2,?_⟩
   ·simp [results,Tryz.results151,go_sem,e1,e2]
   ·exact r3.trans ⟨rfl,rfl,rfl,by simp,fun k hk=>World.putObj_heap_other (by omega)⟩
 case stop=>
  rintro D c pre W _ _ h _;exact h.elim
theorem over_any (a:OA) (n c:Nat) (a2:OA) (n2 c2 M N:Nat) (w:World) (h1:Dg w (.slice a n c) M) (h2:Dg w (.slice a2 n2 c2) N) (hN:0 < N)
  (hlM:(dg 16777216 M).length<=1000000) (hlN:(dg 16777216 N).length<=1000000):
  Calls Tryz.prog 151 #[.agg #[.slice a n c],.agg #[.slice a2 n2 c2]] w fun e W'=>∃a3 n3 c3 a4 n4 c4,e= .returned (.tuple #[.agg #[.slice a3 n3 c3],.agg #[.slice a4 n4 c4]])/\
   Dg W' (.slice a3 n3 c3) (M / N)/\Dg W' (.slice a4 n4 c4) (M % N)/\Below w.heap.size w W':=by
 obtain ⟨ds,hds⟩:=dx_of M;have hv:bv ds.reverse=M:=by
  have:=bv_reverse ds;rw [hds,show vl 16777216 (dg 16777216 M)=(M:Int)from vl_dg (b:=16777216) (by omega) M]at this;omega
 have hl:ds.length<=1000000:=by
  have:=congrArg List.length hds;rw [List.length_map]at this;omega
 have:=(callsIn_wide (n:=4)).1 (over_in 4 (Nat.le_refl _) a n c a2 n2 c2 ds N hl w (by rw [hds];exact h1) h2 hN hlN);rw [hv]at this;exact this
end
end Go.Proofs.YtjpojeapdgjbhaaGreatDoor
