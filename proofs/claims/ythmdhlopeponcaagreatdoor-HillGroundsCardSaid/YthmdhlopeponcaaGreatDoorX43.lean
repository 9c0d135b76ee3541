/- the reference's integers: the walk of ZQuotient -/
import Derived.Test.YthmdhlopeponcaaGreatDoorX0
import Derived.Test.YthmdhlopeponcaaGreatDoorX42
import Derived.Test.YthmdhlopeponcaaGreatDoorX16
set_option maxRecDepth 100000
set_option maxHeartbeats 16000000
namespace Go.Proofs.YthmdhlopeponcaaGreatDoor
open Go.RowKit Dig
section
variable {w W:World} {bs:List (Nat×Array Value×TypeId)} {rs:List (World→Prop)}
theorem St.pl (h:St w W bs rs) {v:Value} {xs:List Int} (hz:Sl 3 W v xs):St w W bs (rs++ [fun V=>Sl 3 V v xs]):=h.push (fun _ _ k hz=>Sl.keep hz rfl k) hz
theorem St.l (h:St w W bs rs) (i:Nat) {v:Value} {xs:List Int} (hx:rs[i]? =some (fun V=>Sl 3 V v xs)):Sl 3 W v xs:=(h.rd _ (List.mem_of_getElem? hx)).2
theorem St.store (h:St w W bs rs) {g k:Nat} {v:Value} (hg:w.heap.size≤g) (hb:∀x∈bs,x.1≠g):St w (W.setCell ⟨g,k,none⟩ v) bs []:=
 (h.pick [] (rs':=[]) rfl).grown (grownBy_setCell W g k v) (fun j hj=>by simp only [Option.some.injEq]at hj;subst hj;exact⟨hg,hb⟩)
end
theorem Nz.nil {w:World} :Nz w 0 (.slice none 0 0) 0:=⟨rfl,by rw [Int.natAbs_zero,dg_zero];exact Sl.nil⟩
theorem Nz.other {w:World} {s:Int} {g:Value} {z:Int} (h:Nz w s g z) {b k:Nat} (hne:g.ownBlock≠some b) (u:Value):Nz (w.setCell ⟨b,k,none⟩ u) s g z:=⟨h.s,h.g.other hne u⟩
theorem Nz.s0 {w:World} {s:Int} {g:Value} {z:Int} (h:Nz w s g z):(s < 0↔z < 0)∧(s=0↔z=0):=by
 have:=h.s
 subst this
 unfold sgnN
 by_cases h0:z=0
 ·rw [if_pos h0];omega
 ·rw [if_neg h0]
  by_cases h1:z < 0
  ·rw [if_pos h1];omega
  ·rw [if_neg h1];omega
section
variable {w:World} {s1:Int} {a1:Option Addr} {n1 c1:Nat} {z1:Int} {s2:Int} {a2:Option Addr} {n2 c2:Nat} {z2:Int} {k1 k2:Nat}
theorem timesN_b {m:Int} (h1:Nz w s1 (.slice a1 n1 c1) z1) (b1:Bd k1 z1) (hk1:k1≤500000) (h0:0≤m) (hm:m≤10000):
  Calls Tryz.prog 184 #[.agg #[.int .i64 s1,.slice a1 n1 c1],.int .i64 m] w (RetN w (m*z1)):=rtimes_any _ _ _ _ _ _ _ h1 (Nat.le_trans (b1.lenN hk1) (by omega)) h0 hm
theorem larger_b (h1:Nz w s1 (.slice a1 n1 c1) z1) (h2:Nz w s2 (.slice a2 n2 c2) z2) (b1:Bd k1 z1) (b2:Bd k2 z2) (hk1:k1≤500000) (hk2:k2≤500000):
  Calls Tryz.prog 168 #[.agg #[.int .i64 s1,.slice a1 n1 c1],.agg #[.int .i64 s2,.slice a2 n2 c2]] w fun e w'=>e= .returned (.int .i64 (cmpN z1.natAbs z2.natAbs))∧Below w.heap.size w w':=larger_any _ _ _ _ _ _ _ _ _ _ _ h1 h2 (Nat.le_trans (b1.lenN hk1) (by omega)) (Nat.le_trans (b2.lenN hk2) (by omega))
end
theorem zabs_same {s1:Int} {a1:Option Addr} {n1 c1:Nat} {z1:Int} {w:World} (h1:Nz w s1 (.slice a1 n1 c1) z1):
  Calls Tryz.prog 183 #[.agg #[.int .i64 s1,.slice a1 n1 c1]] w (fun e w'=>∃s,e= .returned (.agg #[.int .i64 s,.slice a1 n1 c1])∧Nz w' s (.slice a1 n1 c1) (z1.natAbs:Int)∧Below w.heap.size w w'):=by
 have HS:=ζ (show s1*s1=sgnN (z1.natAbs:Int)from by rw [h1.s];unfold sgnN;by_cases h:z1=0;subst h;rfl;by_cases h2:z1 < 0;rw [if_neg h,if_pos h2,if_neg (by omega),if_neg (by omega)];rfl;rw [if_neg h,if_neg h2,if_neg (by omega),if_neg (by omega)];rfl)
 have hw:IntKind.i64.wrap (s1*s1)=s1*s1:=by
  rcases h1.sb with h | h | h<;>rw [h]<;>rfl
 have hC:=ζ ((((St.enter w).pn h1).al (w.heap.size) #[.int .i64 s1,.slice a1 n1 c1] 48 rfl rfl).al (w.heap.size+1) #[.int .i64 (s1*s1),.slice a1 n1 c1] 48 (by simp) rfl)
 clear h1
 go_enter Tryz.func183,Tryz.ntmps183
 go_wp2
 refine ret_st hC.out (v:= .agg #[.int .i64 (s1*s1),.slice a1 n1 c1]) (fun hF=>?_) rfl (fun hF=>⟨_,rfl,⟨HS.out,by rw [Int.natAbs_natCast];exact(hF.n 0 rfl).g⟩,hF.be⟩)
 ·have e0:=hF.cell 1 0 rfl rfl
  have e1:=hF.cell 1 1 rfl rfl
  simp [results,Tryz.results183,go_sem,e0,e1]
def RetQN (w:World) (q r:Int) (e:Ending) (w':World):Prop:=∃s a n c s' a' n' c',e= .returned (.tuple #[.agg #[.int .i64 s,.slice a n c],.agg #[.int .i64 s',.slice a' n' c']])∧Nz w' s (.slice a n c) q∧Nz w' s' (.slice a' n' c') r∧Below w.heap.size w w'
theorem cmpN_le {M N:Nat} :(cmpN M N≤0)↔M≤N:=by
 unfold cmpN
 by_cases h0:M < N
 ·rw [if_pos h0];omega
 ·rw [if_neg h0]
  by_cases h1:N < M
  ·rw [if_pos h1];omega
  ·rw [if_neg h1];omega
theorem mN15_0 {P_ : Prop} (h : P_ := by
 (try dsimp only)
 all_goals (first
   | (with_reducible refine And.intro (?_:World.cell? (World.setCell (World.setCell w6 _ _) _ _) _=_) ?_;exact((hC6.out|>.set 4 rfl|>.set 4 rfl)).cell 0 1 rfl rfl;(rw [HX.out];exact(((hC6.out|>.set 4 rfl|>.set 4 rfl)).l 0 rfl).cell hlt))
   | (with_reducible refine And.intro (?_:World.cell? w6 _=_) ?_;exact(hC6.out).cell 0 1 rfl rfl;(rw [HX.out];exact((hC6.out).l 0 rfl).cell hlt))
   | (with_reducible refine And.intro (?_:World.cell? w5 _=_) ?_;exact(hC5.out).cell 0 1 rfl rfl;(rw [HX.out];exact((hC5.out).l 0 rfl).cell hlt))
   | (with_reducible refine And.intro (?_:World.cell? (World.drew (World.alloc wr _)) _=_) ?_;exact(hC.out.row.drew).cell 0 1 rfl rfl;(rw [HX.out];exact((hC.out.row.drew).l 0 rfl).cell hlt))
   | (with_reducible refine And.intro (?_:World.cell? (World.drew wr) _=_) ?_;exact(hC.out.drew).cell 0 1 rfl rfl;(rw [HX.out];exact((hC.out.drew).l 0 rfl).cell hlt)))) : P_ := h
theorem mN15_1 {P_ : Prop} (h : P_ := by
 (try dsimp only)
 all_goals (first
   | (with_reducible refine And.intro (?_:World.cell? (World.setCell (World.setCell w11 _ _) _ _) _=_) ?_;exact(hC11.out|>.set 4 rfl|>.set 4 rfl).cell 5 0 rfl rfl;exact⟨(hC11.out|>.set 4 rfl|>.set 4 rfl).cell 5 1 rfl rfl,trivial⟩)
   | (with_reducible refine And.intro (?_:World.cell? w11 _=_) ?_;exact hC11.out.cell 5 0 rfl rfl;exact⟨hC11.out.cell 5 1 rfl rfl,trivial⟩)
   | (with_reducible refine And.intro (?_:World.cell? w10 _=_) ?_;exact hC10.out.cell 5 0 rfl rfl;exact⟨hC10.out.cell 5 1 rfl rfl,trivial⟩)
   | (with_reducible refine And.intro (?_:World.cell? (World.drew w9) _=_) ?_;exact hC.out.drew.cell 5 0 rfl rfl;exact⟨hC.out.drew.cell 5 1 rfl rfl,trivial⟩))) : P_ := h
theorem mN15_6 {P_ : Prop} (h : P_ := by
 have e0:=hF.cell 2 0 rfl rfl
 have e1:=hF.cell 2 1 rfl rfl
 have e2:=hF.cell 3 0 rfl rfl
 have e3:=hF.cell 3 1 rfl rfl
 simp [results,Tryz.results163,go_sem,e0,e1,e2,e3]) : P_ := h
theorem mN15_2 {P_ : Prop} (h : P_ := by
 have hC:=ζ hc
 clear hc
 have x10:=hC.out.cell 1 0 rfl rfl
 by_cases hd:z2 < 0
 ·have d1:decide (s2 < 0)=true:=by simpa using HS2.out.1.2 hd
  have HF2:=ζ (show z1 / z2= -_∧z1 % z2=_ from by have:=HF.out;rw [if_pos hd]at this;exact this)
  clear hd
  have q60:=hC.out.cell 6 0 rfl rfl
  have q61:=hC.out.cell 6 1 rfl rfl
  go_wp2_with fail
  refine(negN_b (hC.out.n 5 rfl)).mono ?_
  rintro e w11 ⟨s11,a11,n11,c11,rfl,hz,hb⟩
  have hC11:=ζ ((hC.out.call hb).pn hz)
  clear hz hb hC q60 q61 x10
  have q60:=hC11.out.cell 6 0 rfl rfl
  have q61:=hC11.out.cell 6 1 rfl rfl
  have f60:=hC11.out.free 6 0 rfl
  have f61:=hC11.out.free 6 1 rfl
  go_upto_region 21 with fail
  refine wp_gen (hC11.out.set 6 rfl|>.set 6 rfl) ?_
  intro w12 hc
  clear hC11 q60 q61 f60 f61 d1
  have hC:=ζ hc
  clear hc
  have hC_c20:=hC.out.cell 2 0 rfl rfl
  have hC_f20:=hC.out.free 2 0 rfl
  have hC_c21:=hC.out.cell 2 1 rfl rfl
  have hC_f21:=hC.out.free 2 1 rfl
  have hC_c30:=hC.out.cell 3 0 rfl rfl
  have hC_f30:=hC.out.free 3 0 rfl
  have hC_c31:=hC.out.cell 3 1 rfl rfl
  have hC_f31:=hC.out.free 3 1 rfl
  go_region_held3 (fun w'=>w'.cell? ⟨w6.heap.size,0,none⟩=some (.int .i64 s11)∧w'.cell? ⟨w6.heap.size,1,none⟩=some (.slice a11 n11 c11)∧w'.cell? ⟨w3.heap.size,0,none⟩=some (.int .i64 s5)∧w'.cell? ⟨w3.heap.size,1,none⟩=some (.slice a5 n5 c5)∧True)
   (first
    | (with_reducible refine And.intro (?_:World.cell? (World.drew (World.setCell (World.setCell (World.setCell (World.setCell w12 _ _) _ _) _ _) _ _)) _=_) ?_;exact((hC.out|>.set 2 rfl|>.set 2 rfl)|>.set 3 rfl|>.set 3 rfl).drew.cell 6 0 rfl rfl;exact⟨((hC.out|>.set 2 rfl|>.set 2 rfl)|>.set 3 rfl|>.set 3 rfl).drew.cell 6 1 rfl rfl,((hC.out|>.set 2 rfl|>.set 2 rfl)|>.set 3 rfl|>.set 3 rfl).drew.cell 4 0 rfl rfl,((hC.out|>.set 2 rfl|>.set 2 rfl)|>.set 3 rfl|>.set 3 rfl).drew.cell 4 1 rfl rfl,trivial⟩)
    | (with_reducible refine And.intro (?_:World.cell? (World.drew (World.setCell (World.setCell w12 _ _) _ _)) _=_) ?_;exact(hC.out|>.set 2 rfl|>.set 2 rfl).drew.cell 6 0 rfl rfl;exact⟨(hC.out|>.set 2 rfl|>.set 2 rfl).drew.cell 6 1 rfl rfl,(hC.out|>.set 2 rfl|>.set 2 rfl).drew.cell 4 0 rfl rfl,(hC.out|>.set 2 rfl|>.set 2 rfl).drew.cell 4 1 rfl rfl,trivial⟩)
    | (with_reducible refine And.intro (?_:World.cell? (World.drew w12) _=_) ?_;exact hC.out.drew.cell 6 0 rfl rfl;exact⟨hC.out.drew.cell 6 1 rfl rfl,hC.out.drew.cell 4 0 rfl rfl,hC.out.drew.cell 4 1 rfl rfl,trivial⟩))
   (first
    | (fail)
    | fail)
  go_wp2
  refine ret_st ((hC.out|>.set 2 rfl|>.set 2 rfl)|>.set 3 rfl|>.set 3 rfl).drew (v:= .tuple #[.agg #[.int .i64 s11,.slice a11 n11 c11],.agg #[.int .i64 s5,.slice a5 n5 c5]]) (fun hF=>?_) rfl (fun hF=>⟨_,_,_,_,_,_,_,_,rfl,by rw [HF2.out.1];exact hF.n 6 rfl,by rw [HF2.out.2];exact hF.n 4 rfl,hF.be⟩)
  ·exact mN15_6
 ·have d1:decide (s2 < 0)=false:=by have:=fun h=>hd (HS2.out.1.1 h);simpa using this
  have HF2:=ζ (show z1 / z2=_∧z1 % z2=_ from by have:=HF.out;rw [if_neg hd]at this;exact this)
  clear hd
  go_upto_region 21 with fail
  clear x10 d1
  have hC_c20:=hC.out.cell 2 0 rfl rfl
  have hC_f20:=hC.out.free 2 0 rfl
  have hC_c21:=hC.out.cell 2 1 rfl rfl
  have hC_f21:=hC.out.free 2 1 rfl
  have hC_c30:=hC.out.cell 3 0 rfl rfl
  have hC_f30:=hC.out.free 3 0 rfl
  have hC_c31:=hC.out.cell 3 1 rfl rfl
  have hC_f31:=hC.out.free 3 1 rfl
  go_region_held3 (fun w'=>w'.cell? ⟨w6.heap.size,0,none⟩=some (.int .i64 s6)∧w'.cell? ⟨w6.heap.size,1,none⟩=some (.slice a6 n6 c6)∧w'.cell? ⟨w3.heap.size,0,none⟩=some (.int .i64 s5)∧w'.cell? ⟨w3.heap.size,1,none⟩=some (.slice a5 n5 c5)∧True)
   (first
    | (with_reducible refine And.intro (?_:World.cell? (World.drew (World.setCell (World.setCell (World.setCell (World.setCell wx _ _) _ _) _ _) _ _)) _=_) ?_;exact((hC.out|>.set 2 rfl|>.set 2 rfl)|>.set 3 rfl|>.set 3 rfl).drew.cell 6 0 rfl rfl;exact⟨((hC.out|>.set 2 rfl|>.set 2 rfl)|>.set 3 rfl|>.set 3 rfl).drew.cell 6 1 rfl rfl,((hC.out|>.set 2 rfl|>.set 2 rfl)|>.set 3 rfl|>.set 3 rfl).drew.cell 4 0 rfl rfl,((hC.out|>.set 2 rfl|>.set 2 rfl)|>.set 3 rfl|>.set 3 rfl).drew.cell 4 1 rfl rfl,trivial⟩)
    | (with_reducible refine And.intro (?_:World.cell? (World.drew (World.setCell (World.setCell wx _ _) _ _)) _=_) ?_;exact(hC.out|>.set 2 rfl|>.set 2 rfl).drew.cell 6 0 rfl rfl;exact⟨(hC.out|>.set 2 rfl|>.set 2 rfl).drew.cell 6 1 rfl rfl,(hC.out|>.set 2 rfl|>.set 2 rfl).drew.cell 4 0 rfl rfl,(hC.out|>.set 2 rfl|>.set 2 rfl).drew.cell 4 1 rfl rfl,trivial⟩)
    | (with_reducible refine And.intro (?_:World.cell? (World.drew wx) _=_) ?_;exact hC.out.drew.cell 6 0 rfl rfl;exact⟨hC.out.drew.cell 6 1 rfl rfl,hC.out.drew.cell 4 0 rfl rfl,hC.out.drew.cell 4 1 rfl rfl,trivial⟩))
   (first
    | (fail)
    | fail)
  go_wp2
  refine ret_st ((hC.out|>.set 2 rfl|>.set 2 rfl)|>.set 3 rfl|>.set 3 rfl).drew (v:= .tuple #[.agg #[.int .i64 s6,.slice a6 n6 c6],.agg #[.int .i64 s5,.slice a5 n5 c5]]) (fun hF=>?_) rfl (fun hF=>⟨_,_,_,_,_,_,_,_,rfl,by rw [HF2.out.1];exact hF.n 5 rfl,by rw [HF2.out.2];exact hF.n 4 rfl,hF.be⟩)
  ·exact mN15_6) : P_ := h
theorem mN15_3 {P_ : Prop} (h : P_ := by
 refine arc rfl (fun K hK=>?_) ?_
 ·go_simp
  refine hK.out _ _ ?_ (fun hH2=>?_)
  ·exact mN15_0
  clear hK K hH1
  try simp only [Act.put,zI,z0,zS]
  refine rdyL [8] ?_
  refine arc rfl (fun K hK=>?_) ?_
  ·(first
     | (have _t:=hC5;go_at_call 169;refine(rmade_f (sg:=1) (hC5.out.l 5 rfl) (fun x hx=>by rcases List.mem_cons.1 hx with rfl | hx;(have:=HXB.out;omega);(have:=dg_mem (b:=10000) (by omega) R x hx;omega)) (by rw [HVL.out];omega) (by have:=HLR.out;simp;omega) (.inr (.inl rfl))).mono ?_;rintro e w6 ⟨s6,a6,n6,c6,rfl,hz,hb,hf⟩;rw [HVL.out,Int.one_mul]at hz;have HF6:=ζ (show ∀j,Value.ownBlock (.slice a6 n6 c6)=some j→w3.heap.size < j from fun j hj=>by have h1:=hf j hj;have h2:=hC5.out.lt 5 rfl;omega);have hC6:=ζ ((hC5.out.call hb).pn hz);clear hb hz hf;have c60:=hC6.out.cell 4 0 rfl rfl;have c61:=hC6.out.cell 4 1 rfl rfl;have f60:=hC6.out.free 4 0 rfl;have f61:=hC6.out.free 4 1 rfl;clear _t hC5)
     | (have _t:=hC;refine step_append_row (by rfl) _ _ 23 (by rfl) 3 i0 (.int .i64 0) 1 8 Tryz.underlying23 HI0.out HZ0.out HZ1.out HZ2.out rfl (by decide) _ 1 (I64 [X]) (by rfl) (Sl.one 3 wr X).drew _ (dg 10000 R).length (I64 (dg 10000 R)) (by rfl) (show Sl 3 _ _ (dg 10000 R)from(hC.out.row.drew.n 4 rfl).g) (I64_one _) (by have:=HLR.out;omega) (by decide) ?_;intro pa5 pc5 w5 hown hg hs;have hC5:=ζ ((hC.out.call (((Below.refl wr.heap.size wr).alloc (Nat.le_refl _) _).drew.grown hg (by simp) (fun k hk=>by simp [Value.ownBlock]at hk;omega))).pl (show Sl 3 w5 (.slice pa5 (1+(dg 10000 R).length) pc5) (X::dg 10000 R)from by unfold Sl;rw [List.length_cons,Nat.add_comm (dg 10000 R).length];exact hown));clear hown hg hs _t hC)
     | fail)
   refine hK.out _ _ ?_ (fun hH3=>?_)
   ·exact mN15_0
   clear hK K hH2
   try simp only [Act.put,zI,z0,zS]
   refine rdyL [9] ?_
   refine arc rfl (fun K hK=>?_) ?_
   ·go_simp
    (first
      | (have _t:=hC5;go_at_call 169;refine(rmade_f (sg:=1) (hC5.out.l 5 rfl) (fun x hx=>by rcases List.mem_cons.1 hx with rfl | hx;(have:=HXB.out;omega);(have:=dg_mem (b:=10000) (by omega) R x hx;omega)) (by rw [HVL.out];omega) (by have:=HLR.out;simp;omega) (.inr (.inl rfl))).mono ?_;rintro e w6 ⟨s6,a6,n6,c6,rfl,hz,hb,hf⟩;rw [HVL.out,Int.one_mul]at hz;have HF6:=ζ (show ∀j,Value.ownBlock (.slice a6 n6 c6)=some j→w3.heap.size < j from fun j hj=>by have h1:=hf j hj;have h2:=hC5.out.lt 5 rfl;omega);have hC6:=ζ ((hC5.out.call hb).pn hz);clear hb hz hf;have c60:=hC6.out.cell 4 0 rfl rfl;have c61:=hC6.out.cell 4 1 rfl rfl;have f60:=hC6.out.free 4 0 rfl;have f61:=hC6.out.free 4 1 rfl;clear _t hC5)
      | (have _t:=hC;refine step_append_row (by rfl) _ _ 23 (by rfl) 3 i0 (.int .i64 0) 1 8 Tryz.underlying23 HI0.out HZ0.out HZ1.out HZ2.out rfl (by decide) _ 1 (I64 [X]) (by rfl) (Sl.one 3 wr X).drew _ (dg 10000 R).length (I64 (dg 10000 R)) (by rfl) (show Sl 3 _ _ (dg 10000 R)from(hC.out.row.drew.n 4 rfl).g) (I64_one _) (by have:=HLR.out;omega) (by decide) ?_;intro pa5 pc5 w5 hown hg hs;have hC5:=ζ ((hC.out.call (((Below.refl wr.heap.size wr).alloc (Nat.le_refl _) _).drew.grown hg (by simp) (fun k hk=>by simp [Value.ownBlock]at hk;omega))).pl (show Sl 3 w5 (.slice pa5 (1+(dg 10000 R).length) pc5) (X::dg 10000 R)from by unfold Sl;rw [List.length_cons,Nat.add_comm (dg 10000 R).length];exact hown));clear hown hg hs _t hC)
      | fail)
    (try go_wp2_with fail)
    refine hK.out _ _ ?_ (fun hH4=>?_)
    ·exact mN15_0
    clear hK K hH3
    try simp only [Act.put,zI,z0,zS]
    refine rdyL [10] ?_
    refine arc rfl (fun K hK=>?_) ?_
    ·go_simp
     refine hK.out _ _ ?_ (fun hH5=>?_)
     ·exact mN15_0
     clear hK K hH4
     try simp only [Act.put,zI,z0,zS]
     refine wpAnyH_done (by kernel_rfl) ?_ _
     refine NoPanic.normal ?_
     all_goals (go_wp2_with fail;go_meet;exact⟨s6,a6,n6,c6,HF6,ζ (St.pick (hC6.out|>.set 4 rfl|>.set 4 rfl) [0,1,2,3,6] rfl)⟩)
    exact AllReadyH.nil
   exact AllReadyH.nil
  exact AllReadyH.nil
 exact AllReadyH.nil) : P_ := h
theorem mN15_4 {P_ : Prop} (h : P_ := by
 refine hK.out _ _ ?_ (fun hH2=>?_)
 ·exact mN15_1
 clear hK K hH1
 try simp only [Act.put,zI,z0,zS]
 refine rdyL [4] ?_
 refine arc rfl (fun K hK=>?_) ?_
 ·go_simp
  (first
    | (have _t:=hC10;go_at_call 171;refine(subN_b (hC10.out.n 4 rfl) (hC10.out.n 5 rfl) HBD.out HBM.out (by omega) (by omega)).mono ?_;rintro e w11 ⟨s11,a11,n11,c11,rfl,hz,hb⟩;rw [HE.out]at hz;have hC11:=ζ ((hC10.out.call hb).pn hz);clear hb hz q40 q41;have hC11_c40:=hC11.out.cell 4 0 rfl rfl;have hC11_f40:=hC11.out.free 4 0 rfl;have hC11_c41:=hC11.out.cell 4 1 rfl rfl;have hC11_f41:=hC11.out.free 4 1 rfl;clear _t hC10)
    | (have _t:=hC;go_at_call 184;refine(timesN_b (hC.out.drew.n 3 rfl) B2.out.abs (by omega) (by omega) (by omega)).mono ?_;rintro e w10 ⟨s10,a10,n10,c10,rfl,hz,hb⟩;have hC10:=ζ ((hC.out.drew.call hb).pn hz);clear hb hz;clear q40 q41;have q40:=hC10.out.cell 4 0 rfl rfl;have q41:=hC10.out.cell 4 1 rfl rfl;clear _t hC)
    | fail)
  (try go_wp2_with fail)
  refine hK.out _ _ ?_ (fun hH3=>?_)
  ·exact mN15_1
  clear hK K hH2
  try simp only [Act.put,zI,z0,zS]
  refine rdyL [5] ?_
  refine arc rfl (fun K hK=>?_) ?_
  ·go_simp
   refine hK.out _ _ ?_ (fun hH4=>?_)
   ·exact mN15_1
   clear hK K hH3
   try simp only [Act.put,zI,z0,zS]
   refine wpAnyH_done (by kernel_rfl) ?_ _
   refine NoPanic.normal ?_
   go_wp2
   go_roundw
   case rel=>
    refine⟨k,N - z2.natAbs*lo,L.set k (lo:Int),s11,a11,n11,c11,by go_num,by omega,?_,ζ (hC11.out.set 4 rfl|>.set 4 rfl|>.pick [0,1,2,3,6] rfl)⟩
    ·have:=HST.out
     rw [←HX.out,←HN.out,←HFIN.out.1,←HFIN.out.2]at this
     exact this
   case measure=>simp [intOf]
  exact AllReadyH.nil
 exact AllReadyH.nil) : P_ := h
theorem mN15_5 {P_ : Prop} (h : P_ := by
 refine hK.out _ _ ?_ (fun hH2=>?_)
 ·(try dsimp only)
  all_goals (trivial)
 clear hK K hH1
 try simp only [Act.put,zI,z0,zS]
 refine rdyL [2] ?_
 refine arc rfl (fun K hK=>?_) ?_
 ·go_simp
  (first
    | (have _t:=hC7;go_at_call 171;refine(subN_b (hC7.out.n 5 rfl) (hC7.out.n 6 rfl) HBQ.out (Bd.i64 (k:=1) (by omega)) (by omega) (by omega)).mono ?_;rintro e w8 ⟨s8,a8,n8,c8,rfl,hz,hb⟩;have hC8:=ζ ((hC7.out.call hb).pn hz);clear hb hz q60 q61;have hC8_c60:=hC8.out.cell 6 0 rfl rfl;have hC8_f60:=hC8.out.free 6 0 rfl;have hC8_c61:=hC8.out.cell 6 1 rfl rfl;have hC8_f61:=hC8.out.free 6 1 rfl;clear _t hC7)
    | (have _t:=hC6;go_at_call 143;refine(zint_any 1 (by omega) _).mono ?_;rintro e w7 ⟨s7,a7,n7,c7,rfl,hz,hb⟩;have hC7:=ζ ((hC6.out.drew.call hb).pn hz);clear hb hz q60 q61;have q60:=hC7.out.cell 6 0 rfl rfl;have q61:=hC7.out.cell 6 1 rfl rfl;clear _t hC6)
    | fail)
  (try go_wp2_with fail)
  refine hK.out _ _ ?_ (fun hH3=>?_)
  ·(try dsimp only)
   all_goals (trivial)
  clear hK K hH2
  try simp only [Act.put,zI,z0,zS]
  refine rdyL [3] ?_
  refine arc rfl (fun K hK=>?_) ?_
  ·go_simp
   refine hK.out _ _ ?_ (fun hH4=>?_)
   ·(try dsimp only)
    all_goals (trivial)
   clear hK K hH3
   try simp only [Act.put,zI,z0,zS]
   refine wpAnyH_done (by kernel_rfl) ?_ _
   refine NoPanic.normal ?_
   all_goals (go_wp2_with fail;go_meet;exact⟨s8,a8,n8,c8,ζ ((hC8.out.set 6 rfl|>.set 6 rfl).pick [0,1,2,3,4,7] rfl)⟩)
  exact AllReadyH.nil
 exact AllReadyH.nil) : P_ := h
theorem zquotN_any (s1:Int) (a1:Option Addr) (n1 c1:Nat) (z1:Int) (s2:Int) (a2:Option Addr) (n2 c2:Nat) (z2:Int) (w:World) (h1:Nz w s1 (.slice a1 n1 c1) z1) (h2:Nz w s2 (.slice a2 n2 c2) z2) (hz:z2≠0) (k1 k2:Nat) (b1:Bd k1 z1) (b2:Bd k2 z2) (hk1:k1≤300000) (hk2:k2≤300000):
  Calls Tryz.prog 163 #[.agg #[.int .i64 s1,.slice a1 n1 c1],.agg #[.int .i64 s2,.slice a2 n2 c2]] w (RetQN w (z1 / z2) (z1 % z2)):=by
 obtain ⟨i0,hi,hz0,hz1,hz2⟩:=info_parts info_int
 have HI0:=ζ hi
 have HZ0:=ζ hz0
 have HZ1:=ζ hz1
 have HZ2:=ζ hz2
 clear hi hz0 hz1 hz2
 have hn:=h1.g.len
 have hxl:=b1.lenN (show k1≤500000 by omega)
 have L1:=ζ h1.g.lt
 have L2:=ζ h2.g.lt
 have HZ:=ζ hz
 have B1:=ζ b1
 have B2:=ζ b2
 have HD0:=ζ (show 0 < z2.natAbs by omega)
 have HS1:=ζ h1.s0
 have HS2:=ζ h2.s0
 have HSS:=ζ h1.s
 have HSV:=ζ h1.sv
 have VM:=ζ (show vl 10000 (dg 10000 z1.natAbs)=(z1.natAbs:Int)from vl_dg (b:=10000) (by omega) _)
 have MM:=ζ (show ∀x∈dg 10000 z1.natAbs,0≤x∧x < 10000 from dg_mem (b:=10000) (by omega) _)
 have HG1:=h1.g
 clear h1 hz b1 b2
 generalize dg 10000 z1.natAbs=xs at*
 obtain rfl:xs.length=n1:=hn.symm
 have hC:=ζ ((((((St.enter w).pl HG1).pn h2).al w.heap.size #[.int .i64 s1,.slice a1 xs.length c1] 48 rfl rfl).al (w.heap.size+1) #[.int .i64 s2,.slice a2 n2 c2] 48 (by simp) rfl).al (w.heap.size+2) #[.int .i64 0,.slice none 0 0] 48 (by simp) rfl|>.al (w.heap.size+3) #[.int .i64 0,.slice none 0 0] 48 (by simp) rfl)
 clear HG1 h2 hn
 go_enter Tryz.func163,Tryz.ntmps163
 go_wp2_with (at_make;refine wpList_make_sl _ rfl _ _ _ rfl 3 Tryz.underlying23 info_int _ _ _ _ xs.length xs.length rfl rfl (by omega) (by omega) (Nat.le_refl _) (by omega) ?_;intro ho0)
 have hC0:=ζ ((hC.out.row (o:= .cells (madeCells #[.int .i64 0] xs.length) 3)).pl (show Sl 3 _ (.slice (some ⟨w.heap.size+1+1+1+1,0,none⟩) xs.length xs.length) (List.replicate xs.length 0)from by simpa using ho0))
 clear ho0 hC
 have x10:=hC0.out.cell 1 0 rfl rfl
 have x11:=hC0.out.cell 1 1 rfl rfl
 go_wp2_with fail
 refine(zabs_same (hC0.out.n 1 rfl)).mono ?_
 rintro e w3 ⟨s3,rfl,hz3,hb⟩
 have HG:=ζ (show w.heap.size+1+1+1+1 < w3.heap.size from by have:=hb.size;simp at this;omega)
 have hC3:=ζ (((hC0.out.call hb).pn hz3|>.pn Nz.nil).al w3.heap.size #[.int .i64 0,.slice none 0 0] 48 rfl rfl|>.al (w3.heap.size+1) #[.int .i64 s3,.slice a2 n2 c2] 48 (by simp) rfl)
 clear hz3 hb hC0 x10 x11
 have x01:=hC3.out.cell 0 1 rfl rfl
 go_wp2_with fail
 go_loopw [9] (fun iv wr=>∃ (k R:Nat) (L:List Int) (s5:Int) (a5:Option Addr) (n5 c5:Nat),iv= .int .i64 ((k:Int) - 1)∧k≤xs.length∧Hid (QI xs z2.natAbs L k R)∧Hid (St w wr [(w.heap.size,#[.int .i64 s1,.slice a1 xs.length c1],48),(w.heap.size+1,#[.int .i64 s2,.slice a2 n2 c2],48),(w.heap.size+2,#[.int .i64 0,.slice none 0 0],48),(w.heap.size+3,#[.int .i64 0,.slice none 0 0],48),(w3.heap.size,#[.int .i64 s5,.slice a5 n5 c5],48),(w3.heap.size+1,#[.int .i64 s3,.slice a2 n2 c2],48)] [fun V=>Sl 3 V (.slice a1 xs.length c1) xs,fun V=>Nz V s2 (.slice a2 n2 c2) z2,fun V=>Sl 3 V (.slice (some ⟨w.heap.size+1+1+1+1,0,none⟩) xs.length xs.length) (L),fun V=>Nz V s3 (.slice a2 n2 c2) (z2.natAbs:Int),fun V=>Nz V s5 (.slice a5 n5 c5) ((R:Nat):Int)])) (fun iv _=>(intOf iv+1).toNat)
 case atStart=>exact⟨xs.length,0,_,0,none,0,0,rfl,Nat.le_refl _,QI.start HD0.out,ζ (hC3.out)⟩
 case round=>
  clear hC3 x01
  obtain ⟨k,R,L,s5,a5,n5,c5,rfl,hk,HQ,hC⟩:=hrel
  cases k with
  | zero=>
    have hfin:=HQ.out.fin VM.out
    have hLl:=HQ.out.len
    have h0:0≤vl 10000 L:=by rw [hfin.1];exact Int.natCast_nonneg _
    have x00:=hC.out.cell 0 0 rfl rfl
    have HQV:=ζ (show s1*vl 10000 L=sgnN z1*((z1.natAbs / z2.natAbs:Nat):Int)from by rw [hfin.1,HSS.out])
    have HRV:=ζ hfin.2
    have HBQ:=ζ (show Bd (k1+1) (sgnN z1*((z1.natAbs / z2.natAbs:Nat):Int))from by
     have h1:=sgn_mul_abs (z:=z1)
     have h2:(z1.natAbs / z2.natAbs:Nat)≤z1.natAbs:=Nat.div_le_self _ _
     have h3:z1.natAbs < 2 ^ k1:=B1.out
     unfold Bd
     rw [Int.natAbs_mul,Int.natAbs_natCast,Nat.pow_succ]
     have h4:(sgnN z1).natAbs≤1:=by unfold sgnN;split;decide;split<;>decide
     have:=Nat.mul_le_mul h4 h2
     omega)
    have HBR:=ζ (show Bd k2 (R:Int)from by unfold Bd;rw [Int.natAbs_natCast];exact Nat.lt_trans HQ.out.lt B2.out)
    have HSV2:=ζ (show vl 10000 L=0∨s1=1∨s1= -1 from by
     rcases HSV.out with h | h
     ·left;rw [hfin.1,h];simp
     ·exact .inr h)
    have HRG:=ζ HQ.out.rng
    clear hfin
    go_wp2_with fail
    refine(rmade_b (hC.out.l 2 rfl) (fun x hx=>by have:=HRG.out x hx;omega) h0 (by omega) HSV2.out).mono ?_
    rintro e w6 ⟨s6,a6,n6,c6,rfl,hz,hb⟩
    rw [HQV.out]at hz
    have hC6:=ζ (((hC.out.call hb).pn hz).al w6.heap.size #[.int .i64 s6,.slice a6 n6 c6] 48 rfl rfl)
    clear hz hb hC x00 h0 hLl
    have hq:=nquot HZ.out (a:=z1)
    obtain ⟨Q,hQ⟩:∃Q:Int,Q=sgnN z1*((z1.natAbs / z2.natAbs:Nat):Int):=⟨_,rfl⟩
    rw [←hQ]at hC6 HBQ hq
    rw [←HRV.out]at hq
    have HNQ:=ζ hq
    have x00:=hC6.out.cell 0 0 rfl rfl
    have q40:=hC6.out.cell 4 0 rfl rfl
    clear hQ hq HQV
    have H5:=ζ (hC6.out.n 4 rfl).s0
    have HS1':=ζ HS1.out
    by_cases hA:z1 < 0∧R≠0
    ·have d1:decide (s1 < 0)=true:=by simpa using HS1.out.1.2 hA.1
     have d2:(s5 !=0)=true:=by
      rw [bne_iff_ne]
      intro e
      have:=H5.out.2.1 e
      omega
     have HF:=ζ (HNQ.out.2 hA)
     clear hA
     have q60:=hC6.out.cell 6 0 rfl rfl
     have q61:=hC6.out.cell 6 1 rfl rfl
     go_upto_region 17 with fail
     refine wp_gen hC6.out ?_
     intro W6 hc
     clear hC6 x00 q40 q60 q61
     have hC6:=ζ hc
     clear hc
     have q60:=hC6.out.cell 6 0 rfl rfl
     have q61:=hC6.out.cell 6 1 rfl rfl
     go_cut [] (fun wx=>∃ (s8:Int) (a8:Option Addr) (n8 c8:Nat),Hid (St w wx [(w.heap.size,#[.int .i64 s1,.slice a1 xs.length c1],48),(w.heap.size+1,#[.int .i64 s2,.slice a2 n2 c2],48),(w.heap.size+2,#[.int .i64 0,.slice none 0 0],48),(w.heap.size+3,#[.int .i64 0,.slice none 0 0],48),(w3.heap.size,#[.int .i64 s5,.slice a5 n5 c5],48),(w3.heap.size+1,#[.int .i64 s3,.slice a2 n2 c2],48),(w6.heap.size,#[.int .i64 s8,.slice a8 n8 c8],48)] [fun V=>Sl 3 V (.slice a1 xs.length c1) xs,fun V=>Nz V s2 (.slice a2 n2 c2) z2,fun V=>Sl 3 V (.slice (some ⟨w.heap.size+1+1+1+1,0,none⟩) xs.length xs.length) L,fun V=>Nz V s3 (.slice a2 n2 c2) (z2.natAbs:Int),fun V=>Nz V s5 (.slice a5 n5 c5) ((R:Nat):Int),fun V=>Nz V s8 (.slice a8 n8 c8) (Q - 1)]))
     case first=>
      refine wp_region_noPanic ?_
      refine wp_region_held_drew (S:=(fun _=>True)) (by kernel_rfl) ?_ (fun hH0=>?_)
      ·(try dsimp only)
       all_goals (trivial)
      refine rdyL [0,1] ?_
      refine arc rfl (fun K hK=>?_) ?_
      ·go_simp
       refine hK.out _ _ ?_ (fun hH1=>?_)
       ·(try dsimp only)
        all_goals (trivial)
       clear hK K hH0
       try simp only [Act.put,zI,z0,zS]
       refine rdyL [1] ?_
       refine arc rfl (fun K hK=>?_) ?_
       ·go_simp
        (first
          | (have _t:=hC7;go_at_call 171;refine(subN_b (hC7.out.n 5 rfl) (hC7.out.n 6 rfl) HBQ.out (Bd.i64 (k:=1) (by omega)) (by omega) (by omega)).mono ?_;rintro e w8 ⟨s8,a8,n8,c8,rfl,hz,hb⟩;have hC8:=ζ ((hC7.out.call hb).pn hz);clear hb hz q60 q61;have hC8_c60:=hC8.out.cell 6 0 rfl rfl;have hC8_f60:=hC8.out.free 6 0 rfl;have hC8_c61:=hC8.out.cell 6 1 rfl rfl;have hC8_f61:=hC8.out.free 6 1 rfl;clear _t hC7)
          | (have _t:=hC6;go_at_call 143;refine(zint_any 1 (by omega) _).mono ?_;rintro e w7 ⟨s7,a7,n7,c7,rfl,hz,hb⟩;have hC7:=ζ ((hC6.out.drew.call hb).pn hz);clear hb hz q60 q61;have q60:=hC7.out.cell 6 0 rfl rfl;have q61:=hC7.out.cell 6 1 rfl rfl;clear _t hC6)
          | fail)
        (try go_wp2_with fail)
        exact mN15_5
       exact AllReadyH.nil
      refine arc rfl (fun K hK=>?_) ?_
      ·go_simp
       (first
         | (have _t:=hC7;go_at_call 171;refine(subN_b (hC7.out.n 5 rfl) (hC7.out.n 6 rfl) HBQ.out (Bd.i64 (k:=1) (by omega)) (by omega) (by omega)).mono ?_;rintro e w8 ⟨s8,a8,n8,c8,rfl,hz,hb⟩;have hC8:=ζ ((hC7.out.call hb).pn hz);clear hb hz q60 q61;have hC8_c60:=hC8.out.cell 6 0 rfl rfl;have hC8_f60:=hC8.out.free 6 0 rfl;have hC8_c61:=hC8.out.cell 6 1 rfl rfl;have hC8_f61:=hC8.out.free 6 1 rfl;clear _t hC7)
         | (have _t:=hC6;go_at_call 143;refine(zint_any 1 (by omega) _).mono ?_;rintro e w7 ⟨s7,a7,n7,c7,rfl,hz,hb⟩;have hC7:=ζ ((hC6.out.drew.call hb).pn hz);clear hb hz q60 q61;have q60:=hC7.out.cell 6 0 rfl rfl;have q61:=hC7.out.cell 6 1 rfl rfl;clear _t hC6)
         | fail)
       (try go_wp2_with fail)
       refine hK.out _ _ ?_ (fun hH1=>?_)
       ·(try dsimp only)
        all_goals (trivial)
       clear hK K hH0
       try simp only [Act.put,zI,z0,zS]
       refine rdyL [0] ?_
       refine arc rfl (fun K hK=>?_) ?_
       ·go_simp
        exact mN15_5
       exact AllReadyH.nil
      exact AllReadyH.nil
     case rest=>
      clear hC6 q60 q61
      obtain ⟨s8,a8,n8,c8,hC⟩:=hcut
      have q40:=hC.out.cell 4 0 rfl rfl
      have q41:=hC.out.cell 4 1 rfl rfl
      have q50:=hC.out.cell 5 0 rfl rfl
      have q51:=hC.out.cell 5 1 rfl rfl
      go_wp2_with fail
      refine(subN_b (hC.out.n 3 rfl) (hC.out.n 4 rfl) B2.out.abs HBR.out (by omega) (by omega)).mono ?_
      rintro e w10 ⟨s10,a10,n10,c10,rfl,hz,hb⟩
      have hC10:=ζ ((hC.out.call hb).pn hz)
      clear hz hb hC q40 q41 q50 q51
      have q40:=hC10.out.cell 4 0 rfl rfl
      have q41:=hC10.out.cell 4 1 rfl rfl
      have f40:=hC10.out.free 4 0 rfl
      have f41:=hC10.out.free 4 1 rfl
      go_upto_region 19 with fail
      refine wp_gen (hC10.out.set 4 rfl|>.set 4 rfl) ?_
      intro wx hc
      clear hC10 q40 q41 f40 f41 d1 d2
      have hC:=ζ hc
      clear hc
      have x10:=hC.out.cell 1 0 rfl rfl
      by_cases hd:z2 < 0
      ·have d1:decide (s2 < 0)=true:=by simpa using HS2.out.1.2 hd
       have HF2:=ζ (show z1 / z2= -_∧z1 % z2=_ from by have:=HF.out;rw [if_pos hd]at this;exact this)
       clear hd
       have q60:=hC.out.cell 6 0 rfl rfl
       have q61:=hC.out.cell 6 1 rfl rfl
       go_wp2_with fail
       refine(negN_b (hC.out.n 5 rfl)).mono ?_
       rintro e w11 ⟨s11,a11,n11,c11,rfl,hz,hb⟩
       have hC11:=ζ ((hC.out.call hb).pn hz)
       clear hz hb hC q60 q61 x10
       have q60:=hC11.out.cell 6 0 rfl rfl
       have q61:=hC11.out.cell 6 1 rfl rfl
       have f60:=hC11.out.free 6 0 rfl
       have f61:=hC11.out.free 6 1 rfl
       go_upto_region 21 with fail
       refine wp_gen (hC11.out.set 6 rfl|>.set 6 rfl) ?_
       intro w12 hc
       clear hC11 q60 q61 f60 f61 d1
       have hC:=ζ hc
       clear hc
       have hC_c20:=hC.out.cell 2 0 rfl rfl
       have hC_f20:=hC.out.free 2 0 rfl
       have hC_c21:=hC.out.cell 2 1 rfl rfl
       have hC_f21:=hC.out.free 2 1 rfl
       have hC_c30:=hC.out.cell 3 0 rfl rfl
       have hC_f30:=hC.out.free 3 0 rfl
       have hC_c31:=hC.out.cell 3 1 rfl rfl
       have hC_f31:=hC.out.free 3 1 rfl
       go_region_held3 (fun w'=>w'.cell? ⟨w6.heap.size,0,none⟩=some (.int .i64 s11)∧w'.cell? ⟨w6.heap.size,1,none⟩=some (.slice a11 n11 c11)∧w'.cell? ⟨w3.heap.size,0,none⟩=some (.int .i64 s10)∧w'.cell? ⟨w3.heap.size,1,none⟩=some (.slice a10 n10 c10)∧True)
        (first
         | (with_reducible refine And.intro (?_:World.cell? (World.drew (World.setCell (World.setCell (World.setCell (World.setCell w12 _ _) _ _) _ _) _ _)) _=_) ?_;exact((hC.out|>.set 2 rfl|>.set 2 rfl)|>.set 3 rfl|>.set 3 rfl).drew.cell 6 0 rfl rfl;exact⟨((hC.out|>.set 2 rfl|>.set 2 rfl)|>.set 3 rfl|>.set 3 rfl).drew.cell 6 1 rfl rfl,((hC.out|>.set 2 rfl|>.set 2 rfl)|>.set 3 rfl|>.set 3 rfl).drew.cell 4 0 rfl rfl,((hC.out|>.set 2 rfl|>.set 2 rfl)|>.set 3 rfl|>.set 3 rfl).drew.cell 4 1 rfl rfl,trivial⟩)
         | (with_reducible refine And.intro (?_:World.cell? (World.drew (World.setCell (World.setCell w12 _ _) _ _)) _=_) ?_;exact(hC.out|>.set 2 rfl|>.set 2 rfl).drew.cell 6 0 rfl rfl;exact⟨(hC.out|>.set 2 rfl|>.set 2 rfl).drew.cell 6 1 rfl rfl,(hC.out|>.set 2 rfl|>.set 2 rfl).drew.cell 4 0 rfl rfl,(hC.out|>.set 2 rfl|>.set 2 rfl).drew.cell 4 1 rfl rfl,trivial⟩)
         | (with_reducible refine And.intro (?_:World.cell? (World.drew w12) _=_) ?_;exact hC.out.drew.cell 6 0 rfl rfl;exact⟨hC.out.drew.cell 6 1 rfl rfl,hC.out.drew.cell 4 0 rfl rfl,hC.out.drew.cell 4 1 rfl rfl,trivial⟩))
        (first
         | (fail)
         | fail)
       go_wp2
       refine ret_st ((hC.out|>.set 2 rfl|>.set 2 rfl)|>.set 3 rfl|>.set 3 rfl).drew (v:= .tuple #[.agg #[.int .i64 s11,.slice a11 n11 c11],.agg #[.int .i64 s10,.slice a10 n10 c10]]) (fun hF=>?_) rfl (fun hF=>⟨_,_,_,_,_,_,_,_,rfl,by rw [HF2.out.1];exact hF.n 7 rfl,by rw [HF2.out.2];exact hF.n 6 rfl,hF.be⟩)
       ·exact mN15_6
      ·have d1:decide (s2 < 0)=false:=by have:=fun h=>hd (HS2.out.1.1 h);simpa using this
       have HF2:=ζ (show z1 / z2=_∧z1 % z2=_ from by have:=HF.out;rw [if_neg hd]at this;exact this)
       clear hd
       go_upto_region 21 with fail
       clear x10 d1
       have hC_c20:=hC.out.cell 2 0 rfl rfl
       have hC_f20:=hC.out.free 2 0 rfl
       have hC_c21:=hC.out.cell 2 1 rfl rfl
       have hC_f21:=hC.out.free 2 1 rfl
       have hC_c30:=hC.out.cell 3 0 rfl rfl
       have hC_f30:=hC.out.free 3 0 rfl
       have hC_c31:=hC.out.cell 3 1 rfl rfl
       have hC_f31:=hC.out.free 3 1 rfl
       go_region_held3 (fun w'=>w'.cell? ⟨w6.heap.size,0,none⟩=some (.int .i64 s8)∧w'.cell? ⟨w6.heap.size,1,none⟩=some (.slice a8 n8 c8)∧w'.cell? ⟨w3.heap.size,0,none⟩=some (.int .i64 s10)∧w'.cell? ⟨w3.heap.size,1,none⟩=some (.slice a10 n10 c10)∧True)
        (first
         | (with_reducible refine And.intro (?_:World.cell? (World.drew (World.setCell (World.setCell (World.setCell (World.setCell wx _ _) _ _) _ _) _ _)) _=_) ?_;exact((hC.out|>.set 2 rfl|>.set 2 rfl)|>.set 3 rfl|>.set 3 rfl).drew.cell 6 0 rfl rfl;exact⟨((hC.out|>.set 2 rfl|>.set 2 rfl)|>.set 3 rfl|>.set 3 rfl).drew.cell 6 1 rfl rfl,((hC.out|>.set 2 rfl|>.set 2 rfl)|>.set 3 rfl|>.set 3 rfl).drew.cell 4 0 rfl rfl,((hC.out|>.set 2 rfl|>.set 2 rfl)|>.set 3 rfl|>.set 3 rfl).drew.cell 4 1 rfl rfl,trivial⟩)
         | (with_reducible refine And.intro (?_:World.cell? (World.drew (World.setCell (World.setCell wx _ _) _ _)) _=_) ?_;exact(hC.out|>.set 2 rfl|>.set 2 rfl).drew.cell 6 0 rfl rfl;exact⟨(hC.out|>.set 2 rfl|>.set 2 rfl).drew.cell 6 1 rfl rfl,(hC.out|>.set 2 rfl|>.set 2 rfl).drew.cell 4 0 rfl rfl,(hC.out|>.set 2 rfl|>.set 2 rfl).drew.cell 4 1 rfl rfl,trivial⟩)
         | (with_reducible refine And.intro (?_:World.cell? (World.drew wx) _=_) ?_;exact hC.out.drew.cell 6 0 rfl rfl;exact⟨hC.out.drew.cell 6 1 rfl rfl,hC.out.drew.cell 4 0 rfl rfl,hC.out.drew.cell 4 1 rfl rfl,trivial⟩))
        (first
         | (fail)
         | fail)
       go_wp2
       refine ret_st ((hC.out|>.set 2 rfl|>.set 2 rfl)|>.set 3 rfl|>.set 3 rfl).drew (v:= .tuple #[.agg #[.int .i64 s8,.slice a8 n8 c8],.agg #[.int .i64 s10,.slice a10 n10 c10]]) (fun hF=>?_) rfl (fun hF=>⟨_,_,_,_,_,_,_,_,rfl,by rw [HF2.out.1];exact hF.n 5 rfl,by rw [HF2.out.2];exact hF.n 6 rfl,hF.be⟩)
       ·exact mN15_6
    ·have HF:=ζ (HNQ.out.1 hA)
     by_cases hs:s1 < 0
     ·have hR:R=0:=by
       rcases Nat.eq_zero_or_pos R with h | h
       ·exact h
       ·exact absurd ⟨HS1.out.1.1 hs,by omega⟩ hA
      have d2:(s5 !=0)=false:=by
       have:=H5.out.2.2 (by omega)
       subst this
       rfl
      have HR:=ζ hR
      clear hA hR
      go_upto_region 19 with fail
      refine wp_gen hC6.out ?_
      intro wx hc
      clear hC6 x00 q40 d2 hs
      exact mN15_2
     ·clear hA
      have d1:decide (s1 < 0)=false:=by simpa using hs
      clear hs
      go_upto_region 19 with fail
      refine wp_gen hC6.out ?_
      intro wx hc
      clear hC6 x00 q40 d1
      exact mN15_2
  | succ k=>
    have hlt:k < xs.length:=by omega
    obtain ⟨g1,hg1',hg1⟩:=(hC.out.l 0 rfl).row (by omega)
    have hcr:=(hC.out.l 0 rfl)
    subst hg1'
    have x01:=hC.out.cell 0 1 rfl rfl
    obtain ⟨X,hX⟩:∃X:Int,X=xs[k]:=⟨_,rfl⟩
    have HX:=ζ hX
    have bX:=MM.out _ (List.getElem_mem hlt)
    rw [←hX]at bX
    have HXB:=ζ bX
    have i1:(0:Int)≤(k:Int):=by omega
    have i2:(k:Int) < (xs.length:Int):=by omega
    have HST:=ζ (HQ.out.step hlt (by rw [←hX];exact bX))
    obtain ⟨N,hN⟩:∃N:Nat,N=X.toNat+10000*R:=⟨_,rfl⟩
    have HN:=ζ hN
    have HVL:=ζ (show vl 10000 (X::dg 10000 R)=(N:Int)from by rw [hN];exact rest_vl X R bX.1)
    have HRD:=ζ HQ.out.lt
    have HBD:=ζ (show Bd (k2+14) (N:Int)from by
     have h1:=HQ.out.lt
     have h2:z2.natAbs < 2 ^ k2:=B2.out
     unfold Bd
     rw [Int.natAbs_natCast,Nat.pow_add]
     have:(2:Nat) ^ 14=16384:=rfl
     omega)
    have HLR:=ζ (show(dg 10000 R).length≤50000 from Bd.lenN (z:=(R:Int)) (k:=k2) (by unfold Bd;rw [Int.natAbs_natCast];exact Nat.lt_trans HRD.out B2.out) (by omega))
    have HHI:=ζ (HalveN.start (D:=z2.natAbs) (N:=N) (R:=R) (x:=X.toNat) HRD.out (by omega) hN)
    have l4:=hC.out.lt 4 rfl
    have q40:=hC.out.cell 4 0 rfl rfl
    have q41:=hC.out.cell 4 1 rfl rfl
    clear hX hN bX hcr
    rw [show((k+1:Nat):Int) - 1=(k:Int)from by omega]
    go_upto_region 6 with fail
    go_cut [] (fun wx=>∃ (s6:Int) (a6:Option Addr) (n6 c6:Nat),Hid (∀j,Value.ownBlock (.slice a6 n6 c6)=some j→w3.heap.size < j)∧Hid (St w wx [(w.heap.size,#[.int .i64 s1,.slice (some ⟨g1,0,none⟩) xs.length c1],48),(w.heap.size+1,#[.int .i64 s2,.slice a2 n2 c2],48),(w.heap.size+2,#[.int .i64 0,.slice none 0 0],48),(w.heap.size+3,#[.int .i64 0,.slice none 0 0],48),(w3.heap.size,#[.int .i64 s6,.slice a6 n6 c6],48),(w3.heap.size+1,#[.int .i64 s3,.slice a2 n2 c2],48)] [fun V=>Sl 3 V (.slice (some ⟨g1,0,none⟩) xs.length c1) xs,fun V=>Nz V s2 (.slice a2 n2 c2) z2,fun V=>Sl 3 V (.slice (some ⟨w.heap.size+1+1+1+1,0,none⟩) xs.length xs.length) (L),fun V=>Nz V s3 (.slice a2 n2 c2) (z2.natAbs:Int),fun V=>Nz V s6 (.slice a6 n6 c6) ((N:Nat):Int)]))
    case first=>
     refine wp_region_noPanic ?_
     refine wp_region_held_drew (S:=(fun w'=>w'.cell? ⟨w.heap.size,1,none⟩=some (.slice (some ⟨g1,0,none⟩) xs.length c1)∧w'.cell? ⟨g1,k,none⟩=some (.int .i64 X))) (by kernel_rfl) ?_ (fun hH0=>?_)
     ·exact mN15_0
     refine tkA 0 rfl hH0 ?_
     try simp only [Act.put,zI,z0,zS]
     refine tkA 1 rfl hH0 ?_
     try simp only [Act.put,zI,z0,zS]
     refine tkA 2 rfl hH0 ?_
     try simp only [Act.put,zI,z0,zS]
     refine tkA 3 rfl hH0 ?_
     try simp only [Act.put,zI,z0,zS]
     refine tkA 4 rfl hH0 ?_
     try simp only [Act.put,zI,z0,zS]
     refine tkA 6 rfl hH0 ?_
     try simp only [Act.put,zI,z0,zS]
     refine rdyL [5,7] ?_
     refine arc rfl (fun K hK=>?_) ?_
     ·go_simp
      refine hK.out _ _ ?_ (fun hH1=>?_)
      ·exact mN15_0
      clear hK K hH0
      try simp only [Act.put,zI,z0,zS]
      refine rdyL [7] ?_
      exact mN15_3
     refine arc rfl (fun K hK=>?_) ?_
     ·go_simp
      refine hK.out _ _ ?_ (fun hH1=>?_)
      ·exact mN15_0
      clear hK K hH0
      try simp only [Act.put,zI,z0,zS]
      refine rdyL [5] ?_
      exact mN15_3
     exact AllReadyH.nil
    case rest=>
     clear hC x01 q40 q41 l4
     obtain ⟨s6,a6,n6,c6,HFR,hC⟩:=hcut
     go_wp2
     obtain ⟨wo,hwo⟩:∃wo:World,wo=wr:=⟨_,rfl⟩
     go_loopw [10,11] (fun lv hv wi=>∃ (lo hi:Nat),lv= .int .i64 (lo:Int)∧hv= .int .i64 (hi:Int)∧Hid (HalveN z2.natAbs N lo hi)∧lo < hi∧hi≤10000∧Hid (St w wi [(w.heap.size,#[.int .i64 s1,.slice (some ⟨g1,0,none⟩) xs.length c1],48),(w.heap.size+1,#[.int .i64 s2,.slice a2 n2 c2],48),(w.heap.size+2,#[.int .i64 0,.slice none 0 0],48),(w.heap.size+3,#[.int .i64 0,.slice none 0 0],48),(w3.heap.size,#[.int .i64 s6,.slice a6 n6 c6],48),(w3.heap.size+1,#[.int .i64 s3,.slice a2 n2 c2],48)] [fun V=>Sl 3 V (.slice (some ⟨g1,0,none⟩) xs.length c1) xs,fun V=>Nz V s2 (.slice a2 n2 c2) z2,fun V=>Sl 3 V (.slice (some ⟨w.heap.size+1+1+1+1,0,none⟩) xs.length xs.length) (L),fun V=>Nz V s3 (.slice a2 n2 c2) (z2.natAbs:Int),fun V=>Nz V s6 (.slice a6 n6 c6) ((N:Nat):Int)])) (fun lv hv _=>(intOf hv - intOf lv).toNat)
     case atStart=>exact⟨0,10000,rfl,rfl,HHI.out,by omega,by omega,hC⟩
     case round=>
      clear hC
      obtain ⟨lo,hi,rfl,rfl,HH,hlh,hh4,hC⟩:=hrel
      by_cases hgo:1 < hi - lo
      ·have hd1:1 < (hi:Int) - (lo:Int):=by omega
       have HM1:=ζ (show lo < (lo+hi) / 2∧(lo+hi) / 2 < hi from by omega)
       obtain ⟨m,hm⟩:∃m:Nat,m=(lo+hi) / 2:=⟨_,rfl⟩
       have hmI:((lo:Int)+(hi:Int)) / 2=(m:Int):=by omega
       have hm1:m≤10000:=by omega
       have hm2:=HM1.out
       rw [←hm]at hm2
       obtain ⟨hm3,hm4⟩:=hm2
       have HBM:=ζ (show Bd (k2+14) ((m:Int)*(z2.natAbs:Int))from by
        have h2:z2.natAbs < 2 ^ k2:=B2.out
        unfold Bd
        rw [←Int.natCast_mul,Int.natAbs_natCast,Nat.pow_add,Nat.mul_comm (2 ^ k2)]
        exact Nat.mul_lt_mul'' (Nat.lt_of_le_of_lt hm1 (by decide)) h2)
       have HCM:=ζ (show cmpN ((m:Int)*(z2.natAbs:Int)).natAbs ((N:Nat):Int).natAbs=cmpN (z2.natAbs*m) N from by rw [←Int.natCast_mul,Int.natAbs_natCast,Int.natAbs_natCast,Nat.mul_comm])
       obtain ⟨v,hv⟩:∃v:Int,cmpN (z2.natAbs*m) N=v:=⟨_,rfl⟩
       rw [hv]at HCM
       have HV:=ζ hv
       clear hm hv
       go_wp2_with fail
       go_region_held3 (fun w'=>w'.cell? ⟨w3.heap.size,0,none⟩=some (.int .i64 s6)∧w'.cell? ⟨w3.heap.size,1,none⟩=some (.slice a6 n6 c6)∧w'.cell? ⟨w3.heap.size+1,0,none⟩=some (.int .i64 s3)∧w'.cell? ⟨w3.heap.size+1,1,none⟩=some (.slice a2 n2 c2)∧True)
        (first
         | (with_reducible refine And.intro (?_:World.cell? w8 _=_) ?_;exact hC8.out.cell 4 0 rfl rfl;exact⟨hC8.out.cell 4 1 rfl rfl,hC8.out.cell 5 0 rfl rfl,hC8.out.cell 5 1 rfl rfl,trivial⟩)
         | (with_reducible refine And.intro (?_:World.cell? w7 _=_) ?_;exact hC7.out.cell 4 0 rfl rfl;exact⟨hC7.out.cell 4 1 rfl rfl,hC7.out.cell 5 0 rfl rfl,hC7.out.cell 5 1 rfl rfl,trivial⟩)
         | (with_reducible refine And.intro (?_:World.cell? (World.drew wr) _=_) ?_;exact hC.out.drew.cell 4 0 rfl rfl;exact⟨hC.out.drew.cell 4 1 rfl rfl,hC.out.drew.cell 5 0 rfl rfl,hC.out.drew.cell 5 1 rfl rfl,trivial⟩))
        (first
         | (have _t:=hC7;go_at_call 168;refine(larger_b (hC7.out.n 5 rfl) (hC7.out.n 4 rfl) HBM.out HBD.out (by omega) (by omega)).mono ?_;rintro e w8 ⟨rfl,hb⟩;have hC8:=ζ (hC7.out.call hb);clear hb;rw [HCM.out];clear _t hC7)
         | (have _t:=hC;go_at_call 184;refine(timesN_b (hC.out.drew.n 3 rfl) B2.out.abs (by omega) (by omega) (by omega)).mono ?_;rintro e w7 ⟨s7,a7,n7,c7,rfl,hz,hb⟩;have hC7:=ζ ((hC.out.drew.call hb).pn hz);clear hb hz;clear _t hC)
         | fail)
       by_cases hle:v≤0
       ·have HUP:=ζ (HH.out.up (cmpN_le.1 (by rw [HV.out];exact hle)) hm4)
        go_wp2
        go_roundw
        case rel=>exact⟨m,hi,rfl,rfl,HUP,by omega,by omega,ζ (hC8.out.pick [0,1,2,3,4] rfl)⟩
        case measure=>simp [intOf];omega
       ·have HDN:=ζ (HH.out.dn (m:=m) (Nat.lt_of_not_le (fun h=>hle (by rw [←HV.out];exact cmpN_le.2 h))) hm3 hm4)
        go_wp2
        go_roundw
        case rel=>exact⟨lo,m,rfl,rfl,HDN,by omega,by omega,ζ (hC8.out.pick [0,1,2,3,4] rfl)⟩
        case measure=>simp [intOf];omega
      ·have hd1:¬ 1 < (hi:Int) - (lo:Int):=by omega
       have hfin:=HH.out.fin (by omega)
       have HFIN:=ζ hfin
       have HBM:=ζ (show Bd (k2+14) ((lo:Int)*(z2.natAbs:Int))from by
        have h2:z2.natAbs < 2 ^ k2:=B2.out
        unfold Bd
        rw [←Int.natCast_mul,Int.natAbs_natCast,Nat.pow_add,Nat.mul_comm (2 ^ k2)]
        exact Nat.mul_lt_mul'' (Nat.lt_of_lt_of_le hlh (Nat.le_trans hh4 (by decide))) h2)
       have HE:=ζ (show(N:Int) - (lo:Int)*(z2.natAbs:Int)=((N - z2.natAbs*lo:Nat):Int)from by
        have:=HH.out.lo
        rw [Int.ofNat_sub this,Int.natCast_mul,Int.mul_comm (z2.natAbs:Int)])
       clear hfin
       have hLl:=HQ.out.len
       have hkL:k < L.length:=by omega
       have HOQ:=ζ (hC.out.l 2 rfl)
       have co:=HOQ.out.cell (k:=k) hkL
       have fo:=HOQ.out.free k
       have HCS:=ζ (fun(v:Value)=>hC.out.store (g:=w.heap.size+1+1+1+1) (k:=k) (v:=v) (by omega) (fun x hx=>by
        have h3:=HG.out
        simp only [List.mem_cons,List.not_mem_nil,or_false]at hx
        rcases hx with rfl | rfl | rfl | rfl | rfl | rfl<;>(simp only;omega)))
       have nA:=hC.out.l 0 rfl
       have HA:=ζ (fun(v:Value)=>nA.other (g:=w.heap.size+1+1+1+1) (k:=k) (fun e=>by have:=L1.out _ e;omega) v)
       have HDD:=ζ (fun(v:Value)=>(hC.out.n 1 rfl).other (b:=w.heap.size+1+1+1+1) (k:=k) (fun e=>by have:=L2.out _ e;omega) v)
       have HSZ:=ζ (fun(v:Value)=>(hC.out.n 3 rfl).other (b:=w.heap.size+1+1+1+1) (k:=k) (fun e=>by have:=L2.out _ e;omega) v)
       have HRR:=ζ (fun(v:Value)=>(hC.out.n 4 rfl).other (b:=w.heap.size+1+1+1+1) (k:=k) (fun e=>by have:=HFR.out _ e;have:=HG.out;omega) v)
       have HQQ:=ζ (HOQ.out.set k (lo:Int))
       have hC9:=ζ (((((HCS.out (.int .i64 (lo:Int))).pl (HA.out _)).pn (HDD.out _)).pl HQQ.out|>.pn (HSZ.out _)).pn (HRR.out _))
       clear nA hC HOQ HCS HA HDD HSZ HRR HQQ
       go_upto_region 14 with fail
       refine wp_gen hC9.out ?_
       intro w9 hc
       clear hC9 co fo
       have hC:=ζ hc
       clear hc
       have q40:=hC.out.cell 4 0 rfl rfl
       have q41:=hC.out.cell 4 1 rfl rfl
       refine wp_region_noPanic ?_
       refine wp_region_held_drew (S:=(fun w'=>w'.cell? ⟨w3.heap.size+1,0,none⟩=some (.int .i64 s3)∧w'.cell? ⟨w3.heap.size+1,1,none⟩=some (.slice a2 n2 c2)∧True)) (by kernel_rfl) ?_ (fun hH0=>?_)
       ·exact mN15_1
       refine tkA 1 rfl hH0 ?_
       try simp only [Act.put,zI,z0,zS]
       refine tkA 2 rfl hH0 ?_
       try simp only [Act.put,zI,z0,zS]
       refine rdyL [0,3] ?_
       refine arc rfl (fun K hK=>?_) ?_
       ·go_simp
        refine hK.out _ _ ?_ (fun hH1=>?_)
        ·exact mN15_1
        clear hK K hH0
        try simp only [Act.put,zI,z0,zS]
        refine rdyL [3] ?_
        refine arc rfl (fun K hK=>?_) ?_
        ·go_simp
         (first
           | (have _t:=hC10;go_at_call 171;refine(subN_b (hC10.out.n 4 rfl) (hC10.out.n 5 rfl) HBD.out HBM.out (by omega) (by omega)).mono ?_;rintro e w11 ⟨s11,a11,n11,c11,rfl,hz,hb⟩;rw [HE.out]at hz;have hC11:=ζ ((hC10.out.call hb).pn hz);clear hb hz q40 q41;have hC11_c40:=hC11.out.cell 4 0 rfl rfl;have hC11_f40:=hC11.out.free 4 0 rfl;have hC11_c41:=hC11.out.cell 4 1 rfl rfl;have hC11_f41:=hC11.out.free 4 1 rfl;clear _t hC10)
           | (have _t:=hC;go_at_call 184;refine(timesN_b (hC.out.drew.n 3 rfl) B2.out.abs (by omega) (by omega) (by omega)).mono ?_;rintro e w10 ⟨s10,a10,n10,c10,rfl,hz,hb⟩;have hC10:=ζ ((hC.out.drew.call hb).pn hz);clear hb hz;clear q40 q41;have q40:=hC10.out.cell 4 0 rfl rfl;have q41:=hC10.out.cell 4 1 rfl rfl;clear _t hC)
           | fail)
         (try go_wp2_with fail)
         exact mN15_4
        exact AllReadyH.nil
       refine arc rfl (fun K hK=>?_) ?_
       ·go_simp
        (first
          | (have _t:=hC10;go_at_call 171;refine(subN_b (hC10.out.n 4 rfl) (hC10.out.n 5 rfl) HBD.out HBM.out (by omega) (by omega)).mono ?_;rintro e w11 ⟨s11,a11,n11,c11,rfl,hz,hb⟩;rw [HE.out]at hz;have hC11:=ζ ((hC10.out.call hb).pn hz);clear hb hz q40 q41;have hC11_c40:=hC11.out.cell 4 0 rfl rfl;have hC11_f40:=hC11.out.free 4 0 rfl;have hC11_c41:=hC11.out.cell 4 1 rfl rfl;have hC11_f41:=hC11.out.free 4 1 rfl;clear _t hC10)
          | (have _t:=hC;go_at_call 184;refine(timesN_b (hC.out.drew.n 3 rfl) B2.out.abs (by omega) (by omega) (by omega)).mono ?_;rintro e w10 ⟨s10,a10,n10,c10,rfl,hz,hb⟩;have hC10:=ζ ((hC.out.drew.call hb).pn hz);clear hb hz;clear q40 q41;have q40:=hC10.out.cell 4 0 rfl rfl;have q41:=hC10.out.cell 4 1 rfl rfl;clear _t hC)
          | fail)
        (try go_wp2_with fail)
        refine hK.out _ _ ?_ (fun hH1=>?_)
        ·exact mN15_1
        clear hK K hH0
        try simp only [Act.put,zI,z0,zS]
        refine rdyL [0] ?_
        refine arc rfl (fun K hK=>?_) ?_
        ·go_simp
         exact mN15_4
        exact AllReadyH.nil
       exact AllReadyH.nil
end Go.Proofs.YthmdhlopeponcaaGreatDoor
