/- part -/
import Derived.Test.YtjpojeapdgjbhaaGreatDoorQ19
set_option maxRecDepth 100000
set_option maxHeartbeats 16000000
namespace Go.Proofs.YtjpojeapdgjbhaaGreatDoor
open Go.RowKit Go.Shelf Dig
attribute [local go_sem] Oper.semAt_some
abbrev Ed:=Pt×Pt
def EdOK (e:Ed):Prop:=((-100000<=e.1.1/\e.1.1<=100000)/\ -100000<=e.1.2/\e.1.2<=100000)/\((-100000<=e.2.1/\e.2.1<=100000)/\ -100000<=e.2.2/\e.2.2<=100000)/\e.1.1 < e.2.1
abbrev Edx:= { e:Ed // EdOK e }
abbrev encE (e:Ed):Array Value:=#[.agg #[.int .i64 e.1.1,.int .i64 e.1.2],.agg #[.int .i64 e.2.1,.int .i64 e.2.2]]
def edA (l:List Pt) (i:Nat):Ed:=((hX l i,hZ l i),(hX l (i+1),hZ l (i+1)))
def edL (l:List Pt):List Ed:=(List.range (l.length - 1)).map (edA l)
theorem edL_len (l:List Pt):(edL l).length=l.length - 1:=by unfold edL;rw [List.length_map,List.length_range]
theorem edL_take {l:List Pt} {k:Nat} (h:k+1 < l.length):(edL l).take (k+1)=(edL l).take k++ [edA l k]:=by
 have hk:k < (edL l).length:=by rw [edL_len];omega
 rw [List.take_succ_eq_append_getElem hk];congr 2;have e:(edL l)[k]=edA l ((List.range (l.length - 1))[k]'(by rw [List.length_range];omega)):=List.getElem_map ..;rw [e,List.getElem_range]
theorem Prof.edA_ok {l:List Pt} (h:Prof l) {i:Nat} (hi:i+1 < l.length):EdOK (edA l i):=⟨⟨h.bx (by omega),h.bz (by omega)⟩,⟨h.bx hi,h.bz hi⟩,h.up i hi⟩
structure LRd (W:World) (bS:Nat) (a:OA) (n c:Nat) (l:List Pt):Prop where
 s0:W.cell? ⟨bS,0,none⟩=some (.slice a n c)
 row:Sx 2 W a n c (L2 l)
theorem LRd.keepsC {own:List Nat} {W V:World} {bS:Nat} {a:OA} {n c:Nat} {l:List Pt} (h:LRd W bS a n c l) (hk:KeepsC own W V) (hb:bS∉own) (hr:∀g o,a=some ⟨g,o,none⟩->g∉own):LRd V bS a n c l:=⟨hk.cell h.s0 hb,h.row.keepsC hk hr⟩
theorem LRd.below {W V:World} {bS:Nat} {a:OA} {n c:Nat} {l:List Pt} (h:LRd W bS a n c l) (hb:Below W.heap.size W V):LRd V bS a n c l:=h.keepsC (own:=[]) (keepsC_below hb) (by simp) (fun _ _ _=>by simp)
theorem below_grown {A B:World} (h:Below A.heap.size A B):A.grownBy B none:=⟨h.os,h.tape,h.output,h.size,fun k hk _=>h.block k hk⟩
theorem yield_cases {e:Ending} {A B:Prop} (h:(e= .returned (.bool true)/\A)\/(e= .returned (.bool false)/\B)):∃ok:Bool,e= .returned (.bool ok)/\(ok=true->A)/\(ok=false->B):=by
 rcases h with ⟨rfl,h⟩ | ⟨rfl,h⟩
 ·exact⟨true,rfl,fun _=>h,fun h=>by cases h⟩
 ·exact⟨false,rfl,fun h=>(by cases h),fun _=>h⟩
theorem edges1_in (n:Nat) (hn:2<=n) (lp bS:Nat) (a:OA) (nn c:Nat) (l:List Pt) (hP:Prof l) (J Jx:List Edx->World->Prop) (own:List Nat) (hbS:bS∉own) (hrow:∀g o,a=some ⟨g,o,none⟩->g∉own)
  (hY:∀pre x W,J pre W->pre.length < (edL l).length->YieldAt Fence.wide (n - 1) Tryz.prog lp (encE x.1) W fun e W'=>(e= .returned (.bool true)/\J (pre++ [x]) W'/\KeepsC own W W')\/(e= .returned (.bool false)/\Jx (pre++ [x]) W'))
  (W:World) (hR:LRd W bS a nn c l) (hJ:∀s A B,J s A->A.grownBy B none->J s B) (hI:J [] W):
  CallsIn Fence.wide n Tryz.prog 146 #[.func (.yield lp) #[] #[],.pointer (some ⟨bS,0,none⟩)] W fun e W'=>(∃v,e= .returned v)/\
   ((∃ys:List Edx,ys.map (·.1)=edL l/\J ys W')\/(∃pre:List Edx,(∃k,pre.map (·.1)=(edL l).take k)/\Jx pre W')):=by
 obtain rfl:=hR.row.n2;have AI:=ζ (fun V (hk:KeepsC own W V)=>hR.keepsC hk hbS hrow);have HJ:=ζ hJ;have HY:=ζ hY;have HP:=ζ hP;have HI:=ζ hI;have htwo:=hP.two;have hforty:=hP.forty;have b0:=hR.s0;clear hR hJ hY hbS hrow hP hI;refine callsIn_of_wp Tryz.func146 rfl trivial ?_ rfl;simp only [Tryz.ntmps146,List.size_toArray,List.length_cons,List.length_nil,Nat.reduceAdd,Nat.reduceSub,Array.replicate_succ,Array.replicate_zero,List.push_toArray,List.append_toArray,List.nil_append,List.cons_append]
 gi_wp2
 gi_loopw [3] (fun iv wr=>∃ (k:Nat) (ys:List Edx),k+1<=l.length/\iv= .int .i64 ((k+1:Nat):Int)/\Hid (ys.map (·.1)=(edL l).take k/\J ys wr/\KeepsC own W wr)) (fun iv _=>l.length - (intOf iv).toNat)
 case atStart=>exact⟨0,[],by omega,rfl,ζ ⟨rfl,HI.out,keepsC_r _ _⟩⟩
 case round=>
  clear b0 HI;obtain ⟨k,ys,hk,rfl,hC⟩:=hrel;obtain ⟨k1,hk1⟩:∃k1,k1=k+1:=⟨_,rfl⟩
  have AJ:=ζ hk1;rw [<-hk1]at hk⊢;have AA:=AI.out _ hC.out.2.2;have d0:=AA.s0;by_cases hlt:k1 < l.length
  ·have hk0:k < l.length:=(by omega);obtain ⟨g0,o0,rfl⟩:=AA.row.addr (by omega);obtain ⟨x0,x1⟩:=AA.row.at2 hk0;obtain ⟨y0,y1⟩:=AA.row.at2 hlt;have i0:(0:Int)<=(k1:Int):=(by omega);have i1:(k1:Int) < (l.length:Int):=(by omega);have i2:IntKind.i64.wrap ((k1:Int) - 1)=(k:Int):=(by rw [IntWalk.i64_in _ (by omega)];omega);have i3:(0:Int)<=(k:Int):=(by omega);have i4:(k:Int) < (l.length:Int):=(by omega);have AC:=ζ (show edA l k=((l[k].1,l[k].2),(l[k1].1,l[k1].2))by subst hk1;unfold edA;rw [hX_at hk0,hZ_at hk0,hX_at hlt,hZ_at hlt]);have AB:=ζ (HP.out.edA_ok (i:=k) (by omega));have AF:=ζ (edL_take (l:=l) (k:=k) (by omega));have AK:=ζ (show ys.length < (edL l).length by have:=congrArg List.length hC.out.1;rw [List.length_map,List.length_take]at this;rw [edL_len]at this⊢;omega);generalize l[k]=p at*;generalize l[k1]=q at*;obtain ⟨p0,p1⟩:=p;obtain ⟨q0,q1⟩:=q;dsimp only at x0 x1 y0 y1 AC;rw [AC.out]at AB AF;clear hk0 hk1 AA AC;obtain ⟨fn,tmps,assign,body,hy,hR⟩:=HY.out ys ⟨_,AB.out⟩ wr.drew (HJ.out _ _ _ hC.out.2.1 (below_grown (Below.refl _ _).drew)) AK.out;dsimp only at hy hR;have AD:=ζ hR;clear hR
   gi_wp2_with fail
   have HK:=ζ (keepsC_t hC.out.2.2 (keepsC_below (Below.refl wr.heap.size wr).drew));refine wpIn_mono (Q:=fun e a' W'=>match e with | .normal=>∃v10 v11 v12 v13 v14 v15 v16 v17 v18 v19 v20:Value,∃ok:Bool,a'= { tmps:=#[.func (.yield lp) #[] #[],.pointer (some ⟨bS,0,none⟩),undef,.int .i64 k1,.int .i64 k1,.slice (some ⟨g0,o0,none⟩) l.length c,.int .i64 l.length,.bool true,u8,u9,v10,v11,v12,v13,v14,v15,v16,v17,v18,v19,v20,.bool (!ok)],defers:=[] } /\Hid ((ok=true->J (ys++ [⟨((p0,p1),(q0,q1)),AB.out⟩]) W'/\KeepsC own W W')/\(ok=false->Jx (ys++ [⟨((p0,p1),(q0,q1)),AB.out⟩]) W')) | _=>False) ?reg ?rest
   case reg=>
    have hmx:Tryz.prog.follows .mixedOrders=true:=by kernel_rfl
    gi_region_with_o (first
     | (have t3:=AD;refine⟨fun _=>by omega,AD.out.mono ?_⟩
        rintro e V3 h3;obtain ⟨ok,rfl,AE,AG⟩:=yield_cases h3;have AL:=ζ (And.intro (fun h=>And.intro (AE h).1 (keepsC_t HK.out (AE h).2)) AG);clear h3 AE AG t3)
     | fail)
    all_goals exact⟨_,_,_,_,_,_,_,_,_,_,_,_,rfl,AL⟩
   case rest=>
    intro e a' W' hq;cases e;all_goals first | exact hq.elim | skip
    obtain ⟨v10,v11,v12,v13,v14,v15,v16,v17,v18,v19,v20,ok,rfl,hF⟩:=hq;have AH:=ζ (show(ys++ [(⟨((p0,p1),(q0,q1)),AB.out⟩:Edx)]).map (·.1)=(edL l).take (k+1)by rw [AF.out,List.map_append,hC.out.1];rfl);clear d0 x0 x1 y0 y1 AD hy hC HK;cases ok
    ·have HX:=ζ (hF.out.2 rfl);clear hF
     gi_wp2
     refine bodyPost_ret (results_none rfl _ _ _) rfl ?_;exact⟨⟨_,rfl⟩,.inr ⟨_,⟨k+1,AH.out⟩,HX.out⟩⟩
    ·have HX:=ζ (hF.out.1 rfl);have i5:IntKind.i64.wrap ((k1:Int)+1)=((k1+1:Nat):Int):=(by rw [IntWalk.i64_in _ (by omega)];omega);clear hF
     gi_wp2
     go_roundw
     case rel=>exact⟨k1,_,by omega,rfl,ζ ⟨by rw [AJ.out];exact AH.out,HX.out⟩⟩
     case measure=>simp [intOf];omega
  ·have hkl:k1=l.length:=(by omega);have HE:=ζ (show ys.map (·.1)=edL l by rw [hC.out.1,List.take_of_length_le (by rw [edL_len];omega)]);have AM:=ζ hC.out.2.1;subst hkl;clear hC AA;have i1:¬ (l.length:Int) < (l.length:Int):=by omega
   gi_wp2
   go_end0
   exact⟨⟨_,rfl⟩,.inl ⟨ys,HE.out,AM.out⟩⟩
section
variable (w:World)
theorem pof_any (k:Int) (hk: -9223372036854775808<=k/\k < 9223372036854775808):Calls Tryz.prog 46 #[.int .i64 k] w (RetR w (k:Rat)):=by
 have hC:=ζ ((Sy.enter w).al w.heap.size zR 72 rfl);have HK:=ζ (fun W=>of_any k hk W);clear hk;go_enter Tryz.func46,Tryz.ntmps46;go_wp2_with fail
 refine(HK.out _).mono ?_;rintro e w3 ⟨a3,n3,c3,m3,d3,e3,f3,rfl,hz,hb⟩;have hD:=ζ ((hC.out.call hb).pR rfl rfl hz);clear hb hz hC;have AG:=hD.out.c 0 0;have AA:=hD.out.f 0 0;have AH:=hD.out.c 0 1;have AB:=hD.out.f 0 1;have AI:=hD.out.c 0 2;have AC:=hD.out.f 0 2;go_wp2;have hE:=ζ (hD.out|>.set (j:=0) (v:= .slice a3 n3 c3) 0 rfl|>.set (j:=1) (v:= .bool m3) 0 rfl|>.set (j:=2) (v:= .slice d3 e3 f3) 0 rfl);clear hD;refine ret_sy hE.out (v:= .agg #[.slice a3 n3 c3,.bool m3,.slice d3 e3 f3]) (fun hF=>?_) rfl (fun hF=>⟨_,_,_,_,_,_,_,rfl,hF.r 0 rfl,hF.be⟩);have g0:=hF.c 0 0;have g1:=hF.c 0 1;have g2:=hF.c 0 2;simp [results,Tryz.results46,go_sem,g0,g1,g2]
theorem pover_any (a1:OA) (n1 c1:Nat) (m1:Bool) (d1:OA) (e1 f1:Nat) (q1:Rat) (a2:OA) (n2 c2:Nat) (m2:Bool) (d2:OA) (e2 f2:Nat) (q2:Rat) (h1:Rd w (.slice a1 n1 c1) m1 (.slice d1 e1 f1) q1) (h2:Rd w (.slice a2 n2 c2) m2 (.slice d2 e2 f2) q2) (k1 k2:Nat) (b1:Bq k1 q1) (b2:Bq k2 q2) (hk1:k1<=40000) (hk2:k2<=40000) (hq:q2≠0):
  Calls Tryz.prog 104 #[.agg #[.slice a1 n1 c1,.bool m1,.slice d1 e1 f1],.agg #[.slice a2 n2 c2,.bool m2,.slice d2 e2 f2]] w (RetR w (q1 / q2)):=by
 have H:=ζ (fun W (hW:Below w.heap.size w W)=>hdiv_b (h1.keep (Below.keeps hW)) (h2.keep (Below.keeps hW)) b1 b2 hk1 hk2 hq);have hC:=ζ ((((Sy.enter w).al w.heap.size #[.slice a1 n1 c1,.bool m1,.slice d1 e1 f1] 72 rfl).al (w.heap.size+1) #[.slice a2 n2 c2,.bool m2,.slice d2 e2 f2] 72 (by simp)).al (w.heap.size+1+1) zR 72 (by simp));clear h1 h2 b1 b2 hk1 hk2 hq;go_enter Tryz.func104,Tryz.ntmps104;go_wp2_with fail
 refine(H.out _ hC.out.be).mono ?_;rintro e w3 ⟨a3,n3,c3,m3,d3,e3,f3,rfl,hz,hb⟩;have hD:=ζ ((hC.out.call hb).pR rfl rfl hz);clear hb hz hC H;have AJ:=hD.out.c 2 0;have AD:=hD.out.f 2 0;have AK:=hD.out.c 2 1;have AE:=hD.out.f 2 1;have AL:=hD.out.c 2 2;have AF:=hD.out.f 2 2;have l2:=hD.out.lt 2 rfl;go_wp2;have hE:=ζ ((hD.out|>.set (j:=0) (v:= .slice a3 n3 c3) 2 rfl|>.set (j:=1) (v:= .bool m3) 2 rfl|>.set (j:=2) (v:= .slice d3 e3 f3) 2 rfl).row (o:= .cells #[.slice a3 n3 c3,.bool m3,.slice d3 e3 f3] 72));clear hD;refine ret_sy hE.out (v:= .agg #[.slice a3 n3 c3,.bool m3,.slice d3 e3 f3]) (fun hF=>?_) rfl (fun hF=>⟨_,_,_,_,_,_,_,rfl,hF.r 0 rfl,hF.be⟩);have g0:=hF.c 2 0;have g1:=hF.c 2 1;have g2:=hF.c 2 2;simp [results,Tryz.results104,go_sem,g0,g1,g2]
end
attribute [local go_sem] Oper.semAt_some
section
variable {w W:World} {bs:List (Nat×Array Value×TypeId)}
theorem Sy.ownF (h:Sy w W bs [] []) {W':World} {row:Option Nat} (hg:W.grownBy W' row) {B:Nat} (hB:w.heap.size<=B) (hr:∀r,row=some r->B<=r/\∃o:Obj,W.heap[r]? =some o/\o.isCells=false):Sy w W' bs [] [] where
 be:=⟨hg.os.trans h.be.os,hg.tape.trans h.be.tape,hg.output.trans h.be.output,Nat.le_trans h.be.size hg.size,fun k hk=>(hg.block k (Nat.lt_of_lt_of_le hk h.be.size) (fun e=>by
  have:=(hr k e.symm).1;omega)).trans (h.be.block k hk)⟩
 bx x hx:=⟨(h.bx x hx).1,(hg.block x.1 (Array.getElem?_eq_some_iff.1 (h.bx x hx).2).1 (fun e=>by
  obtain ⟨-,o,ho,hc⟩:=hr x.1 e.symm;rw [(h.bx x hx).2]at ho;cases ho;cases hc)).trans (h.bx x hx).2⟩
 ow:=by simp
 inc:=h.inc
 rd:=by simp
theorem Rd.ownF {s s':Value} {m:Bool} {q:Rat} (h:Rd W s m s' q) {W':World} {row:Option Nat} (hg:W.grownBy W' row) {B:Nat} (hr:∀r,row=some r->B<=r/\∃o:Obj,W.heap[r]? =some o/\o.isCells=false):Rd W' s m s' q:=
 h.keep64 ⟨hg.size,fun k p hk hp=>(hg.block k (Array.getElem?_eq_some_iff.1 hk).1 (fun e=>by
   obtain ⟨-,o,ho,hc⟩:=hr k e.symm;rw [hk]at ho;cases ho;cases p<;>first | (simp [row64O]at hp;done) | cases hc)).trans hk⟩
end
theorem rsubT_b {w:World} {a1:OA} {n1 c1:Nat} {m1:Bool} {d1:OA} {e1 f1:Nat} {q1:Rat} {a2:OA} {n2 c2:Nat} {m2:Bool} {d2:OA} {e2 f2:Nat} {q2:Rat} {k1 k2:Nat} (h1:Rd w (.slice a1 n1 c1) m1 (.slice d1 e1 f1) q1) (h2:Rd w (.slice a2 n2 c2) m2 (.slice d2 e2 f2) q2) (b1:Bq k1 q1) (b2:Bq k2 q2) (hk1:k1<=40000) (hk2:k2<=40000):
  Calls Tryz.prog 105 #[.agg #[.slice a1 n1 c1,.bool m1,.slice d1 e1 f1],.agg #[.slice a2 n2 c2,.bool m2,.slice d2 e2 f2]] w (RetR w (q1 - q2)):=by
 rw [Rat.sub_eq_add_neg];exact rsub_any _ _ _ _ _ _ _ _ _ _ _ _ _ _ _ _ _ h1 h2 k1 k2 b1 b2 hk1 hk2
def LtX (x:Int) (pre:List Edx):Prop:=∀y∈pre,y.1.2.1 < x
theorem LtX.snoc {x:Int} {pre:List Edx} {e:Edx} (h:LtX x pre) (he:e.1.2.1 < x):LtX x (pre++ [e]):=by
 intro y hy;rcases List.mem_append.1 hy with hy | hy
 ·exact h y hy
 ·rcases List.mem_singleton.1 hy with rfl;exact he
def edV (e:Ed) (x:Int):Rat:=((e.1.2:Int):Rat)+((x:Rat) - ((e.1.1:Int):Rat))*((e.2.2 - e.1.2:Int):Rat) / ((e.2.1 - e.1.1:Int):Rat)
theorem ed_at {l:List Pt} {ys:List Edx} {k i:Nat} (hk:ys.map (·.1)=(edL l).take k) (hi:i < ys.length):i+1 < l.length/\(ys[i]).1=edA l i:=by
 have hlen:=congrArg List.length hk;rw [List.length_map,List.length_take,edL_len]at hlen;have hil:i+1 < l.length:=by omega
 refine⟨hil,?_⟩;have h:=congrArg (fun z=>z[i]?) hk;rw [List.getElem?_map,List.getElem?_eq_getElem hi,List.getElem?_take_of_lt (by omega)]at h;unfold edL at h;rw [List.getElem?_map,List.getElem?_range (by omega)]at h;simpa using h
theorem ed_val {l:List Pt} (hP:Prof l) {x:Int} (h1:hX l 0<=x) {pre:List Edx} {e:Edx} {k:Nat} (hk:(pre++ [e]).map (·.1)=(edL l).take k) (hl:∀y∈pre,y.1.2.1 < x) (hx:x<=e.1.2.1):edV e.1 x=grd l x:=by
 obtain ⟨hi,he⟩:=ed_at (i:=pre.length) hk (by simp);rw [List.getElem_append_right (Nat.le_refl _)]at he;simp only [Nat.sub_self,List.getElem_cons_zero]at he;rw [he]at hx⊢;have hlo:hX l pre.length<=x:=by
  rcases Nat.eq_zero_or_pos pre.length with e0 | e0
  ·rw [e0];exact h1
  ·obtain ⟨-,h2⟩:=ed_at (i:=pre.length - 1) hk (by simp;omega);rw [List.getElem_append_left (by omega)]at h2;have h3:=hl _ (List.getElem_mem (show pre.length - 1 < pre.length by omega));rw [h2]at h3;have h4:(edA l (pre.length - 1)).2.1=hX l pre.length:=(by unfold edA;dsimp only;rw [show pre.length - 1+1=pre.length by omega]);rw [h4]at h3;omega
 rw [hP.grd_at hi hlo hx];unfold edV edA grdI;dsimp only;rw [Rat.intCast_sub x,Rat.mul_comm]
theorem cmp_int {a b:Int} (h:cmpQ (a:Rat) (b:Rat)<=0):a<=b:=by
 unfold cmpQ at h
 split at h
 ·rename_i e;rw [Rat.intCast_inj]at e;omega
 ·split at h
  ·rename_i e;have:=Rat.intCast_lt_intCast.1 e;omega
  ·omega
theorem cmp_int_no {a b:Int} (h:¬ cmpQ (a:Rat) (b:Rat)<=0):b < a:=by
 rcases Int.lt_or_le b a with q | q
 ·exact q
 ·exfalso;apply h;unfold cmpQ
  split
  ·omega
  ·rename_i e
   split
   ·omega
   ·rename_i e2;have h1:a≠b:=fun q=>e (by rw [q]);exact absurd (Rat.intCast_lt_intCast.2 (show a < b by omega)) e2
theorem ed_last {l:List Pt} (hP:Prof l) {xs:List Edx} (hxs:xs.map (·.1)=edL l):∃y∈xs,y.1.2.1=hX l (l.length - 1):=by
 have h2:=hP.two;have hm:edA l (l.length - 2)∈edL l:=List.mem_map.2 ⟨l.length - 2,List.mem_range.2 (by omega),rfl⟩;rw [<-hxs]at hm;obtain ⟨y,hy,he⟩:=List.mem_map.1 hm;refine⟨y,hy,?_⟩;rw [he];unfold edA;dsimp only;rw [show l.length - 2+1=l.length - 1 by omega]
section
variable (w:World)
theorem info_R2:(Tryz.prog.info? 72).map (·.size)=some 3:=by kernel_rfl
theorem pedges_in (n:Nat) (a:OA) (nn c:Nat):CallsIn Fence.wide n Tryz.prog 103 #[.slice a nn c] w fun e w'=>e= .returned (.func (.func 146) #[] #[.pointer (some ⟨w.heap.size,0,none⟩)])/\w'=w.alloc (.cells #[.slice a nn c] 121):=by
 refine callsIn_of_wp Tryz.func103 rfl trivial ?_ rfl;simp only [Tryz.ntmps103,List.size_toArray,List.length_cons,List.length_nil,Nat.reduceAdd,Nat.reduceSub,Array.replicate_succ,Array.replicate_zero,List.push_toArray,List.append_toArray,List.nil_append,List.cons_append]
 gi_wp2
 go_ret;exact⟨rfl,rfl⟩
theorem pat_in (n:Nat) (hn:4<=n) (a:OA) (nn c:Nat) (l:List Pt) (x:Int) (a1:OA) (n1 c1:Nat) (m1:Bool) (d1:OA) (e1 f1:Nat) (hP:Prof l) (hs:Sx 2 w a nn c (L2 l)) (hx:Rd w (.slice a1 n1 c1) m1 (.slice d1 e1 f1) ((x:Rat))) (h1:hX l 0<=x) (h2:x<=hX l (l.length - 1)):
  CallsIn Fence.wide n Tryz.prog 49 #[.slice a nn c,.agg #[.slice a1 n1 c1,.bool m1,.slice d1 e1 f1]] w (RetR w (grd l x)):=by
 have HS:=ζ hs;have HX:=ζ hx;have HP:=ζ hP;have A7:=ζ h1;have A8:=ζ h2;clear hs hx hP h1 h2;refine callsIn_of_wp_marks Tryz.func49 rfl trivial ?_ rfl;simp only [Tryz.ntmps49,List.size_toArray,List.length_cons,List.length_nil,Nat.reduceAdd,Nat.reduceSub,Array.replicate_succ,Array.replicate_zero,List.push_toArray,List.append_toArray,List.nil_append,List.cons_append]
 gi_wp2_with fail
 have A9:=ζ (((Sy.enter w).al w.heap.size #[.slice a1 n1 c1,.bool m1,.slice d1 e1 f1] 72 rfl).al (w.heap.size+1) zR 72 (by simp));refine⟨trivial,fun _=>by omega,(pedges_in _ (n - 1) a nn c).mono ?_⟩;rintro e w' ⟨rfl,rfl⟩
 gi_wp2_with fail
 have AR:=ζ (A9.out.al (w.heap.size+1+1) #[.slice a nn c] 121 (by simp));obtain ⟨W0,A5⟩:∃W0,(((w.alloc (.cells #[.slice a1 n1 c1,.bool m1,.slice d1 e1 f1] 72)).alloc (.cells #[.slice none 0 0,.bool false,.slice none 0 0] 72)).alloc (.cells #[.slice a nn c] 121))=W0:=⟨_,rfl⟩
 have hsz:W0.heap.size=w.heap.size+3:=by rw [<-A5];simp
 rw [A5]at AR⊢;obtain ⟨bS,hbS⟩:∃b,w.heap.size+1+1=b:=⟨_,rfl⟩
 obtain ⟨b4,hb4⟩:∃b,w.heap.size+1=b:=⟨_,rfl⟩
 obtain ⟨b3,hb3⟩:∃b,w.heap.size=b:=⟨_,rfl⟩
 have A4:Hid (Sy w W0 [(b3,#[.slice a1 n1 c1,.bool m1,.slice d1 e1 f1],72),(b4,zR,72),(bS,#[.slice a nn c],121)] [] []):=ζ (by rw [<-hbS,<-hb4,<-hb3];exact AR.out);rw [hbS,hb4,hb3];have hle:w.heap.size<=W0.heap.size:=A4.out.be.size;have hLR:LRd W0 bS a nn c l:=⟨A4.out.c 2 0,HS.out.below A4.out.be⟩
 have HZ:=ζ (show b3=w.heap.size/\b4=w.heap.size+1/\bS=w.heap.size+2/\W0.heap.size=w.heap.size+3 by omega);have hown1:bS∉ [b3,b4]:=by simp;omega
 have hrow:∀g o,a=some ⟨g,o,none⟩->g∉ [b3,b4]:=by
  intro g o e hm;obtain ⟨g',o',e',hg,_⟩:=HS.out.2.2.2 (by have:=HS.out.n2;have:=HP.out.two;omega);rw [e]at e';simp only [Option.some.injEq,Addr.mk.injEq,and_true]at e';simp at hm;omega
 clear A9 AR A5 hsz hbS hb4 hb3;refine wpIn_rangeFunc_ownH (w0:=W0) (Kp:=KeepsC [b3,b4]) (S:=fun ys:List Edx=>ys.map (·.1)=edL l) (Sp:=fun pre:List Edx=>∃k,pre.map (·.1)=(edL l).take k) (N:=(edL l).length) (encs:=fun e:Edx=>encE e.1) rfl (by omega) (gf:=146) (lb:=#[.pointer (some ⟨bS,0,none⟩)]) rfl trivial (enters_of Tryz.func146 (by kernel_rfl) rfl)
  (fun lp J Jx W hW hJ _ hY h0=>edges1_in (n - 1) (by omega) lp bS a nn c l HP.out J Jx [b3,b4] hown1 hrow hY W (hLR.below hW) (fun s A B hs hg=>hJ s A B none hs hg (fun r e=>by cases e)) h0)
  (fun h k=>keepsC_t h k) (fun W k o o' _ hl ho _=>keepsC_p W k o o' hl ho) (Below.refl _ _) (fun _=>rfl)
  (fun pre W=>Hid (Sy w W [(b3,#[.slice a1 n1 c1,.bool m1,.slice d1 e1 f1],72),(b4,zR,72),(bS,#[.slice a nn c],121)] [] []/\W0.heap.size<=W.heap.size/\LtX x pre))
  (fun cd pre W=>Hid (cd= .ret/\∃ (a4:OA) (n4 c4:Nat) (m4:Bool) (d4:OA) (e4 f4:Nat),Sy w W [(b3,#[.slice a1 n1 c1,.bool m1,.slice d1 e1 f1],72),(b4,#[.slice a4 n4 c4,.bool m4,.slice d4 e4 f4],72),(bS,#[.slice a nn c],121)] [] []/\∃ (p0:List Edx) (e:Edx),pre=p0++ [e]/\LtX x p0/\x<=e.1.2.1/\Rd W (.slice a4 n4 c4) m4 (.slice d4 e4 f4) (edV e.1 x)))
  (fun s W W' row hs hg hr=>ζ ⟨hs.out.1.ownF hg hle hr,Nat.le_trans hs.out.2.1 hg.size,hs.out.2.2⟩)
  (fun cd s W W' row hs hg hr=>by
   obtain ⟨h1,a4,n4,c4,m4,d4,e4,f4,h2,p0,e,h3,h4,h5,h6⟩:=hs.out;exact ζ ⟨h1,a4,n4,c4,m4,d4,e4,f4,h2.ownF hg hle hr,p0,e,h3,h4,h5,h6.ownF hg hr⟩)
  (ζ ⟨A4.out,Nat.le_refl _,fun y hy=>by cases hy⟩)
  (fun e a' W=>∃b5 b6,a'= { tmps:=#[.slice a nn c,.agg #[.slice a1 n1 c1,.bool m1,.slice d1 e1 f1],undef,.pointer (some ⟨b3,0,none⟩),.pointer (some ⟨b4,0,none⟩),.pointer (some ⟨b5,0,none⟩),.pointer (some ⟨b6,0,none⟩),.slice a nn c,.func (.func 146) #[] #[.pointer (some ⟨bS,0,none⟩)],.agg #[.int .i64 e.1.1.1,.int .i64 e.1.1.2],.agg #[.int .i64 e.1.2.1,.int .i64 e.1.2.2],undef,undef,undef,undef,undef,undef,undef,undef,undef,undef,undef,undef,undef,undef,undef,undef,undef,undef,undef,undef,undef,undef,undef,undef,undef,undef,undef,undef,undef,undef,undef,undef,undef,undef,undef,undef,undef],defers:=[] } /\W0.heap.size<=b5/\b6=b5+1/\W.heap[b5]? =some (.cells #[.int .i64 e.1.1.1,.int .i64 e.1.1.2] 47 (0,0))/\W.heap[b6]? =some (.cells #[.int .i64 e.1.2.1,.int .i64 e.1.2.2] 47 (0,0)))
  (fun e a' _ W W' row hs hg hr=>by
   obtain ⟨b5,b6,h1,h2,h3,h4,h5⟩:=hs;have hk:∀ (k:Nat) cs,W.heap[k]? =some (.cells cs 47 (0,0))->W'.heap[k]? =some (.cells cs 47 (0,0)):=fun k cs hc=>(hg.block k (Array.getElem?_eq_some_iff.1 hc).1 (fun e=>by
    obtain ⟨-,o,ho,hf⟩:=hr k e.symm;rw [hc]at ho;cases ho;cases hf)).trans hc
   exact⟨b5,b6,h1,h2,h3,hk _ _ h4,hk _ _ h5⟩)
  ?assign ?body ?done ?stop
 case assign=>
  rintro lr pre ⟨⟨⟨p0,p1⟩,⟨q0,q1⟩⟩,hok⟩ W K hi hK
  gi_wp2
  have hal:Below W.heap.size W ((W.alloc (.cells #[.int .i64 p0,.int .i64 p1] 47)).alloc (.cells #[.int .i64 q0,.int .i64 q1] 47)):=((Below.refl _ _).alloc (Nat.le_refl _) _).alloc (by simp) _;exact hK _ _ ⟨hal.size,fun k o _ hk _=>heap_below hal hk⟩ (keepsC_below hal) (ζ ⟨hi.out.1.call hal,Nat.le_trans hi.out.2.1 hal.size,hi.out.2.2⟩) ⟨W.heap.size,W.heap.size+1,rfl,hi.out.2.1,rfl,(Below.heap_alloc _ _ _ (by simp)).trans (World.alloc_heap_new W _),by have:=World.alloc_heap_new (W.alloc (.cells #[.int .i64 p0,.int .i64 p1] 47)) (.cells #[.int .i64 q0,.int .i64 q1] 47);rwa [World.size_alloc]at this⟩
 case body=>
  rintro lr pre ⟨⟨⟨p0,p1⟩,⟨q0,q1⟩⟩,hok⟩ a' W hlr hlp hi ⟨b5,b6,rfl,hb5,hb6,hc5,hc6⟩ hlen;obtain ⟨h1,h3,h4⟩:=hi.out;clear hi;dsimp only at hc5 hc6⊢;have hl5:w.heap.size<=b5:=Nat.le_trans hle hb5;have hn5:b5∉ownOf [(b3,#[.slice a1 n1 c1,.bool m1,.slice d1 e1 f1],72),(b4,zR,72),(bS,#[.slice a nn c],121)] []:=by intro hm;simp [ownOf]at hm;have:=HZ.out;omega
  have AR:=h1.addB hl5 hc5 hn5;have hn6:b6∉ownOf ([(b3,#[.slice a1 n1 c1,.bool m1,.slice d1 e1 f1],72),(b4,zR,72),(bS,#[.slice a nn c],121)]++ [(b5,#[.int .i64 p0,.int .i64 p1],47)]) []:=by intro hm;simp [ownOf]at hm;have:=HZ.out;omega
  have AS:Hid (Sy w W [(b3,#[.slice a1 n1 c1,.bool m1,.slice d1 e1 f1],72),(b4,zR,72),(bS,#[.slice a nn c],121),(b5,#[.int .i64 p0,.int .i64 p1],47),(b6,#[.int .i64 q0,.int .i64 q1],47)] [] []):=ζ (AR.addB (show w.heap.size<=b6 by omega) hc6 hn6);have hxw:=HX.out.keep (Below.keeps h1.be);have AK:Hid (Sy w W [(b3,#[.slice a1 n1 c1,.bool m1,.slice d1 e1 f1],72),(b4,zR,72),(bS,#[.slice a nn c],121),(b5,#[.int .i64 p0,.int .i64 p1],47),(b6,#[.int .i64 q0,.int .i64 q1],47)] [] [(fun V=>Rd V (.slice a1 n1 c1) m1 (.slice d1 e1 f1) ((x:Rat))),(fun V=>Away [b3,b4,bS,b5,b6] W V)]):=ζ ((AS.out.pR rfl rfl hxw).push (fun V hV=>hV));have Ad:=ζ hok;obtain ⟨⟨hp0,hp1⟩,⟨hq0,hq1⟩,hpq⟩:=Ad.out;dsimp only at hp0 hp1 hq0 hq1 hpq;have HH:=ζ (And.intro h3 h4);have hxb: -100000<=x/\x<=100000:=by
   have g1:=A7.out;have g2:=A8.out;have g3:=HP.out.bx (i:=0) (by have:=HP.out.two;omega);have g4:=HP.out.bx (i:=l.length - 1) (by have:=HP.out.two;omega);omega
  have BX:=ζ (int_bq (k:=x) (by omega));have BQ0:=ζ (int_bq (k:=q0) (by omega));have BP0:=ζ (int_bq (k:=p0) (by omega));have BP1:=ζ (int_bq (k:=p1) (by omega));have BD1:=ζ (int_bq (k:=q1 - p1) (by omega));have BD0:=ζ (int_bq (k:=q0 - p0) (by omega));have Ab:=ζ (cast_ne (a:=q0 - p0) (by omega));have w1:IntKind.i64.wrap (q1 - p1)=q1 - p1:=IntWalk.i64_in _ (by omega);have w2:IntKind.i64.wrap (q0 - p0)=q0 - p0:=IntWalk.i64_in _ (by omega);have BH:=ζ (And.intro hp0 (And.intro hp1 (And.intro hq0 (And.intro hq1 hpq))));obtain ⟨v,hv⟩:∃v,cmpQ (x:Rat) (q0:Rat)=v:=⟨_,rfl⟩
  have HV:=ζ hv;have Af:=ζ (fun(h:v<=0)=>cmp_int (a:=x) (b:=q0) (by rw [hv];exact h));have Ag:=ζ (fun(h:¬ v<=0)=>cmp_int_no (a:=x) (b:=q0) (by rw [hv];exact h));have Aj:=ζ (fun W=>pof_any W q0 (by omega));have Ak:=ζ (fun W=>pof_any W p1 (by omega));have Al:=ζ (fun W=>pof_any W p0 (by omega));have Am:=ζ (fun W=>pof_any W (q1 - p1) (by omega));have An:=ζ (fun W=>pof_any W (q0 - p0) (by omega));have BI:=ζ (And.intro hb5 hb6);clear hb5 hb6;clear hv h1 h3 h4 hc5 hc6 hn5 hn6 AR hxw hlp hlen hp0 hp1 hq0 hq1 hpq hxb
  gi_wp2_with fail
  refine wpIn_mono (Q:=fun e a' W'=>e= .normal/\Hid (∃v11 v12 v13 v14 v15:Value,a'= { tmps:=#[.slice a nn c,.agg #[.slice a1 n1 c1,.bool m1,.slice d1 e1 f1],undef,.pointer (some ⟨b3,0,none⟩),.pointer (some ⟨b4,0,none⟩),.pointer (some ⟨b5,0,none⟩),.pointer (some ⟨b6,0,none⟩),.slice a nn c,.func (.func 146) #[] #[.pointer (some ⟨bS,0,none⟩)],.agg #[.int .i64 p0,.int .i64 p1],.agg #[.int .i64 q0,.int .i64 q1],v11,v12,v13,v14,v15,.bool (decide (v<=0)),undef,undef,undef,undef,undef,undef,undef,undef,undef,undef,undef,undef,undef,undef,undef,undef,undef,undef,undef,undef,undef,undef,undef,undef,undef,undef,undef,undef,undef,undef,undef],defers:=[] } /\Sy w W' [(b3,#[.slice a1 n1 c1,.bool m1,.slice d1 e1 f1],72),(b4,zR,72),(bS,#[.slice a nn c],121),(b5,#[.int .i64 p0,.int .i64 p1],47),(b6,#[.int .i64 q0,.int .i64 q1],47)] [] [(fun V=>Rd V (.slice a1 n1 c1) m1 (.slice d1 e1 f1) ((x:Rat))),(fun V=>Away [b3,b4,bS,b5,b6] W V)])) ?reg ?rest
  case reg=>
   refine wpIn_region_round (S:=(fun w'=>w'.cell? ⟨b3,0,none⟩=some (.slice a1 n1 c1)/\w'.cell? ⟨b3,1,none⟩=some (.bool m1)/\w'.cell? ⟨b3,2,none⟩=some (.slice d1 e1 f1)/\w'.cell? ⟨b6,0,none⟩=some (.int .i64 q0)/\w'.cell? ⟨b6,1,none⟩=some (.int .i64 q1)/\True)) ?_ (by kernel_rfl) ⟨AK.out.drew.c 0 0,AK.out.drew.c 0 1,AK.out.drew.c 0 2,AK.out.drew.c 4 0,AK.out.drew.c 4 1,trivial⟩ (fun hH=>?_)
   ·kernel_rfl
   refine wpAnyH_geny (show Sy w _ [(b3,#[.slice a1 n1 c1,.bool m1,.slice d1 e1 f1],72),(b4,zR,72),(bS,#[.slice a nn c],121),(b5,#[.int .i64 p0,.int .i64 p1],47),(b6,#[.int .i64 q0,.int .i64 q1],47)] [] [(fun V=>Rd V (.slice a1 n1 c1) m1 (.slice d1 e1 f1) ((x:Rat))),(fun V=>Away [b3,b4,bS,b5,b6] W V)]from AK.out.drew) hH ?_;intro Ap hc AD;have AL:=ζ hc;clear hc hH AK;refine wpAnyH_take (i:=0) (oi:=⟨_,_,_,_,_,_⟩) (v:=?_) rfl (by kernel_rfl) (by kernel_rfl) (by kernel_rfl) (fun _ _ _ h=>by cases h.1) (Or.inl ⟨by rfl,?_⟩) AD ?_;rotate_left
   ·intro wS AQ;(try dsimp only at AQ);go_simp;try with_reducible rfl
   (try simp only [zP]);refine wpAnyH_take (i:=1) (oi:=⟨_,_,_,_,_,_⟩) (v:=?_) rfl (by kernel_rfl) (by kernel_rfl) (by kernel_rfl) (fun _ _ _ h=>by cases h.1) (Or.inl ⟨by rfl,?_⟩) AD ?_;rotate_left
   ·intro wS AQ;(try dsimp only at AQ);go_simp;try with_reducible rfl
   (try simp only [zP]);refine wpAnyH_take (i:=2) (oi:=⟨_,_,_,_,_,_⟩) (v:=?_) rfl (by kernel_rfl) (by kernel_rfl) (by kernel_rfl) (fun _ _ _ h=>by cases h.1) (Or.inl ⟨by rfl,?_⟩) AD ?_;rotate_left
   ·intro wS AQ;(try dsimp only at AQ);go_simp;try with_reducible rfl
   (try simp only [zP]);refine rdy1 3 rfl (fun Kq AB=>?_);go_simp;go_at_call 46;refine(Aj.out _).mono ?_;rintro e wT ⟨a5,n5,c5,m5,d5,e5,f5,rfl,hz,hb⟩;(try go_wp2_with fail);refine stepZ AB (show Sy w _ [(b3,#[.slice a1 n1 c1,.bool m1,.slice d1 e1 f1],72),(b4,zR,72),(bS,#[.slice a nn c],121),(b5,#[.int .i64 p0,.int .i64 p1],47),(b6,#[.int .i64 q0,.int .i64 q1],47)] [] [(fun V=>Rd V (.slice a1 n1 c1) m1 (.slice d1 e1 f1) ((x:Rat))),(fun V=>Away [b3,b4,bS,b5,b6] W V),(fun V=>Rd V (.slice a5 n5 c5) m5 (.slice d5 e5 f5) ((q0:Rat)))]from((AL.out.call hb).pR rfl rfl hz)) (fun _ hX=>⟨hX.c 0 0,hX.c 0 1,hX.c 0 2,hX.c 4 0,hX.c 4 1,trivial⟩) ?_;intro Aq AE AT;clear AB Kq AL hb hz AD;(try simp only [zP]);refine rdy1 4 rfl (fun Kq AB=>?_);go_simp;go_at_call 19;refine(hcmp_is (AE.out.r 0 rfl) (AE.out.r 2 rfl) BX.out BQ0.out (by omega) (by omega) HV.out).mono ?_;rintro e wT ⟨rfl,hb⟩;(try go_wp2_with fail);refine stepZ AB (show Sy w _ [(b3,#[.slice a1 n1 c1,.bool m1,.slice d1 e1 f1],72),(b4,zR,72),(bS,#[.slice a nn c],121),(b5,#[.int .i64 p0,.int .i64 p1],47),(b6,#[.int .i64 q0,.int .i64 q1],47)] [] [(fun V=>Rd V (.slice a1 n1 c1) m1 (.slice d1 e1 f1) ((x:Rat))),(fun V=>Away [b3,b4,bS,b5,b6] W V),(fun V=>Rd V (.slice a5 n5 c5) m5 (.slice d5 e5 f5) ((q0:Rat)))]from(AE.out.call hb)) (fun _ hX=>⟨hX.c 0 0,hX.c 0 1,hX.c 0 2,hX.c 4 0,hX.c 4 1,trivial⟩) ?_;intro Ar AU AV;clear AB Kq AE hb AT;(try simp only [zP]);refine wpAnyH_take (i:=5) (oi:=⟨_,_,_,_,_,_⟩) (v:=?_) rfl (by kernel_rfl) (by kernel_rfl) (by kernel_rfl) (fun _ _ _ h=>by cases h.1) (Or.inl ⟨by rfl,?_⟩) AV ?_;rotate_left
   ·intro wS AQ;(try dsimp only at AQ);go_simp;try with_reducible rfl
   (try simp only [zP]);refine wpAnyH_done (by kernel_rfl) ?_ _;exact⟨rfl,ζ ⟨_,_,_,_,_,rfl,AU.out.pick [0,1] rfl⟩⟩
  case rest=>
   rintro e a' W' ⟨rfl,h⟩;obtain ⟨v11,v12,v13,v14,v15,rfl,hz⟩:=h.out;have hZ:=ζ hz;clear h hz AK;by_cases hle0:v<=0
   ·have dq:=decide_eq_true hle0;have A6:=ζ (Af.out hle0)
    gi_wp2_with fail
    refine wpIn_mono (Q:=fun e _ W'=>e= .normal/\Hid (KeepsFrom W0.heap.size W W'/\∃ (a4:OA) (n4 c4:Nat) (m4:Bool) (d4:OA) (e4 f4:Nat),Sy w W' [(b3,#[.slice a1 n1 c1,.bool m1,.slice d1 e1 f1],72),(b4,#[.slice a4 n4 c4,.bool m4,.slice d4 e4 f4],72),(bS,#[.slice a nn c],121)] [] []/\Rd W' (.slice a4 n4 c4) m4 (.slice d4 e4 f4) (edV ((p0,p1),(q0,q1)) x))) ?reg5 ?rest5
    case reg5=>
     refine wpIn_region_round (S:=(fun w'=>w'.cell? ⟨b3,0,none⟩=some (.slice a1 n1 c1)/\w'.cell? ⟨b3,1,none⟩=some (.bool m1)/\w'.cell? ⟨b3,2,none⟩=some (.slice d1 e1 f1)/\w'.cell? ⟨b5,0,none⟩=some (.int .i64 p0)/\w'.cell? ⟨b5,1,none⟩=some (.int .i64 p1)/\w'.cell? ⟨b6,0,none⟩=some (.int .i64 q0)/\w'.cell? ⟨b6,1,none⟩=some (.int .i64 q1)/\True)) ?_ (by kernel_rfl) ⟨hZ.out.drew.c 0 0,hZ.out.drew.c 0 1,hZ.out.drew.c 0 2,hZ.out.drew.c 3 0,hZ.out.drew.c 3 1,hZ.out.drew.c 4 0,hZ.out.drew.c 4 1,trivial⟩ (fun hH=>?_)
     ·kernel_rfl
     refine wpAnyH_geny (show Sy w _ [(b3,#[.slice a1 n1 c1,.bool m1,.slice d1 e1 f1],72),(b4,zR,72),(bS,#[.slice a nn c],121),(b5,#[.int .i64 p0,.int .i64 p1],47),(b6,#[.int .i64 q0,.int .i64 q1],47)] [] [(fun V=>Rd V (.slice a1 n1 c1) m1 (.slice d1 e1 f1) ((x:Rat))),(fun V=>Away [b3,b4,bS,b5,b6] W V)]from hZ.out.drew) hH ?_;intro As hc AA;have AM:=ζ hc;clear hc hH hZ;refine tkA 0 rfl AA ?_;(try simp only [zP]);refine tkA 1 rfl AA ?_;(try simp only [zP]);refine tkA 3 rfl AA ?_;(try simp only [zP]);refine tkA 4 rfl AA ?_;(try simp only [zP]);refine tkA 5 rfl AA ?_;(try simp only [zP]);refine tkA 8 rfl AA ?_;(try simp only [zP]);refine tkA 9 rfl AA ?_;(try simp only [zP]);refine tkA 10 rfl AA ?_;(try simp only [zP]);refine tkA 11 rfl AA ?_;(try simp only [zP]);refine tkA 12 rfl AA ?_;(try simp only [zP]);refine tkA 15 rfl AA ?_;(try simp only [zP]);refine tkA 16 rfl AA ?_;(try simp only [zP]);refine tkA 17 rfl AA ?_;(try simp only [zP]);refine tkA 18 rfl AA ?_;(try simp only [zP]);refine tkA 19 rfl AA ?_;(try simp only [zP]);refine rdy1 2 rfl (fun Kq AB=>?_);go_simp;go_at_call 46;refine(Ak.out _).mono ?_;rintro e wT ⟨a2,n2,c2,m2,d2,e2,f2,rfl,hz,hb⟩;(try go_wp2_with fail);refine stepZ AB (show Sy w _ [(b3,#[.slice a1 n1 c1,.bool m1,.slice d1 e1 f1],72),(b4,zR,72),(bS,#[.slice a nn c],121),(b5,#[.int .i64 p0,.int .i64 p1],47),(b6,#[.int .i64 q0,.int .i64 q1],47)] [] [(fun V=>Rd V (.slice a1 n1 c1) m1 (.slice d1 e1 f1) ((x:Rat))),(fun V=>Away [b3,b4,bS,b5,b6] W V),(fun V=>Rd V (.slice a2 n2 c2) m2 (.slice d2 e2 f2) ((p1:Rat)))]from((AM.out.call hb).pR rfl rfl hz)) (fun _ hX=>⟨hX.c 0 0,hX.c 0 1,hX.c 0 2,hX.c 3 0,hX.c 3 1,hX.c 4 0,hX.c 4 1,trivial⟩) ?_;intro Av AN AW;clear AB Kq AM hb hz AA;(try simp only [zP]);refine rdy1 6 rfl (fun Kq AB=>?_);go_simp;go_at_call 46;refine(Al.out _).mono ?_;rintro e wT ⟨a3,n3,c3,m3,d3,e3,f3,rfl,hz,hb⟩;(try go_wp2_with fail);refine stepZ AB (show Sy w _ [(b3,#[.slice a1 n1 c1,.bool m1,.slice d1 e1 f1],72),(b4,zR,72),(bS,#[.slice a nn c],121),(b5,#[.int .i64 p0,.int .i64 p1],47),(b6,#[.int .i64 q0,.int .i64 q1],47)] [] [(fun V=>Rd V (.slice a1 n1 c1) m1 (.slice d1 e1 f1) ((x:Rat))),(fun V=>Away [b3,b4,bS,b5,b6] W V),(fun V=>Rd V (.slice a2 n2 c2) m2 (.slice d2 e2 f2) ((p1:Rat))),(fun V=>Rd V (.slice a3 n3 c3) m3 (.slice d3 e3 f3) ((p0:Rat)))]from((AN.out.call hb).pR rfl rfl hz)) (fun _ hX=>⟨hX.c 0 0,hX.c 0 1,hX.c 0 2,hX.c 3 0,hX.c 3 1,hX.c 4 0,hX.c 4 1,trivial⟩) ?_;intro Ax AF AX;clear AB Kq AN hb hz AW;(try simp only [zP]);refine rdy1 7 rfl (fun Kq AB=>?_);go_simp;go_at_call 105;refine(rsubT_b (AF.out.r 0 rfl) (AF.out.r 3 rfl) BX.out BP0.out (by omega) (by omega)).mono ?_;rintro e wT ⟨a5,n5,c5,m5,d5,e5,f5,rfl,hz,hb⟩;(try go_wp2_with fail);refine stepZ AB (show Sy w _ [(b3,#[.slice a1 n1 c1,.bool m1,.slice d1 e1 f1],72),(b4,zR,72),(bS,#[.slice a nn c],121),(b5,#[.int .i64 p0,.int .i64 p1],47),(b6,#[.int .i64 q0,.int .i64 q1],47)] [] [(fun V=>Rd V (.slice a1 n1 c1) m1 (.slice d1 e1 f1) ((x:Rat))),(fun V=>Away [b3,b4,bS,b5,b6] W V),(fun V=>Rd V (.slice a2 n2 c2) m2 (.slice d2 e2 f2) ((p1:Rat))),(fun V=>Rd V (.slice a3 n3 c3) m3 (.slice d3 e3 f3) ((p0:Rat))),(fun V=>Rd V (.slice a5 n5 c5) m5 (.slice d5 e5 f5) ((x:Rat) - (p0:Rat)))]from((AF.out.call hb).pR rfl rfl hz)) (fun _ hX=>⟨hX.c 0 0,hX.c 0 1,hX.c 0 2,hX.c 3 0,hX.c 3 1,hX.c 4 0,hX.c 4 1,trivial⟩) ?_;intro Az AO AY;clear AB Kq AF hb hz AX;(try simp only [zP]);refine rdy1 13 rfl (fun Kq AB=>?_);go_simp;go_at_call 46;refine(Am.out _).mono ?_;rintro e wT ⟨a6,n6,c6,m6,d6,e6,f6,rfl,hz,hb⟩;(try go_wp2_with fail);refine stepZ AB (show Sy w _ [(b3,#[.slice a1 n1 c1,.bool m1,.slice d1 e1 f1],72),(b4,zR,72),(bS,#[.slice a nn c],121),(b5,#[.int .i64 p0,.int .i64 p1],47),(b6,#[.int .i64 q0,.int .i64 q1],47)] [] [(fun V=>Rd V (.slice a1 n1 c1) m1 (.slice d1 e1 f1) ((x:Rat))),(fun V=>Away [b3,b4,bS,b5,b6] W V),(fun V=>Rd V (.slice a2 n2 c2) m2 (.slice d2 e2 f2) ((p1:Rat))),(fun V=>Rd V (.slice a3 n3 c3) m3 (.slice d3 e3 f3) ((p0:Rat))),(fun V=>Rd V (.slice a5 n5 c5) m5 (.slice d5 e5 f5) ((x:Rat) - (p0:Rat))),(fun V=>Rd V (.slice a6 n6 c6) m6 (.slice d6 e6 f6) (((q1 - p1:Int):Rat)))]from((AO.out.call hb).pR rfl rfl hz)) (fun _ hX=>⟨hX.c 0 0,hX.c 0 1,hX.c 0 2,hX.c 3 0,hX.c 3 1,hX.c 4 0,hX.c 4 1,trivial⟩) ?_;intro BA AG AZ;clear AB Kq AO hb hz AY;(try simp only [zP]);refine rdy1 14 rfl (fun Kq AB=>?_);go_simp;go_at_call 101;refine(rmul_b (AG.out.r 4 rfl) (AG.out.r 5 rfl) (BX.out.minus BP0.out) BD1.out (by omega) (by omega)).mono ?_;rintro e wT ⟨a7,n7,c7,m7,d7,e7,f7,rfl,hz,hb⟩;(try go_wp2_with fail);refine stepZ AB (show Sy w _ [(b3,#[.slice a1 n1 c1,.bool m1,.slice d1 e1 f1],72),(b4,zR,72),(bS,#[.slice a nn c],121),(b5,#[.int .i64 p0,.int .i64 p1],47),(b6,#[.int .i64 q0,.int .i64 q1],47)] [] [(fun V=>Rd V (.slice a1 n1 c1) m1 (.slice d1 e1 f1) ((x:Rat))),(fun V=>Away [b3,b4,bS,b5,b6] W V),(fun V=>Rd V (.slice a2 n2 c2) m2 (.slice d2 e2 f2) ((p1:Rat))),(fun V=>Rd V (.slice a3 n3 c3) m3 (.slice d3 e3 f3) ((p0:Rat))),(fun V=>Rd V (.slice a5 n5 c5) m5 (.slice d5 e5 f5) ((x:Rat) - (p0:Rat))),(fun V=>Rd V (.slice a6 n6 c6) m6 (.slice d6 e6 f6) (((q1 - p1:Int):Rat))),(fun V=>Rd V (.slice a7 n7 c7) m7 (.slice d7 e7 f7) (((x:Rat) - (p0:Rat))*((q1 - p1:Int):Rat)))]from((AG.out.call hb).pR rfl rfl hz)) (fun _ hX=>⟨hX.c 0 0,hX.c 0 1,hX.c 0 2,hX.c 3 0,hX.c 3 1,hX.c 4 0,hX.c 4 1,trivial⟩) ?_;intro BB AP A0;clear AB Kq AG hb hz AZ;(try simp only [zP]);refine rdy1 20 rfl (fun Kq AB=>?_);go_simp;go_at_call 46;refine(An.out _).mono ?_;rintro e wT ⟨a8,n8,c8,m8,d8,e8,f8,rfl,hz,hb⟩;(try go_wp2_with fail);refine stepZ AB (show Sy w _ [(b3,#[.slice a1 n1 c1,.bool m1,.slice d1 e1 f1],72),(b4,zR,72),(bS,#[.slice a nn c],121),(b5,#[.int .i64 p0,.int .i64 p1],47),(b6,#[.int .i64 q0,.int .i64 q1],47)] [] [(fun V=>Rd V (.slice a1 n1 c1) m1 (.slice d1 e1 f1) ((x:Rat))),(fun V=>Away [b3,b4,bS,b5,b6] W V),(fun V=>Rd V (.slice a2 n2 c2) m2 (.slice d2 e2 f2) ((p1:Rat))),(fun V=>Rd V (.slice a3 n3 c3) m3 (.slice d3 e3 f3) ((p0:Rat))),(fun V=>Rd V (.slice a5 n5 c5) m5 (.slice d5 e5 f5) ((x:Rat) - (p0:Rat))),(fun V=>Rd V (.slice a6 n6 c6) m6 (.slice d6 e6 f6) (((q1 - p1:Int):Rat))),(fun V=>Rd V (.slice a7 n7 c7) m7 (.slice d7 e7 f7) (((x:Rat) - (p0:Rat))*((q1 - p1:Int):Rat))),(fun V=>Rd V (.slice a8 n8 c8) m8 (.slice d8 e8 f8) (((q0 - p0:Int):Rat)))]from((AP.out.call hb).pR rfl rfl hz)) (fun _ hX=>⟨hX.c 0 0,hX.c 0 1,hX.c 0 2,hX.c 3 0,hX.c 3 1,hX.c 4 0,hX.c 4 1,trivial⟩) ?_;intro BC AH A1;clear AB Kq AP hb hz A0;(try simp only [zP]);refine rdy1 21 rfl (fun Kq AB=>?_);go_simp;go_at_call 104;refine(pover_any _ _ _ _ _ _ _ _ _ _ _ _ _ _ _ _ _ (AH.out.r 6 rfl) (AH.out.r 7 rfl) _ _ (BX.out.minus BP0.out|>.mul BD1.out) BD0.out (by omega) (by omega) Ab.out).mono ?_;rintro e wT ⟨a9,n9,c9,m9,d9,e9,f9,rfl,hz,hb⟩;(try go_wp2_with fail);refine stepZ AB (show Sy w _ [(b3,#[.slice a1 n1 c1,.bool m1,.slice d1 e1 f1],72),(b4,zR,72),(bS,#[.slice a nn c],121),(b5,#[.int .i64 p0,.int .i64 p1],47),(b6,#[.int .i64 q0,.int .i64 q1],47)] [] [(fun V=>Rd V (.slice a1 n1 c1) m1 (.slice d1 e1 f1) ((x:Rat))),(fun V=>Away [b3,b4,bS,b5,b6] W V),(fun V=>Rd V (.slice a2 n2 c2) m2 (.slice d2 e2 f2) ((p1:Rat))),(fun V=>Rd V (.slice a3 n3 c3) m3 (.slice d3 e3 f3) ((p0:Rat))),(fun V=>Rd V (.slice a5 n5 c5) m5 (.slice d5 e5 f5) ((x:Rat) - (p0:Rat))),(fun V=>Rd V (.slice a6 n6 c6) m6 (.slice d6 e6 f6) (((q1 - p1:Int):Rat))),(fun V=>Rd V (.slice a7 n7 c7) m7 (.slice d7 e7 f7) (((x:Rat) - (p0:Rat))*((q1 - p1:Int):Rat))),(fun V=>Rd V (.slice a8 n8 c8) m8 (.slice d8 e8 f8) (((q0 - p0:Int):Rat))),(fun V=>Rd V (.slice a9 n9 c9) m9 (.slice d9 e9 f9) (((x:Rat) - (p0:Rat))*((q1 - p1:Int):Rat) / ((q0 - p0:Int):Rat)))]from((AH.out.call hb).pR rfl rfl hz)) (fun _ hX=>⟨hX.c 0 0,hX.c 0 1,hX.c 0 2,hX.c 3 0,hX.c 3 1,hX.c 4 0,hX.c 4 1,trivial⟩) ?_;intro BD AI A2;clear AB Kq AH hb hz A1;(try simp only [zP]);refine rdy1 22 rfl (fun Kq AB=>?_);go_simp;go_at_call 99;refine(radd_b (AI.out.r 2 rfl) (AI.out.r 8 rfl) BP1.out (BX.out.minus BP0.out|>.mul BD1.out|>.div BD0.out Ab.out) (by omega) (by omega)).mono ?_;rintro e wT ⟨a4,n4,c4,m4,d4,e4,f4,rfl,hz,hb⟩;(try go_wp2_with fail);refine stepZ AB (show Sy w _ [(b3,#[.slice a1 n1 c1,.bool m1,.slice d1 e1 f1],72),(b4,zR,72),(bS,#[.slice a nn c],121),(b5,#[.int .i64 p0,.int .i64 p1],47),(b6,#[.int .i64 q0,.int .i64 q1],47)] [] [(fun V=>Rd V (.slice a1 n1 c1) m1 (.slice d1 e1 f1) ((x:Rat))),(fun V=>Away [b3,b4,bS,b5,b6] W V),(fun V=>Rd V (.slice a2 n2 c2) m2 (.slice d2 e2 f2) ((p1:Rat))),(fun V=>Rd V (.slice a3 n3 c3) m3 (.slice d3 e3 f3) ((p0:Rat))),(fun V=>Rd V (.slice a5 n5 c5) m5 (.slice d5 e5 f5) ((x:Rat) - (p0:Rat))),(fun V=>Rd V (.slice a6 n6 c6) m6 (.slice d6 e6 f6) (((q1 - p1:Int):Rat))),(fun V=>Rd V (.slice a7 n7 c7) m7 (.slice d7 e7 f7) (((x:Rat) - (p0:Rat))*((q1 - p1:Int):Rat))),(fun V=>Rd V (.slice a8 n8 c8) m8 (.slice d8 e8 f8) (((q0 - p0:Int):Rat))),(fun V=>Rd V (.slice a9 n9 c9) m9 (.slice d9 e9 f9) (((x:Rat) - (p0:Rat))*((q1 - p1:Int):Rat) / ((q0 - p0:Int):Rat))),(fun V=>Rd V (.slice a4 n4 c4) m4 (.slice d4 e4 f4) ((p1:Rat)+((x:Rat) - (p0:Rat))*((q1 - p1:Int):Rat) / ((q0 - p0:Int):Rat)))]from((AI.out.call hb).pR rfl rfl hz)) (fun _ hX=>⟨hX.c 0 0,hX.c 0 1,hX.c 0 2,hX.c 3 0,hX.c 3 1,hX.c 4 0,hX.c 4 1,trivial⟩) ?_;intro BE AC A3;clear AB Kq AI hb hz A2;(try simp only [zP]);refine rdy1 23 rfl (fun Kq AB=>?_);have cQ0:=AC.out.c 1 0;have fQ0:=AC.out.f 1 0;have cQ1:=AC.out.c 1 1;have fQ1:=AC.out.f 1 1;have cQ2:=AC.out.c 1 2;have fQ2:=AC.out.f 1 2;go_simp;refine stepZ AB (show Sy w _ [(b3,#[.slice a1 n1 c1,.bool m1,.slice d1 e1 f1],72),(b4,#[.slice a4 n4 c4,.bool m4,.slice d4 e4 f4],72),(bS,#[.slice a nn c],121),(b5,#[.int .i64 p0,.int .i64 p1],47),(b6,#[.int .i64 q0,.int .i64 q1],47)] [] [(fun V=>Rd V (.slice a1 n1 c1) m1 (.slice d1 e1 f1) ((x:Rat))),(fun V=>Away [b3,b4,bS,b5,b6] W V),(fun V=>Rd V (.slice a2 n2 c2) m2 (.slice d2 e2 f2) ((p1:Rat))),(fun V=>Rd V (.slice a3 n3 c3) m3 (.slice d3 e3 f3) ((p0:Rat))),(fun V=>Rd V (.slice a5 n5 c5) m5 (.slice d5 e5 f5) ((x:Rat) - (p0:Rat))),(fun V=>Rd V (.slice a6 n6 c6) m6 (.slice d6 e6 f6) (((q1 - p1:Int):Rat))),(fun V=>Rd V (.slice a7 n7 c7) m7 (.slice d7 e7 f7) (((x:Rat) - (p0:Rat))*((q1 - p1:Int):Rat))),(fun V=>Rd V (.slice a8 n8 c8) m8 (.slice d8 e8 f8) (((q0 - p0:Int):Rat))),(fun V=>Rd V (.slice a9 n9 c9) m9 (.slice d9 e9 f9) (((x:Rat) - (p0:Rat))*((q1 - p1:Int):Rat) / ((q0 - p0:Int):Rat))),(fun V=>Rd V (.slice a4 n4 c4) m4 (.slice d4 e4 f4) ((p1:Rat)+((x:Rat) - (p0:Rat))*((q1 - p1:Int):Rat) / ((q0 - p0:Int):Rat)))]from(AC.out|>.set (j:=0) (v:= .slice a4 n4 c4) 1 rfl|>.set (j:=1) (v:= .bool m4) 1 rfl|>.set (j:=2) (v:= .slice d4 e4 f4) 1 rfl)) (fun _ hX=>⟨hX.c 0 0,hX.c 0 1,hX.c 0 2,hX.c 3 0,hX.c 3 1,hX.c 4 0,hX.c 4 1,trivial⟩) ?_;intro BF AJ Ac;clear AB Kq AC cQ0 fQ0 cQ1 fQ1 cQ2 fQ2 A3;(try simp only [Act.put]);refine wpAnyH_done (by kernel_rfl) ?_ _;exact⟨rfl,ζ ⟨keepsFrom_away AS.out (AJ.out.r 1 rfl) _,_,_,_,_,_,_,_,(AJ.out.thin (List.sublist_append_left [_,_,_] _) (List.nil_sublist _)).pick [] rfl,AJ.out.r 9 rfl⟩⟩
    case rest5=>
     rintro e a' W'' ⟨rfl,h⟩;obtain ⟨hkf,a4,n4,c4,m4,d4,e4,f4,hs4,hr4⟩:=h.out;have HF:=ζ (And.intro hkf (And.intro hs4 hr4));clear h hkf hs4 hr4
     gi_wp2
     exact⟨HF.out.1,ζ ⟨rfl,a4,n4,c4,m4,d4,e4,f4,HF.out.2.1,pre,_,rfl,HH.out.2,A6.out,HF.out.2.2⟩⟩
   ·have dq:=decide_eq_false hle0;have A6:=ζ (Ag.out (by omega))
    gi_wp2
    have hA:=hZ.out.r 1 rfl;refine⟨keepsFrom_away AS.out hA _,⟨hA.1,fun k o hk ho hn=>?_⟩,ζ ⟨(hZ.out.thin (List.sublist_append_left [_,_,_] _) (List.nil_sublist _)).pick [] rfl,Nat.le_trans HH.out.1 hA.1,HH.out.2.snoc A6.out⟩⟩
    ·by_cases e3:k=bS
     ·subst e3;exact((hZ.out.at_ 2 rfl).2).trans (by rw [(AS.out.at_ 2 rfl).2]at hk;exact hk)
     by_cases e5:k=b5
     ·subst e5;exact((hZ.out.at_ 3 rfl).2).trans (by rw [(AS.out.at_ 3 rfl).2]at hk;exact hk)
     by_cases e6:k=b6
     ·subst e6;exact((hZ.out.at_ 4 rfl).2).trans (by rw [(AS.out.at_ 4 rfl).2]at hk;exact hk)
     exact(hA.2 k (Array.getElem?_eq_some_iff.1 hk).1 (by simp at hn⊢;omega)).trans hk
 case done=>
  rintro D xs W hD hxs hi hdef;exfalso;obtain ⟨y,hy,he⟩:=ed_last HP.out hxs;have:=hi.out.2.2 y hy;have:=A8.out;omega
 case stop=>
  rintro D cd pre W hD ⟨k,hk⟩ hix hdef;obtain ⟨rfl,a4,n4,c4,m4,d4,e4,f4,h2,p0,e,rfl,h4,h5,h6⟩:=hix.out;have HV:=ζ (ed_val HP.out A7.out hk h4 h5);rw [HV.out]at h6;have hS:=ζ h2;have hR:=ζ h6;have hdf:=hdef;have HD:=ζ hD;clear hix h2 h4 h5 h6 hk HV hdef hD;have BG:=ζ hdf;clear hdf
  gi_wp2
  have hdf:=BG.out;have hY:=hS.out.put (o':= .deferred none) (show w.heap.size<=D from Nat.le_trans hle HD.out) hdf rfl;refine⟨by simp,.inl ⟨_,_,rfl,run_takeDeferred hdf,?_⟩⟩;exact⟨_,results_cell_row Tryz.results49 _ _ b4 72 #[.slice a4 n4 c4,.bool m4,.slice d4 e4 f4] (0,0) _ rfl (hY.at_ 1 rfl).2 Tryz.underlying72 rfl info_R2,a4,n4,c4,m4,d4,e4,f4,rfl,hR.out.putObj D _ _ hdf rfl,hY.be⟩
end
end Go.Proofs.YtjpojeapdgjbhaaGreatDoor
