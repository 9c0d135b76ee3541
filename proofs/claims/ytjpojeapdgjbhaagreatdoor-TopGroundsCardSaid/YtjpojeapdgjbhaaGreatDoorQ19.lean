/- part -/
import Derived.Test.YtjpojeapdgjbhaaGreatDoorQ18
set_option maxRecDepth 100000
set_option maxHeartbeats 32000000
namespace Go.Proofs.YtjpojeapdgjbhaaGreatDoor
open Go.RowKit Go.Shelf Dig
attribute [local go_sem] Oper.semAt_some
section
variable {w W:World} {bs:List (Nat×Array Value×TypeId)}
theorem Sy.put {l:Nat} {o o':Obj} (h:Sy w W bs [] []) (hb:w.heap.size<=l) (hl:W.heap[l]? =some o) (ho:o.isCells=false):Sy w (W.putObj l o') bs [] [] where
 be:=⟨h.be.os,h.be.tape,h.be.output,by simpa using h.be.size,fun k hk=>(World.putObj_heap_other (by omega)).trans (h.be.block k hk)⟩
 bx x hx:=⟨(h.bx x hx).1,(World.putObj_heap_other (fun e=>by
  have:=(h.bx x hx).2;rw [e,hl]at this;cases this;cases ho)).trans (h.bx x hx).2⟩
 ow:=by simp
 inc:=h.inc
 rd:=by simp
theorem Sy.addB (h:Sy w W bs [] []) {b:Nat} {cs:Array Value} {t:TypeId} (hb:w.heap.size<=b) (hc:W.heap[b]? =some (.cells cs t (0,0))) (hn:b∉ownOf bs []):Sy w W (bs++ [(b,cs,t)]) [] [] where
 be:=h.be
 bx x hx:=by
  rcases List.mem_append.1 hx with hx | hx
  ·exact h.bx x hx
  ·rcases List.mem_singleton.1 hx with rfl;exact⟨hb,hc⟩
 ow:=by simp
 inc:=by
  have hi:=h.inc;unfold ownOf at hi hn⊢;simp only [List.filterMap_nil,List.append_nil,List.map_append,List.map_cons,List.map_nil]at hi hn⊢;exact List.nodup_append.2 ⟨hi,by simp,fun x hx y hy e=>by rcases List.mem_singleton.1 hy with rfl;exact hn (e ▸ hx)⟩
 rd:=by simp
theorem keepsFrom_away {rs:List (World->Prop)} {V:World} (h:Sy w W bs [] rs) (hA:Away (ownOf bs []) W V) (B:Nat):KeepsFrom B W V:=⟨hA.1,fun k o _ hk ho=>(hA.2 k (Array.getElem?_eq_some_iff.1 hk).1 (fun hm=>by
 rcases mem_own.1 hm with ⟨x,hx,rfl⟩ | ⟨o,hq,_⟩
 ·have:=(h.bx x hx).2;rw [hk]at this;cases this;cases ho
 ·cases hq)).trans hk⟩
end
section
variable (w:World)
set_option maxHeartbeats 1000000 in
theorem pieces_in (n:Nat) (sa:Option Addr) (sn sc:Nat) (a b:Int):CallsIn Fence.wide n Tryz.prog 114 #[.agg #[.slice sa sn sc,.int .i64 a,.int .i64 b]] w fun e w'=>e= .returned (.func (.func 150) #[] #[.pointer (some ⟨w.heap.size,0,none⟩)])/\w'=w.alloc (.cells #[.slice sa sn sc,.int .i64 a,.int .i64 b] 116):=by
 refine callsIn_of_wp Tryz.func114 rfl trivial ?_ rfl;simp only [Tryz.ntmps114,List.size_toArray,List.length_cons,List.length_nil,Nat.reduceAdd,Nat.reduceSub,Array.replicate_succ,Array.replicate_zero,List.push_toArray,List.append_toArray,List.nil_append,List.cons_append]
 gi_wp2
 go_ret;exact⟨rfl,rfl⟩
end
section
open Go.RowKit Dig
def RowR (w:World) (v:Value) (qs:List Rat):Prop:=∃a c,v= .slice a qs.length c/\∀ (k:Nat) (hk:k < qs.length),∃g s m s',a=some ⟨g,0,none⟩/\g < w.heap.size/\
 w.cell? ⟨g,k*3,none⟩=some s/\w.cell? ⟨g,k*3+1,none⟩=some (.bool m)/\w.cell? ⟨g,k*3+2,none⟩=some s'/\Rd w s m s' qs[k]
theorem RowR.mono {w w':World} {v:Value} {qs:List Rat} (h:RowR w v qs) (hb:Below w.heap.size w w'):RowR w' v qs:=by
 obtain ⟨a,c,rfl,h⟩:=h;refine⟨a,c,rfl,fun k hk=>?_⟩;obtain ⟨g,s,m,s',h1,h2,h3,h4,h5,h6⟩:=h k hk;exact⟨g,s,m,s',h1,Nat.lt_of_lt_of_le h2 hb.size,(hb.cell (p:=⟨g,_,none⟩) h2).trans h3,(hb.cell (p:=⟨g,_,none⟩) h2).trans h4,(hb.cell (p:=⟨g,_,none⟩) h2).trans h5,h6.keep (Below.keeps hb)⟩
def foldQ (op:Rat->Rat->Rat):List Rat->Rat
 | []=>0
 | q::r=>r.foldl op q
theorem foldQ_snoc (op:Rat->Rat->Rat) (l:List Rat) (q:Rat):foldQ op (l++ [q])=if l= []then q else op (foldQ op l) q:=by
 cases l with
 | nil=>rfl
 | cons a l=>simp [foldQ]
theorem ch1_yes (a1:OA) (n1 c1:Nat) (m1:Bool) (d1:OA) (e1 f1:Nat) (q1:Rat) (a2:OA) (n2 c2:Nat) (m2:Bool) (d2:OA) (e2 f2:Nat) (q2:Rat) (w:World) (h1:Rd w (.slice a1 n1 c1) m1 (.slice d1 e1 f1) q1) (h2:Rd w (.slice a2 n2 c2) m2 (.slice d2 e2 f2) q2) (k1 k2:Nat) (b1:Bq k1 q1) (b2:Bq k2 q2) (hk1:k1<=40000) (hk2:k2<=40000) (way:Int) (bw:Nat) (hbw:bw < w.heap.size) (hw:w.cell? ⟨bw,0,none⟩=some (.int .i64 way)) (c:Int) (hc:cmpQ q2 q1=c) (hi:(c==way)=true):
  Calls Tryz.prog 148 #[.agg #[.slice a1 n1 c1,.bool m1,.slice d1 e1 f1],.agg #[.slice a2 n2 c2,.bool m2,.slice d2 e2 f2],.pointer (some ⟨bw,0,none⟩)] w (RetR w q2):=by
 have HC:=ζ hc;have HW:=ζ hw;have AZ:=ζ hbw;clear hc hw hbw;have B1:=ζ b1;have B2:=ζ b2;clear b1 b2;have hC:=ζ ((((((St.enter w).pr h1).pr h2).al (w.heap.size) #[.slice a1 n1 c1,.bool m1,.slice d1 e1 f1] 72 rfl rfl).al (w.heap.size+1) #[.slice a2 n2 c2,.bool m2,.slice d2 e2 f2] 72 (by simp) rfl).al (w.heap.size+2) zR 72 (by simp) rfl);clear h1 h2;go_enter Tryz.func148,Tryz.ntmps148;go_wp2;go_region_held3 (fun w'=>w'.cell? ⟨w.heap.size,0,none⟩=some (.slice a1 n1 c1)/\w'.cell? ⟨w.heap.size,1,none⟩=some (.bool m1)/\w'.cell? ⟨w.heap.size,2,none⟩=some (.slice d1 e1 f1)/\w'.cell? ⟨w.heap.size+1,0,none⟩=some (.slice a2 n2 c2)/\w'.cell? ⟨w.heap.size+1,1,none⟩=some (.bool m2)/\w'.cell? ⟨w.heap.size+1,2,none⟩=some (.slice d2 e2 f2)/\w'.cell? ⟨bw,0,none⟩=some (.int .i64 way))
  (first
   | (with_reducible refine And.intro (?_:World.cell? w3 _=_) ?_;exact AA.out.c 0 0;exact⟨AA.out.c 0 1,AA.out.c 0 2,AA.out.c 1 0,AA.out.c 1 1,AA.out.c 1 2,(AA.out.be.cell (p:=⟨bw,0,none⟩) AZ.out).trans HW.out⟩)
   | (with_reducible refine And.intro (?_:World.cell? _ _=_) ?_;exact hC.out.drew.c 0 0;exact⟨hC.out.drew.c 0 1,hC.out.drew.c 0 2,hC.out.drew.c 1 0,hC.out.drew.c 1 1,hC.out.drew.c 1 2,(hC.out.drew.be.cell (p:=⟨bw,0,none⟩) AZ.out).trans HW.out⟩))
  (first
   | (have _t:=hC;go_at_call 19;refine(rcmp_b (hC.out.drew.r 1 rfl) (hC.out.drew.r 0 rfl) B2.out B1.out (by omega) (by omega)).mono ?_;rintro e w3 ⟨rfl,hb⟩;have AA:=ζ (hC.out.drew.call hb);clear hb;rw [HC.out];clear _t hC)
   | fail)
 have AN:=AA.out.c 1 0;have AO:=AA.out.f 1 0;have AP:=AA.out.c 1 1;have AQ:=AA.out.f 1 1;have AR:=AA.out.c 1 2;have AS:=AA.out.f 1 2;have AT:=AA.out.c 2 0;have AU:=AA.out.f 2 0;have AV:=AA.out.c 2 1;have AW:=AA.out.f 2 1;have AX:=AA.out.c 2 2;have AY:=AA.out.f 2 2;go_wp2;refine ret_st (AA.out|>.t3 2 rfl) (v:= .agg #[.slice a2 n2 c2,.bool m2,.slice d2 e2 f2]) (fun hF=>?_) rfl (fun hF=>⟨_,_,_,_,_,_,_,rfl,hF.r 1 rfl,hF.be⟩)
 ·have e0:=hF.c 2 0;have e1:=hF.c 2 1;have e2:=hF.c 2 2;simp [results,Tryz.results148,go_sem,e0,e1,e2]
theorem ch1_no (a1:OA) (n1 c1:Nat) (m1:Bool) (d1:OA) (e1 f1:Nat) (q1:Rat) (a2:OA) (n2 c2:Nat) (m2:Bool) (d2:OA) (e2 f2:Nat) (q2:Rat) (w:World) (h1:Rd w (.slice a1 n1 c1) m1 (.slice d1 e1 f1) q1) (h2:Rd w (.slice a2 n2 c2) m2 (.slice d2 e2 f2) q2) (k1 k2:Nat) (b1:Bq k1 q1) (b2:Bq k2 q2) (hk1:k1<=40000) (hk2:k2<=40000) (way:Int) (bw:Nat) (hbw:bw < w.heap.size) (hw:w.cell? ⟨bw,0,none⟩=some (.int .i64 way)) (c:Int) (hc:cmpQ q2 q1=c) (hi:(c==way)=false):
  Calls Tryz.prog 148 #[.agg #[.slice a1 n1 c1,.bool m1,.slice d1 e1 f1],.agg #[.slice a2 n2 c2,.bool m2,.slice d2 e2 f2],.pointer (some ⟨bw,0,none⟩)] w (RetR w q1):=by
 have HC:=ζ hc;have HW:=ζ hw;have AZ:=ζ hbw;clear hc hw hbw;have B1:=ζ b1;have B2:=ζ b2;clear b1 b2;have hC:=ζ ((((((St.enter w).pr h1).pr h2).al (w.heap.size) #[.slice a1 n1 c1,.bool m1,.slice d1 e1 f1] 72 rfl rfl).al (w.heap.size+1) #[.slice a2 n2 c2,.bool m2,.slice d2 e2 f2] 72 (by simp) rfl).al (w.heap.size+2) zR 72 (by simp) rfl);clear h1 h2;go_enter Tryz.func148,Tryz.ntmps148;go_wp2;go_region_held3 (fun w'=>w'.cell? ⟨w.heap.size,0,none⟩=some (.slice a1 n1 c1)/\w'.cell? ⟨w.heap.size,1,none⟩=some (.bool m1)/\w'.cell? ⟨w.heap.size,2,none⟩=some (.slice d1 e1 f1)/\w'.cell? ⟨w.heap.size+1,0,none⟩=some (.slice a2 n2 c2)/\w'.cell? ⟨w.heap.size+1,1,none⟩=some (.bool m2)/\w'.cell? ⟨w.heap.size+1,2,none⟩=some (.slice d2 e2 f2)/\w'.cell? ⟨bw,0,none⟩=some (.int .i64 way))
  (first
   | (with_reducible refine And.intro (?_:World.cell? w3 _=_) ?_;exact AA.out.c 0 0;exact⟨AA.out.c 0 1,AA.out.c 0 2,AA.out.c 1 0,AA.out.c 1 1,AA.out.c 1 2,(AA.out.be.cell (p:=⟨bw,0,none⟩) AZ.out).trans HW.out⟩)
   | (with_reducible refine And.intro (?_:World.cell? _ _=_) ?_;exact hC.out.drew.c 0 0;exact⟨hC.out.drew.c 0 1,hC.out.drew.c 0 2,hC.out.drew.c 1 0,hC.out.drew.c 1 1,hC.out.drew.c 1 2,(hC.out.drew.be.cell (p:=⟨bw,0,none⟩) AZ.out).trans HW.out⟩))
  (first
   | (have _t:=hC;go_at_call 19;refine(rcmp_b (hC.out.drew.r 1 rfl) (hC.out.drew.r 0 rfl) B2.out B1.out (by omega) (by omega)).mono ?_;rintro e w3 ⟨rfl,hb⟩;have AA:=ζ (hC.out.drew.call hb);clear hb;rw [HC.out];clear _t hC)
   | fail)
 have AB:=AA.out.c 0 0;have AC:=AA.out.f 0 0;have AD:=AA.out.c 0 1;have AE:=AA.out.f 0 1;have AF:=AA.out.c 0 2;have AG:=AA.out.f 0 2;have AT:=AA.out.c 2 0;have AU:=AA.out.f 2 0;have AV:=AA.out.c 2 1;have AW:=AA.out.f 2 1;have AX:=AA.out.c 2 2;have AY:=AA.out.f 2 2;go_wp2;refine ret_st (AA.out|>.t3 2 rfl) (v:= .agg #[.slice a1 n1 c1,.bool m1,.slice d1 e1 f1]) (fun hF=>?_) rfl (fun hF=>⟨_,_,_,_,_,_,_,rfl,hF.r 0 rfl,hF.be⟩)
 ·have e0:=hF.c 2 0;have e1:=hF.c 2 1;have e2:=hF.c 2 2;simp [results,Tryz.results148,go_sem,e0,e1,e2]
section
variable {w:World} {a1:OA} {n1 c1:Nat} {m1:Bool} {d1:OA} {e1 f1:Nat} {q1:Rat} {a2:OA} {n2 c2:Nat} {m2:Bool} {d2:OA} {e2 f2:Nat} {q2:Rat} {k1 k2:Nat}
def better (way:Int) (x y:Rat):Rat:=if cmpQ y x=way then y else x
theorem ch1_b (way:Int) (bw:Nat) (h1:Rd w (.slice a1 n1 c1) m1 (.slice d1 e1 f1) q1) (h2:Rd w (.slice a2 n2 c2) m2 (.slice d2 e2 f2) q2) (b1:Bq k1 q1) (b2:Bq k2 q2) (hk1:k1<=40000) (hk2:k2<=40000) (hbw:bw < w.heap.size) (hw:w.cell? ⟨bw,0,none⟩=some (.int .i64 way)):
  Calls Tryz.prog 148 #[.agg #[.slice a1 n1 c1,.bool m1,.slice d1 e1 f1],.agg #[.slice a2 n2 c2,.bool m2,.slice d2 e2 f2],.pointer (some ⟨bw,0,none⟩)] w (RetR w (better way q1 q2)):=by
 unfold better;by_cases h:cmpQ q2 q1=way
 ·rw [if_pos h];exact ch1_yes _ _ _ _ _ _ _ _ _ _ _ _ _ _ _ _ _ h1 h2 k1 k2 b1 b2 hk1 hk2 way bw hbw hw _ rfl (by simp [h])
 ·rw [if_neg h];exact ch1_no _ _ _ _ _ _ _ _ _ _ _ _ _ _ _ _ _ h1 h2 k1 k2 b1 b2 hk1 hk2 way bw hbw hw _ rfl (by simpa using h)
end
theorem fold_ch (a:OA) (c:Nat) (qs:List Rat) (w:World) (h:RowR w (.slice a qs.length c) qs) (way:Int) (bw:Nat) (hbw:bw < w.heap.size) (hw:w.cell? ⟨bw,0,none⟩=some (.int .i64 way)) (N:Nat) (hB:∀q∈qs,Bq N q) (B:Nat->Nat) (hb:∀k,k<=qs.length->Bq (B k) (foldQ (better way) (qs.take k))/\B k<=40000) (hN:N<=40000) (hl:qs.length<=1000):
  Calls Tryz.prog 147 #[.slice a qs.length c,.func (Fn.func 148) #[] #[.pointer (some ⟨bw,0,none⟩)]] w (RetR w (foldQ (better way) qs)):=by
 have HR:=ζ h;have HB:=ζ hB;have A7:=ζ hb;have HW:=ζ hw;have AZ:=ζ hbw;clear hw hbw;clear h hB hb;have hC:=ζ (((St.enter w).al (w.heap.size) zR 72 rfl rfl).al (w.heap.size+1) zR 72 (by simp) rfl);go_enter Tryz.func147,Tryz.ntmps147;go_wp2;go_loopw [10] (fun iv wr=>∃ (k:Nat) (a1:OA) (n1 c1:Nat) (m1:Bool) (d1:OA) (e1 f1:Nat),k<=qs.length/\iv= .int .i64 k/\Hid (St w wr [(w.heap.size,zR,72),(w.heap.size+1,#[.slice a1 n1 c1,.bool m1,.slice d1 e1 f1],72)] [fun V=>Rd V (.slice a1 n1 c1) m1 (.slice d1 e1 f1) (foldQ (better way) (qs.take k))])) (fun i _=>qs.length - (intOf i).toNat)
 case atStart=>exact⟨0,none,0,0,false,none,0,0,by omega,rfl,hC.out.pr Rd.nil⟩
 case round=>
  clear hC;obtain ⟨k,a1,n1,c1,m1,d1,e1,f1,hk,rfl,hC⟩:=hrel;by_cases hlt:k < qs.length
  ·obtain ⟨_,_,hv,hrow⟩:=HR.out;simp only [Value.slice.injEq]at hv;obtain ⟨rfl,_,rfl⟩:=hv;obtain ⟨g,s,m,s',rfl,hg,hc0,hc1,hc2,hq⟩:=hrow k hlt;have x0:=(hC.out.be.cell (p:=⟨g,k*3,none⟩) hg).trans hc0;have x1:=(hC.out.be.cell (p:=⟨g,k*3+1,none⟩) hg).trans hc1;have x2:=(hC.out.be.cell (p:=⟨g,k*3+2,none⟩) hg).trans hc2;have hq':=hq.keep (Below.keeps hC.out.be);obtain ⟨a2,n2,c2,rfl⟩:=Sl.slice hq'.z.d;obtain ⟨d2,e2,f2,rfl⟩:=Sl.slice hq'.d;have A8:=ζ (hC.out.pr hq');have A0:=ζ (A8.out.al wr.heap.size #[.slice a2 n2 c2,.bool m,.slice d2 e2 f2] 72 rfl rfl);have HT:=ζ (show qs.take (k+1)=qs.take k++ [qs[k]]from List.take_succ_eq_append_getElem hlt);clear hrow hc0 hc1 hc2 hq hq';have AH:=hC.out.c 1 0;have AI:=hC.out.f 1 0;have AJ:=hC.out.c 1 1;have AK:=hC.out.f 1 1;have AL:=hC.out.c 1 2;have AM:=hC.out.f 1 2;have l0:=hC.out.lt 0 rfl;have l1:=hC.out.lt 1 rfl;clear hC;by_cases hk0:k=0
   ·subst hk0;have i0:(((0:Nat):Int)==0)=true:=rfl;go_wp2;go_roundw
    case rel=>
     refine⟨1,a2,n2,c2,m,d2,e2,f2,by omega,rfl,?_⟩;rw [HT.out,foldQ_snoc,if_pos (by simp)];exact ζ ((A8.out.set (j:=0) (v:= .slice a2 n2 c2) 1 rfl|>.set (j:=1) (v:= .bool m) 1 rfl|>.set (j:=2) (v:= .slice d2 e2 f2) 1 rfl).row.pick [1] rfl)
    case measure=>simp [intOf];omega
   ·have i0:(((k:Nat):Int)==0)=false:=(by simp;omega);have A9:=ζ hk0;clear hk0;go_wp2_with fail
    refine(ch1_b way bw (A0.out.r 0 rfl) (A0.out.r 1 rfl) (A7.out k hk).1 (HB.out qs[k] (List.getElem_mem hlt)) (A7.out k hk).2 hN (Nat.lt_of_lt_of_le AZ.out A0.out.be.size) ((A0.out.be.cell (p:=⟨bw,0,none⟩) AZ.out).trans HW.out)).mono ?_;rintro e w3 ⟨a3,n3,c3,m3,d3,e3,f3,rfl,hz,hb⟩;have AA:=ζ ((A0.out.call hb).pr hz);clear A0 hz hb x0 x1 x2 AH AJ AL AI AK AM l0 l1;have AN:=AA.out.c 1 0;have AO:=AA.out.f 1 0;have AP:=AA.out.c 1 1;have AQ:=AA.out.f 1 1;have AR:=AA.out.c 1 2;have AS:=AA.out.f 1 2;go_wp2;go_roundw
    case rel=>
     refine⟨k+1,a3,n3,c3,m3,d3,e3,f3,by omega,by go_num,?_⟩;rw [HT.out,foldQ_snoc,if_neg (by have:=A9.out;intro e;have:=congrArg List.length e;rw [List.length_take]at this;simp only [List.length_nil]at this;omega)];exact ζ (((AA.out.set (j:=0) (v:= .slice a3 n3 c3) 1 rfl|>.set (j:=1) (v:= .bool m3) 1 rfl|>.set (j:=2) (v:= .slice d3 e3 f3) 1 rfl).bpick [0,1] (by decide) rfl).pick [2] rfl)
    case measure=>simp [intOf];omega
  ·obtain rfl:k=qs.length:=by omega
   have A1:=hC.out.c 0 0;have A2:=hC.out.f 0 0;have A3:=hC.out.c 0 1;have A4:=hC.out.f 0 1;have A5:=hC.out.c 0 2;have A6:=hC.out.f 0 2;have AH:=hC.out.c 1 0;have AI:=hC.out.f 1 0;have AJ:=hC.out.c 1 1;have AK:=hC.out.f 1 1;have AL:=hC.out.c 1 2;have AM:=hC.out.f 1 2;go_wp2;refine ret_st (hC.out|>.t3 0 rfl) (v:= .agg #[.slice a1 n1 c1,.bool m1,.slice d1 e1 f1]) (fun hF=>?_) rfl (fun hF=>⟨_,_,_,_,_,_,_,rfl,(by have:=hF.r 0 rfl;rwa [List.take_length]at this),hF.be⟩)
   ·have e0:=hF.c 0 0;have e1:=hF.c 0 1;have e2:=hF.c 0 2;simp [results,Tryz.results147,go_sem,e0,e1,e2]
theorem better_bd {N:Nat} {way:Int} :∀ (qs:List Rat),(∀q∈qs,Bq N q)->∀k,k<=qs.length->Bq (N+1) (foldQ (better way) (qs.take k))
 | qs,_,0,_=>by rw [List.take_zero];exact Bq.zero
 | qs,h,k+1,hk=>by
   have ih:=better_bd (way:=way) qs h k (by omega);have hq:=h qs[k] (List.getElem_mem (by omega));rw [List.take_succ_eq_append_getElem (by omega),foldQ_snoc]
   split
   ·exact hq.mono (by omega)
   ·unfold better
    split
    ·exact hq.mono (by omega)
    ·exact ih
theorem chosen_any (a:OA) (c:Nat) (qs:List Rat) (w:World) (h:RowR w (.slice a qs.length c) qs) (N:Nat) (hB:∀q∈qs,Bq N q) (hN:N<=1000) (hl:qs.length<=35) (way:Int):
  Calls Tryz.prog 107 #[.slice a qs.length c,.int .i64 way] w (RetR w (foldQ (better way) qs)):=by
 have hC:=ζ ((((St.enter w).row (o:= .cells #[.int .i64 way] 3)).al (w.heap.size+1) zR 72 (by simp) rfl));have Ab:=ζ (((Box.new w (.int .i64 way) 3).alloc (.cells #[.slice none 0 0,.bool false,.slice none 0 0] 72)).cell);have Ac:=ζ (show w.heap.size < ((w.alloc (.cells #[.int .i64 way] 3)).alloc (.cells #[.slice none 0 0,.bool false,.slice none 0 0] 72)).heap.size by simp;omega);have HR:=ζ (h.mono hC.out.be);have HB:=ζ hB;clear h hB;go_enter Tryz.func107,Tryz.ntmps107;go_wp2_with fail
 refine(fold_ch a c qs _ HR.out way w.heap.size Ac.out Ab.out N HB.out (fun _=>N+1) (fun k hk=>⟨better_bd qs HB.out k hk,by omega⟩) (by omega) (by omega)).mono ?_;rintro e w3 ⟨a3,n3,c3,m3,d3,e3,f3,rfl,hz,hb⟩;have AA:=ζ ((hC.out.call hb).pr hz);clear hb hz;have AB:=AA.out.c 0 0;have AC:=AA.out.f 0 0;have AD:=AA.out.c 0 1;have AE:=AA.out.f 0 1;have AF:=AA.out.c 0 2;have AG:=AA.out.f 0 2;clear hC;go_wp2;refine ret_st (AA.out|>.t3 0 rfl) (v:= .agg #[.slice a3 n3 c3,.bool m3,.slice d3 e3 f3]) (fun hF=>?_) rfl (fun hF=>⟨_,_,_,_,_,_,_,rfl,hF.r 0 rfl,hF.be⟩)
 ·have e0:=hF.c 0 0;have e1:=hF.c 0 1;have e2:=hF.c 0 2;simp [results,Tryz.results107,go_sem,e0,e1,e2]
theorem min_any (a:OA) (c:Nat) (qs:List Rat) (w:World) (h:RowR w (.slice a qs.length c) qs) (N:Nat) (hB:∀q∈qs,Bq N q) (hN:N<=1000) (hl:qs.length<=35):
  Calls Tryz.prog 115 #[.slice a qs.length c] w (RetR w (foldQ (better (-1)) qs)):=by
 have hC:=ζ ((St.enter w).al (w.heap.size) zR 72 rfl rfl);have HR:=ζ (h.mono hC.out.be);have HB:=ζ hB;clear h hB;go_enter Tryz.func115,Tryz.ntmps115;go_wp2_with fail
 refine(chosen_any a c qs _ HR.out N HB.out hN hl (-1)).mono ?_;rintro e w3 ⟨a3,n3,c3,m3,d3,e3,f3,rfl,hz,hb⟩;have AA:=ζ ((hC.out.call hb).pr hz);clear hb hz;have AB:=AA.out.c 0 0;have AC:=AA.out.f 0 0;have AD:=AA.out.c 0 1;have AE:=AA.out.f 0 1;have AF:=AA.out.c 0 2;have AG:=AA.out.f 0 2;clear hC;go_wp2;refine ret_st (AA.out|>.t3 0 rfl) (v:= .agg #[.slice a3 n3 c3,.bool m3,.slice d3 e3 f3]) (fun hF=>?_) rfl (fun hF=>⟨_,_,_,_,_,_,_,rfl,hF.r 0 rfl,hF.be⟩)
 ·have e0:=hF.c 0 0;have e1:=hF.c 0 1;have e2:=hF.c 0 2;simp [results,Tryz.results115,go_sem,e0,e1,e2]
theorem max_any (a:OA) (c:Nat) (qs:List Rat) (w:World) (h:RowR w (.slice a qs.length c) qs) (N:Nat) (hB:∀q∈qs,Bq N q) (hN:N<=1000) (hl:qs.length<=35):
  Calls Tryz.prog 51 #[.slice a qs.length c] w (RetR w (foldQ (better 1) qs)):=by
 have hC:=ζ ((St.enter w).al (w.heap.size) zR 72 rfl rfl);have HR:=ζ (h.mono hC.out.be);have HB:=ζ hB;clear h hB;go_enter Tryz.func51,Tryz.ntmps51;go_wp2_with fail
 refine(chosen_any a c qs _ HR.out N HB.out hN hl 1).mono ?_;rintro e w3 ⟨a3,n3,c3,m3,d3,e3,f3,rfl,hz,hb⟩;have AA:=ζ ((hC.out.call hb).pr hz);clear hb hz;have AB:=AA.out.c 0 0;have AC:=AA.out.f 0 0;have AD:=AA.out.c 0 1;have AE:=AA.out.f 0 1;have AF:=AA.out.c 0 2;have AG:=AA.out.f 0 2;clear hC;go_wp2;refine ret_st (AA.out|>.t3 0 rfl) (v:= .agg #[.slice a3 n3 c3,.bool m3,.slice d3 e3 f3]) (fun hF=>?_) rfl (fun hF=>⟨_,_,_,_,_,_,_,rfl,hF.r 0 rfl,hF.be⟩)
 ·have e0:=hF.c 0 0;have e1:=hF.c 0 1;have e2:=hF.c 0 2;simp [results,Tryz.results51,go_sem,e0,e1,e2]
theorem qR5_0 {P_:Prop} (h:P_:=by exact⟨Yx.c 0 0,Yx.c 0 1,Yx.c 0 2,trivial⟩):P_:=h
theorem rfloor_any (a1:OA) (n1 c1:Nat) (m1:Bool) (d1:OA) (e1 f1:Nat) (q1:Rat) (w:World) (h1:Rd w (.slice a1 n1 c1) m1 (.slice d1 e1 f1) q1) (k1:Nat) (b1:Bq k1 q1) (hk1:k1<=40000):
  Calls Tryz.prog 60 #[.agg #[.slice a1 n1 c1,.bool m1,.slice d1 e1 f1]] w (RetZ w (q1.num / (q1.den:Int))):=by
 have B1:=ζ b1;clear b1;have hC:=ζ ((((St.enter w).pr h1).al (w.heap.size) #[.slice a1 n1 c1,.bool m1,.slice d1 e1 f1] 72 rfl rfl).al (w.heap.size+1) #[.slice none 0 0,.bool false] 70 (by simp) rfl);clear h1;go_enter Tryz.func60,Tryz.ntmps60;go_upto_region 1 with fail
 go_cut [3] (fun s3 wx=>∃bx a4 n4 c4 m4,s3= .pointer (some ⟨bx,0,none⟩)/\Hid (St w wx [(w.heap.size,#[.slice a1 n1 c1,.bool m1,.slice d1 e1 f1],72),(w.heap.size+1,#[.slice none 0 0,.bool false],70),(bx,#[.slice a4 n4 c4,.bool m4],70)] [fun V=>Zd V (.slice a4 n4 c4) m4 (q1.num / (q1.den:Int))]))
 case first=>
  refine wp_gen hC.out ?_;intro W1 hc;clear hC;have hC:=ζ hc;have AC:=ζ (show k1<=1000000 by omega);have HD:=ζ (den_ne q1);clear hc;go_region_held3 (fun w'=>w'.cell? ⟨w.heap.size,0,none⟩=some (.slice a1 n1 c1)/\w'.cell? ⟨w.heap.size,1,none⟩=some (.bool m1)/\w'.cell? ⟨w.heap.size,2,none⟩=some (.slice d1 e1 f1)/\True)
   (first
    | (with_reducible refine aG (World.setCell (World.setCell (World.setCell (World.setCell (World.alloc (World.alloc wb _) _) _ _) _ _) _ _) _ _) ?_;refine aH ((((AA.out.al (wb.heap.size) #[.slice none 0 0,.bool false] 70 rfl rfl).al (wb.heap.size+1) #[.slice none 0 0,.bool false] 70 (by simp) rfl)|>.t2 2 rfl)|>.t2 3 rfl) (fun Yx=>?_);exact qR5_0)
    | (with_reducible refine aG (World.setCell (World.setCell (World.setCell (World.setCell (World.alloc (World.alloc wb _) _) _ _) _ _) _ _) _ _) ?_;refine aH ((((AA.out.al (wb.heap.size) #[.slice none 0 0,.bool false] 70 rfl rfl).al (wb.heap.size+1) #[.slice none 0 0,.bool false] 70 (by simp) rfl)|>.t2 3 rfl)|>.t2 2 rfl) (fun Yx=>?_);exact qR5_0)
    | (with_reducible refine aG (World.setCell (World.setCell (World.setCell (World.setCell (World.alloc wb _) _ _) _ _) _ _) _ _) ?_;refine aH (((AA.out.al (wb.heap.size) #[.slice none 0 0,.bool false] 70 rfl rfl)|>.t2 2 rfl)|>.t2 3 rfl) (fun Yx=>?_);exact qR5_0)
    | (with_reducible refine aG (World.setCell (World.setCell (World.setCell (World.setCell (World.alloc wb _) _ _) _ _) _ _) _ _) ?_;refine aH (((AA.out.al (wb.heap.size) #[.slice none 0 0,.bool false] 70 rfl rfl)|>.t2 3 rfl)|>.t2 2 rfl) (fun Yx=>?_);exact qR5_0)
    | (with_reducible refine aG (World.alloc (World.setCell (World.setCell (World.alloc (World.alloc wb _) _) _ _) _ _) _) ?_;refine aH ((((AA.out.al (wb.heap.size) #[.slice none 0 0,.bool false] 70 rfl rfl).al (wb.heap.size+1) #[.slice none 0 0,.bool false] 70 (by simp) rfl)|>.t2 2 rfl).row) (fun Yx=>?_);exact qR5_0)
    | (with_reducible refine aG (World.alloc (World.setCell (World.setCell (World.alloc (World.alloc wb _) _) _ _) _ _) _) ?_;refine aH ((((AA.out.al (wb.heap.size) #[.slice none 0 0,.bool false] 70 rfl rfl).al (wb.heap.size+1) #[.slice none 0 0,.bool false] 70 (by simp) rfl)|>.t2 3 rfl).row) (fun Yx=>?_);exact qR5_0)
    | (with_reducible refine aG (World.setCell (World.setCell (World.setCell (World.setCell wb _ _) _ _) _ _) _ _) ?_;refine aH ((AA.out|>.t2 2 rfl)|>.t2 3 rfl) (fun Yx=>?_);exact qR5_0)
    | (with_reducible refine aG (World.setCell (World.setCell (World.setCell (World.setCell wb _ _) _ _) _ _) _ _) ?_;refine aH ((AA.out|>.t2 3 rfl)|>.t2 2 rfl) (fun Yx=>?_);exact qR5_0)
    | (with_reducible refine aG (World.alloc (World.setCell (World.setCell (World.alloc wb _) _ _) _ _) _) ?_;refine aH (((AA.out.al (wb.heap.size) #[.slice none 0 0,.bool false] 70 rfl rfl)|>.t2 2 rfl).row) (fun Yx=>?_);exact qR5_0)
    | (with_reducible refine aG (World.alloc (World.setCell (World.setCell (World.alloc wb _) _ _) _ _) _) ?_;refine aH (((AA.out.al (wb.heap.size) #[.slice none 0 0,.bool false] 70 rfl rfl)|>.t2 3 rfl).row) (fun Yx=>?_);exact qR5_0)
    | (with_reducible refine aG (World.setCell (World.setCell (World.alloc (World.alloc wb _) _) _ _) _ _) ?_;refine aH (((AA.out.al (wb.heap.size) #[.slice none 0 0,.bool false] 70 rfl rfl).al (wb.heap.size+1) #[.slice none 0 0,.bool false] 70 (by simp) rfl)|>.t2 2 rfl) (fun Yx=>?_);exact qR5_0)
    | (with_reducible refine aG (World.setCell (World.setCell (World.alloc (World.alloc wb _) _) _ _) _ _) ?_;refine aH (((AA.out.al (wb.heap.size) #[.slice none 0 0,.bool false] 70 rfl rfl).al (wb.heap.size+1) #[.slice none 0 0,.bool false] 70 (by simp) rfl)|>.t2 3 rfl) (fun Yx=>?_);exact qR5_0)
    | (with_reducible refine aG (World.alloc (World.setCell (World.setCell wb _ _) _ _) _) ?_;refine aH ((AA.out|>.t2 2 rfl).row) (fun Yx=>?_);exact qR5_0)
    | (with_reducible refine aG (World.alloc (World.setCell (World.setCell wb _ _) _ _) _) ?_;refine aH ((AA.out|>.t2 3 rfl).row) (fun Yx=>?_);exact qR5_0)
    | (with_reducible refine aG (World.setCell (World.setCell (World.alloc wb _) _ _) _ _) ?_;refine aH ((AA.out.al (wb.heap.size) #[.slice none 0 0,.bool false] 70 rfl rfl)|>.t2 2 rfl) (fun Yx=>?_);exact qR5_0)
    | (with_reducible refine aG (World.setCell (World.setCell (World.alloc wb _) _ _) _ _) ?_;refine aH ((AA.out.al (wb.heap.size) #[.slice none 0 0,.bool false] 70 rfl rfl)|>.t2 3 rfl) (fun Yx=>?_);exact qR5_0)
    | (with_reducible refine aG (World.setCell (World.setCell wb _ _) _ _) ?_;refine aH (AA.out|>.t2 2 rfl) (fun Yx=>?_);exact qR5_0)
    | (with_reducible refine aG (World.setCell (World.setCell wb _ _) _ _) ?_;refine aH (AA.out|>.t2 3 rfl) (fun Yx=>?_);exact qR5_0)
    | (with_reducible refine aG (World.alloc (World.alloc wb _) _) ?_;have Yx:=(AA.out.al (wb.heap.size) #[.slice none 0 0,.bool false] 70 rfl rfl).al (wb.heap.size+1) #[.slice none 0 0,.bool false] 70 (by simp) rfl;exact qR5_0)
    | (with_reducible refine aG (World.alloc wb _) ?_;have Yx:=AA.out.al (wb.heap.size) #[.slice none 0 0,.bool false] 70 rfl rfl;exact qR5_0)
    | (with_reducible refine aG wb ?_;have Yx:=AA.out;exact qR5_0)
    | (with_reducible refine aG (World.alloc (World.alloc wa _) _) ?_;have Yx:=(AB.out.al (wa.heap.size) #[.slice none 0 0,.bool false] 70 rfl rfl).al (wa.heap.size+1) #[.slice none 0 0,.bool false] 70 (by simp) rfl;exact qR5_0)
    | (with_reducible refine aG (World.alloc wa _) ?_;have Yx:=AB.out.al (wa.heap.size) #[.slice none 0 0,.bool false] 70 rfl rfl;exact qR5_0)
    | (with_reducible refine aG wa ?_;have Yx:=AB.out;exact qR5_0)
    | (with_reducible refine aG (World.drew (World.alloc (World.alloc W1 _) _)) ?_;have Yx:=((hC.out.al (W1.heap.size) #[.slice none 0 0,.bool false] 70 rfl rfl).al (W1.heap.size+1) #[.slice none 0 0,.bool false] 70 (by simp) rfl).drew;exact qR5_0)
    | (with_reducible refine aG (World.drew (World.alloc W1 _)) ?_;have Yx:=(hC.out.al (W1.heap.size) #[.slice none 0 0,.bool false] 70 rfl rfl).drew;exact qR5_0)
    | (with_reducible refine aG (World.drew W1) ?_;have Yx:=hC.out.drew;exact qR5_0)
    | (with_reducible refine aG (World.alloc (World.alloc wb _) _) ?_;refine aH (AA.out.row.row) (fun Yx=>?_);exact qR5_0)
    | (with_reducible refine aG (World.alloc wb _) ?_;refine aH (AA.out.row) (fun Yx=>?_);exact qR5_0)|fail)
   (first
    | (have _t:=AB;go_at_call 116;(first | (have P:=(AB.out.r 0 rfl).z;have P2:=AB.out.z 1 rfl;(with_reducible refine(quo_b P P2 HD.out B1.out.num B1.out.den AC.out AC.out).mono ?_);rintro e wb ⟨a4,n4,c4,m4,a5,n5,c5,m5,rfl,hz,hr,hb⟩;have AA:=ζ ((AB.out.call hb).pz hz);clear hz hb P P2 hr) | (have P:=((AB.out.al (wa.heap.size) #[.slice none 0 0,.bool false] 70 rfl rfl).r 0 rfl).z;have P2:=(AB.out.al (wa.heap.size) #[.slice none 0 0,.bool false] 70 rfl rfl).z 1 rfl;(with_reducible refine(quo_b P P2 HD.out B1.out.num B1.out.den AC.out AC.out).mono ?_);rintro e wb ⟨a4,n4,c4,m4,a5,n5,c5,m5,rfl,hz,hr,hb⟩;have AA:=ζ (((AB.out.al (wa.heap.size) #[.slice none 0 0,.bool false] 70 rfl rfl).call hb).pz hz);clear hz hb P P2 hr) | (have P:=(((AB.out.al (wa.heap.size) #[.slice none 0 0,.bool false] 70 rfl rfl).al (wa.heap.size+1) #[.slice none 0 0,.bool false] 70 (by simp) rfl).r 0 rfl).z;have P2:=((AB.out.al (wa.heap.size) #[.slice none 0 0,.bool false] 70 rfl rfl).al (wa.heap.size+1) #[.slice none 0 0,.bool false] 70 (by simp) rfl).z 1 rfl;(with_reducible refine(quo_b P P2 HD.out B1.out.num B1.out.den AC.out AC.out).mono ?_);rintro e wb ⟨a4,n4,c4,m4,a5,n5,c5,m5,rfl,hz,hr,hb⟩;have AA:=ζ ((((AB.out.al (wa.heap.size) #[.slice none 0 0,.bool false] 70 rfl rfl).al (wa.heap.size+1) #[.slice none 0 0,.bool false] 70 (by simp) rfl).call hb).pz hz);clear hz hb P P2 hr));(try have c20:=AA.out.c 2 0);(try have c21:=AA.out.c 2 1);(try have c30:=AA.out.c 3 0);(try have c31:=AA.out.c 3 1);(try have f20:=AA.out.f 2 0);(try have f21:=AA.out.f 2 1);(try have f30:=AA.out.f 3 0);(try have f31:=AA.out.f 3 1);(try have l2:=AA.out.lt 2 rfl);(try have l3:=AA.out.lt 3 rfl);(try have l23:=AA.out.apart 2 3 rfl rfl (by omega));(try have l32:=(AA.out.apart 2 3 rfl rfl (by omega)).symm);clear _t AB)
    | (have _t:=hC;go_at_call 55;(first | (have P:=(hC.out.drew).r 0 rfl;(with_reducible refine(bottom_b P B1.out AC.out).mono ?_);rintro e wa ⟨a3,n3,c3,m3,rfl,hz,hb⟩;have AB:=ζ ((hC.out.drew.call hb).pz hz);clear hz hb P) | (have P:=((hC.out.al (W1.heap.size) #[.slice none 0 0,.bool false] 70 rfl rfl).drew).r 0 rfl;(with_reducible refine(bottom_b P B1.out AC.out).mono ?_);rintro e wa ⟨a3,n3,c3,m3,rfl,hz,hb⟩;have AB:=ζ (((hC.out.al (W1.heap.size) #[.slice none 0 0,.bool false] 70 rfl rfl).drew.call hb).pz hz);clear hz hb P) | (have P:=(((hC.out.al (W1.heap.size) #[.slice none 0 0,.bool false] 70 rfl rfl).al (W1.heap.size+1) #[.slice none 0 0,.bool false] 70 (by simp) rfl).drew).r 0 rfl;(with_reducible refine(bottom_b P B1.out AC.out).mono ?_);rintro e wa ⟨a3,n3,c3,m3,rfl,hz,hb⟩;have AB:=ζ ((((hC.out.al (W1.heap.size) #[.slice none 0 0,.bool false] 70 rfl rfl).al (W1.heap.size+1) #[.slice none 0 0,.bool false] 70 (by simp) rfl).drew.call hb).pz hz);clear hz hb P));clear _t hC)
    | fail)
  all_goals (go_wp2_with fail;go_meet)
  all_goals (first
   | (refine⟨_,a4,n4,c4,m4,rfl,?_⟩;(with_reducible refine(?_:Hid (St w (World.alloc (World.alloc wb _) _) _ _)));exact ζ (St.pick (St.bpick ((AA.out.al (wb.heap.size) #[.slice a4 n4 c4,.bool m4] 70 rfl rfl).al (wb.heap.size+1) #[.slice a5 n5 c5,.bool m5] 70 (by simp) rfl) [0,1,2] (by decide) rfl) [2] rfl))
   | (refine⟨_,a4,n4,c4,m4,rfl,?_⟩;(with_reducible refine(?_:Hid (St w (World.alloc (World.setCell (World.setCell wb _ _) _ _) _) _ _)));exact ζ (St.pick (St.bpick ((AA.out|>.t2 2 rfl).al (wb.heap.size) #[.slice a5 n5 c5,.bool m5] 70 (by simp [World.setCell]) rfl) [0,1,2] (by decide) rfl) [2] rfl))
   | (refine⟨_,a4,n4,c4,m4,rfl,?_⟩;(with_reducible refine(?_:Hid (St w (World.alloc (World.alloc wb _) _) _ _)));exact ζ (St.pick (St.bpick ((AA.out.al (wb.heap.size) #[.slice a5 n5 c5,.bool m5] 70 rfl rfl).al (wb.heap.size+1) #[.slice a4 n4 c4,.bool m4] 70 (by simp) rfl) [0,1,3] (by decide) rfl) [2] rfl))
   | (refine⟨_,a4,n4,c4,m4,rfl,?_⟩;(with_reducible refine(?_:Hid (St w (World.alloc (World.setCell (World.setCell wb _ _) _ _) _) _ _)));exact ζ (St.pick (St.bpick ((AA.out|>.t2 2 rfl).al (wb.heap.size) #[.slice a4 n4 c4,.bool m4] 70 (by simp [World.setCell]) rfl) [0,1,3] (by decide) rfl) [2] rfl))
   | (refine⟨_,a4,n4,c4,m4,rfl,?_⟩;(with_reducible refine(?_:Hid (St w (World.setCell (World.setCell (World.setCell (World.setCell wb _ _) _ _) _ _) _ _) _ _)));exact ζ (St.pick (St.bpick ((AA.out|>.t2 2 rfl)|>.t2 3 rfl) [0,1,2] (by decide) rfl) [2] rfl))
   | (refine⟨_,a4,n4,c4,m4,rfl,?_⟩;(with_reducible refine(?_:Hid (St w (World.setCell (World.setCell (World.setCell (World.setCell wb _ _) _ _) _ _) _ _) _ _)));exact ζ (St.pick (St.bpick ((AA.out|>.t2 3 rfl)|>.t2 2 rfl) [0,1,3] (by decide) rfl) [2] rfl)))
 case rest=>
  obtain ⟨bx,a4,n4,c4,m4,rfl,hD⟩:=hcut;clear hC;have AI:=hD.out.c 1 0;have AJ:=hD.out.f 1 0;have AK:=hD.out.c 1 1;have AL:=hD.out.f 1 1;have AM:=hD.out.c 2 0;have AN:=hD.out.f 2 0;have AO:=hD.out.c 2 1;have AP:=hD.out.f 2 1;go_wp2;refine ret_st (hD.out|>.t2 1 rfl) (v:= .agg #[.slice a4 n4 c4,.bool m4]) (fun hF=>?_) rfl (fun hF=>⟨_,_,_,_,rfl,hF.z 0 rfl,hF.be⟩)
  ·have e0:=hF.c 1 0;have e1:=hF.c 1 1;simp [results,Tryz.results60,go_sem,e0,e1]
section
variable {w:World} {a1:OA} {n1 c1:Nat} {m1:Bool} {d1:OA} {e1 f1:Nat} {q1:Rat} {k1:Nat}
theorem rfloor_b (h1:Rd w (.slice a1 n1 c1) m1 (.slice d1 e1 f1) q1) (b1:Bq k1 q1) (hk1:k1<=40000):
  Calls Tryz.prog 60 #[.agg #[.slice a1 n1 c1,.bool m1,.slice d1 e1 f1]] w (RetZ w q1.floor):=by
 rw [<-floor_eq];exact rfloor_any _ _ _ _ _ _ _ _ _ h1 k1 b1 hk1
end
theorem rceil_any (a1:OA) (n1 c1:Nat) (m1:Bool) (d1:OA) (e1 f1:Nat) (q1:Rat) (w:World) (h1:Rd w (.slice a1 n1 c1) m1 (.slice d1 e1 f1) q1) (k1:Nat) (b1:Bq k1 q1) (hk1:k1<=40000):
  Calls Tryz.prog 21 #[.agg #[.slice a1 n1 c1,.bool m1,.slice d1 e1 f1]] w (RetZ w (-((-q1).floor))):=by
 have B1:=ζ b1;clear b1;have hC:=ζ ((((St.enter w).pr h1).al (w.heap.size) #[.slice a1 n1 c1,.bool m1,.slice d1 e1 f1] 72 rfl rfl).al (w.heap.size+1) #[.slice none 0 0,.bool false] 70 (by simp) rfl);clear h1;go_enter Tryz.func21,Tryz.ntmps21;have AQ:=hC.out.c 0 0;have AR:=hC.out.f 0 0;have AS:=hC.out.c 0 1;have AT:=hC.out.f 0 1;have AU:=hC.out.c 0 2;have AV:=hC.out.f 0 2;go_wp2_with fail
 refine(rneg_b (hC.out.r 0 rfl)).mono ?_;rintro e w3 ⟨a3,n3,c3,m3,d3,e3,f3,rfl,hz,hb⟩;have AW:=ζ ((hC.out.call hb).pr hz);clear hb hz;clear hC;go_wp2_with fail
 refine(rfloor_b (AW.out.r 1 rfl) B1.out.neg (by omega)).mono ?_;rintro e w4 ⟨a4,n4,c4,m4,rfl,hz,hb⟩;have AX:=ζ ((AW.out.call hb).pz hz);clear hb hz;clear AW;go_wp2_with fail
 refine(neg_b (AX.out.z 2 rfl)).mono ?_;rintro e w5 ⟨a5,n5,c5,m5,rfl,hz,hb⟩;have AD:=ζ ((AX.out.call hb).pz hz);clear hb hz;have AE:=AD.out.c 1 0;have AF:=AD.out.f 1 0;have AG:=AD.out.c 1 1;have AH:=AD.out.f 1 1;clear AX;go_wp2;refine ret_st (AD.out|>.t2 1 rfl) (v:= .agg #[.slice a5 n5 c5,.bool m5]) (fun hF=>?_) rfl (fun hF=>⟨_,_,_,_,rfl,hF.z 3 rfl,hF.be⟩)
 ·have e0:=hF.c 1 0;have e1:=hF.c 1 1;simp [results,Tryz.results21,go_sem,e0,e1]
def rtext (q:Rat):List UInt8:=if q.den=1 then Dec.ztext q.num else Dec.ztext q.num++ [47]++Dec.ztext q.den
theorem rtext_one (a1:OA) (n1 c1:Nat) (m1:Bool) (d1:OA) (e1 f1:Nat) (q1:Rat) (w:World) (h1:Rd w (.slice a1 n1 c1) m1 (.slice d1 e1 f1) q1) (k1:Nat) (b1:Bq k1 q1) (hk1:k1<=40000) (hd:q1.den=1):
  Calls Tryz.prog 28 #[.agg #[.slice a1 n1 c1,.bool m1,.slice d1 e1 f1]] w (fun e w'=>e= .returned (.string ⟨(rtext q1).toArray⟩)/\Below w.heap.size w w'):=by
 have hn:=Sl.len h1.d;have e0:(e1=0)↔q1.den=1:=by
  rw [hn,List.length_eq_zero_iff,dg_nil_iff (b:=16777216) (by omega)];have:=q1.den_nz;omega
 have hl1:=ztext_len b1.num (by omega);have hl2:=ztext_len b1.den (by omega);have hn0:((e1:Int)==0)=true:=by simpa using e0.2 hd
 have HN:=ζ hn0;have HT:=ζ (show rtext q1=Dec.ztext q1.num from if_pos hd);clear hn0 hd e0 hn;have B1:=ζ b1;clear b1;have hC:=ζ (((St.enter w).pr h1).al (w.heap.size) #[.slice a1 n1 c1,.bool m1,.slice d1 e1 f1] 72 rfl rfl);clear h1;go_enter Tryz.func28,Tryz.ntmps28;have AF:=hC.out.c 0 2;have AG:=hC.out.f 0 2;go_wp2_with fail
 refine(none_any _ _ _ _).mono ?_;rintro e w3 ⟨rfl,hw⟩;have AA:=ζ (hC.out.call (W':=w3) (by rw [hw];exact(Below.refl _ _).alloc (Nat.le_refl _) _));clear hC hw;rw [HN.out];have AB:=AA.out.c 0 0;have AC:=AA.out.f 0 0;have AD:=AA.out.c 0 1;have AE:=AA.out.f 0 1;go_wp2_with fail
 refine(ztext_any _ _ _ _ _ _ (AA.out.r 0 rfl).z _ B1.out.num (by omega)).mono ?_;rintro e w4 ⟨rfl,hb⟩;have AH:=ζ ((AA.out.call hb));clear hb;clear AA;go_wp2;go_ret;exact⟨ret_str (by rw [HT.out]),AH.out.be⟩
structure Vd (w:World) (s:Value) (m:Bool) (s' t:Value) (p:Bool) (t':Value) (v:Rat×Rat):Prop where
 x:Rd w s m s' v.1
 y:Rd w t p t' v.2
theorem Vd.keep {w w':World} {s s' t t':Value} {m p:Bool} {v:Rat×Rat} (h:Vd w s m s' t p t' v) (hk:Keeps w w'):Vd w' s m s' t p t' v:=⟨h.x.keep hk,h.y.keep hk⟩
section
variable {w W:World} {bs:List (Nat×Array Value×TypeId)} {rs:List (World->Prop)}
theorem St.pv (h:St w W bs rs) {s s' t t':Value} {m p:Bool} {v:Rat×Rat} (hz:Vd W s m s' t p t' v):St w W bs (rs++ [fun V=>Vd V s m s' t p t' v]):=h.push (fun _ _ k hz=>hz.keep k) hz
theorem St.v (h:St w W bs rs) (i:Nat) {s s' t t':Value} {m p:Bool} {v:Rat×Rat} (hx:rs[i]? =some (fun V=>Vd V s m s' t p t' v)):Vd W s m s' t p t' v:=(h.rd _ (List.mem_of_getElem? hx)).2
end
section
variable {w:World} {a1:Option Addr} {n1 c1:Nat} {m1:Bool} {d1:Option Addr} {e1 f1:Nat} {q1:Rat} {a2:Option Addr} {n2 c2:Nat} {m2:Bool} {d2:Option Addr} {e2 f2:Nat} {q2:Rat} {k1 k2:Nat}
end
end
section
open Go.RowKit Go.Shelf Dig
theorem rowR_two {W:World} {g:Nat} {a1:Option Addr} {n1 c1:Nat} {m1:Bool} {d1:Option Addr} {e1 f1:Nat} {q1:Rat} {a2:Option Addr} {n2 c2:Nat} {m2:Bool} {d2:Option Addr} {e2 f2:Nat} {q2:Rat} (hg:g < W.heap.size) (h0:W.cell? ⟨g,0,none⟩=some (.slice a1 n1 c1)) (h1:W.cell? ⟨g,1,none⟩=some (.bool m1)) (h2:W.cell? ⟨g,2,none⟩=some (.slice d1 e1 f1))
  (h3:W.cell? ⟨g,3,none⟩=some (.slice a2 n2 c2)) (h4:W.cell? ⟨g,4,none⟩=some (.bool m2)) (h5:W.cell? ⟨g,5,none⟩=some (.slice d2 e2 f2)) (hy:Rd W (.slice a1 n1 c1) m1 (.slice d1 e1 f1) q1) (hz:Rd W (.slice a2 n2 c2) m2 (.slice d2 e2 f2) q2):
  RowR W (.slice (some ⟨g,0,none⟩) [q1,q2].length 2) [q1,q2]:=by
 refine⟨some ⟨g,0,none⟩,2,rfl,fun k hk=>?_⟩;rcases Nat.lt_or_ge k 1 with h | h
 ·obtain rfl:k=0:=by omega
  exact⟨g,_,_,_,rfl,hg,h0,h1,h2,hy⟩
 ·obtain rfl:k=1:=by simp at hk;omega
  exact⟨g,_,_,_,rfl,hg,h3,h4,h5,hz⟩
theorem max_two {w:World} {g:Nat} {q1 q2:Rat} (h:RowR w (.slice (some ⟨g,0,none⟩) [q1,q2].length 2) [q1,q2]) (b1:Bq 400 q1) (b2:Bq 400 q2):
  Calls Tryz.prog 51 #[.slice (some ⟨g,0,none⟩) 2 2] w (RetR w (topQ q1 q2)):=by
 have:=max_any (some ⟨g,0,none⟩) 2 [q1,q2] w h 400 (fun q hq=>by simp at hq;rcases hq with rfl | rfl<;>assumption) (by omega) (by simp);have e:foldQ (better 1) [q1,q2]=topQ q1 q2:=by
  show better 1 q1 q2=_;unfold better topQ cmpQ;by_cases h1:q2=q1
  ·rw [if_pos h1,h1];simp
  ·rw [if_neg h1];by_cases h2:q2 < q1
   ·rw [if_pos h2,if_neg (by decide),if_neg (by grind)]
   ·rw [if_neg h2,if_pos rfl,if_pos (by grind)]
 rw [e]at this;exact this
theorem min_two {w:World} {g:Nat} {q1 q2:Rat} (h:RowR w (.slice (some ⟨g,0,none⟩) [q1,q2].length 2) [q1,q2]) (b1:Bq 400 q1) (b2:Bq 400 q2):
  Calls Tryz.prog 115 #[.slice (some ⟨g,0,none⟩) 2 2] w (RetR w (minQ q1 q2)):=by
 have:=min_any (some ⟨g,0,none⟩) 2 [q1,q2] w h 400 (fun q hq=>by simp at hq;rcases hq with rfl | rfl<;>assumption) (by omega) (by simp);have e:foldQ (better (-1)) [q1,q2]=minQ q1 q2:=by
  show better (-1) q1 q2=_;unfold better minQ cmpQ;by_cases h1:q2=q1
  ·rw [if_pos h1,h1];simp
  ·rw [if_neg h1];by_cases h2:q2 < q1
   ·rw [if_pos h2,if_pos rfl,if_pos h2]
   ·rw [if_neg h2,if_neg (by decide),if_neg h2]
 rw [e]at this;exact this
section
variable (w:World)
end
def InZ (z:Int):Prop:= -300000<=z/\z<=300000
theorem InZ.i {z:Int} (h:InZ z):InI z:=by unfold InZ at h;unfold InI;omega
section
variable (w:World)
end
end
section
section
variable {n:Nat} {P:Program} {ops:Array Oper} {md:Region.Mode}
theorem wpIn_of_wpW {o:Oper} {a:Act} {K:Act->World->Prop} {Q:Exit->Act->World->Prop} {w:World} (_hnd:noDefer o=true) (h:o.wp P a w K Q):o.wpIn Fence.wide n P a w K Q:=by
 refine⟨fun f _=>trivial,?_⟩;rw [show Oper.semAt Fence.wide.round a.eval o=execOp a.eval o from rfl];unfold Oper.wp at h;generalize (execOp a.eval o).run P w=r at*;cases r with
 | ok x w'=>
   cases x with
   | value v=>exact h
   | skip=>exact h
   | defer d=>exact h
   | enter f args=>exact⟨fun h0=>(by cases h0),callsIn_wide.2 h⟩
   | row row args=>exact⟨fun h0=>(by cases h0),fun c cs _=>let ⟨v,w',r,s⟩:=h c cs;⟨v,w',r,stepsIn_wide.2 s⟩⟩
   | _=>exact h.elim
 | halt x w'=>
   cases x<;>exact h
theorem wpAnyIn_of_anyW {Q:Exit->Act->World->Prop} (hnd:ops.all noDefer=true) (hlo:¬ LetsOut Q):∀ (fuel:Nat) (listed:Array Bool) (a:Act) (w:World),wpAny P md ops Q fuel listed a w->wpAnyIn Fence.wide n P md ops Q fuel listed a w
 | 0,_,_,_,h=>h
 | fuel+1,listed,a,w,h=>⟨h.1,fun i hi=>by
   have h2:=h.2 i hi;unfold wpOp at h2;unfold wpOpIn
   split
   ·rename_i ho;simp only [ho]at h2;exact wpAnyIn_of_anyW hnd hlo fuel _ _ _ h2
   ·rename_i o ho;simp only [ho]at h2;have hno:noDefer o=true:=(Array.all_eq_true_iff_forall_mem.1 hnd) o (Array.mem_of_getElem? ho)
    split
    ·rename_i hw;rw [if_pos hw]at h2;rcases h2 with h2 | ⟨_,h2⟩
     ·exact Oper.wpIn_mono (fun a' w' h3=>wpAnyIn_of_anyW hnd hlo fuel _ a' w' h3) (wpIn_of_wpW hno h2)
     ·exact absurd h2 hlo
    ·rename_i hw;rw [if_neg hw]at h2;exact⟨fun _ _=>trivial,wpAnyIn_of_anyW hnd hlo fuel _ _ _ h2⟩⟩
theorem wpIn_region_wide {id:Nat} {R:Act->World->Prop} {S:World->Prop} {a:Act} {w:World} (hnd:ops.all noDefer=true) (hm:P.follows .mixedOrders=true) (hS:S w.drew)
  (h:S w.drew->wpAnyH P .any ops (fun e a' w'=>e= .normal/\R a' w') S ops.size (Array.replicate ops.size false) a w.drew):(Code.region id ops true).wpIn Fence.wide n P (fun e a' w'=>e= .normal/\R a' w') a w:=
 wpIn_region_any hm (wpAnyIn_of_anyW hnd (fun hq=>by obtain ⟨_,_,h1,_⟩:=hq;cases h1) _ _ _ _ (wpAny_of_held _ _ _ _ (h hS)))
end
end
section
open Go.RowKit Go.Shelf Dig
attribute [local go_sem] Oper.semAt_some
def RetRR (w:World) (p q:Rat) (e:Ending) (w':World):Prop:=∃ (a5:OA) (n5 c5:Nat) (m5:Bool) (d5:OA) (e5 f5:Nat) (a6:OA) (n6 c6:Nat) (m6:Bool) (d6:OA) (e6 f6:Nat),e= .returned (.tuple #[.agg #[.slice a5 n5 c5,.bool m5,.slice d5 e5 f5],.agg #[.slice a6 n6 c6,.bool m6,.slice d6 e6 f6]])/\Rd w' (.slice a5 n5 c5) m5 (.slice d5 e5 f5) (p)/\Rd w' (.slice a6 n6 c6) m6 (.slice d6 e6 f6) (q)/\Below w.heap.size w w'
theorem foldl_bq {op:Rat->Rat->Rat} (hop:∀x y,op x y=x\/op x y=y) {N:Nat} :∀ {qs:List Rat} {q:Rat},Bq N q->(∀x∈qs,Bq N x)->Bq N (qs.foldl op q)
 | [],_,h,_=>h
 | x::qs,q,h,hq=>by
   rw [List.foldl_cons];refine foldl_bq hop ?_ (fun y hy=>hq y (List.mem_cons_of_mem _ hy));rcases hop q x with e | e
   ·rw [e];exact h
   ·rw [e];exact hq x (List.mem_cons_self ..)
theorem minQ_or (x y:Rat):minQ x y=x\/minQ x y=y:=by unfold minQ;split;exact .inr rfl;exact .inl rfl
theorem maxQ_or (x y:Rat):maxQ x y=x\/maxQ x y=y:=by unfold maxQ;split;exact .inr rfl;exact .inl rfl
section
variable (w:World)
theorem mW7_0 {P_:Prop} (h:P_:=by
 rintro e wT ⟨a9,n9,c9,m9,d9,e9,f9,rfl,hz,hb⟩;(try go_wp2_with fail);refine stW AF ((AA.out.call hb).pR rfl rfl hz) ?_;intro AX AB AK;clear AF Kq AA hb hz AJ;try simp only [zP]
 refine rdy1 10 rfl (fun Kq AF=>?_);have cQ0:=AB.out.c 1 0;have fQ0:=AB.out.f 1 0;have cQ1:=AB.out.c 1 1;have fQ1:=AB.out.f 1 1;have cQ2:=AB.out.c 1 2;have fQ2:=AB.out.f 1 2;go_simp;refine stepZ AF (AB.out|>.set (j:=0) (v:= .slice a8 n8 c8) 1 rfl|>.set (j:=1) (v:= .bool m8) 1 rfl|>.set (j:=2) (v:= .slice d8 e8 f8) 1 rfl) (fun _ hX=>⟨hX.c 3 0,hX.c 3 1,hX.c 3 2,hX.c 3 3,hX.c 3 4,hX.c 3 5,hX.c 3 6,trivial⟩) ?_;intro AY AC AL;clear AF Kq AB cQ0 fQ0 cQ1 fQ1 cQ2 fQ2 AK;try simp only [Act.put]
 refine rdy1 11 rfl (fun Kq AF=>?_);have cQ0:=AC.out.c 2 0;have fQ0:=AC.out.f 2 0;have cQ1:=AC.out.c 2 1;have fQ1:=AC.out.f 2 1;have cQ2:=AC.out.c 2 2;have fQ2:=AC.out.f 2 2;go_simp;refine stepZ AF (AC.out|>.set (j:=0) (v:= .slice a9 n9 c9) 2 rfl|>.set (j:=1) (v:= .bool m9) 2 rfl|>.set (j:=2) (v:= .slice d9 e9 f9) 2 rfl) (fun _ hX=>⟨hX.c 3 0,hX.c 3 1,hX.c 3 2,hX.c 3 3,hX.c 3 4,hX.c 3 5,hX.c 3 6,trivial⟩) ?_;intro AZ AE AQ;clear AF Kq AC cQ0 fQ0 cQ1 fQ1 cQ2 fQ2 AL;try simp only [Act.put]
 refine wpAnyH_done (by kernel_rfl) ?_ _;refine⟨rfl,ζ ⟨keepsFrom_away A3.out (AE.out.r 3 rfl) _,?_,a8,n8,c8,m8,d8,e8,f8,a9,n9,c9,m9,d9,e9,f9,((AE.out.thin (List.sublist_append_left [_,_,_] _) (List.nil_sublist _)).pick [] rfl),?_,?_,Nat.le_trans H4.out (AE.out.r 3 rfl).1,?_⟩⟩
 ·have hA:=AE.out.r 3 rfl;refine⟨hA.1,fun k o hk ho hn=>?_⟩;by_cases e6:k=b7
  ·subst e6;exact((AE.out.at_ 3 rfl).2).trans (by rw [A8.out]at hk;exact hk)
  ·exact(hA.2 k (Array.getElem?_eq_some_iff.1 hk).1 (by simp at hn⊢;omega)).trans hk
 ·rw [A5.out];exact AE.out.r 4 rfl
 ·rw [A6.out];exact AE.out.r 5 rfl
 ·intro y hy;rcases List.mem_append.1 hy with hy | hy
  ·exact H5.out y hy
  ·rcases List.mem_singleton.1 hy with rfl;exact A7.out):P_:=h
theorem mW7_3 {P_:Prop} (h:P_:=by
 try simp only [zP]
 refine rdy1 9 rfl (fun Kq AF=>?_);go_simp;go_at_call 51;refine(max_two (rowR_two ((World.ownsRow.lt (AA.out.orow 1 rfl) _ rfl).2) (AA.out.rcell 1 rfl (k:=0) rfl) (AA.out.rcell 1 rfl (k:=1) rfl) (AA.out.rcell 1 rfl (k:=2) rfl) (AA.out.rcell 1 rfl (k:=3) rfl) (AA.out.rcell 1 rfl (k:=4) rfl) (AA.out.rcell 1 rfl (k:=5) rfl) (AA.out.r 1 rfl) (AA.out.r 2 rfl)) (BHI.out.mono (by omega)) (BGR.out.mono (by omega))).mono ?_;exact mW7_0):P_:=h
theorem mW7_5 {P_:Prop} (h:P_:=by
 try simp only [zP]
 refine rdy1 8 rfl (fun Kq AF=>?_);go_simp;refine stW AF (AD.out.onew AR.heap.size #[.slice a6 n6 c6,.bool m6,.slice d6 e6 f6,.slice a2 n2 c2,.bool m2,.slice d2 e2 f2] 72 3 2 rfl (by omega) rfl) ?_;intro AW AA AJ;clear AF Kq AD AI;exact mW7_3):P_:=h
theorem mW7_1 {P_:Prop} (h:P_:=by
 try simp only [zP]
 refine rdyL [4,8] ?_;refine arc rfl (fun Kq AF=>?_) ?_
 ·go_simp;go_at_call 115;refine(min_two (rowR_two ((World.ownsRow.lt (AG.out.orow 0 rfl) _ rfl).2) (AG.out.rcell 0 rfl (k:=0) rfl) (AG.out.rcell 0 rfl (k:=1) rfl) (AG.out.rcell 0 rfl (k:=2) rfl) (AG.out.rcell 0 rfl (k:=3) rfl) (AG.out.rcell 0 rfl (k:=4) rfl) (AG.out.rcell 0 rfl (k:=5) rfl) (AG.out.r 0 rfl) (AG.out.r 2 rfl)) (BLO.out.mono (by omega)) (BGR.out.mono (by omega))).mono ?_;rintro e wT ⟨a8,n8,c8,m8,d8,e8,f8,rfl,hz,hb⟩;(try go_wp2_with fail);refine stW AF ((AG.out.call hb).pR rfl rfl hz) ?_;intro AR AD AI;clear AF Kq AG hb hz AM;exact mW7_5
 refine arc rfl (fun Kq AF=>?_) ?_
 ·go_simp;refine stW AF (AG.out.onew AU.heap.size #[.slice a6 n6 c6,.bool m6,.slice d6 e6 f6,.slice a2 n2 c2,.bool m2,.slice d2 e2 f2] 72 3 2 rfl (by omega) rfl) ?_;intro AR AD AI;clear AF Kq AG AM;try simp only [zP]
  refine rdy1 4 rfl (fun Kq AF=>?_);go_simp;go_at_call 115;refine(min_two (rowR_two ((World.ownsRow.lt (AD.out.orow 0 rfl) _ rfl).2) (AD.out.rcell 0 rfl (k:=0) rfl) (AD.out.rcell 0 rfl (k:=1) rfl) (AD.out.rcell 0 rfl (k:=2) rfl) (AD.out.rcell 0 rfl (k:=3) rfl) (AD.out.rcell 0 rfl (k:=4) rfl) (AD.out.rcell 0 rfl (k:=5) rfl) (AD.out.r 0 rfl) (AD.out.r 2 rfl)) (BLO.out.mono (by omega)) (BGR.out.mono (by omega))).mono ?_;rintro e wT ⟨a8,n8,c8,m8,d8,e8,f8,rfl,hz,hb⟩;(try go_wp2_with fail);refine stW AF ((AD.out.call hb).pR rfl rfl hz) ?_;intro AW AA AJ;clear AF Kq AD hb hz AI;exact mW7_3
 exact AllReadyH.nil):P_:=h
theorem mW7_2 {P_:Prop} (h:P_:=by
 try simp only [zP]
 refine rdy1 3 rfl (fun Kq AF=>?_);go_simp;refine stW AF (AG.out.onew AU.heap.size #[.slice a5 n5 c5,.bool m5,.slice d5 e5 f5,.slice a2 n2 c2,.bool m2,.slice d2 e2 f2] 72 3 2 rfl (by omega) rfl) ?_;intro AR AD AI;clear AF Kq AG AM;try simp only [zP]
 refine rdy1 4 rfl (fun Kq AF=>?_);go_simp;go_at_call 115;refine(min_two (rowR_two ((World.ownsRow.lt (AD.out.orow 1 rfl) _ rfl).2) (AD.out.rcell 1 rfl (k:=0) rfl) (AD.out.rcell 1 rfl (k:=1) rfl) (AD.out.rcell 1 rfl (k:=2) rfl) (AD.out.rcell 1 rfl (k:=3) rfl) (AD.out.rcell 1 rfl (k:=4) rfl) (AD.out.rcell 1 rfl (k:=5) rfl) (AD.out.r 0 rfl) (AD.out.r 2 rfl)) (BLO.out.mono (by omega)) (BGR.out.mono (by omega))).mono ?_;rintro e wT ⟨a8,n8,c8,m8,d8,e8,f8,rfl,hz,hb⟩;(try go_wp2_with fail);refine stW AF ((AD.out.call hb).pR rfl rfl hz) ?_;intro AW AA AJ;clear AF Kq AD hb hz AI;try simp only [zP]
 refine rdy1 9 rfl (fun Kq AF=>?_);go_simp;go_at_call 51;refine(max_two (rowR_two ((World.ownsRow.lt (AA.out.orow 0 rfl) _ rfl).2) (AA.out.rcell 0 rfl (k:=0) rfl) (AA.out.rcell 0 rfl (k:=1) rfl) (AA.out.rcell 0 rfl (k:=2) rfl) (AA.out.rcell 0 rfl (k:=3) rfl) (AA.out.rcell 0 rfl (k:=4) rfl) (AA.out.rcell 0 rfl (k:=5) rfl) (AA.out.r 1 rfl) (AA.out.r 2 rfl)) (BHI.out.mono (by omega)) (BGR.out.mono (by omega))).mono ?_;exact mW7_0):P_:=h
theorem mW7_4 {P_:Prop} (h:P_:=by
 go_simp;refine stW AF AN.out ?_;intro A2 AH AP;clear AF Kq AN cQ0 cQ1 cQ2 A1;try simp only [zP]
 refine rdyL [3,8] ?_;refine arc rfl (fun Kq AF=>?_) ?_
 ·go_simp;refine stW AF (AH.out.onew A2.heap.size #[.slice a5 n5 c5,.bool m5,.slice d5 e5 f5,.slice a2 n2 c2,.bool m2,.slice d2 e2 f2] 72 3 2 rfl (by omega) rfl) ?_;intro AU AG AM;clear AF Kq AH AP;exact mW7_1
 refine arc rfl (fun Kq AF=>?_) ?_
 ·go_simp;refine stW AF (AH.out.onew A2.heap.size #[.slice a6 n6 c6,.bool m6,.slice d6 e6 f6,.slice a2 n2 c2,.bool m2,.slice d2 e2 f2] 72 3 2 rfl (by omega) rfl) ?_;intro AU AG AM;clear AF Kq AH AP;exact mW7_2
 exact AllReadyH.nil):P_:=h
theorem hbounds_in (n:Nat) (hn:4<=n) (sa:OA) (sn sc:Nat) (l:List Pt) (a b:Int) (hT:Strt l a b) (hs:Sx 2 w sa sn sc (L2 l)):
  CallsIn Fence.wide n Tryz.prog 58 #[.agg #[.slice sa sn sc,.int .i64 a,.int .i64 b]] w (RetRR w (loQ l a b) (hiQ l a b)):=by
 have HS:=ζ hs;have HT:=ζ hT;have BE:=ζ (show Gd (grd l a)from hT.gd (Int.le_refl _) (Int.le_of_lt hT.lt));have hlt:=hT.lt;clear hs hT;refine callsIn_of_wp_marks Tryz.func58 rfl trivial ?_ rfl;simp only [Tryz.ntmps58,List.size_toArray,List.length_cons,List.length_nil,Nat.reduceAdd,Nat.reduceSub,Array.replicate_succ,Array.replicate_zero,List.push_toArray,List.append_toArray,List.nil_append,List.cons_append];have Ar:=ζ ((((Sy.enter w).al w.heap.size #[.slice sa sn sc,.int .i64 a,.int .i64 b] 116 rfl).al (w.heap.size+1) zR 72 (by simp)).al (w.heap.size+1+1) zR 72 (by simp))
 gi_wp2_with fail
 refine⟨trivial,fun _=>by omega,(callsIn_wide.2 (ground_any _ sa sn sc l a (HS.out.below Ar.out.be) HT.out.ok HT.out.lo (Int.le_trans (Int.le_of_lt hlt) HT.out.hi))).mono ?_⟩;rintro e w3 ⟨a4,n4,c4,m4,d4,e4,f4,rfl,hz,hb⟩;have A0:=ζ ((Ar.out.call hb).pR rfl rfl hz);clear hb hz Ar;have As:=A0.out.c 1 0;have Ac:=A0.out.f 1 0;have Av:=A0.out.c 1 1;have Ad:=A0.out.f 1 1;have Ax:=A0.out.c 1 2;have Af:=A0.out.f 1 2;have Az:=A0.out.c 2 0;have Ag:=A0.out.f 2 0;have BA:=A0.out.c 2 1;have Aj:=A0.out.f 2 1;have BB:=A0.out.c 2 2;have Ak:=A0.out.f 2 2;have y0:=A0.out.c 0 0;have y1:=A0.out.c 0 1;have y2:=A0.out.c 0 2
 gi_wp2_with fail
 have Ap:=ζ (A0.out|>.set (j:=0) (v:= .slice a4 n4 c4) 1 rfl|>.set (j:=1) (v:= .bool m4) 1 rfl|>.set (j:=2) (v:= .slice d4 e4 f4) 1 rfl|>.set (j:=0) (v:= .slice a4 n4 c4) 2 rfl|>.set (j:=1) (v:= .bool m4) 2 rfl|>.set (j:=2) (v:= .slice d4 e4 f4) 2 rfl);obtain ⟨w4,hw4⟩:∃w4,((((((w3.setCell ⟨w.heap.size+1,0,none⟩ (.slice a4 n4 c4)).setCell ⟨w.heap.size+1,1,none⟩ (.bool m4)).setCell ⟨w.heap.size+1,2,none⟩ (.slice d4 e4 f4)).setCell ⟨w.heap.size+1+1,0,none⟩ (.slice a4 n4 c4)).setCell ⟨w.heap.size+1+1,1,none⟩ (.bool m4)).setCell ⟨w.heap.size+1+1,2,none⟩ (.slice d4 e4 f4))=w4:=⟨_,rfl⟩
 rw [hw4]at Ap⊢;clear hw4 As Ac Av Ad Ax Af Az Ag BA Aj BB Ak y0 y1 y2 A0;refine⟨trivial,fun _=>by omega,(pieces_in _ (n - 1) sa sn sc a b).mono ?_⟩;rintro e w' ⟨rfl,rfl⟩
 gi_wp2_with fail
 have hSW:=ζ (Ap.out.row (o:= .cells #[.slice sa sn sc,.int .i64 a,.int .i64 b] 116));obtain ⟨W0,Aq⟩:∃W0,w4.alloc (.cells #[.slice sa sn sc,.int .i64 a,.int .i64 b] 116)=W0:=⟨_,rfl⟩
 have hnew:W0.heap[w4.heap.size]? =some (.cells #[.slice sa sn sc,.int .i64 a,.int .i64 b] 116 (0,0)):=by rw [<-Aq];exact World.alloc_heap_new _ _
 have hbig:W0.heap.size=w4.heap.size+1:=by rw [<-Aq];simp
 have hlt4:∀i bb cs t,[(w.heap.size,(#[.slice sa sn sc,.int .i64 a,.int .i64 b]:Array Value),(116:TypeId)),(w.heap.size+1,(#[.slice a4 n4 c4,.bool m4,.slice d4 e4 f4]:Array Value),(72:TypeId)),(w.heap.size+1+1,(#[.slice a4 n4 c4,.bool m4,.slice d4 e4 f4]:Array Value),(72:TypeId))][i]? =some (bb,cs,t)->bb < w4.heap.size:=fun i bb cs t h=>Ap.out.lt i h;have g1:=hlt4 0 _ _ _ rfl;have g2:=hlt4 1 _ _ _ rfl;have g3:=hlt4 2 _ _ _ rfl;rw [Aq]at hSW⊢;obtain ⟨bS,hbS⟩:∃bS,w4.heap.size=bS:=⟨_,rfl⟩
 rw [hbS]at hnew hbig g1 g2 g3⊢;obtain ⟨b3,hb3⟩:∃b3,w.heap.size+1+1=b3:=⟨_,rfl⟩
 obtain ⟨b2,hb2⟩:∃b2,w.heap.size+1=b2:=⟨_,rfl⟩
 obtain ⟨b1,hb1⟩:∃b1,w.heap.size=b1:=⟨_,rfl⟩
 have Al:Hid (Sy w W0 [(b1,#[.slice sa sn sc,.int .i64 a,.int .i64 b],116),(b2,#[.slice a4 n4 c4,.bool m4,.slice d4 e4 f4],72),(b3,#[.slice a4 n4 c4,.bool m4,.slice d4 e4 f4],72)] [] [(fun V=>Rd V (.slice a4 n4 c4) m4 (.slice d4 e4 f4) (grd l a))]):=ζ (by rw [<-hb3,<-hb2,<-hb1];exact hSW.out);rw [hb3,hb2,hb1];rw [hb3]at g3;rw [hb2]at g2;rw [hb1]at g1;have hle:w.heap.size<=W0.heap.size:=Al.out.be.size;have hSR:SRd W0 bS sa sn sc l a b:=⟨by simp [World.cell?,hnew],by simp [World.cell?,hnew],by simp [World.cell?,hnew],HS.out.below Al.out.be⟩
 have hown:∀k∈ [b1,b2,b3],k < bS:=by intro k hk;simp at hk;omega
 have hrow:∀g o,sa=some ⟨g,o,none⟩->g∉ [b1,b2,b3]:=by
  intro g o e hm;obtain ⟨g',o',e',hg,_⟩:=HS.out.2.2.2 (by have:=HS.out.n2;have:=HT.out.ok.two;omega);rw [e]at e';simp only [Option.some.injEq,Addr.mk.injEq,and_true]at e';simp at hm;omega
 have HZ:=ζ (show b1=w.heap.size/\b2=w.heap.size+1/\b3=w.heap.size+2/\W0.heap.size=bS+1/\b3 < bS by omega);have hbS1:bS∉ [b1,b2,b3]:=fun hm=>by have:=hown _ hm;omega
 have hown1:∀k∈ [b1,b2,b3],k < W0.heap.size:=fun k hk=>by have:=hown k hk;omega
 clear hSW Aq hnew hbS hbig hb2 hb3 hb1 hown g1 g2 g3 hlt4 Ap;refine wpIn_rangeFunc_at (gf:=150) (lb:=#[.pointer (some ⟨bS,0,none⟩)]) (w0:=W0) (by omega) rfl (enters_of Tryz.func150 (by kernel_rfl) rfl)
  (pieces1_at (n - 1) (by omega) bS sa sn sc l a b W0 HT.out [b1,b2,b3] hSR hbS1 hrow hown1) (Below.refl _ _) (fun _=>rfl)
  keepsC_t (fun W k o o' _ hl ho=>keepsC_p W k o o' hl ho)
  (fun pre W=>Hid (∃ (a5:OA) (n5 c5:Nat) (m5:Bool) (d5:OA) (e5 f5:Nat) (a6:OA) (n6 c6:Nat) (m6:Bool) (d6:OA) (e6 f6:Nat),Sy w W [(b1,#[.slice sa sn sc,.int .i64 a,.int .i64 b],116),(b2,#[.slice a5 n5 c5,.bool m5,.slice d5 e5 f5],72),(b3,#[.slice a6 n6 c6,.bool m6,.slice d6 e6 f6],72)] [] []/\Rd W (.slice a5 n5 c5) m5 (.slice d5 e5 f5) (((pre).map fun x=>grd l x.t.2).foldl minQ (grd l a))/\Rd W (.slice a6 n6 c6) m6 (.slice d6 e6 f6) (((pre).map fun x=>grd l x.t.2).foldl maxQ (grd l a))/\W0.heap.size<=W.heap.size/\∀y∈pre,a<=y.t.1/\y.t.1 < y.t.2/\y.t.2<=b))
  (fun s A B hs hAB=>by
   obtain ⟨a5,n5,c5,m5,d5,e5,f5,a6,n6,c6,m6,d6,e6,f6,h1,h2,h3,h4,h5⟩:=hs.out;exact ζ ⟨a5,n5,c5,m5,d5,e5,f5,a6,n6,c6,m6,d6,e6,f6,h1.call hAB,h2.keep (Below.keeps hAB),h3.keep (Below.keeps hAB),Nat.le_trans h4 hAB.size,h5⟩)
  (fun s W k o o' hs hk hl ho=>by
   obtain ⟨a5,n5,c5,m5,d5,e5,f5,a6,n6,c6,m6,d6,e6,f6,h1,h2,h3,h4,h5⟩:=hs.out;exact ζ ⟨a5,n5,c5,m5,d5,e5,f5,a6,n6,c6,m6,d6,e6,f6,h1.put (Nat.le_trans hle hk) hl ho,h2.putObj k o o' hl ho,h3.putObj k o o' hl ho,by simpa using h4,h5⟩)
  (ζ ⟨a4,n4,c4,m4,d4,e4,f4,a4,n4,c4,m4,d4,e4,f4,Al.out.pick [] rfl,Al.out.r 0 rfl,Al.out.r 0 rfl,Nat.le_refl _,fun y hy=>by cases hy⟩)
  (fun x a' W=>∃b6,a'= { tmps:=#[.agg #[.slice sa sn sc,.int .i64 a,.int .i64 b],.pointer (some ⟨b1,0,none⟩),.pointer (some ⟨b2,0,none⟩),.pointer (some ⟨b3,0,none⟩),.pointer (some ⟨b6,0,none⟩),.pointer (some ⟨b1,0,none⟩),.slice sa sn sc,.pointer (some ⟨b1,1,none⟩),.int .i64 a,.agg #[.slice a4 n4 c4,.bool m4,.slice d4 e4 f4],.agg #[.slice a4 n4 c4,.bool m4,.slice d4 e4 f4],.agg #[.slice sa sn sc,.int .i64 a,.int .i64 b],.func (.func 150) #[] #[.pointer (some ⟨bS,0,none⟩)],encP x,undef,undef,undef,undef,undef,undef,undef,undef,undef,undef,undef,undef],defers:=[] } /\W0.heap.size<=b6/\W.heap[b6]? =some (.cells #[.int .i64 (x.t.2 - x.t.1),.slice x.a1 x.n1 x.c1,.bool x.m1,.slice x.d1 x.e1 x.f1,.slice x.a2 x.n2 x.c2,.bool x.m2,.slice x.d2 x.e2 x.f2] 195 (0,0))/\EP l a b x W)
  (fun x a' W k o o' hA hl ho=>by
   obtain ⟨b6,h1,h2,h3,h4⟩:=hA;exact⟨b6,h1,h2,(World.putObj_heap_other (fun e=>by subst e;rw [hl]at h3;cases h3;cases ho)).trans h3,h4.putObj k o o' hl ho⟩)
  ?assign ?body ?done
 case assign=>
  intro lr pre x W K hi hx hK
  gi_wp2
  have hal:Below W.heap.size W (W.alloc (.cells #[.int .i64 (x.t.2 - x.t.1),.slice x.a1 x.n1 x.c1,.bool x.m1,.slice x.d1 x.e1 x.f1,.slice x.a2 x.n2 x.c2,.bool x.m2,.slice x.d2 x.e2 x.f2] 195)):=(Below.refl _ _).alloc (Nat.le_refl _) _;obtain ⟨a5,n5,c5,m5,d5,e5,f5,a6,n6,c6,m6,d6,e6,f6,h1,h2,h3,h4,h5⟩:=hi.out;exact hK _ _ ⟨hal.size,fun k o _ hk _=>heap_below hal hk⟩ (keepsC_below hal) (ζ ⟨a5,n5,c5,m5,d5,e5,f5,a6,n6,c6,m6,d6,e6,f6,h1.call hal,h2.keep (Below.keeps hal),h3.keep (Below.keeps hal),Nat.le_trans h4 hal.size,h5⟩) ⟨W.heap.size,rfl,h4,World.alloc_heap_new _ _,hx.below hal⟩
 case body=>
  rintro lr pre ⟨⟨u1,u2⟩,a1,n1,c1,m1,d1,e1,f1,a2,n2,c2,m2,d2,e2,f2⟩ a' W hi ⟨b7,rfl,hb7,hc7,hE⟩ hlen;obtain ⟨a5,n5,c5,m5,d5,e5,f5,a6,n6,c6,m6,d6,e6,f6,h1,h2,h3,h4,h5⟩:=hi.out;clear hi;have hl6:w.heap.size<=b7:=Nat.le_trans hle hb7;have hn6:b7∉ownOf [(b1,#[.slice sa sn sc,.int .i64 a,.int .i64 b],116),(b2,#[.slice a5 n5 c5,.bool m5,.slice d5 e5 f5],72),(b3,#[.slice a6 n6 c6,.bool m6,.slice d6 e6 f6],72)] []:=by
   intro hm;simp [ownOf]at hm;have:=HZ.out;omega
  have A3:=ζ (h1.addB hl6 hc7 hn6);have hall:∀q∈(pre.map fun x=>grd l x.t.2),Bq 36 q:=by
   intro q hq;obtain ⟨y,hy,rfl⟩:=List.mem_map.1 hq;obtain ⟨y1,y2,y3⟩:=h5 y hy;exact(HT.out.gd (x:=y.t.2) (by omega) y3).bq
  have BLO:=ζ (foldl_bq minQ_or BE.out.bq hall);have BHI:=ζ (foldl_bq maxQ_or BE.out.bq hall);have BGR:=ζ (show Bq 36 (grd l u2)from(HT.out.gd (x:=u2) (Int.le_of_lt (Int.lt_of_le_of_lt hE.ge hE.lt)) hE.le).bq);have A5:=ζ (show((pre++ [(⟨(u1,u2),a1,n1,c1,m1,d1,e1,f1,a2,n2,c2,m2,d2,e2,f2⟩:Pcv)]).map fun x=>grd l x.t.2).foldl minQ (grd l a)=minQ (((pre).map fun x=>grd l x.t.2).foldl minQ (grd l a)) (grd l u2)by rw [List.map_append,List.foldl_append];rfl);have A6:=ζ (show((pre++ [(⟨(u1,u2),a1,n1,c1,m1,d1,e1,f1,a2,n2,c2,m2,d2,e2,f2⟩:Pcv)]).map fun x=>grd l x.t.2).foldl maxQ (grd l a)=maxQ (((pre).map fun x=>grd l x.t.2).foldl maxQ (grd l a)) (grd l u2)by rw [List.map_append,List.foldl_append];rfl);have A7:=ζ (show a<=u1/\u1 < u2/\u2<=b from⟨hE.ge,hE.lt,hE.le⟩);have A8:=ζ hc7;have H4:=ζ h4;have H5:=ζ h5;have BC:=hE.last;dsimp only at BC;generalize ((pre).map fun x=>grd l x.t.2).foldl minQ (grd l a)=lo at*;generalize ((pre).map fun x=>grd l x.t.2).foldl maxQ (grd l a)=hi at*;generalize grd l u2=gr at*;have A9:Hid (Sy w W [(b1,#[.slice sa sn sc,.int .i64 a,.int .i64 b],116),(b2,#[.slice a5 n5 c5,.bool m5,.slice d5 e5 f5],72),(b3,#[.slice a6 n6 c6,.bool m6,.slice d6 e6 f6],72),(b7,#[.int .i64 (u2 - u1),.slice a1 n1 c1,.bool m1,.slice d1 e1 f1,.slice a2 n2 c2,.bool m2,.slice d2 e2 f2],195)] [] [(fun V=>Rd V (.slice a5 n5 c5) m5 (.slice d5 e5 f5) (lo)),(fun V=>Rd V (.slice a6 n6 c6) m6 (.slice d6 e6 f6) (hi)),(fun V=>Rd V (.slice a2 n2 c2) m2 (.slice d2 e2 f2) (gr)),(fun V=>Away [b1,b2,b3,b7] W V)]):=ζ ((((A3.out.pR rfl rfl h2).pR rfl rfl h3).pR rfl rfl BC).push (fun V hV=>hV));clear h1 h2 h3 h4 h5 hc7 hE BC hn6 hall
  gi_wp2_with fail
  refine wpIn_mono (Q:=fun e _ W'=>e= .normal/\Hid (KeepsFrom W0.heap.size W W'/\KeepsC [b1,b2,b3] W W'/\∃ (a5:OA) (n5 c5:Nat) (m5:Bool) (d5:OA) (e5 f5:Nat) (a6:OA) (n6 c6:Nat) (m6:Bool) (d6:OA) (e6 f6:Nat),Sy w W' [(b1,#[.slice sa sn sc,.int .i64 a,.int .i64 b],116),(b2,#[.slice a5 n5 c5,.bool m5,.slice d5 e5 f5],72),(b3,#[.slice a6 n6 c6,.bool m6,.slice d6 e6 f6],72)] [] []/\Rd W' (.slice a5 n5 c5) m5 (.slice d5 e5 f5) (((pre++ [(⟨(u1,u2),a1,n1,c1,m1,d1,e1,f1,a2,n2,c2,m2,d2,e2,f2⟩:Pcv)]).map fun x=>grd l x.t.2).foldl minQ (grd l a))/\Rd W' (.slice a6 n6 c6) m6 (.slice d6 e6 f6) (((pre++ [(⟨(u1,u2),a1,n1,c1,m1,d1,e1,f1,a2,n2,c2,m2,d2,e2,f2⟩:Pcv)]).map fun x=>grd l x.t.2).foldl maxQ (grd l a))/\W0.heap.size<=W'.heap.size/\∀y∈pre++ [(⟨(u1,u2),a1,n1,c1,m1,d1,e1,f1,a2,n2,c2,m2,d2,e2,f2⟩:Pcv)],a<=y.t.1/\y.t.1 < y.t.2/\y.t.2<=b)) ?reg ?rest
  case reg=>
   have HSL:∀V ex os rs,Sy w V ([(b1,#[.slice sa sn sc,.int .i64 a,.int .i64 b],116),(b2,#[.slice a5 n5 c5,.bool m5,.slice d5 e5 f5],72),(b3,#[.slice a6 n6 c6,.bool m6,.slice d6 e6 f6],72),(b7,#[.int .i64 (u2 - u1),.slice a1 n1 c1,.bool m1,.slice d1 e1 f1,.slice a2 n2 c2,.bool m2,.slice d2 e2 f2],195)]++ex) os rs->(fun w'=>w'.cell? ⟨b7,0,none⟩=some (.int .i64 (u2 - u1))/\w'.cell? ⟨b7,1,none⟩=some (.slice a1 n1 c1)/\w'.cell? ⟨b7,2,none⟩=some (.bool m1)/\w'.cell? ⟨b7,3,none⟩=some (.slice d1 e1 f1)/\w'.cell? ⟨b7,4,none⟩=some (.slice a2 n2 c2)/\w'.cell? ⟨b7,5,none⟩=some (.bool m2)/\w'.cell? ⟨b7,6,none⟩=some (.slice d2 e2 f2)/\True) V:=fun V ex os rs hX=>⟨hX.c 3 0,hX.c 3 1,hX.c 3 2,hX.c 3 3,hX.c 3 4,hX.c 3 5,hX.c 3 6,trivial⟩
   refine wpIn_region_round (S:=(fun w'=>w'.cell? ⟨b7,0,none⟩=some (.int .i64 (u2 - u1))/\w'.cell? ⟨b7,1,none⟩=some (.slice a1 n1 c1)/\w'.cell? ⟨b7,2,none⟩=some (.bool m1)/\w'.cell? ⟨b7,3,none⟩=some (.slice d1 e1 f1)/\w'.cell? ⟨b7,4,none⟩=some (.slice a2 n2 c2)/\w'.cell? ⟨b7,5,none⟩=some (.bool m2)/\w'.cell? ⟨b7,6,none⟩=some (.slice d2 e2 f2)/\True)) ?_ (by kernel_rfl) ⟨A9.out.drew.c 3 0,A9.out.drew.c 3 1,A9.out.drew.c 3 2,A9.out.drew.c 3 3,A9.out.drew.c 3 4,A9.out.drew.c 3 5,A9.out.drew.c 3 6,trivial⟩ (fun hH=>?_)
   ·kernel_rfl
   refine wpAnyH_geny (show Sy w _ [(b1,#[.slice sa sn sc,.int .i64 a,.int .i64 b],116),(b2,#[.slice a5 n5 c5,.bool m5,.slice d5 e5 f5],72),(b3,#[.slice a6 n6 c6,.bool m6,.slice d6 e6 f6],72),(b7,#[.int .i64 (u2 - u1),.slice a1 n1 c1,.bool m1,.slice d1 e1 f1,.slice a2 n2 c2,.bool m2,.slice d2 e2 f2],195)] [] [(fun V=>Rd V (.slice a5 n5 c5) m5 (.slice d5 e5 f5) (lo)),(fun V=>Rd V (.slice a6 n6 c6) m6 (.slice d6 e6 f6) (hi)),(fun V=>Rd V (.slice a2 n2 c2) m2 (.slice d2 e2 f2) (gr)),(fun V=>Away [b1,b2,b3,b7] W V)]from A9.out.drew) hH ?_;intro BH hc AV;have AO:=ζ hc;clear hc hH A9;refine tkA 1 rfl AV ?_;(try simp only [zP]);refine tkA 2 rfl AV ?_;(try simp only [zP]);refine tkA 6 rfl AV ?_;(try simp only [zP]);refine tkA 7 rfl AV ?_;(try simp only [zP]);refine rdyL [0,5] ?_;refine arc rfl (fun Kq AF=>?_) ?_
   ·have cQ0:=AO.out.c 1 0;have cQ1:=AO.out.c 1 1;have cQ2:=AO.out.c 1 2;go_simp;refine stW AF AO.out ?_;intro Ab AN A1;clear AF Kq AO cQ0 cQ1 cQ2 AV;(try simp only [zP]);refine rdyL [3,5] ?_;refine arc rfl (fun Kq AF=>?_) ?_
    ·go_simp;refine stW AF (AN.out.onew Ab.heap.size #[.slice a5 n5 c5,.bool m5,.slice d5 e5 f5,.slice a2 n2 c2,.bool m2,.slice d2 e2 f2] 72 3 2 rfl (by omega) rfl) ?_;intro A2 AH AP;clear AF Kq AN A1;(try simp only [zP]);refine rdyL [4,5] ?_;refine arc rfl (fun Kq AF=>?_) ?_
     ·go_simp;go_at_call 115;refine(min_two (rowR_two ((World.ownsRow.lt (AH.out.orow 0 rfl) _ rfl).2) (AH.out.rcell 0 rfl (k:=0) rfl) (AH.out.rcell 0 rfl (k:=1) rfl) (AH.out.rcell 0 rfl (k:=2) rfl) (AH.out.rcell 0 rfl (k:=3) rfl) (AH.out.rcell 0 rfl (k:=4) rfl) (AH.out.rcell 0 rfl (k:=5) rfl) (AH.out.r 0 rfl) (AH.out.r 2 rfl)) (BLO.out.mono (by omega)) (BGR.out.mono (by omega))).mono ?_;rintro e wT ⟨a8,n8,c8,m8,d8,e8,f8,rfl,hz,hb⟩;(try go_wp2_with fail);refine stW AF ((AH.out.call hb).pR rfl rfl hz) ?_;intro AU AG AM;clear AF Kq AH hb hz AP;(try simp only [zP]);refine rdy1 5 rfl (fun Kq AF=>?_);have cQ0:=AG.out.c 2 0;have cQ1:=AG.out.c 2 1;have cQ2:=AG.out.c 2 2;go_simp;refine stW AF AG.out ?_;intro AR AD AI;clear AF Kq AG cQ0 cQ1 cQ2 AM;exact mW7_5
     refine arc rfl (fun Kq AF=>?_) ?_
     ·have cQ0:=AH.out.c 2 0;have cQ1:=AH.out.c 2 1;have cQ2:=AH.out.c 2 2;go_simp;refine stW AF AH.out ?_;intro AU AG AM;clear AF Kq AH cQ0 cQ1 cQ2 AP;exact mW7_1
     exact AllReadyH.nil
    refine arc rfl (fun Kq AF=>?_) ?_
    ·have cQ0:=AN.out.c 2 0;have cQ1:=AN.out.c 2 1;have cQ2:=AN.out.c 2 2;exact mW7_4
    exact AllReadyH.nil
   refine arc rfl (fun Kq AF=>?_) ?_
   ·have cQ0:=AO.out.c 2 0;have cQ1:=AO.out.c 2 1;have cQ2:=AO.out.c 2 2;go_simp;refine stW AF AO.out ?_;intro Ab AN A1;clear AF Kq AO cQ0 cQ1 cQ2 AV;(try simp only [zP]);refine rdyL [0,8] ?_;refine arc rfl (fun Kq AF=>?_) ?_
    ·have cQ0:=AN.out.c 1 0;have cQ1:=AN.out.c 1 1;have cQ2:=AN.out.c 1 2;exact mW7_4
    refine arc rfl (fun Kq AF=>?_) ?_
    ·go_simp;refine stW AF (AN.out.onew Ab.heap.size #[.slice a6 n6 c6,.bool m6,.slice d6 e6 f6,.slice a2 n2 c2,.bool m2,.slice d2 e2 f2] 72 3 2 rfl (by omega) rfl) ?_;intro A2 AH AP;clear AF Kq AN A1;(try simp only [zP]);refine rdy1 0 rfl (fun Kq AF=>?_);have cQ0:=AH.out.c 1 0;have cQ1:=AH.out.c 1 1;have cQ2:=AH.out.c 1 2;go_simp;refine stW AF AH.out ?_;intro AU AG AM;clear AF Kq AH cQ0 cQ1 cQ2 AP;exact mW7_2
    exact AllReadyH.nil
   exact AllReadyH.nil
  case rest=>
   rintro e a' W' ⟨rfl,h⟩;exact⟨rfl,h.out.1,h.out.2.1,ζ h.out.2.2⟩
 case done=>
  rintro D xs W hD hxs hi hdef;obtain ⟨a5,n5,c5,m5,d5,e5,f5,a6,n6,c6,m6,d6,e6,f6,h1,h2,h3,h4,h5⟩:=hi.out;clear hi;have HX:=ζ (show((xs).map fun x=>grd l x.t.2).foldl minQ (grd l a)=loQ l a b/\((xs).map fun x=>grd l x.t.2).foldl maxQ (grd l a)=hiQ l a b by
   unfold loQ hiQ;rw [<-hxs,List.map_map];exact⟨rfl,rfl⟩)
  have hS:=ζ ((h1.pR rfl rfl h2).pR rfl rfl h3|>.push (r:=fun V=>Away [b1,b2,b3] W V) (fun V hV=>hV));have BF:=ζ hdef;have HD:=ζ hD;clear h1 h2 h3 h4 h5 hdef hxs hD
  gi_wp2_with fail
  refine wpIn_mono (Q:=fun e a' W'=>e= .normal/\Hid (∃v24 v25:Value,a'= { tmps:=#[.agg #[.slice sa sn sc,.int .i64 a,.int .i64 b],.pointer (some ⟨b1,0,none⟩),.pointer (some ⟨b2,0,none⟩),.pointer (some ⟨b3,0,none⟩),undef,.pointer (some ⟨b1,0,none⟩),.slice sa sn sc,.pointer (some ⟨b1,1,none⟩),.int .i64 a,.agg #[.slice a4 n4 c4,.bool m4,.slice d4 e4 f4],.agg #[.slice a4 n4 c4,.bool m4,.slice d4 e4 f4],.agg #[.slice sa sn sc,.int .i64 a,.int .i64 b],.func (.func 150) #[] #[.pointer (some ⟨bS,0,none⟩)],undef,undef,undef,undef,undef,undef,undef,undef,undef,undef,undef,v24,v25],defers:=[{ target:= .collected D,args:=#[] }] } /\Sy w W' [(b1,#[.slice sa sn sc,.int .i64 a,.int .i64 b],116),(b2,#[.slice a5 n5 c5,.bool m5,.slice d5 e5 f5],72),(b3,#[.slice a6 n6 c6,.bool m6,.slice d6 e6 f6],72)] [] [(fun V=>Rd V (.slice a5 n5 c5) m5 (.slice d5 e5 f5) (((xs).map fun x=>grd l x.t.2).foldl minQ (grd l a))),(fun V=>Rd V (.slice a6 n6 c6) m6 (.slice d6 e6 f6) (((xs).map fun x=>grd l x.t.2).foldl maxQ (grd l a))),(fun V=>Away [b1,b2,b3] W V)])) ?reg2 ?rest2
  case reg2=>
   have HSL:∀V ex os rs,Sy w V ([(b1,#[.slice sa sn sc,.int .i64 a,.int .i64 b],116),(b2,#[.slice a5 n5 c5,.bool m5,.slice d5 e5 f5],72),(b3,#[.slice a6 n6 c6,.bool m6,.slice d6 e6 f6],72)]++ex) os rs->(fun w'=>w'.cell? ⟨b2,0,none⟩=some (.slice a5 n5 c5)/\w'.cell? ⟨b2,1,none⟩=some (.bool m5)/\w'.cell? ⟨b2,2,none⟩=some (.slice d5 e5 f5)/\w'.cell? ⟨b3,0,none⟩=some (.slice a6 n6 c6)/\w'.cell? ⟨b3,1,none⟩=some (.bool m6)/\w'.cell? ⟨b3,2,none⟩=some (.slice d6 e6 f6)/\True) V:=fun V ex os rs hX=>⟨hX.c 1 0,hX.c 1 1,hX.c 1 2,hX.c 2 0,hX.c 2 1,hX.c 2 2,trivial⟩
   refine wpIn_region_wide (S:=(fun w'=>w'.cell? ⟨b2,0,none⟩=some (.slice a5 n5 c5)/\w'.cell? ⟨b2,1,none⟩=some (.bool m5)/\w'.cell? ⟨b2,2,none⟩=some (.slice d5 e5 f5)/\w'.cell? ⟨b3,0,none⟩=some (.slice a6 n6 c6)/\w'.cell? ⟨b3,1,none⟩=some (.bool m6)/\w'.cell? ⟨b3,2,none⟩=some (.slice d6 e6 f6)/\True)) ?_ (by kernel_rfl) ⟨hS.out.drew.c 1 0,hS.out.drew.c 1 1,hS.out.drew.c 1 2,hS.out.drew.c 2 0,hS.out.drew.c 2 1,hS.out.drew.c 2 2,trivial⟩ (fun hH=>?_)
   ·kernel_rfl
   refine wpAnyH_geny (show Sy w _ [(b1,#[.slice sa sn sc,.int .i64 a,.int .i64 b],116),(b2,#[.slice a5 n5 c5,.bool m5,.slice d5 e5 f5],72),(b3,#[.slice a6 n6 c6,.bool m6,.slice d6 e6 f6],72)] [] [(fun V=>Rd V (.slice a5 n5 c5) m5 (.slice d5 e5 f5) (((xs).map fun x=>grd l x.t.2).foldl minQ (grd l a))),(fun V=>Rd V (.slice a6 n6 c6) m6 (.slice d6 e6 f6) (((xs).map fun x=>grd l x.t.2).foldl maxQ (grd l a))),(fun V=>Away [b1,b2,b3] W V)]from hS.out.drew) hH ?_;intro BI hc A4;have AS:=ζ hc;clear hc hH hS;refine wpAnyH_take (i:=0) (oi:=⟨_,_,_,_,_,_⟩) (v:=?_) rfl (by kernel_rfl) (by kernel_rfl) (by kernel_rfl) (fun _ _ _ h=>by cases h.1) (Or.inl ⟨by rfl,?_⟩) A4 ?_;rotate_left
   ·intro wS BD;(try dsimp only at BD);go_simp;try with_reducible rfl
   (try simp only [zP]);refine wpAnyH_take (i:=1) (oi:=⟨_,_,_,_,_,_⟩) (v:=?_) rfl (by kernel_rfl) (by kernel_rfl) (by kernel_rfl) (fun _ _ _ h=>by cases h.1) (Or.inl ⟨by rfl,?_⟩) A4 ?_;rotate_left
   ·intro wS BD;(try dsimp only at BD);go_simp;try with_reducible rfl
   (try simp only [zP]);refine rdy1 2 rfl (fun Kq AF=>?_);have cQ0:=AS.out.c 1 0;have fQ0:=AS.out.f 1 0;have cQ1:=AS.out.c 1 1;have fQ1:=AS.out.f 1 1;have cQ2:=AS.out.c 1 2;have fQ2:=AS.out.f 1 2;go_simp;refine stW AF (AS.out|>.set (j:=0) (v:= .slice a5 n5 c5) 1 rfl|>.set (j:=1) (v:= .bool m5) 1 rfl|>.set (j:=2) (v:= .slice d5 e5 f5) 1 rfl) ?_;intro BJ AT Am;clear AF Kq AS cQ0 fQ0 cQ1 fQ1 cQ2 fQ2 A4;(try simp only [Act.put]);refine rdy1 3 rfl (fun Kq AF=>?_);have cQ0:=AT.out.c 2 0;have fQ0:=AT.out.f 2 0;have cQ1:=AT.out.c 2 1;have fQ1:=AT.out.f 2 1;have cQ2:=AT.out.c 2 2;have fQ2:=AT.out.f 2 2;go_simp;refine stW AF (AT.out|>.set (j:=0) (v:= .slice a6 n6 c6) 2 rfl|>.set (j:=1) (v:= .bool m6) 2 rfl|>.set (j:=2) (v:= .slice d6 e6 f6) 2 rfl) ?_;intro BK An BG;clear AF Kq AT cQ0 fQ0 cQ1 fQ1 cQ2 fQ2 Am;(try simp only [Act.put]);refine wpAnyH_done (by kernel_rfl) ?_ _;exact⟨rfl,ζ ⟨_,_,rfl,An.out⟩⟩
  case rest2=>
   rintro e a' W' ⟨rfl,h⟩;obtain ⟨v24,v25,rfl,hZ⟩:=h.out;have hdf:W'.heap[D]? =some (.deferred (some [])):=by
    refine((hZ.r 2 rfl).2 D (Array.getElem?_eq_some_iff.1 BF.out).1 (fun hm=>?_)).trans BF.out;simp at hm;have:=HZ.out;have:=HD.out;omega
   have hY:=(hZ.pick [] rfl).put (o':= .deferred none) (show w.heap.size<=D from Nat.le_trans hle HD.out) hdf rfl
   gi_wp2
   refine⟨by simp,.inl ⟨_,_,rfl,run_takeDeferred hdf,?_⟩⟩;have q0:=hY.c 1 0;have q1:=hY.c 1 1;have q2:=hY.c 1 2;have q3:=hY.c 2 0;have q4:=hY.c 2 1;have q5:=hY.c 2 2;exact⟨_,by simp [results,Tryz.results58,go_sem,q0,q1,q2,q3,q4,q5],a5,n5,c5,m5,d5,e5,f5,a6,n6,c6,m6,d6,e6,f6,rfl,by rw [<-HX.out.1];exact(hZ.r 0 rfl).putObj D _ _ hdf rfl,by rw [<-HX.out.2];exact(hZ.r 1 rfl).putObj D _ _ hdf rfl,hY.be⟩
end
def strB (l:List Pt) (a b:Int):Bool:=hasB l a && hasB l b && decide (a < b)
def strErr (l:List Pt) (a b:Int):Int:=if profB l=true then(if strB l a b=true then 0 else 11)else 2
theorem strErr_bad {l:List Pt} {a b:Int} (h:profB l=false):strErr l a b=2:=by unfold strErr;rw [h];rfl
theorem strErr_no {l:List Pt} {a b:Int} (h:profB l=true) (h2:strB l a b=false):strErr l a b=11:=by unfold strErr;rw [if_pos h,h2];rfl
theorem strErr_ok {l:List Pt} {a b:Int} (h:profB l=true) (h2:strB l a b=true):strErr l a b=0:=by unfold strErr;rw [if_pos h,if_pos h2]
theorem strErr_zero {l:List Pt} {a b:Int} (h:strErr l a b=0):Strt l a b:=by
 unfold strErr at h
 split at h
 ·rename_i h1
  split at h
  ·rename_i h2;unfold strB at h2;simp only [Bool.and_eq_true,decide_eq_true_eq]at h2;exact⟨prof_iff.1 h1,(inB_iff.1 h2.1.1).1,h2.2,(inB_iff.1 h2.1.2).2⟩
  ·cases h
 ·cases h
def RetRRE (w:World) (p q:Rat) (k:Int) (e:Ending) (w':World):Prop:=∃ (a5:OA) (n5 c5:Nat) (m5:Bool) (d5:OA) (e5 f5:Nat) (a6:OA) (n6 c6:Nat) (m6:Bool) (d6:OA) (e6 f6:Nat),e= .returned (.tuple #[.agg #[.slice a5 n5 c5,.bool m5,.slice d5 e5 f5],.agg #[.slice a6 n6 c6,.bool m6,.slice d6 e6 f6],.int .i64 k])/\Rd w' (.slice a5 n5 c5) m5 (.slice d5 e5 f5) (p)/\Rd w' (.slice a6 n6 c6) m6 (.slice d6 e6 f6) (q)/\Below w.heap.size w w'
section
variable (w:World)
theorem hground_out (sa:OA) (sn sc:Nat) (l:List Pt) (x:Int) (hs:Sx 2 w sa sn sc (L2 l)) (hb:profB l=true) (hx:hasB l x=false):Calls Tryz.prog 15 #[.slice sa sn sc,.int .i64 x] w (RetRE w 0 11):=by
 have hC:=ζ ((Sy.enter w).al w.heap.size zR 72 rfl);have HK:=ζ (fun W (hW:Below w.heap.size w W)=>hcheck_any W sa sn sc l (hs.below hW));have HH:=ζ (fun W (hW:Below w.heap.size w W)=>has_any W sa sn sc l x (hs.below hW) (by have:=hs.n2;have:=(prof_iff.1 hb).two;omega));rw [profErr_yes hb]at HK;rw [hx]at HH;clear hb hs hx;go_enter Tryz.func15,Tryz.ntmps15;go_wp2_with fail
 refine(HK.out _ hC.out.be).mono ?_;rintro e w1 ⟨rfl,hb⟩;have hD:=ζ (hC.out.call hb);clear hb hC;go_wp2_with fail
 refine(HH.out _ hD.out.be).mono ?_;rintro e w2 ⟨rfl,hb⟩;have hE:=ζ (hD.out.call hb);clear hb hD;have AG:=hE.out.c 0 0;have AA:=hE.out.f 0 0;have AH:=hE.out.c 0 1;have AB:=hE.out.f 0 1;have AI:=hE.out.c 0 2;have AC:=hE.out.f 0 2;go_wp2;have hZ:=ζ ((hE.out|>.set (j:=0) (v:= .slice none 0 0) 0 rfl|>.set (j:=1) (v:= .bool false) 0 rfl|>.set (j:=2) (v:= .slice none 0 0) 0 rfl).pR rfl rfl Rd.nil);clear hE;refine ret_sy hZ.out (v:= .tuple #[.agg #[.slice none 0 0,.bool false,.slice none 0 0],.int .i64 11]) (fun hF=>?_) rfl (fun hF=>⟨_,_,_,_,_,_,_,rfl,hF.r 0 rfl,hF.be⟩);have g0_0:=hF.c 0 0;have g0_1:=hF.c 0 1;have g0_2:=hF.c 0 2;simp [results,Tryz.results15,go_sem,g0_0,g0_1,g0_2]
theorem hground_ok (sa:OA) (sn sc:Nat) (l:List Pt) (x:Int) (hs:Sx 2 w sa sn sc (L2 l)) (hb:profB l=true) (hx:hasB l x=true):Calls Tryz.prog 15 #[.slice sa sn sc,.int .i64 x] w (RetRE w (grd l x) 0):=by
 have hC:=ζ ((Sy.enter w).al w.heap.size zR 72 rfl);have HK:=ζ (fun W (hW:Below w.heap.size w W)=>hcheck_any W sa sn sc l (hs.below hW));have HH:=ζ (fun W (hW:Below w.heap.size w W)=>has_any W sa sn sc l x (hs.below hW) (by have:=hs.n2;have:=(prof_iff.1 hb).two;omega));rw [profErr_yes hb]at HK;have HG:=ζ (fun W (hW:Below w.heap.size w W)=>ground_any W sa sn sc l x (hs.below hW) (prof_iff.1 hb) (inB_iff.1 hx).1 (inB_iff.1 hx).2);rw [hx]at HH;clear hb hs hx;go_enter Tryz.func15,Tryz.ntmps15;go_wp2_with fail
 refine(HK.out _ hC.out.be).mono ?_;rintro e w1 ⟨rfl,hb⟩;have hD:=ζ (hC.out.call hb);clear hb hC;go_wp2_with fail
 refine(HH.out _ hD.out.be).mono ?_;rintro e w2 ⟨rfl,hb⟩;have hE:=ζ (hD.out.call hb);clear hb hD;go_wp2_with fail
 refine(HG.out _ hE.out.be).mono ?_;rintro e w3 ⟨a3,n3,c3,m3,d3,e3,f3,rfl,hz,hb⟩;have hG:=ζ ((hE.out.call hb).pR rfl rfl hz);clear hb hE hz;have AG:=hG.out.c 0 0;have AA:=hG.out.f 0 0;have AH:=hG.out.c 0 1;have AB:=hG.out.f 0 1;have AI:=hG.out.c 0 2;have AC:=hG.out.f 0 2;go_wp2;have hZ:=ζ (hG.out|>.set (j:=0) (v:= .slice a3 n3 c3) 0 rfl|>.set (j:=1) (v:= .bool m3) 0 rfl|>.set (j:=2) (v:= .slice d3 e3 f3) 0 rfl);clear hG;refine ret_sy hZ.out (v:= .tuple #[.agg #[.slice a3 n3 c3,.bool m3,.slice d3 e3 f3],.int .i64 0]) (fun hF=>?_) rfl (fun hF=>⟨_,_,_,_,_,_,_,rfl,hF.r 0 rfl,hF.be⟩);have g0_0:=hF.c 0 0;have g0_1:=hF.c 0 1;have g0_2:=hF.c 0 2;simp [results,Tryz.results15,go_sem,g0_0,g0_1,g0_2]
theorem mW8_1 {P_:Prop} (h:P_:=by
 have g0:=hF.c 0 0;have g1:=hF.c 0 1;have g2:=hF.c 0 2;simp [results,Tryz.results57,go_sem,g0,g1,g2]):P_:=h
theorem mW8_0 {P_:Prop} (h:P_:=by
 rw [HE.out];clear h1 h2 HE HY HN HS;go_enter Tryz.func57,Tryz.ntmps57;go_wp2_with fail
 refine(HK.out _ hC.out.be).mono ?_;rintro e w1 ⟨rfl,hb⟩;have hD:=ζ (hC.out.call hb);clear hb hC;have y1_0:=hD.out.c 1 0;go_wp2_with fail
 refine(HA.out _ hD.out.be).mono ?_;rintro e w2 ⟨rfl,hb⟩;have hE:=ζ (hD.out.call hb);clear hb hD y1_0;have y1_0:=hE.out.c 1 0;go_wp2_with fail
 refine(HB.out _ hE.out.be).mono ?_;rintro e w3 ⟨rfl,hb⟩;have hG:=ζ (hE.out.call hb);clear hb hE y1_0;have AG:=hG.out.c 0 0;have AA:=hG.out.f 0 0;have AH:=hG.out.c 0 1;have AB:=hG.out.f 0 1;have AI:=hG.out.c 0 2;have AC:=hG.out.f 0 2;have AJ:=hG.out.c 1 0;have AD:=hG.out.f 1 0;have AK:=hG.out.c 1 1;have AE:=hG.out.f 1 1;have AL:=hG.out.c 1 2;have AF:=hG.out.f 1 2;go_wp2;refine ret_sy (hG.out|>.set (j:=0) (v:= .slice sa sn sc) 0 rfl|>.set (j:=1) (v:= .int .i64 a) 0 rfl|>.set (j:=2) (v:= .int .i64 b) 0 rfl) (v:= .tuple #[.agg #[.slice sa sn sc,.int .i64 a,.int .i64 b],.int .i64 11]) (fun hF=>?_) rfl (fun hF=>⟨rfl,hF.be⟩);exact mW8_1):P_:=h
theorem hstretched_any (sa:OA) (sn sc:Nat) (l:List Pt) (a b:Int) (hs:Sx 2 w sa sn sc (L2 l)):Calls Tryz.prog 57 #[.slice sa sn sc,.int .i64 a,.int .i64 b] w (Gives (.tuple #[.agg #[.slice sa sn sc,.int .i64 a,.int .i64 b],.int .i64 (strErr l a b)]) w):=by
 have HK:=ζ (fun W (hW:Below w.heap.size w W)=>hcheck_any W sa sn sc l (hs.below hW));have hC:=ζ (((Sy.enter w).al w.heap.size #[.slice none 0 0,.int .i64 0,.int .i64 0] 116 rfl).al (w.heap.size+1) #[.slice sa sn sc,.int .i64 a,.int .i64 b] 116 (by simp));cases hb:profB l
 ·have HE:=ζ (strErr_bad (a:=a) (b:=b) hb);rw [profErr_no hb]at HK;rw [HE.out];clear hb hs HE;go_enter Tryz.func57,Tryz.ntmps57;go_wp2_with fail
  refine(HK.out _ hC.out.be).mono ?_;rintro e w1 ⟨rfl,hb⟩;have hD:=ζ (hC.out.call hb);clear hb hC;have AG:=hD.out.c 0 0;have AA:=hD.out.f 0 0;have AH:=hD.out.c 0 1;have AB:=hD.out.f 0 1;have AI:=hD.out.c 0 2;have AC:=hD.out.f 0 2;have AJ:=hD.out.c 1 0;have AD:=hD.out.f 1 0;have AK:=hD.out.c 1 1;have AE:=hD.out.f 1 1;have AL:=hD.out.c 1 2;have AF:=hD.out.f 1 2;go_wp2;refine ret_sy (hD.out|>.set (j:=0) (v:= .slice sa sn sc) 0 rfl|>.set (j:=1) (v:= .int .i64 a) 0 rfl|>.set (j:=2) (v:= .int .i64 b) 0 rfl) (v:= .tuple #[.agg #[.slice sa sn sc,.int .i64 a,.int .i64 b],.int .i64 2]) (fun hF=>?_) rfl (fun hF=>⟨rfl,hF.be⟩);exact mW8_1
 ·have h0:0 < sn:=by have:=hs.n2;have:=(prof_iff.1 hb).two;omega
  have HA:=ζ (fun W (hW:Below w.heap.size w W)=>has_any W sa sn sc l a (hs.below hW) h0);have HB:=ζ (fun W (hW:Below w.heap.size w W)=>has_any W sa sn sc l b (hs.below hW) h0);have HY:=ζ (strErr_ok (a:=a) (b:=b) hb);have HN:=ζ (strErr_no (a:=a) (b:=b) hb);rw [profErr_yes hb]at HK;have HS:=ζ (show strB l a b=(hasB l a && hasB l b && decide (a < b))from rfl);clear hb hs h0;generalize strErr l a b=er at*;generalize strB l a b=sb at*;cases h1:hasB l a
  ·rw [h1]at HA HS;have HE:=ζ (HN.out (by rw [HS.out];rfl));rw [HE.out];clear h1 HE HY HN HS HB;go_enter Tryz.func57,Tryz.ntmps57;go_wp2_with fail
   refine(HK.out _ hC.out.be).mono ?_;rintro e w1 ⟨rfl,hb⟩;have hD:=ζ (hC.out.call hb);clear hb hC;have y1_0:=hD.out.c 1 0;go_wp2_with fail
   refine(HA.out _ hD.out.be).mono ?_;rintro e w2 ⟨rfl,hb⟩;have hE:=ζ (hD.out.call hb);clear hb hD y1_0;have AG:=hE.out.c 0 0;have AA:=hE.out.f 0 0;have AH:=hE.out.c 0 1;have AB:=hE.out.f 0 1;have AI:=hE.out.c 0 2;have AC:=hE.out.f 0 2;have AJ:=hE.out.c 1 0;have AD:=hE.out.f 1 0;have AK:=hE.out.c 1 1;have AE:=hE.out.f 1 1;have AL:=hE.out.c 1 2;have AF:=hE.out.f 1 2;go_wp2;refine ret_sy (hE.out|>.set (j:=0) (v:= .slice sa sn sc) 0 rfl|>.set (j:=1) (v:= .int .i64 a) 0 rfl|>.set (j:=2) (v:= .int .i64 b) 0 rfl) (v:= .tuple #[.agg #[.slice sa sn sc,.int .i64 a,.int .i64 b],.int .i64 11]) (fun hF=>?_) rfl (fun hF=>⟨rfl,hF.be⟩);exact mW8_1
  ·rw [h1]at HA HS;cases h2:hasB l b
   ·rw [h2]at HB HS;have HE:=ζ (HN.out (by rw [HS.out];rfl));exact mW8_0
   ·rw [h2]at HB HS;by_cases h3:a < b
    ·have HE:=ζ (HY.out (by rw [HS.out,decide_eq_true h3];rfl));rw [HE.out];clear h1 h2 HE HY HN HS;go_enter Tryz.func57,Tryz.ntmps57;go_wp2_with fail
     refine(HK.out _ hC.out.be).mono ?_;rintro e w1 ⟨rfl,hb⟩;have hD:=ζ (hC.out.call hb);clear hb hC;have y1_0:=hD.out.c 1 0;go_wp2_with fail
     refine(HA.out _ hD.out.be).mono ?_;rintro e w2 ⟨rfl,hb⟩;have hE:=ζ (hD.out.call hb);clear hb hD y1_0;have y1_0:=hE.out.c 1 0;go_wp2_with fail
     refine(HB.out _ hE.out.be).mono ?_;rintro e w3 ⟨rfl,hb⟩;have hG:=ζ (hE.out.call hb);clear hb hE y1_0;have AG:=hG.out.c 0 0;have AA:=hG.out.f 0 0;have AH:=hG.out.c 0 1;have AB:=hG.out.f 0 1;have AI:=hG.out.c 0 2;have AC:=hG.out.f 0 2;have AJ:=hG.out.c 1 0;have AD:=hG.out.f 1 0;have AK:=hG.out.c 1 1;have AE:=hG.out.f 1 1;have AL:=hG.out.c 1 2;have AF:=hG.out.f 1 2;go_wp2;refine ret_sy (hG.out|>.set (j:=0) (v:= .slice sa sn sc) 0 rfl|>.set (j:=1) (v:= .int .i64 a) 0 rfl|>.set (j:=2) (v:= .int .i64 b) 0 rfl) (v:= .tuple #[.agg #[.slice sa sn sc,.int .i64 a,.int .i64 b],.int .i64 0]) (fun hF=>?_) rfl (fun hF=>⟨rfl,hF.be⟩);exact mW8_1
    ·have HE:=ζ (HN.out (by rw [HS.out,decide_eq_false h3];rfl));exact mW8_0
end
section
variable (w:World)
theorem hBounds_ok (sa:OA) (sn sc:Nat) (l:List Pt) (a b:Int) (hs:Sx 2 w sa sn sc (L2 l)) (he:strErr l a b=0):Calls Tryz.prog 20 #[.slice sa sn sc,.int .i64 a,.int .i64 b] w (RetRRE w (loQ l a b) (hiQ l a b) 0):=by
 have HK:=ζ (fun W (hW:Below w.heap.size w W)=>hstretched_any W sa sn sc l a b (hs.below hW));rw [he]at HK;have HB:=ζ (fun W (hW:Below w.heap.size w W)=>callsIn_wide.1 (hbounds_in W 4 (Nat.le_refl _) sa sn sc l a b (strErr_zero he) (hs.below hW)));have hC:=ζ (((Sy.enter w).al w.heap.size zR 72 rfl).al (w.heap.size+1) zR 72 (by simp));clear he hs;generalize loQ l a b=lo at*;generalize hiQ l a b=hi at*;go_enter Tryz.func20,Tryz.ntmps20;go_wp2_with fail
 refine(HK.out _ hC.out.be).mono ?_;rintro e w1 ⟨rfl,hb⟩;have hD:=ζ (hC.out.call hb);clear hb hC;have hE:=ζ (hD.out.al w1.heap.size #[.slice sa sn sc,.int .i64 a,.int .i64 b] 116 rfl);go_upto_region 4 with fail
 refine wp_geny hE.out ?_;intro V1 hc;obtain ⟨b2,hb2⟩:∃b2,w1.heap.size=b2:=⟨_,rfl⟩
 rw [hb2]at hc⊢;have hG:Hid (Sy w V1 [(w.heap.size,zR,72),((w.heap.size+1),zR,72),(b2,#[.slice sa sn sc,.int .i64 a,.int .i64 b],116)] [] []):=ζ hc;clear hc hD hE hb2;have AR:=hG.out.c 2 0;have AF:=hG.out.f 2 0;have AS:=hG.out.c 2 1;have AG:=hG.out.f 2 1;have AT:=hG.out.c 2 2;have AH:=hG.out.f 2 2;go_wp2_with fail
 refine(HB.out _ hG.out.be).mono ?_;rintro e w2 ⟨a5,n5,c5,m5,d5,e5,f5,a6,n6,c6,m6,d6,e6,f6,rfl,hz1,hz2,hb⟩;have hI:=ζ (((hG.out.call hb).pR rfl rfl hz1).pR rfl rfl hz2);clear hb hG hz1 hz2 AR AF AS AG AT AH;have AU:=hI.out.c 0 0;have AI:=hI.out.f 0 0;have AV:=hI.out.c 0 1;have AJ:=hI.out.f 0 1;have AW:=hI.out.c 0 2;have AK:=hI.out.f 0 2;have AX:=hI.out.c 1 0;have AL:=hI.out.f 1 0;have AY:=hI.out.c 1 1;have AM:=hI.out.f 1 1;have AZ:=hI.out.c 1 2;have AN:=hI.out.f 1 2;go_upto_region 5 with fail
 have hJ:=ζ (hI.out|>.set (j:=0) (v:= .slice a5 n5 c5) 0 rfl|>.set (j:=1) (v:= .bool m5) 0 rfl|>.set (j:=2) (v:= .slice d5 e5 f5) 0 rfl|>.set (j:=0) (v:= .slice a6 n6 c6) 1 rfl|>.set (j:=1) (v:= .bool m6) 1 rfl|>.set (j:=2) (v:= .slice d6 e6 f6) 1 rfl);refine wp_geny hJ.out ?_;intro V2 hc;obtain ⟨b1,hb1⟩:∃b1,w.heap.size+1=b1:=⟨_,rfl⟩
 obtain ⟨b0,hb0⟩:∃b0,w.heap.size=b0:=⟨_,rfl⟩
 have hS:Hid (Sy w V2 [(b0,#[.slice a5 n5 c5,.bool m5,.slice d5 e5 f5],72),(b1,#[.slice a6 n6 c6,.bool m6,.slice d6 e6 f6],72),(b2,#[.slice sa sn sc,.int .i64 a,.int .i64 b],116)] [] [(fun V=>Rd V (.slice a5 n5 c5) m5 (.slice d5 e5 f5) (lo)),(fun V=>Rd V (.slice a6 n6 c6) m6 (.slice d6 e6 f6) (hi))]):=ζ (by rw [<-hb1,<-hb0];exact hc);rw [hb1,hb0];clear hc hJ hI hb1 hb0 AU AI AV AJ AW AK AX AL AY AM AZ AN;refine wp_region_held_drew (S:=(fun w'=>w'.cell? ⟨b0,0,none⟩=some (.slice a5 n5 c5)/\w'.cell? ⟨b0,1,none⟩=some (.bool m5)/\w'.cell? ⟨b0,2,none⟩=some (.slice d5 e5 f5)/\w'.cell? ⟨b1,0,none⟩=some (.slice a6 n6 c6)/\w'.cell? ⟨b1,1,none⟩=some (.bool m6)/\w'.cell? ⟨b1,2,none⟩=some (.slice d6 e6 f6)/\True)) (by kernel_rfl) ⟨hS.out.drew.c 0 0,hS.out.drew.c 0 1,hS.out.drew.c 0 2,hS.out.drew.c 1 0,hS.out.drew.c 1 1,hS.out.drew.c 1 2,trivial⟩ (fun hH=>?_);refine wpAnyH_geny (show Sy w _ [(b0,#[.slice a5 n5 c5,.bool m5,.slice d5 e5 f5],72),(b1,#[.slice a6 n6 c6,.bool m6,.slice d6 e6 f6],72),(b2,#[.slice sa sn sc,.int .i64 a,.int .i64 b],116)] [] [(fun V=>Rd V (.slice a5 n5 c5) m5 (.slice d5 e5 f5) (lo)),(fun V=>Rd V (.slice a6 n6 c6) m6 (.slice d6 e6 f6) (hi))]from hS.out.drew) hH ?_;intro A1 hc AC;have AA:=ζ hc;clear hc hH hS;refine tkA 0 rfl AC ?_;try simp only [zP]
 refine tkA 1 rfl AC ?_;try simp only [zP]
 refine rdy1 2 rfl (fun Kq AD=>?_);have cQ0:=AA.out.c 0 0;have fQ0:=AA.out.f 0 0;have cQ1:=AA.out.c 0 1;have fQ1:=AA.out.f 0 1;have cQ2:=AA.out.c 0 2;have fQ2:=AA.out.f 0 2;go_simp;refine stepZ AD (show Sy w _ [(b0,#[.slice a5 n5 c5,.bool m5,.slice d5 e5 f5],72),(b1,#[.slice a6 n6 c6,.bool m6,.slice d6 e6 f6],72),(b2,#[.slice sa sn sc,.int .i64 a,.int .i64 b],116)] [] [(fun V=>Rd V (.slice a5 n5 c5) m5 (.slice d5 e5 f5) (lo)),(fun V=>Rd V (.slice a6 n6 c6) m6 (.slice d6 e6 f6) (hi))]from(AA.out|>.set (j:=0) (v:= .slice a5 n5 c5) 0 rfl|>.set (j:=1) (v:= .bool m5) 0 rfl|>.set (j:=2) (v:= .slice d5 e5 f5) 0 rfl)) (fun _ hX=>⟨hX.c 0 0,hX.c 0 1,hX.c 0 2,hX.c 1 0,hX.c 1 1,hX.c 1 2,trivial⟩) ?_;intro A2 AB AO;clear AD Kq AA cQ0 fQ0 cQ1 fQ1 cQ2 fQ2 AC;try simp only [Act.put]
 refine rdy1 3 rfl (fun Kq AD=>?_);have cQ0:=AB.out.c 1 0;have fQ0:=AB.out.f 1 0;have cQ1:=AB.out.c 1 1;have fQ1:=AB.out.f 1 1;have cQ2:=AB.out.c 1 2;have fQ2:=AB.out.f 1 2;go_simp;refine stepZ AD (show Sy w _ [(b0,#[.slice a5 n5 c5,.bool m5,.slice d5 e5 f5],72),(b1,#[.slice a6 n6 c6,.bool m6,.slice d6 e6 f6],72),(b2,#[.slice sa sn sc,.int .i64 a,.int .i64 b],116)] [] [(fun V=>Rd V (.slice a5 n5 c5) m5 (.slice d5 e5 f5) (lo)),(fun V=>Rd V (.slice a6 n6 c6) m6 (.slice d6 e6 f6) (hi))]from(AB.out|>.set (j:=0) (v:= .slice a6 n6 c6) 1 rfl|>.set (j:=1) (v:= .bool m6) 1 rfl|>.set (j:=2) (v:= .slice d6 e6 f6) 1 rfl)) (fun _ hX=>⟨hX.c 0 0,hX.c 0 1,hX.c 0 2,hX.c 1 0,hX.c 1 1,hX.c 1 2,trivial⟩) ?_;intro A3 AE AP;clear AD Kq AB cQ0 fQ0 cQ1 fQ1 cQ2 fQ2 AO;try simp only [Act.put]
 refine rdy1 4 rfl (fun Kq AD=>?_);go_simp;refine stepZ AD (show Sy w _ [(b0,#[.slice a5 n5 c5,.bool m5,.slice d5 e5 f5],72),(b1,#[.slice a6 n6 c6,.bool m6,.slice d6 e6 f6],72),(b2,#[.slice sa sn sc,.int .i64 a,.int .i64 b],116)] [] [(fun V=>Rd V (.slice a5 n5 c5) m5 (.slice d5 e5 f5) (lo)),(fun V=>Rd V (.slice a6 n6 c6) m6 (.slice d6 e6 f6) (hi))]from AE.out) (fun _ hX=>⟨hX.c 0 0,hX.c 0 1,hX.c 0 2,hX.c 1 0,hX.c 1 1,hX.c 1 2,trivial⟩) ?_;intro A4 AQ A0;clear AD Kq AE AP;try simp only [zP]
 refine wpAnyH_done (by kernel_rfl) ?_ _;go_wp2;refine ret_sy AQ.out (v:= .tuple #[.agg #[.slice a5 n5 c5,.bool m5,.slice d5 e5 f5],.agg #[.slice a6 n6 c6,.bool m6,.slice d6 e6 f6],.int .i64 0]) (fun hF=>?_) rfl (fun hF=>⟨a5,n5,c5,m5,d5,e5,f5,a6,n6,c6,m6,d6,e6,f6,rfl,hF.r 0 rfl,hF.r 1 rfl,hF.be⟩);have g0_0:=hF.c 0 0;have g0_1:=hF.c 0 1;have g0_2:=hF.c 0 2;have g1_0:=hF.c 1 0;have g1_1:=hF.c 1 1;have g1_2:=hF.c 1 2;simp [results,Tryz.results20,go_sem,g0_0,g0_1,g0_2,g1_0,g1_1,g1_2]
end
end
end Go.Proofs.YtjpojeapdgjbhaaGreatDoor
