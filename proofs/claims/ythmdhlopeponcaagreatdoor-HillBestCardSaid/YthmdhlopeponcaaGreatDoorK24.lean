/- part -/
import Derived.Test.YthmdhlopeponcaaGreatDoorK23
import Derived.WalkSpells
import Derived.StillTailTactics
set_option maxRecDepth 100000
set_option maxHeartbeats 4000000
namespace Go.Proofs.YthmdhlopeponcaaGreatDoor
open Go.RowKit Go.Shelf Dig
open Go.Maps (Keyed)
open Go.WideElems (Fit rd)
open Go.ChangeMaps (setBlock)
structure MAway (m:Nat) (V V':World):Prop where
 size:V.heap.size<=V'.heap.size
 isMap:∃es k,V.heap[m]? =some (.map es k)
 rest:∀b,b < V.heap.size->b≠m->V'.heap[b]? =V.heap[b]?
def Mst (m:Nat) (r:World->Prop):Prop:=∀V V',MAway m V V'->r V->r V'
structure MCall (m:Nat) (V V':World):Prop where
 os:V'.os=V.os
 tape:V'.tape=V.tape
 output:V'.output=V.output
 away:MAway m V V'
section
variable {w W W':World} {bs:List (Nat×Array Value×TypeId)} {os:List Rw} {rs:List (World->Prop)} {m:Nat}
theorem MAway.keeps64 {V V':World} (h:MAway m V V'):Keeps64 V V':=⟨h.size,fun k o hk hr=>by
 obtain ⟨es,c,hm⟩:=h.isMap;refine(h.rest k (Array.getElem?_eq_some_iff.1 hk).1 fun e=>?_).trans hk;subst e;rw [hm]at hk;cases hk;cases hr⟩
theorem mst_R {s s':Value} {mm:Bool} {q:Rat} :Mst m (fun V=>Rd V s mm s' q):=fun _ _ h hr=>hr.keep64 h.keeps64
theorem mst_own {B:Nat} {e:TypeId} {size n:Nat} {v:Value} {xs:List Value} :Mst m (fun V=>V.ownsRow B e size v n xs):=fun V V' h hr=>by
 obtain ⟨es,c,hm⟩:=h.isMap;refine⟨hr.1,hr.2.imp id ?_⟩;rintro ⟨g,cap,cur,rfl,h0,hg,rest⟩;refine⟨g,cap,cur,rfl,h0,(h.rest g (Array.getElem?_eq_some_iff.1 hg).1 fun e=>?_).trans hg,rest⟩;subst e;rw [hm]at hg;cases hg
theorem Sy.map_out (h:Sy w W bs os rs) {es:Array MapEntry} {c:Nat} (hmap:W.heap[m]? =some (.map es c)):m∉ownOf bs os:=fun hm=>by
 rcases mem_own.1 hm with ⟨x,hx,e⟩ | ⟨q,hq,he⟩
 ·have:=(h.bx x hx).2;rw [e,hmap]at this;cases this
 ·rcases(h.ow q hq).2 with ⟨h1,_⟩ | ⟨g,cap,cur,h1,_,hg,_⟩
  ·rw [h1]at he;simp [Value.ownBlock]at he
  ·rw [h1]at he;simp only [Value.ownBlock,Option.some.injEq]at he;subst he;rw [hmap]at hg;cases hg
theorem Sy.rd_turn (h:Sy w W bs os rs) (hb:MCall m W W') {r:World->Prop} (hr:r∈rs) (hst:Mst m r) {V:World} (hV:Away (ownOf bs os) W' V):r V:=by
 obtain ⟨es,c,hmap⟩:=hb.away.isMap;have hml:m < W.heap.size:=(Array.getElem?_eq_some_iff.1 hmap).1;have hmV:m < V.heap.size:=Nat.lt_of_lt_of_le hml (Nat.le_trans hb.away.size hV.1);have hx:∀b,({ V with heap:=V.heap.setIfInBounds m (.map es c) } :World).heap[b]? =if m=b then some (.map es c)else V.heap[b]? :=fun b=>by
  show(V.heap.setIfInBounds m (.map es c))[b]? =_;rw [Array.getElem?_setIfInBounds]
  split
  ·rfl
  ·rfl
 refine hst { V with heap:=V.heap.setIfInBounds m (.map es c) } V ⟨by simp,⟨es,c,by rw [hx,if_pos rfl]⟩,fun b _ hne=>by rw [hx,if_neg (fun e=>hne e.symm)]⟩ (h.rd r hr _ ⟨?_,fun b hb1 hb2=>?_⟩)
 ·show W.heap.size<=(V.heap.setIfInBounds m _).size;rw [Array.size_setIfInBounds];exact Nat.le_trans hb.away.size hV.1
 ·rw [hx]
  split
  ·rename_i e;rw [<-e,hmap]
  ·rename_i e;rw [hV.2 b (Nat.lt_of_lt_of_le hb1 hb.away.size) hb2];exact hb.away.rest b hb1 (fun e2=>e e2.symm)
theorem Sy.mcall {mi:World->Prop} (h:Sy w W bs os (mi::rs)) (hm:w.heap.size<=m) (hb:MCall m W W') (hst:∀r∈rs,Mst m r) (hmi:∀V,Away (ownOf bs os) W' V->mi V):Sy w W' bs os (mi::rs):=by
 obtain ⟨es,c,hmap⟩:=hb.away.isMap;have hno:=h.map_out hmap;refine⟨⟨hb.os.trans h.be.os,hb.tape.trans h.be.tape,hb.output.trans h.be.output,Nat.le_trans h.be.size hb.away.size,fun k hk=>?_⟩,fun x hx=>?_,fun o ho=>?_,h.inc,fun r hr V hV=>?_⟩
 ·exact(hb.away.rest k (Nat.lt_of_lt_of_le hk h.be.size) (by omega)).trans (h.be.block k hk)
 ·have h1:=h.bx x hx;refine⟨h1.1,(hb.away.rest _ (Array.getElem?_eq_some_iff.1 h1.2).1 fun e=>hno ?_).trans h1.2⟩;exact mem_own.2 (.inl ⟨x,hx,e⟩)
 ·have h1:=h.ow o ho;refine⟨h1.1,h1.2.imp id ?_⟩;rintro ⟨g,cap,cur,h2,h0,hg,rest⟩;refine⟨g,cap,cur,h2,h0,(hb.away.rest g (Array.getElem?_eq_some_iff.1 hg).1 fun e=>hno ?_).trans hg,rest⟩;exact mem_own.2 (.inr ⟨o,ho,by rw [h2,<-e];rfl⟩)
 ·rcases List.mem_cons.1 hr with rfl | hr
  ·exact hmi V hV
  ·exact h.rd_turn hb (List.mem_cons_of_mem _ hr) (hst r hr) hV
theorem Sy.turn {mi:World->Prop} (h:Sy w W bs os (mi::rs)) (hm:∃es k,w.heap[m]? =some (.map es k)) (hb:MCall m W W') (hst:∀r∈rs,Mst m r) (hmi:∀V,Away (ownOf bs os) W' V->mi V):
  ∃w',(∀V,Below w'.heap.size w' V->MCall m w V)/\Sy w' W' bs os (mi::rs):=by
 obtain ⟨es,c,hmap⟩:=hb.away.isMap;obtain ⟨es0,c0,hm0⟩:=hm;have hmw:m < w.heap.size:=(Array.getElem?_eq_some_iff.1 hm0).1;have hmW:m < W'.heap.size:=Nat.lt_of_lt_of_le (Nat.lt_of_lt_of_le hmw h.be.size) hb.away.size;have hx:∀b,({ w with heap:=w.heap.setIfInBounds m W'.heap[m] } :World).heap[b]? =if m=b then W'.heap[m]? else w.heap[b]? :=fun b=>by
  show(w.heap.setIfInBounds m W'.heap[m])[b]? =_;rw [Array.getElem?_setIfInBounds]
  split
  ·rw [Array.getElem?_eq_getElem hmW]
  ·rfl
 have hsz:({ w with heap:=w.heap.setIfInBounds m W'.heap[m] } :World).heap.size=w.heap.size:=by simp
 refine⟨{ w with heap:=w.heap.setIfInBounds m W'.heap[m] },fun V hV=>⟨hV.os,hV.tape,hV.output,by rw [<-hsz];exact hV.size,⟨es0,c0,hm0⟩,fun b hb1 hne=>?_⟩,⟨hb.os.trans h.be.os,hb.tape.trans h.be.tape,hb.output.trans h.be.output,?_,fun k hk=>?_⟩,fun x hx=>?_,fun o ho=>?_,h.inc,fun r hr V hV=>?_⟩
 ·rw [hV.block b (by rw [hsz];exact hb1),hx,if_neg (fun e=>hne e.symm)]
 ·rw [hsz];exact Nat.le_trans h.be.size hb.away.size
 ·rw [hsz]at hk;rw [hx]
  split
  ·rename_i e;rw [e]
  ·rename_i e;exact(hb.away.rest k (Nat.lt_of_lt_of_le hk h.be.size) (fun e2=>e e2.symm)).trans (h.be.block k hk)
 ·have h1:=h.bx x hx;rw [hsz];exact⟨h1.1,(hb.away.rest _ (Array.getElem?_eq_some_iff.1 h1.2).1 (by omega)).trans h1.2⟩
 ·have h1:=h.ow o ho;rw [hsz];refine⟨h1.1,h1.2.imp id ?_⟩;rintro ⟨g,cap,cur,h2,h0,hg,rest⟩;exact⟨g,cap,cur,h2,h0,(hb.away.rest g (Array.getElem?_eq_some_iff.1 hg).1 (by omega)).trans hg,rest⟩
 ·rcases List.mem_cons.1 hr with rfl | hr
  ·exact hmi V hV
  ·exact h.rd_turn hb (List.mem_cons_of_mem _ hr) (hst r hr) hV
theorem MCall.trans {V:World} (h:MCall m W W') (k:MCall m W' V):MCall m W V:=⟨k.os.trans h.os,k.tape.trans h.tape,k.output.trans h.output,Nat.le_trans h.away.size k.away.size,h.away.isMap,fun b hb hn=>(k.away.rest b (Nat.lt_of_lt_of_le hb h.away.size) hn).trans (h.away.rest b hb hn)⟩
theorem MCall.of_below (h:Below W.heap.size W W') (hm:∃es k,W.heap[m]? =some (.map es k)):MCall m W W':=⟨h.os,h.tape,h.output,h.size,hm,fun b hb _=>h.block b hb⟩
end
theorem isnil_int (a:Option Addr) (n c:Nat) (W:World):(binOp .eql 23 (.slice a n c) (.slice none 0 0)).run Tryz.prog W= .ok (.bool a.isNone) W:=Go.Lib.run_eql_slice_nil W _ _ a n c 0 0 Tryz.underlying23
theorem notnil_int (a:Option Addr) (n c:Nat) (W:World):(binOp .neq 23 (.slice a n c) (.slice none 0 0)).run Tryz.prog W= .ok (.bool (!a.isNone)) W:=Go.run_neq_slice_nil_any W _ _ a n c 0 0 Tryz.underlying23
theorem arrI:Go.WideMaps.ArrKey Tryz.prog 135 3 2:=⟨Tryz.underlying135,by kernel_rfl,by kernel_rfl,by kernel_rfl⟩
theorem keyI:Keyed Tryz.prog 135:=Keyed.of_law (Go.WideMaps.ArrKey.law arrI)
theorem und_costs:Tryz.prog.underlying 134=some (.map 135 42):=Tryz.underlying134
def R0:Value->Option (DataW Unit×List MemPlace):=fun _=>some (.nil,[])
def KV (i k:Nat):Value:= .agg #[.int .i64 i,.int .i64 k]
theorem KV_inj {i k i' k':Nat} (h:KV i k=KV i' k'):i=i'/\k=k':=by
 unfold KV at h;simp only [Value.agg.injEq,Array.mk.injEq,List.cons.injEq,Value.int.injEq,and_true,true_and]at h;omega
theorem wf_small {i:Nat} (hi:i<=60):(Lit.int .i64 (i:Int)).wf=true:=by
 simp only [Lit.wf,IntKind.min,IntKind.max,IntKind.bits,IntKind.signed,Bool.and_eq_true,decide_eq_true_eq];omega
theorem KV_key {i k:Nat} (hi:i<=60) (hk:k<=60):∃l,keyOf Tryz.prog 135 (KV i k)=some l:=
 ⟨_,Go.WideMaps.keyOf_pair arrI Tryz.underlying3 (Nat.exists_eq_succ_of_ne_zero (of_decide_eq_true (by kernel_rfl))) (wf_small hi) (wf_small hk)⟩
def MI (m:Nat) (cost:Nat->Nat->Rat) (V:World):Prop:=∃es clock,V.heap[m]? =some (.map es clock)/\Fit Tryz.prog 135 R0 es clock/\∀x∈es.toList,∃i k,i<=60/\k<=60/\x.key=KV i k/\∃ (a:Option Addr) (n c:Nat) (mm:Bool) (d:Option Addr) (e f:Nat),x.val= .agg #[.slice a n c,.bool mm,.slice d e f]/\Rd V (.slice a n c) mm (.slice d e f) (cost i k)
section
variable {w W W':World} {bs:List (Nat×Array Value×TypeId)} {os:List Rw} {rs:List (World->Prop)} {m:Nat} {cost:Nat->Nat->Rat}
theorem MI.isMap (h:MI m cost W):∃es k,W.heap[m]? =some (.map es k):=by obtain ⟨es,c,h,-⟩:=h;exact⟨es,c,h⟩
theorem MI.keep (h:MI m cost W) (hb:W'.heap[m]? =W.heap[m]?) (hk:Keeps64 W W'):MI m cost W':=by
 obtain ⟨es,c,hm,hF,hx⟩:=h;refine⟨es,c,hb.trans hm,hF,fun x hxm=>?_⟩;obtain ⟨i,k,hi,hk1,h1,a,n,cc,mm,d,e,f,h2,h3⟩:=hx x hxm;exact⟨i,k,hi,hk1,h1,a,n,cc,mm,d,e,f,h2,h3.keep64 hk⟩
theorem MI.away (h:Sy w W bs os rs) (hb:(bs.all fun x=> !row64 x.2.2)=true) (ho:(os.all fun o=> !row64 o.e)=true) (hM:MI m cost W) {V:World} (hV:Away (ownOf bs os) W V):MI m cost V:=by
 obtain ⟨es,c,hm⟩:=hM.isMap;exact hM.keep (hV.2 m (Array.getElem?_eq_some_iff.1 hm).1 (h.map_out hm)) (h.away_keeps64 hb ho hV)
theorem Sy.pM (h:Sy w W bs os rs) (hb:(bs.all fun x=> !row64 x.2.2)=true) (ho:(os.all fun o=> !row64 o.e)=true) (hM:MI m cost W):Sy w W bs os (rs++ [MI m cost]):=h.push (fun _ hV=>hM.away h hb ho hV)
theorem MI.turned (h:Sy w W bs os rs) (hb:(bs.all fun x=> !row64 x.2.2)=true) (ho:(os.all fun o=> !row64 o.e)=true) (hC:MCall m W W') (hM:MI m cost W') {V:World} (hV:Away (ownOf bs os) W' V):MI m cost V:=by
 obtain ⟨es,c,hmap⟩:=hC.away.isMap;have hno:=h.map_out hmap;have hml:m < W.heap.size:=(Array.getElem?_eq_some_iff.1 hmap).1;refine hM.keep (hV.2 m (Nat.lt_of_lt_of_le hml hC.away.size) hno) ⟨hV.1,fun k o hk hr=>(hV.2 k (Array.getElem?_eq_some_iff.1 hk).1 fun hm=>?_).trans hk⟩;have hne:k≠m:=fun e=>hno (e ▸ hm);have hkW:k < W.heap.size:=(h.own_ge hm).2;rw [hC.away.rest k hkW hne]at hk;rcases mem_own.1 hm with ⟨x,hx,rfl⟩ | ⟨q,hq,he⟩
 ·rw [(h.bx x hx).2]at hk;simp only [Option.some.injEq]at hk;subst hk;have:=List.all_eq_true.1 hb x hx;simp only [row64O]at hr;rw [hr]at this;exact Bool.noConfusion this
 ·rcases(h.ow q hq).2 with ⟨h1,_⟩ | ⟨g,cap,cur,h1,_,hg,_⟩
  ·rw [h1]at he;simp [Value.ownBlock]at he
  ·rw [h1]at he;simp only [Value.ownBlock,Option.some.injEq]at he;subst he;rw [hg]at hk;simp only [Option.some.injEq]at hk;subst hk;have:=List.all_eq_true.1 ho q hq;simp only [row64O]at hr;rw [hr]at this;exact Bool.noConfusion this
theorem MI.room (h:MI m cost W) {es:Array MapEntry} {c:Nat} (hm:W.heap[m]? =some (.map es c)):es.size < maxLen:=by
 obtain ⟨es',c',hm',hF,hx⟩:=h;rw [hm]at hm';cases hm';have hnd:=hF.stamped.2.2;have hsub:∀v∈es.toList.map (·.key),v∈(List.range 3721).map (fun j=>KV (j / 61) (j % 61)):=fun v hv=>by
  obtain ⟨x,hxm,rfl⟩:=List.mem_map.1 hv;obtain ⟨i,k,hi,hk,h1,-⟩:=hx x hxm;refine List.mem_map.2 ⟨i*61+k,List.mem_range.2 (by omega),?_⟩;show KV _ _=x.key;rw [h1,show(i*61+k) / 61=i by omega,show(i*61+k) % 61=k by omega]
 have:=hnd.length_le_of_subset hsub;rw [List.length_map,List.length_map,List.length_range]at this;have e:es.toList.length=es.size:=by simp
 unfold maxLen;omega
theorem MI.look (h:MI m cost W) {i k:Nat} (hi:i<=60) (hk:k<=60):
  (Instr.lookup 134 (.map (some m)) (KV i k) true).run Tryz.prog W= .ok (.tuple #[.agg #[.slice none 0 0,.bool false,.slice none 0 0],.bool false]) W\/
  ∃ (a:Option Addr) (n c:Nat) (mm:Bool) (d:Option Addr) (e f:Nat),(Instr.lookup 134 (.map (some m)) (KV i k) true).run Tryz.prog W= .ok (.tuple #[.agg #[.slice a n c,.bool mm,.slice d e f],.bool true]) W/\Rd W (.slice a n c) mm (.slice d e f) (cost i k):=by
 obtain ⟨es,c,hm,hF,hx⟩:=h;obtain ⟨l,hl⟩:=KV_key hi hk;rcases Go.Maps.fit_look true keyI und_costs (z:= .agg #[.slice none 0 0,.bool false,.slice none 0 0]) (by kernel_rfl) hm hF hl with ⟨h1,-⟩ | ⟨e0,y,hmem,hkey,h1,-⟩
 ·exact .inl h1
 ·obtain ⟨i',k',-,-,h2,a,n,cc,mm,d,e,f,h3,h4⟩:=hx e0 hmem;obtain ⟨rfl,rfl⟩:=KV_inj (hkey.symm.trans h2);rw [h3]at h1;exact .inr ⟨a,n,cc,mm,d,e,f,h1,h4⟩
theorem MI.store (h:MI m cost W) {i k:Nat} (hi:i<=60) (hk:k<=60) {a:Option Addr} {n c:Nat} {mm:Bool} {d:Option Addr} {e f:Nat} (hR:Rd W (.slice a n c) mm (.slice d e f) (cost i k)):
  ∃W',(Instr.mapUpdate 134 (.map (some m)) (KV i k) (.agg #[.slice a n c,.bool mm,.slice d e f])).run Tryz.prog W= .ok () W'/\MCall m W W'/\MI m cost W':=by
 have hroom:=h.room (es:=h.choose) (c:=h.choose_spec.choose) h.choose_spec.choose_spec.1;have h0:=h;obtain ⟨es,c0,hm,hF,hx⟩:=h;obtain ⟨l,hl⟩:=KV_key hi hk;have hroom:=h0.room hm;obtain ⟨es',c',h1,h2,-,-,-,h3⟩:=Go.Maps.fit_store (R':=R0) (yv:=(.nil,[])) (val:= .agg #[.slice a n c,.bool mm,.slice d e f]) keyI und_costs hm hF hroom (fun _ _ _ z hz=>hz) hl rfl;have hml:m < W.heap.size:=(Array.getElem?_eq_some_iff.1 hm).1;have hC:MCall m W (setBlock W m (.map es' c')):=⟨rfl,rfl,rfl,by simp [setBlock],⟨es,c0,hm⟩,fun b _ hn=>by
  show(W.heap.setIfInBounds m _)[b]? =_;rw [Array.getElem?_setIfInBounds,if_neg (fun e=>hn e.symm)]⟩
 refine⟨_,h1,hC,es',c',?_,h2,fun x hxm=>?_⟩
 ·show(W.heap.setIfInBounds m _)[m]? =_;rw [Array.getElem?_setIfInBounds,if_pos rfl,if_pos hml]
 ·rcases h3 x hxm with ⟨hx1,-⟩ | ⟨hx1,hx2⟩
  ·obtain ⟨i',k',hi',hk',e1,a',n',cc,mm',d',e',f',e2,e3⟩:=hx x hx1;exact⟨i',k',hi',hk',e1,a',n',cc,mm',d',e',f',e2,e3.keep64 hC.away.keeps64⟩
  ·exact⟨i,k,hi,hk,hx1,a,n,c,mm,d,e,f,hx2,hR.keep64 hC.away.keeps64⟩
theorem wpList_lookEq {P:Program} {ops:Array Oper} {rest:List Oper} {o:Oper} {a:Act} {Q:Exit->Act->World->Prop} (hg:o.guard=none) (mo x:Operand) (t:TypeId) (hop:o.op=Op.lookup t mo x true) {mv kv v:Value}
  (hm:a.eval mo=mv) (hx:a.eval x=kv) (hrun:(Instr.lookup t mv kv true).run P W= .ok v W) (h:wpList P ops Q rest (a.put o.dst v) W):wpList P ops Q (o::rest) a W:=by
 refine wpList_plain hg fun K' hK'=>?_;unfold Oper.wp;simp [execOp,hop,hm,hx,hrun,Result.andThen];exact hK' _ _ h
theorem wpList_updEq {P:Program} {ops:Array Oper} {rest:List Oper} {o:Oper} {a:Act} {Q:Exit->Act->World->Prop} (hg:o.guard=none) (mo x y:Operand) (t:TypeId) (hop:o.op=Op.mapUpdate t mo x y) {mv kv v:Value}
  (hm:a.eval mo=mv) (hx:a.eval x=kv) (hy:a.eval y=v) (hrun:(Instr.mapUpdate t mv kv v).run P W= .ok () W') (h:wpList P ops Q rest (a.put o.dst undef) W'):wpList P ops Q (o::rest) a W:=by
 refine wpList_plain hg fun K' hK'=>?_;unfold Oper.wp;simp [execOp,hop,hm,hx,hy,hrun,Result.andThen];exact hK' _ _ h
end
section
open Go.RowKit Go.Shelf Dig
structure Cut where
 a:OA
 n:Nat
 c:Nat
 m:Bool
 d:OA
 e:Nat
 f:Nat
 q:Rat
 ba:OA
 bn:Nat
 bc:Nat
 bs:List Int
def cC (x:Cut):List Value:=[.slice x.a x.n x.c,.bool x.m,.slice x.d x.e x.f,.slice x.ba x.bn x.bc]
def LC (T:List Cut):List Value:=T.flatMap cC
def CRd (B:Nat) (x:Cut) (V:World):Prop:=Rd V (.slice x.a x.n x.c) x.m (.slice x.d x.e x.f) x.q/\V.ownsRow B 3 1 (.slice x.ba x.bn x.bc) x.bn (L1 x.bs)
def nC (x:Cut):Option Ct:=if x.ba=none then none else some (x.q,x.bs)
section
variable (w:World)
theorem isNaN_any (x:Int):Calls Tryz.prog 185 #[.int .i64 x] w fun e w'=>e= .returned (.bool false)/\w'=w:=by
 have h:(x !=x)=false:=by simp
 go_enter Tryz.func185,Tryz.ntmps185;go_wp2;go_ret;exact⟨rfl,rfl⟩
theorem mW20_0 {P_:Prop} (h:P_:=by
 go_enter Tryz.func170,Tryz.ntmps170;go_wp2_with ((with_reducible refine(isNaN_any _ _).mono ?_);rintro e w1 ⟨rfl,rfl⟩)
 go_ret;exact⟨rfl,rfl⟩):P_:=h
theorem mW20_1 {P_:Prop} (h:P_:=by
 go_ret;exact⟨congrArg (fun z=>Ending.returned (Value.int .i64 z)) HE.out.symm,rfl⟩):P_:=h
theorem compare_any (x y:Int):Calls Tryz.prog 170 #[.int .i64 x,.int .i64 y] w fun e w'=>e= .returned (.int .i64 (cmpI x y))/\w'=w:=by
 unfold cmpI;by_cases h1:x < y
 ·rw [if_pos h1];exact mW20_0
 ·rw [if_neg h1];by_cases h2:y < x
  ·rw [if_pos h2];exact mW20_0
  ·rw [if_neg h2];exact mW20_0
theorem lexC_at {xs ys:List Int} {k:Nat} (h1:k < xs.length) (h2:k < ys.length):lexC (xs.drop k) (ys.drop k)=if cmpI xs[k] ys[k]=0 then lexC (xs.drop (k+1)) (ys.drop (k+1))else cmpI xs[k] ys[k]:=by
 rw [List.drop_eq_getElem_cons h1,List.drop_eq_getElem_cons h2];rfl
theorem lexC_over {xs ys:List Int} {k:Nat} (h1:k < xs.length) (h2:ys.length<=k):lexC (xs.drop k) (ys.drop k)=1:=by
 rw [List.drop_eq_getElem_cons h1,List.drop_of_length_le h2];rfl
theorem lexC_end {xs ys:List Int} {k:Nat} (h1:xs.length<=k):lexC (xs.drop k) (ys.drop k)=if k < ys.length then -1 else 0:=by
 rw [List.drop_of_length_le h1]
 split
 ·rename_i h;rw [List.drop_eq_getElem_cons h];rfl
 ·rename_i h;rw [List.drop_of_length_le (by omega)];rfl
theorem hlex_any (a1 a2:OA) (n1 c1 n2 c2:Nat) (xs ys:List Int) (h1:Sx 1 w a1 n1 c1 (L1 xs)) (h2:Sx 1 w a2 n2 c2 (L1 ys)):
  Calls Tryz.prog 140 #[.slice a1 n1 c1,.slice a2 n2 c2] w (fun e w'=>e= .returned (.int .i64 (lexC xs ys))/\w'=w):=by
 have cap1:=h1.cap;have cap2:=h2.cap;unfold maxLen at cap1 cap2;obtain rfl:=h1.n1;obtain rfl:=h2.n1;have H1:=ζ h1;have H2:=ζ h2;clear h1 h2;go_enter Tryz.func140,Tryz.ntmps140;go_wp2;go_loopw [11] (fun iv wr=>∃k:Nat,k<=xs.length/\k<=ys.length/\iv= .int .i64 k/\Hid (lexC xs ys=lexC (xs.drop k) (ys.drop k))/\wr=w) (fun iv _=>xs.length - (intOf iv).toNat)
 case atStart=>exact⟨0,Nat.zero_le _,Nat.zero_le _,rfl,ζ rfl,rfl⟩
 case round=>
  obtain ⟨k,hk,hk2,rfl,HL,rfl⟩:=hrel;by_cases hlt:k < xs.length
  ·have j0:(0:Int)<=(k:Int):=(by omega);have j1:(k:Int) < (xs.length:Int):=(by omega);obtain ⟨g1,o1,rfl⟩:=H1.out.addr (by omega);have y0:=H1.out.at1 hlt;by_cases hl2:k < ys.length
   ·have j2:(k:Int) < (ys.length:Int):=(by omega);obtain ⟨g2,o2,rfl⟩:=H2.out.addr (by omega);have y1:=H2.out.at1 hl2;have HS:=ζ (lexC_at hlt hl2);generalize xs[k]=x at*;generalize ys[k]=y at*;have HC:=ζ (fun W=>compare_any W x y);obtain ⟨z,hz⟩:∃z,cmpI x y=z:=⟨_,rfl⟩
    rw [hz]at HC HS;clear hz;by_cases h0:z=0
    ·subst h0;go_wp2_with ((with_reducible refine(HC.out _).mono ?_);rintro e w1 ⟨rfl,rfl⟩)
     go_roundw
     case rel=>exact⟨k+1,by omega,by omega,by go_num,ζ (by rw [HL.out,HS.out];simp),by first | rfl | trivial⟩
     case measure=>simp [intOf];omega
    ·have HE:=ζ (show lexC xs ys=z by rw [HL.out,HS.out,if_neg h0]);clear HL HS;have h0b:(z !=0)=true:=bne_iff_ne.2 h0;go_wp2_with ((with_reducible refine(HC.out _).mono ?_);rintro e w1 ⟨rfl,rfl⟩)
     exact mW20_1
   ·obtain rfl:k=ys.length:=by omega
    have HE:=ζ (show lexC xs ys=1 by rw [HL.out,lexC_over hlt (Nat.le_refl _)]);clear HL;go_wp2;exact mW20_1
  ·obtain rfl:k=xs.length:=by omega
   have HE:=ζ (show lexC xs ys=if xs.length < ys.length then -1 else 0 by rw [HL.out,lexC_end (Nat.le_refl _)]);clear HL;by_cases hl2:xs.length < ys.length
   ·rw [if_pos hl2]at HE;have j2:(xs.length:Int) < (ys.length:Int):=(by omega);go_wp2;exact mW20_1
   ·rw [if_neg hl2]at HE;have j2:¬ (xs.length:Int) < (ys.length:Int):=(by omega);go_wp2;exact mW20_1
theorem Rd.below {w W:World} {s s':Value} {m:Bool} {q:Rat} (h:Rd w s m s' q) (hb:Below w.heap.size w W):Rd W s m s' q:=h.keep64 ⟨hb.size,fun k _ hk _=>(hb.block k (Array.getElem?_eq_some_iff.1 hk).1).trans hk⟩
theorem better_any (B:Nat) (x y:Cut) (hx:CRd B x w) (hy:CRd B y w) {k1 k2:Nat} (b1:Bq k1 x.q) (b2:Bq k2 y.q) (hk1:k1<=40000) (hk2:k2<=40000):
  Calls Tryz.prog 78 #[.agg (cC x).toArray,.agg (cC y).toArray] w (Gives (.bool (betB (x.q,x.bs) (nC y))) w):=by
 obtain ⟨a1,n1,c1,m1,d1,e1,f1,q1,ba1,bn1,bc1,bs1⟩:=x;obtain ⟨a2,n2,c2,m2,d2,e2,f2,q2,ba2,bn2,bc2,bs2⟩:=y;have HC:=ζ (fun W (hW:Below w.heap.size w W)=>hcmp_is (v:=cmpQ q1 q2) (hx.1.below hW) (hy.1.below hW) b1 b2 hk1 hk2 rfl);have HL:=ζ (fun W (hW:Below w.heap.size w W)=>hlex_any W ba1 ba2 bn1 bc1 bn2 bc2 bs1 bs2 ((Sx.owns hx.2).below hW) ((Sx.owns hy.2).below hW));have hnil:=isnil_int ba2 bn2 bc2;obtain ⟨v,hv⟩:∃v,betB (q1,bs1) (nC ⟨a2,n2,c2,m2,d2,e2,f2,q2,ba2,bn2,bc2,bs2⟩)=v:=⟨_,rfl⟩
 show Calls Tryz.prog 78 #[.agg #[.slice a1 n1 c1,.bool m1,.slice d1 e1 f1,.slice ba1 bn1 bc1],.agg #[.slice a2 n2 c2,.bool m2,.slice d2 e2 f2,.slice ba2 bn2 bc2]] w (Gives (.bool (betB (q1,bs1) (nC ⟨a2,n2,c2,m2,d2,e2,f2,q2,ba2,bn2,bc2,bs2⟩))) w);rw [hv];clear hx hy b1 b2 hk1 hk2;cases ba2 with
 | none=>
   have HV:=ζ (show true=v from hv);clear hv HC HL;go_enter Tryz.func78,Tryz.ntmps78;go_upto_region 1 with (first | (refine wpList_bx (o:=⟨some 2,_,_,_,_,_⟩) rfl (Sy.enter w) _ _ rfl #[.slice a1 n1 c1,.bool m1,.slice d1 e1 f1,.slice ba1 bn1 bc1] rfl ?_;intro b2 V1 h1;have hA:=ζ h1;clear h1) | (refine wpList_bx (o:=⟨some 3,_,_,_,_,_⟩) rfl hA.out _ _ rfl #[.slice a2 n2 c2,.bool m2,.slice d2 e2 f2,.slice none bn2 bc2] rfl ?_;intro b3 V2 h2;have hD:=ζ h2;clear h2 hA) | fail)
   have y3:=hD.out.c 1 3;go_wp2;go_ret;exact⟨congrArg (fun z=>Ending.returned (Value.bool z)) HV.out,hD.out.be⟩
 | some A2=>
   have HV:=ζ (show(decide (cmpQ q1 q2 < 0) || (decide (cmpQ q1 q2=0) && decide (lexC bs1 bs2 < 0)))=v from hv);clear hv;generalize cmpQ q1 q2=z at*;generalize lexC bs1 bs2=lx at*;go_enter Tryz.func78,Tryz.ntmps78;go_upto_region 1 with (first | (refine wpList_bx (o:=⟨some 2,_,_,_,_,_⟩) rfl (Sy.enter w) _ _ rfl #[.slice a1 n1 c1,.bool m1,.slice d1 e1 f1,.slice ba1 bn1 bc1] rfl ?_;intro b2 V1 h1;have hA:=ζ h1;clear h1) | (refine wpList_bx (o:=⟨some 3,_,_,_,_,_⟩) rfl hA.out _ _ rfl #[.slice a2 n2 c2,.bool m2,.slice d2 e2 f2,.slice (some A2) bn2 bc2] rfl ?_;intro b3 V2 h2;have hD:=ζ h2;clear h2 hA) | fail)
   have x0:=hD.out.c 0 0;have x1:=hD.out.c 0 1;have x2:=hD.out.c 0 2;have y0:=hD.out.c 1 0;have y1:=hD.out.c 1 1;have y2:=hD.out.c 1 2;have y3:=hD.out.c 1 3;go_wp2_with fail
   refine(HC.out _ hD.out.be).mono ?_;rintro e W3 ⟨rfl,hb⟩;have hE:=ζ (hD.out.call hb);clear hb hD x0 x1 x2 y0 y1 y2 y3 HC;by_cases h0:z < 0
   ·have AA:=ζ (show true=v by rw [<-HV.out,decide_eq_true h0,Bool.true_or]);clear HV HL;go_wp2;go_ret;exact⟨congrArg (fun z=>Ending.returned (Value.bool z)) AA.out,hE.out.be⟩
   ·by_cases h1:z=0
    ·subst h1;have x3:=hE.out.c 0 3;have y3:=hE.out.c 1 3;go_wp2_with fail
     refine(HL.out _ hE.out.be).mono ?_;rintro e W4 ⟨rfl,rfl⟩;have AA:=ζ (show decide (lx < 0)=v by rw [<-HV.out];simp);clear HV HL;by_cases h2:lx < 0
     ·rw [decide_eq_true h2]at AA;go_wp2;go_ret;exact⟨congrArg (fun z=>Ending.returned (Value.bool z)) AA.out,hE.out.be⟩
     ·rw [decide_eq_false h2]at AA;go_wp2;go_ret;exact⟨congrArg (fun z=>Ending.returned (Value.bool z)) ((decide_eq_false (by omega)).trans AA.out),hE.out.be⟩
    ·have AA:=ζ (show false=v by rw [<-HV.out,decide_eq_false h0,decide_eq_false h1];rfl);clear HV HL;have h1b:(z==0)=false:=beq_eq_false_iff_ne.2 h1;go_wp2;go_ret;exact⟨congrArg (fun z=>Ending.returned (Value.bool z)) ((decide_eq_false (by omega)).trans AA.out),hE.out.be⟩
end
end
end Go.Proofs.YthmdhlopeponcaaGreatDoor
