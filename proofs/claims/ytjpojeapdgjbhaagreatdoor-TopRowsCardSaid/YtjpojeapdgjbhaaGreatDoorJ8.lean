/- part -/
import Derived.Test.YtjpojeapdgjbhaaGreatDoorJ1
import Derived.Shelf.GgSortFunc.Insertion
import Derived.Lib.OwnBridge
import Derived.RangeFuncRecord
namespace Go.Proofs.YtjpojeapdgjbhaaGreatDoor
open Go.RowKit
section
variable {w W V:World} {bs:List (Nat×Array Value×TypeId)} {os:List Rw} {rs:List (World->Prop)} {own:List Nat}
theorem Sy.oaddr (h:Sy w W bs os rs) (i:Nat) {a:Option Addr} {n c:Nat} {e:TypeId} {size:Nat} {xs:List Value} (hi:os[i]? =some ⟨.slice a n c,e,size,n,xs⟩) (hn:0 < n):∃g,a=some ⟨g,0,none⟩/\n<=c:=by
 rcases(h.orow i hi).2 with ⟨h1,h2⟩ | ⟨g,cap,cur,hv,_,_,h4,_⟩
 ·omega
 ·simp only [Value.slice.injEq]at hv;obtain ⟨rfl,_,rfl⟩:=hv;exact⟨g,rfl,h4⟩
end
structure Shuts (ds:List Nat) (A B:World):Prop where
 os:B.os=A.os
 tape:B.tape=A.tape
 output:B.output=A.output
 size:B.heap.size=A.heap.size
 at_:∀k,k∉ds->B.heap[k]? =A.heap[k]?
theorem setRow_size {W:World} {g:Nat} {cs:Array Value} :(W.setRow g cs).heap.size=W.heap.size:=by simp [World.setRow]
theorem setRow_ne {W:World} {g k:Nat} {cs:Array Value} (h:k≠g):(W.setRow g cs).heap[k]? =W.heap[k]? :=by
 simp only [World.setRow,Array.getElem?_modify];rw [if_neg (fun e=>h e.symm)]
theorem setRow_at {W:World} {g:Nat} {cs old:Array Value} {t:TypeId} (h:W.heap[g]? =some (.cells old t (0,0))):(W.setRow g cs).heap[g]? =some (.cells cs t (0,0)):=by
 simp [World.setRow,Array.getElem?_modify,h]
section
variable {w W:World} {bs:List (Nat×Array Value×TypeId)} {os:List Rw} {rs:List (World->Prop)}
theorem Sy.setAll (h:Sy w W bs os rs) (i:Nat) {b:Nat} {cs:Array Value} {t:TypeId} (cs':Array Value) (hx:bs[i]? =some (b,cs,t)):Sy w (W.setRow b cs') (bs.set i (b,cs',t)) os rs:=by
 obtain ⟨hi,hx'⟩:=List.getElem?_eq_some_iff.1 hx;obtain ⟨h1,h2⟩:=h.at_ i hx;have hmap:(bs.set i (b,cs',t)).map (fun x=>x.1)=bs.map (fun x=>x.1):=by
  rw [List.map_set];refine List.ext_getElem? fun k=>?_;rw [List.getElem?_set];by_cases e:i=k
  ·subst e;rw [if_pos rfl,List.length_map,if_pos hi,List.getElem?_map,hx];rfl
  ·rw [if_neg e]
 have hown:ownOf (bs.set i (b,cs',t)) os=ownOf bs os:=by unfold ownOf;rw [hmap]
 have hbo:b∈ownOf bs os:=mem_own.2 (.inl ⟨_,List.mem_of_getElem? hx,rfl⟩);have hnd:=h.inc;unfold ownOf at hnd;rw [List.nodup_append]at hnd;refine h.step rfl rfl rfl ⟨by rw [setRow_size];exact Nat.le_refl _,fun c _ hn=>setRow_ne (fun e=>hn (by rw [e];exact hbo))⟩ (fun c hc=> .inl (by rw [hown]at hc;exact hc)) (fun x hxm=>?_) (fun o ho=>?_) (by rw [hown];exact h.inc)
 ·obtain ⟨k,hkl,hk2⟩:=List.getElem_of_mem hxm;rw [List.length_set]at hkl;rw [List.getElem_set]at hk2;by_cases e:i=k
  ·rw [if_pos e]at hk2;subst hk2;exact⟨h1,setRow_at h2⟩
  ·rw [if_neg e]at hk2;subst hk2;obtain ⟨g1,g2⟩:=h.bx bs[k] (List.getElem_mem hkl);exact⟨g1,(setRow_ne (fun e'=>nodup_idx hnd.1 hx (List.getElem?_eq_getElem hkl) e e'.symm)).trans g2⟩
 ·refine World.ownsRow.kept (row:=some b) (h.ow o ho) ⟨rfl,rfl,rfl,by rw [setRow_size];exact Nat.le_refl _,fun c _ hn=>setRow_ne (fun e=>hn (by rw [e]))⟩ (.inr fun e=>?_);exact hnd.2.2 b (List.mem_map.2 ⟨_,List.mem_of_getElem? hx,rfl⟩) b (List.mem_filterMap.2 ⟨o,ho,e⟩) rfl
end
section
variable {w W:World} {bs:List (Nat×Array Value×TypeId)} {os:List Rw} {rs:List (World->Prop)} {P:Program}
theorem Sx.range {α:Type} {f:α->List Value} {k:Nat} (hf:∀x,(f x).length=k) {g o n c:Nat} {l:List α} (h:Sx k W (some ⟨g,o,none⟩) n c (l.flatMap f)) {i:Nat} (hi:i < l.length):W.rangeAt g (o+i*k) (f l[i]):=fun j v hj=>by
 have hl:=(List.getElem?_eq_some_iff.1 hj).1;rw [hf]at hl;rw [Nat.add_assoc];exact h.cell ((flat_get hf l i j hi hl).trans hj)
theorem Sy.range (h:Sy w W bs os rs) (i:Nat) {b:Nat} {cs:Array Value} {t:TypeId} (hx:bs[i]? =some (b,cs,t)):W.rangeAt b 0 cs.toList:=fun j v hj=>by
 rw [Nat.zero_add];exact h.cell i j hx (by simpa using hj)
theorem op_ld {o:Oper} {a:Act} {K:Act->World->Prop} {Q:Exit->Act->World->Prop} (ty:TypeId) (x:Operand) (ho:o.op= .load ty x)
  (b j:Nat) (hx:a.eval x= .pointer (some ⟨b,j,none⟩)) (cs:List Value) (d:TypeDesc) (hc:W.rangeAt b j cs)
  (hu:P.underlying ty=some d) (hd:d.isRow=true) (hi:(P.info? ty).map (·.size)=some cs.length) (v:Value) (hv:Value.agg cs.toArray=v)
  (h:K (a.put o.dst v) W):o.wp P a W K Q:=by
 subst hv;exact wp_load_mid ty x ho b j hx cs d hc hu hd hi h
theorem wpList_ld {ops:Array Oper} {rest:List Oper} {o:Oper} {a:Act} {Q:Exit->Act->World->Prop} (hgd:o.guard=none) (ty:TypeId) (x:Operand) (ho:o.op= .load ty x)
  (b j:Nat) (hx:a.eval x= .pointer (some ⟨b,j,none⟩)) (cs:List Value) (d:TypeDesc) (hc:W.rangeAt b j cs)
  (hu:P.underlying ty=some d) (hd:d.isRow=true) (hi:(P.info? ty).map (·.size)=some cs.length) (v:Value) (hv:Value.agg cs.toArray=v)
  (h:wpList P ops Q rest (a.put o.dst v) W):wpList P ops Q (o::rest) a W:=
 wpList_plain hgd fun _ hK=>op_ld ty x ho b j hx cs d hc hu hd hi v hv (hK _ _ h)
theorem wpList_ldg {ops:Array Oper} {rest:List Oper} {o:Oper} {a:Act} {Q:Exit->Act->World->Prop} (hgd:Region.wanted o (yielded ops a.tmps)=true) (ty:TypeId) (x:Operand) (ho:o.op= .load ty x)
  (b j:Nat) (hx:a.eval x= .pointer (some ⟨b,j,none⟩)) (cs:List Value) (d:TypeDesc) (hc:W.rangeAt b j cs)
  (hu:P.underlying ty=some d) (hd:d.isRow=true) (hi:(P.info? ty).map (·.size)=some cs.length) (v:Value) (hv:Value.agg cs.toArray=v)
  (h:wpList P ops Q rest (a.put o.dst v) W):wpList P ops Q (o::rest) a W:=
 wpList_step fun _ hK=>by rw [if_pos hgd];exact op_ld ty x ho b j hx cs d hc hu hd hi v hv (hK _ _ h)
theorem op_st {o:Oper} {a:Act} {K:Act->World->Prop} {Q:Exit->Act->World->Prop} (h:Sy w W bs os rs) (i:Nat) {b:Nat} {old:Array Value} {t:TypeId} (hb:bs[i]? =some (b,old,t)) (ty:TypeId) (x y:Operand) (ho:o.op= .store ty x y)
  (hx:a.eval x= .pointer (some ⟨b,0,none⟩)) (cells:Array Value) (hy:a.eval y= .agg cells) (hi:(P.info? ty).map (·.size)=some cells.size)
  (hold:old.size=cells.size) (h1:cells.all (·.oneCell')=true)
  (hK:∀V,Sy w V (bs.set i (b,cells,t)) os rs->K (a.put o.dst undef) V):o.wp P a W K Q:=
 wp_store_row ty x y ho b cells hx hy t old (h.at_ i hb).2 hi hold h1 (hK _ (h.setAll i cells hb))
theorem wpList_st {ops:Array Oper} {rest:List Oper} {o:Oper} {a:Act} {Q:Exit->Act->World->Prop} (hgd:o.guard=none) (h:Sy w W bs os rs) (i:Nat) {b:Nat} {old:Array Value} {t:TypeId} (hb:bs[i]? =some (b,old,t)) (ty:TypeId) (x y:Operand) (ho:o.op= .store ty x y)
  (hx:a.eval x= .pointer (some ⟨b,0,none⟩)) (cells:Array Value) (hy:a.eval y= .agg cells) (hi:(P.info? ty).map (·.size)=some cells.size)
  (hold:old.size=cells.size) (h1:cells.all (·.oneCell')=true)
  (hK:∀V,Sy w V (bs.set i (b,cells,t)) os rs->wpList P ops Q rest (a.put o.dst undef) V):wpList P ops Q (o::rest) a W:=
 wpList_plain hgd fun _ hK'=>op_st h i hb ty x y ho hx cells hy hi hold h1 (fun V hV=>hK' _ _ (hK V hV))
theorem op_bx {o:Oper} {a:Act} {K:Act->World->Prop} {Q:Exit->Act->World->Prop} (h:Sy w W bs os rs) (t:TypeId) (x:Operand) (ho:o.op= .box t x) (cells:Array Value) (hx:(a.eval x).cells=cells)
  (hK:∀b V,Sy w V (bs++ [(b,cells,t)]) os rs->K (a.put o.dst (.pointer (some ⟨b,0,none⟩))) V):Oper.wp P o a W K Q:=by
 subst hx;unfold Oper.wp execOp;simp only [ho,Sem.run_bind,Instr.box,newVar,newRow,run_newObj_alloc,Sem.run_pure,Result.andThen_ok];exact hK _ _ (h.al W.heap.size _ t rfl)
theorem wpList_bx {ops:Array Oper} {rest:List Oper} {o:Oper} {a:Act} {Q:Exit->Act->World->Prop} (hgd:o.guard=none) (h:Sy w W bs os rs) (t:TypeId) (x:Operand) (ho:o.op= .box t x) (cells:Array Value) (hx:(a.eval x).cells=cells)
  (hK:∀b V,Sy w V (bs++ [(b,cells,t)]) os rs->wpList P ops Q rest (a.put o.dst (.pointer (some ⟨b,0,none⟩))) V):wpList P ops Q (o::rest) a W:=
 wpList_plain hgd fun _ hK'=>op_bx h t x ho cells hx (fun b V hV=>hK' _ _ (hK b V hV))
theorem op_al {o:Oper} {a:Act} {K:Act->World->Prop} {Q:Exit->Act->World->Prop} (h:Sy w W bs os rs) (t:TypeId) (ho:o.op= .alloc t) (z:Value) (hz:(P.info? t).map (·.zero)=some (some z))
  (hK:∀b V,Sy w V (bs++ [(b,z.cells,t)]) os rs->K (a.put o.dst (.pointer (some ⟨b,0,none⟩))) V):Oper.wp P o a W K Q:=by
 obtain ⟨i,hi,hz2⟩:=Option.map_eq_some_iff.1 hz;unfold Oper.wp execOp;have hzr:(zeroValue t).run P W= .ok z W:=by
  simp [zeroValue,typeInfo,hi,hz2]
 simp only [ho,Sem.run_bind,Instr.alloc,hzr,newVar,newRow,run_newObj_alloc,Sem.run_pure,Result.andThen_ok];exact hK _ _ (h.al W.heap.size _ t rfl)
theorem wpList_al {ops:Array Oper} {rest:List Oper} {o:Oper} {a:Act} {Q:Exit->Act->World->Prop} (hgd:o.guard=none) (h:Sy w W bs os rs) (t:TypeId) (ho:o.op= .alloc t) (z:Value) (hz:(P.info? t).map (·.zero)=some (some z))
  (hK:∀b V,Sy w V (bs++ [(b,z.cells,t)]) os rs->wpList P ops Q rest (a.put o.dst (.pointer (some ⟨b,0,none⟩))) V):wpList P ops Q (o::rest) a W:=
 wpList_plain hgd fun _ hK'=>op_al h t ho z hz (fun b V hV=>hK' _ _ (hK b V hV))
theorem yieldsIf_ld {ops:Array Oper} {S:World->Prop} {op:Oper} {a:Act} (hw:Region.wanted op (yielded ops a.tmps)=true) (ty:TypeId) (x:Operand) (ho:op.op= .load ty x)
  (b o:Nat) (hx:a.eval x= .pointer (some ⟨b,o,none⟩)) (cs:List Value) (d:TypeDesc) (hS:∀w,S w->w.rangeAt b o cs)
  (hu:P.underlying ty=some d) (hd:d.isRow=true) (hi:(P.info? ty).map (·.size)=some cs.length) (v:Value) (hv:Value.agg cs.toArray=v):YieldsIf P ops S op v a:=by
 subst hv;exact yieldsIf_load_mid hw ty x ho b o hx cs d hS hu hd hi
theorem results_cell_row {fn:Func} {p:Tmp} {ty:TypeId} (h:fn.results=#[.cell p ty]) (tmps:Array Value) (w:World) (g:Nat) (t:TypeId) (cs:Array Value) (fr:Nat×Nat) (d:TypeDesc)
  (hp:tmps.getD p undef= .pointer (some ⟨g,0,none⟩)) (hg:w.heap[g]? =some (.cells cs t fr))
  (hu:P.underlying ty=some d) (hd:(match d with | .struct _ | .array _ _=>true | _=>false)=true) (hi:(P.info? ty).map (·.size)=some cs.size):
  (results fn tmps).run P w= .ok (.agg cs) w:=by
 have hp':tmps[p]?.getD undef= .pointer (some ⟨g,0,none⟩):=by simpa using hp
 simp [results,h,hp',asAddr,run_loadVar_row w g t ty cs fr d hg hu hd hi]
theorem results_cell_tmp_row {fn:Func} {p u:Tmp} {ty:TypeId} (h:fn.results=#[.cell p ty,.tmp u]) (tmps:Array Value) (w:World) (g:Nat) (t:TypeId) (cs:Array Value) (fr:Nat×Nat) (d:TypeDesc)
  (hp:tmps.getD p undef= .pointer (some ⟨g,0,none⟩)) (hg:w.heap[g]? =some (.cells cs t fr))
  (hu:P.underlying ty=some d) (hd:(match d with | .struct _ | .array _ _=>true | _=>false)=true) (hi:(P.info? ty).map (·.size)=some cs.size):
  (results fn tmps).run P w= .ok (.tuple #[.agg cs,tmps.getD u undef]) w:=by
 have hp':tmps[p]?.getD undef= .pointer (some ⟨g,0,none⟩):=by simpa using hp
 simp [results,h,hp',asAddr,run_loadVar_row w g t ty cs fr d hg hu hd hi]
theorem results_cell2_tmp_row {fn:Func} {p q u:Tmp} {ty ty':TypeId} (h:fn.results=#[.cell p ty,.cell q ty',.tmp u]) (tmps:Array Value) (w:World) (g g':Nat) (t t':TypeId) (cs cs':Array Value) (fr fr':Nat×Nat) (d d':TypeDesc)
  (hp:tmps.getD p undef= .pointer (some ⟨g,0,none⟩)) (hg:w.heap[g]? =some (.cells cs t fr))
  (hu:P.underlying ty=some d) (hd:(match d with | .struct _ | .array _ _=>true | _=>false)=true) (hi:(P.info? ty).map (·.size)=some cs.size)
  (hp2:tmps.getD q undef= .pointer (some ⟨g',0,none⟩)) (hg2:w.heap[g']? =some (.cells cs' t' fr'))
  (hu2:P.underlying ty'=some d') (hd2:(match d' with | .struct _ | .array _ _=>true | _=>false)=true) (hi2:(P.info? ty').map (·.size)=some cs'.size):
  (results fn tmps).run P w= .ok (.tuple #[.agg cs,.agg cs',tmps.getD u undef]) w:=by
 have hp':tmps[p]?.getD undef= .pointer (some ⟨g,0,none⟩):=by simpa using hp
 have hp2':tmps[q]?.getD undef= .pointer (some ⟨g',0,none⟩):=by simpa using hp2
 simp [results,h,hp',hp2',asAddr,run_loadVar_row w g t ty cs fr d hg hu hd hi,run_loadVar_row w g' t' ty' cs' fr' d' hg2 hu2 hd2 hi2]
end
end Go.Proofs.YtjpojeapdgjbhaaGreatDoor
