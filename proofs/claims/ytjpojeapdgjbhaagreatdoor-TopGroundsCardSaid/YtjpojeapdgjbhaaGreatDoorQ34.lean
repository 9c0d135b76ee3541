/- part -/
import Derived.Test.YtjpojeapdgjbhaaGreatDoorQ23
namespace Go.Proofs.YtjpojeapdgjbhaaGreatDoor
open Go.RowKit
section
variable {w W:World} {bs:List (Nat×Array Value×TypeId)} {os:List Rw} {rs:List (World->Prop)} {P:Program}
theorem wpList_makeK_sy {ops:Array Oper} {rest:List Oper} {o:Oper} {a:Act} {Q:Exit->Act->World->Prop} (hgd:o.guard=none) (h:Sy w W bs os rs) (t e:TypeId) (l c:Operand) (ho:o.op= .makeSlice t l c) (z:Value) (size bytes:Nat) (n:Nat)
  (hl:a.eval l= .int .i64 (n:Int)) (hc:a.eval c= .int .i64 (n:Int)) (ht:P.underlying t=some (.slice e)) (hinfo:(P.info? e).map (fun i=>(i.zero,i.size,i.bytes))=some (some z,size,bytes)) (hn:n<=1000000) (hb:bytes<=1000)
  (hK:∀g V xs,Sy w V bs (os++ [⟨.slice (some ⟨g,0,none⟩) n n,e,size,n,xs⟩]) rs->wpList P ops Q rest (a.put o.dst (.slice (some ⟨g,0,none⟩) n n)) V):wpList P ops Q (o::rest) a W:=by
 refine wpList_plain hgd fun K hK'=>?_;obtain ⟨i,hi,hz,hs,hby⟩:=info_parts hinfo;have hbn:bytes*n<=1000*1000000:=Nat.mul_le_mul hb hn;have hr:=run_make (P:=P) (w:=W) t e i z ht hi hz .i64 .i64 n n (by omega) (Int.le_refl _) (by rw [hby,<-Int.natCast_mul];omega) (by omega);simp only [Int.toNat_natCast,hs]at hr;unfold Oper.wp execOp;simp only [ho,hl,hc,hr,Sem.run_bind,Sem.run_pure,Result.andThen_ok];exact hK' _ _ (hK _ _ _ (h.onew W.heap.size (madeCells z.cells (n*size)) e size n rfl (by omega) (size_madeCells _ _)))
theorem ownsRow_setRow {g n c size:Nat} {e:TypeId} {xs ys:List Value} (h:W.ownsRow 0 e size (.slice (some ⟨g,0,none⟩) n c) n xs) (hy:ys.length=n*size):
  ∃cur,W.heap[g]? =some (.cells cur e (0,0))/\n*size<=cur.size/\(W.setRow g (ys++cur.toList.drop (n*size)).toArray).ownsRow 0 e size (.slice (some ⟨g,0,none⟩) n c) n ys/\W.grownBy (W.setRow g (ys++cur.toList.drop (n*size)).toArray) (some g):=by
 rcases h.2 with ⟨h1,_⟩ | ⟨g',cap,cur,hv,hb,hg,h4,h5,h6,h7⟩
 ·cases h1
 ·simp only [Value.slice.injEq,Option.some.injEq,Addr.mk.injEq,and_true,true_and]at hv;obtain ⟨rfl,rfl⟩:=hv;have hle:n*size<=c*size:=Nat.mul_le_mul_right _ h4;refine⟨cur,hg,by omega,⟨hy,.inr ⟨g,c,_,rfl,hb,setRow_heap W g cur _ e _ hg,h4,h5,?_,?_⟩⟩,⟨rfl,rfl,rfl,by simp [World.setRow],fun k _ hk=>setRow_other W g k _ (fun e=>hk (by rw [e]))⟩⟩
  ·simp only [List.size_toArray,List.length_append,List.length_drop,Array.length_toList];omega
  ·rw [<-hy];simp
theorem wpList_copyK_sy {ops:Array Oper} {rest:List Oper} {o:Oper} {a:Act} {Q:Exit->Act->World->Prop} (hgd:o.guard=none) (h:Sy w W bs os rs) (i:Nat) {g n c size:Nat} {e:TypeId} {xs ys:List Value} {b:Option Addr} {c':Nat}
  (hi:os[i]? =some ⟨.slice (some ⟨g,0,none⟩) n c,e,size,n,xs⟩) (hj:Sx size W b n c' ys) (hn0:0 < n) (d s:Operand) (dT sT:TypeId) (ho:o.op= .call { callee:= .builtin .copy,args:=#[d,s],argTypes:=#[dT,sT] })
  (ht:P.underlying dT=some (.slice e)) (hinfo:(P.info? e).map (·.size)=some size) (hd:a.eval d= .slice (some ⟨g,0,none⟩) n c) (hs:a.eval s= .slice b n c') (h1:∀u∈ys,u.oneCell'=true)
  (hK:∀V,Sy w V bs (os.set i ⟨.slice (some ⟨g,0,none⟩) n c,e,size,n,ys⟩) rs->wpList P ops Q rest (a.put o.dst (goInt n)) V):wpList P ops Q (o::rest) a W:=by
 refine wpList_plain hgd fun K hK'=>?_;obtain ⟨cur,hg,hcs,hrow,hgr⟩:=ownsRow_setRow (h.orow0 i hi) hj.1;obtain ⟨i0,hi0,hsz⟩:=Option.map_eq_some_iff.1 hinfo;obtain ⟨g2,o2,rfl,hlt,hcell⟩:=hj.2.2.2 hn0;have hadd:∀j,(⟨g2,o2,none⟩:Addr).add j=⟨g2,o2+j,none⟩:=fun j=>Addr.add_lit ..;have hl:=run_loadCells_list (P:=P) W ⟨g2,o2,none⟩ ys (fun j v hv=>by rw [hadd];exact hcell j v hv);have hst:=run_storeCells_at P g 0 e ys 0 cur W hg (by have:=hj.1;omega) h1;rw [hj.1]at hl hst;have hrun:(Builtin.copy_ #[dT,sT] o.type #[.slice (some ⟨g,0,none⟩) n c,.slice (some ⟨g2,o2,none⟩) n c']).run P W= .ok (goInt n) (W.setRow g (ys++cur.toList.drop (n*size)).toArray):=by
  simp only [Nat.zero_add,List.take_zero,List.nil_append]at hst;simp [Builtin.copy_,run_underlying ht,Builtin.lenOf,Builtin.firstCells,sizeOf,typeInfo,hi0,hsz,hl,hst]
 unfold Oper.wp execOp;simp only [ho,resolve,invoke,builtin,Sem.run_bind,Sem.run_pure,Result.andThen_ok,List.map_toArray,List.map_cons,List.map_nil,hd,hs,hrun];exact hK' _ _ (hK _ (h.oset i hi hrow hgr (Since.refl _ _)))
end
end Go.Proofs.YtjpojeapdgjbhaaGreatDoor
