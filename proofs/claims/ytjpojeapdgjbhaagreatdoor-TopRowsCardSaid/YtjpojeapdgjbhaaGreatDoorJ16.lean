/- part -/
import Derived.Test.YtjpojeapdgjbhaaGreatDoorJ15
import Derived.Great.BuildSlice
namespace Go.Proofs.YtjpojeapdgjbhaaGreatDoor
open Go.RowKit
theorem fill_sheet (t:Sht):Instr.fill (fun i=>some (i*20,20)) ((Array.range (1*20)).map (zShe.cells[· % zShe.cells.size]!)) [(0,Value.agg (cS t).toArray)]=some (cS t).toArray:=by kernel_rfl
theorem fill_wall (x:Wal):Instr.fill (fun i=>some (i*4,4)) ((Array.range (1*4)).map (zW.cells[· % zW.cells.size]!)) [(0,Value.agg (cWa x).toArray)]=some (cWa x).toArray:=by kernel_rfl
theorem op_bs {P:Program} {w W:World} {bs:List (Nat×Array Value×TypeId)} {os:List Rw} {rs:List (World->Prop)} {o:Oper} {a:Act} {K:Act->World->Prop} {Q:Exit->Act->World->Prop} (h:Sy w W bs os rs) (t e:TypeId) (x:Operand) (ho:o.op= .buildSlice t 1 #[(0,x)]) (size:Nat) (z:Value) (cells:Array Value) (v:Value)
  (hu:P.underlying t=some (.slice e)) (hi:(P.info? e).map (fun i=>(i.zero,i.size))=some (some z,size)) (hp:0 < size) (hm:size<=1000) (hx:a.eval x=v)
  (hf:Instr.fill (fun i=>some (i*size,size)) ((Array.range (1*size)).map (z.cells[· % z.cells.size]!)) [(0,v)]=some cells) (hs:cells.size=1*size)
  (hK:∀g V,Sy w V bs (os++ [⟨.slice (some ⟨g,0,none⟩) 1 1,e,size,1,cells.toList⟩]) rs->K (a.put o.dst (.slice (some ⟨g,0,none⟩) 1 1)) V):o.wp P a W K Q:=by
 subst hx;obtain ⟨ie,hie,hz⟩:=Option.map_eq_some_iff.1 hi;simp only [Prod.mk.injEq]at hz;obtain ⟨hz1,hz2⟩:=hz;subst hz2;exact wp_buildSlice t e 1 _ ho cells ie z hu hie hz1 (by omega) (by omega) (by simpa using hf) (hK _ _ (h.onew W.heap.size cells e ie.size 1 rfl (by omega) hs))
theorem und_Sheets:Tryz.prog.underlying 29=some (.slice 39):=Tryz.underlying29
theorem und_Walls:Tryz.prog.underlying 30=some (.slice 36):=Tryz.underlying30
end Go.Proofs.YtjpojeapdgjbhaaGreatDoor
