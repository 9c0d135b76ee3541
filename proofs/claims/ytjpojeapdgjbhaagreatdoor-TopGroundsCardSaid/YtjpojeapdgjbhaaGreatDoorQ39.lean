/- part -/
import Derived.Test.YtjpojeapdgjbhaaGreatDoorQ33
import Derived.Test.YtjpojeapdgjbhaaGreatDoorRows
import Derived.LaidMore
namespace Go.Proofs.YtjpojeapdgjbhaaGreatDoor
open Go.RowKit Go.Shelf Go.ChangeShapes
theorem cons_of_len {α:Type} {l:List α} {n:Nat} (h:l.length=n+1):∃a r,l=a::r:=by
 cases l with
 | nil=>cases h
 | cons a r=>exact⟨a,r,rfl⟩
theorem first_trod {H:Type} {enc:TypeId×Value→H} {P:Program} {w:World} {base:Nat} {spare:Nat→Bool} {held:Bool} {fuel:Nat} {t:TypeId} {cs:List Value} {x:DataW H×List MemPlace} {k:Nat} {e:TypeId} (ht:P.underlying t=some (.array (k+1) e)) (hce:P.cellsOf e=1) (hct:P.cellsOf t=k+1)
  (h:DataW.trod enc P w base spare held fuel t cs=some x):∃v vr y yr m,cs=v::vr∧x.1= .agg (y.1::yr)∧DataW.trod enc P w base spare held m e [v]=some y:=by
 obtain ⟨xs,m,-,he,hl,hn,hx⟩:=DataW.trod_array ht h;rw [hct]at hl;have h0:=hx 0 (Nat.succ_pos _);rw [hce]at h0;obtain ⟨v,vr,rfl⟩:=cons_of_len hl;obtain ⟨y,yr,rfl⟩:=cons_of_len hn;exact⟨v,vr,y,yr.map (·.1),m,rfl,by rw [he];rfl,h0⟩
theorem cells_way:Tryz.prog.cellsOf 252=1:=by kernel_rfl
theorem cells_ways:Tryz.prog.cellsOf 253=4:=by kernel_rfl
theorem ways_of {W:World} (h:laidMetH Tryz.prog Rows.topGroundsRow.laid W):Ways W:=by
 obtain ⟨g,t,cs,fuel,p,hg,ht,hv,hd⟩:=h.funcs (n:= "copestone/stone.ways") (List.mem_cons_of_mem _ (List.mem_cons_self ..))
 obtain rfl:=Option.some.inj ((show Tryz.prog.globalNamed "copestone/stone.ways" =some 0 by kernel_rfl).symm.trans hg)
 obtain rfl:=Option.some.inj ((show(Tryz.prog.globals[0]?).map (·.type)=some 253 by kernel_rfl).symm.trans ht);obtain ⟨v,vr,y,yr,m,hc,he,h1⟩:=first_trod Tryz.underlying253 cells_way cells_ways hd;have e2:DataW.agg [_,_,_,_]=DataW.agg (y.1::yr):=he;have e0:DataW.held _=y.1:=(List.cons.inj (DataW.agg.inj e2)).1;obtain ⟨y1,y2⟩:=y;dsimp only at e0;subst e0;obtain rfl:=Go.func_of_trod (f0:=279) (b:=99) Tryz.underlying252 (by kernel_rfl) h1;have:=World.var?_cell hg hv 0;unfold Ways;rw [this,←Array.getElem?_toList,hc];rfl
end Go.Proofs.YtjpojeapdgjbhaaGreatDoor
