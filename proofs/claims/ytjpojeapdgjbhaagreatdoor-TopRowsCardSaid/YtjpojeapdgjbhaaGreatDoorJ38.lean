/- part -/
import Derived.Test.YtjpojeapdgjbhaaGreatDoorRows
import Derived.Test.YtjpojeapdgjbhaaGreatDoorJ2
import Derived.Lib.SmallJoins
import Derived.Lay
import Derived.LaidOnce
import Derived.SevenTiedAt
namespace Go.Proofs.YtjpojeapdgjbhaaGreatDoor
open Go.ChangeShapes Go.WideShapes Go.RowKit Go.Joins
theorem own:ownKnob Tryz.prog.godebug=none:=by kernel_rfl
section
variable {H:Type} {enc:TypeId×Value->H} {W:World} {base:Nat}
theorem int_wf {k:IntKind} {n:Int} (h:(Lit.int k n).wf=true):k.min<=n/\n<=k.max:=by simpa [Lit.wf] using h
variable {P:Program} {base':Nat} {spare:Nat->Bool} {held:Bool} {args:Array Value} {ds:List (DataW H)} {ps:List MemPlace} {t1 t2 t3 t4 t5:TypeId}
theorem open_2 (h:DataW.TrodAll enc P W base' spare held [t1,t2] args.toList ds ps):
  ∃v1 v2 d1 d2 p1 p2,args=#[v1,v2]/\ds= [d1,d2]/\ps=p1++p2/\DataW.Trod enc P W base' spare held t1 v1 d1 p1/\DataW.Trod enc P W base' spare held t2 v2 d2 p2:=by
 obtain ⟨v,v',d,d',p,p',h1,h2,h3,h4⟩:=trodAll_two h;exact⟨v,v',d,d',p,p',h1,h2,h3,h4⟩
end
open Go.Deep
section
variable {H:Type} {enc:TypeId×Value->H} {P:Program} {w:World} {base:Nat} {spare:Nat->Bool} {held:Bool}
theorem open_slice_fields {t e:TypeId} {fs:Array Field} {fuel:Nat} {cs:List Value} {x:DataW H×List MemPlace} (ht:P.underlying t=some (.slice e)) (he:P.underlying e=some (.struct fs))
  (hone:oneCellFields P fs=true) (hC:P.cellsOf e=fs.size) (h:DataW.trod enc P w base spare held fuel t cs=some x):
  (cs= [.slice none 0 0]/\x=(.nil,[]))\/
  ∃ (a:Addr) (len cap m:Nat) (D:Nat->DataW H) (Pl:Nat->List MemPlace),cs= [.slice (some a) len cap]/\base<=a.block/\len<=cap/\cap<=maxLen/\m=(if spare a.block then cap else len)/\
    x=(.slice ((List.range len).map D) ((List.range (m - len)).map fun j=>D (len+j)),MemPlace.row a (m*fs.size)++(List.range m).flatMap Pl)/\
    ∀i,i < m->∃ (ys:List (DataW H×List MemPlace)) (n:Nat),D i= .agg (ys.map (·.1))/\Pl i=ys.flatMap (·.2)/\ys.length=fs.size/\
     ∀ (j:Nat) (f:Field),fs[j]? =some f->∃ (v:Value) (y:DataW H×List MemPlace),w.cell? (a.add (i*fs.size+j))=some v/\ys[j]? =some y/\DataW.trod enc P w base spare held n f.type [v]=some y:=by
 rcases open_slice ht h with h0 | ⟨a,len,cap,m,n,D,Pl,hcs,hb,hl,hm,hmm,hx,hi⟩
 ·exact .inl h0
 ·refine .inr ⟨a,len,cap,m,D,Pl,hcs,hb,hl,hm,hmm,by rw [hC]at hx;exact hx,fun i him=>?_⟩;obtain ⟨cs',hc,ht'⟩:=hi i him;rw [hC]at hc;obtain ⟨ys,n',hn',hy,hlen,hyl,hf⟩:=DataW.trod_struct he ht';obtain ⟨_,hcl,hat⟩:=World.cells?_some hc;simp only [Prod.mk.injEq]at hy;refine⟨ys,n',hy.1,hy.2,hyl,fun j f hj=>?_⟩;obtain ⟨ho,hk⟩:=hone_of hone j f hj;have hjl:j < fs.size:=(Array.getElem?_eq_some_iff.1 hj).1;have hcell:=hat j hjl;have hv:cs'[j]? =some (cs'[j]'(by omega)):=List.getElem?_eq_getElem (by omega);have h1:=hf j f hj;rw [ho,hk]at h1;have hone':(cs'.drop j).take 1= [cs'[j]'(by omega)]:=by
   rw [List.drop_eq_getElem_cons (by omega)];rfl
  rw [hone']at h1;have hys:ys[j]? =some (ys[j]'(by omega)):=List.getElem?_eq_getElem (by omega);refine⟨_,_,?_,hys,h1.trans hys⟩;rw [<-Go.Deep.add_add,hcell,hv]
end
section
variable {H:Type} {enc:TypeId×Value->H} {W:World} {base:Nat}
theorem laidOut:laidOutB Tryz.prog=true:=by kernel_rfl
end
open Go.Deep Go.Joins
section
variable {H:Type} {enc:TypeId×Value->H} {W:World} {base:Nat}
theorem choose_row {α:Type} [Inhabited α] {n:Nat} {R:Nat->α->Prop} (h:∀i,i < n->∃x,R i x):∃l:List α,l.length=n/\∀i (hi:i < l.length),R i l[i]:=by
 induction n with
 | zero=>exact⟨[],rfl,fun i hi=>absurd hi (Nat.not_lt_zero i)⟩
 | succ n ih=>
   obtain ⟨l,hl,hR⟩:=ih fun i hi=>h i (by omega);obtain ⟨x,hx⟩:=h n (by omega);refine⟨l++ [x],by rw [List.length_append,hl];rfl,fun i hi=>?_⟩;rw [List.getElem_append]
   split
   ·exact hR i _
   ·rw [List.length_append,List.length_singleton]at hi;have e:i=n:=(by omega);subst e;simpa [hl] using hx
end
end Go.Proofs.YtjpojeapdgjbhaaGreatDoor
