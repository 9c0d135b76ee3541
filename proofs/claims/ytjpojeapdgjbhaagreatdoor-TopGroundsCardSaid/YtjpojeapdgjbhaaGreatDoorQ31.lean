/- part -/
import Derived.Test.YtjpojeapdgjbhaaGreatDoorQ21
import Derived.Shelf.GgSortFunc.RowK
namespace Go.Proofs.YtjpojeapdgjbhaaGreatDoor
open Go.RowKit Go.Sort
section
variable {α:Type} [Inhabited α] {W:World} {g n c m size:Nat} {e:TypeId} {os:Array Obj} {base:Nat} {xs:List Value}
theorem put_heap (enc:α->Value) (d:Array α) {cur:Array Value} {fr:Nat×Nat} (hb:W.heap[g]? =some (.cells cur e fr)):
  (grow (putRow enc (Sort.ahead W m) g 0 d) os).heap[g]? =some (.cells (putCells enc 0 d cur) e fr):=by
 have hg:g < W.heap.size:=(Array.getElem?_eq_some_iff.1 hb).1;rw [heap_grow_old _ _ (by simpa using hg)];simp [putRow,mapBlock,Sort.ahead,Array.getElem?_modify,hb,onCells]
theorem put_grown (enc:α->Value) (d:Array α):W.grownBy (grow (putRow enc (Sort.ahead W m) g 0 d) os) (some g):=by
 refine⟨rfl,rfl,rfl,by simp,fun k hk hne=>?_⟩;rw [heap_grow_old _ _ (by simpa using hk)];have:g≠k:=fun e=>hne (by rw [e]);simp [putRow,mapBlock,Sort.ahead,Array.getElem?_modify,this]
theorem put_take (enc:α->Value) (cur:Array Value) (d:Array α) (h:d.size<=cur.size):(putCells enc 0 d cur).toList.take d.size=d.toList.map enc:=by
 apply List.ext_getElem?;intro j;by_cases hj:j < d.size
 ·rw [List.getElem?_take_of_lt hj,Array.getElem?_toList];simp [putCells,hj,show j < cur.size by omega]
 ·rw [List.getElem?_take_eq_none (by omega),List.getElem?_eq_none (by simp;omega)]
theorem put_owns (enc:α->Value) (d:Array α) (h:W.ownsRow base e size (.slice (some ⟨g,0,none⟩) n c) n xs) (hd:d.size=n*size):
  (grow (putRow enc (Sort.ahead W m) g 0 d) os).ownsRow base e size (.slice (some ⟨g,0,none⟩) n c) n (d.toList.map enc):=by
 rcases h.2 with ⟨h1,_⟩ | ⟨g',cap,cur,hv,hb,hg,h4,h5,h6,h7⟩
 ·cases h1
 ·simp only [Value.slice.injEq,Option.some.injEq,Addr.mk.injEq,and_true,true_and]at hv;obtain ⟨rfl,rfl⟩:=hv;have hle:n*size<=c*size:=Nat.mul_le_mul_right _ h4;exact⟨by simp [hd],.inr ⟨g,c,_,rfl,hb,put_heap enc d hg,h4,h5,by simp [putCells,h6],by rw [<-hd];exact put_take enc cur d (by omega)⟩⟩
theorem holds_own (enc:α->Value) (d:Array α) (h:W.ownsRow base e size (.slice (some ⟨g,0,none⟩) n c) n (d.toList.map enc)):Holds enc W g 0 d:=by
 rcases h.2 with ⟨h1,_⟩ | ⟨g',cap,cur,hv,hb,hg,h4,h5,h6,h7⟩
 ·cases h1
 ·simp only [Value.slice.injEq,Option.some.injEq,Addr.mk.injEq,and_true,true_and]at hv;obtain ⟨rfl,rfl⟩:=hv;intro j hj;refine⟨?_,by simp [World.frozen?,hg]⟩;have hl:=h.1;simp only [List.length_map,Array.length_toList]at hl;have h1:(cur.toList.take (n*size))[j]? =(d.toList.map enc)[j]? :=by rw [h7]
  rw [List.getElem?_take_of_lt (by omega)]at h1;simp only [World.cell?,hg,Nat.zero_add];simp only [Option.isSome_none,Bool.false_eq_true,if_false];rw [<-Array.getElem?_toList,h1];simp [hj]
theorem flatK_list (enc:α->List Value) (k:Nat) (hk:∀x,(enc x).length=k) (d:Array α):(flatK enc k d).toList=d.toList.flatMap enc:=by
 refine List.ext_getElem? fun t=>?_;have hl:(d.toList.flatMap enc).length=d.size*k:=by rw [flat_len hk,Array.length_toList]
 by_cases ht:t < d.size*k
 ·have k0:0 < k:=by
   rcases Nat.eq_zero_or_pos k with h | h
   ·subst h;simp at ht
   ·exact h
  have hq:t / k < d.size:=by rw [Nat.div_lt_iff_lt_mul k0];exact ht
  have hr:t % k < k:=Nat.mod_lt _ k0;have e1:=get_flatK enc k d t ht;have hs:t < (flatK enc k d).size:=by rw [size_flatK];exact ht
  rw [getElem!_pos _ t hs]at e1;rw [Array.getElem?_toList,Array.getElem?_eq_getElem hs,e1];have e2:=flat_get hk d.toList (t / k) (t % k) (by simpa using hq) hr;rw [Nat.div_add_mod' t k]at e2;rw [e2,getElem!_pos d _ hq];have hx:t % k < (enc d[t / k]).length:=by rw [hk];exact hr
  rw [Array.getElem_toList,List.getElem?_eq_getElem hx,getElem!_pos (enc d[t / k]) (t % k) hx]
 ·rw [List.getElem?_eq_none (by rw [Array.length_toList,size_flatK];omega),List.getElem?_eq_none (by omega)]
variable {w:World} {bs:List (Nat×Array Value×TypeId)} {oss:List Rw} {rs:List (World->Prop)}
theorem Sy.sortedP (h:Sy w W bs oss rs) (i:Nat) (hi:oss[i]? =some ⟨.slice (some ⟨g,0,none⟩) n c,e,size,n,xs⟩) (enc:α->Value) (d:Array α) (hd:d.size=n*size):
  Sy w (grow (putRow enc (Sort.ahead W m) g 0 d) os) bs (oss.set i ⟨.slice (some ⟨g,0,none⟩) n c,e,size,n,d.toList.map enc⟩) rs:=
 h.oset i hi (put_owns enc d (h.orow0 i hi) hd) (put_grown enc d) (Since.refl _ _)
end
end Go.Proofs.YtjpojeapdgjbhaaGreatDoor
