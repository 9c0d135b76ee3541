/- part -/
import Derived.WalkKit
import Derived.Lib.Hide
import Derived.Deep.RegionHeld3
namespace Go.Proofs.YtjpojeapdgjbhaaGreatDoor
open Go.RowKit
def Since (B:Nat) (v v':Value):Prop:=∀k,v'.ownBlock=some k->v.ownBlock=some k\/B<=k
theorem Since.refl (B:Nat) (v:Value):Since B v v:=fun _ h=> .inl h
theorem Since.trans {B:Nat} {u v x:Value} (h:Since B u v) (k:Since B v x):Since B u x:=fun j hj=>by
 rcases k j hj with h1 | h1
 ·exact h j h1
 ·exact .inr h1
theorem Since.mono {B B':Nat} {u v:Value} (h:Since B u v) (hb:B'<=B):Since B' u v:=fun j hj=>(h j hj).imp id (Nat.le_trans hb)
section
variable {P:Program} (w:World)
theorem run_append_row (t ty e:TypeId) (i:TypeInfo) (z:Value) (size bytes:Nat) (ht:P.underlying t=some (.slice e)) (hi:P.info? e=some i) (hz:i.zero=some z)
  (hsize:i.size=size) (hby:i.bytes=bytes) (hzs:z.cells.size=size) (hsz:0 < size)
  (v:Value) (n:Nat) (xs:List Value) (hown:w.ownsRow 0 e size v n xs)
  (s:Value) (m:Nat) (news:List Value) (hsrc:w.ownsRow 0 e size s m news) (h1:∀u∈news,u.oneCell'=true)
  (h63:n+m<=1000000000) (hbytes:bytes<=100000):
  ∃a' c' w',(Builtin.append_ #[t,t] ty #[v,s]).run P w= .ok (.slice a' (n+m) c') w'/\w'.ownsRow 0 e size (.slice a' (n+m) c') (n+m) (xs++news)/\w.grownBy w' v.ownBlock/\Since w.heap.size v (.slice a' (n+m) c'):=by
 have hmax:n+m<=maxLen:=by simp only [maxLen];omega
 have hb47:(n+m)*bytes<=140737488355328:=Nat.le_trans (Nat.mul_le_mul h63 hbytes) (by omega);rcases hsrc.2 with ⟨rfl,rfl⟩ | ⟨gs,cs,curs,rfl,_,hgs,_⟩
 ·
  have hn:news= []:=List.eq_nil_of_length_eq_zero (by simpa using hsrc.1);subst hn;have hr:=run_append_owned_none (P:=P) w 0 t ty e i size ht hi v n xs hown;rcases hown.2 with ⟨rfl,rfl⟩ | ⟨g,cap,cur,rfl,_⟩
  ·exact⟨none,0,w,by simpa using hr,by simpa using hown,⟨rfl,rfl,rfl,Nat.le_refl _,fun _ _ _=>rfl⟩,Since.refl _ _⟩
  ·exact⟨some ⟨g,0,none⟩,cap,w,by simpa using hr,by simpa using hown,⟨rfl,rfl,rfl,Nat.le_refl _,fun _ _ _=>rfl⟩,Since.refl _ _⟩
 ·have hcells:∀j u,news[j]? =some u->w.cell? ((⟨gs,0,none⟩:Addr).add j)=some u:=hsrc.cells (g:=gs) rfl;obtain ⟨v',w',hr,h2,h3,_⟩:=run_append_own (P:=P) w 0 t ty e i z size bytes ht hi hz hsize hby hzs hsz v n xs hown ⟨gs,0,none⟩ m cs news hsrc.1 hcells h1 hmax hb47 (Nat.zero_le _);have hfr:Since w.heap.size v v':=by
   intro k hk;subst hsize;rcases hown.2 with ⟨rfl,rfl⟩ | ⟨g,cap,cur,rfl,hbg,hg,hnc,hcm,hcs,htake⟩
   ·by_cases hm:m=0
    ·subst hm;have hx:xs= []:=List.eq_nil_of_length_eq_zero (by simpa using hown.1);rcases h2.2 with ⟨rfl,_⟩ | ⟨g',cap',cur',rfl,_,hg',hnc',_⟩
     ·simp [Value.ownBlock]at hk
     ·have hr':(Builtin.append_ #[t,t] ty #[.slice none 0 0,.slice (some ⟨gs,0,none⟩) 0 cs]).run P w= .ok (.slice none 0 0) w:=by
       simp [Builtin.append_,run_underlying ht,sizeOf,typeInfo,hi,Builtin.lenOf,Builtin.firstCells,loadCells,loadCellsFrom]
      rw [hr']at hr;simp at hr
    ·rw [run_append_nil (P:=P) w t ty e i z ht hi hz ⟨gs,0,none⟩ m cs news hsrc.1 hcells (by omega) (by omega) (by rw [hby];have:=hb47;simp only [Nat.zero_add]at this;omega)]at hr;simp only [Result.ok.injEq]at hr;rw [<-hr.1]at hk;simp only [Value.ownBlock,Option.some.injEq]at hk;exact .inr (by omega)
   ·by_cases hroom:n+m<=cap
    ·have hfit:n*i.size+news.length<=cur.size:=(by rw [hsrc.1,hcs,<-Nat.add_mul];exact Nat.mul_le_mul_right _ hroom);rw [run_append_room (P:=P) w t ty e i ht hi g n cap cur hg ⟨gs,0,none⟩ m cs news hsrc.1 hcells h1 hroom hfit]at hr;simp only [Result.ok.injEq]at hr;rw [<-hr.1]at hk;exact .inl hk
    ·have holds:∀j u,xs[j]? =some u->w.cell? ((⟨g,0,none⟩:Addr).add j)=some u:=hown.cells (g:=g) rfl;rw [run_append_grow (P:=P) w t ty e i z ht hi hz ⟨g,0,none⟩ n cap xs hown.1 holds ⟨gs,0,none⟩ m cs news hsrc.1 hcells (by omega) (by omega) (by rw [hby];exact growslice_fits (by omega) hb47)]at hr;simp only [Result.ok.injEq]at hr;rw [<-hr.1]at hk;simp only [Value.ownBlock,Option.some.injEq]at hk;exact .inr (by omega)
  rcases h2.2 with ⟨rfl,h0⟩ | ⟨g',cap',cur',rfl,_⟩
  ·have:n+m=0:=h0;rw [this]at h2⊢;exact⟨none,0,w',hr,h2,h3,hfr⟩
  ·exact⟨some ⟨g',0,none⟩,cap',w',hr,h2,h3,hfr⟩
theorem wpList_append_row {ops:Array Oper} {rest:List Oper} {o:Oper} {a:Act} {Q:Exit->Act->World->Prop} (hgd:o.guard=none) (s x:Operand) (t:TypeId)
  (ho:o.op= .call { callee:= .builtin .append,args:=#[s,x],argTypes:=#[t,t] })
  (e:TypeId) (i:TypeInfo) (z:Value) (size bytes:Nat) (ht:P.underlying t=some (.slice e)) (hi:P.info? e=some i) (hz:i.zero=some z)
  (hsize:i.size=size) (hby:i.bytes=bytes) (hzs:z.cells.size=size) (hsz:0 < size)
  (v:Value) (n:Nat) (xs:List Value) (hs:a.eval s=v) (hown:w.ownsRow 0 e size v n xs)
  (sv:Value) (m:Nat) (news:List Value) (hx:a.eval x=sv) (hsrc:w.ownsRow 0 e size sv m news) (h1:∀u∈news,u.oneCell'=true)
  (h63:n+m<=1000000000) (hbytes:bytes<=100000)
  (h:∀a' c' w',w'.ownsRow 0 e size (.slice a' (n+m) c') (n+m) (xs++news)->w.grownBy w' v.ownBlock->Since w.heap.size v (.slice a' (n+m) c')->wpList P ops Q rest (a.put o.dst (.slice a' (n+m) c')) w'):wpList P ops Q (o::rest) a w:=by
 refine wpList_plain hgd fun _ hK=>?_;obtain ⟨a',c',w',hr,h2,h3,h4⟩:=run_append_row (P:=P) w t o.type e i z size bytes ht hi hz hsize hby hzs hsz v n xs hown sv m news hsrc h1 h63 hbytes;unfold Oper.wp execOp;simp only [ho,resolve,invoke,builtin,Sem.run_bind,Sem.run_pure,Result.andThen_ok,List.map_toArray,List.map_cons,List.map_nil,hs,hx,hr];exact hK _ _ (h a' c' w' h2 h3 h4)
end
theorem ownsRow_new (w:World) (cs:Array Value) (e:TypeId) (size n:Nat) (hm:n<=1000000000) (hs:cs.size=n*size):
  (w.alloc (.cells cs e)).ownsRow 0 e size (.slice (some ⟨w.heap.size,0,none⟩) n n) n cs.toList:=
 World.ownsRow_lit (base:=0) w cs n (Nat.zero_le _) (by simp only [maxLen];omega) hs
structure Rw where
 v:Value
 e:TypeId
 size:Nat
 n:Nat
 xs:List Value
def Away (own:List Nat) (W V:World):Prop:=W.heap.size<=V.heap.size/\∀b,b < W.heap.size->b∉own->V.heap[b]? =W.heap[b]?
def ownOf (bs:List (Nat×Array Value×TypeId)) (os:List Rw):List Nat:=bs.map (fun x=>x.1)++os.filterMap (fun o=>o.v.ownBlock)
structure Sy (w W:World) (bs:List (Nat×Array Value×TypeId)) (os:List Rw) (rs:List (World->Prop)):Prop where
 be:Below w.heap.size w W
 bx:∀x∈bs,w.heap.size<=x.1/\W.heap[x.1]? =some (.cells x.2.1 x.2.2 (0,0))
 ow:∀o∈os,W.ownsRow w.heap.size o.e o.size o.v o.n o.xs
 inc:(ownOf bs os).Nodup
 rd:∀r∈rs,∀V,Away (ownOf bs os) W V->r V
section
variable {w W:World} {bs:List (Nat×Array Value×TypeId)} {os:List Rw} {rs:List (World->Prop)}
theorem Away.refl (own:List Nat) (W:World):Away own W W:=⟨Nat.le_refl _,fun _ _ _=>rfl⟩
theorem Sy.enter (w:World):Sy w w [] [] []:=⟨Below.refl _ _,by simp,by simp,by simp [ownOf],by simp⟩
theorem mem_own {bs:List (Nat×Array Value×TypeId)} {os:List Rw} {b:Nat} :b∈ownOf bs os↔(∃x∈bs,x.1=b)\/∃o∈os,o.v.ownBlock=some b:=by
 unfold ownOf;simp only [List.mem_append,List.mem_map,List.mem_filterMap]
theorem Sy.own_ge (h:Sy w W bs os rs) {b:Nat} (hb:b∈ownOf bs os):w.heap.size<=b/\b < W.heap.size:=by
 rcases mem_own.1 hb with ⟨x,hx,rfl⟩ | ⟨o,ho,he⟩
 ·exact⟨(h.bx x hx).1,(Array.getElem?_eq_some_iff.1 (h.bx x hx).2).1⟩
 ·exact World.ownsRow.lt (h.ow o ho) b he
theorem Sy.step (h:Sy w W bs os rs) {W':World} {bs':List (Nat×Array Value×TypeId)} {os':List Rw} (e1:W'.os=W.os) (e2:W'.tape=W.tape) (e3:W'.output=W.output) (hA:Away (ownOf bs os) W W')
  (hown:∀b∈ownOf bs' os',b∈ownOf bs os\/W.heap.size<=b) (bx:∀x∈bs',w.heap.size<=x.1/\W'.heap[x.1]? =some (.cells x.2.1 x.2.2 (0,0)))
  (ow:∀o∈os',W'.ownsRow w.heap.size o.e o.size o.v o.n o.xs) (inc:(ownOf bs' os').Nodup):Sy w W' bs' os' rs where
 be:=⟨e1.trans h.be.os,e2.trans h.be.tape,e3.trans h.be.output,Nat.le_trans h.be.size hA.1,fun k hk=>
  (hA.2 k (Nat.lt_of_lt_of_le hk h.be.size) (fun hm=>by have:=(h.own_ge hm).1;omega)).trans (h.be.block k hk)⟩
 bx:=bx
 ow:=ow
 inc:=inc
 rd r hr V hV:=h.rd r hr V ⟨Nat.le_trans hA.1 hV.1,fun b hb hn=>(hV.2 b (Nat.lt_of_lt_of_le hb hA.1) (fun hm=>by
  rcases hown b hm with h1 | h1
  ·exact hn h1
  ·omega)).trans (hA.2 b hb hn)⟩
theorem Sy.call {W':World} (h:Sy w W bs os rs) (hb:Below W.heap.size W W'):Sy w W' bs os rs:=
 h.step hb.os hb.tape hb.output ⟨hb.size,fun b hl _=>hb.block b hl⟩ (fun b hm=> .inl hm)
   (fun x hx=>⟨(h.bx x hx).1,(hb.block _ (Array.getElem?_eq_some_iff.1 (h.bx x hx).2).1).trans (h.bx x hx).2⟩)
   (fun o ho=>World.ownsRow.kept (row:=none) (h.ow o ho) ⟨hb.os,hb.tape,hb.output,hb.size,fun k hk _=>hb.block k hk⟩ (by cases hv:o.v.ownBlock<;>simp)) h.inc
theorem Sy.drew (h:Sy w W bs os rs):Sy w W.drew bs os rs:=h.call (Below.refl _ _).drew
theorem Sy.row (h:Sy w W bs os rs) {o:Obj} :Sy w (W.alloc o) bs os rs:=h.call ((Below.refl _ _).alloc (Nat.le_refl _) _)
theorem own_snocB (bs:List (Nat×Array Value×TypeId)) (os:List Rw) (b:Nat) (cs:Array Value) (t:TypeId) (c:Nat):c∈ownOf (bs++ [(b,cs,t)]) os↔c∈ownOf bs os\/c=b:=by
 simp only [mem_own,List.mem_append,List.mem_singleton];constructor
 ·rintro (⟨x,hx | rfl,rfl⟩ | h)
  ·exact .inl (.inl ⟨x,hx,rfl⟩)
  ·exact .inr rfl
  ·exact .inl (.inr h)
 ·rintro ((⟨x,hx,rfl⟩ | h) | rfl)
  ·exact .inl ⟨x,.inl hx,rfl⟩
  ·exact .inr h
  ·exact .inl ⟨_,.inr rfl,rfl⟩
theorem Sy.al (h:Sy w W bs os rs) (b:Nat) (cs:Array Value) (t:TypeId) (hb:b=W.heap.size):Sy w (W.alloc (.cells cs t)) (bs++ [(b,cs,t)]) os rs:=by
 subst hb;have hr:=h.row (o:= .cells cs t);refine h.step rfl rfl rfl ⟨by simp,fun b hl _=>by show(W.heap.push _)[b]? =_;rw [Array.getElem?_push,if_neg (by omega)]⟩ (fun b hm=>?_) (fun x hx=>?_) hr.ow ?_
 ·rcases(own_snocB _ _ _ _ _ _).1 hm with h1 | rfl
  ·exact .inl h1
  ·exact .inr (Nat.le_refl _)
 ·rcases List.mem_append.1 hx with hx | hx
  ·exact hr.bx x hx
  ·rcases List.mem_singleton.1 hx with rfl;exact⟨h.be.size,by show(W.heap.push _)[W.heap.size]? =_;rw [Array.getElem?_push,if_pos rfl]⟩
 ·have hi:=h.inc;unfold ownOf at hi⊢;rw [List.map_append,List.map_cons,List.map_nil,List.append_assoc];rw [List.nodup_append]at hi⊢;obtain ⟨h1,h2,h3⟩:=hi;refine⟨h1,?_,fun a ha c hc=>?_⟩
  ·rw [List.singleton_append,List.nodup_cons];refine⟨fun hm=>?_,h2⟩;have:=(h.own_ge (b:=W.heap.size) (by unfold ownOf;exact List.mem_append_right _ hm)).2;omega
  ·rcases List.mem_append.1 hc with hc | hc
   ·rcases List.mem_singleton.1 hc with rfl;have:=(h.own_ge (b:=a) (by unfold ownOf;exact List.mem_append_left _ ha)).2;omega
   ·exact h3 a ha c hc
theorem Sy.at_ (h:Sy w W bs os rs) (i:Nat) {b:Nat} {cs:Array Value} {t:TypeId} (hx:bs[i]? =some (b,cs,t)):w.heap.size<=b/\W.heap[b]? =some (.cells cs t (0,0)):=h.bx _ (List.mem_of_getElem? hx)
theorem Sy.cell (h:Sy w W bs os rs) (i j:Nat) {b:Nat} {cs:Array Value} {t:TypeId} {v:Value} (hx:bs[i]? =some (b,cs,t)) (hv:cs[j]? =some v):W.cell? ⟨b,j,none⟩=some v:=by
 have:=(h.at_ i hx).2;simp [World.cell?,this,hv]
theorem Sy.free (h:Sy w W bs os rs) (i j:Nat) {b:Nat} {cs:Array Value} {t:TypeId} (hx:bs[i]? =some (b,cs,t)):W.frozen? ⟨b,j,none⟩=false:=by
 have:=(h.at_ i hx).2;simp [World.frozen?,this]
theorem Sy.c (h:Sy w W bs os rs) (i j:Nat) {b:Nat} {cs:Array Value} {t:TypeId} {v:Value} (hx:bs[i]? =some (b,cs,t):=by with_unfolding_all exact rfl) (hv:cs.toList[j]? =some v:=by with_unfolding_all exact rfl):W.cell? ⟨b,j,none⟩=some v:=h.cell i j hx (by rw [<-Array.getElem?_toList];exact hv)
theorem Sy.f (h:Sy w W bs os rs) (i j:Nat) {b:Nat} {cs:Array Value} {t:TypeId} (hx:bs[i]? =some (b,cs,t):=by with_unfolding_all exact rfl):W.frozen? ⟨b,j,none⟩=false:=h.free i j hx
theorem Sy.lt (h:Sy w W bs os rs) (i:Nat) {b:Nat} {cs:Array Value} {t:TypeId} (hx:bs[i]? =some (b,cs,t)):b < W.heap.size:=(Array.getElem?_eq_some_iff.1 (h.at_ i hx).2).1
theorem setCell_at {W:World} {b j:Nat} {cs:Array Value} {t:TypeId} {u:Value} (h:W.heap[b]? =some (.cells cs t (0,0))):(W.setCell ⟨b,j,none⟩ u).heap[b]? =some (.cells (cs.setIfInBounds j u) t (0,0)):=by
 simp [World.setCell,Array.getElem?_modify,h]
theorem setCell_size {W:World} {a:Addr} {u:Value} :(W.setCell a u).heap.size=W.heap.size:=by simp [World.setCell]
theorem nodup_idx {α:Type} {l:List α} {f:α->Nat} (h:(l.map f).Nodup) {i k:Nat} {x y:α} (hx:l[i]? =some x) (hy:l[k]? =some y) (hne:i≠k):f x≠f y:=by
 intro e;have hi:=(List.getElem?_eq_some_iff.1 hx)
 have hk:=(List.getElem?_eq_some_iff.1 hy)
 have h1:(l.map f)[i]? =some (f x):=by rw [List.getElem?_map,hx];rfl
 have h2:(l.map f)[k]? =some (f x):=by rw [List.getElem?_map,hy,e];rfl
 exact hne ((List.getElem?_inj (by rw [List.length_map];exact hi.1) h).1 (h1.trans h2.symm))
theorem Sy.set (h:Sy w W bs os rs) (i:Nat) {j b:Nat} {cs:Array Value} {t:TypeId} {v:Value} (hx:bs[i]? =some (b,cs,t)):Sy w (W.setCell ⟨b,j,none⟩ v) (bs.set i (b,cs.setIfInBounds j v,t)) os rs:=by
 obtain ⟨hi,hx'⟩:=List.getElem?_eq_some_iff.1 hx;obtain ⟨h1,h2⟩:=h.at_ i hx;have hmap:(bs.set i (b,cs.setIfInBounds j v,t)).map (fun x=>x.1)=bs.map (fun x=>x.1):=by
  rw [List.map_set];refine List.ext_getElem? fun k=>?_;rw [List.getElem?_set];by_cases e:i=k
  ·subst e;rw [if_pos rfl,List.length_map,if_pos hi,List.getElem?_map,hx];rfl
  ·rw [if_neg e]
 have hown:ownOf (bs.set i (b,cs.setIfInBounds j v,t)) os=ownOf bs os:=by unfold ownOf;rw [hmap]
 have hbo:b∈ownOf bs os:=mem_own.2 (.inl ⟨_,List.mem_of_getElem? hx,rfl⟩);have hnd:=h.inc;unfold ownOf at hnd;rw [List.nodup_append]at hnd;refine h.step rfl rfl rfl ⟨by rw [setCell_size];exact Nat.le_refl _,fun c _ hn=>Below.heap_setCell _ _ _ _ (fun e=>hn (by rw [e];exact hbo))⟩ (fun c hc=> .inl (by rw [hown]at hc;exact hc)) (fun x hxm=>?_) (fun o ho=>?_) (by rw [hown];exact h.inc)
 ·obtain ⟨k,hkl,hk2⟩:=List.getElem_of_mem hxm;rw [List.length_set]at hkl;rw [List.getElem_set]at hk2;by_cases e:i=k
  ·rw [if_pos e]at hk2;subst hk2;exact⟨h1,setCell_at h2⟩
  ·rw [if_neg e]at hk2;subst hk2;obtain ⟨g1,g2⟩:=h.bx bs[k] (List.getElem_mem hkl);exact⟨g1,(Below.heap_setCell _ _ _ _ (fun e'=>nodup_idx hnd.1 hx (List.getElem?_eq_getElem hkl) e e'.symm)).trans g2⟩
 ·refine World.ownsRow.kept (row:=some b) (h.ow o ho) ⟨rfl,rfl,rfl,by rw [setCell_size];exact Nat.le_refl _,fun c _ hn=>Below.heap_setCell _ _ _ _ (fun e=>hn (by rw [e]))⟩ (.inr fun e=>?_);exact hnd.2.2 b (List.mem_map.2 ⟨_,List.mem_of_getElem? hx,rfl⟩) b (List.mem_filterMap.2 ⟨o,ho,e⟩) rfl
theorem own_snocO (bs:List (Nat×Array Value×TypeId)) (os:List Rw) (o:Rw) (c:Nat):c∈ownOf bs (os++ [o])↔c∈ownOf bs os\/o.v.ownBlock=some c:=by
 simp only [mem_own,List.mem_append,List.mem_singleton];constructor
 ·rintro (h | ⟨x,hx | rfl,he⟩)
  ·exact .inl (.inl h)
  ·exact .inl (.inr ⟨x,hx,he⟩)
  ·exact .inr he
 ·rintro ((h | ⟨x,hx,he⟩) | he)
  ·exact .inl h
  ·exact .inr ⟨x,.inl hx,he⟩
  ·exact .inr ⟨o,.inr rfl,he⟩
theorem inc_snocO {bs:List (Nat×Array Value×TypeId)} {os:List Rw} (h:(ownOf bs os).Nodup) (o:Rw) (hn:∀c,o.v.ownBlock=some c->c∉ownOf bs os):(ownOf bs (os++ [o])).Nodup:=by
 unfold ownOf at h⊢;rw [List.filterMap_append,<-List.append_assoc,List.nodup_append];refine⟨h,?_,fun a ha c hc=>?_⟩
 ·cases hv:o.v.ownBlock<;>simp [List.filterMap,hv]
 ·have:o.v.ownBlock=some c:=by
   cases hv:o.v.ownBlock<;>simp [List.filterMap,hv]at hc
   rw [hc]
  intro e;subst e;exact hn a this (by unfold ownOf;exact ha)
theorem Sy.onil (h:Sy w W bs os rs) (e:TypeId) (size:Nat):Sy w W bs (os++ [⟨.slice none 0 0,e,size,0,[]⟩]) rs:=
 h.step rfl rfl rfl (Away.refl _ _) (fun b hb=>by
   rcases(own_snocO _ _ _ _).1 hb with h1 | h1
   ·exact .inl h1
   ·simp [Value.ownBlock]at h1) h.bx (fun o ho=>by
   rcases List.mem_append.1 ho with h1 | h1
   ·exact h.ow o h1
   ·rcases List.mem_singleton.1 h1 with rfl;exact World.ownsRow_nil _ _ _ _) (inc_snocO h.inc _ (fun c hc=>by simp [Value.ownBlock]at hc))
theorem Sy.onew (h:Sy w W bs os rs) (b:Nat) (cs:Array Value) (e:TypeId) (size n:Nat) (hb:b=W.heap.size) (hm:n<=1000000000) (hs:cs.size=n*size):Sy w (W.alloc (.cells cs e)) bs (os++ [⟨.slice (some ⟨b,0,none⟩) n n,e,size,n,cs.toList⟩]) rs:=by
 subst hb;have hr:=h.row (o:= .cells cs e);refine h.step rfl rfl rfl ⟨by simp,fun b hl _=>by show(W.heap.push _)[b]? =_;rw [Array.getElem?_push,if_neg (by omega)]⟩ (fun b hm=>?_) hr.bx (fun o ho=>?_) (inc_snocO h.inc _ (fun c hc=>?_))
 ·rcases(own_snocO _ _ _ _).1 hm with h1 | h1
  ·exact .inl h1
  ·simp only [Value.ownBlock,Option.some.injEq]at h1;exact .inr (by omega)
 ·rcases List.mem_append.1 ho with h1 | h1
  ·exact hr.ow o h1
  ·rcases List.mem_singleton.1 h1 with rfl;have:=ownsRow_new W cs e size n hm hs;refine⟨this.1,?_⟩;rcases this.2 with h0 | ⟨g,cap,cur,hv,_,rest⟩
   ·exact .inl h0
   ·simp only [Value.slice.injEq,Option.some.injEq,Addr.mk.injEq,and_true]at hv;exact .inr ⟨g,cap,cur,by simp only [Value.slice.injEq,Option.some.injEq,Addr.mk.injEq,and_true];exact hv,by have:=hv.1;have:=h.be.size;omega,rest⟩
 ·simp only [Value.ownBlock,Option.some.injEq]at hc;subst hc;intro hm';have:=(h.own_ge hm').2;omega
theorem Sy.orow (h:Sy w W bs os rs) (i:Nat) {v:Value} {e:TypeId} {size n:Nat} {xs:List Value} (hx:os[i]? =some ⟨v,e,size,n,xs⟩):W.ownsRow w.heap.size e size v n xs:=h.ow _ (List.mem_of_getElem? hx)
theorem Sy.orow0 (h:Sy w W bs os rs) (i:Nat) {v:Value} {e:TypeId} {size n:Nat} {xs:List Value} (hx:os[i]? =some ⟨v,e,size,n,xs⟩):W.ownsRow 0 e size v n xs:=by
 obtain ⟨h1,h2⟩:=h.orow i hx;refine⟨h1,h2.imp id ?_⟩;rintro ⟨g,cap,cur,hv,_,rest⟩;exact⟨g,cap,cur,hv,Nat.zero_le _,rest⟩
theorem filterMap_set_mem {α:Type} {l:List α} {f:α->Option Nat} {i:Nat} {x:α} {c:Nat} (h:c∈(l.set i x).filterMap f):c∈l.filterMap f\/f x=some c:=by
 obtain ⟨y,hy,he⟩:=List.mem_filterMap.1 h;rcases List.mem_or_eq_of_mem_set hy with h1 | rfl
 ·exact .inl (List.mem_filterMap.2 ⟨y,h1,he⟩)
 ·exact .inr he
theorem filterMap_apart {α:Type} {f:α->Option Nat} :∀ {l:List α},(l.filterMap f).Nodup->∀ {i k:Nat} {x y:α} {b:Nat},l[i]? =some x->l[k]? =some y->f x=some b->f y=some b->i=k
 | [],_,i,_,_,_,_,hx,_,_,_=>by simp at hx
 | a::l,h,i,k,x,y,b,hx,hy,hfx,hfy=>by
   have hl:(l.filterMap f).Nodup:=by
    rw [List.filterMap_cons]at h
    split at h
    ·exact h
    ·exact(List.nodup_cons.1 h).2
   have key:∀ {j:Nat} {z:α},l[j]? =some z->f a=some b->f z=some b->False:=by
    intro j z hz ha hfz;rw [List.filterMap_cons,ha]at h;exact(List.nodup_cons.1 h).1 (List.mem_filterMap.2 ⟨z,List.mem_of_getElem? hz,hfz⟩)
   cases i with
   | zero=>
     simp only [List.getElem?_cons_zero,Option.some.injEq]at hx;subst hx;cases k with
     | zero=>rfl
     | succ k=>exact(key (by simpa using hy) hfx hfy).elim
   | succ i=>
     cases k with
     | zero=>
       simp only [List.getElem?_cons_zero,Option.some.injEq]at hy;subst hy;exact(key (by simpa using hx) hfy hfx).elim
     | succ k=>exact congrArg (· +1) (filterMap_apart (f:=f) hl (i:=i) (k:=k) (x:=x) (y:=y) (b:=b) (by simpa using hx) (by simpa using hy) hfx hfy)
theorem filterMap_set_nodup {α:Type} {f:α->Option Nat} :∀ {l:List α} {i:Nat} {x y:α},(l.filterMap f).Nodup->l[i]? =some x->(∀b,f y=some b->f x=some b\/b∉l.filterMap f)->((l.set i y).filterMap f).Nodup
 | [],_,_,_,_,hx,_=>by simp at hx
 | a::l,0,x,y,h,hx,hy=>by
   simp only [List.getElem?_cons_zero,Option.some.injEq]at hx;subst hx;rw [List.set_cons_zero];cases hfy:f y with
   | none=>
     rw [List.filterMap_cons_none hfy];rw [List.filterMap_cons]at h
     split at h
     ·exact h
     ·exact(List.nodup_cons.1 h).2
   | some b=>
     rw [List.filterMap_cons_some hfy,List.nodup_cons];rcases hy b hfy with h1 | h1
     ·rw [List.filterMap_cons_some h1,List.nodup_cons]at h;exact h
     ·rw [List.filterMap_cons]at h h1
      split at h
      ·rename_i h0;rw [h0]at h1;exact⟨h1,h⟩
      ·rename_i c h0;rw [h0]at h1;exact⟨fun hm=>h1 (List.mem_cons_of_mem _ hm),(List.nodup_cons.1 h).2⟩
 | a::l,i+1,x,y,h,hx,hy=>by
   rw [List.set_cons_succ];have hx':l[i]? =some x:=(by simpa using hx);cases hfa:f a with
   | none=>
     rw [List.filterMap_cons_none hfa]at h⊢;exact filterMap_set_nodup h hx' (fun b hb=>(hy b hb).imp id (fun hn=>by rwa [List.filterMap_cons_none hfa]at hn))
   | some c=>
     rw [List.filterMap_cons_some hfa,List.nodup_cons]at h⊢;refine⟨fun hm=>?_,filterMap_set_nodup h.2 hx' (fun b hb=>(hy b hb).imp id (fun hn=>by rw [List.filterMap_cons_some hfa]at hn;exact fun hm=>hn (List.mem_cons_of_mem _ hm)))⟩;rcases filterMap_set_mem hm with h1 | h1
     ·exact h.1 h1
     ·rcases hy c h1 with h2 | h2
      ·exact h.1 (List.mem_filterMap.2 ⟨x,List.mem_of_getElem? hx',h2⟩)
      ·rw [List.filterMap_cons_some hfa]at h2;exact h2 (List.mem_cons_self ..)
theorem Sy.oset (h:Sy w W bs os rs) (i:Nat) {v v':Value} {e:TypeId} {size n n':Nat} {xs xs':List Value} {W':World} (hx:os[i]? =some ⟨v,e,size,n,xs⟩) (hrow:W'.ownsRow 0 e size v' n' xs') (hg:W.grownBy W' v.ownBlock) (hs:Since W.heap.size v v'):Sy w W' bs (os.set i ⟨v',e,size,n',xs'⟩) rs:=by
 have hb:∀b,v.ownBlock=some b->b∈ownOf bs os:=fun b hb=>mem_own.2 (.inr ⟨_,List.mem_of_getElem? hx,hb⟩);have hnd:=h.inc;unfold ownOf at hnd;rw [List.nodup_append]at hnd;have hlt:∀b∈ownOf bs os,b < W.heap.size:=fun b hm=>(h.own_ge hm).2;have hbxb:∀x∈bs,v.ownBlock≠some x.1:=fun x hxm he=>hnd.2.2 x.1 (List.mem_map.2 ⟨x,hxm,rfl⟩) x.1 (List.mem_filterMap.2 ⟨_,List.mem_of_getElem? hx,he⟩) rfl;refine h.step hg.os hg.tape hg.output ⟨hg.size,fun b hl hn=>hg.block b hl (fun e'=>hn (hb b e'.symm))⟩ (fun b hm=>?_) (fun x hxm=>?_) (fun o ho=>?_) ?_
 ·rcases mem_own.1 hm with ⟨x,hx1,rfl⟩ | ⟨o,ho,he⟩
  ·exact .inl (mem_own.2 (.inl ⟨x,hx1,rfl⟩))
  ·rcases List.mem_or_eq_of_mem_set ho with h1 | rfl
   ·exact .inl (mem_own.2 (.inr ⟨o,h1,he⟩))
   ·rcases hs b he with h1 | h1
    ·exact .inl (hb b h1)
    ·exact .inr h1
 ·refine⟨(h.bx x hxm).1,(hg.block x.1 (Array.getElem?_eq_some_iff.1 (h.bx x hxm).2).1 (fun e'=>hbxb x hxm e'.symm)).trans (h.bx x hxm).2⟩
 ·obtain ⟨k,hkl,hk2⟩:=List.getElem_of_mem ho;rw [List.length_set]at hkl;rw [List.getElem_set]at hk2;by_cases e':i=k
  ·rw [if_pos e']at hk2;subst hk2;refine⟨hrow.1,hrow.2.imp id ?_⟩;rintro ⟨g,cap,cur,rfl,_,rest⟩;refine⟨g,cap,cur,rfl,?_,rest⟩;rcases hs g rfl with h1 | h1
   ·exact(World.ownsRow.lt (h.orow i hx) g h1).1
   ·exact Nat.le_trans h.be.size h1
  ·rw [if_neg e']at hk2;subst hk2;refine World.ownsRow.kept (h.ow os[k] (List.getElem_mem hkl)) hg ?_;cases hv:os[k].v.ownBlock with
   | none=>exact .inl rfl
   | some c=>exact .inr fun he=>e' (filterMap_apart hnd.2.1 hx (List.getElem?_eq_getElem hkl) (b:=c) he.symm hv)
 ·unfold ownOf;rw [List.nodup_append];refine⟨hnd.1,filterMap_set_nodup hnd.2.1 hx (fun b hb'=>?_),fun a ha c hc=>?_⟩
  ·rcases hs b hb' with h1 | h1
   ·exact .inl h1
   ·refine .inr fun hm=>?_;have:=hlt b (by unfold ownOf;exact List.mem_append_right _ hm);omega
  ·rcases filterMap_set_mem hc with h1 | h1
   ·exact hnd.2.2 a ha c h1
   ·intro e';subst e';rcases hs a h1 with h2 | h2
    ·obtain ⟨x,hx1,rfl⟩:=List.mem_map.1 ha;exact hbxb x hx1 h2
    ·have:=hlt a (by unfold ownOf;exact List.mem_append_left _ ha);omega
theorem Sy.push {r:World->Prop} (h:Sy w W bs os rs) (hr:∀V,Away (ownOf bs os) W V->r V):Sy w W bs os (rs++ [r]):=
 ⟨h.be,h.bx,h.ow,h.inc,fun q hq=>by
   rcases List.mem_append.1 hq with hq | hq
   ·exact h.rd q hq
   ·rcases List.mem_singleton.1 hq with rfl;exact hr⟩
theorem Sy.old {r:World->Prop} (h:Sy w W bs os rs) (hr:∀V,Below w.heap.size w V->r V):r W:=hr W h.be
theorem Sy.r (h:Sy w W bs os rs) (i:Nat) {r:World->Prop} (hx:rs[i]? =some r):r W:=h.rd _ (List.mem_of_getElem? hx) W (Away.refl _ _)
theorem Sy.pick (h:Sy w W bs os rs) (is:List Nat) {rs':List (World->Prop)} (hx:is.map (fun i=>rs[i]?)=rs'.map some):Sy w W bs os rs':=
 ⟨h.be,h.bx,h.ow,h.inc,fun r hr=>by
   have:some r∈is.map (fun i=>rs[i]?):=(by rw [hx];exact List.mem_map.2 ⟨r,hr,rfl⟩);obtain ⟨i,_,hi⟩:=List.mem_map.1 this;exact h.rd r (List.mem_of_getElem? hi)⟩
theorem wp_geny {P:Program} {c:Code} {Q:Exit->Act->World->Prop} {a:Act} (h:Sy w W bs os rs) (k:∀V,Sy w V bs os rs->c.wp P Q a V):c.wp P Q a W:=k W h
theorem ret_sy {P:Program} {f:Func} {R:Ending->World->Prop} {a:Act} {v:Value} (h:Sy w W bs os rs) (hr:Sy w W bs os rs->(results f a.tmps).run P W= .ok v W) (hd:a.defers= []) (hR:Sy w W bs os rs->R (.returned v) W):bodyPost P f R .ret a W:=
 bodyPost_ret (hr h) hd (hR h)
section
variable {P:Program} {ops:Array Oper} {Q:Exit->Act->World->Prop} {md:Region.Mode} {S:World->Prop} {fuel:Nat} {l:Array Bool} {a:Act}
theorem wpAnyH_geny (h:Sy w W bs os rs) (hS:S W) (k:∀V,Sy w V bs os rs->S V->wpAnyH P md ops Q S fuel l a V):wpAnyH P md ops Q S fuel l a W:=k W h hS
theorem stepY {K':Act->World->Prop} (hK:Shut (∀a w,S w->(S w->wpAnyH P md ops Q S fuel l a w)->K' a w)) (h:Sy w W bs os rs) (hS:∀V,Sy w V bs os rs->S V) (k:∀V,Sy w V bs os rs->S V->wpAnyH P md ops Q S fuel l a V):K' a W:=
 hK.out _ _ (hS W h) (fun hs=>k W h hs)
end
end
section
theorem ζ {p:Prop} (h:p):RowKit.Hid p:=h
theorem zI {α:Type _} (l:List α) (i:Nat) (a:α):l.toArray.setIfInBounds i a=(l.set i a).toArray:=List.setIfInBounds_toArray l i a
theorem z0 {α:Type _} (x:α) (l:List α) (a:α):(x::l).set 0 a=a::l:=rfl
theorem zS {α:Type _} (x:α) (l:List α) (i:Nat) (a:α):(x::l).set (i+1) a=x::l.set i a:=rfl
theorem zP:(∀ (a:Act) (d:Tmp) (v:Value),a.put (some d) v= { a with tmps:=a.tmps.setIfInBounds d v })/\(∀ (a:Act) (v:Value),a.put none v=a)/\(∀ (α:Type) (l:List α) (i:Nat) (a:α),l.toArray.setIfInBounds i a=(l.set i a).toArray)/\(∀ (α:Type) (x:α) (l:List α) (a:α),(x::l).set 0 a=a::l)/\∀ (α:Type) (x:α) (l:List α) (i:Nat) (a:α),(x::l).set (i+1) a=x::l.set i a:=
 ⟨fun _ _ _=>rfl,fun _ _=>rfl,fun _ l i a=>List.setIfInBounds_toArray l i a,fun _ _ _ _=>rfl,fun _ _ _ _ _=>rfl⟩
abbrev OA:=Option Addr
abbrev zR:Array Value:=#[.slice none 0 0,.bool false,.slice none 0 0]
abbrev zQ:Array Value:=#[.int .i64 0,.slice none 0 0,.int .i64 0,.slice none 0 0]
theorem aG (W:World) {p:Addr} {v:Option Value} {Q:Prop} (h:World.cell? W p=v/\Q):World.cell? W p=v/\Q:=h
section
variable {P:Program} {ops:Array Oper} {Q:Exit->Act->World->Prop} {md:Region.Mode} {S:World->Prop} {fuel:Nat} {listed:Array Bool} {a:Act} {w:World}
theorem tkL (i:Nat) (v:Value) {d:Option Tmp} {op:Op} {ty:TypeId} {ps:String} {af:Array Edge} {gu:Option (Nat×Bool)} (hi:ops[i]? =some ⟨d,op,ty,ps,af,gu⟩) (hS:S w)
  (hy:∀w,S w->(execOp a.eval ⟨d,op,ty,ps,af,gu⟩).run P w= .ok (.value v) w) (h:wpAnyH P md ops Q S fuel (listed.setIfInBounds i true) (a.put d v) w)
  (hw:Region.wanted ⟨d,op,ty,ps,af,gu⟩ (yielded ops a.tmps)=true:=by rfl)
  (hs:Region.noSelect ops=true:=by kernel_rfl) (hf:Region.free md ops listed i=true:=by kernel_rfl) (hr:(Region.ready md ops listed).contains i=true:=by kernel_rfl)
  (hQ:∀c a w,Q (.panic c) (a.put d v) w->Q (.panic c) a w:=by exact fun _ _ _ h=>h):wpAnyH P md ops Q S (fuel+1) listed a w:=
 wpAnyH_take hi hs hf hr hQ (Or.inl ⟨hw,hy⟩) hS h
theorem tkA (i:Nat) {v:Value} {d:Option Tmp} {op:Op} {ty:TypeId} {ps:String} {af:Array Edge} {gu:Option (Nat×Bool)} (hi:ops[i]? =some ⟨d,op,ty,ps,af,gu⟩) (hS:S w)
  (h:wpAnyH P md ops Q S fuel (listed.setIfInBounds i true) (a.put d v) w)
  (hy:∀w,S w->(execOp a.eval ⟨d,op,ty,ps,af,gu⟩).run P w= .ok (.value v) w:=by(intro wS hSw;(try dsimp only at hSw);go_simp;try with_reducible rfl))
  (hw:Region.wanted ⟨d,op,ty,ps,af,gu⟩ (yielded ops a.tmps)=true:=by rfl)
  (hs:Region.noSelect ops=true:=by kernel_rfl) (hf:Region.free md ops listed i=true:=by kernel_rfl) (hr:(Region.ready md ops listed).contains i=true:=by kernel_rfl)
  (hQ:∀c a w,Q (.panic c) (a.put d v) w->Q (.panic c) a w:=by exact fun _ _ _ h=>h):wpAnyH P md ops Q S (fuel+1) listed a w:=
 wpAnyH_take hi hs hf hr hQ (Or.inl ⟨hw,hy⟩) hS h
theorem tkR (i:Nat) {d:Option Tmp} {op:Op} {ty:TypeId} {ps:String} {af:Array Edge} {gu:Option (Nat×Bool)} (hi:ops[i]? =some ⟨d,op,ty,ps,af,gu⟩) (hS:S w)
  (h:wpAnyH P md ops Q S fuel (listed.setIfInBounds i true) (a.put d undef) w)
  (hw:Region.wanted ⟨d,op,ty,ps,af,gu⟩ (yielded ops a.tmps)=false:=by rfl)
  (hs:Region.noSelect ops=true:=by kernel_rfl) (hf:Region.free md ops listed i=true:=by kernel_rfl) (hr:(Region.ready md ops listed).contains i=true:=by kernel_rfl)
  (hQ:∀c a w,Q (.panic c) (a.put d undef) w->Q (.panic c) a w:=by exact fun _ _ _ h=>h):wpAnyH P md ops Q S (fuel+1) listed a w:=
 wpAnyH_take hi hs hf hr hQ (Or.inr ⟨hw,rfl⟩) hS h
theorem rdy1 (r:Nat) {d:Option Tmp} {op:Op} {ty:TypeId} {ps:String} {af:Array Edge} {gu:Option (Nat×Bool)} (hi:ops[r]? =some ⟨d,op,ty,ps,af,gu⟩)
  (h:∀K':Act->World->Prop,Shut (∀a w,S w->(S w->wpAnyH P md ops Q S fuel (listed.setIfInBounds r true) a w)->K' a w)->if Region.wanted ⟨d,op,ty,ps,af,gu⟩ (yielded ops a.tmps)=true then Oper.wp P ⟨d,op,ty,ps,af,gu⟩ a w K' Q else K' (a.put d undef) w)
  (hr:Region.ready md ops listed= [r]:=by kernel_rfl):wpAnyH P md ops Q S (fuel+1) listed a w:=
 wpAnyH_ready hr (by simp) (AllReadyH.cons hi h AllReadyH.nil)
theorem rdyL (rs:List Nat) (h:AllReadyH P md ops Q S fuel listed a w rs) (hr:Region.ready md ops listed=rs:=by kernel_rfl) (hne:rs≠ []:=by simp):wpAnyH P md ops Q S (fuel+1) listed a w:=wpAnyH_ready hr hne h
theorem arc {r:Nat} {rs:List Nat} {d:Option Tmp} {op:Op} {ty:TypeId} {ps:String} {af:Array Edge} {gu:Option (Nat×Bool)} (hi:ops[r]? =some ⟨d,op,ty,ps,af,gu⟩)
  (h:∀K':Act->World->Prop,Shut (∀a w,S w->(S w->wpAnyH P md ops Q S fuel (listed.setIfInBounds r true) a w)->K' a w)->if Region.wanted ⟨d,op,ty,ps,af,gu⟩ (yielded ops a.tmps)=true then Oper.wp P ⟨d,op,ty,ps,af,gu⟩ a w K' Q else K' (a.put d undef) w)
  (t:AllReadyH P md ops Q S fuel listed a w rs):AllReadyH P md ops Q S fuel listed a w (r::rs):=AllReadyH.cons hi h t
end
end
end Go.Proofs.YtjpojeapdgjbhaaGreatDoor
