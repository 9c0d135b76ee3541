/- part -/
import Derived.Test.YtjpojeapdgjbhaaGreatDoorProg
import Derived.Test.YtjpojeapdgjbhaaGreatDoorQ1
import Derived.BigQuiet
import Derived.Handy
import Derived.WalkLawsBesides
import Derived.Laws.CopyOwn
import Derived.Deep.DeepCutAuto
namespace Go.Proofs.YtjpojeapdgjbhaaGreatDoor
open Go.RowKit Dig
theorem info_i64:(Tryz.prog.info? 2).map (fun i=>(i.zero,i.size,i.bytes))=some (some (.int .i64 0),1,8):=by kernel_rfl
theorem size_i64:(Tryz.prog.info? 2).map (·.size)=some 1:=by kernel_rfl
def I64 (l:List Int):List Value:=l.map (Value.int .i64)
theorem I64_len (l:List Int):(I64 l).length=l.length:=List.length_map _
theorem I64_append (l r:List Int):I64 (l++r)=I64 l++I64 r:=List.map_append
theorem I64_set (l:List Int) (k:Nat) (y:Int):(I64 l).set k (.int .i64 y)=I64 (l.set k y):=by
 unfold I64;rw [List.map_set]
theorem I64_get (l:List Int) (k:Nat) (h:k < l.length):(I64 l)[k]? =some (.int .i64 l[k]):=by
 unfold I64;rw [List.getElem?_map,List.getElem?_eq_getElem h];rfl
theorem I64_take (l:List Int) (k:Nat):(I64 l).take k=I64 (l.take k):=List.map_take.symm
theorem i64_mask24 (n:Int):bits .and .i64 n 16777215=n % 16777216:=by
 have h24:(BitVec.ofInt 64 16777215).toNat=2 ^ 24 - 1:=by decide
 have key:(BitVec.ofInt 64 n &&& BitVec.ofInt 64 16777215).toNat=(n % ((2 ^ 64:Nat):Int)).toNat % 2 ^ 24:=by
  rw [BitVec.toNat_and,BitVec.toNat_ofInt,h24,Nat.and_two_pow_sub_one_eq_mod]
 show IntKind.i64.wrap ((BitVec.ofInt 64 n &&& BitVec.ofInt 64 16777215).toNat:Nat)=n % 16777216;rw [key,IntKind.wrap_i64];omega
theorem i64_mask1 (n:Int):bits .and .i64 n 1=n % 2:=by
 have h24:(BitVec.ofInt 64 1).toNat=2 ^ 1 - 1:=by decide
 have key:(BitVec.ofInt 64 n &&& BitVec.ofInt 64 1).toNat=(n % ((2 ^ 64:Nat):Int)).toNat % 2 ^ 1:=by
  rw [BitVec.toNat_and,BitVec.toNat_ofInt,h24,Nat.and_two_pow_sub_one_eq_mod]
 show IntKind.i64.wrap ((BitVec.ofInt 64 n &&& BitVec.ofInt 64 1).toNat:Nat)=n % 2;rw [key,IntKind.wrap_i64];omega
theorem u64_mask24 (n:Nat) (h:n < 18446744073709551616):bits .and .u64 (n:Int) 16777215=((n % 16777216:Nat):Int):=by
 have:=u64_and_nat n 16777215 h (by decide);rw [show((16777215:Nat):Int)=16777215 from rfl]at this;rw [this,show(16777215:Nat)=2 ^ 24 - 1 from rfl,Nat.and_two_pow_sub_one_eq_mod]
def Sl (t:TypeId) (w:World) (v:Value) (xs:List Int):Prop:=w.ownsRow 0 t 1 v xs.length (I64 xs)
def Dg (w:World) (v:Value) (N:Nat):Prop:=Sl 2 w v (dg 16777216 N)
theorem Sl.lt {t:TypeId} {w:World} {v:Value} {xs:List Int} (h:Sl t w v xs):∀k,v.ownBlock=some k->k < w.heap.size:=fun k hk=>(World.ownsRow.lt h k hk).2
theorem Sl.below {t:TypeId} {w w':World} {v:Value} {xs:List Int} {B:Nat} (h:Sl t w v xs) (hb:Below B w w') (hB:∀k,v.ownBlock=some k->k < B):Sl t w' v xs:=by
 refine⟨h.1,?_⟩;rcases h.2 with hn | ⟨g,cap,cur,rfl,hb0,hg,rest⟩
 ·exact .inl hn
 ·exact .inr ⟨g,cap,cur,rfl,hb0,by rw [hb.block g (hB g rfl)];exact hg,rest⟩
theorem Sl.mono {t:TypeId} {w w':World} {v:Value} {xs:List Int} (h:Sl t w v xs) (hb:Below w.heap.size w w'):Sl t w' v xs:=h.below hb h.lt
theorem Sl.alloc {t:TypeId} {w:World} {v:Value} {xs:List Int} (h:Sl t w v xs) (o:Obj):Sl t (w.alloc o) v xs:=World.ownsRow.alloc h o
theorem Sl.drew {t:TypeId} {w:World} {v:Value} {xs:List Int} (h:Sl t w v xs):Sl t w.drew v xs:=h
theorem Sl.nil {t:TypeId} {w:World} :Sl t w (.slice none 0 0) []:=World.ownsRow_nil w 0 _ 1
theorem Sl.len {t:TypeId} {w:World} {a:Option Addr} {n c:Nat} {xs:List Int} (h:Sl t w (.slice a n c) xs):n=xs.length:=by
 rcases h.2 with ⟨h1,h2⟩ | ⟨g,cap,cur,h1,_⟩
 ·simp only [Value.slice.injEq]at h1;omega
 ·simp only [Value.slice.injEq]at h1;exact h1.2.1
theorem Sl.slice {t:TypeId} {w:World} {v:Value} {xs:List Int} (h:Sl t w v xs):∃a n c,v= .slice a n c:=by
 rcases h.2 with ⟨h1,_⟩ | ⟨g,cap,cur,h1,_⟩
 ·exact⟨_,_,_,h1⟩
 ·exact⟨_,_,_,h1⟩
theorem Sl.row {t:TypeId} {w:World} {a:Option Addr} {n c:Nat} {xs:List Int} (h:Sl t w (.slice a n c) xs) (hp:0 < xs.length):∃g,a=some ⟨g,0,none⟩/\g < w.heap.size:=by
 rcases h.2 with ⟨h1,h2⟩ | ⟨g,cap,cur,h1,_,h3,_⟩
 ·omega
 ·simp only [Value.slice.injEq]at h1;exact⟨g,h1.1,(Array.getElem?_eq_some_iff.1 h3).1⟩
theorem Sl.nil_or_row {t:TypeId} {w:World} {a:Option Addr} {n c:Nat} {xs:List Int} (h:Sl t w (.slice a n c) xs):(a=none/\n=0/\c=0/\xs= [])\/∃g,a=some ⟨g,0,none⟩/\g < w.heap.size/\n=xs.length/\n<=c:=by
 rcases h.2 with ⟨h1,h2⟩ | ⟨g,cap,cur,h1,_,h3,h4,_⟩
 ·simp only [Value.slice.injEq]at h1;exact .inl ⟨h1.1,h1.2.1,h1.2.2,List.eq_nil_of_length_eq_zero h2⟩
 ·simp only [Value.slice.injEq]at h1;refine .inr ⟨g,h1.1,(Array.getElem?_eq_some_iff.1 h3).1,h1.2.1,?_⟩;rw [h1.2.1,h1.2.2];exact h4
theorem Sl.cap {t:TypeId} {w:World} {a:Option Addr} {n c:Nat} {xs:List Int} (h:Sl t w (.slice a n c) xs):n<=c:=by
 rcases h.nil_or_row with ⟨_,rfl,rfl,_⟩ | ⟨_,_,_,_,h4⟩
 ·exact Nat.le_refl _
 ·exact h4
theorem Sl.other {t:TypeId} {w:World} {v:Value} {xs:List Int} (h:Sl t w v xs) {g k:Nat} (hne:v.ownBlock≠some g) (u:Value):Sl t (w.setCell ⟨g,k,none⟩ u) v xs:=by
 refine⟨h.1,?_⟩;rcases h.2 with hn | ⟨g',cap,cur,rfl,hb0,hg,rest⟩
 ·exact .inl hn
 ·refine .inr ⟨g',cap,cur,rfl,hb0,?_,rest⟩;rw [Below.heap_setCell _ _ _ _ (fun e=>hne (by simp only [Value.ownBlock];rw [e]))];exact hg
theorem Sl.cell {t:TypeId} {w:World} {g n c:Nat} {xs:List Int} (h:Sl t w (.slice (some ⟨g,0,none⟩) n c) xs) {k:Nat} (hk:k < xs.length):w.cell? ⟨g,k,none⟩=some (.int .i64 xs[k]):=by
 have hn:=h.len;subst hn;rw [World.ownsRow.cellAt h k (by omega),I64_get _ _ hk]
theorem Sl.free {t:TypeId} {w:World} {g n c:Nat} {xs:List Int} (h:Sl t w (.slice (some ⟨g,0,none⟩) n c) xs) (k:Nat):w.frozen? ⟨g,k,none⟩=false:=by
 have hn:=h.len;subst hn;exact World.ownsRow.frozenAt h k
theorem Sl.set {t:TypeId} {w:World} {g n c:Nat} {xs:List Int} (h:Sl t w (.slice (some ⟨g,0,none⟩) n c) xs) (k:Nat) (y:Int):Sl t (w.setCell ⟨g,k,none⟩ (.int .i64 y)) (.slice (some ⟨g,0,none⟩) n c) (xs.set k y):=by
 have hn:=h.len;subst hn;have:=(World.ownsRow.stored h k (.int .i64 y)).1;rw [I64_set]at this;unfold Sl;rw [List.length_set];exact this
theorem Sl.grown {t:TypeId} {w w':World} {v:Value} {xs:List Int} {row:Option Nat} (h:Sl t w v xs) (hg:w.grownBy w' row) (hne:v.ownBlock=none\/v.ownBlock≠row):Sl t w' v xs:=World.ownsRow.kept h hg hne
theorem Sl.pop {t:TypeId} {w:World} {g n c:Nat} {xs:List Int} (h:Sl t w (.slice (some ⟨g,0,none⟩) n c) xs) {k:Nat} (hk:k<=xs.length):Sl t w (.slice (some ⟨g,0,none⟩) k c) (xs.take k):=by
 have hn:=h.len;subst hn;rcases h.2 with ⟨h1,h2⟩ | ⟨g',cap,cur,h1,h2,h3,h4,h5,h6,h7⟩
 ·simp at h1
 ·simp only [Value.slice.injEq,Option.some.injEq,Addr.mk.injEq,and_true,true_and]at h1;obtain ⟨rfl,rfl⟩:=h1;have hl:(xs.take k).length=k:=by rw [List.length_take,Nat.min_eq_left hk]
  refine⟨by rw [I64_len];omega,.inr ⟨g,c,cur,by rw [hl],Nat.zero_le _,h3,by omega,h5,h6,?_⟩⟩;rw [<-I64_take,<-h7,List.take_take,hl];congr 1;omega
def Box (w:World) (b:Nat) (v:Value) (t:TypeId):Prop:=w.heap[b]? =some (.cells #[v] t (0,0))
theorem Box.cell {w:World} {b:Nat} {v:Value} {t:TypeId} (h:Box w b v t):w.cell? ⟨b,0,none⟩=some v:=by
 unfold Box at h;simp [World.cell?,h]
theorem Box.free {w:World} {b:Nat} {v:Value} {t:TypeId} (h:Box w b v t):w.frozen? ⟨b,0,none⟩=false:=by
 unfold Box at h;simp [World.frozen?,h]
theorem Box.new (w:World) (v:Value) (t:TypeId):Box (w.alloc (.cells #[v] t)) w.heap.size v t:=by
 unfold Box World.alloc;simp
theorem Box.set {w:World} {b:Nat} {v:Value} {t:TypeId} (h:Box w b v t) (u:Value):Box (w.setCell ⟨b,0,none⟩ u) b u t:=by
 unfold Box at h⊢;simp [World.setCell,Array.getElem?_modify,h]
theorem Box.other {w:World} {b g k:Nat} {v:Value} {t:TypeId} (h:Box w b v t) (hne:b≠g) (u:Value):Box (w.setCell ⟨g,k,none⟩ u) b v t:=(Below.heap_setCell _ _ _ _ hne).trans h
theorem Box.alloc {w:World} {b:Nat} {v:Value} {t:TypeId} (h:Box w b v t) (o:Obj):Box (w.alloc o) b v t:=(Below.heap_alloc _ _ _ (Array.getElem?_eq_some_iff.1 h).1).trans h
theorem Box.new' {w:World} {b:Nat} {v:Value} {t:TypeId} (h:b=w.heap.size):Box (w.alloc (.cells #[v] t)) b v t:=by
 subst h;exact Box.new w v t
theorem Box.lt {w:World} {b:Nat} {v:Value} {t:TypeId} (h:Box w b v t):b < w.heap.size:=(Array.getElem?_eq_some_iff.1 h).1
theorem Box.below {w w':World} {b B:Nat} {v:Value} {t:TypeId} (h:Box w b v t) (hb:Below B w w') (hB:b < B):Box w' b v t:=(hb.block b hB).trans h
theorem Box.grown {w w':World} {b:Nat} {v:Value} {t:TypeId} {row:Option Nat} (h:Box w b v t) (hg:w.grownBy w' row) (hne:some b≠row):Box w' b v t:=(hg.block b h.lt hne).trans h
theorem heap_alloc_get (w:World) (o:Obj) (k:Nat):(w.alloc o).heap[k]? =if k=w.heap.size then some o else w.heap[k]? :=by
 show(w.heap.push o)[k]? =_;rw [Array.getElem?_push]
theorem grownBy_trans {w1 w2 w3:World} {row:Option Nat} (h:w1.grownBy w2 row) (k:w2.grownBy w3 row):w1.grownBy w3 row:=
 ⟨k.os.trans h.os,k.tape.trans h.tape,k.output.trans h.output,Nat.le_trans h.size k.size,fun i hi hne=>(k.block i (Nat.lt_of_lt_of_le hi h.size) hne).trans (h.block i hi hne)⟩
theorem Sl.ne_box {t t':TypeId} {w:World} {v u:Value} {xs:List Int} {b:Nat} (h:Sl t w v xs) (hb:Box w b u t') (hne:t≠t'):v.ownBlock≠some b:=by
 intro e;rcases h.2 with ⟨rfl,_⟩ | ⟨g,cap,cur,rfl,_,hg,_⟩
 ·simp [Value.ownBlock]at e
 ·simp only [Value.ownBlock,Option.some.injEq]at e;subst e;unfold Box at hb;rw [hg]at hb;simp only [Option.some.injEq,Obj.cells.injEq]at hb;exact hne hb.2.1
theorem grownBy_on {w1 w2 w3:World} {row row':Option Nat} (h:w1.grownBy w2 row) (k:w2.grownBy w3 row') (hr:∀j,row'=some j->row=some j\/w1.heap.size<=j):w1.grownBy w3 row:=
 ⟨k.os.trans h.os,k.tape.trans h.tape,k.output.trans h.output,Nat.le_trans h.size k.size,fun i hi hne=>(k.block i (Nat.lt_of_lt_of_le hi h.size) (fun e=>by
   rcases hr i e.symm with e' | e'
   ·exact hne e'.symm
   ·omega)).trans (h.block i hi hne)⟩
theorem grownBy_refl (w:World) (row:Option Nat):w.grownBy w row:=⟨rfl,rfl,rfl,Nat.le_refl _,fun _ _ _=>rfl⟩
theorem grownBy_setCell (w:World) (g k:Nat) (u:Value):w.grownBy (w.setCell ⟨g,k,none⟩ u) (some g):=
 ⟨rfl,rfl,rfl,by simp [World.setCell],fun i _ hne=>Below.heap_setCell _ _ _ _ (fun e=>hne (by rw [e]))⟩
theorem Below.grownBy {w w':World} (h:Below w.heap.size w w') (row:Option Nat):w.grownBy w' row:=⟨h.os,h.tape,h.output,h.size,fun i hi _=>h.block i hi⟩
theorem Sl.one (t:TypeId) (w:World) (x:Int):Sl t (w.alloc (.cells #[.int .i64 x] t)) (.slice (some ⟨w.heap.size,0,none⟩) 1 1) [x]:=ownsRow_new w _ t 1 1 (by decide) rfl
theorem Sl.made (t:TypeId) (w:World) (n:Nat) (hn:n<=1000000000):Sl t (w.alloc (.cells (madeCells #[.int .i64 0] n) t)) (.slice (some ⟨w.heap.size,0,none⟩) n n) (List.replicate n 0):=by
 have:=ownsRow_new w (madeCells #[.int .i64 0] n) t 1 n hn (by rw [size_madeCells,Nat.mul_one]);unfold Sl I64;rw [List.length_replicate,List.map_replicate,<-toList_madeCells_one];exact this
theorem I64_one (l:List Int):∀u∈I64 l,u.oneCell'=true:=by
 intro u hu;unfold I64 at hu;obtain ⟨x,_,rfl⟩:=List.mem_map.1 hu;rfl
theorem wpList_append_sl {P:Program} (w:World) {ops:Array Oper} {rest:List Oper} {o:Oper} {a:Act} {Q:Exit->Act->World->Prop} (hgd:o.guard=none) (s x:Operand) (t:TypeId)
  (ho:o.op= .call { callee:= .builtin .append,args:=#[s,x],argTypes:=#[t,t] })
  (e:TypeId) (ht:P.underlying t=some (.slice e)) (hinfo:(P.info? e).map (fun i=>(i.zero,i.size,i.bytes))=some (some (.int .i64 0),1,8))
  (v:Value) (xs:List Int) (hs:a.eval s=v) (hown:Sl e w v xs) (sv:Value) (ys:List Int) (hx:a.eval x=sv) (hsrc:Sl e w sv ys) (hlen:xs.length+ys.length<=1000000000)
  (h:∀a' n' c' w',Sl e w' (.slice a' n' c') (xs++ys)->w.grownBy w' v.ownBlock->Since w.heap.size v (.slice a' n' c')->wpList P ops Q rest (a.put o.dst (.slice a' n' c')) w'):wpList P ops Q (o::rest) a w:=by
 obtain ⟨i0,hi,hz0,hz1,hz2⟩:=info_parts hinfo;refine wpList_append_row w hgd s x t ho e i0 (.int .i64 0) 1 8 ht hi hz0 hz1 hz2 rfl (by decide) v xs.length (I64 xs) hs hown sv ys.length (I64 ys) hx hsrc (I64_one ys) hlen (by decide) (fun a' c' w' h1 h2 h3=>h a' _ c' w' ?_ h2 h3);unfold Sl;rw [List.length_append,I64_append];exact h1
theorem wpList_make_sl {P:Program} (w:World) {ops:Array Oper} {rest:List Oper} {o:Oper} {a:Act} {Q:Exit->Act->World->Prop} (hgd:o.guard=none) (l c:Operand) (t:TypeId) (hop:o.op=Op.makeSlice t l c)
  (e:TypeId) (ht:P.underlying t=some (.slice e)) (hinfo:(P.info? e).map (fun i=>(i.zero,i.size,i.bytes))=some (some (.int .i64 0),1,8)) (kl kc:IntKind) (L C:Int) (n m:Nat)
  (hl:a.eval l= .int kl L) (hc:a.eval c= .int kc C) (hL:L=(n:Int)) (hC:C=(m:Int)) (hnm:n<=m) (hm:m<=1000000000)
  (h:Sl e (w.alloc (.cells (madeCells #[.int .i64 0] m) e)) (.slice (some ⟨w.heap.size,0,none⟩) n m) (List.replicate n 0)->
   wpList P ops Q rest (a.put o.dst (.slice (some ⟨w.heap.size,0,none⟩) n m)) (w.alloc (.cells (madeCells #[.int .i64 0] m) e))):wpList P ops Q (o::rest) a w:=by
 obtain ⟨i0,hi,hz0,hz1,hz2⟩:=info_parts hinfo;refine wpList_plain hgd fun K hK=>?_;subst hL;subst hC;have hr:=run_make (P:=P) w t e i0 (.int .i64 0) ht hi hz0 kl kc n m (by omega) (by omega) (by rw [hz2];omega) (by omega);rw [hz1,Int.toNat_natCast,Int.toNat_natCast,Nat.mul_one]at hr;unfold Oper.wp;simp only [execOp,hop,hl,hc,Sem.run_bind,hr,Result.andThen];refine hK _ _ (h ?_);have:=(Sl.made e w m hm).pop (k:=n) (by simpa using hnm);rwa [List.take_replicate,Nat.min_eq_left hnm]at this
theorem wpList_copy_sl {P:Program} {w:World} {ops:Array Oper} {rest:List Oper} {o:Oper} {a:Act} {Q:Exit->Act->World->Prop} (hgd:o.guard=none) (d s:Operand) (t:TypeId)
  (ho:o.op= .call { callee:= .builtin .copy,args:=#[d,s],argTypes:=#[t,t] }) (e:TypeId) (hu:P.underlying t=some (.slice e)) (hsz:(P.info? e).map (·.size)=some 1)
  (g n c:Nat) (xs:List Int) (hd:a.eval d= .slice (some ⟨g,0,none⟩) n c) (hx:Sl e w (.slice (some ⟨g,0,none⟩) n c) xs) (sp:Option Addr) (m c':Nat) (ys:List Int) (hs:a.eval s= .slice sp m c') (hy:Sl e w (.slice sp m c') ys) (hle:ys.length<=xs.length)
  (h:∀w',Sl e w' (.slice (some ⟨g,0,none⟩) n c) (ys++xs.drop ys.length)->w.grownBy w' (some g)->wpList P ops Q rest (a.put o.dst (goInt ys.length)) w'):wpList P ops Q (o::rest) a w:=by
 have hn:=hx.len;have hm:=hy.len;subst hn;subst hm;rcases hx.2 with ⟨h1,_⟩ | ⟨g',cap,cur,h1,h2,h3,h4,h5,h6,h7⟩
 ·simp at h1
 simp only [Value.slice.injEq,Option.some.injEq,Addr.mk.injEq,and_true,true_and]at h1;obtain ⟨rfl,rfl⟩:=h1;by_cases h0:ys.length=0
 ·obtain rfl:ys= []:=List.eq_nil_of_length_eq_zero h0;refine wpList_copy_nothing hgd d s t t ho e hu hsz _ _ _ _ _ _ hd hs (by simp) ?_;exact h w (by simpa using hx) ⟨rfl,rfl,rfl,Nat.le_refl _,fun _ _ _=>rfl⟩
 ·obtain ⟨gs,rfl,_⟩:=hy.row (by omega);have hsrc:∀j v,(I64 ys)[j]? =some v->w.cell? ((⟨gs,0,none⟩:Addr).add j)=some v:=World.ownsRow.cells hy (g:=gs) rfl;refine wpList_copy_own hgd d s t t ho e hu hsz g 0 xs.length c ⟨gs,0,none⟩ ys.length c' hd hs cur e h3 (I64 ys) (by rw [I64_len];exact(Nat.min_eq_left hle).symm) hsrc (by rw [I64_len];omega) (I64_one ys) ?_;rw [I64_len];refine h _ ?_ ⟨rfl,rfl,rfl,by simp [World.setRow],fun k _ hk=>setRow_other w g k _ (fun e=>hk (by rw [e]))⟩;have hl:(ys++xs.drop ys.length).length=xs.length:=by rw [List.length_append,List.length_drop];omega
  have hcl:cur.toList.length=c:=by rw [Array.length_toList];omega
  unfold Sl;rw [hl];refine⟨by rw [I64_len,hl];omega,.inr ⟨g,c,_,rfl,Nat.zero_le _,setRow_heap w g cur _ e _ h3,h4,h5,?_,?_⟩⟩
  ·simp only [List.take_zero,List.nil_append,List.size_toArray,List.length_append,I64_len,List.length_drop];omega
  ·have h7':cur.toList.take xs.length=I64 xs:=(by rw [<-h7,Nat.mul_one]);have e1:I64 (xs.drop ys.length)=(cur.toList.take xs.length).drop ys.length:=(by rw [h7'];unfold I64;rw [List.map_drop]);simp only [List.take_zero,List.nil_append,Nat.mul_one];rw [I64_append,e1,List.take_append,I64_len,List.take_of_length_le (by rw [I64_len];omega)];congr 1;rw [Nat.zero_add,List.drop_take]
theorem Below.drewN {B:Nat} {a w:World} (h:Below B a w) (n:Nat):Below B a (w.drewN n):=⟨h.os,h.tape,h.output,h.size,h.block⟩
theorem Box.drewN {w:World} {b:Nat} {v:Value} {t:TypeId} (h:Box w b v t) (n:Nat):Box (w.drewN n) b v t:=h
theorem Sl.drewN {t:TypeId} {w:World} {v:Value} {xs:List Int} (h:Sl t w v xs) (n:Nat):Sl t (w.drewN n) v xs:=h
def RetD (w:World) (N:Nat) (e:Ending) (w':World):Prop:=∃a n c,e= .returned (.agg #[.slice a n c])/\Dg w' (.slice a n c) N/\Below w.heap.size w w'
def RetF (w:World) (N:Nat) (e:Ending) (w':World):Prop:=∃a n c,e= .returned (.agg #[.slice a n c])/\Dg w' (.slice a n c) N/\Below w.heap.size w w'/\∀k,Value.ownBlock (.slice a n c)=some k->w.heap.size<=k
theorem fin_D {w wL w2:World} {R g n c:Nat} {a3:Option Addr} {n3 c3:Nat} {V:Int} {N:Nat} (hB:Below w.heap.size w wL) (hg0:w.heap.size<=g) (hR:R < wL.heap.size) (AA:w.heap.size<=R) (hne:R≠g)
  (hd:Dg w2 (.slice a3 n3 c3) V.toNat) (hg:wL.grownBy w2 (Value.ownBlock (.slice (some ⟨g,0,none⟩) n c))) (hs:Since wL.heap.size (.slice (some ⟨g,0,none⟩) n c) (.slice a3 n3 c3)) (hv:V=(N:Int)):
  RetD w N (.returned (.agg #[.slice a3 n3 c3])) (w2.setCell ⟨R,0,none⟩ (.slice a3 n3 c3)):=by
 subst hv;rw [Int.toNat_natCast]at hd;refine⟨a3,n3,c3,rfl,hd.other (fun e=>?_) _,(hB.grown hg hB.size (fun j hj=>by simp only [Value.ownBlock,Option.some.injEq]at hj;omega)).setCell AA _⟩;rcases hs _ e with h | h
 ·simp only [Value.ownBlock,Option.some.injEq]at h;exact hne h.symm
 ·omega
theorem ret_int {k:IntKind} {a b:Int} (h:a=b):Ending.returned (.int k a)= .returned (.int k b):=by rw [h]
theorem ret_bool {a b:Bool} (h:a=b):Ending.returned (.bool a)= .returned (.bool b):=by rw [h]
section
open Go.RowKit
abbrev I2:=Int×Int
abbrev I3:=Int×Int×Int
def c1 (x:Int):List Value:=[.int .i64 x]
def c2 (x:I2):List Value:=[.int .i64 x.1,.int .i64 x.2]
def c3 (x:I3):List Value:=[.int .i64 x.1,.int .i64 x.2.1,.int .i64 x.2.2]
def L1 (l:List Int):List Value:=l.map (Value.int .i64)
def L2 (l:List I2):List Value:=l.flatMap c2
def L3 (l:List I3):List Value:=l.flatMap c3
theorem L1_len (l:List Int):(L1 l).length=l.length:=List.length_map _
theorem L2_len (l:List I2):(L2 l).length=l.length*2:=flat_len (f:=c2) (fun _=>rfl) l
theorem L3_len (l:List I3):(L3 l).length=l.length*3:=flat_len (f:=c3) (fun _=>rfl) l
theorem L1_get (l:List Int) (i:Nat) (h:i < l.length):(L1 l)[i]? =some (.int .i64 l[i]):=by unfold L1;rw [List.getElem?_map,List.getElem?_eq_getElem h];rfl
theorem L1_append (l r:List Int):L1 (l++r)=L1 l++L1 r:=List.map_append
theorem L2_append (l r:List I2):L2 (l++r)=L2 l++L2 r:=List.flatMap_append
section
variable {W:World} {n c g o:Nat}
theorem Sx.at1 {l:List Int} (h:Sx 1 W (some ⟨g,o,none⟩) n c (L1 l)) {i:Nat} (hi:i < l.length):W.cell? ⟨g,o+i,none⟩=some (.int .i64 l[i]):=h.cell (L1_get l i hi)
theorem Sx.at2 {l:List I2} (h:Sx 2 W (some ⟨g,o,none⟩) n c (L2 l)) {i:Nat} (hi:i < l.length):W.cell? ⟨g,o+i*2,none⟩=some (.int .i64 l[i].1)/\W.cell? ⟨g,o+i*2+1,none⟩=some (.int .i64 l[i].2):=
 ⟨h.cell (flat_get (k:=2) (fun _=>rfl) l i 0 hi (by omega)),h.cell (flat_get (k:=2) (fun _=>rfl) l i 1 hi (by omega))⟩
theorem Sx.n1 {a:Option Addr} {l:List Int} (h:Sx 1 W a n c (L1 l)):n=l.length:=by have:=h.1;rw [L1_len]at this;omega
theorem Sx.n2 {a:Option Addr} {l:List I2} (h:Sx 2 W a n c (L2 l)):n=l.length:=by have:=h.1;rw [L2_len]at this;omega
theorem Sx.n3 {a:Option Addr} {l:List I3} (h:Sx 3 W a n c (L3 l)):n=l.length:=by have:=h.1;rw [L3_len]at this;omega
end
def inB (x lo hi:Int):Bool:=decide (lo<=x) && decide (x<=hi)
theorem inB_iff {x lo hi:Int} :inB x lo hi=true↔lo<=x/\x<=hi:=by unfold inB;rw [Bool.and_eq_true,decide_eq_true_eq,decide_eq_true_eq]
def Gives (v:Value) (w:World) (e:Ending) (w':World):Prop:=e= .returned v/\Below w.heap.size w w'
def Asks (g:Nat) (cb:Array Value) (w:World) {α β:Type} (agg:α->Value) (l:List α) (ans:β->Value) (p:α->β):Prop:=
 ∀W,Below w.heap.size w W->∀x∈l,Calls Tryz.prog g (#[agg x]++cb) W (Gives (ans (p x)) W)
abbrev EG (g:Nat):Prop:=∀args w,(callFunc g args).run Tryz.prog w= .ok (.enter g args) w
end
end Go.Proofs.YtjpojeapdgjbhaaGreatDoor
