/- part -/
import Derived.Test.YtjpojeapdgjbhaaGreatDoorQ0
namespace Go.Proofs.YtjpojeapdgjbhaaGreatDoor
open Go.RowKit
section
variable {w W:World} {bs:List (Nat×Array Value×TypeId)} {os:List Rw} {rs:List (World->Prop)} {P:Program} {ops:Array Oper} {Q:Exit->Act->World->Prop} {md:Region.Mode} {S:World->Prop} {fuel:Nat} {l:Array Bool} {a:Act}
theorem stepZ {K':Act->World->Prop} (hK:Shut (∀a w,S w->(S w->wpAnyH P md ops Q S fuel l a w)->K' a w)) (h:Sy w W bs os rs) (hS:∀V,Sy w V bs os rs->S V) (k:∀V,Hid (Sy w V bs os rs)->S V->wpAnyH P md ops Q S fuel l a V):K' a W:=
 stepY hK h hS (fun V hV=>k V (Lib.hid hV))
theorem stW {K':Act->World->Prop} (hK:Shut (∀a w,S w->(S w->wpAnyH P md ops Q S fuel l a w)->K' a w)) (h:Sy w W bs os rs) (k:∀V,Hid (Sy w V bs os rs)->S V->wpAnyH P md ops Q S fuel l a V) (hS:∀V,Sy w V bs os rs->S V:=by exact fun _=>HSL _ _ _ _):K' a W:=
 stepY hK h hS (fun V hV=>k V (Lib.hid hV))
end
section
variable {w W:World} {bs:List (Nat×Array Value×TypeId)} {os:List Rw} {rs:List (World->Prop)}
theorem op_append_sy {P:Program} {o:Oper} {a:Act} {K:Act->World->Prop} {Q:Exit->Act->World->Prop} (h:Sy w W bs os rs) (i j:Nat) {v sv:Value} {e:TypeId} {size n m bytes:Nat} {xs ys:List Value} {z:Value}
  (hi:os[i]? =some ⟨v,e,size,n,xs⟩) (hj:os[j]? =some ⟨sv,e,size,m,ys⟩) (s x:Operand) (t:TypeId) (ho:o.op= .call { callee:= .builtin .append,args:=#[s,x],argTypes:=#[t,t] })
  (ht:P.underlying t=some (.slice e)) (hinfo:(P.info? e).map (fun i=>(i.zero,i.size,i.bytes))=some (some z,size,bytes)) (hzs:z.cells.size=size) (hsz:0 < size) (hs:a.eval s=v) (hx:a.eval x=sv)
  (h1:∀u∈ys,u.oneCell'=true) (hlen:n+m<=1000000000) (hbytes:bytes<=100000)
  (hK:∀a' c' V,Sy w V bs (os.set i ⟨.slice a' (n+m) c',e,size,n+m,xs++ys⟩) rs->K (a.put o.dst (.slice a' (n+m) c')) V):Oper.wp P o a W K Q:=by
 obtain ⟨i0,hi0,hz0,hz1,hz2⟩:=info_parts hinfo;obtain ⟨a',c',w',hr,h2,h3,h4⟩:=run_append_row (P:=P) W t o.type e i0 z size bytes ht hi0 hz0 hz1 hz2 hzs hsz v n xs (h.orow0 i hi) sv m ys (h.orow0 j hj) h1 hlen hbytes;unfold Oper.wp execOp;simp only [ho,resolve,invoke,builtin,Sem.run_bind,Sem.run_pure,Result.andThen_ok,List.map_toArray,List.map_cons,List.map_nil,hs,hx,hr];exact hK a' c' w' (h.oset i hi h2 h3 h4)
theorem wpList_append_sy {P:Program} {ops:Array Oper} {rest:List Oper} {o:Oper} {a:Act} {Q:Exit->Act->World->Prop} (hgd:o.guard=none) (h:Sy w W bs os rs) (i j:Nat) {v sv:Value} {e:TypeId} {size n m bytes:Nat} {xs ys:List Value} {z:Value}
  (hi:os[i]? =some ⟨v,e,size,n,xs⟩) (hj:os[j]? =some ⟨sv,e,size,m,ys⟩) (s x:Operand) (t:TypeId) (ho:o.op= .call { callee:= .builtin .append,args:=#[s,x],argTypes:=#[t,t] })
  (ht:P.underlying t=some (.slice e)) (hinfo:(P.info? e).map (fun i=>(i.zero,i.size,i.bytes))=some (some z,size,bytes)) (hzs:z.cells.size=size) (hsz:0 < size) (hs:a.eval s=v) (hx:a.eval x=sv)
  (h1:∀u∈ys,u.oneCell'=true) (hlen:n+m<=1000000000) (hbytes:bytes<=100000)
  (hK:∀a' c' V,Sy w V bs (os.set i ⟨.slice a' (n+m) c',e,size,n+m,xs++ys⟩) rs->wpList P ops Q rest (a.put o.dst (.slice a' (n+m) c')) V):wpList P ops Q (o::rest) a W:=
 wpList_plain hgd fun _ hK'=>op_append_sy h i j hi hj s x t ho ht hinfo hzs hsz hs hx h1 hlen hbytes (fun a' c' V hV=>hK' _ _ (hK a' c' V hV))
theorem Sy.rcell (h:Sy w W bs os rs) (i:Nat) {g n c:Nat} {e:TypeId} {size:Nat} {xs:List Value} (hi:os[i]? =some ⟨.slice (some ⟨g,0,none⟩) n c,e,size,n,xs⟩) {k:Nat} {u:Value} (hk:xs[k]? =some u):W.cell? ⟨g,k,none⟩=some u:=by
 have:=World.ownsRow.cells (h.orow i hi) (g:=g) rfl k u hk;have hadd:(⟨g,0,none⟩:Addr).add k=⟨g,k,none⟩:=by unfold Addr.add;split<;>simp_all
 rwa [hadd]at this
theorem Sy.rfree (h:Sy w W bs os rs) (i:Nat) {g n c:Nat} {e:TypeId} {size:Nat} {xs:List Value} (hi:os[i]? =some ⟨.slice (some ⟨g,0,none⟩) n c,e,size,n,xs⟩) (k:Nat):W.frozen? ⟨g,k,none⟩=false:=by
 rcases(h.orow i hi).2 with ⟨h1,_⟩ | ⟨g',cap,cur,h1,_,hg,_⟩
 ·simp at h1
 ·simp only [Value.slice.injEq,Option.some.injEq,Addr.mk.injEq,and_true]at h1;obtain ⟨rfl,_⟩:=h1;simp [World.frozen?,hg]
theorem Sy.ostore (h:Sy w W bs os rs) (i:Nat) {g n c:Nat} {e:TypeId} {size:Nat} {xs:List Value} (hi:os[i]? =some ⟨.slice (some ⟨g,0,none⟩) n c,e,size,n,xs⟩) (k:Nat) (u:Value):Sy w (W.setCell ⟨g,k,none⟩ u) bs (os.set i ⟨.slice (some ⟨g,0,none⟩) n c,e,size,n,xs.set k u⟩) rs:=by
 refine h.oset i hi ?_ ⟨rfl,rfl,rfl,by rw [setCell_size];exact Nat.le_refl _,fun c _ hn=>Below.heap_setCell _ _ _ _ (fun e=>hn (by rw [e];rfl))⟩ (fun b hb=> .inl hb);obtain ⟨h0,h1⟩:=h.orow0 i hi;rcases h1 with ⟨h1,_⟩ | ⟨g',cap,cur,h1,h2,hg,h4,h5,h6,h7⟩
 ·simp at h1
 simp only [Value.slice.injEq,Option.some.injEq,Addr.mk.injEq,and_true,true_and]at h1;obtain ⟨rfl,rfl⟩:=h1;refine⟨by rw [List.length_set];exact h0,.inr ⟨g,c,cur.setIfInBounds k u,rfl,Nat.zero_le _,setCell_at hg,h4,h5,by rw [Array.size_setIfInBounds];exact h6,?_⟩⟩;rw [Array.toList_setIfInBounds,List.take_set,h7]
theorem Sy.thin (h:Sy w W bs os rs) {bs':List (Nat×Array Value×TypeId)} {os':List Rw} (hb:bs'.Sublist bs) (ho:os'.Sublist os):Sy w W bs' os' rs:=
 h.step rfl rfl rfl (Away.refl _ _) (fun b hm=> .inl (by
   rcases mem_own.1 hm with ⟨x,hx,he⟩ | ⟨o,h1,he⟩
   ·exact mem_own.2 (.inl ⟨x,hb.subset hx,he⟩)
   ·exact mem_own.2 (.inr ⟨o,ho.subset h1,he⟩))) (fun x hx=>h.bx x (hb.subset hx)) (fun o h1=>h.ow o (ho.subset h1)) (by
   have:=h.inc;unfold ownOf at this⊢;exact this.sublist ((hb.map _).append (ho.filterMap _)))
end
def Sx (size:Nat) (W:World) (a:Option Addr) (n c:Nat) (xs:List Value):Prop:=
 xs.length=n*size/\n<=c/\c<=maxLen/\(0 < n->∃g o,a=some ⟨g,o,none⟩/\g < W.heap.size/\∀k u,xs[k]? =some u->W.cell? ⟨g,o+k,none⟩=some u)
section
variable {w W W' V:World} {bs:List (Nat×Array Value×TypeId)} {os:List Rw} {rs:List (World->Prop)} {size n c:Nat} {a:Option Addr} {xs:List Value}
theorem Sx.len (h:Sx size W a n c xs):xs.length=n*size:=h.1
theorem Sx.cap (h:Sx size W a n c xs):n<=c/\c<=maxLen:=⟨h.2.1,h.2.2.1⟩
theorem Sx.addr (h:Sx size W a n c xs) (hn:0 < n):∃g o,a=some ⟨g,o,none⟩:=by
 obtain ⟨g,o,e,_⟩:=h.2.2.2 hn;exact⟨g,o,e⟩
theorem Sx.cell {g o:Nat} (h:Sx size W (some ⟨g,o,none⟩) n c xs) {k:Nat} {u:Value} (hk:xs[k]? =some u):W.cell? ⟨g,o+k,none⟩=some u:=by
 have hl:=(List.getElem?_eq_some_iff.1 hk).1;have hn:0 < n:=by
  rcases Nat.eq_zero_or_pos n with e | e
  ·rw [h.1,e,Nat.zero_mul]at hl;exact absurd hl (Nat.not_lt_zero _)
  ·exact e
 obtain ⟨g',o',e,_,hc⟩:=h.2.2.2 hn;simp only [Option.some.injEq,Addr.mk.injEq,and_true]at e;obtain ⟨rfl,rfl⟩:=e;exact hc k u hk
theorem Sx.below (h:Sx size W a n c xs) (hb:Below W.heap.size W V):Sx size V a n c xs:=by
 refine⟨h.1,h.2.1,h.2.2.1,fun hn=>?_⟩;obtain ⟨g,o,e,hg,hc⟩:=h.2.2.2 hn;exact⟨g,o,e,Nat.lt_of_lt_of_le hg hb.size,fun k u hk=>by rw [hb.cell (p:=⟨g,o+k,none⟩) hg];exact hc k u hk⟩
theorem Sx.mono {B:Nat} (h:Sx size w a n c xs) (hb:Below B w V) (hB:w.heap.size=B):Sx size V a n c xs:=by subst hB;exact h.below hb
theorem Sx.nil:Sx size W none 0 0 []:=⟨by simp,Nat.le_refl _,by decide,fun h=>absurd h (by decide)⟩
theorem Sx.owns {base:Nat} {e:TypeId} (h:W.ownsRow base e size (.slice a n c) n xs):Sx size W a n c xs:=by
 obtain ⟨h0,h1⟩:=h;rcases h1 with ⟨h1,h2⟩ | ⟨g,cap,cur,hv,_,hg,h4,h5,h6,h7⟩
 ·simp only [Value.slice.injEq]at h1;obtain ⟨rfl,rfl,rfl⟩:=h1;exact⟨h0,Nat.le_refl _,by decide,fun h=>absurd h (by decide)⟩
 ·simp only [Value.slice.injEq]at hv;obtain ⟨rfl,_,rfl⟩:=hv;refine⟨h0,h4,h5,fun _=>⟨g,0,rfl,(Array.getElem?_eq_some_iff.1 hg).1,fun k u hk=>?_⟩⟩;have hl:=(List.getElem?_eq_some_iff.1 hk).1;rw [<-h7,List.getElem?_take]at hk;rw [if_pos (by omega)]at hk;simp only [World.cell?,hg,Nat.zero_add];simpa using hk
theorem Sx.take (h:Sx size W a n c xs) {i:Nat} (hi:i<=n):Sx size W a i c (xs.take (i*size)):=by
 refine⟨?_,Nat.le_trans hi h.2.1,h.2.2.1,fun hn=>?_⟩
 ·rw [List.length_take,h.1];exact Nat.min_eq_left (Nat.mul_le_mul_right _ hi)
 ·obtain ⟨g,o,e,hg,hc⟩:=h.2.2.2 (by omega);refine⟨g,o,e,hg,fun k u hk=>hc k u ?_⟩;rw [List.getElem?_take]at hk
  split at hk
  ·exact hk
  ·cases hk
theorem Sy.sx (h:Sy w W bs os rs) (hs:Sx size w a n c xs):Sx size W a n c xs:=hs.below h.be
theorem Sy.osx (h:Sy w W bs os rs) (i:Nat) {e:TypeId} (hi:os[i]? =some ⟨.slice a n c,e,size,n,xs⟩):Sx size W a n c xs:=Sx.owns (h.orow i hi)
theorem Sy.adopt (h:Sy w W bs os rs) (hb:Below W.heap.size W W') {e:TypeId} {v:Value} (hr:W'.ownsRow W.heap.size e size v n xs):Sy w W' bs (os++ [⟨v,e,size,n,xs⟩]) rs:=by
 have h1:=h.call hb;have hge:∀b,v.ownBlock=some b->W.heap.size<=b:=fun b hv=>(World.ownsRow.lt hr b hv).1;refine h.step hb.os hb.tape hb.output ⟨hb.size,fun b hl _=>hb.block b hl⟩ (fun b hm=>?_) h1.bx (fun o ho=>?_) (inc_snocO h.inc _ (fun c hc hm=>?_))
 ·rcases(own_snocO _ _ _ _).1 hm with h2 | h2
  ·exact .inl h2
  ·exact .inr (hge b h2)
 ·rcases List.mem_append.1 ho with h2 | h2
  ·exact h1.ow o h2
  ·rcases List.mem_singleton.1 h2 with rfl;refine⟨hr.1,hr.2.imp id ?_⟩;rintro ⟨g,cap,cur,hv,h3,rest⟩;exact⟨g,cap,cur,hv,Nat.le_trans h.be.size h3,rest⟩
 ·have:=(h.own_ge hm).2;have:=hge c hc;omega
theorem Sy.gives (h:Sy w W bs os rs) (i:Nat) {v:Value} {e:TypeId} {size n:Nat} {xs:List Value} (hi:os[i]? =some ⟨v,e,size,n,xs⟩):W.ownsRow w.heap.size e size v n xs:=h.orow i hi
end
theorem flat_len {α:Type} {f:α->List Value} {k:Nat} (hf:∀x,(f x).length=k):∀l:List α,(l.flatMap f).length=l.length*k
 | []=>by simp
 | x::l=>by rw [List.flatMap_cons,List.length_append,hf,flat_len hf l,List.length_cons,Nat.succ_mul];omega
theorem flat_get {α:Type} {f:α->List Value} {k:Nat} (hf:∀x,(f x).length=k):∀ (l:List α) (i j:Nat) (h:i < l.length),j < k->(l.flatMap f)[i*k+j]? =(f l[i])[j]?
 | [],i,_,h,_=>absurd h (Nat.not_lt_zero i)
 | x::l,0,j,_,hj=>by rw [List.flatMap_cons,Nat.zero_mul,Nat.zero_add,List.getElem?_append_left (by rw [hf];exact hj)];rfl
 | x::l,i+1,j,h,hj=>by
   rw [List.flatMap_cons,List.getElem?_append_right (by rw [hf,Nat.succ_mul];omega),hf,show(i+1)*k+j - k=i*k+j by rw [Nat.succ_mul];omega];exact flat_get hf l i j (by simpa using h) hj
theorem flat_take {α:Type} {f:α->List Value} {k:Nat} (hf:∀x,(f x).length=k):∀ (l:List α) (i:Nat),(l.flatMap f).take (i*k)=(l.take i).flatMap f
 | [],i=>by simp
 | x::l,0=>by simp
 | x::l,i+1=>by
   rw [List.flatMap_cons,List.take_succ_cons,List.flatMap_cons,List.take_append,hf,show(i+1)*k - k=i*k by rw [Nat.succ_mul];omega,flat_take hf l i,List.take_of_length_le (by rw [hf,Nat.succ_mul];omega)]
end Go.Proofs.YtjpojeapdgjbhaaGreatDoor
namespace Go.Proofs.YtjpojeapdgjbhaaGreatDoor.Dig
def vl (b:Int):List Int->Int
 | []=>0
 | x::r=>x+b*vl b r
def dg (b n:Nat):List Int:=
 if _h:n=0\/b < 2 then []else((n % b:Nat):Int)::dg b (n / b)
termination_by n
decreasing_by
 rw [not_or]at _h;exact Nat.div_lt_self (by omega) (by omega)
theorem dg_zero (b:Nat):dg b 0= []:=by rw [dg];simp
theorem dg_pos {b n:Nat} (hb:2<=b) (hn:0 < n):dg b n=((n % b:Nat):Int)::dg b (n / b):=by
 rw [dg,dif_neg (by omega)]
theorem vl_append (b:Int) (l r:List Int):vl b (l++r)=vl b l+b ^ l.length*vl b r:=by
 induction l with
 | nil=>simp [vl]
 | cons x l ih=>
   simp only [List.cons_append,vl,ih,List.length_cons,Int.pow_succ];grind
theorem vl_dg {b:Nat} (hb:2<=b) (n:Nat):vl b (dg b n)=n:=by
 induction n using Nat.strongRecOn with
 | _ n ih=>
   by_cases hn:n=0
   ·subst hn;rw [dg_zero];rfl
   ·rw [dg_pos hb (by omega),vl,ih (n / b) (Nat.div_lt_self (by omega) (by omega))];have:=Nat.mod_add_div n b
    exact_mod_cast this
theorem dg_mem {b:Nat} (hb:2<=b) (n:Nat):∀x∈dg b n,0<=x/\x < b:=by
 induction n using Nat.strongRecOn with
 | _ n ih=>
   by_cases hn:n=0
   ·subst hn;rw [dg_zero];simp
   ·rw [dg_pos hb (by omega)];intro x hx;rcases List.mem_cons.1 hx with rfl | hx
    ·have:=Nat.mod_lt n (show 0 < b by omega);omega
    ·exact ih (n / b) (Nat.div_lt_self (by omega) (by omega)) x hx
def Norm (b:Nat) (l:List Int):Prop:=(∀x∈l,0<=x/\x < b)/\∀m:List Int,l≠m++ [0]
theorem vl_nonneg {b:Nat} :∀ {l:List Int},(∀x∈l,0<=x)->0<=vl b l
 | [],_=>Int.le_refl _
 | x::l,h=>by
   have h1:=h x (by simp);have h2:=vl_nonneg (b:=b) (l:=l) (fun y hy=>h y (by simp [hy]));have:=Int.mul_nonneg (show(0:Int)<=b by omega) h2;simp only [vl];omega
theorem vl_lt {b:Nat} (hb:1<=b):∀ {l:List Int},(∀x∈l,0<=x/\x < b)->vl b l < (b:Int) ^ l.length
 | [],_=>by simp [vl]
 | x::l,h=>by
   have h1:=h x (by simp);have h2:=vl_lt hb (l:=l) (fun y hy=>h y (by simp [hy]));simp only [vl,List.length_cons,Int.pow_succ];have h3:(b:Int)*vl b l<=b*(b ^ l.length - 1):=Int.mul_le_mul_of_nonneg_left (by omega) (by omega);have h4:(b:Int)*(b ^ l.length - 1)=b ^ l.length*b - b:=(by grind);omega
theorem norm_tail {b:Nat} {x:Int} {l:List Int} (h:Norm b (x::l)):Norm b l:=
 ⟨fun y hy=>h.1 y (by simp [hy]),fun m hm=>h.2 (x::m) (by simp [hm])⟩
theorem norm_pos {b:Nat} (hb:2<=b):∀ {l:List Int},Norm b l->l≠ []->0 < vl b l
 | [],_,h=>absurd rfl h
 | [x],h,_=>by
   have h1:=h.1 x (by simp);have h2:x≠0:=fun e=>h.2 [] (by simp [e]);simp [vl];omega
 | x::y::l,h,_=>by
   have h1:=h.1 x (by simp);have h2:=norm_pos hb (norm_tail h) (by simp);have:=Int.mul_pos (show(0:Int) < b by omega) h2;rw [vl];omega
theorem dg_of_norm {b:Nat} (hb:2<=b):∀ {l:List Int},Norm b l->dg b (vl b l).toNat=l
 | [],_=>by simp [vl,dg_zero]
 | x::l,h=>by
   have hp:=norm_pos hb h (by simp);have h1:=h.1 x (by simp);have h2:=vl_nonneg (b:=b) (l:=l) (fun y hy=>(h.1 y (by simp [hy])).1);have ih:=dg_of_norm hb (norm_tail h);obtain ⟨n,hn⟩:=Int.eq_ofNat_of_zero_le h2;obtain ⟨m,hm⟩:=Int.eq_ofNat_of_zero_le h1.1;have he:(vl b (x::l)).toNat=m+b*n:=by
    rw [vl,hn,hm];have:(m:Int)+(b:Int)*(n:Int)=((m+b*n:Nat):Int):=(by simp);rw [this];exact Int.toNat_natCast _
   rw [he,dg_pos hb (by rw [vl,hn,hm]at hp;have:(m:Int)+(b:Int)*(n:Int)=((m+b*n:Nat):Int):=by simp
                        rw [this]at hp;omega)]
   have hmb:m < b:=(by omega);have e1:(m+b*n) % b=m:=(by rw [Nat.add_mul_mod_self_left];exact Nat.mod_eq_of_lt hmb);have e2:(m+b*n) / b=n:=(by rw [Nat.add_mul_div_left _ _ (by omega),Nat.div_eq_of_lt hmb];omega);rw [e1,e2,<-hm];rw [hn]at ih;simp at ih;rw [ih]
theorem dg_norm {b:Nat} (hb:2<=b) (n:Nat):Norm b (dg b n):=by
 refine⟨dg_mem hb n,?_⟩;induction n using Nat.strongRecOn with
 | _ n ih=>
   intro m hm;by_cases hn:n=0
   ·subst hn;rw [dg_zero]at hm;simp at hm
   ·rw [dg_pos hb (by omega)]at hm;cases m with
    | nil=>
      simp only [List.nil_append,List.cons.injEq]at hm;have hd:n / b=0:=by
       by_cases h0:n / b=0
       ·exact h0
       ·rw [dg_pos hb (Nat.pos_of_ne_zero h0)]at hm;simp at hm
      have:n < b:=by
       rcases Nat.lt_or_ge n b with h | h
       ·exact h
       ·have:=Nat.div_pos h (show 0 < b by omega);omega
      rw [Nat.mod_eq_of_lt this]at hm;omega
    | cons y m=>
      simp only [List.cons_append,List.cons.injEq]at hm;exact ih (n / b) (Nat.div_lt_self (by omega) (by omega)) m hm.2
theorem dg_len_lt {b:Nat} (hb:2<=b) (n:Nat):n < b ^ (dg b n).length:=by
 have:=vl_lt (b:=b) (by omega) (dg_mem hb n);rw [vl_dg hb]at this
 exact_mod_cast this
theorem dg_len_le {b:Nat} (hb:2<=b) {k:Nat} :∀ {n:Nat},n < b ^ k->(dg b n).length<=k:=by
 induction k with
 | zero=>intro n h;have:n=0:=by simpa using h
         subst this;rw [dg_zero];simp
 | succ k ih=>
   intro n h;by_cases hn:n=0
   ·subst hn;rw [dg_zero];simp
   ·rw [dg_pos hb (by omega),List.length_cons];have:n / b < b ^ k:=(by rw [Nat.div_lt_iff_lt_mul (by omega)];rwa [Nat.pow_succ]at h);have:=ih this;omega
theorem dg_nil_iff {b:Nat} (hb:2<=b) {n:Nat} :dg b n= []↔n=0:=by
 constructor
 ·intro h;have:=vl_dg hb n;rw [h]at this;simp [vl]at this;omega
 ·rintro rfl;exact dg_zero b
theorem dg_len_mono {b:Nat} (hb:2<=b) {m n:Nat} (h:m<=n):(dg b m).length<=(dg b n).length:=
 dg_len_le hb (Nat.lt_of_le_of_lt h (dg_len_lt hb n))
theorem lt_of_len_lt {b:Nat} (hb:2<=b) {m n:Nat} (h:(dg b m).length < (dg b n).length):m < n:=by
 rcases Nat.lt_or_ge m n with h' | h'
 ·exact h'
 ·have:=dg_len_mono hb h';omega
def cr (b:Int):Int->List Int->List Int×Int
 | c,[]=>([],c)
 | c,x::r=>((x+c) % b::(cr b ((x+c) / b) r).1,(cr b ((x+c) / b) r).2)
theorem cr_len (b:Int):∀ (c:Int) (l:List Int),(cr b c l).1.length=l.length
 | _,[]=>rfl
 | c,x::r=>by simp [cr,cr_len b _ r]
theorem cr_snoc (b:Int):∀ (c:Int) (l:List Int) (x:Int),
  cr b c (l++ [x])=((cr b c l).1++ [(x+(cr b c l).2) % b],(x+(cr b c l).2) / b)
 | c,[],x=>by simp [cr]
 | c,y::r,x=>by simp [cr,cr_snoc b _ r x]
theorem cr_vl (b:Int):∀ (c:Int) (l:List Int),vl b (cr b c l).1+b ^ l.length*(cr b c l).2=vl b l+c
 | c,[]=>by simp [cr,vl]
 | c,x::r=>by
   have ih:=cr_vl b ((x+c) / b) r;have hd:=Int.mul_ediv_add_emod (x+c) b;simp only [cr,vl,List.length_cons,Int.pow_succ];grind
theorem cr_mem {b:Nat} (hb:1<=b):∀ (c:Int) (l:List Int),∀x∈(cr b c l).1,0<=x/\x < b
 | _,[]=>by simp [cr]
 | c,y::r=>by
   intro x hx;simp only [cr,List.mem_cons]at hx;rcases hx with rfl | hx
   ·exact⟨Int.emod_nonneg _ (by omega),Int.emod_lt_of_pos _ (by omega)⟩
   ·exact cr_mem hb _ r x hx
theorem cr_carry_nonneg {b:Nat} (hb:1<=b) (l:List Int) (h:0<=vl b l):0<=(cr b 0 l).2:=by
 have h1:=cr_vl b 0 l;have h2:=vl_lt hb (cr_mem hb 0 l);rw [cr_len]at h2;have hp:(0:Int) < (b:Int) ^ l.length:=Int.pow_pos (by omega);rcases Int.lt_or_le (cr b 0 l).2 0 with h' | h'
 ·have:(b:Int) ^ l.length*(cr b 0 l).2<=(b:Int) ^ l.length*(-1):=Int.mul_le_mul_of_nonneg_left (by omega) (by omega);omega
 ·exact h'
theorem vl_take_succ (b:Int) {L:List Int} {k:Nat} (h:k < L.length):vl b (L.take (k+1))=vl b (L.take k)+b ^ k*L[k]:=by
 rw [List.take_succ_eq_append_getElem h,vl_append];simp [vl,Nat.min_eq_left (Nat.le_of_lt h)]
theorem vl_replicate (b:Int) (n:Nat):vl b (List.replicate n 0)=0:=by
 induction n with
 | zero=>rfl
 | succ n ih=>simp [List.replicate_succ,vl,ih]
theorem vl_set (b:Int):∀ {l:List Int} {k:Nat} (y:Int) (h:k < l.length),vl b (l.set k y)=vl b l+b ^ k*(y - l[k])
 | x::l,0,y,_=>by simp [vl];omega
 | x::l,k+1,y,h=>by
   have ih:=vl_set b (l:=l) (k:=k) y (by simpa using h);simp only [List.set_cons_succ,vl,ih,List.getElem_cons_succ,Int.pow_succ];grind
theorem dg_of_take {b:Nat} (hb:2<=b) {L:List Int} {m N:Nat} (hm:m<=L.length) (hr:∀x∈L,0<=x/\x < b) (hv:vl b (L.take m)=N)
  (hz:0 < m->L[m - 1]?.getD 0≠0):L.take m=dg b N:=by
 have hn:Norm b (L.take m):=by
  refine⟨fun x hx=>hr x (List.mem_of_mem_take hx),fun p hp=>?_⟩;have hl:=congrArg List.length hp;rw [List.length_take,Nat.min_eq_left hm,List.length_append,List.length_singleton]at hl;apply hz (by omega);have h1:(L.take m)[m - 1]? =L[m - 1]? :=by rw [List.getElem?_take,if_pos (by omega)]
  rw [<-h1,hp,show m - 1=p.length by omega];simp
 have:=dg_of_norm hb hn;rw [hv]at this;exact this.symm
theorem vl_take_zero (b:Int) {L:List Int} {m:Nat} (hm:m+1<=L.length) (hz:L[m]=0):vl b (L.take (m+1))=vl b (L.take m):=by
 rw [vl_take_succ b hm,hz];simp
theorem vl_lt_of_top {b:Nat} (hb:1<=b) {k:Nat} :∀ {l r:List Int},l.length=r.length->(∀x∈l,0<=x/\x < b)->(∀x∈r,0<=x/\x < b)->
  l.drop (k+1)=r.drop (k+1)->(hl:k < l.length)->(hr:k < r.length)->l[k] < r[k]->vl b l < vl b r:=by
 intro l r hlen h1 h2 hd hl hr hlt;have e1:l=l.take k++l[k]::l.drop (k+1):=by rw [List.getElem_cons_drop,List.take_append_drop]
 have e2:r=r.take k++r[k]::r.drop (k+1):=by rw [List.getElem_cons_drop,List.take_append_drop]
 rw [e1,e2,vl_append,vl_append,vl,vl,hd];have t1:=vl_lt hb (l:=l.take k) (fun x hx=>h1 x (List.mem_of_mem_take hx));have t2:=vl_nonneg (b:=b) (l:=r.take k) (fun x hx=>(h2 x (List.mem_of_mem_take hx)).1);have n1:(l.take k).length=k:=by simp;omega
 have n2:(r.take k).length=k:=by simp;omega
 rw [n1]at t1⊢;rw [n2];have hp:(0:Int) < (b:Int) ^ k:=Int.pow_pos (by omega);have:(b:Int) ^ k*(l[k] +1)<=(b:Int) ^ k*r[k]:=Int.mul_le_mul_of_nonneg_left (by omega) (by omega);have e3:(b:Int) ^ k*(l[k] +1)=(b:Int) ^ k*l[k] +b ^ k:=by grind
 have e4:(b:Int) ^ k*(l[k] +b*vl b (r.drop (k+1)))=(b:Int) ^ k*l[k] +b ^ k*(b*vl b (r.drop (k+1))):=by grind
 have e5:(b:Int) ^ k*(r[k] +b*vl b (r.drop (k+1)))=(b:Int) ^ k*r[k] +b ^ k*(b*vl b (r.drop (k+1))):=by grind
 omega
end Go.Proofs.YtjpojeapdgjbhaaGreatDoor.Dig
