/- part -/
import Derived.Test.YtjpojeapdgjbhaaGreatDoorQ18
import Derived.Deep.OwnRows
import Derived.Deep.AppendLies
import Derived.Deep.Upon
namespace Go.Proofs.YtjpojeapdgjbhaaGreatDoor
open Go.RowKit
section
variable {w W:World} {bs:List (Nat×Array Value×TypeId)} {os:List Rw} {rs:List (World->Prop)} {P:Program}
end
section
variable {w W W' V:World} {bs:List (Nat×Array Value×TypeId)} {os:List Rw} {rs:List (World->Prop)} {size n c m:Nat} {a:Option Addr} {xs:List Value} {P:Program}
theorem run_append_sx (t ty e:TypeId) (i:TypeInfo) (z:Value) (size bytes:Nat) (ht:P.underlying t=some (.slice e)) (hi:P.info? e=some i) (hz:i.zero=some z)
  (hsize:i.size=size) (hby:i.bytes=bytes) (hzs:z.cells.size=size) (hsz:0 < size)
  (v:Value) (n:Nat) (xs:List Value) (hown:W.ownsRow 0 e size v n xs)
  (s:Option Addr) (m c:Nat) (news:List Value) (hsrc:Sx size W s m c news) (h1:∀u∈news,u.oneCell'=true)
  (h63:n+m<=1000000000) (hbytes:bytes<=100000):
  ∃a' c' w',(Builtin.append_ #[t,t] ty #[v,.slice s m c]).run P W= .ok (.slice a' (n+m) c') w'/\w'.ownsRow 0 e size (.slice a' (n+m) c') (n+m) (xs++news)/\W.grownBy w' v.ownBlock/\Since W.heap.size v (.slice a' (n+m) c'):=by
 have hmax:n+m<=maxLen:=by simp only [maxLen];omega
 have hb47:(n+m)*bytes<=140737488355328:=Nat.le_trans (Nat.mul_le_mul h63 hbytes) (by omega);rcases Nat.eq_zero_or_pos m with hm | hm
 ·subst hm;have hn:news= []:=List.eq_nil_of_length_eq_zero (by simpa using hsrc.1);subst hn;have hsr:Src P i.size t (.slice s 0 c) 0 [] W:=by
   rcases s with _ | ad
   ·exact Src.ofNil W ht c
   ·exact Src.ofSlice W ht ad 0 c [] (by simp) (fun j u h=>by simp at h) (fun u h=>by cases h)
  obtain ⟨b,l,k,rfl,hle⟩:∃b k' k,v= .slice b k' k/\k'<=k/\k'=n:=by
   rcases hown.2 with ⟨rfl,rfl⟩ | ⟨g,cap,cur,rfl,_,_,h4,_⟩
   ·exact⟨none,0,0,rfl,Nat.le_refl _,rfl⟩
   ·exact⟨_,n,cap,rfl,h4,rfl⟩
  obtain ⟨hle,rfl⟩:=hle;have hr:=run_append_nothing (P:=P) W t t ty e i ht hi b l k hle _ hsr;exact⟨b,k,W,by simpa using hr,by simpa using hown,⟨rfl,rfl,rfl,Nat.le_refl _,fun _ _ _=>rfl⟩,Since.refl _ _⟩
 ·obtain ⟨g,o,rfl,hg,hc⟩:=hsrc.2.2.2 hm;have hadd:∀j,(⟨g,o,none⟩:Addr).add j=⟨g,o+j,none⟩:=fun j=>Addr.add_lit ..;obtain ⟨g',cap,w',hr,h2,h3,h4,h5⟩:=run_append_lies (P:=P) W t ty 0 e i z size bytes ht hi hz hsize hby hzs hsz v n xs hown ⟨g,o,none⟩ m c news hsrc.1 (fun j u h=>by rw [hadd];exact hc j u h) h1 hm hmax hb47 (Nat.zero_le _) W.heap.size rfl;refine⟨_,_,w',hr,h2,h3,fun k hk=>?_⟩;simp only [Value.ownBlock,Option.some.injEq]at hk;subst hk;rcases h4 with h4 | h4
  ·exact .inl h4
  ·exact .inr (by omega)
theorem op_append_sx {o:Oper} {A:Act} {K:Act->World->Prop} {Q:Exit->Act->World->Prop} (h:Sy w W bs os rs) (i:Nat) {v:Value} {e:TypeId} {size n m c bytes:Nat} {b:Option Addr} {xs ys:List Value} {z:Value}
  (hi:os[i]? =some ⟨v,e,size,n,xs⟩) (hj:Sx size W b m c ys) (s x:Operand) (t:TypeId) (ho:o.op= .call { callee:= .builtin .append,args:=#[s,x],argTypes:=#[t,t] })
  (ht:P.underlying t=some (.slice e)) (hinfo:(P.info? e).map (fun i=>(i.zero,i.size,i.bytes))=some (some z,size,bytes)) (hzs:z.cells.size=size) (hsz:0 < size) (hs:A.eval s=v) (hx:A.eval x= .slice b m c)
  (h1:∀u∈ys,u.oneCell'=true) (hlen:n+m<=1000000000) (hbytes:bytes<=100000)
  (hK:∀a' c' V,Sy w V bs (os.set i ⟨.slice a' (n+m) c',e,size,n+m,xs++ys⟩) rs->K (A.put o.dst (.slice a' (n+m) c')) V):Oper.wp P o A W K Q:=by
 obtain ⟨i0,hi0,hz0,hz1,hz2⟩:=info_parts hinfo;obtain ⟨a',c',w',hr,h2,h3,h4⟩:=run_append_sx (P:=P) (W:=W) t o.type e i0 z size bytes ht hi0 hz0 hz1 hz2 hzs hsz v n xs (h.orow0 i hi) b m c ys hj h1 hlen hbytes;unfold Oper.wp execOp;simp only [ho,resolve,invoke,builtin,Sem.run_bind,Sem.run_pure,Result.andThen_ok,List.map_toArray,List.map_cons,List.map_nil,hs,hx,hr];exact hK a' c' w' (h.oset i hi h2 h3 h4)
theorem wpList_append_sx {ops:Array Oper} {rest:List Oper} {o:Oper} {A:Act} {Q:Exit->Act->World->Prop} (hgd:o.guard=none) (h:Sy w W bs os rs) (i:Nat) {v:Value} {e:TypeId} {size n m c bytes:Nat} {b:Option Addr} {xs ys:List Value} {z:Value}
  (hi:os[i]? =some ⟨v,e,size,n,xs⟩) (hj:Sx size W b m c ys) (s x:Operand) (t:TypeId) (ho:o.op= .call { callee:= .builtin .append,args:=#[s,x],argTypes:=#[t,t] })
  (ht:P.underlying t=some (.slice e)) (hinfo:(P.info? e).map (fun i=>(i.zero,i.size,i.bytes))=some (some z,size,bytes)) (hzs:z.cells.size=size) (hsz:0 < size) (hs:A.eval s=v) (hx:A.eval x= .slice b m c)
  (h1:∀u∈ys,u.oneCell'=true) (hlen:n+m<=1000000000) (hbytes:bytes<=100000)
  (hK:∀a' c' V,Sy w V bs (os.set i ⟨.slice a' (n+m) c',e,size,n+m,xs++ys⟩) rs->wpList P ops Q rest (A.put o.dst (.slice a' (n+m) c')) V):wpList P ops Q (o::rest) A W:=
 wpList_plain hgd fun _ hK'=>op_append_sx h i hi hj s x t ho ht hinfo hzs hsz hs hx h1 hlen hbytes (fun a' c' V hV=>hK' _ _ (hK a' c' V hV))
end
section
variable {W:World} {n c g o:Nat}
end
section
def nextEnd (ends:List Int) (m far:Int):Int:=ends.foldl (fun m e=>if m < e/\e<=far then e else m) m
def estep (ends:List Int) (days:Int) (s:Nat×List (Int×Int×Int)×Int) (pace:Int):Nat×List (Int×Int×Int)×Int:=
 (s.1+1,if s.2.2 < nextEnd ends s.2.2 (s.2.2+pace*days)then s.2.1++ [((s.1:Int),s.2.2,nextEnd ends s.2.2 (s.2.2+pace*days))]else s.2.1,nextEnd ends s.2.2 (s.2.2+pace*days))
def eagerS (ends:List Int) (paces:List Int) (days:Int):Nat×List (Int×Int×Int)×Int:=paces.foldl (estep ends days) (0,[],0)
def reachOf (ends paces:List Int) (days:Int):Int:=(eagerS ends paces days).2.2
theorem nextEnd_nil (m far:Int):nextEnd [] m far=m:=rfl
theorem nextEnd_cons (e:Int) (l:List Int) (m far:Int):nextEnd (e::l) m far=nextEnd l (if m < e/\e<=far then e else m) far:=rfl
theorem nextEnd_le {far X:Int} :∀ {l:List Int} {m:Int},nextEnd l m far<=X↔m<=X/\∀e∈l,e<=far->e<=X:=by
 intro l;induction l with
 | nil=>intro m;simp [nextEnd_nil]
 | cons a l ih=>
   intro m;rw [nextEnd_cons,ih];constructor
   ·rintro ⟨h1,h2⟩;refine⟨?_,fun e he hf=>?_⟩
    ·split at h1<;>omega
    ·rcases List.mem_cons.1 he with rfl | he
     ·split at h1<;>omega
     ·exact h2 e he hf
   ·rintro ⟨h1,h2⟩;refine⟨?_,fun e he hf=>h2 e (List.mem_cons_of_mem _ he) hf⟩
    split
    ·rename_i hc;exact h2 a (List.mem_cons_self ..) hc.2
    ·exact h1
theorem nextEnd_ge (l:List Int) (m far:Int):m<=nextEnd l m far:=(nextEnd_le.1 (Int.le_refl _)).1
theorem eagerS_snoc (ends l:List Int) (p days:Int):eagerS ends (l++ [p]) days=estep ends days (eagerS ends l days) p:=by
 unfold eagerS;rw [List.foldl_append];rfl
theorem reach_snoc (ends l:List Int) (p days:Int):reachOf ends (l++ [p]) days=nextEnd ends (reachOf ends l days) (reachOf ends l days+p*days):=by
 unfold reachOf;rw [eagerS_snoc];rfl
theorem rev_ind {motive:List Int->Prop} (h0:motive []) (h1:∀l p,motive l->motive (l++ [p])):∀l,motive l:=by
 intro l;have:∀r:List Int,motive r.reverse:=by
  intro r;induction r with
  | nil=>exact h0
  | cons a r ih=>rw [List.reverse_cons];exact h1 _ _ ih
 have:=this l.reverse;rwa [List.reverse_reverse]at this
theorem reach_le {ends:List Int} {X days:Int} (h0:0<=X) (h:∀e∈ends,e<=X):∀paces,reachOf ends paces days<=X:=by
 refine rev_ind h0 fun l p ih=>?_;rw [reach_snoc];exact nextEnd_le.2 ⟨ih,fun e he _=>h e he⟩
theorem reach_take_le (ends l:List Int) (days:Int):∀r:List Int,reachOf ends l days<=reachOf ends (l++r) days:=by
 refine rev_ind (by rw [List.append_nil];exact Int.le_refl _) fun r p ih=>?_;rw [<-List.append_assoc,reach_snoc];exact Int.le_trans ih (nextEnd_ge _ _ _)
theorem reach_enough {ends paces:List Int} {L d:Int} (hL:L∈ends) (hall:∀e∈ends,e<=L) (h0:0<=L) (hp:paces≠ []) (h1:∀p∈paces,1<=p) (hd:L<=d):reachOf ends paces d=L:=by
 refine Int.le_antisymm (reach_le h0 hall _) ?_;obtain ⟨p,r,rfl⟩:=List.exists_cons_of_ne_nil hp;have h2:=reach_take_le ends [p] d r;have hp1:=h1 p (List.mem_cons_self ..);have h3:reachOf ends [p] d=nextEnd ends 0 (0+p*d):=reach_snoc ends [] p d;have h4:L<=nextEnd ends 0 (0+p*d):=((nextEnd_le (far:=0+p*d)).1 (Int.le_refl _)).2 L hL (by
  have:1*d<=p*d:=Int.mul_le_mul_of_nonneg_right hp1 (by omega);omega)
 rw [h3]at h2;exact Int.le_trans h4 h2
end
end Go.Proofs.YtjpojeapdgjbhaaGreatDoor
