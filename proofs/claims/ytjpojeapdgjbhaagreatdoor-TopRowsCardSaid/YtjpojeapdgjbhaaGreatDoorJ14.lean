/- part -/
import Derived.Deep.OwnRows
import Derived.Deep.AppendLies
import Derived.Deep.Upon
import Derived.Test.YtjpojeapdgjbhaaGreatDoorJ13
import Derived.WalkSpells
set_option maxRecDepth 100000
set_option maxHeartbeats 4000000
namespace Go.Proofs.YtjpojeapdgjbhaaGreatDoor
open Go.RowKit
section
variable {w W:World} {bs:List (Nat×Array Value×TypeId)} {os:List Rw} {rs:List (World->Prop)} {P:Program}
end
section
variable {w W W' V:World} {bs:List (Nat×Array Value×TypeId)} {os:List Rw} {rs:List (World->Prop)} {size n c m:Nat} {a:Option Addr} {xs:List Value} {P:Program}
theorem run_append_sx (t ty e:TypeId) (i:TypeInfo) (z:Value) (size bytes:Nat) (ht:P.underlying t=some (.slice e)) (hi:P.info? e=some i) (hz:i.zero=some z)
  (hsize:i.size=size) (hby:i.bytes=bytes) (hzs:z.cells.size=size) (hsz:0 < size)
  (v:Value) (n:Nat) (xs:List Value) (hown:W.ownsRow 0 e size v n xs)
  (s:Option Addr) (m c:Nat) (news:List Value) (hsrc:Sx size W s m c news) (h1:∀u∈news,u.oneCell'=true)
  (h63:n+m<=1000000000) (hbytes:bytes<=100000):
  ∃a' c' w',(Builtin.append_ #[t,t] ty #[v,.slice s m c]).run P W= .ok (.slice a' (n+m) c') w'/\w'.ownsRow 0 e size (.slice a' (n+m) c') (n+m) (xs++news)/\W.grownBy w' v.ownBlock/\Since W.heap.size v (.slice a' (n+m) c'):=by
 have hmax:n+m<=maxLen:=by simp only [maxLen];omega
 have hb47:(n+m)*bytes<=140737488355328:=Nat.le_trans (Nat.mul_le_mul h63 hbytes) (by omega);rcases Nat.eq_zero_or_pos m with hm | hm
 ·subst hm;have hn:news= []:=List.eq_nil_of_length_eq_zero (by simpa using hsrc.1);subst hn;have hsr:Src P i.size t (.slice s 0 c) 0 [] W:=by
   rcases s with _ | ad
   ·exact Src.ofNil W ht c
   ·exact Src.ofSlice W ht ad 0 c [] (by simp) (fun j u h=>by simp at h) (fun u h=>by cases h)
  obtain ⟨b,l,k,rfl,hle⟩:∃b k' k,v= .slice b k' k/\k'<=k/\k'=n:=by
   rcases hown.2 with ⟨rfl,rfl⟩ | ⟨g,cap,cur,rfl,_,_,h4,_⟩
   ·exact⟨none,0,0,rfl,Nat.le_refl _,rfl⟩
   ·exact⟨_,n,cap,rfl,h4,rfl⟩
  obtain ⟨hle,rfl⟩:=hle;have hr:=run_append_nothing (P:=P) W t t ty e i ht hi b l k hle _ hsr;exact⟨b,k,W,by simpa using hr,by simpa using hown,⟨rfl,rfl,rfl,Nat.le_refl _,fun _ _ _=>rfl⟩,Since.refl _ _⟩
 ·obtain ⟨g,o,rfl,hg,hc⟩:=hsrc.2.2.2 hm;have hadd:∀j,(⟨g,o,none⟩:Addr).add j=⟨g,o+j,none⟩:=fun j=>Addr.add_lit ..;obtain ⟨g',cap,w',hr,h2,h3,h4,h5⟩:=run_append_lies (P:=P) W t ty 0 e i z size bytes ht hi hz hsize hby hzs hsz v n xs hown ⟨g,o,none⟩ m c news hsrc.1 (fun j u h=>by rw [hadd];exact hc j u h) h1 hm hmax hb47 (Nat.zero_le _) W.heap.size rfl;refine⟨_,_,w',hr,h2,h3,fun k hk=>?_⟩;simp only [Value.ownBlock,Option.some.injEq]at hk;subst hk;rcases h4 with h4 | h4
  ·exact .inl h4
  ·exact .inr (by omega)
theorem op_append_sx {o:Oper} {A:Act} {K:Act->World->Prop} {Q:Exit->Act->World->Prop} (h:Sy w W bs os rs) (i:Nat) {v:Value} {e:TypeId} {size n m c bytes:Nat} {b:Option Addr} {xs ys:List Value} {z:Value}
  (hi:os[i]? =some ⟨v,e,size,n,xs⟩) (hj:Sx size W b m c ys) (s x:Operand) (t:TypeId) (ho:o.op= .call { callee:= .builtin .append,args:=#[s,x],argTypes:=#[t,t] })
  (ht:P.underlying t=some (.slice e)) (hinfo:(P.info? e).map (fun i=>(i.zero,i.size,i.bytes))=some (some z,size,bytes)) (hzs:z.cells.size=size) (hsz:0 < size) (hs:A.eval s=v) (hx:A.eval x= .slice b m c)
  (h1:∀u∈ys,u.oneCell'=true) (hlen:n+m<=1000000000) (hbytes:bytes<=100000)
  (hK:∀a' c' V,Sy w V bs (os.set i ⟨.slice a' (n+m) c',e,size,n+m,xs++ys⟩) rs->K (A.put o.dst (.slice a' (n+m) c')) V):Oper.wp P o A W K Q:=by
 obtain ⟨i0,hi0,hz0,hz1,hz2⟩:=info_parts hinfo;obtain ⟨a',c',w',hr,h2,h3,h4⟩:=run_append_sx (P:=P) (W:=W) t o.type e i0 z size bytes ht hi0 hz0 hz1 hz2 hzs hsz v n xs (h.orow0 i hi) b m c ys hj h1 hlen hbytes;unfold Oper.wp execOp;simp only [ho,resolve,invoke,builtin,Sem.run_bind,Sem.run_pure,Result.andThen_ok,List.map_toArray,List.map_cons,List.map_nil,hs,hx,hr];exact hK a' c' w' (h.oset i hi h2 h3 h4)
theorem wpList_append_sx {ops:Array Oper} {rest:List Oper} {o:Oper} {A:Act} {Q:Exit->Act->World->Prop} (hgd:o.guard=none) (h:Sy w W bs os rs) (i:Nat) {v:Value} {e:TypeId} {size n m c bytes:Nat} {b:Option Addr} {xs ys:List Value} {z:Value}
  (hi:os[i]? =some ⟨v,e,size,n,xs⟩) (hj:Sx size W b m c ys) (s x:Operand) (t:TypeId) (ho:o.op= .call { callee:= .builtin .append,args:=#[s,x],argTypes:=#[t,t] })
  (ht:P.underlying t=some (.slice e)) (hinfo:(P.info? e).map (fun i=>(i.zero,i.size,i.bytes))=some (some z,size,bytes)) (hzs:z.cells.size=size) (hsz:0 < size) (hs:A.eval s=v) (hx:A.eval x= .slice b m c)
  (h1:∀u∈ys,u.oneCell'=true) (hlen:n+m<=1000000000) (hbytes:bytes<=100000)
  (hK:∀a' c' V,Sy w V bs (os.set i ⟨.slice a' (n+m) c',e,size,n+m,xs++ys⟩) rs->wpList P ops Q rest (A.put o.dst (.slice a' (n+m) c')) V):wpList P ops Q (o::rest) A W:=
 wpList_plain hgd fun _ hK'=>op_append_sx h i hi hj s x t ho ht hinfo hzs hsz hs hx h1 hlen hbytes (fun a' c' V hV=>hK' _ _ (hK a' c' V hV))
end
theorem und_Opening:Tryz.prog.underlying 34=some (.slice 104):=Tryz.underlying34
theorem info_Opening3:(Tryz.prog.info? 104).map (fun i=>(i.zero,i.size,i.bytes))=some (some (.agg #[.int .u8 0,.int .i64 0,.int .i64 0,.int .i64 0,.int .i64 0]),5,40):=by kernel_rfl
theorem LO_one (l:List Opn):∀u∈LO l,u.oneCell'=true:=by
 intro u hu;obtain ⟨o,_,h⟩:=List.mem_flatMap.1 hu;simp [cO]at h;rcases h with rfl | rfl | rfl | rfl | rfl<;>rfl
section
variable (w:World)
theorem cloneO_any (a:OA) (n c:Nat) (l:List Opn) (hs:Sx 5 w a n c (LO l)) (hn:n<=1000):Calls Tryz.prog 32 #[.slice a n c] w (RetRow w 104 5 n (LO l)):=by
 have hnl:=hs.nO;have HS:=ζ hs;have hq:=fun W=>Lib.run_eql_slice_nil (P:=Tryz.prog) W 34 104 a n c 0 0 und_Opening;clear hs;cases a with
 | none=>
   have h0:n=0:=by
    rcases Nat.eq_zero_or_pos n with h | h
    ·exact h
    ·obtain ⟨_,_,e⟩:=HS.out.addr h;cases e
   subst h0;obtain rfl:l= []:=List.length_eq_zero_iff.1 hnl.symm;have hq2:∀W,(binOp .eql 34 (.slice none 0 c) (.slice none 0 0)).run Tryz.prog W= .ok (.bool true) W:=fun W=>hq W;clear hq hnl;go_enter Tryz.func32,Tryz.ntmps32;go_wp2;go_ret;exact⟨none,0,rfl,World.ownsRow_nil _ _ _ _,Below.refl _ _⟩
 | some ad=>
   have hC:=ζ ((Sy.enter w).onew w.heap.size #[] 104 5 0 rfl (by omega) rfl);clear hnl;go_enter Tryz.func32,Tryz.ntmps32;go_wp2_with (refine wpList_append_sx (o:=⟨some 7,_,_,_,_,_⟩) rfl hC.out 0 rfl (hC.out.sx HS.out) _ _ _ rfl und_Opening info_Opening3 rfl (by omega) rfl rfl (LO_one l) (by omega) (by omega) ?_;intro a3 c3 V3 AA;have hJ:=ζ AA;clear AA)
   go_ret;refine⟨a3,c3,rfl,?_,hJ.out.be⟩;have h:=hJ.out.gives 0 rfl;rw [Nat.zero_add]at h;exact h
end
end Go.Proofs.YtjpojeapdgjbhaaGreatDoor
