/- a part of the proof -/
import Derived.Test.YthmdhlopeponcaaGreatDoorJ1
import Derived.Test.YthmdhlopeponcaaGreatDoorJ19
import Derived.Test.YthmdhlopeponcaaGreatDoorJ0
import Derived.Test.YthmdhlopeponcaaGreatDoorJ17
set_option maxRecDepth 100000
set_option maxHeartbeats 16000000
namespace Go.Proofs.YthmdhlopeponcaaGreatDoor
open Go.RowKit Go.Shelf Dig
attribute [local go_sem] Oper.semAt_some
theorem stp_len {b:Int} :∀ (r:List Int) (x:Int),(stp b x r).length<=r.length
 | [],_=>Nat.le_refl _
 | p::r,x=>by
   unfold stp
   split
   ·have:=stp_len (b:=b) r (min p b);simp only [List.length_cons];omega
   ·have:=stp_len (b:=b) r x;simp only [List.length_cons];omega
theorem Prof.pcs_len {l:List Pt} (h:Prof l) (a b:Int):(Proofs.YthmdhlopeponcaaGreatDoor.pcs l a b).length<=40:=by
 have:=stp_len (b:=b) (l.map (·.x)) a
 rw [List.length_map]at this
 have:=h.forty
 have e:(Proofs.YthmdhlopeponcaaGreatDoor.pcs l a b).length=(stp b a (l.map (·.x))).length:=rfl
 omega
section
variable {w W:World} {bs:List (Nat×Array Value×TypeId)}
theorem Sy.put {l:Nat} {o o':Obj} (h:Sy w W bs [] []) (hb:w.heap.size<=l) (hl:W.heap[l]? =some o) (ho:o.isCells=false):Sy w (W.putObj l o') bs [] [] where
 be:=⟨h.be.os,h.be.tape,h.be.output,by simpa using h.be.size,fun k hk=>(World.putObj_heap_other (by omega)).trans (h.be.block k hk)⟩
 bx x hx:=⟨(h.bx x hx).1,(World.putObj_heap_other (fun e=>by
  have:=(h.bx x hx).2
  rw [e,hl]at this
  cases this;cases ho)).trans (h.bx x hx).2⟩
 ow:=by simp
 inc:=h.inc
 rd:=by simp
theorem Sy.addB (h:Sy w W bs [] []) {b:Nat} {cs:Array Value} {t:TypeId} (hb:w.heap.size<=b) (hc:W.heap[b]? =some (.cells cs t (0,0))) (hn:b∉ownOf bs []):Sy w W (bs++ [(b,cs,t)]) [] [] where
 be:=h.be
 bx x hx:=by
  rcases List.mem_append.1 hx with hx | hx
  ·exact h.bx x hx
  ·rcases List.mem_singleton.1 hx with rfl
   exact⟨hb,hc⟩
 ow:=by simp
 inc:=by
  have hi:=h.inc
  unfold ownOf at hi hn⊢
  simp only [List.filterMap_nil,List.append_nil,List.map_append,List.map_cons,List.map_nil]at hi hn⊢
  exact List.nodup_append.2 ⟨hi,by simp,fun x hx y hy e=>by rcases List.mem_singleton.1 hy with rfl;exact hn (e ▸ hx)⟩
 rd:=by simp
theorem keepsFrom_away {rs:List (World->Prop)} {V:World} (h:Sy w W bs [] rs) (hA:Away (ownOf bs []) W V) (B:Nat):KeepsFrom B W V:=⟨hA.1,fun k o _ hk ho=>(hA.2 k (Array.getElem?_eq_some_iff.1 hk).1 (fun hm=>by
 rcases mem_own.1 hm with ⟨x,hx,rfl⟩ | ⟨o,hq,_⟩
 ·have:=(h.bx x hx).2
  rw [hk]at this
  cases this;cases ho
 ·cases hq)).trans hk⟩
end
section
variable (w:World)
theorem pieces_in (n:Nat) (sa:OA) (sn sc:Nat) (a b:Int):CallsIn Fence.wide n Tryz.prog 156 #[.agg #[.slice sa sn sc,.int .i64 a,.int .i64 b]] w fun e w'=>e= .returned (.func (.func 177) #[] #[.pointer (some ⟨w.heap.size,0,none⟩)])/\w'=w.alloc (.cells #[.slice sa sn sc,.int .i64 a,.int .i64 b] 120):=by
 refine callsIn_of_wp Tryz.func156 rfl trivial ?_ rfl
 simp only [Tryz.ntmps156,List.size_toArray,List.length_cons,List.length_nil,Nat.reduceAdd,Nat.reduceSub,Array.replicate_succ,Array.replicate_zero,List.push_toArray,List.append_toArray,List.nil_append,List.cons_append]
 gi_wp2
 go_ret
 exact⟨rfl,rfl⟩
theorem info_R:(Tryz.prog.info? 42).map (·.size)=some 3:=by kernel_rfl
theorem mW5_0 {P_ : Prop} (h : P_ := by
 try simp only [zP]
 refine rdy1 4 rfl (fun Kq AF=>?_)
 go_simp
 go_at_call 40
 refine(radd_b (AE.out.r 0 rfl) (AE.out.r 4 rfl) BSM.out BFX.out (by omega) (by omega)).mono ?_
 rintro e wT ⟨a9,n9,c9,m9,d9,e9,f9,rfl,hz,hb⟩
 (try go_wp2_with fail)
 refine stW AF ((AE.out.call hb).pR rfl rfl hz) ?_
 intro AN AA AJ
 clear AF Kq AE hb hz AI
 try simp only [zP]
 refine rdy1 5 rfl (fun Kq AF=>?_)
 have cQ0:=AA.out.c 3 0
 have fQ0:=AA.out.f 3 0
 have cQ1:=AA.out.c 3 1
 have fQ1:=AA.out.f 3 1
 have cQ2:=AA.out.c 3 2
 have fQ2:=AA.out.f 3 2
 go_simp
 refine stepZ AF (AA.out|>.set (j:=0) (v:= .slice a9 n9 c9) 3 rfl|>.set (j:=1) (v:= .bool m9) 3 rfl|>.set (j:=2) (v:= .slice d9 e9 f9) 3 rfl) (fun _ hX=>⟨hX.c 1 0,hX.c 4 0,hX.c 4 1,hX.c 4 2,hX.c 4 3,hX.c 4 4,hX.c 4 5,hX.c 4 6,trivial⟩) ?_
 intro AO AB AK
 clear AF Kq AA cQ0 fQ0 cQ1 fQ1 cQ2 fQ2 AJ
 try simp only [Act.put]
 refine wpAnyH_done (by kernel_rfl) ?_ _
 refine⟨rfl,ζ ⟨keepsFrom_away hS6.out (AB.out.r 3 rfl) _,?_,a9,n9,c9,m9,d9,e9,f9,((AB.out.thin (List.sublist_append_left [_,_,_,_] _) (List.nil_sublist _)).pick [] rfl),?_,Nat.le_trans H3.out (AB.out.r 3 rfl).1,?_⟩⟩
 ·have hA:=AB.out.r 3 rfl
  refine⟨hA.1,fun k o hk ho hn=>?_⟩
  by_cases e6:k=b6
  ·subst e6;exact((AB.out.at_ 4 rfl).2).trans (by rw [HC6.out]at hk;exact hk)
  ·exact(hA.2 k (Array.getElem?_eq_some_iff.1 hk).1 (by simp at hn⊢;omega)).trans hk
 ·rw [List.map_append,List.map_cons,List.map_nil,smQ_snoc,HSM.out]
  exact AB.out.r 5 rfl
 ·intro y hy
  rcases List.mem_append.1 hy with hy | hy
  ·exact H4.out y hy
  ·rcases List.mem_singleton.1 hy with rfl
   exact HGE.out) : P_ := h
theorem hsum_in (n:Nat) (hn:4<=n) (sa:OA) (sn sc:Nat) (l:List Pt) (a b:Int) (hT:Strt l a b) (hs:Sx 2 w sa sn sc (L2 l)) (g:Nat) (cb:Array Value) (eg:EG g) (f:Int×Int->Rat) (N:Nat)
  (hB:∀t:Int×Int,a<=t.1->t.1 < t.2->t.2<=b->Bq N (f t)) (hN:N<=900)
  (hf:∀W x,Below w.heap.size w W->EP l a b x W->Calls Tryz.prog g (#[encP x]++cb) W (RetR W (f x.t))):
  CallsIn Fence.wide n Tryz.prog 131 #[.agg #[.slice sa sn sc,.int .i64 a,.int .i64 b],.func (.func g) #[] cb] w (RetR w (smQ ((pcs l a b).map f))):=by
 have HF:=ζ hf
 have HB:=ζ hB
 have HS:=ζ hs
 have HT:=ζ hT
 have EGH:=ζ eg
 have hlen:=hT.ok.pcs_len a b
 clear hf hB hs hT
 refine callsIn_of_wp_marks Tryz.func131 rfl trivial ?_ rfl
 simp only [Tryz.ntmps131,List.size_toArray,List.length_cons,List.length_nil,Nat.reduceAdd,Nat.reduceSub,Array.replicate_succ,Array.replicate_zero,List.push_toArray,List.append_toArray,List.nil_append,List.cons_append]
 gi_wp2_with fail
 have hS4:=ζ ((((Sy.enter w).al w.heap.size #[.slice sa sn sc,.int .i64 a,.int .i64 b] 120 rfl).al (w.heap.size+1) #[.func (.func g) #[] cb] 181 (by simp)).al (w.heap.size+1+1) #[.slice none 0 0,.bool false,.slice none 0 0] 42 (by simp)|>.al (w.heap.size+1+1+1) #[.slice none 0 0,.bool false,.slice none 0 0] 42 (by simp))
 refine⟨trivial,fun _=>by omega,(pieces_in _ (n - 1) sa sn sc a b).mono ?_⟩
 rintro e w' ⟨rfl,rfl⟩
 gi_wp2_with fail
 have hSW:=ζ (hS4.out.row (o:= .cells #[.slice sa sn sc,.int .i64 a,.int .i64 b] 120))
 obtain ⟨w4,hw4⟩:∃w4,((((w.alloc (.cells #[.slice sa sn sc,.int .i64 a,.int .i64 b] 120)).alloc (.cells #[.func (.func g) #[] cb] 181)).alloc (.cells #[.slice none 0 0,.bool false,.slice none 0 0] 42)).alloc (.cells #[.slice none 0 0,.bool false,.slice none 0 0] 42))=w4:=⟨_,rfl⟩
 have hsz:w4.heap.size=w.heap.size+1+1+1+1:=by rw [<-hw4];simp
 rw [hw4]at hS4 hSW⊢
 rw [<-hsz]
 obtain ⟨W0,hW0⟩:∃W0,w4.alloc (.cells #[.slice sa sn sc,.int .i64 a,.int .i64 b] 120)=W0:=⟨_,rfl⟩
 have hnew:W0.heap[w4.heap.size]? =some (.cells #[.slice sa sn sc,.int .i64 a,.int .i64 b] 120 (0,0)):=by rw [<-hW0];exact World.alloc_heap_new _ _
 have hbig:W0.heap.size=w4.heap.size+1:=by rw [<-hW0];simp
 rw [hW0]at hSW⊢
 obtain ⟨bS,hbS⟩:∃bS,w4.heap.size=bS:=⟨_,rfl⟩
 rw [hbS]at hnew hbig hsz⊢
 obtain ⟨b5,hb5⟩:∃b5,w.heap.size+1+1+1=b5:=⟨_,rfl⟩
 obtain ⟨b4,hb4⟩:∃b4,w.heap.size+1+1=b4:=⟨_,rfl⟩
 obtain ⟨b3,hb3⟩:∃b3,w.heap.size+1=b3:=⟨_,rfl⟩
 obtain ⟨b2,hb2⟩:∃b2,w.heap.size=b2:=⟨_,rfl⟩
 have hS0:Hid (Sy w W0 [(b2,#[.slice sa sn sc,.int .i64 a,.int .i64 b],120),(b3,#[.func (.func g) #[] cb],181),(b4,#[.slice none 0 0,.bool false,.slice none 0 0],42),(b5,#[.slice none 0 0,.bool false,.slice none 0 0],42)] [] []):=ζ (by rw [<-hb5,<-hb4,<-hb3,<-hb2];exact hSW.out)
 rw [hb5,hb4,hb3,hb2]
 have hle:w.heap.size<=W0.heap.size:=hS0.out.be.size
 have hSR:SRd W0 bS sa sn sc l a b:=⟨by simp [World.cell?,hnew],by simp [World.cell?,hnew],by simp [World.cell?,hnew],HS.out.below hS0.out.be⟩
 have hown:∀k∈ [b2,b3,b4,b5],k < bS:=by intro k hk;simp at hk;omega
 have hrow:∀g o,sa=some ⟨g,o,none⟩->g∉ [b2,b3,b4,b5]:=by
  intro g o e hm
  obtain ⟨g',o',e',hg,_⟩:=HS.out.2.2.2 (by have:=HS.out.n2;have:=HT.out.ok.two;omega)
  rw [e]at e'
  simp only [Option.some.injEq,Addr.mk.injEq,and_true]at e'
  simp at hm
  omega
 have HZ:=ζ (show b2=w.heap.size/\b3=w.heap.size+1/\b4=w.heap.size+2/\b5=w.heap.size+3/\bS=w.heap.size+4/\W0.heap.size=bS+1 by omega)
 have hbS1:bS∉ [b2,b3,b4,b5]:=fun hm=>by have:=hown _ hm;omega
 have hown1:∀k∈ [b2,b3,b4,b5],k < W0.heap.size:=fun k hk=>by have:=hown k hk;omega
 clear hS4 hSW hw4 hW0 hnew hbS hsz hbig hb2 hb3 hb4 hb5 hown
 refine wpIn_rangeFunc_at (gf:=177) (lb:=#[.pointer (some ⟨bS,0,none⟩)]) (w0:=W0) (by omega) rfl (enters_of Tryz.func177 (by kernel_rfl) rfl)
  (pieces1_at (n - 1) (by omega) bS sa sn sc l a b W0 HT.out [b2,b3,b4,b5] hSR hbS1 hrow hown1) (Below.refl _ _) (fun _=>rfl)
  keepsC_t (fun W k o o' _ hl ho=>keepsC_p W k o o' hl ho)
  (fun pre W=>Hid (∃ (a5:OA) (n5 c5:Nat) (m5:Bool) (d5:OA) (e5 f5:Nat),Sy w W [(b2,#[.slice sa sn sc,.int .i64 a,.int .i64 b],120),(b3,#[.func (.func g) #[] cb],181),(b4,#[.slice none 0 0,.bool false,.slice none 0 0],42),(b5,#[.slice a5 n5 c5,.bool m5,.slice d5 e5 f5],42)] [] []/\Rd W (.slice a5 n5 c5) m5 (.slice d5 e5 f5) (smQ (pre.map fun x=>f x.t))/\W0.heap.size<=W.heap.size/\∀y∈pre,a<=y.t.1/\y.t.1 < y.t.2/\y.t.2<=b))
  (fun s A B hs hAB=>by
   obtain ⟨a5,n5,c5,m5,d5,e5,f5,h1,h2,h3,h4⟩:=hs.out
   exact ζ ⟨a5,n5,c5,m5,d5,e5,f5,h1.call hAB,h2.keep (Below.keeps hAB),Nat.le_trans h3 hAB.size,h4⟩)
  (fun s W k o o' hs hk hl ho=>by
   obtain ⟨a5,n5,c5,m5,d5,e5,f5,h1,h2,h3,h4⟩:=hs.out
   exact ζ ⟨a5,n5,c5,m5,d5,e5,f5,h1.put (Nat.le_trans hle hk) hl ho,h2.putObj k o o' hl ho,by simpa using h3,h4⟩)
  (ζ ⟨none,0,0,false,none,0,0,hS0.out,Rd.nil,Nat.le_refl _,fun y hy=>by cases hy⟩)
  (fun x a' W=>∃b6,a'= { tmps:=#[.agg #[.slice sa sn sc,.int .i64 a,.int .i64 b],.func (.func g) #[] cb,.pointer (some ⟨b2,0,none⟩),.pointer (some ⟨b3,0,none⟩),.pointer (some ⟨b4,0,none⟩),.pointer (some ⟨b5,0,none⟩),.pointer (some ⟨b6,0,none⟩),.agg #[.slice sa sn sc,.int .i64 a,.int .i64 b],.func (.func 177) #[] #[.pointer (some ⟨bS,0,none⟩)],encP x,undef,undef,undef,undef,undef,undef],defers:=[] } /\W0.heap.size<=b6/\W.heap[b6]? =some (.cells #[.int .i64 (x.t.2 - x.t.1),.slice x.a1 x.n1 x.c1,.bool x.m1,.slice x.d1 x.e1 x.f1,.slice x.a2 x.n2 x.c2,.bool x.m2,.slice x.d2 x.e2 x.f2] 179 (0,0))/\EP l a b x W)
  (fun x a' W k o o' hA hl ho=>by
   obtain ⟨b6,h1,h2,h3,h4⟩:=hA
   exact⟨b6,h1,h2,(World.putObj_heap_other (fun e=>by subst e;rw [hl]at h3;cases h3;cases ho)).trans h3,h4.putObj k o o' hl ho⟩)
  ?assign ?body ?done
 case assign=>
  intro lr pre x W K hi hx hK
  gi_wp2
  have hal:Below W.heap.size W (W.alloc (.cells #[.int .i64 (x.t.2 - x.t.1),.slice x.a1 x.n1 x.c1,.bool x.m1,.slice x.d1 x.e1 x.f1,.slice x.a2 x.n2 x.c2,.bool x.m2,.slice x.d2 x.e2 x.f2] 179)):=(Below.refl _ _).alloc (Nat.le_refl _) _
  obtain ⟨a5,n5,c5,m5,d5,e5,f5,h1,h2,h3,h4⟩:=hi.out
  exact hK _ _ ⟨hal.size,fun k o _ hk _=>heap_below hal hk⟩ (keepsC_below hal) (ζ ⟨a5,n5,c5,m5,d5,e5,f5,h1.call hal,h2.keep (Below.keeps hal),Nat.le_trans h3 hal.size,h4⟩) ⟨W.heap.size,rfl,h3,World.alloc_heap_new _ _,hx.below hal⟩
 case body=>
  rintro lr pre ⟨⟨u1,u2⟩,a1,n1,c1,m1,d1,e1,f1,a2,n2,c2,m2,d2,e2,f2⟩ a' W hi ⟨b6,rfl,hb6,hc6,hE⟩ hlen
  obtain ⟨a5,n5,c5,m5,d5,e5,f5,h1,h2,h3,h4⟩:=hi.out
  clear hi
  have hl6:w.heap.size<=b6:=Nat.le_trans hle hb6
  have hn6:b6∉ownOf [(b2,#[.slice sa sn sc,.int .i64 a,.int .i64 b],120),(b3,#[.func (.func g) #[] cb],181),(b4,#[.slice none 0 0,.bool false,.slice none 0 0],42),(b5,#[.slice a5 n5 c5,.bool m5,.slice d5 e5 f5],42)] []:=by
   intro hm
   simp [ownOf]at hm
   have:=HZ.out
   omega
  have hS6:=ζ (h1.addB hl6 hc6 hn6)
  obtain ⟨sm,hsm⟩:∃sm,smQ (pre.map fun x=>f x.t)=sm:=⟨_,rfl⟩
  have HSM:=ζ hsm
  obtain ⟨K,hK⟩:∃K,pre.length*(N+1)+1=K:=⟨_,rfl⟩
  have hK2:K<=40000:=by
   have:=Nat.mul_le_mul (show pre.length<=40 by omega) (show N+1<=901 by omega)
   omega
  have hpre:∀q∈pre.map (fun x=>f x.t),Bq N q:=by
   intro q hq
   obtain ⟨y,hy,rfl⟩:=List.mem_map.1 hq
   exact HB.out y.t (h4 y hy).1 (h4 y hy).2.1 (h4 y hy).2.2
  have BSM:=ζ (show Bq K sm by rw [<-hsm,<-hK];have:=smQ_bq hpre;rwa [List.length_map]at this)
  have BFX:=ζ (HB.out (u1,u2) hE.ge hE.lt hE.le)
  have HGE:=ζ (show a<=u1/\u1 < u2/\u2<=b from⟨hE.ge,hE.lt,hE.le⟩)
  have HC6:=ζ hc6
  have H3:=ζ h3
  have H4:=ζ h4
  rw [hsm]at h2
  have hS7:Hid (Sy w W [(b2,#[.slice sa sn sc,.int .i64 a,.int .i64 b],120),(b3,#[.func (.func g) #[] cb],181),(b4,#[.slice none 0 0,.bool false,.slice none 0 0],42),(b5,#[.slice a5 n5 c5,.bool m5,.slice d5 e5 f5],42),(b6,#[.int .i64 (u2 - u1),.slice a1 n1 c1,.bool m1,.slice d1 e1 f1,.slice a2 n2 c2,.bool m2,.slice d2 e2 f2],179)] [] [(fun V=>Rd V (.slice a5 n5 c5) m5 (.slice d5 e5 f5) (sm)),(fun V=>Rd V (.slice a1 n1 c1) m1 (.slice d1 e1 f1) (grd l u1)),(fun V=>Rd V (.slice a2 n2 c2) m2 (.slice d2 e2 f2) (grd l u2)),(fun V=>Away [b2,b3,b4,b5,b6] W V)]):=ζ ((((hS6.out.pR rfl rfl h2).pR rfl rfl hE.left).pR rfl rfl hE.last).push (fun V hV=>hV))
  clear h1 h2 h3 h4 hc6 hE hsm hK hpre hn6
  gi_wp2_with fail
  refine wpIn_mono (Q:=fun e _ W'=>e= .normal/\Hid (KeepsFrom W0.heap.size W W'/\KeepsC [b2,b3,b4,b5] W W'/\∃ (a5:OA) (n5 c5:Nat) (m5:Bool) (d5:OA) (e5 f5:Nat),Sy w W' [(b2,#[.slice sa sn sc,.int .i64 a,.int .i64 b],120),(b3,#[.func (.func g) #[] cb],181),(b4,#[.slice none 0 0,.bool false,.slice none 0 0],42),(b5,#[.slice a5 n5 c5,.bool m5,.slice d5 e5 f5],42)] [] []/\Rd W' (.slice a5 n5 c5) m5 (.slice d5 e5 f5) (smQ ((pre++ [(⟨(u1,u2),a1,n1,c1,m1,d1,e1,f1,a2,n2,c2,m2,d2,e2,f2⟩:Pcv)]).map fun x=>f x.t))/\W0.heap.size<=W'.heap.size/\∀y∈pre++ [(⟨(u1,u2),a1,n1,c1,m1,d1,e1,f1,a2,n2,c2,m2,d2,e2,f2⟩:Pcv)],a<=y.t.1/\y.t.1 < y.t.2/\y.t.2<=b)) ?reg ?rest
  case reg=>
   have HSL:∀V ex os rs,Sy w V ([(b2,#[.slice sa sn sc,.int .i64 a,.int .i64 b],120),(b3,#[.func (.func g) #[] cb],181),(b4,#[.slice none 0 0,.bool false,.slice none 0 0],42),(b5,#[.slice a5 n5 c5,.bool m5,.slice d5 e5 f5],42),(b6,#[.int .i64 (u2 - u1),.slice a1 n1 c1,.bool m1,.slice d1 e1 f1,.slice a2 n2 c2,.bool m2,.slice d2 e2 f2],179)]++ex) os rs->(fun w'=>w'.cell? ⟨b3,0,none⟩=some (.func (.func g) #[] cb)/\w'.cell? ⟨b6,0,none⟩=some (.int .i64 (u2 - u1))/\w'.cell? ⟨b6,1,none⟩=some (.slice a1 n1 c1)/\w'.cell? ⟨b6,2,none⟩=some (.bool m1)/\w'.cell? ⟨b6,3,none⟩=some (.slice d1 e1 f1)/\w'.cell? ⟨b6,4,none⟩=some (.slice a2 n2 c2)/\w'.cell? ⟨b6,5,none⟩=some (.bool m2)/\w'.cell? ⟨b6,6,none⟩=some (.slice d2 e2 f2)/\True) V:=fun V ex os rs hX=>⟨hX.c 1 0,hX.c 4 0,hX.c 4 1,hX.c 4 2,hX.c 4 3,hX.c 4 4,hX.c 4 5,hX.c 4 6,trivial⟩
   refine wpIn_region_round (R:=fun _ W'=>Hid (KeepsFrom W0.heap.size W W'/\KeepsC [b2,b3,b4,b5] W W'/\∃ (a5:OA) (n5 c5:Nat) (m5:Bool) (d5:OA) (e5 f5:Nat),Sy w W' [(b2,#[.slice sa sn sc,.int .i64 a,.int .i64 b],120),(b3,#[.func (.func g) #[] cb],181),(b4,#[.slice none 0 0,.bool false,.slice none 0 0],42),(b5,#[.slice a5 n5 c5,.bool m5,.slice d5 e5 f5],42)] [] []/\Rd W' (.slice a5 n5 c5) m5 (.slice d5 e5 f5) (smQ ((pre++ [(⟨(u1,u2),a1,n1,c1,m1,d1,e1,f1,a2,n2,c2,m2,d2,e2,f2⟩:Pcv)]).map fun x=>f x.t))/\W0.heap.size<=W'.heap.size/\∀y∈pre++ [(⟨(u1,u2),a1,n1,c1,m1,d1,e1,f1,a2,n2,c2,m2,d2,e2,f2⟩:Pcv)],a<=y.t.1/\y.t.1 < y.t.2/\y.t.2<=b)) (S:=(fun w'=>w'.cell? ⟨b3,0,none⟩=some (.func (.func g) #[] cb)/\w'.cell? ⟨b6,0,none⟩=some (.int .i64 (u2 - u1))/\w'.cell? ⟨b6,1,none⟩=some (.slice a1 n1 c1)/\w'.cell? ⟨b6,2,none⟩=some (.bool m1)/\w'.cell? ⟨b6,3,none⟩=some (.slice d1 e1 f1)/\w'.cell? ⟨b6,4,none⟩=some (.slice a2 n2 c2)/\w'.cell? ⟨b6,5,none⟩=some (.bool m2)/\w'.cell? ⟨b6,6,none⟩=some (.slice d2 e2 f2)/\True)) (by kernel_rfl) (by kernel_rfl) ⟨hS7.out.drew.c 1 0,hS7.out.drew.c 4 0,hS7.out.drew.c 4 1,hS7.out.drew.c 4 2,hS7.out.drew.c 4 3,hS7.out.drew.c 4 4,hS7.out.drew.c 4 5,hS7.out.drew.c 4 6,trivial⟩ (fun hH=>?_)
   refine wpAnyH_geny (show Sy w _ [(b2,#[.slice sa sn sc,.int .i64 a,.int .i64 b],120),(b3,#[.func (.func g) #[] cb],181),(b4,#[.slice none 0 0,.bool false,.slice none 0 0],42),(b5,#[.slice a5 n5 c5,.bool m5,.slice d5 e5 f5],42),(b6,#[.int .i64 (u2 - u1),.slice a1 n1 c1,.bool m1,.slice d1 e1 f1,.slice a2 n2 c2,.bool m2,.slice d2 e2 f2],179)] [] [(fun V=>Rd V (.slice a5 n5 c5) m5 (.slice d5 e5 f5) (sm)),(fun V=>Rd V (.slice a1 n1 c1) m1 (.slice d1 e1 f1) (grd l u1)),(fun V=>Rd V (.slice a2 n2 c2) m2 (.slice d2 e2 f2) (grd l u2)),(fun V=>Away [b2,b3,b4,b5,b6] W V)]from hS7.out.drew) hH ?_
   intro AV hc AG
   have AD:=ζ hc
   clear hc hH hS7
   refine tkA 1 rfl AG ?_
   try simp only [zP]
   refine tkA 2 rfl AG ?_
   try simp only [zP]
   refine rdyL [0,3] ?_
   refine arc rfl (fun Kq AF=>?_) ?_
   ·have cQ0:=AD.out.c 3 0
    have cQ1:=AD.out.c 3 1
    have cQ2:=AD.out.c 3 2
    go_simp
    refine stW AF AD.out ?_
    intro AL AC AH
    clear AF Kq AD cQ0 cQ1 cQ2 AG
    try simp only [zP]
    refine rdy1 3 rfl (fun Kq AF=>?_)
    go_simp
    refine(HF.out _ ⟨(u1,u2),a1,n1,c1,m1,d1,e1,f1,a2,n2,c2,m2,d2,e2,f2⟩ AC.out.be ⟨AC.out.r 1 rfl,AC.out.r 2 rfl,HGE.out.1,HGE.out.2.1,HGE.out.2.2⟩).mono ?_
    rintro e wT ⟨a8,n8,c8,m8,d8,e8,f8,rfl,hz,hb⟩
    (try go_wp2_with fail)
    refine stW AF ((AC.out.call hb).pR rfl rfl hz) ?_
    intro AM AE AI
    clear AF Kq AC hb hz AH
    exact mW5_0
   refine arc rfl (fun Kq AF=>?_) ?_
   ·go_simp
    refine(HF.out _ ⟨(u1,u2),a1,n1,c1,m1,d1,e1,f1,a2,n2,c2,m2,d2,e2,f2⟩ AD.out.be ⟨AD.out.r 1 rfl,AD.out.r 2 rfl,HGE.out.1,HGE.out.2.1,HGE.out.2.2⟩).mono ?_
    rintro e wT ⟨a8,n8,c8,m8,d8,e8,f8,rfl,hz,hb⟩
    (try go_wp2_with fail)
    refine stW AF ((AD.out.call hb).pR rfl rfl hz) ?_
    intro AL AC AH
    clear AF Kq AD hb hz AG
    try simp only [zP]
    refine rdy1 0 rfl (fun Kq AF=>?_)
    have cQ0:=AC.out.c 3 0
    have cQ1:=AC.out.c 3 1
    have cQ2:=AC.out.c 3 2
    go_simp
    refine stW AF AC.out ?_
    intro AM AE AI
    clear AF Kq AC cQ0 cQ1 cQ2 AH
    exact mW5_0
   exact AllReadyH.nil
  case rest=>
   rintro e a' W' ⟨rfl,h⟩
   exact⟨rfl,h.out.1,h.out.2.1,ζ h.out.2.2⟩
 case done=>
  rintro D xs W hD hxs hi hdef
  obtain ⟨a5,n5,c5,m5,d5,e5,f5,h1,h2,h3,h4⟩:=hi.out
  clear hi
  have HX:=ζ (show smQ (xs.map fun x=>f x.t)=smQ ((pcs l a b).map f)by rw [<-hxs,List.map_map];rfl)
  have hS:=ζ h1
  have hR:=ζ h2
  have AW:=hS.out.c 2 0
  have AP:=hS.out.f 2 0
  have AX:=hS.out.c 2 1
  have AQ:=hS.out.f 2 1
  have AY:=hS.out.c 2 2
  have AR:=hS.out.f 2 2
  have AZ:=hS.out.c 3 0
  have AS:=hS.out.f 3 0
  have A0:=hS.out.c 3 1
  have AT:=hS.out.f 3 1
  have A1:=hS.out.c 3 2
  have AU:=hS.out.f 3 2
  have hDs:=ζ hdef
  clear h1 h2 hdef hxs
  have HD:=ζ hD
  clear h3 h4 hD
  gi_wp2
  have hZ:=ζ ((hS.out.pR rfl rfl hR.out)|>.set (j:=0) (v:= .slice a5 n5 c5) 2 rfl|>.set (j:=1) (v:= .bool m5) 2 rfl|>.set (j:=2) (v:= .slice d5 e5 f5) 2 rfl)
  have hD4:b4≠D:=by have:=HZ.out;have:=HD.out;omega
  obtain ⟨WF,hWF⟩:∃WF,(((W.setCell ⟨b4,0,none⟩ (.slice a5 n5 c5)).setCell ⟨b4,1,none⟩ (.bool m5)).setCell ⟨b4,2,none⟩ (.slice d5 e5 f5))=WF:=⟨_,rfl⟩
  have hdf:WF.heap[D]? =some (.deferred (some [])):=by
   rw [<-hWF]
   exact(Below.heap_setCell _ _ _ _ (fun e=>hD4 e.symm)).trans ((Below.heap_setCell _ _ _ _ (fun e=>hD4 e.symm)).trans ((Below.heap_setCell _ _ _ _ (fun e=>hD4 e.symm)).trans hDs.out))
  rw [hWF]at hZ⊢
  have hY:=(hZ.out.pick [] rfl).put (o':= .deferred none) (show w.heap.size<=D from Nat.le_trans hle HD.out) hdf rfl
  refine⟨by simp,.inl ⟨_,_,rfl,run_takeDeferred hdf,?_⟩⟩
  exact⟨_,results_cell_row Tryz.results131 _ _ b4 42 #[.slice a5 n5 c5,.bool m5,.slice d5 e5 f5] (0,0) _ rfl (hY.at_ 2 rfl).2 Tryz.underlying42 rfl info_R,a5,n5,c5,m5,d5,e5,f5,rfl,by rw [<-HX.out];exact(hZ.out.r 0 rfl).putObj D _ _ hdf rfl,hY.be⟩
end
section
open Go.RowKit Dig
def RowR (w:World) (v:Value) (qs:List Rat):Prop:=∃a c,v= .slice a qs.length c/\∀ (k:Nat) (hk:k < qs.length),∃g s m s',a=some ⟨g,0,none⟩/\g < w.heap.size/\
 w.cell? ⟨g,k*3,none⟩=some s/\w.cell? ⟨g,k*3+1,none⟩=some (.bool m)/\w.cell? ⟨g,k*3+2,none⟩=some s'/\Rd w s m s' qs[k]
theorem RowR.mono {w w':World} {v:Value} {qs:List Rat} (h:RowR w v qs) (hb:Below w.heap.size w w'):RowR w' v qs:=by
 obtain ⟨a,c,rfl,h⟩:=h
 refine⟨a,c,rfl,fun k hk=>?_⟩
 obtain ⟨g,s,m,s',h1,h2,h3,h4,h5,h6⟩:=h k hk
 exact⟨g,s,m,s',h1,Nat.lt_of_lt_of_le h2 hb.size,(hb.cell (p:=⟨g,_,none⟩) h2).trans h3,(hb.cell (p:=⟨g,_,none⟩) h2).trans h4,(hb.cell (p:=⟨g,_,none⟩) h2).trans h5,h6.keep (Below.keeps hb)⟩
def foldQ (op:Rat->Rat->Rat):List Rat->Rat
 | []=>0
 | q::r=>r.foldl op q
theorem foldQ_snoc (op:Rat->Rat->Rat) (l:List Rat) (q:Rat):foldQ op (l++ [q])=if l= []then q else op (foldQ op l) q:=by
 cases l with
 | nil=>rfl
 | cons a l=>simp [foldQ]
theorem ch1_yes (a1:OA) (n1 c1:Nat) (m1:Bool) (d1:OA) (e1 f1:Nat) (q1:Rat) (a2:OA) (n2 c2:Nat) (m2:Bool) (d2:OA) (e2 f2:Nat) (q2:Rat) (w:World) (h1:Rd w (.slice a1 n1 c1) m1 (.slice d1 e1 f1) q1) (h2:Rd w (.slice a2 n2 c2) m2 (.slice d2 e2 f2) q2) (k1 k2:Nat) (b1:Bq k1 q1) (b2:Bq k2 q2) (hk1:k1<=40000) (hk2:k2<=40000) (way:Int) (bw:Nat) (hbw:bw < w.heap.size) (hw:w.cell? ⟨bw,0,none⟩=some (.int .i64 way)) (c:Int) (hc:cmpQ q2 q1=c) (hi:(c==way)=true):
  Calls Tryz.prog 192 #[.agg #[.slice a1 n1 c1,.bool m1,.slice d1 e1 f1],.agg #[.slice a2 n2 c2,.bool m2,.slice d2 e2 f2],.pointer (some ⟨bw,0,none⟩)] w (RetR w q2):=by
 have HC:=ζ hc
 have HW:=ζ hw
 have HBW:=ζ hbw
 clear hc hw hbw
 have B1:=ζ b1
 have B2:=ζ b2
 clear b1 b2
 have hC:=ζ ((((((St.enter w).pr h1).pr h2).al (w.heap.size) #[.slice a1 n1 c1,.bool m1,.slice d1 e1 f1] 42 rfl rfl).al (w.heap.size+1) #[.slice a2 n2 c2,.bool m2,.slice d2 e2 f2] 42 (by simp) rfl).al (w.heap.size+2) #[.slice none 0 0,.bool false,.slice none 0 0] 42 (by simp) rfl)
 clear h1 h2
 go_enter Tryz.func192,Tryz.ntmps192
 go_wp2
 go_region_held3 (fun w'=>w'.cell? ⟨w.heap.size,0,none⟩=some (.slice a1 n1 c1)/\w'.cell? ⟨w.heap.size,1,none⟩=some (.bool m1)/\w'.cell? ⟨w.heap.size,2,none⟩=some (.slice d1 e1 f1)/\w'.cell? ⟨w.heap.size+1,0,none⟩=some (.slice a2 n2 c2)/\w'.cell? ⟨w.heap.size+1,1,none⟩=some (.bool m2)/\w'.cell? ⟨w.heap.size+1,2,none⟩=some (.slice d2 e2 f2)/\w'.cell? ⟨bw,0,none⟩=some (.int .i64 way))
  (first
   | (with_reducible refine And.intro (?_:World.cell? w3 _=_) ?_;exact hC3.out.c 0 0;exact⟨hC3.out.c 0 1,hC3.out.c 0 2,hC3.out.c 1 0,hC3.out.c 1 1,hC3.out.c 1 2,(hC3.out.be.cell (p:=⟨bw,0,none⟩) HBW.out).trans HW.out⟩)
   | (with_reducible refine And.intro (?_:World.cell? _ _=_) ?_;exact hC.out.drew.c 0 0;exact⟨hC.out.drew.c 0 1,hC.out.drew.c 0 2,hC.out.drew.c 1 0,hC.out.drew.c 1 1,hC.out.drew.c 1 2,(hC.out.drew.be.cell (p:=⟨bw,0,none⟩) HBW.out).trans HW.out⟩))
  (first
   | (have _t:=hC;go_at_call 41;refine(rcmp_b (hC.out.drew.r 1 rfl) (hC.out.drew.r 0 rfl) B2.out B1.out (by omega) (by omega)).mono ?_;rintro e w3 ⟨rfl,hb⟩;have hC3:=ζ (hC.out.drew.call hb);clear hb;rw [HC.out];clear _t hC)
   | fail)
 have AM:=hC3.out.c 1 0
 have AN:=hC3.out.f 1 0
 have AO:=hC3.out.c 1 1
 have AP:=hC3.out.f 1 1
 have AQ:=hC3.out.c 1 2
 have AR:=hC3.out.f 1 2
 have AS:=hC3.out.c 2 0
 have AT:=hC3.out.f 2 0
 have AU:=hC3.out.c 2 1
 have AV:=hC3.out.f 2 1
 have AW:=hC3.out.c 2 2
 have AX:=hC3.out.f 2 2
 go_wp2
 refine ret_st (hC3.out|>.t3 2 rfl) (v:= .agg #[.slice a2 n2 c2,.bool m2,.slice d2 e2 f2]) (fun hF=>?_) rfl (fun hF=>⟨_,_,_,_,_,_,_,rfl,hF.r 1 rfl,hF.be⟩)
 ·have e0:=hF.c 2 0
  have e1:=hF.c 2 1
  have e2:=hF.c 2 2
  simp [results,Tryz.results192,go_sem,e0,e1,e2]
theorem ch1_no (a1:OA) (n1 c1:Nat) (m1:Bool) (d1:OA) (e1 f1:Nat) (q1:Rat) (a2:OA) (n2 c2:Nat) (m2:Bool) (d2:OA) (e2 f2:Nat) (q2:Rat) (w:World) (h1:Rd w (.slice a1 n1 c1) m1 (.slice d1 e1 f1) q1) (h2:Rd w (.slice a2 n2 c2) m2 (.slice d2 e2 f2) q2) (k1 k2:Nat) (b1:Bq k1 q1) (b2:Bq k2 q2) (hk1:k1<=40000) (hk2:k2<=40000) (way:Int) (bw:Nat) (hbw:bw < w.heap.size) (hw:w.cell? ⟨bw,0,none⟩=some (.int .i64 way)) (c:Int) (hc:cmpQ q2 q1=c) (hi:(c==way)=false):
  Calls Tryz.prog 192 #[.agg #[.slice a1 n1 c1,.bool m1,.slice d1 e1 f1],.agg #[.slice a2 n2 c2,.bool m2,.slice d2 e2 f2],.pointer (some ⟨bw,0,none⟩)] w (RetR w q1):=by
 have HC:=ζ hc
 have HW:=ζ hw
 have HBW:=ζ hbw
 clear hc hw hbw
 have B1:=ζ b1
 have B2:=ζ b2
 clear b1 b2
 have hC:=ζ ((((((St.enter w).pr h1).pr h2).al (w.heap.size) #[.slice a1 n1 c1,.bool m1,.slice d1 e1 f1] 42 rfl rfl).al (w.heap.size+1) #[.slice a2 n2 c2,.bool m2,.slice d2 e2 f2] 42 (by simp) rfl).al (w.heap.size+2) #[.slice none 0 0,.bool false,.slice none 0 0] 42 (by simp) rfl)
 clear h1 h2
 go_enter Tryz.func192,Tryz.ntmps192
 go_wp2
 go_region_held3 (fun w'=>w'.cell? ⟨w.heap.size,0,none⟩=some (.slice a1 n1 c1)/\w'.cell? ⟨w.heap.size,1,none⟩=some (.bool m1)/\w'.cell? ⟨w.heap.size,2,none⟩=some (.slice d1 e1 f1)/\w'.cell? ⟨w.heap.size+1,0,none⟩=some (.slice a2 n2 c2)/\w'.cell? ⟨w.heap.size+1,1,none⟩=some (.bool m2)/\w'.cell? ⟨w.heap.size+1,2,none⟩=some (.slice d2 e2 f2)/\w'.cell? ⟨bw,0,none⟩=some (.int .i64 way))
  (first
   | (with_reducible refine And.intro (?_:World.cell? w3 _=_) ?_;exact hC3.out.c 0 0;exact⟨hC3.out.c 0 1,hC3.out.c 0 2,hC3.out.c 1 0,hC3.out.c 1 1,hC3.out.c 1 2,(hC3.out.be.cell (p:=⟨bw,0,none⟩) HBW.out).trans HW.out⟩)
   | (with_reducible refine And.intro (?_:World.cell? _ _=_) ?_;exact hC.out.drew.c 0 0;exact⟨hC.out.drew.c 0 1,hC.out.drew.c 0 2,hC.out.drew.c 1 0,hC.out.drew.c 1 1,hC.out.drew.c 1 2,(hC.out.drew.be.cell (p:=⟨bw,0,none⟩) HBW.out).trans HW.out⟩))
  (first
   | (have _t:=hC;go_at_call 41;refine(rcmp_b (hC.out.drew.r 1 rfl) (hC.out.drew.r 0 rfl) B2.out B1.out (by omega) (by omega)).mono ?_;rintro e w3 ⟨rfl,hb⟩;have hC3:=ζ (hC.out.drew.call hb);clear hb;rw [HC.out];clear _t hC)
   | fail)
 have AA:=hC3.out.c 0 0
 have AB:=hC3.out.f 0 0
 have AC:=hC3.out.c 0 1
 have AD:=hC3.out.f 0 1
 have AE:=hC3.out.c 0 2
 have AF:=hC3.out.f 0 2
 have AS:=hC3.out.c 2 0
 have AT:=hC3.out.f 2 0
 have AU:=hC3.out.c 2 1
 have AV:=hC3.out.f 2 1
 have AW:=hC3.out.c 2 2
 have AX:=hC3.out.f 2 2
 go_wp2
 refine ret_st (hC3.out|>.t3 2 rfl) (v:= .agg #[.slice a1 n1 c1,.bool m1,.slice d1 e1 f1]) (fun hF=>?_) rfl (fun hF=>⟨_,_,_,_,_,_,_,rfl,hF.r 0 rfl,hF.be⟩)
 ·have e0:=hF.c 2 0
  have e1:=hF.c 2 1
  have e2:=hF.c 2 2
  simp [results,Tryz.results192,go_sem,e0,e1,e2]
section
variable {w:World} {a1:OA} {n1 c1:Nat} {m1:Bool} {d1:OA} {e1 f1:Nat} {q1:Rat} {a2:OA} {n2 c2:Nat} {m2:Bool} {d2:OA} {e2 f2:Nat} {q2:Rat} {k1 k2:Nat}
def better (way:Int) (x y:Rat):Rat:=if cmpQ y x=way then y else x
theorem ch1_b (way:Int) (bw:Nat) (h1:Rd w (.slice a1 n1 c1) m1 (.slice d1 e1 f1) q1) (h2:Rd w (.slice a2 n2 c2) m2 (.slice d2 e2 f2) q2) (b1:Bq k1 q1) (b2:Bq k2 q2) (hk1:k1<=40000) (hk2:k2<=40000) (hbw:bw < w.heap.size) (hw:w.cell? ⟨bw,0,none⟩=some (.int .i64 way)):
  Calls Tryz.prog 192 #[.agg #[.slice a1 n1 c1,.bool m1,.slice d1 e1 f1],.agg #[.slice a2 n2 c2,.bool m2,.slice d2 e2 f2],.pointer (some ⟨bw,0,none⟩)] w (RetR w (better way q1 q2)):=by
 unfold better
 by_cases h:cmpQ q2 q1=way
 ·rw [if_pos h];exact ch1_yes _ _ _ _ _ _ _ _ _ _ _ _ _ _ _ _ _ h1 h2 k1 k2 b1 b2 hk1 hk2 way bw hbw hw _ rfl (by simp [h])
 ·rw [if_neg h];exact ch1_no _ _ _ _ _ _ _ _ _ _ _ _ _ _ _ _ _ h1 h2 k1 k2 b1 b2 hk1 hk2 way bw hbw hw _ rfl (by simpa using h)
end
theorem fold_ch (a:OA) (c:Nat) (qs:List Rat) (w:World) (h:RowR w (.slice a qs.length c) qs) (way:Int) (bw:Nat) (hbw:bw < w.heap.size) (hw:w.cell? ⟨bw,0,none⟩=some (.int .i64 way)) (N:Nat) (hB:∀q∈qs,Bq N q) (B:Nat->Nat) (hb:∀k,k<=qs.length->Bq (B k) (foldQ (better way) (qs.take k))/\B k<=40000) (hN:N<=40000) (hl:qs.length<=1000):
  Calls Tryz.prog 191 #[.slice a qs.length c,.func (Fn.func 192) #[] #[.pointer (some ⟨bw,0,none⟩)]] w (RetR w (foldQ (better way) qs)):=by
 have HR:=ζ h
 have HB:=ζ hB
 have HBB:=ζ hb
 have HW:=ζ hw
 have HBW:=ζ hbw
 clear hw hbw
 clear h hB hb
 have hC:=ζ (((St.enter w).al (w.heap.size) #[.slice none 0 0,.bool false,.slice none 0 0] 42 rfl rfl).al (w.heap.size+1) #[.slice none 0 0,.bool false,.slice none 0 0] 42 (by simp) rfl)
 go_enter Tryz.func191,Tryz.ntmps191
 go_wp2
 go_loopw [10] (fun iv wr=>∃ (k:Nat) (a1:OA) (n1 c1:Nat) (m1:Bool) (d1:OA) (e1 f1:Nat),k<=qs.length/\iv= .int .i64 k/\Hid (St w wr [(w.heap.size,#[.slice none 0 0,.bool false,.slice none 0 0],42),(w.heap.size+1,#[.slice a1 n1 c1,.bool m1,.slice d1 e1 f1],42)] [fun V=>Rd V (.slice a1 n1 c1) m1 (.slice d1 e1 f1) (foldQ (better way) (qs.take k))])) (fun i _=>qs.length - (intOf i).toNat)
 case atStart=>exact⟨0,none,0,0,false,none,0,0,by omega,rfl,hC.out.pr Rd.nil⟩
 case round=>
  clear hC
  obtain ⟨k,a1,n1,c1,m1,d1,e1,f1,hk,rfl,hC⟩:=hrel
  by_cases hlt:k < qs.length
  ·obtain ⟨_,_,hv,hrow⟩:=HR.out
   simp only [Value.slice.injEq]at hv
   obtain ⟨rfl,_,rfl⟩:=hv
   obtain ⟨g,s,m,s',rfl,hg,hc0,hc1,hc2,hq⟩:=hrow k hlt
   have x0:=(hC.out.be.cell (p:=⟨g,k*3,none⟩) hg).trans hc0
   have x1:=(hC.out.be.cell (p:=⟨g,k*3+1,none⟩) hg).trans hc1
   have x2:=(hC.out.be.cell (p:=⟨g,k*3+2,none⟩) hg).trans hc2
   have hq':=hq.keep (Below.keeps hC.out.be)
   obtain ⟨a2,n2,c2,rfl⟩:=Sl.slice hq'.z.d
   obtain ⟨d2,e2,f2,rfl⟩:=Sl.slice hq'.d
   have hC0:=ζ (hC.out.pr hq')
   have hC1:=ζ (hC0.out.al wr.heap.size #[.slice a2 n2 c2,.bool m,.slice d2 e2 f2] 42 rfl rfl)
   have HT:=ζ (show qs.take (k+1)=qs.take k++ [qs[k]]from List.take_succ_eq_append_getElem hlt)
   clear hrow hc0 hc1 hc2 hq hq'
   have AG:=hC.out.c 1 0
   have AH:=hC.out.f 1 0
   have AI:=hC.out.c 1 1
   have AJ:=hC.out.f 1 1
   have AK:=hC.out.c 1 2
   have AL:=hC.out.f 1 2
   have l0:=hC.out.lt 0 rfl
   have l1:=hC.out.lt 1 rfl
   clear hC
   by_cases hk0:k=0
   ·subst hk0
    have i0:(((0:Nat):Int)==0)=true:=rfl
    go_wp2
    go_roundw
    case rel=>
     refine⟨1,a2,n2,c2,m,d2,e2,f2,by omega,rfl,?_⟩
     rw [HT.out,foldQ_snoc,if_pos (by simp)]
     exact ζ ((hC0.out.set (j:=0) (v:= .slice a2 n2 c2) 1 rfl|>.set (j:=1) (v:= .bool m) 1 rfl|>.set (j:=2) (v:= .slice d2 e2 f2) 1 rfl).row.pick [1] rfl)
    case measure=>simp [intOf];omega
   ·have i0:(((k:Nat):Int)==0)=false:=by simp;omega
    have HK0:=ζ hk0
    clear hk0
    go_wp2_with fail
    refine(ch1_b way bw (hC1.out.r 0 rfl) (hC1.out.r 1 rfl) (HBB.out k hk).1 (HB.out qs[k] (List.getElem_mem hlt)) (HBB.out k hk).2 hN (Nat.lt_of_lt_of_le HBW.out hC1.out.be.size) ((hC1.out.be.cell (p:=⟨bw,0,none⟩) HBW.out).trans HW.out)).mono ?_
    rintro e w3 ⟨a3,n3,c3,m3,d3,e3,f3,rfl,hz,hb⟩
    have hC3:=ζ ((hC1.out.call hb).pr hz)
    clear hC1 hz hb x0 x1 x2 AG AI AK AH AJ AL l0 l1
    have AM:=hC3.out.c 1 0
    have AN:=hC3.out.f 1 0
    have AO:=hC3.out.c 1 1
    have AP:=hC3.out.f 1 1
    have AQ:=hC3.out.c 1 2
    have AR:=hC3.out.f 1 2
    go_wp2
    go_roundw
    case rel=>
     refine⟨k+1,a3,n3,c3,m3,d3,e3,f3,by omega,by go_num,?_⟩
     rw [HT.out,foldQ_snoc,if_neg (by have:=HK0.out;intro e;have:=congrArg List.length e;rw [List.length_take]at this;simp only [List.length_nil]at this;omega)]
     exact ζ (((hC3.out.set (j:=0) (v:= .slice a3 n3 c3) 1 rfl|>.set (j:=1) (v:= .bool m3) 1 rfl|>.set (j:=2) (v:= .slice d3 e3 f3) 1 rfl).bpick [0,1] (by decide) rfl).pick [2] rfl)
    case measure=>simp [intOf];omega
  ·obtain rfl:k=qs.length:=by omega
   have AY:=hC.out.c 0 0
   have AZ:=hC.out.f 0 0
   have A0:=hC.out.c 0 1
   have A1:=hC.out.f 0 1
   have A2:=hC.out.c 0 2
   have A3:=hC.out.f 0 2
   have AG:=hC.out.c 1 0
   have AH:=hC.out.f 1 0
   have AI:=hC.out.c 1 1
   have AJ:=hC.out.f 1 1
   have AK:=hC.out.c 1 2
   have AL:=hC.out.f 1 2
   go_wp2
   refine ret_st (hC.out|>.t3 0 rfl) (v:= .agg #[.slice a1 n1 c1,.bool m1,.slice d1 e1 f1]) (fun hF=>?_) rfl (fun hF=>⟨_,_,_,_,_,_,_,rfl,(by have:=hF.r 0 rfl;rwa [List.take_length]at this),hF.be⟩)
   ·have e0:=hF.c 0 0
    have e1:=hF.c 0 1
    have e2:=hF.c 0 2
    simp [results,Tryz.results191,go_sem,e0,e1,e2]
theorem better_bd {N:Nat} {way:Int} :∀ (qs:List Rat),(∀q∈qs,Bq N q)->∀k,k<=qs.length->Bq (N+1) (foldQ (better way) (qs.take k))
 | qs,_,0,_=>by rw [List.take_zero];exact Bq.zero
 | qs,h,k+1,hk=>by
   have ih:=better_bd (way:=way) qs h k (by omega)
   have hq:=h qs[k] (List.getElem_mem (by omega))
   rw [List.take_succ_eq_append_getElem (by omega),foldQ_snoc]
   split
   ·exact hq.mono (by omega)
   ·unfold better
    split
    ·exact hq.mono (by omega)
    ·exact ih
theorem chosen_any (a:OA) (c:Nat) (qs:List Rat) (w:World) (h:RowR w (.slice a qs.length c) qs) (N:Nat) (hB:∀q∈qs,Bq N q) (hN:N<=1000) (hl:qs.length<=35) (way:Int):
  Calls Tryz.prog 178 #[.slice a qs.length c,.int .i64 way] w (RetR w (foldQ (better way) qs)):=by
 have hC:=ζ ((((St.enter w).row (o:= .cells #[.int .i64 way] 3)).al (w.heap.size+1) #[.slice none 0 0,.bool false,.slice none 0 0] 42 (by simp) rfl))
 have HWC:=ζ (((Box.new w (.int .i64 way) 3).alloc (.cells #[.slice none 0 0,.bool false,.slice none 0 0] 42)).cell)
 have HLT:=ζ (show w.heap.size < ((w.alloc (.cells #[.int .i64 way] 3)).alloc (.cells #[.slice none 0 0,.bool false,.slice none 0 0] 42)).heap.size by simp;omega)
 have HR:=ζ (h.mono hC.out.be)
 have HB:=ζ hB
 clear h hB
 go_enter Tryz.func178,Tryz.ntmps178
 go_wp2_with fail
 refine(fold_ch a c qs _ HR.out way w.heap.size HLT.out HWC.out N HB.out (fun _=>N+1) (fun k hk=>⟨better_bd qs HB.out k hk,by omega⟩) (by omega) (by omega)).mono ?_
 rintro e w3 ⟨a3,n3,c3,m3,d3,e3,f3,rfl,hz,hb⟩
 have hC3:=ζ ((hC.out.call hb).pr hz)
 clear hb hz
 have AA:=hC3.out.c 0 0
 have AB:=hC3.out.f 0 0
 have AC:=hC3.out.c 0 1
 have AD:=hC3.out.f 0 1
 have AE:=hC3.out.c 0 2
 have AF:=hC3.out.f 0 2
 clear hC
 go_wp2
 refine ret_st (hC3.out|>.t3 0 rfl) (v:= .agg #[.slice a3 n3 c3,.bool m3,.slice d3 e3 f3]) (fun hF=>?_) rfl (fun hF=>⟨_,_,_,_,_,_,_,rfl,hF.r 0 rfl,hF.be⟩)
 ·have e0:=hF.c 0 0
  have e1:=hF.c 0 1
  have e2:=hF.c 0 2
  simp [results,Tryz.results178,go_sem,e0,e1,e2]
theorem min_any (a:OA) (c:Nat) (qs:List Rat) (w:World) (h:RowR w (.slice a qs.length c) qs) (N:Nat) (hB:∀q∈qs,Bq N q) (hN:N<=1000) (hl:qs.length<=35):
  Calls Tryz.prog 157 #[.slice a qs.length c] w (RetR w (foldQ (better (-1)) qs)):=by
 have hC:=ζ ((St.enter w).al (w.heap.size) #[.slice none 0 0,.bool false,.slice none 0 0] 42 rfl rfl)
 have HR:=ζ (h.mono hC.out.be)
 have HB:=ζ hB
 clear h hB
 go_enter Tryz.func157,Tryz.ntmps157
 go_wp2_with fail
 refine(chosen_any a c qs _ HR.out N HB.out hN hl (-1)).mono ?_
 rintro e w3 ⟨a3,n3,c3,m3,d3,e3,f3,rfl,hz,hb⟩
 have hC3:=ζ ((hC.out.call hb).pr hz)
 clear hb hz
 have AA:=hC3.out.c 0 0
 have AB:=hC3.out.f 0 0
 have AC:=hC3.out.c 0 1
 have AD:=hC3.out.f 0 1
 have AE:=hC3.out.c 0 2
 have AF:=hC3.out.f 0 2
 clear hC
 go_wp2
 refine ret_st (hC3.out|>.t3 0 rfl) (v:= .agg #[.slice a3 n3 c3,.bool m3,.slice d3 e3 f3]) (fun hF=>?_) rfl (fun hF=>⟨_,_,_,_,_,_,_,rfl,hF.r 0 rfl,hF.be⟩)
 ·have e0:=hF.c 0 0
  have e1:=hF.c 0 1
  have e2:=hF.c 0 2
  simp [results,Tryz.results157,go_sem,e0,e1,e2]
theorem max_any (a:OA) (c:Nat) (qs:List Rat) (w:World) (h:RowR w (.slice a qs.length c) qs) (N:Nat) (hB:∀q∈qs,Bq N q) (hN:N<=1000) (hl:qs.length<=35):
  Calls Tryz.prog 158 #[.slice a qs.length c] w (RetR w (foldQ (better 1) qs)):=by
 have hC:=ζ ((St.enter w).al (w.heap.size) #[.slice none 0 0,.bool false,.slice none 0 0] 42 rfl rfl)
 have HR:=ζ (h.mono hC.out.be)
 have HB:=ζ hB
 clear h hB
 go_enter Tryz.func158,Tryz.ntmps158
 go_wp2_with fail
 refine(chosen_any a c qs _ HR.out N HB.out hN hl 1).mono ?_
 rintro e w3 ⟨a3,n3,c3,m3,d3,e3,f3,rfl,hz,hb⟩
 have hC3:=ζ ((hC.out.call hb).pr hz)
 clear hb hz
 have AA:=hC3.out.c 0 0
 have AB:=hC3.out.f 0 0
 have AC:=hC3.out.c 0 1
 have AD:=hC3.out.f 0 1
 have AE:=hC3.out.c 0 2
 have AF:=hC3.out.f 0 2
 clear hC
 go_wp2
 refine ret_st (hC3.out|>.t3 0 rfl) (v:= .agg #[.slice a3 n3 c3,.bool m3,.slice d3 e3 f3]) (fun hF=>?_) rfl (fun hF=>⟨_,_,_,_,_,_,_,rfl,hF.r 0 rfl,hF.be⟩)
 ·have e0:=hF.c 0 0
  have e1:=hF.c 0 1
  have e2:=hF.c 0 2
  simp [results,Tryz.results158,go_sem,e0,e1,e2]
theorem qR5_0 {P_ : Prop} (h : P_ := by exact ⟨Yx.c 0 0,Yx.c 0 1,Yx.c 0 2,trivial⟩) : P_ := h
theorem rfloor_any (a1:OA) (n1 c1:Nat) (m1:Bool) (d1:OA) (e1 f1:Nat) (q1:Rat) (w:World) (h1:Rd w (.slice a1 n1 c1) m1 (.slice d1 e1 f1) q1) (k1:Nat) (b1:Bq k1 q1) (hk1:k1<=40000):
  Calls Tryz.prog 117 #[.agg #[.slice a1 n1 c1,.bool m1,.slice d1 e1 f1]] w (RetZ w (q1.num / (q1.den:Int))):=by
 have B1:=ζ b1
 clear b1
 have hC:=ζ ((((St.enter w).pr h1).al (w.heap.size) #[.slice a1 n1 c1,.bool m1,.slice d1 e1 f1] 42 rfl rfl).al (w.heap.size+1) #[.slice none 0 0,.bool false] 40 (by simp) rfl)
 clear h1
 go_enter Tryz.func117,Tryz.ntmps117
 go_upto_region 1 with fail
 go_cut [3] (fun s3 wx=>∃bx a4 n4 c4 m4,s3= .pointer (some ⟨bx,0,none⟩)/\Hid (St w wx [(w.heap.size,#[.slice a1 n1 c1,.bool m1,.slice d1 e1 f1],42),(w.heap.size+1,#[.slice none 0 0,.bool false],40),(bx,#[.slice a4 n4 c4,.bool m4],40)] [fun V=>Zd V (.slice a4 n4 c4) m4 (q1.num / (q1.den:Int))]))
 case first=>
  refine wp_gen hC.out ?_
  intro W1 hc
  clear hC
  have hC:=ζ hc
  have HK1:=ζ (show k1<=1000000 by omega)
  have HD:=ζ (den_ne q1)
  clear hc
  go_region_held3 (fun w'=>w'.cell? ⟨w.heap.size,0,none⟩=some (.slice a1 n1 c1)/\w'.cell? ⟨w.heap.size,1,none⟩=some (.bool m1)/\w'.cell? ⟨w.heap.size,2,none⟩=some (.slice d1 e1 f1)/\True)
   (first
    | (with_reducible refine aG (World.setCell (World.setCell (World.setCell (World.setCell (World.alloc (World.alloc wb _) _) _ _) _ _) _ _) _ _) ?_;refine aH ((((AA.out.al (wb.heap.size) #[.slice none 0 0,.bool false] 40 rfl rfl).al (wb.heap.size+1) #[.slice none 0 0,.bool false] 40 (by simp) rfl)|>.t2 2 rfl)|>.t2 3 rfl) (fun Yx=>?_);exact qR5_0)
    | (with_reducible refine aG (World.setCell (World.setCell (World.setCell (World.setCell (World.alloc (World.alloc wb _) _) _ _) _ _) _ _) _ _) ?_;refine aH ((((AA.out.al (wb.heap.size) #[.slice none 0 0,.bool false] 40 rfl rfl).al (wb.heap.size+1) #[.slice none 0 0,.bool false] 40 (by simp) rfl)|>.t2 3 rfl)|>.t2 2 rfl) (fun Yx=>?_);exact qR5_0)
    | (with_reducible refine aG (World.setCell (World.setCell (World.setCell (World.setCell (World.alloc wb _) _ _) _ _) _ _) _ _) ?_;refine aH (((AA.out.al (wb.heap.size) #[.slice none 0 0,.bool false] 40 rfl rfl)|>.t2 2 rfl)|>.t2 3 rfl) (fun Yx=>?_);exact qR5_0)
    | (with_reducible refine aG (World.setCell (World.setCell (World.setCell (World.setCell (World.alloc wb _) _ _) _ _) _ _) _ _) ?_;refine aH (((AA.out.al (wb.heap.size) #[.slice none 0 0,.bool false] 40 rfl rfl)|>.t2 3 rfl)|>.t2 2 rfl) (fun Yx=>?_);exact qR5_0)
    | (with_reducible refine aG (World.alloc (World.setCell (World.setCell (World.alloc (World.alloc wb _) _) _ _) _ _) _) ?_;refine aH ((((AA.out.al (wb.heap.size) #[.slice none 0 0,.bool false] 40 rfl rfl).al (wb.heap.size+1) #[.slice none 0 0,.bool false] 40 (by simp) rfl)|>.t2 2 rfl).row) (fun Yx=>?_);exact qR5_0)
    | (with_reducible refine aG (World.alloc (World.setCell (World.setCell (World.alloc (World.alloc wb _) _) _ _) _ _) _) ?_;refine aH ((((AA.out.al (wb.heap.size) #[.slice none 0 0,.bool false] 40 rfl rfl).al (wb.heap.size+1) #[.slice none 0 0,.bool false] 40 (by simp) rfl)|>.t2 3 rfl).row) (fun Yx=>?_);exact qR5_0)
    | (with_reducible refine aG (World.setCell (World.setCell (World.setCell (World.setCell wb _ _) _ _) _ _) _ _) ?_;refine aH ((AA.out|>.t2 2 rfl)|>.t2 3 rfl) (fun Yx=>?_);exact qR5_0)
    | (with_reducible refine aG (World.setCell (World.setCell (World.setCell (World.setCell wb _ _) _ _) _ _) _ _) ?_;refine aH ((AA.out|>.t2 3 rfl)|>.t2 2 rfl) (fun Yx=>?_);exact qR5_0)
    | (with_reducible refine aG (World.alloc (World.setCell (World.setCell (World.alloc wb _) _ _) _ _) _) ?_;refine aH (((AA.out.al (wb.heap.size) #[.slice none 0 0,.bool false] 40 rfl rfl)|>.t2 2 rfl).row) (fun Yx=>?_);exact qR5_0)
    | (with_reducible refine aG (World.alloc (World.setCell (World.setCell (World.alloc wb _) _ _) _ _) _) ?_;refine aH (((AA.out.al (wb.heap.size) #[.slice none 0 0,.bool false] 40 rfl rfl)|>.t2 3 rfl).row) (fun Yx=>?_);exact qR5_0)
    | (with_reducible refine aG (World.setCell (World.setCell (World.alloc (World.alloc wb _) _) _ _) _ _) ?_;refine aH (((AA.out.al (wb.heap.size) #[.slice none 0 0,.bool false] 40 rfl rfl).al (wb.heap.size+1) #[.slice none 0 0,.bool false] 40 (by simp) rfl)|>.t2 2 rfl) (fun Yx=>?_);exact qR5_0)
    | (with_reducible refine aG (World.setCell (World.setCell (World.alloc (World.alloc wb _) _) _ _) _ _) ?_;refine aH (((AA.out.al (wb.heap.size) #[.slice none 0 0,.bool false] 40 rfl rfl).al (wb.heap.size+1) #[.slice none 0 0,.bool false] 40 (by simp) rfl)|>.t2 3 rfl) (fun Yx=>?_);exact qR5_0)
    | (with_reducible refine aG (World.alloc (World.setCell (World.setCell wb _ _) _ _) _) ?_;refine aH ((AA.out|>.t2 2 rfl).row) (fun Yx=>?_);exact qR5_0)
    | (with_reducible refine aG (World.alloc (World.setCell (World.setCell wb _ _) _ _) _) ?_;refine aH ((AA.out|>.t2 3 rfl).row) (fun Yx=>?_);exact qR5_0)
    | (with_reducible refine aG (World.setCell (World.setCell (World.alloc wb _) _ _) _ _) ?_;refine aH ((AA.out.al (wb.heap.size) #[.slice none 0 0,.bool false] 40 rfl rfl)|>.t2 2 rfl) (fun Yx=>?_);exact qR5_0)
    | (with_reducible refine aG (World.setCell (World.setCell (World.alloc wb _) _ _) _ _) ?_;refine aH ((AA.out.al (wb.heap.size) #[.slice none 0 0,.bool false] 40 rfl rfl)|>.t2 3 rfl) (fun Yx=>?_);exact qR5_0)
    | (with_reducible refine aG (World.setCell (World.setCell wb _ _) _ _) ?_;refine aH (AA.out|>.t2 2 rfl) (fun Yx=>?_);exact qR5_0)
    | (with_reducible refine aG (World.setCell (World.setCell wb _ _) _ _) ?_;refine aH (AA.out|>.t2 3 rfl) (fun Yx=>?_);exact qR5_0)
    | (with_reducible refine aG (World.alloc (World.alloc wb _) _) ?_;have Yx:=(AA.out.al (wb.heap.size) #[.slice none 0 0,.bool false] 40 rfl rfl).al (wb.heap.size+1) #[.slice none 0 0,.bool false] 40 (by simp) rfl;exact qR5_0)
    | (with_reducible refine aG (World.alloc wb _) ?_;have Yx:=AA.out.al (wb.heap.size) #[.slice none 0 0,.bool false] 40 rfl rfl;exact qR5_0)
    | (with_reducible refine aG wb ?_;have Yx:=AA.out;exact qR5_0)
    | (with_reducible refine aG (World.alloc (World.alloc wa _) _) ?_;have Yx:=(AB.out.al (wa.heap.size) #[.slice none 0 0,.bool false] 40 rfl rfl).al (wa.heap.size+1) #[.slice none 0 0,.bool false] 40 (by simp) rfl;exact qR5_0)
    | (with_reducible refine aG (World.alloc wa _) ?_;have Yx:=AB.out.al (wa.heap.size) #[.slice none 0 0,.bool false] 40 rfl rfl;exact qR5_0)
    | (with_reducible refine aG wa ?_;have Yx:=AB.out;exact qR5_0)
    | (with_reducible refine aG (World.drew (World.alloc (World.alloc W1 _) _)) ?_;have Yx:=((hC.out.al (W1.heap.size) #[.slice none 0 0,.bool false] 40 rfl rfl).al (W1.heap.size+1) #[.slice none 0 0,.bool false] 40 (by simp) rfl).drew;exact qR5_0)
    | (with_reducible refine aG (World.drew (World.alloc W1 _)) ?_;have Yx:=(hC.out.al (W1.heap.size) #[.slice none 0 0,.bool false] 40 rfl rfl).drew;exact qR5_0)
    | (with_reducible refine aG (World.drew W1) ?_;have Yx:=hC.out.drew;exact qR5_0)
    | (with_reducible refine aG (World.alloc (World.alloc wb _) _) ?_;refine aH (AA.out.row.row) (fun Yx=>?_);exact qR5_0)
    | (with_reducible refine aG (World.alloc wb _) ?_;refine aH (AA.out.row) (fun Yx=>?_);exact qR5_0)|fail)
   (first
    | (have _t:=AB;go_at_call 148;(first | (have P:=(AB.out.r 0 rfl).z;have P2:=AB.out.z 1 rfl;(with_reducible refine(quo_b P P2 HD.out B1.out.num B1.out.den HK1.out HK1.out).mono ?_);rintro e wb ⟨a4,n4,c4,m4,a5,n5,c5,m5,rfl,hz,hr,hb⟩;have AA:=ζ ((AB.out.call hb).pz hz);clear hz hb P P2 hr) | (have P:=((AB.out.al (wa.heap.size) #[.slice none 0 0,.bool false] 40 rfl rfl).r 0 rfl).z;have P2:=(AB.out.al (wa.heap.size) #[.slice none 0 0,.bool false] 40 rfl rfl).z 1 rfl;(with_reducible refine(quo_b P P2 HD.out B1.out.num B1.out.den HK1.out HK1.out).mono ?_);rintro e wb ⟨a4,n4,c4,m4,a5,n5,c5,m5,rfl,hz,hr,hb⟩;have AA:=ζ (((AB.out.al (wa.heap.size) #[.slice none 0 0,.bool false] 40 rfl rfl).call hb).pz hz);clear hz hb P P2 hr) | (have P:=(((AB.out.al (wa.heap.size) #[.slice none 0 0,.bool false] 40 rfl rfl).al (wa.heap.size+1) #[.slice none 0 0,.bool false] 40 (by simp) rfl).r 0 rfl).z;have P2:=((AB.out.al (wa.heap.size) #[.slice none 0 0,.bool false] 40 rfl rfl).al (wa.heap.size+1) #[.slice none 0 0,.bool false] 40 (by simp) rfl).z 1 rfl;(with_reducible refine(quo_b P P2 HD.out B1.out.num B1.out.den HK1.out HK1.out).mono ?_);rintro e wb ⟨a4,n4,c4,m4,a5,n5,c5,m5,rfl,hz,hr,hb⟩;have AA:=ζ ((((AB.out.al (wa.heap.size) #[.slice none 0 0,.bool false] 40 rfl rfl).al (wa.heap.size+1) #[.slice none 0 0,.bool false] 40 (by simp) rfl).call hb).pz hz);clear hz hb P P2 hr));(try have c20:=AA.out.c 2 0);(try have c21:=AA.out.c 2 1);(try have c30:=AA.out.c 3 0);(try have c31:=AA.out.c 3 1);(try have f20:=AA.out.f 2 0);(try have f21:=AA.out.f 2 1);(try have f30:=AA.out.f 3 0);(try have f31:=AA.out.f 3 1);(try have l2:=AA.out.lt 2 rfl);(try have l3:=AA.out.lt 3 rfl);(try have l23:=AA.out.apart 2 3 rfl rfl (by omega));(try have l32:=(AA.out.apart 2 3 rfl rfl (by omega)).symm);clear _t AB)
    | (have _t:=hC;go_at_call 91;(first | (have P:=(hC.out.drew).r 0 rfl;(with_reducible refine(bottom_b P B1.out HK1.out).mono ?_);rintro e wa ⟨a3,n3,c3,m3,rfl,hz,hb⟩;have AB:=ζ ((hC.out.drew.call hb).pz hz);clear hz hb P) | (have P:=((hC.out.al (W1.heap.size) #[.slice none 0 0,.bool false] 40 rfl rfl).drew).r 0 rfl;(with_reducible refine(bottom_b P B1.out HK1.out).mono ?_);rintro e wa ⟨a3,n3,c3,m3,rfl,hz,hb⟩;have AB:=ζ (((hC.out.al (W1.heap.size) #[.slice none 0 0,.bool false] 40 rfl rfl).drew.call hb).pz hz);clear hz hb P) | (have P:=(((hC.out.al (W1.heap.size) #[.slice none 0 0,.bool false] 40 rfl rfl).al (W1.heap.size+1) #[.slice none 0 0,.bool false] 40 (by simp) rfl).drew).r 0 rfl;(with_reducible refine(bottom_b P B1.out HK1.out).mono ?_);rintro e wa ⟨a3,n3,c3,m3,rfl,hz,hb⟩;have AB:=ζ ((((hC.out.al (W1.heap.size) #[.slice none 0 0,.bool false] 40 rfl rfl).al (W1.heap.size+1) #[.slice none 0 0,.bool false] 40 (by simp) rfl).drew.call hb).pz hz);clear hz hb P));clear _t hC)
    | fail)
  all_goals (go_wp2_with fail;go_meet)
  all_goals (first
   | (refine⟨_,a4,n4,c4,m4,rfl,?_⟩;(with_reducible refine(?_:Hid (St w (World.alloc (World.alloc wb _) _) _ _)));exact ζ (St.pick (St.bpick ((AA.out.al (wb.heap.size) #[.slice a4 n4 c4,.bool m4] 40 rfl rfl).al (wb.heap.size+1) #[.slice a5 n5 c5,.bool m5] 40 (by simp) rfl) [0,1,2] (by decide) rfl) [2] rfl))
   | (refine⟨_,a4,n4,c4,m4,rfl,?_⟩;(with_reducible refine(?_:Hid (St w (World.alloc (World.setCell (World.setCell wb _ _) _ _) _) _ _)));exact ζ (St.pick (St.bpick ((AA.out|>.t2 2 rfl).al (wb.heap.size) #[.slice a5 n5 c5,.bool m5] 40 (by simp [World.setCell]) rfl) [0,1,2] (by decide) rfl) [2] rfl))
   | (refine⟨_,a4,n4,c4,m4,rfl,?_⟩;(with_reducible refine(?_:Hid (St w (World.alloc (World.alloc wb _) _) _ _)));exact ζ (St.pick (St.bpick ((AA.out.al (wb.heap.size) #[.slice a5 n5 c5,.bool m5] 40 rfl rfl).al (wb.heap.size+1) #[.slice a4 n4 c4,.bool m4] 40 (by simp) rfl) [0,1,3] (by decide) rfl) [2] rfl))
   | (refine⟨_,a4,n4,c4,m4,rfl,?_⟩;(with_reducible refine(?_:Hid (St w (World.alloc (World.setCell (World.setCell wb _ _) _ _) _) _ _)));exact ζ (St.pick (St.bpick ((AA.out|>.t2 2 rfl).al (wb.heap.size) #[.slice a4 n4 c4,.bool m4] 40 (by simp [World.setCell]) rfl) [0,1,3] (by decide) rfl) [2] rfl))
   | (refine⟨_,a4,n4,c4,m4,rfl,?_⟩;(with_reducible refine(?_:Hid (St w (World.setCell (World.setCell (World.setCell (World.setCell wb _ _) _ _) _ _) _ _) _ _)));exact ζ (St.pick (St.bpick ((AA.out|>.t2 2 rfl)|>.t2 3 rfl) [0,1,2] (by decide) rfl) [2] rfl))
   | (refine⟨_,a4,n4,c4,m4,rfl,?_⟩;(with_reducible refine(?_:Hid (St w (World.setCell (World.setCell (World.setCell (World.setCell wb _ _) _ _) _ _) _ _) _ _)));exact ζ (St.pick (St.bpick ((AA.out|>.t2 3 rfl)|>.t2 2 rfl) [0,1,3] (by decide) rfl) [2] rfl)))
 case rest=>
  obtain ⟨bx,a4,n4,c4,m4,rfl,hD⟩:=hcut
  clear hC
  have AG:=hD.out.c 1 0
  have AH:=hD.out.f 1 0
  have AI:=hD.out.c 1 1
  have AJ:=hD.out.f 1 1
  have AK:=hD.out.c 2 0
  have AL:=hD.out.f 2 0
  have AM:=hD.out.c 2 1
  have AN:=hD.out.f 2 1
  go_wp2
  refine ret_st (hD.out|>.t2 1 rfl) (v:= .agg #[.slice a4 n4 c4,.bool m4]) (fun hF=>?_) rfl (fun hF=>⟨_,_,_,_,rfl,hF.z 0 rfl,hF.be⟩)
  ·have e0:=hF.c 1 0
   have e1:=hF.c 1 1
   simp [results,Tryz.results117,go_sem,e0,e1]
section
variable {w:World} {a1:OA} {n1 c1:Nat} {m1:Bool} {d1:OA} {e1 f1:Nat} {q1:Rat} {k1:Nat}
theorem rfloor_b (h1:Rd w (.slice a1 n1 c1) m1 (.slice d1 e1 f1) q1) (b1:Bq k1 q1) (hk1:k1<=40000):
  Calls Tryz.prog 117 #[.agg #[.slice a1 n1 c1,.bool m1,.slice d1 e1 f1]] w (RetZ w q1.floor):=by
 rw [<-floor_eq];exact rfloor_any _ _ _ _ _ _ _ _ _ h1 k1 b1 hk1
end
theorem rceil_any (a1:OA) (n1 c1:Nat) (m1:Bool) (d1:OA) (e1 f1:Nat) (q1:Rat) (w:World) (h1:Rd w (.slice a1 n1 c1) m1 (.slice d1 e1 f1) q1) (k1:Nat) (b1:Bq k1 q1) (hk1:k1<=40000):
  Calls Tryz.prog 123 #[.agg #[.slice a1 n1 c1,.bool m1,.slice d1 e1 f1]] w (RetZ w (-((-q1).floor))):=by
 have B1:=ζ b1
 clear b1
 have hC:=ζ ((((St.enter w).pr h1).al (w.heap.size) #[.slice a1 n1 c1,.bool m1,.slice d1 e1 f1] 42 rfl rfl).al (w.heap.size+1) #[.slice none 0 0,.bool false] 40 (by simp) rfl)
 clear h1
 go_enter Tryz.func123,Tryz.ntmps123
 have AO:=hC.out.c 0 0
 have AP:=hC.out.f 0 0
 have AQ:=hC.out.c 0 1
 have AR:=hC.out.f 0 1
 have AS:=hC.out.c 0 2
 have AT:=hC.out.f 0 2
 go_wp2_with fail
 refine(rneg_b (hC.out.r 0 rfl)).mono ?_
 rintro e w3 ⟨a3,n3,c3,m3,d3,e3,f3,rfl,hz,hb⟩
 have hC3:=ζ ((hC.out.call hb).pr hz)
 clear hb hz
 clear hC
 go_wp2_with fail
 refine(rfloor_b (hC3.out.r 1 rfl) B1.out.neg (by omega)).mono ?_
 rintro e w4 ⟨a4,n4,c4,m4,rfl,hz,hb⟩
 have hC4:=ζ ((hC3.out.call hb).pz hz)
 clear hb hz
 clear hC3
 go_wp2_with fail
 refine(neg_b (hC4.out.z 2 rfl)).mono ?_
 rintro e w5 ⟨a5,n5,c5,m5,rfl,hz,hb⟩
 have hC5:=ζ ((hC4.out.call hb).pz hz)
 clear hb hz
 have AC:=hC5.out.c 1 0
 have AD:=hC5.out.f 1 0
 have AE:=hC5.out.c 1 1
 have AF:=hC5.out.f 1 1
 clear hC4
 go_wp2
 refine ret_st (hC5.out|>.t2 1 rfl) (v:= .agg #[.slice a5 n5 c5,.bool m5]) (fun hF=>?_) rfl (fun hF=>⟨_,_,_,_,rfl,hF.z 3 rfl,hF.be⟩)
 ·have e0:=hF.c 1 0
  have e1:=hF.c 1 1
  simp [results,Tryz.results123,go_sem,e0,e1]
theorem qR6_0 {P_ : Prop} (h : P_ := by exact ⟨Yx.c 0 0,Yx.c 0 1,Yx.c 0 2,trivial⟩) : P_ := h
def rtext (q:Rat):List UInt8:=if q.den=1 then Dec.ztext q.num else Dec.ztext q.num++ [47]++Dec.ztext q.den
theorem rtext_one (a1:OA) (n1 c1:Nat) (m1:Bool) (d1:OA) (e1 f1:Nat) (q1:Rat) (w:World) (h1:Rd w (.slice a1 n1 c1) m1 (.slice d1 e1 f1) q1) (k1:Nat) (b1:Bq k1 q1) (hk1:k1<=40000) (hd:q1.den=1):
  Calls Tryz.prog 59 #[.agg #[.slice a1 n1 c1,.bool m1,.slice d1 e1 f1]] w (fun e w'=>e= .returned (.string ⟨(rtext q1).toArray⟩)/\Below w.heap.size w w'):=by
 have hn:=Sl.len h1.d
 have e0:(e1=0)↔q1.den=1:=by
  rw [hn,List.length_eq_zero_iff,dg_nil_iff (b:=16777216) (by omega)];have:=q1.den_nz;omega
 have hl1:=ztext_len b1.num (by omega)
 have hl2:=ztext_len b1.den (by omega)
 have hn0:((e1:Int)==0)=true:=by simpa using e0.2 hd
 have HN:=ζ hn0
 have HT:=ζ (show rtext q1=Dec.ztext q1.num from if_pos hd)
 clear hn0 hd e0 hn
 have B1:=ζ b1
 clear b1
 have hC:=ζ (((St.enter w).pr h1).al (w.heap.size) #[.slice a1 n1 c1,.bool m1,.slice d1 e1 f1] 42 rfl rfl)
 clear h1
 go_enter Tryz.func59,Tryz.ntmps59
 have AA:=hC.out.c 0 2
 have AB:=hC.out.f 0 2
 go_wp2_with fail
 refine(none_any _ _ _ _).mono ?_
 rintro e w3 ⟨rfl,hw⟩
 have hC3:=ζ (hC.out.call (W':=w3) (by rw [hw];exact(Below.refl _ _).alloc (Nat.le_refl _) _))
 clear hC hw
 rw [HN.out]
 have AC:=hC3.out.c 0 0
 have AD:=hC3.out.f 0 0
 have AE:=hC3.out.c 0 1
 have AF:=hC3.out.f 0 1
 go_wp2_with fail
 refine(ztext_any _ _ _ _ _ _ (hC3.out.r 0 rfl).z _ B1.out.num (by omega)).mono ?_
 rintro e w4 ⟨rfl,hb⟩
 have hC4:=ζ ((hC3.out.call hb))
 clear hb
 clear hC3
 go_wp2
 go_ret
 exact⟨ret_str (by rw [HT.out]),hC4.out.be⟩
theorem rtext_more (a1:OA) (n1 c1:Nat) (m1:Bool) (d1:OA) (e1 f1:Nat) (q1:Rat) (w:World) (h1:Rd w (.slice a1 n1 c1) m1 (.slice d1 e1 f1) q1) (k1:Nat) (b1:Bq k1 q1) (hk1:k1<=40000) (hd:q1.den≠1):
  Calls Tryz.prog 59 #[.agg #[.slice a1 n1 c1,.bool m1,.slice d1 e1 f1]] w (fun e w'=>e= .returned (.string ⟨(rtext q1).toArray⟩)/\Below w.heap.size w w'):=by
 have hn:=Sl.len h1.d
 have e0:(e1=0)↔q1.den=1:=by
  rw [hn,List.length_eq_zero_iff,dg_nil_iff (b:=16777216) (by omega)];have:=q1.den_nz;omega
 have hl1:=ztext_len b1.num (by omega)
 have hl2:=ztext_len b1.den (by omega)
 have hn0:((e1:Int)==0)=false:=by simpa using fun e=>hd (e0.1 e)
 have HN:=ζ hn0
 have HT:=ζ (show rtext q1=Dec.ztext q1.num++ [47]++Dec.ztext q1.den from if_neg hd)
 clear hn0 hd e0 hn
 obtain ⟨T1,hT1⟩:∃T:ByteArray,T=⟨(Dec.ztext q1.num).toArray⟩:=⟨_,rfl⟩
 obtain ⟨T2,hT2⟩:∃T:ByteArray,T=⟨(Dec.ztext q1.den).toArray⟩:=⟨_,rfl⟩
 have hs1:T1.size<=1000002:=by rw [hT1];show(Dec.ztext q1.num).toArray.size<=_;simpa using hl1
 have hs2:T2.size<=1000002:=by rw [hT2];show(Dec.ztext q1.den).toArray.size<=_;simpa using hl2
 have hb1:¬ 9223372036854775807<=T1.size:=by omega
 have hb2:¬ 9223372036854775807 < T1.size+1:=by omega
 have hb3:¬ 9223372036854775807 < T1.size+1+T2.size:=by omega
 have HT1:=ζ hT1
 have HT2:=ζ hT2
 clear hT1 hT2 hl1 hl2
 have B1:=ζ b1
 clear b1
 have hC:=ζ (((St.enter w).pr h1).al (w.heap.size) #[.slice a1 n1 c1,.bool m1,.slice d1 e1 f1] 42 rfl rfl)
 clear h1
 go_enter Tryz.func59,Tryz.ntmps59
 have AA:=hC.out.c 0 2
 have AB:=hC.out.f 0 2
 go_wp2_with fail
 refine(none_any _ _ _ _).mono ?_
 rintro e w3 ⟨rfl,hw⟩
 have hC3:=ζ (hC.out.call (W':=w3) (by rw [hw];exact(Below.refl _ _).alloc (Nat.le_refl _) _))
 clear hC hw
 rw [HN.out]
 go_wp2
 go_region_held3 (fun w'=>w'.cell? ⟨w.heap.size,0,none⟩=some (.slice a1 n1 c1)/\w'.cell? ⟨w.heap.size,1,none⟩=some (.bool m1)/\w'.cell? ⟨w.heap.size,2,none⟩=some (.slice d1 e1 f1)/\True)
  (first
   | (with_reducible refine aG w6 ?_;have Yx:=hC6.out;exact qR6_0)
   | (with_reducible refine aG w5 ?_;have Yx:=hC5.out;exact qR6_0)
   | (with_reducible refine aG w4 ?_;have Yx:=hC4.out;exact qR6_0)
   | (with_reducible refine aG _ ?_;have Yx:=hC3.out.drew;exact qR6_0)|fail)
  (first
   | (have _t:=hC5;go_at_call 120;refine(ztext_any _ _ _ _ _ _ (hC5.out.z 1 rfl) _ B1.out.den (by omega)).mono ?_;rintro e w6 ⟨rfl,hb⟩;have hC6:=ζ ((hC5.out.call hb));clear hb;rw [<-HT2.out];clear _t hC5)
   | (have _t:=hC4;go_at_call 91;refine(bottom_b (hC4.out.r 0 rfl) B1.out (by omega)).mono ?_;rintro e w5 ⟨a5,n5,c5,m5,rfl,hz,hb⟩;have hC5:=ζ ((hC4.out.call hb).pz hz);clear hb hz;clear _t hC4)
   | (have _t:=hC3;go_at_call 120;refine(ztext_any _ _ _ _ _ _ (hC3.out.drew.r 0 rfl).z _ B1.out.num (by omega)).mono ?_;rintro e w4 ⟨rfl,hb⟩;have hC4:=ζ ((hC3.out.drew.call hb));clear hb;rw [<-HT1.out];clear _t hC3)
   | fail)
 go_wp2
 go_ret
 exact⟨by rw [HT.out,<-ba_append,<-ba_append,<-HT1.out,<-HT2.out];rfl,hC6.out.be⟩
structure Vd (w:World) (s:Value) (m:Bool) (s' t:Value) (p:Bool) (t':Value) (v:Rat×Rat):Prop where
 x:Rd w s m s' v.1
 y:Rd w t p t' v.2
theorem Vd.keep {w w':World} {s s' t t':Value} {m p:Bool} {v:Rat×Rat} (h:Vd w s m s' t p t' v) (hk:Keeps w w'):Vd w' s m s' t p t' v:=⟨h.x.keep hk,h.y.keep hk⟩
section
variable {w W:World} {bs:List (Nat×Array Value×TypeId)} {rs:List (World->Prop)}
theorem St.pv (h:St w W bs rs) {s s' t t':Value} {m p:Bool} {v:Rat×Rat} (hz:Vd W s m s' t p t' v):St w W bs (rs++ [fun V=>Vd V s m s' t p t' v]):=h.push (fun _ _ k hz=>hz.keep k) hz
theorem St.v (h:St w W bs rs) (i:Nat) {s s' t t':Value} {m p:Bool} {v:Rat×Rat} (hx:rs[i]? =some (fun V=>Vd V s m s' t p t' v)):Vd W s m s' t p t' v:=(h.rd _ (List.mem_of_getElem? hx)).2
end
section
variable {w:World} {a1:Option Addr} {n1 c1:Nat} {m1:Bool} {d1:Option Addr} {e1 f1:Nat} {q1:Rat} {a2:Option Addr} {n2 c2:Nat} {m2:Bool} {d2:Option Addr} {e2 f2:Nat} {q2:Rat} {k1 k2:Nat}
theorem rsub_b (h1:Rd w (.slice a1 n1 c1) m1 (.slice d1 e1 f1) q1) (h2:Rd w (.slice a2 n2 c2) m2 (.slice d2 e2 f2) q2) (b1:Bq k1 q1) (b2:Bq k2 q2) (hk1:k1<=40000) (hk2:k2<=40000):
  Calls Tryz.prog 44 #[.agg #[.slice a1 n1 c1,.bool m1,.slice d1 e1 f1],.agg #[.slice a2 n2 c2,.bool m2,.slice d2 e2 f2]] w (RetR w (q1 - q2)):=by
 rw [Rat.sub_eq_add_neg];exact rsub_any _ _ _ _ _ _ _ _ _ _ _ _ _ _ _ _ _ h1 h2 k1 k2 b1 b2 hk1 hk2
theorem rtext_b (h1:Rd w (.slice a1 n1 c1) m1 (.slice d1 e1 f1) q1) (b1:Bq k1 q1) (hk1:k1<=40000):
  Calls Tryz.prog 59 #[.agg #[.slice a1 n1 c1,.bool m1,.slice d1 e1 f1]] w fun e w'=>e= .returned (.string ⟨(rtext q1).toArray⟩)/\Below w.heap.size w w':=by
 by_cases hd:q1.den=1
 ·exact rtext_one _ _ _ _ _ _ _ _ _ h1 k1 b1 hk1 hd
 ·exact rtext_more _ _ _ _ _ _ _ _ _ h1 k1 b1 hk1 hd
end
end
end Go.Proofs.YthmdhlopeponcaaGreatDoor
