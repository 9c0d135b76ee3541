/- part -/
import Derived.Test.YtjpojeapdgjbhaaGreatDoorQ17
import Derived.Lib.OwnBridge
set_option maxRecDepth 100000
set_option maxHeartbeats 4000000
namespace Go.Proofs.YtjpojeapdgjbhaaGreatDoor
open Lean Elab Tactic Meta
section
variable {F:Fence} {n:Nat} {P:Program} {ops:Array Oper} {md:Region.Mode} {C:World->Prop}
def noDefer (o:Oper):Bool:=match o.op with | .defer _=>false | _=>true
theorem noDefer_spec {o:Oper} (h:noDefer o=true):∀c,o.op≠ .defer c:=fun c e=>by unfold noDefer at h;rw [e]at h;cases h
end
section
section
variable {n:Nat} {P:Program} {ops:Array Oper} {md:Region.Mode}
theorem wpIn_of_wpR {l:Nat} {o:Oper} {a:Act} {K:Act->World->Prop} {Q:Exit->Act->World->Prop} {w:World} (hnd:noDefer o=true) (h:o.wp P a w K Q):o.wpIn (Fence.wide.inRound l) n P a w K Q:=by
 refine⟨fun f _=>trivial,?_⟩;rw [show Oper.semAt (Fence.wide.inRound l).round a.eval o=execOp a.eval o from Oper.semAt_some l _ o (noDefer_spec hnd)];unfold Oper.wp at h;generalize (execOp a.eval o).run P w=r at*;cases r with
 | ok x w'=>
   cases x with
   | value v=>exact h
   | skip=>exact h
   | defer d=>exact h
   | enter f args=>exact⟨fun h0=>(by cases h0),CallsIn.inRound l (callsIn_wide.2 h)⟩
   | row row args=>exact⟨fun h0=>(by cases h0),fun c cs _=>let ⟨v,w',r,s⟩:=h c cs;⟨v,w',r,stepsIn_wide.2 s⟩⟩
   | _=>exact h.elim
 | halt x w'=>
   cases x<;>exact h
theorem wpAnyIn_of_any {l:Nat} {Q:Exit->Act->World->Prop} (hnd:ops.all noDefer=true) (hlo:¬ LetsOut Q):∀ (fuel:Nat) (listed:Array Bool) (a:Act) (w:World),wpAny P md ops Q fuel listed a w->wpAnyIn (Fence.wide.inRound l) n P md ops Q fuel listed a w
 | 0,_,_,_,h=>h
 | fuel+1,listed,a,w,h=>⟨h.1,fun i hi=>by
   have h2:=h.2 i hi;unfold wpOp at h2;unfold wpOpIn
   split
   ·rename_i ho;simp only [ho]at h2;exact wpAnyIn_of_any hnd hlo fuel _ _ _ h2
   ·rename_i o ho;simp only [ho]at h2;have hno:noDefer o=true:=(Array.all_eq_true_iff_forall_mem.1 hnd) o (Array.mem_of_getElem? ho)
    split
    ·rename_i hw;rw [if_pos hw]at h2;rcases h2 with h2 | ⟨_,h2⟩
     ·exact Oper.wpIn_mono (fun a' w' h3=>wpAnyIn_of_any hnd hlo fuel _ a' w' h3) (wpIn_of_wpR hno h2)
     ·exact absurd h2 hlo
    ·rename_i hw;rw [if_neg hw]at h2;exact⟨fun _ _=>trivial,wpAnyIn_of_any hnd hlo fuel _ _ _ h2⟩⟩
theorem wpIn_region_round {l id:Nat} {R:Act->World->Prop} {S:World->Prop} {a:Act} {w:World} (hnd:ops.all noDefer=true) (hm:P.follows .mixedOrders=true) (hS:S w.drew)
  (h:S w.drew->wpAnyH P .any ops (fun e a' w'=>e= .normal/\R a' w') S ops.size (Array.replicate ops.size false) a w.drew):(Code.region id ops true).wpIn (Fence.wide.inRound l) n P (fun e a' w'=>e= .normal/\R a' w') a w:=
 wpIn_region_any hm (wpAnyIn_of_any hnd (fun hq=>by obtain ⟨_,_,h1,_⟩:=hq;cases h1) _ _ _ _ (wpAny_of_held _ _ _ _ (h hS)))
end
end
section
open Go.RowKit
section
variable {α:Type} {P:Program} {n:Nat}
def SeqAt (n:Nat) (P:Program) (gf:Nat) (lb:Array Value) (encs:α->Array Value) (E:α->World->Prop) (Kp:World->World->Prop) (S:List α->Prop) (N:Nat) (w0:World):Prop:=
 ∀ (l:Nat) (J:List α->World->Prop) (W:World),Below w0.heap.size w0 W->(∀s A B,J s A->Below A.heap.size A B->J s B)->
   (∀pre x V,J pre V->E x V->pre.length < N->YieldAt Fence.wide (n - 1) P l (encs x) V fun e V'=>e= .returned (.bool true)/\J (pre++ [x]) V'/\Kp V V')->J [] W->
   CallsIn Fence.wide n P gf (#[.func (.yield l) #[] #[]]++lb) W fun e W'=>(∃v,e= .returned v)/\∃xs,S xs/\J xs W'
theorem heap_below {A B:World} (h:Below A.heap.size A B) {k:Nat} {o:Obj} (hk:A.heap[k]? =some o):B.heap[k]? =some o:=(h.block k (Array.getElem?_eq_some_iff.1 hk).1).trans hk
theorem wpIn_rangeFunc_at {g:Operand} {ps:Array Tmp} {assign body:Code} {Q:Exit->Act->World->Prop} {a:Act} {w:World} {gf:Nat} {lb:Array Value} {encs:α->Array Value} {E:α->World->Prop} {Kp:World->World->Prop} {S:List α->Prop} {N:Nat} {w0:World}
  (hn:1<=n) (hg:a.eval g= .func (.func gf) #[] lb) (eg:∀args w,(callFunc gf args).run P w= .ok (.enter gf args) w) (hseq:SeqAt (n - 1) P gf lb encs E Kp S N w0) (hb0:Below w0.heap.size w0 w) (hps:∀x,(encs x).size=ps.size)
  (AB:∀ {A B C:World},Kp A B->Kp B C->Kp A C) (AD:∀ (W:World) (l:Nat) (o o':Obj),w.heap.size<=l->W.heap[l]? =some o->o.isCells=false->Kp W (W.putObj l o'))
  (I:List α->World->Prop) (AE:∀s A B,I s A->Below A.heap.size A B->I s B) (AC:∀s (W:World) (l:Nat) (o o':Obj),I s W->w.heap.size<=l->W.heap[l]? =some o->o.isCells=false->I s (W.putObj l o')) (h0:I [] w)
  (A:α->Act->World->Prop) (hA:∀x a' (W:World) (l:Nat) (o o':Obj),A x a' W->W.heap[l]? =some o->o.isCells=false->A x a' (W.putObj l o'))
  (hassign:∀ (l:Nat) (pre:List α) (x:α) (W:World) (K:Act->World->Prop),I pre W->E x W->(∀a' W',KeepsFrom w.heap.size W W'->Kp W W'->I pre W'->A x a' W'->K a' W')->assign.wpIn (Fence.wide.inRound l) (n - 1 - 1) P (Exit.then K (fun _ _ _=>False)) { tmps:=(ps.zip (encs x)).foldl (fun t (p,v)=>t.setIfInBounds p v) a.tmps,defers:=[] } W)
  (hbody:∀ (l:Nat) (pre:List α) (x:α) (a':Act) (W:World),I pre W->A x a' W->pre.length < N->body.wpIn (Fence.wide.inRound l) (n - 1 - 1) P (fun e _ W'=>e= .normal/\KeepsFrom w.heap.size W W'/\Kp W W'/\I (pre++ [x]) W') a' W)
  (hdone:∀ (D:Nat) (xs:List α) (W:World),w.heap.size<=D->S xs->I xs W->W.heap[D]? =some (.deferred (some []))->Q .normal { a with defers:= { target:= .collected D,args:=#[] } ::a.defers } W):
  (Code.rangeFunc g ps assign body).wpIn Fence.wide n P Q a w:=by
 refine wpIn_rangeFunc fun fn hfn=>?_;obtain ⟨rc,hrc⟩:∃rc:LoopState->Loop,rc=fun st=> { state:=st,pending:=none,fn,tmps:=a.tmps,params:=ps,assign,body,defers:=w.heap.size } :=⟨_,rfl⟩
 have hready:(rc .ready).state= .ready:=by rw [hrc]
 have hpar:(rc .ready).params=ps:=by rw [hrc]
 obtain ⟨V,hV⟩:∃V,(w.alloc (.deferred (some []))).alloc (.loop (rc .ready))=V:=⟨_,rfl⟩
 have hbV:Below w.heap.size w V:=by rw [<-hV];exact((Below.refl _ w).alloc (Nat.le_refl _) _).alloc (by simp) _
 have hrec:V.heap[w.heap.size+1]? =some (.loop (rc .ready)):=by
  have:=World.alloc_heap_new (w.alloc (.deferred (some []))) (.loop (rc .ready));rw [World.size_alloc]at this;rw [<-hV];exact this
 have hmark:V.heap[w.heap.size]? =some (.deferred (some [])):=by
  rw [<-hV];exact(Below.heap_alloc _ _ _ (by simp)).trans (World.alloc_heap_new w _)
 have hcall:=hseq (w.heap.size+1) (fun pre W=>I pre W/\W.heap[w.heap.size+1]? =some (.loop (rc .ready))/\W.heap[w.heap.size]? =some (.deferred (some []))) V (hb0.trans (hbV.mono hb0.size))
  (fun s A B hs hAB=>⟨AE s A B hs.1 hAB,heap_below hAB hs.2.1,heap_below hAB hs.2.2⟩) ?round ⟨AE _ _ _ h0 hbV,hrec,hmark⟩
 case round=>
  rintro pre x W ⟨hi,hr,hm⟩ hx hlen;have hy:=run_yield (P:=P) (args:=encs x) hr (by rw [hpar];exact hps x);rw [hrc]at hy;refine⟨fn,_,assign,body,hy,roundIn_of_wpIn hfn (hassign _ pre x W _ hi hx (fun a1 W1 hk1 hp1 hi1 AF=>?_))⟩;have hr1:=hk1.same _ _ (by omega) hr rfl;have hm1:=hk1.same _ _ (Nat.le_refl _) hm rfl;refine⟨_,run_beginRound (P:=P) hr1 hready,?_⟩;have hlt:=(Array.getElem?_eq_some_iff.1 hr1).1;have hbusy:(.loop { rc .ready with state:= .busy } :Obj)= .loop (rc .busy):=by rw [hrc]
  rw [hbusy];obtain ⟨W2,AA⟩:∃W2,W1.putObj (w.heap.size+1) (.loop (rc .busy))=W2:=⟨_,rfl⟩
  have hr2:W2.heap[w.heap.size+1]? =some (.loop (rc .busy)):=by rw [<-AA];exact World.putObj_heap_same hlt
  have hm2:W2.heap[w.heap.size]? =some (.deferred (some [])):=by rw [<-AA];exact(World.putObj_heap_other (by omega)).trans hm1
  have AG:Kp W1 W2:=by rw [<-AA];exact AD W1 _ _ _ (by omega) hr1 rfl
  have hi2:I pre W2:=by rw [<-AA];exact AC _ W1 _ _ _ hi1 (by omega) hr1 rfl
  have AH:A x a1 W2:=by rw [<-AA];exact hA x a1 W1 _ _ _ AF hr1 rfl
  rw [AA];refine wpIn_mono (hbody _ pre x a1 W2 hi2 AH hlen) ?_;rintro e a3 W3 ⟨rfl,hk3,hp3,hi3⟩;have hr3:=hk3.same _ _ (by omega) hr2 rfl;have hm3:=hk3.same _ _ (Nat.le_refl _) hm2 rfl;have hen:=run_endRound (P:=P) none hr3;have hlast:(.loop { rc .busy with state:= .ready,pending:=none } :Obj)= .loop (rc .ready):=by rw [hrc]
  have hen2:(Instr.endRound (w.heap.size+1) none).run P W3= .ok (.bool true) (W3.putObj (w.heap.size+1) (.loop (rc .ready))):=by rw [<-hlast];exact hen
  exact⟨_,_,hen2,rfl,⟨AC _ W3 _ _ _ hi3 (by omega) hr3 rfl,World.putObj_heap_same (Array.getElem?_eq_some_iff.1 hr3).1,(World.putObj_heap_other (by omega)).trans hm3⟩,AB (AB (AB hp1 AG) hp3) (AD W3 _ _ _ (by omega) hr3 rfl)⟩
 refine⟨w.heap.size+1,[{ target:= .collected w.heap.size,args:=#[] }],V, { target:= .fn (.func gf) lb,args:=#[.func (.yield (w.heap.size+1)) #[] #[]] },V,gf,#[.func (.yield (w.heap.size+1)) #[] #[]]++lb,V,?_,?_,fun _ _=>trivial,?_,fun _=>hn,?_⟩
 ·rw [<-hV,hrc];exact run_enterLoop_outer _ _ _ _ _
 ·simp only [resolve,hg];simp [go_sem]
 ·simp [invoke,go_sem,eg]
 ·refine CallsIn.mono hcall ?_;rintro e W ⟨⟨v,rfl⟩,xs,hS,hi,hr,hm⟩;have hel:=run_endLoop (P:=P) hr (by rw [hready];simp);have hpe:(rc .ready).pending=none:=by rw [hrc]
  rw [hpe]at hel;exact⟨none,_,hel,hdone _ xs _ (Nat.le_refl _) hS (AC _ W _ _ _ hi (by omega) hr rfl) ((World.putObj_heap_other (by omega)).trans hm)⟩
end
end
section
open Go.RowKit Go.Shelf Dig
attribute [local go_sem] Oper.semAt_some
def KeepsC (own:List Nat) (A B:World):Prop:=A.heap.size<=B.heap.size/\∀k o,A.heap[k]? =some o->o.isCells=true->k∉own->B.heap[k]? =some o
theorem keepsC_r (own:List Nat) (A:World):KeepsC own A A:=⟨Nat.le_refl _,fun _ _ h _ _=>h⟩
theorem keepsC_t {own:List Nat} {A B C:World} (h:KeepsC own A B) (k:KeepsC own B C):KeepsC own A C:=⟨Nat.le_trans h.1 k.1,fun i o hi ho hn=>k.2 i o (h.2 i o hi ho hn) ho hn⟩
theorem keepsC_p {own:List Nat} (W:World) (l:Nat) (o o':Obj) (hl:W.heap[l]? =some o) (ho:o.isCells=false):KeepsC own W (W.putObj l o'):=by
 refine⟨by simp,fun k p hk hp _=>(World.putObj_heap_other (fun e=>?_)).trans hk⟩;subst e;rw [hl]at hk;cases hk;rw [ho]at hp;cases hp
theorem keepsC_below {own:List Nat} {A B:World} (h:Below A.heap.size A B):KeepsC own A B:=⟨h.size,fun k _ hk _ _=>(h.block k (Array.getElem?_eq_some_iff.1 hk).1).trans hk⟩
theorem cell_heap {W:World} {b i:Nat} {u:Value} (h:W.cell? ⟨b,i,none⟩=some u):∃o,W.heap[b]? =some o/\o.isCells=true:=by
 unfold World.cell? at h;cases hb:W.heap[b]? with
 | none=>simp only [hb]at h;cases h
 | some ob=>cases ob<;>first | (simp only [hb]at h;cases h) | exact⟨_,rfl,rfl⟩
theorem KeepsC.cell {own:List Nat} {A B:World} (h:KeepsC own A B) {b i:Nat} {u:Value} (hc:A.cell? ⟨b,i,none⟩=some u) (hn:b∉own):B.cell? ⟨b,i,none⟩=some u:=by
 obtain ⟨o,h1,h2⟩:=cell_heap hc;exact(World.cell?_of_block (a:=⟨b,i,none⟩) ((h.2 b o h1 h2 hn).trans h1.symm)).trans hc
theorem Sx.keepsC {own:List Nat} {size n c:Nat} {a:OA} {xs:List Value} {W V:World} (hs:Sx size W a n c xs) (h:KeepsC own W V) (hn:∀g o,a=some ⟨g,o,none⟩->g∉own):Sx size V a n c xs:=by
 refine⟨hs.1,hs.2.1,hs.2.2.1,fun h0=>?_⟩;obtain ⟨g,o,e,hg,hc⟩:=hs.2.2.2 h0;exact⟨g,o,e,Nat.lt_of_lt_of_le hg h.1,fun k u hk'=>h.cell (hc k u hk') (hn g o e)⟩
theorem Rd.putObj {W:World} {s s':Value} {m:Bool} {q:Rat} (h:Rd W s m s' q) (l:Nat) (o o':Obj) (hl:W.heap[l]? =some o) (ho:o.isCells=false):Rd (W.putObj l o') s m s' q:=
 h.keep64 ⟨by simp,fun k p hk hp=>(World.putObj_heap_other (fun e=>by
   subst e;rw [hl]at hk;cases hk;cases o<;>first | (simp [row64O]at hp;done) | cases ho)).trans hk⟩
theorem stp_no {b x p:Int} {r:List Int} (h:¬ x < min p b):stp b x (p::r)=stp b x r:=if_neg h
theorem stp_yes {b x p:Int} {r:List Int} (h:x < min p b):stp b x (p::r)=(x,min p b)::stp b (min p b) r:=if_pos h
structure Pcv where
 t:Int×Int
 a1:OA
 n1:Nat
 c1:Nat
 m1:Bool
 d1:OA
 e1:Nat
 f1:Nat
 a2:OA
 n2:Nat
 c2:Nat
 m2:Bool
 d2:OA
 e2:Nat
 f2:Nat
abbrev encP (x:Pcv):Value:= .agg #[.int .i64 (x.t.2 - x.t.1),.slice x.a1 x.n1 x.c1,.bool x.m1,.slice x.d1 x.e1 x.f1,.slice x.a2 x.n2 x.c2,.bool x.m2,.slice x.d2 x.e2 x.f2]
structure EP (l:List Pt) (a b:Int) (x:Pcv) (W:World):Prop where
 left:Rd W (.slice x.a1 x.n1 x.c1) x.m1 (.slice x.d1 x.e1 x.f1) (grd l x.t.1)
 last:Rd W (.slice x.a2 x.n2 x.c2) x.m2 (.slice x.d2 x.e2 x.f2) (grd l x.t.2)
 ge:a<=x.t.1
 lt:x.t.1 < x.t.2
 le:x.t.2<=b
theorem ep_of {l:List Pt} {a b x y:Int} {V:World} {a1:OA} {n1 c1:Nat} {m1:Bool} {d1:OA} {e1 f1:Nat} {a2:OA} {n2 c2:Nat} {m2:Bool} {d2:OA} {e2 f2:Nat} (h1:Rd V (.slice a1 n1 c1) m1 (.slice d1 e1 f1) (grd l x)) (h2:Rd V (.slice a2 n2 c2) m2 (.slice d2 e2 f2) (grd l y)) (hx:a<=x) (hxy:x < y) (hy:y<=b):
  EP l a b ⟨(x,y),a1,n1,c1,m1,d1,e1,f1,a2,n2,c2,m2,d2,e2,f2⟩ V:=⟨h1,h2,hx,hxy,hy⟩
theorem EP.below {l:List Pt} {a b:Int} {x:Pcv} {W V:World} (h:EP l a b x W) (hb:Below W.heap.size W V):EP l a b x V:=⟨h.left.keep (Below.keeps hb),h.last.keep (Below.keeps hb),h.ge,h.lt,h.le⟩
theorem EP.putObj {l:List Pt} {a b:Int} {x:Pcv} {W:World} (h:EP l a b x W) (k:Nat) (o o':Obj) (hl:W.heap[k]? =some o) (ho:o.isCells=false):EP l a b x (W.putObj k o'):=⟨h.left.putObj k o o' hl ho,h.last.putObj k o o' hl ho,h.ge,h.lt,h.le⟩
structure SRd (W:World) (bS:Nat) (sa:OA) (sn sc:Nat) (l:List Pt) (a b:Int):Prop where
 s0:W.cell? ⟨bS,0,none⟩=some (.slice sa sn sc)
 s1:W.cell? ⟨bS,1,none⟩=some (.int .i64 a)
 s2:W.cell? ⟨bS,2,none⟩=some (.int .i64 b)
 row:Sx 2 W sa sn sc (L2 l)
theorem SRd.keepsC {own:List Nat} {W V:World} {bS:Nat} {sa:OA} {sn sc:Nat} {l:List Pt} {a b:Int} (h:SRd W bS sa sn sc l a b) (hk:KeepsC own W V) (hb:bS∉own) (hr:∀g o,sa=some ⟨g,o,none⟩->g∉own):SRd V bS sa sn sc l a b:=
 ⟨hk.cell h.s0 hb,hk.cell h.s1 hb,hk.cell h.s2 hb,h.row.keepsC hk hr⟩
theorem SRd.below {W V:World} {bS:Nat} {sa:OA} {sn sc:Nat} {l:List Pt} {a b:Int} (h:SRd W bS sa sn sc l a b) (hb:Below W.heap.size W V):SRd V bS sa sn sc l a b:=h.keepsC (own:=[]) (keepsC_below hb) (by simp) (fun _ _ _=>by simp)
section
theorem pieces1_at (n:Nat) (hn:2<=n) (bS:Nat) (sa:OA) (sn sc:Nat) (l:List Pt) (a b:Int) (w0:World) (hT:Strt l a b) (own:List Nat) (hR:SRd w0 bS sa sn sc l a b) (hbS:bS∉own) (hrow:∀g o,sa=some ⟨g,o,none⟩->g∉own) (hown:∀k∈own,k < w0.heap.size):
  SeqAt n Tryz.prog 150 #[.pointer (some ⟨bS,0,none⟩)] (fun x=>#[encP x]) (EP l a b) (KeepsC own) (fun xs=>xs.map (·.t)=pcs l a b) (pcs l a b).length w0:=by
 intro lp J W hW hJ hY hI;have AI:=ζ (fun V (hk:KeepsC own W V)=>(hR.below hW).keepsC hk hbS hrow);have AR:=ζ (fun k hk=>Nat.lt_of_lt_of_le (hown k hk) hW.size);have HJ:=ζ hJ;have HY:=ζ hY;have HT:=ζ hT;have HI:=ζ hI;obtain rfl:=hR.row.n2;have htwo:=hT.ok.two;have hforty:=hT.ok.forty;have b0:=(hR.below hW).s0;have b1:=(hR.below hW).s1;clear hR hJ hY hown hbS hrow hT hI;refine callsIn_of_wp Tryz.func150 rfl trivial ?_ rfl;simp only [Tryz.ntmps150,List.size_toArray,List.length_cons,List.length_nil,Nat.reduceAdd,Nat.reduceSub,Array.replicate_succ,Array.replicate_zero,List.push_toArray,List.append_toArray,List.nil_append,List.cons_append]
 gi_wp2
 gi_loopw [3,12] (fun xv iv wr=>∃ (k:Nat) (x:Int) (ys:List Pcv),k<=l.length/\iv= .int .i64 k/\xv= .int .i64 x/\a<=x/\x<=b/\Hid (ys.map (·.t)++stp b x ((l.drop k).map (·.x))=pcs l a b/\J ys wr/\KeepsC own W wr)) (fun _ iv _=>l.length - (intOf iv).toNat)
 case atStart=>exact⟨0,a,[],Nat.zero_le _,rfl,rfl,Int.le_refl _,Int.le_of_lt HT.out.lt,ζ ⟨rfl,HI.out,keepsC_r _ _⟩⟩
 case round=>
  clear b0 b1 HI;obtain ⟨k,x,ys,hk,rfl,rfl,hax,hxb,hC⟩:=hrel;by_cases hlt:k < l.length
  ·have AA:=AI.out _ hC.out.2.2;obtain ⟨g0,o0,rfl⟩:=AA.row.addr (by omega);obtain ⟨x0,x1⟩:=AA.row.at2 hlt;have d2:=AA.s2;have d0:=AA.s0;have lb:=World.block_lt_of_cell? _ _ d2;dsimp only at lb;have AE:=ζ (show(l.drop k).map (·.x)=l[k].1::(l.drop (k+1)).map (·.x)by rw [List.drop_eq_getElem_cons hlt];rfl);clear AA;generalize l[k]=p at*;obtain ⟨p0,p1⟩:=p;dsimp only at x0 x1 AE;have AB:=ζ (show Below wr.heap.size wr (wr.alloc (.cells #[.int .i64 p0,.int .i64 p1] 47))from(Below.refl _ _).alloc (Nat.le_refl _) _);by_cases hgt:x < min p0 b
   ·have hV:=ζ (show J ys (wr.alloc (.cells #[.int .i64 p0,.int .i64 p1] 47))/\KeepsC own W (wr.alloc (.cells #[.int .i64 p0,.int .i64 p1] 47))from⟨HJ.out _ _ _ hC.out.2.1 AB.out,keepsC_t hC.out.2.2 (keepsC_below AB.out)⟩);have hto2:min p0 b<=b:=(by omega);have AF:=ζ (show ys.map (·.t)++(x,min p0 b)::stp b (min p0 b) ((l.drop (k+1)).map (·.x))=pcs l a b by rw [<-hC.out.1,AE.out,stp_yes hgt]);have AM:=ζ (show ys.length < (pcs l a b).length by have:=congrArg List.length AF.out;simp only [List.length_append,List.length_map,List.length_cons]at this;omega)
    gi_wp2_with fail
    obtain ⟨tq,hto⟩:∃tq,min p0 b=tq:=⟨_,rfl⟩
    rw [hto]at hgt hto2 AF⊢;generalize wr.alloc (.cells #[.int .i64 p0,.int .i64 p1] 47)=V0 at*;generalize wr.heap.size=bp at*;clear hC AE AB x0 x1 d0 d2 lb hto;have AC:=ζ (AI.out _ hV.out.2);have d0:=AC.out.s0;have w1:IntKind.i64.wrap (tq - x)=tq - x:=by
     have h1:=HT.out.lo;have h2:=HT.out.hi;have h3:=HT.out.ok.bx (i:=0) (by omega);have h4:=HT.out.ok.bx (i:=l.length - 1) (by omega);exact IntWalk.i64_in _ (by omega)
    have AG:=ζ (fun V (hb:Below V0.heap.size V0 V)=>ground_any V _ _ _ l x (AC.out.row.below hb) HT.out.ok (Int.le_trans HT.out.lo hax) (Int.le_trans hxb HT.out.hi));have AH:=ζ (fun V (hb:Below V0.heap.size V0 V)=>ground_any V _ _ _ l tq (AC.out.row.below hb) HT.out.ok (Int.le_trans HT.out.lo (by omega)) (Int.le_trans hto2 HT.out.hi));have hax2:a<=tq:=(by omega);refine wpIn_mono (Q:=fun e a' W'=>match e with | .normal=>∃v24 v25 v26 v27 v28 v29 v30 v31 v32 v33 v34 v35 v36:Value,a'= { tmps:=#[.func (.yield lp) #[] #[],.pointer (some ⟨bS,0,none⟩),undef,.int .i64 x,undef,.pointer (some ⟨bp,0,none⟩),.int .i64 tq,.pointer (some ⟨bS,1,none⟩),.int .i64 a,.pointer (some ⟨bS,0,none⟩),.slice (some ⟨g0,o0,none⟩) l.length sc,.int .i64 l.length,.int .i64 k,.bool true,.pointer (some ⟨g0,o0+k*2,none⟩),.agg #[.int .i64 p0,.int .i64 p1],.pointer (some ⟨bp,0,none⟩),.int .i64 p0,.pointer (some ⟨bS,2,none⟩),.int .i64 b,.int .i64 tq,.int .i64 tq,.int .i64 x,.bool true,v24,v25,v26,v27,v28,v29,v30,v31,v32,v33,v34,v35,v36,.bool true,.bool false,u39,u40],defers:=[] } /\∃y:Pcv,y.t=(x,tq)/\Hid (J (ys++ [y]) W'/\KeepsC own W W') | _=>False) ?reg ?rest
    case reg=>
     have hmx:Tryz.prog.follows .mixedOrders=true:=by kernel_rfl
     gi_region_with_o (first
      | (have t3:=AJ;refine⟨fun _=>by omega,AJ.out.mono ?_⟩
         rintro e V3 ⟨rfl,AK,hk3⟩;have AN:=ζ (And.intro AK (keepsC_t hV.out.2 (keepsC_t (keepsC_below AL.out) hk3)));clear AK hk3)
      | (have t2:=AD;refine⟨trivial,fun _=>by omega,(callsIn_wide.2 (AH.out _ AD.out)).mono ?_⟩
         rintro e V2 ⟨a2,n2,c2,m2,d2,e2,f2,rfl,hz2,hb2⟩;have AL:=ζ (AD.out.trans (hb2.mono AD.out.size));have AO:=ζ (ep_of (AP.out.keep (Below.keeps hb2)) hz2 hax hgt hto2);clear hz2 hb2;obtain ⟨fn,tmps,assign,body,hy,hR⟩:=HY.out ys _ V2 (HJ.out _ _ _ hV.out.1 AL.out) AO.out AM.out;have AJ:=ζ hR;clear hR AH t2)
      | (refine⟨trivial,fun _=>by omega,(callsIn_wide.2 (AG.out _ (Below.refl _ _).drew)).mono ?_⟩
         rintro e V1 ⟨a1,n1,c1,m1,d1,e1,f1,rfl,hz1,hb1⟩;have AD:=ζ ((Below.refl V0.heap.size V0).drew.trans hb1);have AP:=ζ hz1;clear hz1 hb1;have d1:=(AC.out.below AD.out).s0;clear AG)
      | fail)
     all_goals exact⟨_,_,_,_,_,_,_,_,_,_,_,_,_,rfl,_,rfl,AN⟩
    case rest=>
     intro e a' W' hq;cases e;all_goals first | exact hq.elim | skip
     obtain ⟨v24,v25,v26,v27,v28,v29,v30,v31,v32,v33,v34,v35,v36,rfl,y,hyt,hF⟩:=hq;have AQ:=ζ hyt;clear hyt d0 AG AH AC hV
     gi_wp2
     go_roundw
     case rel=>
      refine⟨_,_,_,_,_,_,_,_,_,_,_,_,_,_,_,_,_,_,_,_,_,_,_,_,_,_,_,_,_,_,_,_,?_,rfl⟩;exact⟨k+1,tq,ys++ [y],by omega,by go_num,rfl,hax2,hto2,ζ ⟨by rw [List.map_append,List.map_cons,List.map_nil,AQ.out,List.append_assoc];exact AF.out,hF.out⟩⟩
     case measure=>simp [intOf];omega
   ·have hng:¬ x < min p0 b:=hgt;clear hgt
    gi_wp2
    go_roundw
    case rel=>exact⟨k+1,x,ys,by omega,by go_num,rfl,hax,hxb,ζ ⟨by rw [<-hC.out.1,AE.out,stp_no hng],HJ.out _ _ _ hC.out.2.1 AB.out,keepsC_t hC.out.2.2 (keepsC_below AB.out)⟩⟩
    case measure=>simp [intOf];omega
  ·obtain rfl:k=l.length:=by omega
   gi_wp2
   go_end0
   exact⟨⟨_,rfl⟩,ys,by have:=hC.out.1;rw [List.drop_length]at this;simpa [stp] using this,hC.out.2.1⟩
end
end
section
open Go.RowKit
section
variable {w W V:World} {bs:List (Nat×Array Value×TypeId)} {os:List Rw} {rs:List (World->Prop)} {own:List Nat}
theorem away_cell (h:Away own W V) {b k:Nat} (hb:b < W.heap.size) (hn:b∉own):V.cell? ⟨b,k,none⟩=W.cell? ⟨b,k,none⟩:=World.cell?_of_block (a:=⟨b,k,none⟩) (h.2 b hb hn)
theorem Sx.away {size n c:Nat} {a:Option Addr} {xs:List Value} (hs:Sx size W a n c xs) (h:Away own W V) (hn:∀g o,a=some ⟨g,o,none⟩->g∉own):Sx size V a n c xs:=by
 refine⟨hs.1,hs.2.1,hs.2.2.1,fun h0=>?_⟩;obtain ⟨g,o,e,hg,hc⟩:=hs.2.2.2 h0;exact⟨g,o,e,Nat.lt_of_lt_of_le hg h.1,fun k u hk=>(away_cell h hg (hn g o e)).trans (hc k u hk)⟩
theorem away_sort {α:Type} [Inhabited α] (enc:α->Value) (W:World) (g m:Nat) (dk:Array α) (os:Array Obj):Away [g] W (sortWorld enc W g 0 m dk os):=by
 refine⟨by show W.heap.size<=((Go.Sort.putRow enc (Go.Sort.ahead W m) g 0 dk).heap++os).size;rw [Array.size_append,Go.Sort.size_putRow];show W.heap.size<=W.heap.size+_;omega,fun b hb hn=>?_⟩;have hne:b≠g:=fun e=>hn (by rw [e];exact List.mem_singleton.2 rfl);show((Go.Sort.putRow enc (Go.Sort.ahead W m) g 0 dk).heap++os)[b]? =_;rw [Array.getElem?_append_left (by rw [Go.Sort.size_putRow];exact hb)];show(W.heap.modify g _)[b]? =_;rw [Array.getElem?_modify,if_neg (fun e=>hne e.symm)]
theorem Sy.sorted {α:Type} [Inhabited α] {enc:α->Value} (h:Sy w W bs os rs) (i:Nat) {g n c:Nat} {e:TypeId} {zs ys:List α} (hi:os[i]? =some ⟨.slice (some ⟨g,0,none⟩) n c,e,1,n,zs.map enc⟩) (hy:ys.length=n) (m:Nat) (os':Array Obj):
  Sy w (sortWorld enc W g 0 m ys.toArray os') bs (os.set i ⟨.slice (some ⟨g,0,none⟩) n c,e,1,n,ys.map enc⟩) rs:=by
 have h1:=Go.Lib.ownsRow_putRow (q:=m) (k:=n) (ys:=ys) (h.orow0 i hi) hy (Nat.le_refl n);rw [List.take_of_length_le (by omega)]at h1;have hA:=away_sort enc W g m ys.toArray os';refine h.oset i hi (World.ownsRow.kept (row:=none) h1 ⟨rfl,rfl,rfl,?_,fun k hk _=>?_⟩ (.inr (by simp [Value.ownBlock]))) ⟨rfl,rfl,rfl,hA.1,fun k hk hn=>hA.2 k hk (fun hm=>hn (by rw [List.mem_singleton.1 hm];rfl))⟩ (fun k hk=> .inl hk)
 ·show _<=(_++os').size;rw [Array.size_append];omega
 ·show(_++os')[k]? =_;rw [Array.getElem?_append_left hk]
end
structure Shuts (ds:List Nat) (A B:World):Prop where
 os:B.os=A.os
 tape:B.tape=A.tape
 output:B.output=A.output
 size:B.heap.size=A.heap.size
 at_:∀k,k∉ds->B.heap[k]? =A.heap[k]?
theorem setRow_size {W:World} {g:Nat} {cs:Array Value} :(W.setRow g cs).heap.size=W.heap.size:=by simp [World.setRow]
theorem setRow_ne {W:World} {g k:Nat} {cs:Array Value} (h:k≠g):(W.setRow g cs).heap[k]? =W.heap[k]? :=by
 simp only [World.setRow,Array.getElem?_modify];rw [if_neg (fun e=>h e.symm)]
theorem setRow_at {W:World} {g:Nat} {cs old:Array Value} {t:TypeId} (h:W.heap[g]? =some (.cells old t (0,0))):(W.setRow g cs).heap[g]? =some (.cells cs t (0,0)):=by
 simp [World.setRow,Array.getElem?_modify,h]
section
variable {w W:World} {bs:List (Nat×Array Value×TypeId)} {os:List Rw} {rs:List (World->Prop)}
theorem Sy.setAll (h:Sy w W bs os rs) (i:Nat) {b:Nat} {cs:Array Value} {t:TypeId} (cs':Array Value) (hx:bs[i]? =some (b,cs,t)):Sy w (W.setRow b cs') (bs.set i (b,cs',t)) os rs:=by
 obtain ⟨hi,hx'⟩:=List.getElem?_eq_some_iff.1 hx;obtain ⟨h1,h2⟩:=h.at_ i hx;have hmap:(bs.set i (b,cs',t)).map (fun x=>x.1)=bs.map (fun x=>x.1):=by
  rw [List.map_set];refine List.ext_getElem? fun k=>?_;rw [List.getElem?_set];by_cases e:i=k
  ·subst e;rw [if_pos rfl,List.length_map,if_pos hi,List.getElem?_map,hx];rfl
  ·rw [if_neg e]
 have hown:ownOf (bs.set i (b,cs',t)) os=ownOf bs os:=by unfold ownOf;rw [hmap]
 have hbo:b∈ownOf bs os:=mem_own.2 (.inl ⟨_,List.mem_of_getElem? hx,rfl⟩);have hnd:=h.inc;unfold ownOf at hnd;rw [List.nodup_append]at hnd;refine h.step rfl rfl rfl ⟨by rw [setRow_size];exact Nat.le_refl _,fun c _ hn=>setRow_ne (fun e=>hn (by rw [e];exact hbo))⟩ (fun c hc=> .inl (by rw [hown]at hc;exact hc)) (fun x hxm=>?_) (fun o ho=>?_) (by rw [hown];exact h.inc)
 ·obtain ⟨k,hkl,hk2⟩:=List.getElem_of_mem hxm;rw [List.length_set]at hkl;rw [List.getElem_set]at hk2;by_cases e:i=k
  ·rw [if_pos e]at hk2;subst hk2;exact⟨h1,setRow_at h2⟩
  ·rw [if_neg e]at hk2;subst hk2;obtain ⟨g1,g2⟩:=h.bx bs[k] (List.getElem_mem hkl);exact⟨g1,(setRow_ne (fun e'=>nodup_idx hnd.1 hx (List.getElem?_eq_getElem hkl) e e'.symm)).trans g2⟩
 ·refine World.ownsRow.kept (row:=some b) (h.ow o ho) ⟨rfl,rfl,rfl,by rw [setRow_size];exact Nat.le_refl _,fun c _ hn=>setRow_ne (fun e=>hn (by rw [e]))⟩ (.inr fun e=>?_);exact hnd.2.2 b (List.mem_map.2 ⟨_,List.mem_of_getElem? hx,rfl⟩) b (List.mem_filterMap.2 ⟨o,ho,e⟩) rfl
end
section
variable {w W:World} {bs:List (Nat×Array Value×TypeId)} {os:List Rw} {rs:List (World->Prop)} {P:Program}
theorem Sx.range {α:Type} {f:α->List Value} {k:Nat} (hf:∀x,(f x).length=k) {g o n c:Nat} {l:List α} (h:Sx k W (some ⟨g,o,none⟩) n c (l.flatMap f)) {i:Nat} (hi:i < l.length):W.rangeAt g (o+i*k) (f l[i]):=fun j v hj=>by
 have hl:=(List.getElem?_eq_some_iff.1 hj).1;rw [hf]at hl;rw [Nat.add_assoc];exact h.cell ((flat_get hf l i j hi hl).trans hj)
theorem Sy.range (h:Sy w W bs os rs) (i:Nat) {b:Nat} {cs:Array Value} {t:TypeId} (hx:bs[i]? =some (b,cs,t)):W.rangeAt b 0 cs.toList:=fun j v hj=>by
 rw [Nat.zero_add];exact h.cell i j hx (by simpa using hj)
theorem op_ld {o:Oper} {a:Act} {K:Act->World->Prop} {Q:Exit->Act->World->Prop} (ty:TypeId) (x:Operand) (ho:o.op= .load ty x)
  (b j:Nat) (hx:a.eval x= .pointer (some ⟨b,j,none⟩)) (cs:List Value) (d:TypeDesc) (hc:W.rangeAt b j cs)
  (hu:P.underlying ty=some d) (hd:d.isRow=true) (hi:(P.info? ty).map (·.size)=some cs.length) (v:Value) (hv:Value.agg cs.toArray=v)
  (h:K (a.put o.dst v) W):o.wp P a W K Q:=by
 subst hv;exact wp_load_mid ty x ho b j hx cs d hc hu hd hi h
theorem wpList_ld {ops:Array Oper} {rest:List Oper} {o:Oper} {a:Act} {Q:Exit->Act->World->Prop} (hgd:o.guard=none) (ty:TypeId) (x:Operand) (ho:o.op= .load ty x)
  (b j:Nat) (hx:a.eval x= .pointer (some ⟨b,j,none⟩)) (cs:List Value) (d:TypeDesc) (hc:W.rangeAt b j cs)
  (hu:P.underlying ty=some d) (hd:d.isRow=true) (hi:(P.info? ty).map (·.size)=some cs.length) (v:Value) (hv:Value.agg cs.toArray=v)
  (h:wpList P ops Q rest (a.put o.dst v) W):wpList P ops Q (o::rest) a W:=
 wpList_plain hgd fun _ hK=>op_ld ty x ho b j hx cs d hc hu hd hi v hv (hK _ _ h)
theorem op_st {o:Oper} {a:Act} {K:Act->World->Prop} {Q:Exit->Act->World->Prop} (h:Sy w W bs os rs) (i:Nat) {b:Nat} {old:Array Value} {t:TypeId} (hb:bs[i]? =some (b,old,t)) (ty:TypeId) (x y:Operand) (ho:o.op= .store ty x y)
  (hx:a.eval x= .pointer (some ⟨b,0,none⟩)) (cells:Array Value) (hy:a.eval y= .agg cells) (hi:(P.info? ty).map (·.size)=some cells.size)
  (hold:old.size=cells.size) (h1:cells.all (·.oneCell')=true)
  (hK:∀V,Sy w V (bs.set i (b,cells,t)) os rs->K (a.put o.dst undef) V):o.wp P a W K Q:=
 wp_store_row ty x y ho b cells hx hy t old (h.at_ i hb).2 hi hold h1 (hK _ (h.setAll i cells hb))
theorem wpList_st {ops:Array Oper} {rest:List Oper} {o:Oper} {a:Act} {Q:Exit->Act->World->Prop} (hgd:o.guard=none) (h:Sy w W bs os rs) (i:Nat) {b:Nat} {old:Array Value} {t:TypeId} (hb:bs[i]? =some (b,old,t)) (ty:TypeId) (x y:Operand) (ho:o.op= .store ty x y)
  (hx:a.eval x= .pointer (some ⟨b,0,none⟩)) (cells:Array Value) (hy:a.eval y= .agg cells) (hi:(P.info? ty).map (·.size)=some cells.size)
  (hold:old.size=cells.size) (h1:cells.all (·.oneCell')=true)
  (hK:∀V,Sy w V (bs.set i (b,cells,t)) os rs->wpList P ops Q rest (a.put o.dst undef) V):wpList P ops Q (o::rest) a W:=
 wpList_plain hgd fun _ hK'=>op_st h i hb ty x y ho hx cells hy hi hold h1 (fun V hV=>hK' _ _ (hK V hV))
theorem op_bx {o:Oper} {a:Act} {K:Act->World->Prop} {Q:Exit->Act->World->Prop} (h:Sy w W bs os rs) (t:TypeId) (x:Operand) (ho:o.op= .box t x) (cells:Array Value) (hx:(a.eval x).cells=cells)
  (hK:∀b V,Sy w V (bs++ [(b,cells,t)]) os rs->K (a.put o.dst (.pointer (some ⟨b,0,none⟩))) V):Oper.wp P o a W K Q:=by
 subst hx;unfold Oper.wp execOp;simp only [ho,Sem.run_bind,Instr.box,newVar,newRow,run_newObj_alloc,Sem.run_pure,Result.andThen_ok];exact hK _ _ (h.al W.heap.size _ t rfl)
theorem wpList_bx {ops:Array Oper} {rest:List Oper} {o:Oper} {a:Act} {Q:Exit->Act->World->Prop} (hgd:o.guard=none) (h:Sy w W bs os rs) (t:TypeId) (x:Operand) (ho:o.op= .box t x) (cells:Array Value) (hx:(a.eval x).cells=cells)
  (hK:∀b V,Sy w V (bs++ [(b,cells,t)]) os rs->wpList P ops Q rest (a.put o.dst (.pointer (some ⟨b,0,none⟩))) V):wpList P ops Q (o::rest) a W:=
 wpList_plain hgd fun _ hK'=>op_bx h t x ho cells hx (fun b V hV=>hK' _ _ (hK b V hV))
theorem op_al {o:Oper} {a:Act} {K:Act->World->Prop} {Q:Exit->Act->World->Prop} (h:Sy w W bs os rs) (t:TypeId) (ho:o.op= .alloc t) (z:Value) (hz:(P.info? t).map (·.zero)=some (some z))
  (hK:∀b V,Sy w V (bs++ [(b,z.cells,t)]) os rs->K (a.put o.dst (.pointer (some ⟨b,0,none⟩))) V):Oper.wp P o a W K Q:=by
 obtain ⟨i,hi,hz2⟩:=Option.map_eq_some_iff.1 hz;unfold Oper.wp execOp;have hzr:(zeroValue t).run P W= .ok z W:=by
  simp [zeroValue,typeInfo,hi,hz2]
 simp only [ho,Sem.run_bind,Instr.alloc,hzr,newVar,newRow,run_newObj_alloc,Sem.run_pure,Result.andThen_ok];exact hK _ _ (h.al W.heap.size _ t rfl)
theorem wpList_al {ops:Array Oper} {rest:List Oper} {o:Oper} {a:Act} {Q:Exit->Act->World->Prop} (hgd:o.guard=none) (h:Sy w W bs os rs) (t:TypeId) (ho:o.op= .alloc t) (z:Value) (hz:(P.info? t).map (·.zero)=some (some z))
  (hK:∀b V,Sy w V (bs++ [(b,z.cells,t)]) os rs->wpList P ops Q rest (a.put o.dst (.pointer (some ⟨b,0,none⟩))) V):wpList P ops Q (o::rest) a W:=
 wpList_plain hgd fun _ hK'=>op_al h t ho z hz (fun b V hV=>hK' _ _ (hK b V hV))
theorem results_cell_row {fn:Func} {p:Tmp} {ty:TypeId} (h:fn.results=#[.cell p ty]) (tmps:Array Value) (w:World) (g:Nat) (t:TypeId) (cs:Array Value) (fr:Nat×Nat) (d:TypeDesc)
  (hp:tmps.getD p undef= .pointer (some ⟨g,0,none⟩)) (hg:w.heap[g]? =some (.cells cs t fr))
  (hu:P.underlying ty=some d) (hd:(match d with | .struct _ | .array _ _=>true | _=>false)=true) (hi:(P.info? ty).map (·.size)=some cs.size):
  (results fn tmps).run P w= .ok (.agg cs) w:=by
 have hp':tmps[p]?.getD undef= .pointer (some ⟨g,0,none⟩):=by simpa using hp
 simp [results,h,hp',asAddr,run_loadVar_row w g t ty cs fr d hg hu hd hi]
end
end
end Go.Proofs.YtjpojeapdgjbhaaGreatDoor
