/- part -/
import Derived.Test.YtjpojeapdgjbhaaGreatDoorJ32
namespace Go.Proofs.YtjpojeapdgjbhaaGreatDoor
open Lean Elab Tactic Meta
section
variable {F:Fence} {n:Nat} {P:Program} {ops:Array Oper} {md:Region.Mode} {C:World->Prop}
def noDefer (o:Oper):Bool:=match o.op with | .defer _=>false | _=>true
theorem noDefer_spec {o:Oper} (h:noDefer o=true):∀c,o.op≠ .defer c:=fun c e=>by unfold noDefer at h;rw [e]at h;cases h
end
section
section
variable {n:Nat} {P:Program} {ops:Array Oper} {md:Region.Mode}
theorem wpIn_of_wpR {l:Nat} {o:Oper} {a:Act} {K:Act->World->Prop} {Q:Exit->Act->World->Prop} {w:World} (hnd:noDefer o=true) (h:o.wp P a w K Q):o.wpIn (Fence.wide.inRound l) n P a w K Q:=by
 refine⟨fun f _=>trivial,?_⟩;rw [show Oper.semAt (Fence.wide.inRound l).round a.eval o=execOp a.eval o from Oper.semAt_some l _ o (noDefer_spec hnd)];unfold Oper.wp at h;generalize (execOp a.eval o).run P w=r at*;cases r with
 | ok x w'=>
   cases x with
   | value v=>exact h
   | skip=>exact h
   | defer d=>exact h
   | enter f args=>exact⟨fun h0=>(by cases h0),CallsIn.inRound l (callsIn_wide.2 h)⟩
   | row row args=>exact⟨fun h0=>(by cases h0),fun c cs _=>let ⟨v,w',r,s⟩:=h c cs;⟨v,w',r,stepsIn_wide.2 s⟩⟩
   | _=>exact h.elim
 | halt x w'=>
   cases x<;>exact h
theorem wpAnyIn_of_any {l:Nat} {Q:Exit->Act->World->Prop} (hnd:ops.all noDefer=true) (hlo:¬ LetsOut Q):∀ (fuel:Nat) (listed:Array Bool) (a:Act) (w:World),wpAny P md ops Q fuel listed a w->wpAnyIn (Fence.wide.inRound l) n P md ops Q fuel listed a w
 | 0,_,_,_,h=>h
 | fuel+1,listed,a,w,h=>⟨h.1,fun i hi=>by
   have h2:=h.2 i hi;unfold wpOp at h2;unfold wpOpIn
   split
   ·rename_i ho;simp only [ho]at h2;exact wpAnyIn_of_any hnd hlo fuel _ _ _ h2
   ·rename_i o ho;simp only [ho]at h2;have hno:noDefer o=true:=(Array.all_eq_true_iff_forall_mem.1 hnd) o (Array.mem_of_getElem? ho)
    split
    ·rename_i hw;rw [if_pos hw]at h2;rcases h2 with h2 | ⟨_,h2⟩
     ·exact Oper.wpIn_mono (fun a' w' h3=>wpAnyIn_of_any hnd hlo fuel _ a' w' h3) (wpIn_of_wpR hno h2)
     ·exact absurd h2 hlo
    ·rename_i hw;rw [if_neg hw]at h2;exact⟨fun _ _=>trivial,wpAnyIn_of_any hnd hlo fuel _ _ _ h2⟩⟩
theorem wpIn_region_round {l id:Nat} {R:Act->World->Prop} {S:World->Prop} {a:Act} {w:World} (hnd:ops.all noDefer=true) (hm:P.follows .mixedOrders=true) (hS:S w.drew)
  (h:S w.drew->wpAnyH P .any ops (fun e a' w'=>e= .normal/\R a' w') S ops.size (Array.replicate ops.size false) a w.drew):(Code.region id ops true).wpIn (Fence.wide.inRound l) n P (fun e a' w'=>e= .normal/\R a' w') a w:=
 wpIn_region_any hm (wpAnyIn_of_any hnd (fun hq=>by obtain ⟨_,_,h1,_⟩:=hq;cases h1) _ _ _ _ (wpAny_of_held _ _ _ _ (h hS)))
end
end
section
open Go.RowKit
section
variable {α:Type} {P:Program} {n:Nat}
def SeqAt (n:Nat) (P:Program) (gf:Nat) (lb:Array Value) (encs:α->Array Value) (E:α->World->Prop) (Kp:World->World->Prop) (S:List α->Prop) (N:Nat) (w0:World):Prop:=
 ∀ (l:Nat) (J:List α->World->Prop) (W:World),Below w0.heap.size w0 W->(∀s A B,J s A->Below A.heap.size A B->J s B)->
   (∀pre x V,J pre V->E x V->pre.length < N->YieldAt Fence.wide (n - 1) P l (encs x) V fun e V'=>e= .returned (.bool true)/\J (pre++ [x]) V'/\Kp V V')->J [] W->
   CallsIn Fence.wide n P gf (#[.func (.yield l) #[] #[]]++lb) W fun e W'=>(∃v,e= .returned v)/\∃xs,S xs/\J xs W'
theorem heap_below {A B:World} (h:Below A.heap.size A B) {k:Nat} {o:Obj} (hk:A.heap[k]? =some o):B.heap[k]? =some o:=(h.block k (Array.getElem?_eq_some_iff.1 hk).1).trans hk
theorem wpIn_rangeFunc_at {g:Operand} {ps:Array Tmp} {assign body:Code} {Q:Exit->Act->World->Prop} {a:Act} {w:World} {gf:Nat} {lb:Array Value} {encs:α->Array Value} {E:α->World->Prop} {Kp:World->World->Prop} {S:List α->Prop} {N:Nat} {w0:World}
  (hn:1<=n) (hg:a.eval g= .func (.func gf) #[] lb) (eg:∀args w,(callFunc gf args).run P w= .ok (.enter gf args) w) (hseq:SeqAt (n - 1) P gf lb encs E Kp S N w0) (hb0:Below w0.heap.size w0 w) (hps:∀x,(encs x).size=ps.size)
  (AB:∀ {A B C:World},Kp A B->Kp B C->Kp A C) (AD:∀ (W:World) (l:Nat) (o o':Obj),w.heap.size<=l->W.heap[l]? =some o->o.isCells=false->Kp W (W.putObj l o'))
  (I:List α->World->Prop) (AE:∀s A B,I s A->Below A.heap.size A B->I s B) (AC:∀s (W:World) (l:Nat) (o o':Obj),I s W->w.heap.size<=l->W.heap[l]? =some o->o.isCells=false->I s (W.putObj l o')) (h0:I [] w)
  (A:α->Act->World->Prop) (hA:∀x a' (W:World) (l:Nat) (o o':Obj),A x a' W->W.heap[l]? =some o->o.isCells=false->A x a' (W.putObj l o'))
  (hassign:∀ (l:Nat) (pre:List α) (x:α) (W:World) (K:Act->World->Prop),I pre W->E x W->(∀a' W',KeepsFrom w.heap.size W W'->Kp W W'->I pre W'->A x a' W'->K a' W')->assign.wpIn (Fence.wide.inRound l) (n - 1 - 1) P (Exit.then K (fun _ _ _=>False)) { tmps:=(ps.zip (encs x)).foldl (fun t (p,v)=>t.setIfInBounds p v) a.tmps,defers:=[] } W)
  (hbody:∀ (l:Nat) (pre:List α) (x:α) (a':Act) (W:World),I pre W->A x a' W->pre.length < N->body.wpIn (Fence.wide.inRound l) (n - 1 - 1) P (fun e _ W'=>e= .normal/\KeepsFrom w.heap.size W W'/\Kp W W'/\I (pre++ [x]) W') a' W)
  (hdone:∀ (D:Nat) (xs:List α) (W:World),w.heap.size<=D->S xs->I xs W->W.heap[D]? =some (.deferred (some []))->Q .normal { a with defers:= { target:= .collected D,args:=#[] } ::a.defers } W):
  (Code.rangeFunc g ps assign body).wpIn Fence.wide n P Q a w:=by
 refine wpIn_rangeFunc fun fn hfn=>?_;obtain ⟨rc,hrc⟩:∃rc:LoopState->Loop,rc=fun st=> { state:=st,pending:=none,fn,tmps:=a.tmps,params:=ps,assign,body,defers:=w.heap.size } :=⟨_,rfl⟩
 have hready:(rc .ready).state= .ready:=by rw [hrc]
 have hpar:(rc .ready).params=ps:=by rw [hrc]
 obtain ⟨V,hV⟩:∃V,(w.alloc (.deferred (some []))).alloc (.loop (rc .ready))=V:=⟨_,rfl⟩
 have hbV:Below w.heap.size w V:=by rw [<-hV];exact((Below.refl _ w).alloc (Nat.le_refl _) _).alloc (by simp) _
 have hrec:V.heap[w.heap.size+1]? =some (.loop (rc .ready)):=by
  have:=World.alloc_heap_new (w.alloc (.deferred (some []))) (.loop (rc .ready));rw [World.size_alloc]at this;rw [<-hV];exact this
 have hmark:V.heap[w.heap.size]? =some (.deferred (some [])):=by
  rw [<-hV];exact(Below.heap_alloc _ _ _ (by simp)).trans (World.alloc_heap_new w _)
 have hcall:=hseq (w.heap.size+1) (fun pre W=>I pre W/\W.heap[w.heap.size+1]? =some (.loop (rc .ready))/\W.heap[w.heap.size]? =some (.deferred (some []))) V (hb0.trans (hbV.mono hb0.size))
  (fun s A B hs hAB=>⟨AE s A B hs.1 hAB,heap_below hAB hs.2.1,heap_below hAB hs.2.2⟩) ?round ⟨AE _ _ _ h0 hbV,hrec,hmark⟩
 case round=>
  rintro pre x W ⟨hi,hr,hm⟩ hx hlen;have hy:=run_yield (P:=P) (args:=encs x) hr (by rw [hpar];exact hps x);rw [hrc]at hy;refine⟨fn,_,assign,body,hy,roundIn_of_wpIn hfn (hassign _ pre x W _ hi hx (fun a1 W1 hk1 hp1 hi1 AF=>?_))⟩;have hr1:=hk1.same _ _ (by omega) hr rfl;have hm1:=hk1.same _ _ (Nat.le_refl _) hm rfl;refine⟨_,run_beginRound (P:=P) hr1 hready,?_⟩;have hlt:=(Array.getElem?_eq_some_iff.1 hr1).1;have hbusy:(.loop { rc .ready with state:= .busy } :Obj)= .loop (rc .busy):=by rw [hrc]
  rw [hbusy];obtain ⟨W2,AA⟩:∃W2,W1.putObj (w.heap.size+1) (.loop (rc .busy))=W2:=⟨_,rfl⟩
  have hr2:W2.heap[w.heap.size+1]? =some (.loop (rc .busy)):=by rw [<-AA];exact World.putObj_heap_same hlt
  have hm2:W2.heap[w.heap.size]? =some (.deferred (some [])):=by rw [<-AA];exact(World.putObj_heap_other (by omega)).trans hm1
  have AG:Kp W1 W2:=by rw [<-AA];exact AD W1 _ _ _ (by omega) hr1 rfl
  have hi2:I pre W2:=by rw [<-AA];exact AC _ W1 _ _ _ hi1 (by omega) hr1 rfl
  have AH:A x a1 W2:=by rw [<-AA];exact hA x a1 W1 _ _ _ AF hr1 rfl
  rw [AA];refine wpIn_mono (hbody _ pre x a1 W2 hi2 AH hlen) ?_;rintro e a3 W3 ⟨rfl,hk3,hp3,hi3⟩;have hr3:=hk3.same _ _ (by omega) hr2 rfl;have hm3:=hk3.same _ _ (Nat.le_refl _) hm2 rfl;have hen:=run_endRound (P:=P) none hr3;have hlast:(.loop { rc .busy with state:= .ready,pending:=none } :Obj)= .loop (rc .ready):=by rw [hrc]
  have hen2:(Instr.endRound (w.heap.size+1) none).run P W3= .ok (.bool true) (W3.putObj (w.heap.size+1) (.loop (rc .ready))):=by rw [<-hlast];exact hen
  exact⟨_,_,hen2,rfl,⟨AC _ W3 _ _ _ hi3 (by omega) hr3 rfl,World.putObj_heap_same (Array.getElem?_eq_some_iff.1 hr3).1,(World.putObj_heap_other (by omega)).trans hm3⟩,AB (AB (AB hp1 AG) hp3) (AD W3 _ _ _ (by omega) hr3 rfl)⟩
 refine⟨w.heap.size+1,[{ target:= .collected w.heap.size,args:=#[] }],V, { target:= .fn (.func gf) lb,args:=#[.func (.yield (w.heap.size+1)) #[] #[]] },V,gf,#[.func (.yield (w.heap.size+1)) #[] #[]]++lb,V,?_,?_,fun _ _=>trivial,?_,fun _=>hn,?_⟩
 ·rw [<-hV,hrc];exact run_enterLoop_outer _ _ _ _ _
 ·simp only [resolve,hg];simp [go_sem]
 ·simp [invoke,go_sem,eg]
 ·refine CallsIn.mono hcall ?_;rintro e W ⟨⟨v,rfl⟩,xs,hS,hi,hr,hm⟩;have hel:=run_endLoop (P:=P) hr (by rw [hready];simp);have hpe:(rc .ready).pending=none:=by rw [hrc]
  rw [hpe]at hel;exact⟨none,_,hel,hdone _ xs _ (Nat.le_refl _) hS (AC _ W _ _ _ hi (by omega) hr rfl) ((World.putObj_heap_other (by omega)).trans hm)⟩
end
end
section
open Go.RowKit Go.Shelf Dig
attribute [local go_sem] Oper.semAt_some
def KeepsC (own:List Nat) (A B:World):Prop:=A.heap.size<=B.heap.size/\∀k o,A.heap[k]? =some o->o.isCells=true->k∉own->B.heap[k]? =some o
theorem keepsC_r (own:List Nat) (A:World):KeepsC own A A:=⟨Nat.le_refl _,fun _ _ h _ _=>h⟩
theorem keepsC_t {own:List Nat} {A B C:World} (h:KeepsC own A B) (k:KeepsC own B C):KeepsC own A C:=⟨Nat.le_trans h.1 k.1,fun i o hi ho hn=>k.2 i o (h.2 i o hi ho hn) ho hn⟩
theorem keepsC_p {own:List Nat} (W:World) (l:Nat) (o o':Obj) (hl:W.heap[l]? =some o) (ho:o.isCells=false):KeepsC own W (W.putObj l o'):=by
 refine⟨by simp,fun k p hk hp _=>(World.putObj_heap_other (fun e=>?_)).trans hk⟩;subst e;rw [hl]at hk;cases hk;rw [ho]at hp;cases hp
theorem keepsC_below {own:List Nat} {A B:World} (h:Below A.heap.size A B):KeepsC own A B:=⟨h.size,fun k _ hk _ _=>(h.block k (Array.getElem?_eq_some_iff.1 hk).1).trans hk⟩
theorem cell_heap {W:World} {b i:Nat} {u:Value} (h:W.cell? ⟨b,i,none⟩=some u):∃o,W.heap[b]? =some o/\o.isCells=true:=by
 unfold World.cell? at h;cases hb:W.heap[b]? with
 | none=>simp only [hb]at h;cases h
 | some ob=>cases ob<;>first | (simp only [hb]at h;cases h) | exact⟨_,rfl,rfl⟩
theorem KeepsC.cell {own:List Nat} {A B:World} (h:KeepsC own A B) {b i:Nat} {u:Value} (hc:A.cell? ⟨b,i,none⟩=some u) (hn:b∉own):B.cell? ⟨b,i,none⟩=some u:=by
 obtain ⟨o,h1,h2⟩:=cell_heap hc;exact(World.cell?_of_block (a:=⟨b,i,none⟩) ((h.2 b o h1 h2 hn).trans h1.symm)).trans hc
theorem Sx.keepsC {own:List Nat} {size n c:Nat} {a:Option Addr} {xs:List Value} {W V:World} (hs:Sx size W a n c xs) (h:KeepsC own W V) (hn:∀g o,a=some ⟨g,o,none⟩->g∉own):Sx size V a n c xs:=by
 refine⟨hs.1,hs.2.1,hs.2.2.1,fun h0=>?_⟩;obtain ⟨g,o,e,hg,hc⟩:=hs.2.2.2 h0;exact⟨g,o,e,Nat.lt_of_lt_of_le hg h.1,fun k u hk'=>h.cell (hc k u hk') (hn g o e)⟩
theorem Rd.putObj {W:World} {s s':Value} {m:Bool} {q:Rat} (h:Rd W s m s' q) (l:Nat) (o o':Obj) (hl:W.heap[l]? =some o) (ho:o.isCells=false):Rd (W.putObj l o') s m s' q:=
 h.keep64 ⟨by simp,fun k p hk hp=>(World.putObj_heap_other (fun e=>by
   subst e;rw [hl]at hk;cases hk;cases o<;>first | (simp [row64O]at hp;done) | cases ho)).trans hk⟩
structure Pcv where
 t:Int×Int
 a1:Option Addr
 n1:Nat
 c1:Nat
 m1:Bool
 d1:Option Addr
 e1:Nat
 f1:Nat
 a2:Option Addr
 n2:Nat
 c2:Nat
 m2:Bool
 d2:Option Addr
 e2:Nat
 f2:Nat
structure EP (l:List Pt) (a b:Int) (x:Pcv) (W:World):Prop where
 left:Rd W (.slice x.a1 x.n1 x.c1) x.m1 (.slice x.d1 x.e1 x.f1) (grd l x.t.1)
 last:Rd W (.slice x.a2 x.n2 x.c2) x.m2 (.slice x.d2 x.e2 x.f2) (grd l x.t.2)
 ge:a<=x.t.1
 lt:x.t.1 < x.t.2
 le:x.t.2<=b
theorem EP.below {l:List Pt} {a b:Int} {x:Pcv} {W V:World} (h:EP l a b x W) (hb:Below W.heap.size W V):EP l a b x V:=⟨h.left.keep (Below.keeps hb),h.last.keep (Below.keeps hb),h.ge,h.lt,h.le⟩
theorem EP.putObj {l:List Pt} {a b:Int} {x:Pcv} {W:World} (h:EP l a b x W) (k:Nat) (o o':Obj) (hl:W.heap[k]? =some o) (ho:o.isCells=false):EP l a b x (W.putObj k o'):=⟨h.left.putObj k o o' hl ho,h.last.putObj k o o' hl ho,h.ge,h.lt,h.le⟩
structure SRd (W:World) (bS:Nat) (sa:Option Addr) (sn sc:Nat) (l:List Pt) (a b:Int):Prop where
 s0:W.cell? ⟨bS,0,none⟩=some (.slice sa sn sc)
 s1:W.cell? ⟨bS,1,none⟩=some (.int .i64 a)
 s2:W.cell? ⟨bS,2,none⟩=some (.int .i64 b)
 row:Sx 2 W sa sn sc (L2 l)
theorem SRd.keepsC {own:List Nat} {W V:World} {bS:Nat} {sa:Option Addr} {sn sc:Nat} {l:List Pt} {a b:Int} (h:SRd W bS sa sn sc l a b) (hk:KeepsC own W V) (hb:bS∉own) (hr:∀g o,sa=some ⟨g,o,none⟩->g∉own):SRd V bS sa sn sc l a b:=
 ⟨hk.cell h.s0 hb,hk.cell h.s1 hb,hk.cell h.s2 hb,h.row.keepsC hk hr⟩
theorem SRd.below {W V:World} {bS:Nat} {sa:Option Addr} {sn sc:Nat} {l:List Pt} {a b:Int} (h:SRd W bS sa sn sc l a b) (hb:Below W.heap.size W V):SRd V bS sa sn sc l a b:=h.keepsC (own:=[]) (keepsC_below hb) (by simp) (fun _ _ _=>by simp)
section
end
end
end Go.Proofs.YtjpojeapdgjbhaaGreatDoor
