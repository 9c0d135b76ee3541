/- part -/
import Derived.Test.YtjpojeapdgjbhaaGreatDoorJ33
import Derived.Test.YtjpojeapdgjbhaaGreatDoorJ8
import Derived.Test.YtjpojeapdgjbhaaGreatDoorJ10
set_option maxRecDepth 100000
set_option maxHeartbeats 8000000
namespace Go.Proofs.YtjpojeapdgjbhaaGreatDoor
open Go.RowKit Go.Shelf Dig
attribute [local go_sem] Oper.semAt_some
section
variable {w W:World} {bs:List (Nat×Array Value×TypeId)}
theorem Sy.put {l:Nat} {o o':Obj} (h:Sy w W bs [] []) (hb:w.heap.size<=l) (hl:W.heap[l]? =some o) (ho:o.isCells=false):Sy w (W.putObj l o') bs [] [] where
 be:=⟨h.be.os,h.be.tape,h.be.output,by simpa using h.be.size,fun k hk=>(World.putObj_heap_other (by omega)).trans (h.be.block k hk)⟩
 bx x hx:=⟨(h.bx x hx).1,(World.putObj_heap_other (fun e=>by
  have:=(h.bx x hx).2;rw [e,hl]at this;cases this;cases ho)).trans (h.bx x hx).2⟩
 ow:=by simp
 inc:=h.inc
 rd:=by simp
theorem Sy.addB (h:Sy w W bs [] []) {b:Nat} {cs:Array Value} {t:TypeId} (hb:w.heap.size<=b) (hc:W.heap[b]? =some (.cells cs t (0,0))) (hn:b∉ownOf bs []):Sy w W (bs++ [(b,cs,t)]) [] [] where
 be:=h.be
 bx x hx:=by
  rcases List.mem_append.1 hx with hx | hx
  ·exact h.bx x hx
  ·rcases List.mem_singleton.1 hx with rfl;exact⟨hb,hc⟩
 ow:=by simp
 inc:=by
  have hi:=h.inc;unfold ownOf at hi hn⊢;simp only [List.filterMap_nil,List.append_nil,List.map_append,List.map_cons,List.map_nil]at hi hn⊢;exact List.nodup_append.2 ⟨hi,by simp,fun x hx y hy e=>by rcases List.mem_singleton.1 hy with rfl;exact hn (e ▸ hx)⟩
 rd:=by simp
theorem keepsFrom_away {rs:List (World->Prop)} {V:World} (h:Sy w W bs [] rs) (hA:Away (ownOf bs []) W V) (B:Nat):KeepsFrom B W V:=⟨hA.1,fun k o _ hk ho=>(hA.2 k (Array.getElem?_eq_some_iff.1 hk).1 (fun hm=>by
 rcases mem_own.1 hm with ⟨x,hx,rfl⟩ | ⟨o,hq,_⟩
 ·have:=(h.bx x hx).2;rw [hk]at this;cases this;cases ho
 ·cases hq)).trans hk⟩
end
section
variable (w:World)
end
section
open Go.RowKit Dig
def RowR (w:World) (v:Value) (qs:List Rat):Prop:=∃a c,v= .slice a qs.length c/\∀ (k:Nat) (hk:k < qs.length),∃g s m s',a=some ⟨g,0,none⟩/\g < w.heap.size/\
 w.cell? ⟨g,k*3,none⟩=some s/\w.cell? ⟨g,k*3+1,none⟩=some (.bool m)/\w.cell? ⟨g,k*3+2,none⟩=some s'/\Rd w s m s' qs[k]
theorem RowR.mono {w w':World} {v:Value} {qs:List Rat} (h:RowR w v qs) (hb:Below w.heap.size w w'):RowR w' v qs:=by
 obtain ⟨a,c,rfl,h⟩:=h;refine⟨a,c,rfl,fun k hk=>?_⟩;obtain ⟨g,s,m,s',h1,h2,h3,h4,h5,h6⟩:=h k hk;exact⟨g,s,m,s',h1,Nat.lt_of_lt_of_le h2 hb.size,(hb.cell (p:=⟨g,_,none⟩) h2).trans h3,(hb.cell (p:=⟨g,_,none⟩) h2).trans h4,(hb.cell (p:=⟨g,_,none⟩) h2).trans h5,h6.keep (Below.keeps hb)⟩
section
variable {w:World} {a1:Option Addr} {n1 c1:Nat} {m1:Bool} {d1:Option Addr} {e1 f1:Nat} {q1:Rat} {a2:Option Addr} {n2 c2:Nat} {m2:Bool} {d2:Option Addr} {e2 f2:Nat} {q2:Rat} {k1 k2:Nat}
end
section
variable {w:World} {a1:Option Addr} {n1 c1:Nat} {m1:Bool} {d1:Option Addr} {e1 f1:Nat} {q1:Rat} {k1:Nat}
end
def rtext (q:Rat):List UInt8:=if q.den=1 then Dec.ztext q.num else Dec.ztext q.num++ [47]++Dec.ztext q.den
theorem rtext_one (a1:OA) (n1 c1:Nat) (m1:Bool) (d1:OA) (e1 f1:Nat) (q1:Rat) (w:World) (h1:Rd w (.slice a1 n1 c1) m1 (.slice d1 e1 f1) q1) (k1:Nat) (b1:Bq k1 q1) (hk1:k1<=40000) (hd:q1.den=1):
  Calls Tryz.prog 28 #[.agg #[.slice a1 n1 c1,.bool m1,.slice d1 e1 f1]] w (fun e w'=>e= .returned (.string ⟨(rtext q1).toArray⟩)/\Below w.heap.size w w'):=by
 have hn:=Sl.len h1.d;have e0:(e1=0)↔q1.den=1:=by
  rw [hn,List.length_eq_zero_iff,dg_nil_iff (b:=16777216) (by omega)];have:=q1.den_nz;omega
 have hl1:=ztext_len b1.num (by omega);have hl2:=ztext_len b1.den (by omega);have hn0:((e1:Int)==0)=true:=by simpa using e0.2 hd
 have HN:=ζ hn0;have HT:=ζ (show rtext q1=Dec.ztext q1.num from if_pos hd);clear hn0 hd e0 hn;have B1:=ζ b1;clear b1;have hC:=ζ (((St.enter w).pr h1).al (w.heap.size) #[.slice a1 n1 c1,.bool m1,.slice d1 e1 f1] 72 rfl rfl);clear h1;go_enter Tryz.func28,Tryz.ntmps28;have AF:=hC.out.c 0 2;have AG:=hC.out.f 0 2;go_wp2_with fail
 refine(none_any _ _ _ _).mono ?_;rintro e w3 ⟨rfl,hw⟩;have AA:=ζ (hC.out.call (W':=w3) (by rw [hw];exact(Below.refl _ _).alloc (Nat.le_refl _) _));clear hC hw;rw [HN.out];have AB:=AA.out.c 0 0;have AC:=AA.out.f 0 0;have AD:=AA.out.c 0 1;have AE:=AA.out.f 0 1;go_wp2_with fail
 refine(ztext_any _ _ _ _ _ _ (AA.out.r 0 rfl).z _ B1.out.num (by omega)).mono ?_;rintro e w4 ⟨rfl,hb⟩;have AH:=ζ ((AA.out.call hb));clear hb;clear AA;go_wp2;go_ret;exact⟨ret_str (by rw [HT.out]),AH.out.be⟩
structure Vd (w:World) (s:Value) (m:Bool) (s' t:Value) (p:Bool) (t':Value) (v:Rat×Rat):Prop where
 x:Rd w s m s' v.1
 y:Rd w t p t' v.2
theorem Vd.keep {w w':World} {s s' t t':Value} {m p:Bool} {v:Rat×Rat} (h:Vd w s m s' t p t' v) (hk:Keeps w w'):Vd w' s m s' t p t' v:=⟨h.x.keep hk,h.y.keep hk⟩
section
variable {w W:World} {bs:List (Nat×Array Value×TypeId)} {rs:List (World->Prop)}
theorem St.v (h:St w W bs rs) (i:Nat) {s s' t t':Value} {m p:Bool} {v:Rat×Rat} (hx:rs[i]? =some (fun V=>Vd V s m s' t p t' v)):Vd W s m s' t p t' v:=(h.rd _ (List.mem_of_getElem? hx)).2
end
section
variable {w:World} {a1:Option Addr} {n1 c1:Nat} {m1:Bool} {d1:Option Addr} {e1 f1:Nat} {q1:Rat} {a2:Option Addr} {n2 c2:Nat} {m2:Bool} {d2:Option Addr} {e2 f2:Nat} {q2:Rat} {k1 k2:Nat}
end
end
section
open Go.RowKit Go.Shelf Dig
section
variable (w:World)
end
def InZ (z:Int):Prop:= -300000<=z/\z<=300000
theorem InZ.i {z:Int} (h:InZ z):InI z:=by unfold InZ at h;unfold InI;omega
section
variable (w:World)
end
end
section
section
variable {n:Nat} {P:Program} {ops:Array Oper} {md:Region.Mode}
theorem wpIn_of_wpW {o:Oper} {a:Act} {K:Act->World->Prop} {Q:Exit->Act->World->Prop} {w:World} (_hnd:noDefer o=true) (h:o.wp P a w K Q):o.wpIn Fence.wide n P a w K Q:=by
 refine⟨fun f _=>trivial,?_⟩;rw [show Oper.semAt Fence.wide.round a.eval o=execOp a.eval o from rfl];unfold Oper.wp at h;generalize (execOp a.eval o).run P w=r at*;cases r with
 | ok x w'=>
   cases x with
   | value v=>exact h
   | skip=>exact h
   | defer d=>exact h
   | enter f args=>exact⟨fun h0=>(by cases h0),callsIn_wide.2 h⟩
   | row row args=>exact⟨fun h0=>(by cases h0),fun c cs _=>let ⟨v,w',r,s⟩:=h c cs;⟨v,w',r,stepsIn_wide.2 s⟩⟩
   | _=>exact h.elim
 | halt x w'=>
   cases x<;>exact h
theorem wpAnyIn_of_anyW {Q:Exit->Act->World->Prop} (hnd:ops.all noDefer=true) (hlo:¬ LetsOut Q):∀ (fuel:Nat) (listed:Array Bool) (a:Act) (w:World),wpAny P md ops Q fuel listed a w->wpAnyIn Fence.wide n P md ops Q fuel listed a w
 | 0,_,_,_,h=>h
 | fuel+1,listed,a,w,h=>⟨h.1,fun i hi=>by
   have h2:=h.2 i hi;unfold wpOp at h2;unfold wpOpIn
   split
   ·rename_i ho;simp only [ho]at h2;exact wpAnyIn_of_anyW hnd hlo fuel _ _ _ h2
   ·rename_i o ho;simp only [ho]at h2;have hno:noDefer o=true:=(Array.all_eq_true_iff_forall_mem.1 hnd) o (Array.mem_of_getElem? ho)
    split
    ·rename_i hw;rw [if_pos hw]at h2;rcases h2 with h2 | ⟨_,h2⟩
     ·exact Oper.wpIn_mono (fun a' w' h3=>wpAnyIn_of_anyW hnd hlo fuel _ a' w' h3) (wpIn_of_wpW hno h2)
     ·exact absurd h2 hlo
    ·rename_i hw;rw [if_neg hw]at h2;exact⟨fun _ _=>trivial,wpAnyIn_of_anyW hnd hlo fuel _ _ _ h2⟩⟩
theorem wpIn_region_wide {id:Nat} {R:Act->World->Prop} {S:World->Prop} {a:Act} {w:World} (hnd:ops.all noDefer=true) (hm:P.follows .mixedOrders=true) (hS:S w.drew)
  (h:S w.drew->wpAnyH P .any ops (fun e a' w'=>e= .normal/\R a' w') S ops.size (Array.replicate ops.size false) a w.drew):(Code.region id ops true).wpIn Fence.wide n P (fun e a' w'=>e= .normal/\R a' w') a w:=
 wpIn_region_any hm (wpAnyIn_of_anyW hnd (fun hq=>by obtain ⟨_,_,h1,_⟩:=hq;cases h1) _ _ _ _ (wpAny_of_held _ _ _ _ (h hS)))
end
end
section
open Go.RowKit Go.Shelf Dig
attribute [local go_sem] Oper.semAt_some
section
variable (w:World)
end
section
variable (w:World)
theorem hground_ok (sa:OA) (sn sc:Nat) (l:List Pt) (x:Int) (hs:Sx 2 w sa sn sc (L2 l)) (hb:profB l=true) (hx:hasB l x=true):Calls Tryz.prog 15 #[.slice sa sn sc,.int .i64 x] w (RetRE w (grd l x) 0):=by
 have hC:=ζ ((Sy.enter w).al w.heap.size zR 72 rfl);have HK:=ζ (fun W (hW:Below w.heap.size w W)=>hcheck_any W sa sn sc l (hs.below hW));have HH:=ζ (fun W (hW:Below w.heap.size w W)=>has_any W sa sn sc l x (hs.below hW) (by have:=hs.n2;have:=(prof_iff.1 hb).two;omega));rw [profErr_yes hb]at HK;have HG:=ζ (fun W (hW:Below w.heap.size w W)=>ground_any W sa sn sc l x (hs.below hW) (prof_iff.1 hb) (inB_iff.1 hx).1 (inB_iff.1 hx).2);rw [hx]at HH;clear hb hs hx;go_enter Tryz.func15,Tryz.ntmps15;go_wp2_with fail
 refine(HK.out _ hC.out.be).mono ?_;rintro e w1 ⟨rfl,hb⟩;have hD:=ζ (hC.out.call hb);clear hb hC;go_wp2_with fail
 refine(HH.out _ hD.out.be).mono ?_;rintro e w2 ⟨rfl,hb⟩;have hE:=ζ (hD.out.call hb);clear hb hD;go_wp2_with fail
 refine(HG.out _ hE.out.be).mono ?_;rintro e w3 ⟨a3,n3,c3,m3,d3,e3,f3,rfl,hz,hb⟩;have hG:=ζ ((hE.out.call hb).pR rfl rfl hz);clear hb hE hz;have AD:=hG.out.c 0 0;have AA:=hG.out.f 0 0;have AE:=hG.out.c 0 1;have AB:=hG.out.f 0 1;have AF:=hG.out.c 0 2;have AC:=hG.out.f 0 2;go_wp2;have hZ:=ζ (hG.out|>.set (j:=0) (v:= .slice a3 n3 c3) 0 rfl|>.set (j:=1) (v:= .bool m3) 0 rfl|>.set (j:=2) (v:= .slice d3 e3 f3) 0 rfl);clear hG;refine ret_sy hZ.out (v:= .tuple #[.agg #[.slice a3 n3 c3,.bool m3,.slice d3 e3 f3],.int .i64 0]) (fun hF=>?_) rfl (fun hF=>⟨_,_,_,_,_,_,_,rfl,hF.r 0 rfl,hF.be⟩);have g0_0:=hF.c 0 0;have g0_1:=hF.c 0 1;have g0_2:=hF.c 0 2;simp [results,Tryz.results15,go_sem,g0_0,g0_1,g0_2]
end
section
variable (w:World)
end
variable {l:List Pt} {a b:Int}
section
variable (w:World)
end
def bX (l:List Int) (i:Nat):Int:=l.getD i 0
theorem bX_at {l:List Int} {i:Nat} (h:i < l.length):bX l i=l[i]:=by unfold bX;rw [List.getD_eq_getElem?_getD,List.getElem?_eq_getElem h];rfl
def upI (l:List Int):Bool:=(List.range (l.length - 1)).all fun i=>decide (bX l i < bX l (i+1))
theorem upI_iff {l:List Int} :upI l=true↔∀i,i+1 < l.length->bX l i < bX l (i+1):=by
 unfold upI;simp only [List.all_eq_true,List.mem_range,decide_eq_true_eq];exact⟨fun h i hi=>h i (by omega),fun h i hi=>h i (by omega)⟩
def brkB (l:List Pt) (bs:List Int):Bool:=profB l && (inB bs.length 2 61 && (upI bs && bs.all (hasB l)))
def tdC (v:Value) (ts:List (Int×Int)):List Value:=ts.flatMap fun t=>[v,.int .i64 t.1,.int .i64 t.2]
theorem tdC_snoc (v:Value) (ts:List (Int×Int)) (t:Int×Int):tdC v (ts++ [t])=tdC v ts++ [v,.int .i64 t.1,.int .i64 t.2]:=by
 unfold tdC;rw [List.flatMap_append,List.flatMap_cons,List.flatMap_nil,List.append_nil]
theorem nbr_len:∀l:List Int,(nbr l).length=l.length - 1
 | []=>rfl
 | [_]=>rfl
 | x::y::r=>by rw [show nbr (x::y::r)=(x,y)::nbr (y::r)from rfl,List.length_cons,nbr_len (y::r)];simp
theorem nbr_snoc:∀ (l:List Int) (x y:Int),nbr (l++ [x,y])=nbr (l++ [x])++ [(x,y)]
 | [],_,_=>rfl
 | [_],_,_=>rfl
 | z::u::r,x,y=>by
   show(z,u)::nbr ((u::r)++ [x,y])=(z,u)::nbr ((u::r)++ [x])++ [(x,y)];rw [nbr_snoc (u::r) x y];rfl
theorem nbr_take {l:List Int} {k:Nat} (h:k+1 < l.length):nbr (l.take (k+1+1))=nbr (l.take (k+1))++ [(l[k],l[k+1])]:=by
 have e1:l.take (k+1+1)=l.take k++ [l[k],l[k+1]]:=by
  rw [List.take_succ_eq_append_getElem h,List.take_succ_eq_append_getElem (show k < l.length by omega),List.append_assoc];rfl
 have e2:l.take (k+1)=l.take k++ [l[k]]:=List.take_succ_eq_append_getElem (show k < l.length by omega);rw [e1,e2];exact nbr_snoc _ _ _
theorem nbr_get:∀ {l:List Int} {i:Nat} (h:i+1 < l.length),(nbr l)[i]? =some (l[i],l[i+1])
 | x::y::r,0,_=>rfl
 | x::y::r,i+1,h=>by
   show(nbr (y::r))[i]? =_;rw [nbr_get (l:=y::r) (by simpa using h)];rfl
def RetTr (ok:Bool) (w:World) (v:Value) (bs:List Int) (e:Ending) (w':World):Prop:=
 (ok=true/\∃a c,e= .returned (.tuple #[.slice a (bs.length - 1) c,.int .i64 0])/\w'.ownsRow w.heap.size 116 3 (.slice a (bs.length - 1) c) (bs.length - 1) (tdC v (nbr bs))/\Below w.heap.size w w')\/
 (ok=false/\e= .returned (.tuple #[.slice none 0 0,.int .i64 2])/\Below w.heap.size w w')
theorem und_stretches:Tryz.prog.underlying 108=some (.slice 116):=Tryz.underlying108
theorem info_stretch:(Tryz.prog.info? 116).map (fun i=>(i.zero,i.size,i.bytes))=some (some (.agg #[.slice none 0 0,.int .i64 0,.int .i64 0]),3,40):=by kernel_rfl
section
variable (w:World)
theorem treads1_any (x y:Int):Calls Tryz.prog 90 #[.int .i64 x,.int .i64 y] w (Gives (.bool (decide (x < y))) w):=by
 go_enter Tryz.func90,Tryz.ntmps90;go_wp2;go_ret;exact⟨rfl,Below.refl _ _⟩
theorem risingI_any (a:OA) (n c:Nat) (l:List Int) (hs:Sx 1 w a n c (L1 l)) (hn:n<=1000000):
  Calls Tryz.prog 89 #[.slice a n c,.func (.func 90) #[] #[]] w (Gives (.bool (upI l)) w):=by
 obtain rfl:=hs.n1;have HS:=ζ hs;have HE:=ζ (upI_iff (l:=l));clear hs;generalize upI l=r at*;go_enter Tryz.func89,Tryz.ntmps89;go_wp2;go_loopw [5] (fun iv wr=>∃k:Nat,1<=k/\(k<=l.length\/k=1)/\iv= .int .i64 k/\Hid (∀i,i+1 < k->bX l i < bX l (i+1))/\Hid (Sy w wr [] [] [])) (fun iv _=>l.length - (intOf iv).toNat)
 case atStart=>exact⟨1,by omega,.inr rfl,rfl,ζ (fun i h=>by omega),ζ (Sy.enter w)⟩
 case round=>
  obtain ⟨k,hk1,hk,rfl,HI,hC⟩:=hrel;by_cases hlt:k < l.length
  ·obtain ⟨j,rfl⟩:∃j,k=j+1:=⟨k - 1,by omega⟩
   obtain ⟨g0,o0,rfl⟩:=HS.out.addr (by omega);have hj:j < l.length:=(by omega);have HA:=ζ (fun W (hW:Below w.heap.size w W)=>(HS.out.below hW).at1 hj);have HB:=ζ (fun W (hW:Below w.heap.size w W)=>(HS.out.below hW).at1 hlt);have HX:=ζ (show bX l j=l[j]/\bX l (j+1)=l[j+1]from⟨bX_at hj,bX_at hlt⟩);have HK:=ζ (fun W=>treads1_any W l[j] l[j+1]);have HJ:=ζ hlt;generalize l[j]=p at*;generalize l[j+1]=q at*;obtain ⟨n1,hn1⟩:∃n1:Nat,n1=j+1:=⟨_,rfl⟩
   rw [<-hn1]at HB;have e0:(((j+1:Nat):Int))=(n1:Int):=(by omega);rw [e0];have i2:IntKind.i64.wrap ((n1:Int) - 1)=(j:Int):=(by rw [IntWalk.i64_in _ (by omega)];omega);have i0:(0:Int)<=(j:Int):=(by omega);have i1:(j:Int) < (l.length:Int):=(by omega);have i3:(0:Int)<=(n1:Int):=(by omega);have i4:(n1:Int) < (l.length:Int):=(by omega);have AF:=ζ hn1;clear hn1 e0 hlt hk hk1 hj;cases hp:decide (p < q)
   ·rw [hp]at HK;have HR:=ζ (show r=false by
     cases r with
     | false=>rfl
     | true=>
       have:=(HE.out.1 rfl) j HJ.out;rw [HX.out.1,HX.out.2]at this;rw [decide_eq_true this]at hp;cases hp)
    clear hp HI HE;go_upto_region 4 with fail
    refine wp_region_held_drew (S:=(fun w'=>w'.cell? ⟨g0,o0+j,none⟩=some (.int .i64 p)/\w'.cell? ⟨g0,o0+n1,none⟩=some (.int .i64 q)/\True)) (by kernel_rfl) ⟨(HA.out _ hC.out.drew.be),(HB.out _ hC.out.drew.be),trivial⟩ (fun hH=>?_);refine wpAnyH_geny (show Sy w _ [] [] []from hC.out.drew) hH ?_;intro AP hc AA;have AD:=ζ hc;clear hc hH hC;refine tkA 0 rfl AA ?_;(try simp only [zP]);refine tkA 1 rfl AA ?_;(try simp only [zP]);refine tkA 2 rfl AA ?_;(try simp only [zP]);refine tkA 3 rfl AA ?_;(try simp only [zP]);refine tkA 4 rfl AA ?_;(try simp only [zP]);refine tkA 5 rfl AA ?_;(try simp only [zP]);refine tkA 6 rfl AA ?_;(try simp only [zP]);refine tkA 7 rfl AA ?_;(try simp only [zP]);refine tkA 8 rfl AA ?_;(try simp only [zP]);refine tkA 9 rfl AA ?_;(try simp only [zP]);refine rdy1 10 rfl (fun Kq AG=>?_);go_simp;go_at_call 90;refine(HK.out _).mono ?_;rintro e wT ⟨rfl,hb⟩;(try go_wp2_with fail);refine stepZ AG (show Sy w _ [] [] []from(AD.out.call hb)) (fun _ hX=>⟨(HA.out _ hX.be),(HB.out _ hX.be),trivial⟩) ?_;intro AQ AH AI;clear AG Kq AD hb AA;(try simp only [zP]);refine tkA 11 rfl AI ?_;(try simp only [zP]);refine wpAnyH_done (by kernel_rfl) ?_ _;go_wp2;go_ret;exact⟨ret_bool HR.out.symm,AH.out.be⟩
   ·rw [hp]at HK;have AJ:=ζ (show ∀i,i+1 < (j+1)+1->bX l i < bX l (i+1)from fun i hi=>by
     rcases Nat.lt_or_ge i j with h | h
     ·exact HI.out i (by omega)
     ·obtain rfl:i=j:=by omega
      rw [HX.out.1,HX.out.2];exact of_decide_eq_true hp)
    clear hp HI;go_upto_region 4 with fail
    refine wp_region_held_drew (S:=(fun w'=>w'.cell? ⟨g0,o0+j,none⟩=some (.int .i64 p)/\w'.cell? ⟨g0,o0+n1,none⟩=some (.int .i64 q)/\True)) (by kernel_rfl) ⟨(HA.out _ hC.out.drew.be),(HB.out _ hC.out.drew.be),trivial⟩ (fun hH=>?_);refine wpAnyH_geny (show Sy w _ [] [] []from hC.out.drew) hH ?_;intro AR hc AB;have AE:=ζ hc;clear hc hH hC;refine tkA 0 rfl AB ?_;(try simp only [zP]);refine tkA 1 rfl AB ?_;(try simp only [zP]);refine tkA 2 rfl AB ?_;(try simp only [zP]);refine tkA 3 rfl AB ?_;(try simp only [zP]);refine tkA 4 rfl AB ?_;(try simp only [zP]);refine tkA 5 rfl AB ?_;(try simp only [zP]);refine tkA 6 rfl AB ?_;(try simp only [zP]);refine tkA 7 rfl AB ?_;(try simp only [zP]);refine tkA 8 rfl AB ?_;(try simp only [zP]);refine tkA 9 rfl AB ?_;(try simp only [zP]);refine rdy1 10 rfl (fun Kq AG=>?_);go_simp;go_at_call 90;refine(HK.out _).mono ?_;rintro e wT ⟨rfl,hb⟩;(try go_wp2_with fail);refine stepZ AG (show Sy w _ [] [] []from(AE.out.call hb)) (fun _ hX=>⟨(HA.out _ hX.be),(HB.out _ hX.be),trivial⟩) ?_;intro AS AK AL;clear AG Kq AE hb AB;(try simp only [zP]);refine tkA 11 rfl AL ?_;(try simp only [zP]);refine wpAnyH_done (by kernel_rfl) ?_ _;go_wp2;go_roundw
    case rel=>exact⟨(j+1)+1,by omega,.inl (by have:=HJ.out;omega),by have:=AF.out;subst this;go_num,AJ,AK⟩
    case measure=>have:=AF.out;have:=HJ.out;simp [intOf];omega
  ·have HR:=ζ (show r=true from HE.out.2 fun i hi=>HI.out i (by omega));go_wp2;go_ret;exact⟨ret_bool HR.out.symm,hC.out.be⟩
theorem treads_any (sa:OA) (sn sc:Nat) (l:List Pt) (hs:Sx 2 w sa sn sc (L2 l)) (ba:OA) (bn bc:Nat) (bs:List Int) (hb:Sx 1 w ba bn bc (L1 bs)):
  Calls Tryz.prog 36 #[.slice sa sn sc,.slice ba bn bc] w (RetTr (brkB l bs) w (.slice sa sn sc) bs):=by
 obtain rfl:=hb.n1;have hcap:=hb.cap;unfold maxLen at hcap;have HC:=ζ (fun W (hW:Below w.heap.size w W)=>hcheck_any W sa sn sc l (hs.below hW));have HU:=ζ (fun W (hW:Below w.heap.size w W) hn=>risingI_any W ba bs.length bc bs (hb.below hW) hn);have HK:=ζ (show brkB l bs=(profB l && (inB bs.length 2 61 && (upI bs && bs.all (hasB l))))from rfl);have HH:=ζ (fun(hp:profB l=true) W (hW:Below w.heap.size w W) x=>has_any W sa sn sc l x (hs.below hW) (by have:=hs.n2;have:=(prof_iff.1 hp).two;omega));have HB:=ζ hb;have AM:=ζ (show profErr l=if profB l=true then 0 else 2 from rfl);generalize profErr l=pe at*;generalize brkB l bs=ok at*;generalize profB l=pb at*;clear hs hb;have hC:=ζ (Sy.enter w);cases pb
 ·have HF:=ζ (show ok=false by rw [HK.out];rfl);have AC:=AM.out;rw [if_neg (by decide)]at AC;subst AC;clear HK HH AM HU HB;go_enter Tryz.func36,Tryz.ntmps36;go_wp2_with fail
  refine(HC.out _ hC.out.be).mono ?_;rintro e w1 ⟨rfl,h1⟩;have hD:=ζ (hC.out.call h1);clear h1 hC HC;go_wp2;go_ret2;exact .inr ⟨HF.out,rfl,hD.out.be⟩
 have AC:=AM.out;rw [if_pos rfl]at AC;subst AC;have AN:=ζ (HH.out rfl);clear HH AM;cases h1:inB bs.length 2 61
 ·have HF:=ζ (show ok=false by rw [HK.out,h1];rfl);clear HK AN HU HB;go_enter Tryz.func36,Tryz.ntmps36;go_wp2_with fail
  refine(HC.out _ hC.out.be).mono ?_;rintro e w1 ⟨rfl,h2⟩;have hD:=ζ (hC.out.call h2);clear h2 hC HC;go_wp2_with ((with_reducible refine(hwithin_any _ _ _ _).mono ?_);rintro e w2 ⟨rfl,rfl⟩)
  go_ret2;exact .inr ⟨HF.out,rfl,hD.out.be⟩
 have hln:=inB_iff.1 h1;cases h2:upI bs
 ·have HF:=ζ (show ok=false by rw [HK.out,h2];simp);rw [h2]at HU;clear HK AN HB h2;go_enter Tryz.func36,Tryz.ntmps36;go_wp2_with fail
  refine(HC.out _ hC.out.be).mono ?_;rintro e w1 ⟨rfl,h2⟩;have hD:=ζ (hC.out.call h2);clear h2 hC HC;go_wp2_with ((with_reducible refine(hwithin_any _ _ _ _).mono ?_);rintro e w2 ⟨rfl,rfl⟩)
  refine(HU.out _ hD.out.be (by omega)).mono ?_;rintro e w2 ⟨rfl,h2⟩;have hE:=ζ (hD.out.call h2);clear h2 hD HU;go_wp2;go_ret2;exact .inr ⟨HF.out,rfl,hE.out.be⟩
 have HO:=ζ (show ok=bs.all (hasB l)by rw [HK.out,h1,h2];rfl);rw [h2]at HU;clear HK h2;go_enter Tryz.func36,Tryz.ntmps36;go_wp2_with fail
 refine(HC.out _ hC.out.be).mono ?_;rintro e w1 ⟨rfl,h2⟩;have hD:=ζ (hC.out.call h2);clear h2 hC HC;go_wp2_with ((with_reducible refine(hwithin_any _ _ _ _).mono ?_);rintro e w2 ⟨rfl,rfl⟩)
 refine(HU.out _ hD.out.be (by omega)).mono ?_;rintro e w2 ⟨rfl,h2⟩;have hE:=ζ ((hD.out.call h2).onil 116 3);clear h2 hD HU h1;go_wp2;obtain ⟨g0,o0,rfl⟩:=HB.out.addr (by omega);go_loopw [25,6] (fun iv sv wr=>∃k:Nat,∃a c,k<=bs.length/\iv= .int .i64 k/\sv= .slice a (k - 1) c/\Hid (∀i (hi:i < k),hasB l (bX bs i)=true)/\Hid (Sy w wr [] [⟨.slice a (k - 1) c,116,3,k - 1,tdC (.slice sa sn sc) (nbr (bs.take k))⟩] [])) (fun iv _ _=>bs.length - (intOf iv).toNat)
 case atStart=>exact⟨0,none,0,Nat.zero_le _,rfl,rfl,ζ (fun i hi=>absurd hi (Nat.not_lt_zero _)),hE⟩
 case round=>
  clear hE;obtain ⟨k,a,c,hk,rfl,rfl,HI,hS⟩:=hrel;by_cases hkl:k < bs.length
  ·have i0:(0:Int)<=(k:Int):=(by omega);have i1:(k:Int) < (bs.length:Int):=(by omega);have c0:=(HB.out.below hS.out.be).at1 hkl;have HX:=ζ (bX_at hkl);have HQ:=ζ (AN.out _ hS.out.be bs[k]);have HG:=ζ (show bs[k]=bX bs k from(bX_at hkl).symm);cases hh:hasB l bs[k]
   ·have HF:=ζ (show ok=false by
     rw [HO.out,List.all_eq_false];exact⟨_,List.getElem_mem hkl,by rw [hh];decide⟩)
    rw [hh]at HQ;generalize bs[k]=b at*;clear hh HG HX HO HI;go_wp2_with fail
    refine HQ.out.mono ?_;rintro e w3 ⟨rfl,h3⟩;have hT:=ζ (hS.out.call h3);clear h3 hS c0;go_wp2;go_ret2;exact .inr ⟨HF.out,rfl,hT.out.be⟩
   ·have AJ:=ζ (show ∀i,i < k+1->hasB l (bX bs i)=true from fun i hi=>by
     rcases Nat.lt_or_ge i k with h | h
     ·exact HI.out i h
     ·obtain rfl:i=k:=by omega
      rw [HX.out];exact hh)
    rw [hh]at HQ;rcases Nat.eq_zero_or_pos k with hk0 | hk0
    ·subst hk0;generalize bs[0]=b at*;rw [Nat.add_zero]at c0;clear hh HG HX HI;go_wp2_with fail
     refine HQ.out.mono ?_;rintro e w3 ⟨rfl,h3⟩;have hT:=ζ (hS.out.call h3);clear h3 hS c0;go_wp2;go_roundw
     case rel=>exact⟨1,a,c,by omega,rfl,rfl,AJ,ζ (by
      have:=hT.out;have e:tdC (.slice sa sn sc) (nbr (bs.take 1))=tdC (.slice sa sn sc) (nbr (bs.take 0)):=by
       rw [List.take_zero,show bs.take 1= [bs[0]]by rw [List.take_succ_eq_append_getElem (by omega)];rfl];rfl
      rw [e];exact this)⟩
     case measure=>simp [intOf];omega
    ·obtain ⟨j,rfl⟩:∃j,k=j+1:=⟨k - 1,by omega⟩
     have HT:=ζ (show tdC (.slice sa sn sc) (nbr (bs.take (j+1+1)))=tdC (.slice sa sn sc) (nbr (bs.take (j+1)))++ [.slice sa sn sc,.int .i64 bs[j],.int .i64 bs[j+1]]by rw [nbr_take hkl,tdC_snoc]);have HA:=ζ (fun W (hW:Below w.heap.size w W)=>(HB.out.below hW).at1 (show j < bs.length by omega));generalize bs[j+1]=b at*;generalize bs[j]=b' at*;obtain ⟨n1,hn1⟩:∃n1:Nat,n1=j+1:=⟨_,rfl⟩
     rw [<-hn1]at c0 AJ HT i0 i1 hk hS;rw [<-hn1];have i2:IntKind.i64.wrap ((n1:Int) - 1)=(j:Int):=(by rw [IntWalk.i64_in _ (by omega)];omega);have i3:(0:Int)<=(j:Int):=(by omega);have i4:(j:Int) < (bs.length:Int):=(by omega);have i5:(0:Int) < (n1:Int):=(by omega);have AF:=ζ hn1;clear hh HG HX HI hkl hn1;go_wp2_with fail
     refine HQ.out.mono ?_;rintro e w3 ⟨rfl,h3⟩;have hT:=ζ (hS.out.call h3);clear h3 hS c0;have c1:=HA.out _ hT.out.be;go_wp2_with (refine wpList_append_sy (o:=⟨some 46,_,_,_,_,_⟩) rfl (hT.out.onew w3.heap.size #[.slice sa sn sc,.int .i64 b',.int .i64 b] 116 3 1 rfl (by omega) rfl) 0 1 rfl rfl _ _ _ rfl und_stretches info_stretch rfl (by omega) rfl rfl (by intro u hu;simp at hu;rcases hu with rfl | rfl | rfl<;>rfl) (by omega) (by omega) ?_;intro a3 c3 V3 AO;have hJ:=ζ AO;clear AO hT c1)
     have hK:=ζ (hJ.out.thin (bs':=[]) (List.Sublist.refl _) (List.Sublist.cons_cons _ (List.nil_sublist _)));clear hJ;go_roundw
     case rel=>exact⟨n1+1,a3,c3,by omega,by go_num,by have:=AF.out;congr 1;omega,AJ,by
      have e:n1 - 1+1=n1+1 - 1:=(by have:=AF.out;omega);rw [HT.out,<-e];exact hK⟩
     case measure=>simp [intOf];omega
  ·obtain rfl:k=bs.length:=by omega
   have HF:=ζ (show ok=true by
    rw [HO.out,List.all_eq_true];intro x hx;obtain ⟨i,hi,rfl⟩:=List.getElem_of_mem hx;rw [<-bX_at hi];exact HI.out i hi)
   have AT:=ζ (show nbr (bs.take bs.length)=nbr bs by rw [List.take_length]);go_wp2;go_ret2;refine .inl ⟨HF.out,a,c,rfl,?_,hS.out.be⟩;have:=hS.out.orow 0 rfl;rwa [AT.out]at this
end
section
variable (w:World)
end
variable {op:Int->Int->Int} {l L:List Int} {s:Int}
section
variable (w W:World)
end
theorem tdC_get {v:Value} {ts:List (Int×Int)} {k:Nat} (h:k < ts.length):(tdC v ts)[k*3]? =some v/\(tdC v ts)[k*3+1]? =some (.int .i64 ts[k].1)/\(tdC v ts)[k*3+2]? =some (.int .i64 ts[k].2):=
 ⟨flat_get (k:=3) (f:=fun t:Int×Int=>[v,.int .i64 t.1,.int .i64 t.2]) (fun _=>rfl) ts k 0 h (by omega),flat_get (k:=3) (f:=fun t:Int×Int=>[v,.int .i64 t.1,.int .i64 t.2]) (fun _=>rfl) ts k 1 h (by omega),flat_get (k:=3) (f:=fun t:Int×Int=>[v,.int .i64 t.1,.int .i64 t.2]) (fun _=>rfl) ts k 2 h (by omega)⟩
theorem brk_ok {l:List Pt} {bs:List Int} (h:brkB l bs=true):Prof l/\(2<=bs.length/\bs.length<=61)/\(∀i,i+1 < bs.length->bX bs i < bX bs (i+1))/\∀x∈bs,hasB l x=true:=by
 unfold brkB at h;rw [Bool.and_eq_true,Bool.and_eq_true,Bool.and_eq_true]at h;have:=inB_iff.1 h.2.1;exact⟨prof_iff.1 h.1,by omega,upI_iff.1 h.2.2.1,List.all_eq_true.1 h.2.2.2⟩
def wrongB (n:Nat) (zs:List Int):Bool:=decide (zs.length≠n) || zs.any (fun z=> !inB z (-200000) 200000)
section
variable (w:World)
theorem wrong1_any (z:Int):Calls Tryz.prog 91 #[.int .i64 z] w (Gives (.bool (!inB z (-200000) 200000)) w):=by
 cases h:inB z (-200000) 200000;all_goals
  go_enter Tryz.func91,Tryz.ntmps91;go_wp2_with ((with_reducible refine(hwithin_any _ _ _ _).mono ?_);rintro e w1 ⟨rfl,rfl⟩)
  go_ret;exact⟨rfl,Below.refl _ _⟩
theorem eg_wrong1:EG 91:=enters_of Tryz.func91 (by kernel_rfl) rfl
theorem wrong_any (ta:OA) (tn tc:Nat) (za:OA) (zn zc:Nat) (zs:List Int) (hz:Sx 1 w za zn zc (L1 zs)):Calls Tryz.prog 38 #[.slice ta tn tc,.slice za zn zc] w (Gives (.bool (wrongB tn zs)) w):=by
 obtain rfl:=hz.n1;have HX:=ζ (containsFunc_int za zs.length zc zs 91 #[] (fun z=> !inB z (-200000) 200000) w hz eg_wrong1 (fun W _ x _=>wrong1_any W x));have HW:=ζ (show wrongB tn zs=(decide (zs.length≠tn) || zs.any (fun z=> !inB z (-200000) 200000))from rfl);generalize zs.any (fun z=> !inB z (-200000) 200000)=q at*;clear hz;by_cases h:zs.length=tn
 ·have HR:=ζ (show wrongB tn zs=q by rw [HW.out,decide_eq_false (by omega)];rfl);have h2:(zs.length:Int)=(tn:Int):=by omega
  clear HW h;go_enter Tryz.func38,Tryz.ntmps38;go_wp2_with fail
  refine HX.out.mono ?_;rintro e w1 ⟨rfl,hb⟩;have hB:=ζ hb;clear hb;go_wp2;go_ret;exact⟨ret_bool HR.out.symm,hB.out⟩
 ·have HR:=ζ (show wrongB tn zs=true by rw [HW.out,decide_eq_true (by omega)];rfl);have h2:¬ (zs.length:Int)=(tn:Int):=by omega
  clear HW h HX;go_enter Tryz.func38,Tryz.ntmps38;go_wp2;go_ret;exact⟨ret_bool HR.out.symm,Below.refl _ _⟩
end
end
section
def putTo (l:List (Int×Int)) (b:Int):List (Int×Int):=match l.getLast? with
 | some t=>l.dropLast++ [(t.1,b)]
 | none=>l
def bayP (br:Nat->Int) (has:Nat->Bool):Nat->List (Int×Int)
 | 0=>[]
 | i+1=>if has i then(if (bayP br has i).getLast?.map (·.2)=some (br i)then putTo (bayP br has i) (br (i+1))else bayP br has i++ [(br i,br (i+1))])else bayP br has i
def opn (has:Nat->Bool):Nat->Bool
 | 0=>false
 | i+1=>has i
end
section
open Go.RowKit Go.Shelf Dig
def hasR (feet heads:List Int) (z h:Int) (k:Nat):Bool:=decide (bX feet k<=z) && decide (z+h<=bX heads k)
def baysP (bs feet heads:List Int) (z h:Int) (n:Nat):List (Int×Int):=bayP (bX bs) (hasR feet heads z h) n
def rowOf (z h:Int) (b:List (Int×Int)):List (Int×Int×List (Int×Int)):=if b.length=0 then []else [(z,z+h,b)]
def rowsUp (bs feet heads:List Int) (low h:Int) (n:Nat):Nat->List (Int×Int×List (Int×Int))
 | 0=>[]
 | i+1=>rowsUp bs feet heads low h n i++rowOf (low+i*h) h (baysP bs feet heads (low+i*h) h n)
def rowN (low top h:Int):Nat:=((top - low) / h).toNat
def rowsErr (l:List Pt) (bs feet heads:List Int) (h:Int):Int:=
 if brkB l bs=true then(if inB h 1 3000=true then(if (wrongB (bs.length - 1) feet || wrongB (bs.length - 1) heads)=true then 2 else if 200*h < maxL heads - minL feet then 5 else 0)else 3)else 2
def rowsL (bs feet heads:List Int) (h:Int):List (Int×Int×List (Int×Int)):=rowsUp bs feet heads (minL feet) h (bs.length - 1) (rowN (minL feet) (maxL heads) h)
theorem row_more {low top h:Int} (hh:1<=h) {i:Nat} :i < rowN low top h↔low+i*h+h<=top:=by
 unfold rowN;have e:(i:Int)*h+h=((i:Int)+1)*h:=by rw [Int.add_mul,Int.one_mul]
 rw [show low+i*h+h<=top↔((i:Int)+1)*h<=top - low by rw [<-e];omega,<-Int.le_ediv_iff_mul_le (by omega)];omega
theorem putTo_cells (b:List (Int×Int)) (y:Int) (h:0 < b.length):(L2 b).set ((b.length - 1)*2+1) (.int .i64 y)=L2 (putTo b y):=by
 rcases List.eq_nil_or_concat b with rfl | ⟨L,t,rfl⟩
 ·simp at h
 ·rw [List.concat_eq_append];have e:putTo (L++ [t]) y=L++ [(t.1,y)]:=by simp [putTo]
  rw [e];unfold L2;rw [List.flatMap_append,List.flatMap_append,List.length_append];have hl:(L.flatMap c2).length=L.length*2:=flat_len (f:=c2) (fun _=>rfl) L;rw [show L.length+ [t].length - 1=L.length by simp,List.set_append,if_neg (by omega),hl,show L.length*2+1 - L.length*2=1 by omega];rfl
theorem putTo_len (b:List (Int×Int)) (y:Int):(putTo b y).length=b.length:=by
 rcases List.eq_nil_or_concat b with rfl | ⟨L,t,rfl⟩
 ·rfl
 ·simp [putTo]
structure Rwx where
 low:Int
 high:Int
 ba:Option Addr
 bc:Nat
 bays:List (Int×Int)
def cR (r:Rwx):List Value:=[.int .i64 r.low,.int .i64 r.high,.slice r.ba r.bays.length r.bc]
def LRw (l:List Rwx):List Value:=l.flatMap cR
def nR (r:Rwx):Int×Int×List (Int×Int):=(r.low,r.high,r.bays)
theorem LRw_append (l r:List Rwx):LRw (l++r)=LRw l++LRw r:=List.flatMap_append
theorem wrongB_no {n:Nat} {zs:List Int} (h:wrongB n zs=false):zs.length=n/\∀z∈zs,-200000<=z/\z<=200000:=by
 unfold wrongB at h;rw [Bool.or_eq_false_iff]at h;refine⟨by have:=of_decide_eq_false h.1;omega,fun z hz=>?_⟩;have:=List.any_eq_false.1 h.2 z hz;have h2:inB z (-200000) 200000=true:=by cases e:inB z (-200000) 200000<;>simp_all
 exact inB_iff.1 h2
section
variable (w:World)
end
def RetRows (w:World) (k:Int) (rows:List (Int×Int×List (Int×Int))) (e:Ending) (w':World):Prop:=
 (k≠0/\e= .returned (.tuple #[.slice none 0 0,.int .i64 k])/\Below w.heap.size w w')\/
 (k=0/\∃ (a:OA) (c:Nat) (T:List Rwx),Hid (T.map nR=rows)/\e= .returned (.tuple #[.slice a T.length c,.int .i64 0])/\Hid (Sx 3 w' a T.length c (LRw T)/\∀t∈T,Sx 2 w' t.ba t.bays.length t.bc (L2 t.bays))/\Below w.heap.size w w')
theorem und_Rows:Tryz.prog.underlying 49=some (.slice 54):=Tryz.underlying49
theorem info_Row:(Tryz.prog.info? 54).map (fun i=>(i.zero,i.size,i.bytes))=some (some (.agg #[.int .i64 0,.int .i64 0,.slice none 0 0]),3,40):=by kernel_rfl
theorem und_Bays:Tryz.prog.underlying 52=some (.slice 57):=Tryz.underlying52
theorem info_Bay:(Tryz.prog.info? 57).map (fun i=>(i.zero,i.size,i.bytes))=some (some (.agg #[.int .i64 0,.int .i64 0]),2,16):=by kernel_rfl
theorem minL_in {l:List Int} (h:0 < l.length) {lo hi:Int} (hb:∀z∈l,lo<=z/\z<=hi):lo<=minL l/\minL l<=hi:=by
 cases l with
 | nil=>simp at h
 | cons a r=>
   show lo<=r.foldl min a/\r.foldl min a<=hi;have ha:=hb a (List.mem_cons_self ..);have hr:∀z∈r,lo<=z/\z<=hi:=fun z hz=>hb z (List.mem_cons_of_mem _ hz);clear hb h;induction r generalizing a with
   | nil=>exact ha
   | cons b r ih=>exact ih (min a b) (by have:=hr b (List.mem_cons_self ..);omega) (fun z hz=>hr z (List.mem_cons_of_mem _ hz))
theorem maxL_in {l:List Int} (h:0 < l.length) {lo hi:Int} (hb:∀z∈l,lo<=z/\z<=hi):lo<=maxL l/\maxL l<=hi:=by
 cases l with
 | nil=>simp at h
 | cons a r=>
   show lo<=r.foldl max a/\r.foldl max a<=hi;have ha:=hb a (List.mem_cons_self ..);have hr:∀z∈r,lo<=z/\z<=hi:=fun z hz=>hb z (List.mem_cons_of_mem _ hz);clear hb h;induction r generalizing a with
   | nil=>exact ha
   | cons b r ih=>exact ih (max a b) (by have:=hr b (List.mem_cons_self ..);omega) (fun z hz=>hr z (List.mem_cons_of_mem _ hz))
section
variable (w:World)
theorem mW19_0 {P_:Prop} (h:P_:=by
 go_quiet (fail)
 have AA:=ζ (hQ.out.call (below_dN (Below.refl _ _) nq));go_wp2;go_roundw
 case rel=>exact⟨j+1,a3,c3,b,by omega,by go_num,by omega,HN,ζ (AA.out.thin (bs':=[(b18,#[.int .i64 z,.int .i64 (z+h),.slice a3 b.length c3],54)]) (List.sublist_append_left [_] _) (List.Sublist.refl _))⟩
 case measure=>simp [intOf];omega):P_:=h
theorem hRows_ok (sa:OA) (sn sc:Nat) (l:List Pt) (hs:Sx 2 w sa sn sc (L2 l)) (ba:OA) (bn bc:Nat) (bs:List Int) (hb:Sx 1 w ba bn bc (L1 bs)) (fa:OA) (fn fc:Nat) (feet:List Int) (hf:Sx 1 w fa fn fc (L1 feet)) (ha:OA) (hn hc:Nat) (heads:List Int) (hh:Sx 1 w ha hn hc (L1 heads)) (h:Int) (hk:rowsErr l bs feet heads h=0):Calls Tryz.prog 12 #[.slice sa sn sc,.slice ba bn bc,.slice fa fn fc,.slice ha hn hc,.int .i64 h] w (RetRows w 0 (rowsL bs feet heads h)):=by
 have HT:=ζ (fun W (hW:Below w.heap.size w W)=>treads_any W sa sn sc l (hs.below hW) ba bn bc bs (hb.below hW));have AG:=ζ (fun W (hW:Below w.heap.size w W) ta tc=>wrong_any W ta (bs.length - 1) tc fa fn fc feet (hf.below hW));have AH:=ζ (fun W (hW:Below w.heap.size w W) ta tc=>wrong_any W ta (bs.length - 1) tc ha hn hc heads (hh.below hW));have AT:=ζ (fun W (hW:Below w.heap.size w W) h0 h1=>slmin_any W fa fn fc feet (hf.below hW) h0 h1);have AU:=ζ (fun W (hW:Below w.heap.size w W) h0 h1=>slmax_any W ha hn hc heads (hh.below hW) h0 h1);have hkk:=hk;unfold rowsErr at hkk;cases q0:brkB l bs
 ·rw [q0,if_neg (by decide)]at hkk;cases hkk
 rw [q0,if_pos rfl]at hkk;cases q1:inB h 1 3000
 ·rw [q1,if_neg (by decide)]at hkk;cases hkk
 rw [q1,if_pos rfl]at hkk;have hln:=(brk_ok q0).2.1;cases q2:wrongB (bs.length - 1) feet;rotate_left
 ·rw [q2,Bool.true_or,if_pos rfl]at hkk;cases hkk
 cases q3:wrongB (bs.length - 1) heads;rotate_left
 ·rw [q2,q3,Bool.or_true,if_pos rfl]at hkk;cases hkk
 rw [q2,q3,Bool.or_false,if_neg (by decide)]at hkk;obtain ⟨fl,fb⟩:=wrongB_no q2;obtain ⟨gl,gb⟩:=wrongB_no q3;have hle:maxL heads - minL feet<=200*h:=by
  rcases Int.lt_or_le (200*h) (maxL heads - minL feet)with h' | h'
  ·rw [if_pos h']at hkk;cases hkk
  ·exact h'
 have m1:=minL_in (l:=feet) (lo:= -200000) (hi:=200000) (by omega) fb;have m2:=maxL_in (l:=heads) (lo:= -200000) (hi:=200000) (by omega) gb;have hhb:=inB_iff.1 q1;have AV:=ζ (show ∀W,Calls Tryz.prog 37 #[.int .i64 h,.int .i64 1,.int .i64 3000] W (fun e w'=>e= .returned (.bool true)/\w'=W)from fun W=>by have:=hwithin_any W h 1 3000;rwa [q1]at this);rw [q0]at HT;rw [q2]at AG;rw [q3]at AH;have hfn:=hf.n1;have hhn:=hh.n1;have HK:=ζ (AT.out · · (by omega) (by omega));have HL:=ζ (AU.out · · (by omega) (by omega));have AW:=ζ (fun W (hW:Below w.heap.size w W)=>hf.below hW);have AX:=ζ (fun W (hW:Below w.heap.size w W)=>hh.below hW);have A8:=ζ fb;have A9:=ζ gb;have A3:=ζ (fun k (q:k < (nbr bs).length)=>tdC_get (v:= .slice sa sn sc) q);have A4:=ζ (fun i (q:i+1 < bs.length)=>nbr_get (l:=bs) q);have AY:=ζ (nbr_len bs);have AK:=ζ (show rowsUp bs feet heads (minL feet) h (bs.length - 1) (rowN (minL feet) (maxL heads) h)=rowsL bs feet heads h from rfl);obtain ⟨nn,hnn⟩:∃nn,bs.length - 1=nn:=⟨_,rfl⟩
 rw [hnn]at AG AH AY AK fl gl;have A5:=ζ hnn;have hn1:0 < nn/\nn<=60:=by omega
 have hbl:bs.length=nn+1:=by omega
 clear hs hb hf hh hk hkk q0 q1 q2 q3 fb gb AT AU hln;generalize minL feet=lo at*;generalize maxL heads=hi at*;generalize rowsL bs feet heads h=RR at*;have AI:=ζ (fun i=>row_more (low:=lo) (top:=hi) (h:=h) hhb.1 (i:=i));obtain ⟨NR,hNR⟩:∃N,rowN lo hi h=N:=⟨_,rfl⟩
 rw [hNR]at AK AI;have hNB:NR<=200:=by
  rcases Nat.lt_or_ge 200 NR with q | q
  ·have:=(AI.out 200).1 q;omega
  ·exact q
 clear hNR;have hfl2:feet.length=nn:=fl;have hgl2:heads.length=nn:=gl;obtain rfl:fn=feet.length:=hfn;obtain rfl:hn=heads.length:=hhn;obtain ⟨gf,of_,hfa⟩:=(AW.out w (Below.refl _ _)).addr (by omega);obtain ⟨gh,oh,hha⟩:=(AX.out w (Below.refl _ _)).addr (by omega);subst hfa hha;have AB:=ζ hfl2;have AC:=ζ hgl2;have AL:=ζ hbl;clear fl gl hnn hfl2 hgl2 hbl;have hC:=ζ (Sy.enter w);go_enter Tryz.func12,Tryz.ntmps12;go_wp2_with fail
 refine(HT.out _ hC.out.be).mono ?_;rintro e w1 (⟨h1,a,c,rfl,hr,hbb⟩ | ⟨h1,rfl,hbb⟩);rotate_left
 ·cases h1
 have hD:=ζ (hC.out.adopt hbb hr);rw [A5.out]at hD⊢;clear hC hbb HT hr h1;obtain ⟨g,hga,hnc⟩:=hD.out.oaddr 0 rfl hn1.1;subst hga;have v1:IntKind.i64.wrap (hi - lo)=hi - lo:=IntWalk.i64_in _ (by omega);have v2:IntKind.i64.wrap (200*h)=200*h:=IntWalk.i64_in _ (by omega);have v3:¬ hi - lo > 200*h:=by omega
 go_wp2_with ((with_reducible refine(AV.out _).mono ?_);rintro e w2 ⟨rfl,rfl⟩)
 refine(AG.out _ hD.out.be _ _).mono ?_;rintro e w3 ⟨rfl,hbb⟩;have hE:=ζ (hD.out.call hbb);clear hbb hD;go_wp2_with fail
 refine(AH.out _ hE.out.be _ _).mono ?_;rintro e w4 ⟨rfl,hbb⟩;have hG:=ζ (hE.out.call hbb);clear hbb hE;go_wp2_with fail
 refine(HK.out _ hG.out.be).mono ?_;rintro e w5 ⟨rfl,hbb⟩;have hI:=ζ (hG.out.call hbb);clear hbb hG;go_wp2_with fail
 refine(HL.out _ hI.out.be).mono ?_;rintro e w6 ⟨rfl,hbb⟩;have hJ:=ζ (hI.out.call hbb);clear hbb hI AG AH HK HL AV;have hO:=ζ ((hJ.out.onil 54 3).push (r:=(fun V=>∀t∈([]:List Rwx),V.ownsRow w.heap.size 57 2 (.slice t.ba t.bays.length t.bc) t.bays.length (L2 t.bays))) (fun V _ t ht=>by cases ht));clear hJ;go_wp2;go_loopw [17,16] (fun zv ov wr=>∃ (i:Nat) (z:Int) (a:OA) (c':Nat) (T:List Rwx),i<=NR/\zv= .int .i64 z/\ov= .slice a T.length c'/\T.length<=i/\(-200000<=z/\z<=1000000)/\Hid (z=lo+i*h)/\Hid (T.map nR=rowsUp bs feet heads lo h nn i)/\Hid (Sy w wr [] [⟨.slice (some ⟨g,0,none⟩) nn c,116,3,nn,tdC (.slice sa sn sc) (nbr bs)⟩,⟨.slice a T.length c',54,3,T.length,LRw T⟩] [(fun V=>∀t∈(T:List Rwx),V.ownsRow w.heap.size 57 2 (.slice t.ba t.bays.length t.bc) t.bays.length (L2 t.bays))])) (fun zv _ _=>(hi+1 - intOf zv).toNat)
 case atStart=>exact⟨0,lo,none,0,[],Nat.zero_le _,rfl,rfl,Nat.le_refl _,by omega,ζ (by omega),ζ rfl,hO⟩
 case round=>
  clear hO v1 v2;obtain ⟨i,z,a,c',T,hi1,rfl,rfl,Ab,hzb,HZ,AZ,hO⟩:=hrel;by_cases hlt:z+h<=hi
  ·have HI:=ζ (show i < NR from(AI.out i).2 (by have:=HZ.out;omega));have v1:IntKind.i64.wrap (z+h)=z+h:=IntWalk.i64_in _ (by omega);have hA:=ζ ((hO.out.al wr.heap.size #[.int .i64 z,.int .i64 (z+h),.slice none 0 0] 54 rfl).onil 57 2);go_upto_region 16 with fail
   obtain ⟨b18,hb18⟩:∃b,wr.heap.size=b:=⟨_,rfl⟩
   rw [hb18]at hA⊢;refine wp_geny hA.out ?_;intro V1 hc;have hP:=ζ hc;clear hc hA hO hb18;go_wp2;go_loopw [71] (fun jv wr=>∃ (j:Nat) (a3:OA) (c3:Nat) (b:List (Int×Int)),j<=nn/\jv= .int .i64 j/\b.length<=j/\Hid (bayP (bX bs) (hasR feet heads z h) j=b)/\Hid (Sy w wr [(b18,#[.int .i64 z,.int .i64 (z+h),.slice a3 b.length c3],54)] [⟨.slice (some ⟨g,0,none⟩) nn c,116,3,nn,tdC (.slice sa sn sc) (nbr bs)⟩,⟨.slice a T.length c',54,3,T.length,LRw T⟩,⟨.slice a3 b.length c3,57,2,b.length,L2 b⟩] [(fun V=>∀t∈(T:List Rwx),V.ownsRow w.heap.size 57 2 (.slice t.ba t.bays.length t.bc) t.bays.length (L2 t.bays))])) (fun jv _=>nn - (intOf jv).toNat)
   case atStart=>exact⟨0,none,0,[],Nat.zero_le _,rfl,Nat.le_refl _,ζ rfl,hP⟩
   case round=>
    clear hP;obtain ⟨j,a3,c3,b,hj,rfl,hbl3,AM,hP⟩:=hrel;by_cases hjn:j < nn
    ·have hjk:j < (nbr bs).length:=(by rw [AY.out];exact hjn);obtain ⟨t0,t1,t2⟩:=A3.out j hjk;have hng:=A4.out j (by have:=AL.out;omega);rw [List.getElem?_eq_getElem hjk]at hng;simp only [Option.some.injEq]at hng;rw [hng]at t1 t2;dsimp only at t1 t2;rw [<-bX_at (show j < bs.length by have:=AL.out;omega)]at t1;rw [<-bX_at (show j+1 < bs.length by have:=AL.out;omega)]at t2;have AD:=ζ (show bayP (bX bs) (hasR feet heads z h) (j+1)=if hasR feet heads z h j=true then(if (bayP (bX bs) (hasR feet heads z h) j).getLast?.map (·.2)=some (bX bs j)then putTo (bayP (bX bs) (hasR feet heads z h) j) (bX bs (j+1))else bayP (bX bs) (hasR feet heads z h) j++ [(bX bs j,bX bs (j+1))])else bayP (bX bs) (hasR feet heads z h) j from rfl);rw [AM.out]at AD;have AJ:=ζ (show hasR feet heads z h j=(decide (bX feet j<=z) && decide (z+h<=bX heads j))from rfl);generalize hasR feet heads z h j=hs at*;generalize bX bs j=u1 at*;generalize bX bs (j+1)=u2 at*;have AN:=ζ (fun W (hW:Below w.heap.size w W)=>(AW.out W hW).at1 (show j < feet.length by rw [AB.out];exact hjn));have AO:=ζ (fun W (hW:Below w.heap.size w W)=>(AX.out W hW).at1 (show j < heads.length by rw [AC.out];exact hjn));rw [<-bX_at (show j < feet.length by rw [AB.out];exact hjn)]at AN;rw [<-bX_at (show j < heads.length by rw [AC.out];exact hjn)]at AO;generalize bX feet j=f1 at*;generalize bX heads j=f2 at*;have c0:=hP.out.rcell 0 rfl t0;have c1':=hP.out.rcell 0 rfl t1;have c2':=hP.out.rcell 0 rfl t2;have i0:(0:Int)<=(j:Int):=(by omega);have i1:(j:Int) < (nn:Int):=(by omega);have i2:(j:Int) < (feet.length:Int):=(by rw [AB.out];exact i1);have i3:(j:Int) < (heads.length:Int):=(by rw [AC.out];exact i1);have hA:=ζ (hP.out.al wr.heap.size #[.slice sa sn sc,.int .i64 u1,.int .i64 u2] 116 rfl);clear t0 t1 t2 hng AM;go_upto_region 19 with fail
     obtain ⟨b20,hb20⟩:∃b,wr.heap.size=b:=⟨_,rfl⟩
     rw [hb20]at hA⊢;refine wp_geny hA.out ?_;intro V2 hc;have hQ:=ζ hc;clear hc hA hP c0 c1' c2' hb20;have y1:=AN.out _ hQ.out.be;have y2:=AO.out _ hQ.out.be;have z0:V2.cell? ⟨b18,0,none⟩=some (.int .i64 z):=hQ.out.c 0 0;have z1:V2.cell? ⟨b18,1,none⟩=some (.int .i64 (z+h)):=hQ.out.c 0 1;by_cases g1:z < f1
     ·have HN:=ζ (show bayP (bX bs) (hasR feet heads z h) (j+1)=b by rw [AD.out,AJ.out,decide_eq_false (show ¬ f1<=z by omega)];rfl);have d1:=decide_eq_true g1;exact mW19_0
     have d1:=decide_eq_false g1;by_cases g2:f2 < z+h
     ·have HN:=ζ (show bayP (bX bs) (hasR feet heads z h) (j+1)=b by rw [AD.out,AJ.out,decide_eq_false (show ¬ z+h<=f2 by omega),Bool.and_false];rfl);have d2:=decide_eq_true g2;exact mW19_0
     have d2:=decide_eq_false g2;have AE:=ζ (show bayP (bX bs) (hasR feet heads z h) (j+1)=if b.getLast?.map (·.2)=some u1 then putTo b u2 else b++ [(u1,u2)]by rw [AD.out,AJ.out,decide_eq_true (show f1<=z by omega),decide_eq_true (show z+h<=f2 by omega)];rfl);clear AD AJ;go_quiet (fail)
     have AA:=ζ (hQ.out.call (below_dN (Below.refl _ _) nq));clear y1 y2 z0 z1 d1 d2 hQ AN AO;go_upto_region 20 with fail
     refine wp_geny AA.out ?_;intro V3 hc;have hR:Hid (Sy w V3 [(b18,#[.int .i64 z,.int .i64 (z+h),.slice a3 b.length c3],54),(b20,#[.slice sa sn sc,.int .i64 u1,.int .i64 u2],116)] [⟨.slice (some ⟨g,0,none⟩) nn c,116,3,nn,tdC (.slice sa sn sc) (nbr bs)⟩,⟨.slice a T.length c',54,3,T.length,LRw T⟩,⟨.slice a3 b.length c3,57,2,b.length,L2 b⟩] [(fun V=>∀t∈(T:List Rwx),V.ownsRow w.heap.size 57 2 (.slice t.ba t.bays.length t.bc) t.bays.length (L2 t.bays))]):=ζ hc;clear hc AA;have z2:V3.cell? ⟨b18,2,none⟩=some (.slice a3 b.length c3):=hR.out.c 0 2;go_upto_region 21 with fail
     go_cut [108] (fun tv wx=>∃jn:Bool,tv= .bool jn/\Hid (jn=decide (b.getLast?.map (·.2)=some u1))/\Hid (Sy w wx [(b18,#[.int .i64 z,.int .i64 (z+h),.slice a3 b.length c3],54),(b20,#[.slice sa sn sc,.int .i64 u1,.int .i64 u2],116)] [⟨.slice (some ⟨g,0,none⟩) nn c,116,3,nn,tdC (.slice sa sn sc) (nbr bs)⟩,⟨.slice a T.length c',54,3,T.length,LRw T⟩,⟨.slice a3 b.length c3,57,2,b.length,L2 b⟩] [(fun V=>∀t∈(T:List Rwx),V.ownsRow w.heap.size 57 2 (.slice t.ba t.bays.length t.bc) t.bays.length (L2 t.bays))]))
     case first=>
      rcases Nat.eq_zero_or_pos b.length with hb0 | hb0
      ·have HJ:=ζ (show decide (b.getLast?.map (·.2)=some u1)=false by rw [List.eq_nil_of_length_eq_zero hb0];rfl);have d0:decide (0 < b.length)=false:=decide_eq_false (by omega);clear hb0;go_quiet (fail)
       have AA:=ζ (hR.out.call (below_dN (Below.refl _ _) nq));go_wp2;go_meet;exact⟨false,rfl,ζ HJ.out.symm,AA⟩
      ·obtain ⟨L,t,hbt⟩:∃L t,b=L++ [t]:=by
        rcases List.eq_nil_or_concat b with e | ⟨L,t,e⟩
        ·rw [e]at hb0;exact absurd hb0 (Nat.lt_irrefl 0)
        ·exact⟨L,t,e.trans (List.concat_eq_append ..)⟩
       have HJ:=ζ (show decide (b.getLast?.map (·.2)=some u1)=decide (t.2=u1)by rw [hbt];simp);have hcl:(L2 b)[(b.length - 1)*2+1]? =some (.int .i64 t.2):=by
        have h1:b.length - 1 < b.length:=(by omega);unfold L2;rw [flat_get (f:=c2) (k:=2) (fun _=>rfl) b (b.length - 1) 1 h1 (by omega)];have:b[b.length - 1]=t:=(by subst hbt;simp);rw [this];rfl
       obtain ⟨g3,hg3,-⟩:=hR.out.oaddr 2 rfl hb0;subst hg3;have x0:=hR.out.rcell 2 rfl hcl;have x1:V3.cell? ⟨b20,1,none⟩=some (.int .i64 u1):=hR.out.c 1 1;have d0:decide (0 < b.length)=true:=decide_eq_true hb0;have e1:IntKind.i64.wrap ((b.length:Int) - 1)=((b.length - 1:Nat):Int):=(by rw [IntWalk.i64_in _ (by omega)];omega);have e2:(0:Int)<=((b.length - 1:Nat):Int):=(by omega);have e3:((b.length - 1:Nat):Int) < (b.length:Int):=(by omega);clear hcl hbt;generalize t.2=t2 at*;by_cases e4:t2=u1
       ·have AP:=ζ (HJ.out.trans (decide_eq_true e4));have d4:(t2==u1)=true:=beq_iff_eq.2 e4;clear e4 HJ;go_quiet (fail)
        have AA:=ζ (hR.out.call (below_dN (Below.refl _ _) nq));go_wp2;go_meet;exact⟨true,rfl,ζ AP.out.symm,AA⟩
       ·have AP:=ζ (HJ.out.trans (decide_eq_false e4));have d4:(t2==u1)=false:=beq_eq_false_iff_ne.2 e4;clear HJ;go_quiet (fail)
        have AA:=ζ (hR.out.call (below_dN (Below.refl _ _) nq));go_wp2;go_meet;exact⟨false,rfl,ζ AP.out.symm,AA⟩
     case rest=>
      clear hR z2;obtain ⟨jn,rfl,AQ,hR⟩:=hcut;have z2:wc.cell? ⟨b18,2,none⟩=some (.slice a3 b.length c3):=hR.out.c 0 2;have x1:wc.cell? ⟨b20,1,none⟩=some (.int .i64 u1):=hR.out.c 1 1;have x2:wc.cell? ⟨b20,2,none⟩=some (.int .i64 u2):=hR.out.c 1 2;cases jn;rotate_left
      ·have hb0:0 < b.length:=by
        rcases Nat.eq_zero_or_pos b.length with e | e
        ·have:=AQ.out;rw [List.eq_nil_of_length_eq_zero e]at this;cases this
        ·exact e
       have HN:=ζ (show bayP (bX bs) (hasR feet heads z h) (j+1)=putTo b u2 by rw [AE.out,if_pos (of_decide_eq_true AQ.out.symm)]);have A0:=ζ (putTo_len b u2);have A6:=ζ (putTo_cells b u2 hb0);obtain ⟨g3,hg3,-⟩:=hR.out.oaddr 2 rfl hb0;subst hg3;have e1:IntKind.i64.wrap ((b.length:Int) - 1)=((b.length - 1:Nat):Int):=(by rw [IntWalk.i64_in _ (by omega)];omega);have e2:(0:Int)<=((b.length - 1:Nat):Int):=(by omega);have e3:((b.length - 1:Nat):Int) < (b.length:Int):=(by omega);have fq:=hR.out.rfree 2 rfl ((b.length - 1)*2+1);have A1:=ζ (hR.out.ostore 2 rfl ((b.length - 1)*2+1) (.int .i64 u2));have hT:Hid (Sy w _ [(b18,#[.int .i64 z,.int .i64 (z+h),.slice (some ⟨g3,0,none⟩) b.length c3],54),(b20,#[.slice sa sn sc,.int .i64 u1,.int .i64 u2],116)] [⟨.slice (some ⟨g,0,none⟩) nn c,116,3,nn,tdC (.slice sa sn sc) (nbr bs)⟩,⟨.slice a T.length c',54,3,T.length,LRw T⟩,⟨.slice (some ⟨g3,0,none⟩) b.length c3,57,2,b.length,L2 (putTo b u2)⟩] [(fun V=>∀t∈(T:List Rwx),V.ownsRow w.heap.size 57 2 (.slice t.ba t.bays.length t.bc) t.bays.length (L2 t.bays))]):=ζ (by rw [<-A6.out];exact A1.out);clear A1;have hx0:(L2 b)[(b.length - 1)*2+1]? ≠none:=by
        rw [List.getElem?_eq_getElem (by unfold L2;rw [flat_len (f:=c2) (k:=2) (fun _=>rfl)];omega)];exact fun h=>by cases h
       obtain ⟨xo,hxo⟩:=Option.ne_none_iff_exists'.1 hx0;have x3:=hR.out.rcell 2 rfl hxo;clear hx0 hxo;go_wp2;go_roundw
       case rel=>
        refine⟨j+1,some ⟨g3,0,none⟩,c3,putTo b u2,by omega,by go_num,by rw [A0.out];omega,HN,?_⟩;rw [A0.out];exact ζ (hT.out.thin (bs':=[(b18,#[.int .i64 z,.int .i64 (z+h),.slice (some ⟨g3,0,none⟩) b.length c3],54)]) (List.sublist_append_left [_] _) (List.Sublist.refl _))
       case measure=>simp [intOf];omega
      ·have HN:=ζ (show bayP (bX bs) (hasR feet heads z h) (j+1)=b++ [(u1,u2)]by rw [AE.out,if_neg (of_decide_eq_false AQ.out.symm)]);go_upto_region 24 with (refine wpList_append_sy (o:=⟨some 125,_,_,_,_,_⟩) rfl (hR.out.onew wc.heap.size #[.int .i64 u1,.int .i64 u2] 57 2 1 rfl (by omega) rfl) 2 3 rfl rfl _ _ _ rfl und_Bays info_Bay rfl (by omega) rfl rfl (by intro u hu;simp at hu;rcases hu with rfl | rfl<;>rfl) (by omega) (by omega) ?_;intro a4 c4 V4 AF;have hJ:=ζ AF;clear AF;have y2:=hJ.out.c 0 2;have f2:=hJ.out.f 0 2;have ly:=hJ.out.lt 0 rfl)
       have hK:=ζ ((hJ.out|>.set (j:=2) (v:= .slice a4 (b.length+1) c4) 0 rfl).thin (bs':=[(b18,#[.int .i64 z,.int .i64 (z+h),.slice a4 (b.length+1) c4],54)]) (os':=[⟨.slice (some ⟨g,0,none⟩) nn c,116,3,nn,tdC (.slice sa sn sc) (nbr bs)⟩,⟨.slice a T.length c',54,3,T.length,LRw T⟩,⟨.slice a4 (b.length+1) c4,57,2,b.length+1,L2 b++ [.int .i64 u1,.int .i64 u2]⟩]) (List.sublist_append_left [_] _) (by exact List.Sublist.cons_cons _ (List.Sublist.cons_cons _ (List.Sublist.cons_cons _ (List.nil_sublist _)))));have AR:=ζ (show L2 b++ [.int .i64 u1,.int .i64 u2]=L2 (b++ [(u1,u2)])by unfold L2;rw [List.flatMap_append];rfl);rw [AR.out]at hK;clear hJ;go_wp2;go_roundw
       case rel=>
        refine⟨j+1,a4,c4,b++ [(u1,u2)],by omega,by go_num,by rw [List.length_append,List.length_singleton];omega,HN,?_⟩;rw [List.length_append,List.length_singleton];exact hK
       case measure=>simp [intOf];omega
    ·obtain rfl:j=nn:=by omega
     have z2:wr.cell? ⟨b18,2,none⟩=some (.slice a3 b.length c3):=hP.out.c 0 2;have AS:=ζ (show rowsUp bs feet heads lo h j (i+1)=rowsUp bs feet heads lo h j i++rowOf (lo+i*h) h (baysP bs feet heads (lo+i*h) h j)from rfl);rw [<-HZ.out,show baysP bs feet heads z h j=b from AM.out,<-AZ.out]at AS;have A2:=ζ (show z+h=lo+((i+1:Nat):Int)*h by have:=HZ.out;rw [Int.natCast_add,Int.add_mul,show((1:Nat):Int)=1 from rfl,Int.one_mul];omega);by_cases hb0:b.length=0
     ·have HN:=ζ (show T.map nR=rowsUp bs feet heads lo h j (i+1)by rw [AS.out,rowOf,if_pos hb0,List.append_nil]);have d0:(b.length:Int)=0:=(by omega);have HQ:=ζ (hP.out.thin (bs':=[]) (os':=[⟨.slice (some ⟨g,0,none⟩) j c,116,3,j,tdC (.slice sa sn sc) (nbr bs)⟩,⟨.slice a T.length c',54,3,T.length,LRw T⟩]) (List.nil_sublist _) (List.sublist_append_left [_,_] _));have d1:decide (0 < b.length)=false:=decide_eq_false (by omega);clear hb0;go_wp2;go_roundw
      case rel=>exact⟨i+1,z+h,a,c',T,HI.out,rfl,rfl,by omega,by omega,A2,HN,HQ⟩
      case measure=>simp [intOf];omega
     ·have HN:=ζ (show(T++ [(⟨z,z+h,a3,c3,b⟩:Rwx)]).map nR=rowsUp bs feet heads lo h j (i+1)by rw [AS.out,rowOf,if_neg hb0,List.map_append];rfl);have d0:(0:Int) < (b.length:Int):=(by omega);have d1:decide (0 < b.length)=true:=decide_eq_true (by omega);have z0:wr.cell? ⟨b18,0,none⟩=some (.int .i64 z):=hP.out.c 0 0;have z1:wr.cell? ⟨b18,1,none⟩=some (.int .i64 (z+h)):=hP.out.c 0 1;clear hb0;go_upto_region 14 with (refine wpList_append_sy (o:=⟨some 135,_,_,_,_,_⟩) rfl (hP.out.onew wr.heap.size #[.int .i64 z,.int .i64 (z+h),.slice a3 b.length c3] 54 3 1 rfl (by omega) rfl) 1 3 rfl rfl _ _ _ rfl und_Rows info_Row rfl (by omega) rfl rfl (by intro u hu;simp at hu;rcases hu with rfl | rfl | rfl<;>rfl) (by omega) (by omega) ?_;intro a4 c4 V4 AF;have hJ:=ζ AF;clear AF)
      have hK:=ζ (hJ.out.thin (bs':=[]) (os':=[⟨.slice (some ⟨g,0,none⟩) j c,116,3,j,tdC (.slice sa sn sc) (nbr bs)⟩,⟨.slice a4 (T.length+1) c4,54,3,T.length+1,LRw T++ [.int .i64 z,.int .i64 (z+h),.slice a3 b.length c3]⟩]++ [⟨.slice a3 b.length c3,57,2,b.length,L2 b⟩]) (List.nil_sublist _) (by exact List.Sublist.cons_cons _ (List.Sublist.cons_cons _ (List.Sublist.cons_cons _ (List.nil_sublist _)))));have hM:=ζ (hK.out.retire.imp (rs':=[(fun V=>∀t∈(T++ [(⟨z,z+h,a3,c3,b⟩:Rwx)]:List Rwx),V.ownsRow w.heap.size 57 2 (.slice t.ba t.bays.length t.bc) t.bays.length (L2 t.bays))]) (fun V hv r hr=>by
       rcases List.mem_singleton.1 hr with rfl;intro t ht;rcases List.mem_append.1 ht with ht | ht
       ·exact hv _ (List.mem_cons_self ..) t ht
       ·rcases List.mem_singleton.1 ht with rfl;exact hv (fun V=>V.ownsRow w.heap.size 57 2 (.slice a3 b.length c3) b.length (L2 b)) (by simp)))
      have AR:=ζ (show LRw T++ [.int .i64 z,.int .i64 (z+h),.slice a3 b.length c3]=LRw (T++ [(⟨z,z+h,a3,c3,b⟩:Rwx)])by rw [LRw_append];rfl);rw [AR.out]at hM;clear hJ hK hP;go_wp2;go_roundw
      case rel=>
       refine⟨i+1,z+h,a4,c4,T++ [(⟨z,z+h,a3,c3,b⟩:Rwx)],HI.out,rfl,by rw [List.length_append,List.length_singleton],by rw [List.length_append,List.length_singleton];omega,by omega,A2,HN,?_⟩;rw [List.length_append,List.length_singleton];exact hM
      case measure=>simp [intOf];omega
  ·have HI:=ζ (show i=NR by
    rcases Nat.lt_or_ge i NR with q | q
    ·have:=(AI.out i).1 q;have:=HZ.out;omega
    ·omega)
   have A7:=ζ (show T.map nR=RR by rw [AZ.out,HI.out,AK.out]);have v1:IntKind.i64.wrap (z+h)=z+h:=IntWalk.i64_in _ (by omega);go_wp2;go_ret2;exact .inr ⟨rfl,a,c',T,A7,rfl,ζ ⟨Sx.owns (hO.out.orow 1 rfl),fun t ht=>Sx.owns (hO.out.r 0 rfl t ht)⟩,hO.out.be⟩
end
end
end Go.Proofs.YtjpojeapdgjbhaaGreatDoor
